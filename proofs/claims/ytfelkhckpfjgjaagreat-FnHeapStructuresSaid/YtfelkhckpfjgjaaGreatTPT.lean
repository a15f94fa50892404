/- The reference's EqualFormula of a formula and itself; draws for the laws on heaps' structures. No condition. -/
import Derived.Test.YtfelkhckpfjgjaaGreatTFM
import Derived.Test.YtfelkhckpfjgjaaGreatTEQ
import Derived.Test.YtfelkhckpfjgjaaGreatTGC
set_option linter.unusedSimpArgs false
set_option linter.unusedVariables false
namespace Go.Vm
open Go.Proofs
def code_spec_EqualFormula : F := ⟨60, [.tmp 4],
 .seq (.reg [⟨some 2, .box (.t 0), none⟩,
    ⟨some 3, .box (.t 1), none⟩,
    ⟨some 4, .mov (.k (.bool false)), none⟩])
 (.seq (.seq (.reg [⟨some 6, .faddr 0 (.t 2), none⟩,
      ⟨some 7, .load 1 false (.t 6), none⟩,
      ⟨some 8, .faddr 0 (.t 3), none⟩,
      ⟨some 9, .load 1 false (.t 8), none⟩,
      ⟨some 10, .bin .neq (.t 7) (.t 9), none⟩,
      ⟨some 11, .mov (.t 10), none⟩,
      ⟨some 12, .faddr 1 (.t 2), some (11, false)⟩,
      ⟨some 13, .load 1 false (.t 12), some (11, false)⟩,
      ⟨some 14, .faddr 1 (.t 3), some (11, false)⟩,
      ⟨some 15, .load 1 false (.t 14), some (11, false)⟩,
      ⟨some 16, .bin .neq (.t 13) (.t 15), some (11, false)⟩,
      ⟨some 17, .pick (.t 11) (.k (.bool true)) (.t 16), none⟩,
      ⟨some 18, .mov (.t 17), none⟩,
      ⟨some 19, .faddr 2 (.t 2), some (18, false)⟩,
      ⟨some 20, .load 1 false (.t 19), some (18, false)⟩,
      ⟨some 21, .faddr 2 (.t 3), some (18, false)⟩,
      ⟨some 22, .load 1 false (.t 21), some (18, false)⟩,
      ⟨some 23, .bin .neq (.t 20) (.t 22), some (18, false)⟩,
      ⟨some 24, .pick (.t 18) (.k (.bool true)) (.t 23), none⟩,
      ⟨some 25, .mov (.t 24), none⟩,
      ⟨some 26, .faddr 3 (.t 2), some (25, false)⟩,
      ⟨some 27, .load 1 false (.t 26), some (25, false)⟩,
      ⟨some 28, .faddr 3 (.t 3), some (25, false)⟩,
      ⟨some 29, .load 1 false (.t 28), some (25, false)⟩,
      ⟨some 30, .bin .neq (.t 27) (.t 29), some (25, false)⟩,
      ⟨some 31, .pick (.t 25) (.k (.bool true)) (.t 30), none⟩,
      ⟨some 32, .mov (.t 31), none⟩,
      ⟨some 33, .faddr 4 (.t 2), some (32, false)⟩,
      ⟨some 34, .load 1 false (.t 33), some (32, false)⟩,
      ⟨some 35, .len (.t 34), some (32, false)⟩,
      ⟨some 36, .faddr 4 (.t 3), some (32, false)⟩,
      ⟨some 37, .load 1 false (.t 36), some (32, false)⟩,
      ⟨some 38, .len (.t 37), some (32, false)⟩,
      ⟨some 39, .bin .neq (.t 35) (.t 38), some (32, false)⟩,
      ⟨some 40, .pick (.t 32) (.k (.bool true)) (.t 39), none⟩])
   (.cond (.t 40)
    (.seq (.reg [⟨some 4, .mov (.k (.bool false)), none⟩])
     (.ret))
    (.skip)))
  (.seq (.seq (.reg [⟨some 5, .mov (.k (.int .i64 0)), none⟩])
    (.block 0 (.loop (.seq (.seq (.reg [⟨some 41, .mov (.t 5), none⟩,
           ⟨some 42, .faddr 4 (.t 2), none⟩,
           ⟨some 43, .load 1 false (.t 42), none⟩,
           ⟨some 44, .len (.t 43), none⟩,
           ⟨some 45, .bin .lss (.t 41) (.t 44), none⟩])
        (.cond (.t 45)
         (.skip)
         (.exit 0)))
       (.seq (.block 1 (.seq (.dreg [false, false, false, false, false, false, false, false, false, false, true, true] [false, false, false, false, false, false, false, false, false, false, true, false] [⟨some 48, .faddr 4 (.t 2), none⟩,
             ⟨some 49, .load 1 false (.t 48), none⟩,
             ⟨some 50, .mov (.t 5), none⟩,
             ⟨some 51, .iaddr 5 (.t 49) (.t 50), none⟩,
             ⟨some 52, .load 5 true (.t 51), none⟩,
             ⟨some 53, .faddr 4 (.t 3), none⟩,
             ⟨some 54, .load 1 false (.t 53), none⟩,
             ⟨some 55, .mov (.t 5), none⟩,
             ⟨some 56, .iaddr 5 (.t 54) (.t 55), none⟩,
             ⟨some 57, .load 5 true (.t 56), none⟩,
             ⟨some 58, .call 15 [(.t 52), (.t 57)], none⟩,
             ⟨some 59, .not (.t 58), none⟩])
          (.cond (.t 59)
           (.seq (.reg [⟨some 4, .mov (.k (.bool false)), none⟩])
            (.ret))
           (.skip))))
        (.reg [⟨some 46, .mov (.t 5), none⟩,
           ⟨some 47, .bin .add (.t 46) (.k (.int .i64 1)), none⟩,
           ⟨some 5, .mov (.t 47), none⟩]))))))
   (.seq (.reg [⟨some 4, .mov (.k (.bool true)), none⟩])
    (.ret))))⟩
theorem fok_spec_EqualFormula : FOk Tryz.prog 15 code_spec_EqualFormula := fok Tryz.func15 (by kernel_rfl)
@[simp] def ct_eqSame (n : Nat) : Ct := ⟨15, Fm, fun x => x.size ≤ n ∧ x.size ≤ 1048576, fun x => [encFm x, encFm x], fun _ => .bool true⟩
set_option maxHeartbeats 4000000 in
set_option maxRecDepth 100000 in
theorem ok_eqSame : ∀ n, (ct_eqSame n).Ok Tryz.prog
  | 0 => by
    rintro ⟨k, a, u, v, l⟩ ⟨h, -⟩
    have h : Fm.size (.mk k a u v l) ≤ 0 := h
    simp only [Fm.size] at h
    omega
  | n + 1 => by
    rintro ⟨k, a, u, v, l⟩ ⟨h, h2⟩
    have h : Fm.size (.mk k a u v l) ≤ n + 1 := h
    have h2 : Fm.size (.mk k a u v l) ≤ 1048576 := h2
    simp only [Fm.size] at h h2
    have hT : TabOk Tryz.prog _ := tab_cons (ok_eqSame n) tab_nil
    have hll := sizes_len l
    refine Ok.of_cw fok_spec_EqualFormula ?_
    simp only [code_spec_EqualFormula, frame, List.length_cons, List.length_nil, List.replicate, Nat.reduceSub, Nat.reduceAdd, List.cons_append, List.nil_append]
    refine cw_seq (go_ok hT ?_); simp [List.replicate]
    refine cw_seq (go_ok hT ?_); simp [List.replicate]
    refine cw_seq (cw_seq (go_ok tab_nil ?_)); simp
    refine cw_block (cw_round (fun (i : Nat) => ⟨slots 60 [(2, .pbox 0 0), (3, .pbox 1 0), (5, .int .i64 i)], [.cells [.int .i64 k, .int .i64 a, .int .i64 u, .int .i64 v, encL 5 encFm l], .cells [.int .i64 k, .int .i64 a, .int .i64 u, .int .i64 v, encL 5 encFm l]]⟩)
      (fun i => i ≤ l.length) (fun i => l.length - i) 0 (by simp) ?_ ?_)
    · exact weak_less (by simp) (by simp [List.replicate])
    rintro N hN i hi
    change i ≤ l.length at hi
    have hw : IntKind.i64.wrap ((i : Int) + 1) = ((i + 1 : Nat) : Int) := by rw [wrap_i64] <;> omega
    by_cases q : i < l.length
    · have q2 : ¬ l.length ≤ i := by omega
      have hm := size_mem (xs := l) q
      have h3 : l[i].size ≤ n := by omega
      have h4 : l[i].size ≤ 1048576 := by omega
      refine go_ok hT ?_
      simp [List.replicate, q, q2, h3, h4, hw]
      exact hN i (i + 1) _ (by show i + 1 ≤ l.length; omega) (by omega) (weak_less (by simp) (by simp [List.replicate]))
    · have e : i = l.length := by omega
      subst e
      refine go_ok tab_nil ?_
      simp [List.replicate]
      refine go_ok tab_nil ?_
      simp [List.replicate]
def code_spec_EqualHeap : F := ⟨17, [.tmp 4],
 .seq (.reg [⟨some 2, .box (.t 0), none⟩,
    ⟨some 3, .box (.t 1), none⟩,
    ⟨some 4, .mov (.k (.bool false)), none⟩])
 (.seq (.reg [⟨some 5, .faddr 0 (.t 2), none⟩,
     ⟨some 6, .load 1 false (.t 5), none⟩,
     ⟨some 7, .faddr 0 (.t 3), none⟩,
     ⟨some 8, .load 1 false (.t 7), none⟩,
     ⟨some 9, .call 56 [(.t 6), (.t 8)], none⟩,
     ⟨some 10, .mov (.t 9), none⟩,
     ⟨some 11, .faddr 1 (.t 2), some (10, true)⟩,
     ⟨some 12, .load 1 false (.t 11), some (10, true)⟩,
     ⟨some 13, .faddr 1 (.t 3), some (10, true)⟩,
     ⟨some 14, .load 1 false (.t 13), some (10, true)⟩,
     ⟨some 15, .call 56 [(.t 12), (.t 14)], some (10, true)⟩,
     ⟨some 16, .pick (.t 10) (.t 15) (.k (.bool false)), none⟩,
     ⟨some 4, .mov (.t 16), none⟩])
  (.ret))⟩
theorem fok_spec_EqualHeap : FOk Tryz.prog 14 code_spec_EqualHeap := fok Tryz.func14 (by kernel_rfl)
@[simp] def ct_sEqualHeapJ : Ct := ⟨14, Heap × Heap, fun _ => True, fun x => [encHeap x.1, encHeap x.2], fun x => .bool (decide (x.1 = x.2))⟩
theorem heap_eq_iffJ {a b : Heap} : a = b ↔ a.vars = b.vars ∧ a.next = b.next := by
  obtain ⟨a1, a2⟩ := a
  obtain ⟨b1, b2⟩ := b
  simp
theorem ok_sEqualHeapJ : ct_sEqualHeapJ.Ok Tryz.prog := by
  rintro ⟨a, b⟩ -
  refine Ok.of_cw fok_spec_EqualHeap (go_ok (tab_cons ok_l7Same tab_nil) ?_)
  by_cases h1 : a.vars = b.vars
  · by_cases h2 : a.next = b.next
    · simp [code_spec_EqualHeap, List.replicate, h1, h2, encHeap_eq, heap_eq_iffJ]
    · simp [code_spec_EqualHeap, List.replicate, h1, h2, encHeap_eq, heap_eq_iffJ]
  · simp [code_spec_EqualHeap, List.replicate, h1, encHeap_eq, heap_eq_iffJ]
def code_spec_DrawStructureOf : F := ⟨5, [.cell 2 true 2],
 .seq (.reg [⟨some 2, .alloc [(.sl .nil 0 []), (.sl .nil 0 [])], none⟩])
 (.seq (.reg [⟨some 3, .mov (.t 0), none⟩,
     ⟨some 4, .call 33 [(.t 3)], none⟩,
     ⟨none, .store 2 (.t 2) (.t 4), none⟩])
  (.ret))⟩
theorem fok_spec_DrawStructureOf : FOk Tryz.prog 6 code_spec_DrawStructureOf := fok Tryz.func6 (by kernel_rfl)
@[simp] def ct_DrawStructureOf : Ct := ⟨6, List UInt8, fun bs => bs.length ≤ 1048576, fun bs => [encL 1 encU bs], fun bs => encHeap (drawCan bs).2⟩
theorem ok_DrawStructureOf : ct_DrawStructureOf.Ok Tryz.prog := by
  intro bs hbs
  change List UInt8 at bs
  change bs.length ≤ 1048576 at hbs
  refine Ok.of_cw fok_spec_DrawStructureOf (go_ok (tab_cons ok_DrawCanonHeap tab_nil) ?_)
  simp [code_spec_DrawStructureOf, List.replicate, hbs]
  rfl
def code_spec_DrawReachFormula : F := ⟨6, [.tmp 2],
 .seq (.reg [⟨some 2, .mov (.k (.int .i64 0)), none⟩])
 (.seq (.reg [⟨some 3, .mov (.t 0), none⟩,
     ⟨some 4, .call 40 [(.t 3)], none⟩,
     ⟨some 5, .call 55 [(.t 4), (.k (.int .i64 4))], none⟩,
     ⟨some 2, .mov (.t 5), none⟩])
  (.ret))⟩
theorem fok_spec_DrawReachFormula : FOk Tryz.prog 11 code_spec_DrawReachFormula := fok Tryz.func11 (by kernel_rfl)
@[simp] def ct_DrawReachFormula : Ct := ⟨11, List UInt8, fun bs => bs.length ≤ 1048576, fun bs => [encL 1 encU bs], fun bs => .int .i64 ((cur0 bs).below 4)⟩
theorem ok_DrawReachFormula : ct_DrawReachFormula.Ok Tryz.prog := by
  intro bs hbs
  change List UInt8 at bs
  change bs.length ≤ 1048576 at hbs
  have hT : TabOk Tryz.prog _ := tab_h ok_l1New (tab_h ok_below tab_nil)
  refine Ok.of_cw fok_spec_DrawReachFormula (go_ok hT ?_)
  simp [code_spec_DrawReachFormula, List.replicate, hbs, cells_inj]
  exact hbs
def code_spec_DrawHeapOf : F := ⟨14, [.tmp 2, .cell 2 true 3],
 .seq (.reg [⟨some 2, .mov (.k (.int .i64 0)), none⟩,
    ⟨some 3, .alloc [(.sl .nil 0 []), (.sl .nil 0 [])], none⟩])
 (.seq (.reg [⟨some 5, .mov (.t 0), none⟩,
     ⟨some 6, .call 40 [(.t 5)], none⟩,
     ⟨some 4, .mov (.t 6), none⟩])
  (.seq (.seq (.reg [⟨some 7, .mov (.t 4), none⟩,
       ⟨some 8, .call 41 [(.t 7), (.k (.int .i64 2))], none⟩])
    (.cond (.t 8)
     (.seq (.reg [⟨some 9, .mov (.t 4), none⟩,
         ⟨some 10, .call 42 [(.t 9), (.k (.int .i64 3))], none⟩,
         ⟨some 11, .call 13 [(.t 10)], none⟩,
         ⟨some 2, .mov (.k (.int .i64 3)), none⟩,
         ⟨none, .store 2 (.t 3) (.t 11), none⟩])
      (.ret))
     (.skip)))
   (.seq (.reg [⟨some 12, .mov (.t 4), none⟩,
       ⟨some 13, .call 43 [(.t 12)], none⟩,
       ⟨some 2, .mov (.k (.int .i64 3)), none⟩,
       ⟨none, .store 2 (.t 3) (.t 13), none⟩])
    (.ret))))⟩
theorem fok_spec_DrawHeapOf : FOk Tryz.prog 8 code_spec_DrawHeapOf := fok Tryz.func8 (by kernel_rfl)
def drawHO (bs : List UInt8) : Strc := if (cur0 bs).below 2 = 0 then strcOf (drawH (cur0 bs).step 3) else (bent12 (cur0 bs).step).2
@[simp] def ct_DrawHeapOf : Ct := ⟨8, List UInt8, fun bs => bs.length ≤ 1048576, fun bs => [encL 1 encU bs], fun bs => .tup [.int .i64 3, encStrc (drawHO bs)]⟩
set_option maxHeartbeats 4000000 in
theorem ok_DrawHeapOf : ct_DrawHeapOf.Ok Tryz.prog := by
  intro bs hbs
  change List UInt8 at bs
  change bs.length ≤ 1048576 at hbs
  have hb1 : (cur0 bs).step.buf.length ≤ 1048576 := hbs
  have hb0 : (cur0 bs).buf.length ≤ 1048576 := hbs
  have hE : drawHO bs = if (cur0 bs).below 2 = 0 then strcOf (drawH (cur0 bs).step 3) else (bent12 (cur0 bs).step).2 := rfl
  obtain ⟨hl1, hl2⟩ := drawH_len (cur0 bs).step 3
  have hsz : szHeap (drawH (cur0 bs).step 3) ≤ 1048576 := by change (drawH _ 3).vars.length + (drawH _ 3).next.length ≤ _; omega
  obtain ⟨va, vn, wa, wn, L, g4, ok⟩ := made_bent (H := [.nrow, .nrow, .cells [.slref 0 0 0 0, .slref 1 0 0 0], (cur0 bs).step.cells]) (p := 3) (c := (cur0 bs).step) hb1 rfl
  have okB : CtH.Ok Tryz.prog ⟨43, Unit, fun _ H => H = [.nrow, .nrow, .cells [.slref 0 0 0 0, .slref 1 0 0 0], (cur0 bs).step.cells], fun _ => [.pbox 3 0], fun _ _ => .agg [.slref va 0 vn vn, .slref wa 0 wn wn], fun _ _ => .nrow :: .nrow :: .cells [.slref 0 0 0 0, .slref 1 0 0 0] :: (bent12 (cur0 bs).step).1.cells :: L⟩ := by
    intro x H' hH
    have hH : H' = _ := hH
    rw [hH]; exact ok
  have hT : TabOk Tryz.prog _ := tab_h ok_l1New (tab_h ok_once (tab_h ok_l7Draw (tab_h okB (tab_cons ok_sStructureOf tab_nil))))
  simp only [ct_DrawHeapOf, hE]
  refine Ok.of_cw fok_spec_DrawHeapOf ?_
  simp only [code_spec_DrawHeapOf, frame, List.length_cons, List.length_nil, List.replicate, Nat.reduceSub, Nat.reduceAdd, List.cons_append, List.nil_append]
  refine cw_seq (go_ok hT ?_); simp [List.replicate]
  refine cw_seq (go_ok hT ?_); simp [List.replicate, hbs]
  by_cases g : (cur0 bs).below 2 = 0
  · simp only [g, if_true]
    refine cw_seq (cw_seq (go_ok hT ?_)); simp [List.replicate, cells_inj, hb0, g]
    refine go_ok hT ?_; simp [List.replicate, cells_inj, hb1, Blk.freeze, Blk.frozen]
    exact ⟨(cur0 bs).step, 3, rfl, by omega, hb1, rfl, hsz, rfl⟩
  · simp only [g, if_false]
    refine cw_seq (cw_seq (go_ok hT ?_)); simp [List.replicate, cells_inj, hb0, g]
    refine go_ok hT ?_; simp [List.replicate]
    refine cw_seq (go_ok hT ?_); simp [List.replicate]
    obtain ⟨l1, l2⟩ := g4 (.nrow :: .nrow :: .cells [.slref va 0 vn vn, .slref wa 0 wn wn] :: (bent12 (cur0 bs).step).1.cells :: L) (fun j h1 h2 => by
      obtain ⟨k, rfl⟩ : ∃ k, j = k + 4 := ⟨j - 4, by simp at h1; omega⟩
      rfl)
    refine go_ok tab_nil ?_
    simp [List.replicate, l1, l2]
    rfl
end Go.Vm

namespace Go.Vm
open Go.Proofs
/-- Reached by one or more steps. -/
inductive Rch (e : Nat → Nat → Prop) (i : Nat) : Nat → Prop where
  | one {y : Nat} (h : e i y) : Rch e i y
  | more {x y : Nat} (h : Rch e i x) (g : e x y) : Rch e i y
/-- An edge of at least a value. -/
def edgeG (s : Strc) (v : Int) (x y : Nat) : Prop := x < s.nodes.length ∧ y < s.nodes.length ∧ v ≤ nextOf s x y
theorem rch_lt {s : Strc} {v : Int} {i j : Nat} (h : Rch (edgeG s v) i j) : j < s.nodes.length := by
  cases h with
  | one h => exact h.2.1
  | more _ g => exact g.2.1
noncomputable def rchB (s : Strc) (v : Int) (i j : Nat) : Bool := @decide (Rch (edgeG s v) i j) (Classical.propDecidable _)
theorem rchB_iff {s : Strc} {v : Int} {i j : Nat} : (rchB s v i j = true) = Rch (edgeG s v) i j := by unfold rchB; exact propext (@decide_eq_true_iff _ (Classical.propDecidable _))
theorem rchB_not {s : Strc} {v : Int} {i j : Nat} : (rchB s v i j = false) = ¬ Rch (edgeG s v) i j := by unfold rchB; exact propext (@decide_eq_false_iff_not _ (Classical.propDecidable _))
/-- The value of the paths from a node to another one. -/
noncomputable def pathT (s : Strc) (i j : Int) : Int :=
  if inN s i ∧ inN s j then
    if rchB s 2 i.toNat j.toNat = true then 2
    else if i = j ∧ sameT s i = 2 then 2
    else if rchB s 1 i.toNat j.toNat = true then 1
    else if i = j then 1 else 0
  else 1
/-! ### The reference's rounds -/
def mx (a b : Int) : Int := if a ≤ b then b else a
def mn (a b : Int) : Int := if a ≤ b then a else b
/-- One step of a round. -/
def upd1 (s : Strc) (a b : Nat) (best : List Int) : List Int := best.set b (mx (best.getD b 0) (mn (best.getD a 0) (nextOf s a b)))
def updB (s : Strc) (a : Nat) : Nat → List Int → List Int
  | 0, best => best
  | b + 1, best => upd1 s a b (updB s a b best)
def updA (s : Strc) : Nat → List Int → List Int
  | 0, best => best
  | a + 1, best => updB s a s.nodes.length (updA s a best)
def rounds (s : Strc) : Nat → List Int → List Int
  | 0, best => best
  | r + 1, best => updA s s.nodes.length (rounds s r best)
def best0 (s : Strc) (i : Nat) (n : Nat) : List Int := (List.range n).map fun b => nextOf s i (b : Nat)
def rowT0 (s : Strc) (i : Nat) : List Int := rounds s s.nodes.length (best0 s i s.nodes.length)
def rowP (s : Strc) (i : Nat) : List Int := (rowT0 s i).set i (mx ((rowT0 s i).getD i 0) (sameT s i))
@[simp] theorem upd1_len (s : Strc) (a b : Nat) (l : List Int) : (upd1 s a b l).length = l.length := by simp [upd1]
@[simp] theorem updB_len (s : Strc) (a : Nat) : ∀ (b : Nat) (l : List Int), (updB s a b l).length = l.length
  | 0, _ => rfl
  | b + 1, l => by simp [updB, updB_len s a b l]
@[simp] theorem updA_len (s : Strc) : ∀ (a : Nat) (l : List Int), (updA s a l).length = l.length
  | 0, _ => rfl
  | a + 1, l => by simp [updA, updA_len s a l]
@[simp] theorem rounds_len (s : Strc) : ∀ (r : Nat) (l : List Int), (rounds s r l).length = l.length
  | 0, _ => rfl
  | r + 1, l => by simp [rounds, rounds_len s r l]
@[simp] theorem best0_len (s : Strc) (i n : Nat) : (best0 s i n).length = n := by simp [best0]
theorem best0_succ (s : Strc) (i n : Nat) : best0 s i (n + 1) = best0 s i n ++ [nextOf s i (n : Nat)] := by simp [best0, List.range_succ]
@[simp] theorem rowT0_len (s : Strc) (i : Nat) : (rowT0 s i).length = s.nodes.length := by simp [rowT0]
@[simp] theorem rowP_len (s : Strc) (i : Nat) : (rowP s i).length = s.nodes.length := by simp [rowP]
/-! above a value -/
/-- The nodes that have at least a value. -/
def At (v : Int) (l : List Int) (b : Nat) : Prop := b < l.length ∧ v ≤ l.getD b 0
theorem at_upd {s : Strc} {v : Int} {a b : Nat} {l : List Int} (c : Nat) (ha : a < l.length) : At v (upd1 s a b l) c ↔ At v l c ∨ (c = b ∧ b < l.length ∧ At v l a ∧ v ≤ nextOf s a b) := by
  unfold At upd1
  simp only [List.length_set]
  by_cases hcb : b = c
  · subst hcb
    by_cases hb : b < l.length
    · simp only [List.getD_eq_getElem?_getD, List.getElem?_set_self hb, Option.getD_some, hb, ha, true_and]
      unfold mx mn
      constructor
      · intro h
        (repeat' split at h) <;> omega
      · intro h
        (repeat' split) <;> omega
    · simp [hb]
  · simp only [List.getD_eq_getElem?_getD, List.getElem?_set_ne hcb]
    constructor
    · intro h; exact .inl h
    · rintro (h | h)
      · exact h
      · exact absurd h.1.symm hcb
theorem at_sound {s : Strc} {v : Int} {i : Nat} {l : List Int} (hl : l.length = s.nodes.length) (h : ∀ c, At v l c → Rch (edgeG s v) i c) {a b : Nat} (ha : a < s.nodes.length) :
    ∀ c, At v (upd1 s a b l) c → Rch (edgeG s v) i c := by
  intro c hc
  rcases (at_upd c (by omega)).1 hc with hc | ⟨rfl, hb, h1, h2⟩
  · exact h c hc
  · exact .more (h a h1) ⟨ha, by omega, h2⟩
theorem updB_sound {s : Strc} {v : Int} {i a : Nat} (ha : a < s.nodes.length) : ∀ (b : Nat) {l : List Int}, l.length = s.nodes.length → (∀ c, At v l c → Rch (edgeG s v) i c) → ∀ c, At v (updB s a b l) c → Rch (edgeG s v) i c
  | 0, _, _, h => h
  | b + 1, l, hl, h => at_sound (by simp [hl]) (updB_sound ha b hl h) ha
theorem updA_sound {s : Strc} {v : Int} {i : Nat} : ∀ (a : Nat), a ≤ s.nodes.length → ∀ {l : List Int}, l.length = s.nodes.length → (∀ c, At v l c → Rch (edgeG s v) i c) → ∀ c, At v (updA s a l) c → Rch (edgeG s v) i c
  | 0, _, _, _, h => h
  | a + 1, ha, l, hl, h => updB_sound (by omega) _ (by simp [hl]) (updA_sound a (by omega) hl h)
theorem rounds_sound {s : Strc} {v : Int} {i : Nat} : ∀ (r : Nat) {l : List Int}, l.length = s.nodes.length → (∀ c, At v l c → Rch (edgeG s v) i c) → ∀ c, At v (rounds s r l) c → Rch (edgeG s v) i c
  | 0, _, _, h => h
  | r + 1, l, hl, h => updA_sound _ (Nat.le_refl _) (by simp [hl]) (rounds_sound r hl h)
theorem updB_mono {s : Strc} {v : Int} {a : Nat} : ∀ (b : Nat) {l : List Int}, a < l.length → ∀ c, At v l c → At v (updB s a b l) c
  | 0, _, _, _, h => h
  | b + 1, l, ha, c, h => (at_upd c (by simpa using ha)).2 (.inl (updB_mono b ha c h))
theorem updB_hit {s : Strc} {v : Int} {a : Nat} : ∀ (b : Nat) {l : List Int}, a < l.length → At v l a → ∀ c, c < b → c < l.length → v ≤ nextOf s a c → At v (updB s a b l) c
  | 0, _, _, _, c, hc, _, _ => by omega
  | b + 1, l, ha, h, c, hc, hl, hv => by
    refine (at_upd c (by simpa using ha)).2 ?_
    by_cases e : c = b
    · subst e; exact .inr ⟨rfl, by simpa using hl, updB_mono c ha a h, hv⟩
    · exact .inl (updB_hit b ha h c (by omega) hl hv)
theorem updA_mono {s : Strc} {v : Int} : ∀ (a : Nat) {l : List Int}, a ≤ l.length → ∀ c, At v l c → At v (updA s a l) c
  | 0, _, _, _, h => h
  | a + 1, l, ha, c, h => updB_mono _ (by simp; omega) c (updA_mono a (by omega) c h)
theorem updA_hit {s : Strc} {v : Int} : ∀ (n : Nat) {l : List Int}, n ≤ l.length → l.length = s.nodes.length → ∀ a, a < n → At v l a → ∀ c, c < l.length → v ≤ nextOf s a c → At v (updA s n l) c
  | 0, _, _, _, a, ha, _, _, _, _ => by omega
  | n + 1, l, hn, hl, a, ha, h, c, hc, hv => by
    by_cases e : a = n
    · subst e; exact updB_hit _ (by simp; omega) (updA_mono a (by omega) a h) c (by omega) (by simpa using hc) hv
    · exact updB_mono _ (by simp; omega) c (updA_hit n (by omega) hl a (by omega) h c hc hv)
theorem rounds_mono {s : Strc} {v : Int} : ∀ (r : Nat) {l : List Int}, l.length = s.nodes.length → ∀ c, At v l c → At v (rounds s r l) c
  | 0, _, _, _, h => h
  | r + 1, l, hl, c, h => updA_mono _ (by simp [hl]) c (rounds_mono r hl c h)
/-! counting -/
noncomputable def atB (v : Int) (l : List Int) (c : Nat) : Bool := @decide (At v l c) (Classical.propDecidable _)
theorem atB_iff {v : Int} {l : List Int} {c : Nat} : atB v l c = true ↔ At v l c := by unfold atB; exact @decide_eq_true_iff _ (Classical.propDecidable _)
noncomputable def many (v : Int) (l : List Int) : Nat := (List.range l.length).countP (atB v l)
theorem countP_lt {α : Type} {p q : α → Bool} : ∀ {l : List α}, (∀ x ∈ l, p x = true → q x = true) → (∃ x ∈ l, p x = false ∧ q x = true) → l.countP p < l.countP q
  | [], _, h => by obtain ⟨x, hx, _⟩ := h; cases hx
  | a :: l, h, g => by
    obtain ⟨x, hx, h1, h2⟩ := g
    rw [List.countP_cons, List.countP_cons]
    have hle : l.countP p ≤ l.countP q := List.countP_mono_left fun y hy k => h y (by simp [hy]) k
    rcases List.mem_cons.1 hx with rfl | hx
    · simp [h1, h2]; omega
    · have := countP_lt (l := l) (fun y hy k => h y (by simp [hy]) k) ⟨x, hx, h1, h2⟩
      have h3 := h a (by simp)
      cases hp : p a
      · simp; omega
      · simp [h3 hp]; omega
theorem many_lt {v : Int} {l l' : List Int} (hl : l.length = l'.length) (h : ∀ c, At v l c → At v l' c) {b : Nat} (h1 : ¬ At v l b) (h2 : At v l' b) : many v l < many v l' := by
  unfold many
  rw [hl]
  refine countP_lt (fun x _ k => atB_iff.2 (h x (atB_iff.1 k))) ⟨b, by simpa using h2.1, ?_, atB_iff.2 h2⟩
  cases c : atB v l b
  · rfl
  · exact absurd (atB_iff.1 c) h1
theorem many_full {v : Int} {l : List Int} (h : l.length ≤ many v l) : ∀ c, c < l.length → At v l c := by
  intro c hc
  by_cases g : At v l c
  · exact g
  · exfalso
    have : many v l < (List.range l.length).countP (fun _ => true) := by
      unfold many
      refine countP_lt (fun _ _ _ => rfl) ⟨c, by simpa using hc, ?_, rfl⟩
      cases e : atB v l c
      · rfl
      · exact absurd (atB_iff.1 e) g
    simp at this
    omega
/-- After r rounds all is found, or at least r nodes are. -/
theorem rounds_found {s : Strc} {v : Int} {i : Nat} {l : List Int} (hl : l.length = s.nodes.length) (h0 : ∀ c, edgeG s v i c → At v l c) (hs : ∀ c, At v l c → Rch (edgeG s v) i c) :
    ∀ r, (∀ c, Rch (edgeG s v) i c → At v (rounds s r l) c) ∨ r ≤ many v (rounds s r l)
  | 0 => .inr (by omega)
  | r + 1 => by
    by_cases g : ∀ c, Rch (edgeG s v) i c → At v (rounds s r l) c
    · exact .inl fun c hc => updA_mono _ (by simp [hl]) c (g c hc)
    · right
      have hr : r ≤ many v (rounds s r l) := by
        rcases rounds_found hl h0 hs r with h | h
        · exact absurd h g
        · exact h
      have hnot : ∃ a b, At v (rounds s r l) a ∧ edgeG s v a b ∧ ¬ At v (rounds s r l) b := by
        refine Classical.byContradiction fun hno => g fun c hc => ?_
        induction hc with
        | one h => exact rounds_mono r hl _ (h0 _ h)
        | @more x y _ e ih =>
          exact Classical.byContradiction fun hny => hno ⟨x, y, ih, e, hny⟩
      obtain ⟨a, b, h1, h2, h3⟩ := hnot
      have h4 : At v (rounds s (r + 1) l) b := updA_hit _ (by simp [hl]) (by simp [hl]) a h2.1 h1 b (by simp [hl]; exact h2.2.1) h2.2.2
      have := many_lt (v := v) (l := rounds s r l) (l' := rounds s (r + 1) l) (by simp) (fun c hc => updA_mono _ (by simp [hl]) c hc) h3 h4
      omega
theorem rowT0_at {s : Strc} {v : Int} {i : Nat} (hi : i < s.nodes.length) (c : Nat) : At v (rowT0 s i) c ↔ Rch (edgeG s v) i c := by
  have hl : (best0 s i s.nodes.length).length = s.nodes.length := by simp
  have hb : ∀ c, c < s.nodes.length → (best0 s i s.nodes.length).getD c 0 = nextOf s i (c : Nat) := by
    intro c hc
    simp [best0, List.getD_eq_getElem?_getD, hc]
  have h0 : ∀ c, edgeG s v i c → At v (best0 s i s.nodes.length) c := fun c h => ⟨by simpa using h.2.1, by rw [hb c h.2.1]; exact h.2.2⟩
  have hs : ∀ c, At v (best0 s i s.nodes.length) c → Rch (edgeG s v) i c := fun c h => by
    have h1 : c < s.nodes.length := by simpa using h.1
    have h2 := h.2
    rw [hb c h1] at h2
    exact .one ⟨hi, h1, h2⟩
  constructor
  · exact rounds_sound _ hl hs c
  · intro h
    rcases rounds_found hl h0 hs s.nodes.length with g | g
    · exact g c h
    · exact many_full (by rw [rowT0_len]; exact g) c (by rw [rowT0_len]; exact rch_lt h)
theorem at_val {l : List Int} {c : Nat} (hc : c < l.length) (h : isTruth (l.getD c 0) = true) : l.getD c 0 = if atB 2 l c = true then 2 else if atB 1 l c = true then 1 else 0 := by
  rw [isTruth_iff] at h
  have e : ∀ v, (atB v l c = true) = (v ≤ l.getD c 0) := fun v => propext (atB_iff.trans ⟨fun g => g.2, fun g => ⟨hc, g⟩⟩)
  simp only [e]
  (repeat' split) <;> omega
/-- All next pointers are truth values. -/
def truthS (s : Strc) : Prop := ∀ x ∈ s.next, isTruth x = true
theorem nextOf_truth {s : Strc} (h : truthS s) (i j : Int) : isTruth (nextOf s i j) = true := by
  unfold nextOf
  split
  · rename_i g
    rw [List.getD_eq_getElem?_getD]
    cases e : s.next[(i * s.nodes.length + j).toNat]? with
    | none => simp [isTruth]
    | some v => simpa using h v (List.mem_of_getElem? e)
  · simp [isTruth]
theorem mx_truth {a b : Int} (h : isTruth a = true) (g : isTruth b = true) : isTruth (mx a b) = true := by unfold mx; split <;> assumption
theorem mn_truth {a b : Int} (h : isTruth a = true) (g : isTruth b = true) : isTruth (mn a b) = true := by unfold mn; split <;> assumption
theorem getD_truth {l : List Int} (h : ∀ x ∈ l, isTruth x = true) (c : Nat) : isTruth (l.getD c 0) = true := by
  rw [List.getD_eq_getElem?_getD]
  cases e : l[c]? with
  | none => simp [isTruth]
  | some v => simpa using h v (List.mem_of_getElem? e)
theorem upd1_truth {s : Strc} (h : truthS s) {a b : Nat} {l : List Int} (hl : ∀ x ∈ l, isTruth x = true) : ∀ x ∈ upd1 s a b l, isTruth x = true := by
  intro x hx
  unfold upd1 at hx
  rcases List.mem_or_eq_of_mem_set hx with hx | rfl
  · exact hl x hx
  · exact mx_truth (getD_truth hl _) (mn_truth (getD_truth hl _) (nextOf_truth h _ _))
theorem updB_truth {s : Strc} (h : truthS s) {a : Nat} : ∀ (b : Nat) {l : List Int}, (∀ x ∈ l, isTruth x = true) → ∀ x ∈ updB s a b l, isTruth x = true
  | 0, _, hl => hl
  | b + 1, _, hl => upd1_truth h (updB_truth h b hl)
theorem updA_truth {s : Strc} (h : truthS s) : ∀ (a : Nat) {l : List Int}, (∀ x ∈ l, isTruth x = true) → ∀ x ∈ updA s a l, isTruth x = true
  | 0, _, hl => hl
  | a + 1, _, hl => updB_truth h _ (updA_truth h a hl)
theorem rounds_truth {s : Strc} (h : truthS s) : ∀ (r : Nat) {l : List Int}, (∀ x ∈ l, isTruth x = true) → ∀ x ∈ rounds s r l, isTruth x = true
  | 0, _, hl => hl
  | r + 1, _, hl => updA_truth h _ (rounds_truth h r hl)
theorem rowT0_truth {s : Strc} (h : truthS s) (i : Nat) : ∀ x ∈ rowT0 s i, isTruth x = true := by
  refine rounds_truth h _ fun x hx => ?_
  simp only [best0, List.mem_map] at hx
  obtain ⟨b, _, rfl⟩ := hx
  exact nextOf_truth h _ _
/-- What the reference's row holds. -/
theorem rowP_path {s : Strc} (h : truthS s) {i j : Int} (hi : inN s i) (hj : inN s j) : (rowP s i.toNat).getD j.toNat 0 = pathT s i j := by
  have hi' := hi
  have hj' := hj
  unfold inN at hi' hj'
  have hin : i.toNat < s.nodes.length := by omega
  have hjn : j.toNat < s.nodes.length := by omega
  have hv : (rowT0 s i.toNat).getD j.toNat 0 = if rchB s 2 i.toNat j.toNat = true then 2 else if rchB s 1 i.toNat j.toNat = true then 1 else 0 := by
    rw [at_val (by simpa using hjn) (getD_truth (rowT0_truth h _) _)]
    have h2 : ∀ v, atB v (rowT0 s i.toNat) j.toNat = rchB s v i.toNat j.toNat := fun v => by rw [Bool.eq_iff_iff, atB_iff, rchB_iff]; exact rowT0_at hin _
    rw [h2, h2]
  have hcast : ((i.toNat : Nat) : Int) = i := by omega
  unfold pathT
  rw [if_pos ⟨hi, hj⟩]
  unfold rowP
  by_cases e : i = j
  · subst e
    rw [List.getD_eq_getElem?_getD, List.getElem?_set_self (by simpa using hin), Option.getD_some, hv, hcast]
    have hs : sameT s i = 2 ∨ sameT s i = 1 := by unfold sameT; split <;> simp
    unfold mx
    rcases hs with hs | hs <;> rw [hs] <;> (repeat' split) <;> simp_all
  · have hne : i.toNat ≠ j.toNat := by omega
    rw [List.getD_eq_getElem?_getD, List.getElem?_set_ne hne, ← List.getD_eq_getElem?_getD, hv]
    simp only [e, false_and, if_false]
end Go.Vm
