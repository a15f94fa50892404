/- spec.l12Copy, spec.DrawEqualStructure. No condition. -/
import Derived.Test.YtfelkhckpfjgjaaGreatDoorTGM
import Derived.Test.YtfelkhckpfjgjaaGreatDoorTS
import Derived.Test.YtfelkhckpfjgjaaGreatDoorVme
import Derived.Shelf.Strings.OnBuilder
set_option linter.unusedSimpArgs false
set_option linter.unusedVariables false
namespace Go.Vm
open Go.Proofs
theorem bent12_sz (c : Cur) : szStrc (bent12 c).2 ≤ 1048576 ∧ (bent12 c).2.nodes.length ≤ 10 := by
  obtain ⟨h, -⟩ := d12_sh c
  have hsum : ∀ l : List Node, (∀ x ∈ l, szNode x ≤ 6) → (l.map szNode).sum ≤ l.length * 6 := by
    intro l
    induction l with
    | nil => intro _; simp
    | cons x xs ih =>
      intro hl
      have := ih fun y hy => hl y (by simp [hy])
      have := hl x (by simp)
      simp only [List.map_cons, List.sum_cons, List.length_cons]
      omega
  have h6 : ∀ x ∈ (d12 c).2.nodes, szNode x ≤ 6 := fun x hx => by
    obtain ⟨a, b⟩ := h.r x hx
    have : szNode x = x.vars.length + x.reach.length := rfl
    omega
  have h25 := (sh12_sz h).2
  have h5 := h.n
  have fin : ∀ s : Strc, s.nodes.length ≤ 5 → s.next.length ≤ 26 → (∀ x ∈ s.nodes, szNode x ≤ 6) → szStrc s ≤ 1048576 ∧ s.nodes.length ≤ 10 := fun s a b d => by
    have e1 := hsum _ d
    have e2 : szStrc s = szNodes s.nodes + s.next.length := rfl
    have e3 : szNodes s.nodes = s.nodes.length + (s.nodes.map szNode).sum := rfl
    omega
  have hset : ∀ (f : Node → Node), (∀ y, szNode (f y) ≤ szNode y) → szStrc (setN (d12 c).2 0 f) ≤ 1048576 ∧ (setN (d12 c).2 0 f).nodes.length ≤ 10 := fun f hf => by
    obtain ⟨e1, e2⟩ := setN_len (d12 c).2 0 f
    refine fin _ (by omega) (by rw [e2]; omega) fun x hx => ?_
    unfold setN at hx
    split at hx
    · rcases List.mem_or_eq_of_mem_set hx with hx | hx
      · exact h6 x hx
      · subst hx
        exact Nat.le_trans (hf _) (h6 _ (List.getElem_mem _))
    · exact h6 x hx
  unfold bent12
  split
  · exact fin _ h5 (by simp; omega) h6
  split
  · exact fin (d12 c).2 h5 (by omega) h6
  split
  · exact hset _ fun y => Nat.le_refl _
  split
  · exact hset _ fun y => by simp [szNode]
  split
  · exact hset _ fun y => by simp [szNode]
  · exact fin (d12 c).2 h5 (by omega) h6
def code_spec_DrawEqualStructure : F := ⟨18, [.cell 2 true 2, .cell 2 true 3],
 .seq (.reg [⟨some 2, .alloc [(.sl .nil 0 []), (.sl .nil 0 [])], none⟩,
    ⟨some 3, .alloc [(.sl .nil 0 []), (.sl .nil 0 [])], none⟩])
 (.seq (.reg [⟨some 6, .mov (.t 0), none⟩,
     ⟨some 7, .call 20 [(.t 6)], none⟩,
     ⟨some 4, .mov (.t 7), none⟩])
  (.seq (.reg [⟨some 8, .mov (.t 4), none⟩,
      ⟨some 9, .call 21 [(.t 8)], none⟩,
      ⟨some 5, .alloc [(.sl .nil 0 []), (.sl .nil 0 [])], none⟩,
      ⟨none, .store 2 (.t 5) (.t 9), none⟩])
   (.seq (.seq (.reg [⟨some 10, .mov (.t 4), none⟩,
        ⟨some 11, .call 25 [(.t 10), (.k (.int .i64 2))], none⟩])
     (.cond (.t 11)
      (.seq (.dreg [false, false, false, true, true] [false, false, true, false, false] [⟨some 12, .load 2 true (.t 5), none⟩,
          ⟨some 13, .load 2 true (.t 5), none⟩,
          ⟨some 14, .call 26 [(.t 13)], none⟩,
          ⟨none, .store 2 (.t 2) (.t 12), none⟩,
          ⟨none, .store 2 (.t 3) (.t 14), none⟩])
       (.ret))
      (.skip)))
    (.seq (.dreg [false, false, false, true, true] [false, false, true, false, false] [⟨some 15, .load 2 true (.t 5), none⟩,
        ⟨some 16, .mov (.t 4), none⟩,
        ⟨some 17, .call 21 [(.t 16)], none⟩,
        ⟨none, .store 2 (.t 2) (.t 15), none⟩,
        ⟨none, .store 2 (.t 3) (.t 17), none⟩])
     (.ret)))))⟩
theorem fok_spec_DrawEqualStructure : FOk Tryz.prog 9 code_spec_DrawEqualStructure := fok Tryz.func9 (by kernel_rfl)
def drawE2s (bs : List UInt8) : Strc := if (bent12 (cur0 bs)).1.below 2 = 0 then drawB2 bs else (bent12 (bent12 (cur0 bs)).1.step).2
@[simp] def ct_DrawEqualStructure : Ct := ⟨9, List UInt8, fun bs => bs.length ≤ 1048576, fun bs => [encL 1 encU bs], fun bs => .tup [encStrc (drawB2 bs), encStrc (drawE2s bs)]⟩
set_option maxHeartbeats 8000000 in
theorem ok_DrawEqualStructure : ct_DrawEqualStructure.Ok Tryz.prog := by
  intro bs hbs
  change List UInt8 at bs
  change bs.length ≤ 1048576 at hbs
  obtain ⟨va, vn, wa, wn, L, g4, ok⟩ := made_bent (H := [.nrow, .nrow, .cells [.slref 0 0 0 0, .slref 1 0 0 0], .nrow, .nrow, .cells [.slref 3 0 0 0, .slref 4 0 0 0], (cur0 bs).cells]) (p := 6) (c := cur0 bs) hbs rfl
  have okB : CtH.Ok Tryz.prog ⟨21, Unit, fun _ H => H = [.nrow, .nrow, .cells [.slref 0 0 0 0, .slref 1 0 0 0], .nrow, .nrow, .cells [.slref 3 0 0 0, .slref 4 0 0 0], (cur0 bs).cells], fun _ => [.pbox 6 0], fun _ _ => .agg [.slref va 0 vn vn, .slref wa 0 wn wn], fun _ _ => .nrow :: .nrow :: .cells [.slref 0 0 0 0, .slref 1 0 0 0] :: .nrow :: .nrow :: .cells [.slref 3 0 0 0, .slref 4 0 0 0] :: (bent12 (cur0 bs)).1.cells :: L⟩ := by
    intro x H' hH
    have hH : H' = _ := hH
    rw [hH]; exact ok
  have hbuf : (bent12 (cur0 bs)).1.buf.length ≤ 1048576 := by rw [bent12_buf]; exact hbs
  have hLg : ∀ (T : List Blk) k, (L ++ T)[L.length + k]? = T[k]? := fun T k => getHk _ _ _
  have hLs : ∀ (T : List Blk) k y, (L ++ T).set (L.length + k) y = L ++ T.set k y := fun T k y => setHk _ _ _ _
  have hT : TabOk Tryz.prog _ := tab_h ok_l1New (tab_h okB (tab_h ok_once tab_nil))
  have hsz := bent12_sz (cur0 bs)
  have hE : drawE2s bs = if (bent12 (cur0 bs)).1.below 2 = 0 then (bent12 (cur0 bs)).2 else (bent12 (bent12 (cur0 bs)).1.step).2 := rfl
  have hD : drawB2 bs = (bent12 (cur0 bs)).2 := rfl
  simp only [ct_DrawEqualStructure, hE, hD]
  refine Ok.of_cw fok_spec_DrawEqualStructure ?_
  simp only [code_spec_DrawEqualStructure, frame, List.length_cons, List.length_nil, List.replicate, Nat.reduceSub, Nat.reduceAdd, List.cons_append, List.nil_append]
  refine cw_seq (go_ok hT ?_); simp [List.replicate]
  refine cw_seq (go_ok hT ?_); simp [List.replicate, hbs]
  refine cw_seq (go_ok hT ?_); simp [List.replicate, hLg, hLs, Nat.add_assoc]
  by_cases g : (bent12 (cur0 bs)).1.below 2 = 0
  · simp only [g, if_true]
    refine cw_seq (cw_seq (go_ok hT ?_)); simp [List.replicate, cells_inj, hbuf, g]
    obtain ⟨l1, l2⟩ := g4 (.nrow :: .nrow :: .cells [.slref 0 0 0 0, .slref 1 0 0 0] :: .nrow :: .nrow :: .cells [.slref 3 0 0 0, .slref 4 0 0 0] :: (bent12 (cur0 bs)).1.step.cells :: (L ++ [.nrow, .nrow, .cells [.slref va 0 vn vn, .slref wa 0 wn wn]])) (fun j h1 h2 => by
      obtain ⟨k, rfl⟩ : ∃ k, j = k + 7 := ⟨j - 7, by simp at h1; omega⟩
      show (L ++ _)[k]? = L[k]?
      exact List.getElem?_append_left (by simp at h2; omega))
    obtain ⟨ca, cc, els, cp, cq, N, hk, hown, hNa, hNx, hNc⟩ := made_Copy (bent12 (cur0 bs)).2 hsz.1 hsz.2
    have okC : CtN.Ok Tryz.prog ⟨26, Unit, fun _ => True, fun _ => [encStrc (bent12 (cur0 bs)).2], fun _ => (.agg [.slref ca 0 (bent12 (cur0 bs)).2.nodes.length (bent12 (cur0 bs)).2.nodes.length, .slref cc 0 (bent12 (cur0 bs)).2.next.length (bent12 (cur0 bs)).2.next.length]), fun _ => N⟩ := ⟨fun _ _ => hk, fun _ _ => rfl, fun _ _ => hown⟩
    have hTc : TabOk Tryz.prog _ := tab_h (CtN.hok okC) tab_nil
    refine cw_cond (b := true) (by simp [Opd.ev]) (fun _ => ?_) (fun h => by cases h)
    refine cw_seq (go_ok hTc ?_)
    simp [List.replicate, hLg, l1, l2, isH, needs1]
    refine ⟨?_, ?_⟩
    · rw [show ∀ (a b d : Blk) (R : List Blk), L ++ a :: b :: d :: R = (L ++ [a, b, d]) ++ R from fun a b d R => by simp, List.take_left' (by simp)]
    obtain ⟨l3, l4⟩ := g4 (.nrow :: .nrow :: .cells [.slref va 0 vn vn, .slref wa 0 wn wn] :: .nrow :: .nrow :: .cells [.slref (L.length + 10 + ca) 0 (bent12 (cur0 bs)).2.nodes.length (bent12 (cur0 bs)).2.nodes.length, .slref (L.length + 10 + cc) 0 (bent12 (cur0 bs)).2.next.length (bent12 (cur0 bs)).2.next.length] :: (bent12 (cur0 bs)).1.step.cells :: (L ++ .nrow :: .nrow :: .cells [.slref va 0 vn vn, .slref wa 0 wn wn] :: N.map (shB (L.length + 10)))) (fun j h1 h2 => by
      obtain ⟨k, rfl⟩ : ∃ k, j = k + 7 := ⟨j - 7, by simp at h1; omega⟩
      show (L ++ _)[k]? = L[k]?
      exact List.getElem?_append_left (by simp at h2; omega))
    obtain ⟨A, hA⟩ : ∃ A : List Blk, A = .nrow :: .nrow :: .cells [.slref va 0 vn vn, .slref wa 0 wn wn] :: .nrow :: .nrow :: .cells [.slref (L.length + 10 + ca) 0 (bent12 (cur0 bs)).2.nodes.length (bent12 (cur0 bs)).2.nodes.length, .slref (L.length + 10 + cc) 0 (bent12 (cur0 bs)).2.next.length (bent12 (cur0 bs)).2.next.length] :: (bent12 (cur0 bs)).1.step.cells :: (L ++ [.nrow, .nrow, .cells [.slref va 0 vn vn, .slref wa 0 wn wn]]) := ⟨_, rfl⟩
    have hAl : A.length = L.length + 10 := by rw [hA]; simp
    have hAN : (.nrow :: .nrow :: .cells [.slref va 0 vn vn, .slref wa 0 wn wn] :: .nrow :: .nrow :: .cells [.slref (L.length + 10 + ca) 0 (bent12 (cur0 bs)).2.nodes.length (bent12 (cur0 bs)).2.nodes.length, .slref (L.length + 10 + cc) 0 (bent12 (cur0 bs)).2.next.length (bent12 (cur0 bs)).2.next.length] :: (bent12 (cur0 bs)).1.step.cells :: (L ++ .nrow :: .nrow :: .cells [.slref va 0 vn vn, .slref wa 0 wn wn] :: N.map (shB (L.length + 10))) : List Blk) = A ++ N.map (shB A.length) := by rw [hAl, hA]; simp
    have get : ∀ j k, N[j]? = some k → (A ++ N.map (shB A.length))[A.length + j]? = some (shB A.length k) := fun j k hk => by
      rw [getHk, List.getElem?_map, hk]; rfl
    have m1 := (hNx.sh A).lend (b := A.length + ca) (by rw [get _ _ hNa]; rfl)
    have m2 : lendC (fun _ _ => true) (A ++ N.map (shB A.length)) 20 (.slref (A.length + cc) 0 (bent12 (cur0 bs)).2.next.length (bent12 (cur0 bs)).2.next.length) = some (encL 1 encInt (bent12 (cur0 bs)).2.next) := by
      have e : (A ++ N.map (shB A.length))[A.length + cc]? = some (.row true 3 1 ((bent12 (cur0 bs)).2.next.map encInt)) := by
        rw [get _ _ hNc]
        show some (Blk.row true _ 1 (shL _ _)) = _
        rw [shL_ints]
      simp [lendC, e]
    rw [← hAN, hAl] at m1 m2
    refine go_ok tab_nil ?_
    simp [List.replicate, l3, l4, m1, m2]
    rfl
  · simp only [g, if_false]
    obtain ⟨va2, vn2, wa2, wn2, L2, g42, ok2⟩ := made_bent (H := .nrow :: .nrow :: .cells [.slref 0 0 0 0, .slref 1 0 0 0] :: .nrow :: .nrow :: .cells [.slref 3 0 0 0, .slref 4 0 0 0] :: (bent12 (cur0 bs)).1.step.cells :: (L ++ [.nrow, .nrow, .cells [.slref va 0 vn vn, .slref wa 0 wn wn]])) (p := 6) (c := (bent12 (cur0 bs)).1.step) hbuf rfl
    have okB2 : CtH.Ok Tryz.prog ⟨21, Unit, fun _ H => H = .nrow :: .nrow :: .cells [.slref 0 0 0 0, .slref 1 0 0 0] :: .nrow :: .nrow :: .cells [.slref 3 0 0 0, .slref 4 0 0 0] :: (bent12 (cur0 bs)).1.step.cells :: (L ++ [.nrow, .nrow, .cells [.slref va 0 vn vn, .slref wa 0 wn wn]]), fun _ => [.pbox 6 0], fun _ _ => .agg [.slref va2 0 vn2 vn2, .slref wa2 0 wn2 wn2], fun _ _ => .nrow :: .nrow :: .cells [.slref 0 0 0 0, .slref 1 0 0 0] :: .nrow :: .nrow :: .cells [.slref 3 0 0 0, .slref 4 0 0 0] :: (bent12 (bent12 (cur0 bs)).1.step).1.cells :: ((L ++ [.nrow, .nrow, .cells [.slref va 0 vn vn, .slref wa 0 wn wn]]) ++ L2)⟩ := by
      intro x H' hH
      have hH : H' = _ := hH
      rw [hH]; exact ok2
    have hT2 : TabOk Tryz.prog _ := tab_h okB2 tab_nil
    refine cw_seq (cw_seq (go_ok hT ?_)); simp [List.replicate, cells_inj, hbuf, g]
    refine go_ok tab_nil ?_
    simp [List.replicate]
    refine cw_seq (goC_ok hT2 6 ?_)
    simp [List.replicate, hLg, isH, needs1]
    refine ⟨⟨_, L2, by simp; rfl⟩, ?_⟩
    obtain ⟨l1, l2⟩ := g4 (.nrow :: .nrow :: .cells [.slref va 0 vn vn, .slref wa 0 wn wn] :: .nrow :: .nrow :: .cells [.slref va2 0 vn2 vn2, .slref wa2 0 wn2 wn2] :: (bent12 (bent12 (cur0 bs)).1.step).1.cells :: (L ++ .nrow :: .nrow :: .cells [.slref va 0 vn vn, .slref wa 0 wn wn] :: L2)) (fun j h1 h2 => by
      obtain ⟨k, rfl⟩ : ∃ k, j = k + 7 := ⟨j - 7, by simp at h1; omega⟩
      show (L ++ _)[k]? = L[k]?
      exact List.getElem?_append_left (by simp at h2; omega))
    obtain ⟨m1, m2⟩ := g42 (.nrow :: .nrow :: .cells [.slref va 0 vn vn, .slref wa 0 wn wn] :: .nrow :: .nrow :: .cells [.slref va2 0 vn2 vn2, .slref wa2 0 wn2 wn2] :: (bent12 (bent12 (cur0 bs)).1.step).1.cells :: (L ++ .nrow :: .nrow :: .cells [.slref va 0 vn vn, .slref wa 0 wn wn] :: L2)) (fun j h1 h2 => by
      obtain ⟨k, rfl⟩ : ∃ k, j = k + 7 := ⟨j - 7, by simp at h1; omega⟩
      show (L ++ _)[k]? = ((L ++ _) ++ L2)[k]?
      rw [List.append_assoc]; rfl)
    refine go_ok tab_nil ?_
    simp [List.replicate, l1, l2, m1, m2]
    exact ⟨rfl, rfl⟩
end Go.Vm

namespace Go.Proofs
def Tryz.lays156_ren : Go.Shelf.Ren := ⟨fun | 156 => 63 | 165 => 75 | 166 => 76 | 169 => 77 | 240 => 87 | 241 => 88 | 276 => 97 | 277 => 98 | n => n, fun | 31 => 33 | 9 => 9 | 3 => 3 | 4 => 4 | 0 => 0 | 20 => 20 | 72 => 87 | 76 => 91 | 70 => 85 | 37 => 22 | 75 => 90 | 127 => 104 | 164 => 113 | 5 => 5 | 80 => 93 | n => n, fun | n => n⟩
theorem Tryz.lays156 : Go.Proofs.Lays.n156 Tryz.prog Tryz.lays156_ren := {
  mixed := by kernel_rfl,
  f156 := Tryz.func63.trans (congrArg some (by kernel_rfl)),
  f165 := Tryz.func75.trans (congrArg some (by kernel_rfl)),
  f166 := Tryz.func76.trans (congrArg some (by kernel_rfl)),
  f169 := Tryz.func77.trans (congrArg some (by kernel_rfl)),
  f240 := Tryz.func87.trans (congrArg some (by kernel_rfl)),
  f241 := Tryz.func88.trans (congrArg some (by kernel_rfl)),
  f276 := Tryz.func97.trans (congrArg some (by kernel_rfl)),
  f277 := Tryz.func98.trans (congrArg some (by kernel_rfl)),
  t0 := Tryz.underlying0,
  a0 := Tryz.isAgg0,
  z0 := Tryz.sizeOf0,
  v0 := Tryz.zeroValue0,
  t3 := Tryz.underlying3,
  a3 := Tryz.isAgg3,
  z3 := Tryz.sizeOf3,
  v3 := Tryz.zeroValue3,
  t4 := Tryz.underlying4,
  a4 := Tryz.isAgg4,
  z4 := Tryz.sizeOf4,
  v4 := Tryz.zeroValue4,
  t9 := Tryz.underlying9,
  a9 := Tryz.isAgg9,
  z9 := Tryz.sizeOf9,
  v9 := Tryz.zeroValue9,
  t20 := Tryz.underlying20,
  a20 := Tryz.isAgg20,
  z20 := Tryz.sizeOf20,
  v20 := Tryz.zeroValue20,
  t31 := Tryz.underlying33,
  a31 := Tryz.isAgg33,
  z31 := Tryz.sizeOf33,
  v31 := Tryz.zeroValue33,
  t37 := Tryz.underlying22,
  a37 := Tryz.isAgg22,
  z37 := Tryz.sizeOf22,
  v37 := Tryz.zeroValue22,
  t70 := Tryz.underlying85,
  a70 := Tryz.isAgg85,
  z70 := Tryz.sizeOf85,
  v70 := Tryz.zeroValue85,
  t72 := Tryz.underlying87,
  a72 := Tryz.isAgg87,
  z72 := Tryz.sizeOf87,
  v72 := Tryz.zeroValue87,
  t75 := Tryz.underlying90,
  a75 := Tryz.isAgg90,
  z75 := Tryz.sizeOf90,
  v75 := Tryz.zeroValue90,
  t76 := Tryz.underlying91,
  a76 := Tryz.isAgg91,
  z76 := Tryz.sizeOf91,
  v76 := Tryz.zeroValue91,
  t127 := Tryz.underlying104,
  a127 := Tryz.isAgg104,
  z127 := Tryz.sizeOf104,
  v127 := Tryz.zeroValue104,
  t164 := Tryz.underlying113,
  a164 := Tryz.isAgg113,
  z164 := Tryz.sizeOf113,
  v164 := Tryz.zeroValue113 }
theorem Tryz.builderX : Builder.Extra Tryz.prog Tryz.lays156_ren := {
  sizeBuilder := by kernel_rfl,
  liesBuilder := by kernel_rfl,
  t5 := Tryz.underlying5,
  a5 := Tryz.isAgg5,
  z5 := Tryz.sizeOf5,
  v5 := Tryz.zeroValue5,
  infoByte := by kernel_rfl,
  cellsByte := by kernel_rfl,
  sizeByte := by kernel_rfl,
  neB5 := by decide }
end Go.Proofs
namespace Go.Vm
open Go.Proofs Go.RowKit
/-- Texts put together with a text between them. -/
def joinS (xs : List (List UInt8)) (sep : List UInt8) : List UInt8 := Lib.join xs sep
@[simp] def ct_libJoin : Ct := ⟨63, List (List UInt8) × List UInt8, fun x => x.1.length ≤ 140737488355328 ∧ (joinS x.1 x.2).length ≤ 140737488355328, fun x => [encL 1 encStr x.1, .str x.2], fun x => .str (joinS x.1 x.2)⟩
theorem ok_libJoin : ct_libJoin.Ok Tryz.prog := by
  rintro ⟨xs, sep⟩ ⟨hN, hl⟩
  change xs.length ≤ 140737488355328 at hN
  change (Lib.join xs sep).length ≤ 140737488355328 at hl
  intro w N vs hNg ha
  change All2 (PureV w N) [encL 1 encStr xs, .str sep] vs.toList at ha
  obtain ⟨v1, v2, hvs⟩ : ∃ v1 v2, vs = #[v1, v2] := by
    have := ha.length
    rcases vs with ⟨l⟩
    simp at this
    match l, this with
    | [a, b], _ => exact ⟨a, b, rfl⟩
  subst hvs
  simp only at ha
  rcases ha with _ | ⟨h1, _ | ⟨h2, _⟩⟩
  have h2' : RepC w N (.str sep) v2 := by simpa only [PureV, PureU] using h2
  have h1' : RepC w N (encL 1 encStr xs) v1 := by simpa only [PureV, PureU, encL, mksl] using h1
  cases h2' with
  | @str s _ hs =>
  subst hs
  have fin : ∀ w', PureV w' (fun g => N g ∨ (w.heap.size ≤ g ∧ g < w'.heap.size)) (.str (joinS xs s.data.toList)) (.string ⟨(Lib.join xs s.data.toList).toArray⟩) := by
    intro w'
    simp only [PureV, PureU]; exact .str rfl
  cases xs with
  | nil =>
    simp only [encL, mksl, List.map_nil] at h1'
    have hz : ∃ a c, v1 = .slice a 0 c := by
      cases h1' with
      | nilSl _ => exact ⟨_, _, rfl⟩
      | slE _ _ => exact ⟨_, _, rfl⟩
      | sl hk hn hc hm h => simp at hn; subst hn; exact ⟨_, _, rfl⟩
    obtain ⟨a, c, rfl⟩ := hz
    refine (Any.strings_Join_none Tryz.lays156 Tryz.builderX a c s w).mono fun e w' ⟨he, hw⟩ => ⟨_, he, hw ▸ Below.refl _ _, fin w'⟩
  | cons x xs =>
    simp only [encL, mksl, List.map_cons] at h1'
    cases h1' with
    | @sl _ _ _ g o c n hk hn hc hm h =>
    simp only [List.length_cons, List.length_map] at hn hc
    subst hn
    have hget : ∀ (j : Nat) (y : ByteArray), ((x :: xs).map fun l => (⟨l.toArray⟩ : ByteArray))[j]? = some y → w.cell? ⟨g, o + j, none⟩ = some (.string y) ∧ N g := by
      intro j y hy
      rw [List.getElem?_map] at hy
      obtain ⟨l, hl', rfl⟩ := Option.map_eq_some_iff.1 hy
      have hg := RepE.get h (i := j) (a := .str l) (by
        have : (encStr x :: List.map encStr xs) = (x :: xs).map encStr := rfl
        rw [this, List.getElem?_map, hl']; rfl)
      obtain ⟨-, hr⟩ := hg
      rw [Nat.mul_one] at hr
      simp only [AV.cells] at hr
      cases hr with
      | cons hNN hcell hrep _ =>
        cases hrep with
        | @str t _ ht =>
          refine ⟨?_, hNN⟩
          rw [hcell]
          rcases t with ⟨⟨t⟩⟩
          simp at ht
          subst ht
          rfl
    have hb : g < w.heap.size := hNg g (hget 0 ⟨x.toArray⟩ rfl).2
    have hmap : ((x :: xs).map fun l => (⟨l.toArray⟩ : ByteArray)).map (·.data.toList) = x :: xs := by
      rw [List.map_map]
      conv => rhs; rw [← List.map_id (x :: xs)]
      congr 1
    have := Any.strings_Join Tryz.lays156 Tryz.builderX g o c ((x :: xs).map fun l => (⟨l.toArray⟩ : ByteArray)) s w (fun j y hy => (hget j y hy).1) hb (by simpa using hN) (by simpa using hc) (by rw [hmap]; exact hl)
    rw [hmap, List.length_map] at this
    exact this.mono fun e w' ⟨he, hw⟩ => ⟨_, he, hw, fin w'⟩
end Go.Vm
