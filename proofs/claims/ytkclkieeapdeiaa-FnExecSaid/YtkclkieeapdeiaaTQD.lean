/- The reference's draws of statements. No condition. -/
import Derived.Test.YtkclkieeapdeiaaTRH
import Derived.Test.YtkclkieeapdeiaaTSU
import Derived.Test.YtkclkieeapdeiaaTCS
set_option linter.unusedSimpArgs false
set_option linter.unusedVariables false
namespace Go.Vm
open Go.Proofs
def vars3 : List (List UInt8) := [[120], [121], [116]]
def pickS (c : Cur) (xs : List (List UInt8)) : List UInt8 := xs.getD (c.below xs.length).toNat []
def code_spec_l1Pick : F := ⟨12, [.tmp 4],
 .seq (.reg [⟨some 4, .mov (.k (.str [])), none⟩])
 (.seq (.reg [⟨some 5, .mov (.t 1), none⟩,
     ⟨some 6, .mov (.t 0), none⟩,
     ⟨some 7, .mov (.t 1), none⟩,
     ⟨some 8, .len (.t 7), none⟩,
     ⟨some 9, .call 58 [(.t 6), (.t 8)], none⟩,
     ⟨some 10, .iaddr 1 (.t 5) (.t 9), none⟩,
     ⟨some 11, .load 1 false (.t 10), none⟩,
     ⟨some 4, .mov (.t 11), none⟩])
  (.ret))⟩
theorem fok_spec_l1Pick : FOk Try.prog 72 code_spec_l1Pick := fok Try.func72 (by kernel_rfl)
@[simp] def ct_l1Pick : CtH := ⟨72, Nat × Cur × List (List UInt8), fun x H => H[x.1]? = some x.2.1.cells ∧ 0 < x.2.2.length ∧ x.2.2.length ≤ 256 ∧ x.2.1.buf.length ≤ 1048576, fun x => [.pbox x.1 0, encL 1 encStr x.2.2], fun x _ => .str (pickS x.2.1 x.2.2), fun x H => H.set x.1 x.2.1.step.cells⟩
set_option maxHeartbeats 1000000 in
theorem ok_l1Pick : ct_l1Pick.Ok Try.prog := by
  rintro ⟨p, c, xs⟩ H ⟨h1, h2, h3, h4⟩
  change H[p]? = some c.cells at h1
  change 0 < xs.length at h2
  change xs.length ≤ 256 at h3
  change c.buf.length ≤ 1048576 at h4
  have hb := below_lt c (n := xs.length) (by omega)
  obtain ⟨i, hi⟩ : ∃ i : Nat, c.below xs.length = i := ⟨(c.below xs.length).toNat, by omega⟩
  have hl : i < xs.length := by omega
  have e : pickS c xs = xs[i] := by unfold pickS; rw [hi]; simp [List.getD_eq_getElem?_getD, hl]
  refine OkH.of_cw' fok_spec_l1Pick (go_ok (tab_h ok_below tab_nil) ?_)
  simp [code_spec_l1Pick, List.replicate, retH, e, hl]
  refine ⟨c, h1, by omega, by omega, h4, ?_⟩
  simp [hi, hl]
@[simp] def ct_l1PickR : CtH := ⟨72, Nat × Cur × Nat × Nat × List (List UInt8), fun x H => H[x.1]? = some x.2.1.cells ∧ 0 < x.2.2.2.2.length ∧ x.2.2.2.2.length ≤ 256 ∧ x.2.1.buf.length ≤ 1048576 ∧ x.1 ≠ x.2.2.1 ∧ H[x.2.2.1]? = some (.row true x.2.2.2.1 1 (x.2.2.2.2.map encStr)), fun x => [.pbox x.1 0, .slref x.2.2.1 0 x.2.2.2.2.length x.2.2.2.2.length], fun x _ => .str (pickS x.2.1 x.2.2.2.2), fun x H => H.set x.1 x.2.1.step.cells⟩
set_option maxHeartbeats 1000000 in
theorem ok_l1PickR : ct_l1PickR.Ok Try.prog := by
  rintro ⟨p, c, q, el, xs⟩ H ⟨h1, h2, h3, h4, hpq, h5⟩
  change H[p]? = some c.cells at h1
  change 0 < xs.length at h2
  change xs.length ≤ 256 at h3
  change c.buf.length ≤ 1048576 at h4
  change p ≠ q at hpq
  change H[q]? = some (.row true el 1 (xs.map encStr)) at h5
  have hb := below_lt c (n := xs.length) (by omega)
  obtain ⟨i, hi⟩ : ∃ i : Nat, c.below xs.length = i := ⟨(c.below xs.length).toNat, by omega⟩
  have hl : i < xs.length := by omega
  have e : pickS c xs = xs[i] := by unfold pickS; rw [hi]; simp [List.getD_eq_getElem?_getD, hl]
  have hq : ∀ x, (H.set p x)[q]? = some (.row true el 1 (xs.map encStr)) := fun x => by rw [List.getElem?_set_ne hpq]; exact h5
  refine OkH.of_cw' fok_spec_l1Pick (go_ok (tab_h ok_below tab_nil) ?_)
  simp [code_spec_l1Pick, List.replicate, retH, e, hl]
  refine ⟨by rw [h5]; simp, c, h1, by omega, by omega, h4, ?_⟩
  simp [hi, hl, hq, retH]
/-- The cursor and the statement that are drawn. -/
def draw4 (c : Cur) : Cur × Stmt :=
  if 0 < namesN (1 + c.below 12) then (if 1 < namesN (1 + c.below 12) then (c.step.step.step, ⟨1 + c.below 12, pickS c.step vars3, pickS c.step.step vars3⟩) else (c.step.step, ⟨1 + c.below 12, pickS c.step vars3, []⟩))
  else (c.step, ⟨1 + c.below 12, [], []⟩)
def stCells (s : Stmt) : Blk := .cells [.int .i64 s.kind, .str s.a, .str s.b]
theorem draw4_buf (c : Cur) : (draw4 c).1.buf = c.buf := by
  unfold draw4
  split
  · split <;> rfl
  · rfl
def code_spec_l4Draw : F := ⟨25, [.cell 3 true 2],
 .seq (.reg [⟨some 2, .alloc [(.int .i64 0), (.str []), (.str [])], none⟩])
 (.seq (.reg [⟨some 5, .mov (.t 0), none⟩,
     ⟨some 6, .call 58 [(.t 5), (.k (.int .i64 12))], none⟩,
     ⟨some 7, .bin .add (.k (.int .i64 1)) (.t 6), none⟩,
     ⟨some 8, .build [(.int .i64 0), (.str []), (.str [])] [(0, 1, (.t 7))], none⟩,
     ⟨some 3, .alloc [(.int .i64 0), (.str []), (.str [])], none⟩,
     ⟨none, .store 3 (.t 3) (.t 8), none⟩])
  (.seq (.reg [⟨some 9, .faddr 0 (.t 3), none⟩,
      ⟨some 10, .load 1 false (.t 9), none⟩,
      ⟨some 11, .call 71 [(.t 10)], none⟩,
      ⟨some 4, .mov (.t 11), none⟩])
   (.seq (.seq (.reg [⟨some 12, .mov (.t 4), none⟩,
        ⟨some 13, .bin .gtr (.t 12) (.k (.int .i64 0)), none⟩])
     (.cond (.t 13)
      (.reg [⟨some 14, .mov (.t 0), none⟩,
         ⟨some 15, .call 34 [], none⟩,
         ⟨some 16, .call 72 [(.t 14), (.t 15)], none⟩,
         ⟨some 17, .faddr 1 (.t 3), none⟩,
         ⟨none, .store 1 (.t 17) (.t 16), none⟩])
      (.skip)))
    (.seq (.seq (.reg [⟨some 18, .mov (.t 4), none⟩,
         ⟨some 19, .bin .gtr (.t 18) (.k (.int .i64 1)), none⟩])
      (.cond (.t 19)
       (.reg [⟨some 20, .mov (.t 0), none⟩,
          ⟨some 21, .call 34 [], none⟩,
          ⟨some 22, .call 72 [(.t 20), (.t 21)], none⟩,
          ⟨some 23, .faddr 2 (.t 3), none⟩,
          ⟨none, .store 1 (.t 23) (.t 22), none⟩])
       (.skip)))
     (.seq (.reg [⟨some 24, .load 3 true (.t 3), none⟩,
         ⟨none, .store 3 (.t 2) (.t 24), none⟩])
      (.ret))))))⟩
theorem fok_spec_l4Draw : FOk Try.prog 29 code_spec_l4Draw := fok Try.func29 (by kernel_rfl)
@[simp] def ct_l4Draw : CtH := ⟨29, Nat × Cur, fun x H => x.2.buf.length ≤ 1048576 ∧ H[x.1]? = some x.2.cells, fun x => [.pbox x.1 0], fun x _ => encStmt (draw4 x.2).2,
  fun x H => H.set x.1 (draw4 x.2).1.cells ++ [stCells (draw4 x.2).2, stCells (draw4 x.2).2]⟩
set_option maxHeartbeats 4000000 in
set_option maxRecDepth 100000 in
theorem ok_l4Draw : ct_l4Draw.Ok Try.prog := by
  rintro ⟨p, c⟩ H ⟨hbuf, hp⟩
  change c.buf.length ≤ 1048576 at hbuf
  change H[p]? = some c.cells at hp
  have hpl : p < H.length := (List.getElem?_eq_some_iff.1 hp).1
  have hT : TabOk Try.prog _ := tab_h ok_below (tab_h ok_l1Pick (tab_cons ok_l2Vars (tab_cons ok_sNamesOf tab_nil)))
  have hH : H = H.set p c.cells := (set_same hp).symm
  have hgp : ∀ x T, (H.set p x ++ T)[p]? = some x := fun x T => by rw [List.getElem?_append_left (by simpa using hpl), List.getElem?_set_self hpl]
  have hsp : ∀ x y T, (H.set p x ++ T).set p y = H.set p y ++ T := fun x y T => by rw [List.set_append_left _ _ (by simpa using hpl), List.set_set]
  have hsl : ∀ x : Blk, (H.set p x).length = H.length := fun x => by simp
  have hga : ∀ x T k, (H.set p x ++ T)[H.length + k]? = T[k]? := fun x T k => get_at (hsl x)
  have hsa : ∀ x T k y, (H.set p x ++ T).set (H.length + k) y = H.set p x ++ T.set k y := fun x T k y => set_at (hsl x)
  have hg0 : ∀ x T, (H.set p x ++ T)[H.length]? = T[0]? := fun x T => hga x T 0
  have hs0 : ∀ x T y, (H.set p x ++ T).set H.length y = H.set p x ++ T.set 0 y := fun x T y => hsa x T 0 y
  have hb := below_lt c (n := 12) (by omega)
  have hw : IntKind.i64.wrap (1 + c.below 12) = 1 + c.below 12 := by rw [wrap_i64] <;> omega
  have hb1 : c.step.buf.length ≤ 1048576 := hbuf
  have hb2 : c.step.step.buf.length ≤ 1048576 := hbuf
  have hv : encL 1 encStr [[120], [121], [116]] = encL 1 encStr vars3 := rfl
  have hD : draw4 c = if 0 < namesN (1 + c.below 12) then (if 1 < namesN (1 + c.below 12) then (c.step.step.step, ⟨1 + c.below 12, pickS c.step vars3, pickS c.step.step vars3⟩) else (c.step.step, ⟨1 + c.below 12, pickS c.step vars3, []⟩)) else (c.step, ⟨1 + c.below 12, [], []⟩) := rfl
  refine OkH.of_cw' fok_spec_l4Draw ?_
  simp only [ct_l4Draw, hD]
  clear hD
  simp only [code_spec_l4Draw, frame, List.length_cons, List.length_nil, List.replicate, Nat.reduceSub, Nat.reduceAdd, List.cons_append, List.nil_append]
  refine cw_seq (go_ok hT ?_); simp [List.replicate, getHk, getH0, setHk, setH0, Nat.add_assoc]
  rw [hH]
  simp only [hsl]
  refine cw_seq (go_ok hT ?_); simp [List.replicate, hgp, hsp, hbuf, hsl, hga, hsa, hg0, hs0, Nat.add_assoc, cells_inj, hw]
  have F : ∀ n : Int, namesN (1 + c.below 12) = n → n ≤ 3 := fun n h => by subst h; unfold namesN; (repeat' split) <;> omega
  generalize hn : namesN (1 + c.below 12) = n at *
  have e1 : ∀ {α : Type} (a b : α), 0 < n → (if 0 < n then a else b) = a := fun a b h => if_pos h
  by_cases g0 : 0 < n
  · have e0 : vars3.length = 3 := rfl
    by_cases g1 : 1 < n
    · simp only [g0, g1, if_true]
      refine cw_seq (go_ok hT ?_); simp [List.replicate, hga, hg0, hn]
      refine cw_seq (cw_seq (go_ok hT ?_)); simp [List.replicate, g0]
      refine go_ok hT ?_; simp [List.replicate, hga, hgp, hsp, hsa, hv, e0, cells_inj, hb1]
      refine cw_seq (cw_seq (go_ok hT ?_)); simp [List.replicate, g1]
      refine go_ok hT ?_; simp [List.replicate, hga, hgp, hsp, hsa, hv, e0, cells_inj, hb2]
      refine cw_seq (go_ok hT ?_); simp [List.replicate, hga, hg0, hsa, hs0]
      refine go_ok hT ?_; simp [List.replicate, hga, hg0, hsa, hs0, retH, stCells]
    · simp only [g0, g1, if_true, if_false]
      refine cw_seq (go_ok hT ?_); simp [List.replicate, hga, hg0, hn]
      refine cw_seq (cw_seq (go_ok hT ?_)); simp [List.replicate, g0]
      refine go_ok hT ?_; simp [List.replicate, hga, hgp, hsp, hsa, hv, e0, cells_inj, hb1]
      refine cw_seq (cw_seq (go_ok hT ?_)); simp [List.replicate, g1]
      refine go_ok hT ?_; simp [List.replicate]
      refine cw_seq (go_ok hT ?_); simp [List.replicate, hga, hg0, hsa, hs0]
      refine go_ok hT ?_; simp [List.replicate, hga, hg0, hsa, hs0, retH, stCells]
  · simp only [g0, if_false]
    refine cw_seq (go_ok hT ?_); simp [List.replicate, hga, hg0, hn]
    refine cw_seq (cw_seq (go_ok hT ?_)); simp [List.replicate, g0]
    have g1 : ¬ 1 < n := by omega
    refine go_ok hT ?_; simp [List.replicate]
    refine cw_seq (cw_seq (go_ok hT ?_)); simp [List.replicate, g1]
    refine go_ok hT ?_; simp [List.replicate]
    refine cw_seq (go_ok hT ?_); simp [List.replicate, hga, hg0, hsa, hs0]
    refine go_ok hT ?_; simp [List.replicate, hga, hg0, hsa, hs0, retH, stCells]
/-- Bent. -/
def bentA : List (List UInt8) := [[], [120], [113], [88]]
def bentA2 : List (List UInt8) := [[], [121], [113]]
def bent4 (c : Cur) : Cur × Stmt :=
  if (draw4 c).1.below 8 = 0 then ((draw4 c).1.step.step, ⟨(draw4 c).1.step.below 15 - 1, (draw4 c).2.a, (draw4 c).2.b⟩)
  else if (draw4 c).1.below 8 = 1 then ((draw4 c).1.step.step, ⟨(draw4 c).2.kind, pickS (draw4 c).1.step bentA, (draw4 c).2.b⟩)
  else if (draw4 c).1.below 8 = 2 then ((draw4 c).1.step.step, ⟨(draw4 c).2.kind, (draw4 c).2.a, pickS (draw4 c).1.step bentA2⟩)
  else ((draw4 c).1.step, (draw4 c).2)
theorem bent4_buf (c : Cur) : (bent4 c).1.buf = c.buf := by
  unfold bent4
  (repeat' split) <;> exact draw4_buf c
def code_spec_l4Bent : F := ⟨27, [.cell 3 true 2],
 .seq (.reg [⟨some 2, .alloc [(.int .i64 0), (.str []), (.str [])], none⟩])
 (.seq (.reg [⟨some 4, .mov (.t 0), none⟩,
     ⟨some 5, .call 29 [(.t 4)], none⟩,
     ⟨some 3, .alloc [(.int .i64 0), (.str []), (.str [])], none⟩,
     ⟨none, .store 3 (.t 3) (.t 5), none⟩])
  (.seq (.seq (.reg [⟨some 6, .mov (.t 0), none⟩,
       ⟨some 7, .call 58 [(.t 6), (.k (.int .i64 8))], none⟩])
    (.block 0 (.seq (.reg [⟨some 9, .bin .eql (.t 7) (.k (.int .i64 0)), none⟩,
         ⟨some 8, .mov (.t 9), none⟩])
      (.cond (.t 8)
       (.reg [⟨some 10, .mov (.t 0), none⟩,
          ⟨some 11, .call 58 [(.t 10), (.k (.int .i64 15))], none⟩,
          ⟨some 12, .bin .sub (.t 11) (.k (.int .i64 1)), none⟩,
          ⟨some 13, .faddr 0 (.t 3), none⟩,
          ⟨none, .store 1 (.t 13) (.t 12), none⟩])
       (.seq (.reg [⟨some 15, .bin .eql (.t 7) (.k (.int .i64 1)), none⟩,
           ⟨some 14, .mov (.t 15), none⟩])
        (.cond (.t 14)
         (.reg [⟨some 16, .mov (.t 0), none⟩,
            ⟨some 17, .bsl 9 1 4 (.str []) [(0, (.k (.str []))), (1, (.k (.str [120]))), (2, (.k (.str [113]))), (3, (.k (.str [88])))], none⟩,
            ⟨some 18, .call 72 [(.t 16), (.t 17)], none⟩,
            ⟨some 19, .faddr 1 (.t 3), none⟩,
            ⟨none, .store 1 (.t 19) (.t 18), none⟩])
         (.seq (.reg [⟨some 21, .bin .eql (.t 7) (.k (.int .i64 2)), none⟩,
             ⟨some 20, .mov (.t 21), none⟩])
          (.cond (.t 20)
           (.reg [⟨some 22, .mov (.t 0), none⟩,
              ⟨some 23, .bsl 9 1 3 (.str []) [(0, (.k (.str []))), (1, (.k (.str [121]))), (2, (.k (.str [113])))], none⟩,
              ⟨some 24, .call 72 [(.t 22), (.t 23)], none⟩,
              ⟨some 25, .faddr 2 (.t 3), none⟩,
              ⟨none, .store 1 (.t 25) (.t 24), none⟩])
           (.skip)))))))))
   (.seq (.reg [⟨some 26, .load 3 true (.t 3), none⟩,
       ⟨none, .store 3 (.t 2) (.t 26), none⟩])
    (.ret))))⟩
theorem fok_spec_l4Bent : FOk Try.prog 31 code_spec_l4Bent := fok Try.func31 (by kernel_rfl)
@[simp] def ct_l4Bent : CtH := ⟨31, Nat × Cur, fun x H => x.2.buf.length ≤ 1048576 ∧ H[x.1]? = some x.2.cells, fun x => [.pbox x.1 0], fun x _ => encStmt (bent4 x.2).2,
  fun x H => H.set x.1 (bent4 x.2).1.cells ++ [stCells (bent4 x.2).2, .dead, .dead, stCells (bent4 x.2).2]⟩
set_option maxHeartbeats 4000000 in
set_option maxRecDepth 100000 in
theorem ok_l4Bent : ct_l4Bent.Ok Try.prog := by
  rintro ⟨p, c⟩ H ⟨hbuf, hp⟩
  change c.buf.length ≤ 1048576 at hbuf
  change H[p]? = some c.cells at hp
  have hpl : p < H.length := (List.getElem?_eq_some_iff.1 hp).1
  have hT : TabOk Try.prog _ := tab_h ok_below (tab_h ok_l4Draw (tab_h ok_l1PickR tab_nil))
  have hH : H = H.set p c.cells := (set_same hp).symm
  have hgp : ∀ x T, (H.set p x ++ T)[p]? = some x := fun x T => by rw [List.getElem?_append_left (by simpa using hpl), List.getElem?_set_self hpl]
  have hsp : ∀ x y T, (H.set p x ++ T).set p y = H.set p y ++ T := fun x y T => by rw [List.set_append_left _ _ (by simpa using hpl), List.set_set]
  have hsl : ∀ x : Blk, (H.set p x).length = H.length := fun x => by simp
  have hga : ∀ x T k, (H.set p x ++ T)[H.length + k]? = T[k]? := fun x T k => get_at (hsl x)
  have hsa : ∀ x T k y, (H.set p x ++ T).set (H.length + k) y = H.set p x ++ T.set k y := fun x T k y => set_at (hsl x)
  have hg0 : ∀ x T, (H.set p x ++ T)[H.length]? = T[0]? := fun x T => hga x T 0
  have hs0 : ∀ x T y, (H.set p x ++ T).set H.length y = H.set p x ++ T.set 0 y := fun x T y => hsa x T 0 y
  have hcw : ∀ (c : Cur) n H2, SlB n H2 c.cells c.cells := fun c n H2 => by simp [Cur.cells]
  have hD : bent4 c = if (draw4 c).1.below 8 = 0 then ((draw4 c).1.step.step, ⟨(draw4 c).1.step.below 15 - 1, (draw4 c).2.a, (draw4 c).2.b⟩)
    else if (draw4 c).1.below 8 = 1 then ((draw4 c).1.step.step, ⟨(draw4 c).2.kind, pickS (draw4 c).1.step bentA, (draw4 c).2.b⟩)
    else if (draw4 c).1.below 8 = 2 then ((draw4 c).1.step.step, ⟨(draw4 c).2.kind, (draw4 c).2.a, pickS (draw4 c).1.step bentA2⟩)
    else ((draw4 c).1.step, (draw4 c).2) := rfl
  have hdb := draw4_buf c
  refine OkH.of_self fun hB => OkH.of_cw fok_spec_l4Bent ?_
  have hB2 : ∀ x : Cur, SelfB (H.set p x.cells) := fun x => selfB_set hB fun n H2 => hcw x n H2
  simp only [code_spec_l4Bent, frame, List.length_cons, List.length_nil, List.replicate, Nat.reduceSub, Nat.reduceAdd, List.cons_append, List.nil_append]
  refine cw_seq (go_ok hT ?_); simp [List.replicate, getHk, getH0, setHk, setH0, Nat.add_assoc]
  rw [hH]
  simp only [hsl]
  simp only [hD]
  clear hD
  refine cw_seq (go_ok hT ?_); simp [List.replicate, hgp, hsp, hbuf, hsl, hga, hsa, hg0, hs0, Nat.add_assoc, cells_inj]
  refine ⟨c, hbuf, rfl, ?_⟩
  generalize draw4 c = R at *
  obtain ⟨e, ⟨k, a, b⟩⟩ := R
  simp only at hdb ⊢
  have he : e.buf.length ≤ 1048576 := by rw [hdb]; exact hbuf
  have he1 : e.step.buf.length ≤ 1048576 := he
  have hx15 := below_lt e.step (n := 15) (by omega)
  have hw15 : IntKind.i64.wrap (e.step.below 15 - 1) = e.step.below 15 - 1 := by rw [wrap_i64] <;> omega
  have hp1 : p ≠ H.length + 4 := by omega
  have e1 : bentA.length = 4 := rfl
  have e2 : bentA2.length = 3 := rfl
  by_cases b0 : e.below 8 = 0
  · simp only [b0, if_true]
    refine cw_seq (go_ok hT ?_); simp [List.replicate, hgp, hsp, hsl, hga, hsa, hg0, hs0, Nat.add_assoc, cells_inj, he, he1, b0, hw15]
    refine cw_weak (weak_sealH (t' := slots 27 [(2, .pbox H.length 0), (3, .pbox (H.length + 3) 0)]) 4 (hB2 _) (by simp) (X' := [.cells [.int .i64 0, .str [], .str []], .dead, .dead, .cells [.int .i64 (e.step.below 15 - 1), .str (a), .str (b)]]) (by simp) (by simp [List.replicate])) ?_
    refine cw_seq (go_ok hT ?_); simp [List.replicate, hga, hg0, hsa, hs0]
    refine go_ok hT ?_; simp [List.replicate, hga, hg0, hsa, hs0, retH, stCells]
    exact ⟨_, Weak.refl _ _, by simp [retH, List.replicate, hga, hg0]⟩
  by_cases b1 : e.below 8 = 1
  · simp only [b1, if_true, if_neg (show ¬ (1 : Int) = 0 by omega)]
    refine cw_seq (go_ok hT ?_); simp [List.replicate, hgp, hsp, hsl, hga, hsa, hg0, hs0, Nat.add_assoc, cells_inj, he, he1, b1]
    refine ⟨e.step, 9, bentA, rfl, rfl, by decide, by decide, he1, hp1, rfl, rfl, ?_⟩
    refine cw_weak (weak_sealH (t' := slots 27 [(2, .pbox H.length 0), (3, .pbox (H.length + 3) 0)]) 4 (hB2 _) (by simp) (X' := [.cells [.int .i64 0, .str [], .str []], .dead, .dead, .cells [.int .i64 (k), .str (pickS e.step bentA), .str (b)]]) (by simp) (by simp [List.replicate])) ?_
    refine cw_seq (go_ok hT ?_); simp [List.replicate, hga, hg0, hsa, hs0]
    refine go_ok hT ?_; simp [List.replicate, hga, hg0, hsa, hs0, retH, stCells]
    exact ⟨_, Weak.refl _ _, by simp [retH, List.replicate, hga, hg0]⟩
  by_cases b2 : e.below 8 = 2
  · simp only [b2, if_true, if_neg (show ¬ (2 : Int) = 0 by omega), if_neg (show ¬ (2 : Int) = 1 by omega)]
    refine cw_seq (go_ok hT ?_); simp [List.replicate, hgp, hsp, hsl, hga, hsa, hg0, hs0, Nat.add_assoc, cells_inj, he, he1, b2]
    refine ⟨e.step, 9, bentA2, rfl, rfl, by decide, by decide, he1, hp1, rfl, rfl, ?_⟩
    refine cw_weak (weak_sealH (t' := slots 27 [(2, .pbox H.length 0), (3, .pbox (H.length + 3) 0)]) 4 (hB2 _) (by simp) (X' := [.cells [.int .i64 0, .str [], .str []], .dead, .dead, .cells [.int .i64 (k), .str (a), .str (pickS e.step bentA2)]]) (by simp) (by simp [List.replicate])) ?_
    refine cw_seq (go_ok hT ?_); simp [List.replicate, hga, hg0, hsa, hs0]
    refine go_ok hT ?_; simp [List.replicate, hga, hg0, hsa, hs0, retH, stCells]
    exact ⟨_, Weak.refl _ _, by simp [retH, List.replicate, hga, hg0]⟩
  · simp only [b0, b1, b2, if_false]
    refine cw_seq (go_ok hT ?_); simp [List.replicate, hgp, hsp, hsl, hga, hsa, hg0, hs0, Nat.add_assoc, cells_inj, he, he1, b0, b1, b2]
    refine cw_weak (weak_sealH (t' := slots 27 [(2, .pbox H.length 0), (3, .pbox (H.length + 3) 0)]) 4 (hB2 _) (by simp) (X' := [.cells [.int .i64 0, .str [], .str []], .dead, .dead, .cells [.int .i64 (k), .str (a), .str (b)]]) (by simp) (by simp [List.replicate])) ?_
    refine cw_seq (go_ok hT ?_); simp [List.replicate, hga, hg0, hsa, hs0]
    refine go_ok hT ?_; simp [List.replicate, hga, hg0, hsa, hs0, retH, stCells]
    exact ⟨_, Weak.refl _ _, by simp [retH, List.replicate, hga, hg0]⟩
def code_spec_DrawExecName : F := ⟨7, [.tmp 2],
 .seq (.reg [⟨some 2, .mov (.k (.int .i64 0)), none⟩])
 (.seq (.reg [⟨some 3, .mov (.t 0), none⟩,
     ⟨some 4, .call 28 [(.t 3)], none⟩,
     ⟨some 5, .call 58 [(.t 4), (.k (.int .i64 10))], none⟩,
     ⟨some 6, .bin .sub (.t 5) (.k (.int .i64 1)), none⟩,
     ⟨some 2, .mov (.t 6), none⟩])
  (.ret))⟩
theorem fok_spec_DrawExecName : FOk Try.prog 9 code_spec_DrawExecName := fok Try.func9 (by kernel_rfl)
def drawName (bs : List UInt8) : Int := (cur0 bs).below 10 - 1
@[simp] def ct_DrawExecName : Ct := ⟨9, List UInt8, fun bs => bs.length ≤ 1048576, fun bs => [encL 1 encU bs], fun bs => .int .i64 (drawName bs)⟩
set_option maxHeartbeats 1000000 in
theorem ok_DrawExecName : ct_DrawExecName.Ok Try.prog := by
  intro bs hbs
  change List UInt8 at bs
  change bs.length ≤ 1048576 at hbs
  have hb := below_lt (cur0 bs) (n := 10) (by omega)
  have hw : IntKind.i64.wrap ((cur0 bs).below 10 - 1) = (cur0 bs).below 10 - 1 := by rw [wrap_i64] <;> omega
  have hT : TabOk Try.prog _ := tab_h ok_l1New (tab_h ok_below tab_nil)
  refine Ok.of_cw fok_spec_DrawExecName (go_ok hT ?_)
  simp [code_spec_DrawExecName, List.replicate, hbs, cells_inj, drawName]
  exact ⟨hbs, hw.symm⟩
/-- What is drawn for Exec: a statement and a heap. -/
def drawE1 (bs : List UInt8) : Cur × Stmt := if (draw4 (cur0 bs)).1.below 12 = 0 then bent4 (draw4 (cur0 bs)).1.step else ((draw4 (cur0 bs)).1.step, (draw4 (cur0 bs)).2)
def drawE2 (c : Cur) : Heap := if (drawY c 3).1.below 12 = 0 then (bentR (drawY c 3).1.step).2.2 else drawH c 3
def drawEx (bs : List UInt8) : Stmt × Heap := ((drawE1 bs).2, drawE2 (drawE1 bs).1)
def code_spec_DrawExec : F := ⟨28, [.tmp 2, .cell 3 true 3, .cell 2 true 4],
 .seq (.reg [⟨some 2, .mov (.k (.sl .nil 0 [])), none⟩,
    ⟨some 3, .alloc [(.int .i64 0), (.str []), (.str [])], none⟩,
    ⟨some 4, .alloc [(.sl .nil 0 []), (.sl .nil 0 [])], none⟩])
 (.seq (.reg [⟨some 8, .mov (.t 0), none⟩,
     ⟨some 9, .call 28 [(.t 8)], none⟩,
     ⟨some 5, .mov (.t 9), none⟩])
  (.seq (.reg [⟨some 10, .mov (.t 5), none⟩,
      ⟨some 11, .call 29 [(.t 10)], none⟩,
      ⟨some 6, .alloc [(.int .i64 0), (.str []), (.str [])], none⟩,
      ⟨none, .store 3 (.t 6) (.t 11), none⟩])
   (.seq (.seq (.reg [⟨some 12, .mov (.t 5), none⟩,
        ⟨some 13, .call 30 [(.t 12), (.k (.int .i64 12))], none⟩])
     (.cond (.t 13)
      (.reg [⟨some 14, .mov (.t 5), none⟩,
         ⟨some 15, .call 31 [(.t 14)], none⟩,
         ⟨none, .store 3 (.t 6) (.t 15), none⟩])
      (.skip)))
    (.seq (.reg [⟨some 16, .mov (.t 5), none⟩,
        ⟨some 17, .call 32 [(.t 16), (.k (.int .i64 3))], none⟩,
        ⟨some 7, .alloc [(.sl .nil 0 []), (.sl .nil 0 [])], none⟩,
        ⟨none, .store 2 (.t 7) (.t 17), none⟩])
     (.seq (.seq (.reg [⟨some 18, .mov (.t 5), none⟩,
          ⟨some 19, .call 30 [(.t 18), (.k (.int .i64 12))], none⟩])
       (.cond (.t 19)
        (.reg [⟨some 21, .mov (.t 5), none⟩,
           ⟨some 22, .call 33 [(.t 21)], none⟩,
           ⟨some 20, .mov (.t 22), none⟩,
           ⟨some 23, .extr (.t 20) 0, none⟩,
           ⟨some 24, .extr (.t 20) 1, none⟩,
           ⟨none, .store 2 (.t 7) (.t 24), none⟩])
        (.skip)))
      (.seq (.dreg [false, false, false, false, false, true] [true, false, false, false, false, false] [⟨some 25, .call 34 [], none⟩,
          ⟨some 26, .load 3 true (.t 6), none⟩,
          ⟨some 27, .load 2 true (.t 7), none⟩,
          ⟨some 2, .mov (.t 25), none⟩,
          ⟨none, .store 3 (.t 3) (.t 26), none⟩,
          ⟨none, .store 2 (.t 4) (.t 27), none⟩])
       (.ret)))))))⟩
theorem fok_spec_DrawExec : FOk Try.prog 6 code_spec_DrawExec := fok Try.func6 (by kernel_rfl)
@[simp] def ct_DrawExec : Ct := ⟨6, List UInt8, fun bs => bs.length ≤ 1048576, fun bs => [encL 1 encU bs], fun bs => .tup [encL 1 encStr vars3, encStmt (drawEx bs).1, encHeap (drawEx bs).2]⟩
theorem drawE1_buf (bs : List UInt8) : (drawE1 bs).1.buf = bs := by
  have h0 := draw4_buf (cur0 bs)
  unfold drawE1
  split
  · rw [bent4_buf]; exact h0
  · exact h0
set_option maxHeartbeats 4000000 in
set_option maxRecDepth 100000 in
theorem ok_DrawExec : ct_DrawExec.Ok Try.prog := by
  intro bs hbs
  change List UInt8 at bs
  change bs.length ≤ 1048576 at hbs
  have hT : TabOk Try.prog _ := tab_h ok_l1New (tab_h ok_l4Draw (tab_h ok_l4Bent (tab_h ok_once (tab_h ok_l7Draw (tab_h ok_l7Bent (tab_cons ok_l2Vars tab_nil))))))
  refine Ok.of_cw fok_spec_DrawExec ?_
  simp only [code_spec_DrawExec, frame, List.length_cons, List.length_nil, List.replicate, Nat.reduceSub, Nat.reduceAdd, List.cons_append, List.nil_append]
  refine cw_seq (go_ok hT ?_); simp [List.replicate]
  refine cw_seq (go_ok hT ?_); simp [List.replicate, hbs]
  refine cw_seq (go_ok hT ?_); simp [List.replicate, hbs, cells_inj]
  refine ⟨cur0 bs, hbs, rfl, ?_⟩
  have h0 := draw4_buf (cur0 bs)
  have hE : drawE1 bs = if (draw4 (cur0 bs)).1.below 12 = 0 then bent4 (draw4 (cur0 bs)).1.step else ((draw4 (cur0 bs)).1.step, (draw4 (cur0 bs)).2) := rfl
  have hEb : (drawE1 bs).1.buf.length ≤ 1048576 := by rw [drawE1_buf]; exact hbs
  have hEx : drawEx bs = ((drawE1 bs).2, drawE2 (drawE1 bs).1) := rfl
  have hcb : (draw4 (cur0 bs)).1.buf.length ≤ 1048576 := by rw [h0]; exact hbs
  simp only [hEx]
  generalize draw4 (cur0 bs) = R at *
  obtain ⟨c1, s1⟩ := R
  simp only at h0 hE hcb ⊢
  have hc1 : c1.step.buf.length ≤ 1048576 := hcb
  have C0 : ∀ n H2 (c : Cur), SlB n H2 c.cells c.cells := fun n H2 c => by simp [Cur.cells]
  refine cw_to ⟨slots 28 [(3, .pbox 0 0), (4, .pbox 3 0), (5, .pbox 4 0), (6, .pbox 7 0)], [.cells [.int .i64 0, .str [], .str []], .nrow, .nrow, .cells [.slref 1 0 0 0, .slref 2 0 0 0], (drawE1 bs).1.cells, .dead, .dead, stCells (drawE1 bs).2]⟩ ?_ ?_
  · by_cases g : c1.below 12 = 0
    · rw [if_pos g] at hE
      refine go_ok hT ?_; simp [List.replicate, hcb, cells_inj, g]
      refine ⟨c1.step, hc1, rfl, ?_⟩
      rw [hE]
      exact weak_seal 8 (by simp) (by simp [Cur.cells, stCells]) (by simp [List.replicate])
    · rw [if_neg g] at hE
      refine go_ok hT ?_; simp [List.replicate, hcb, cells_inj, g]
      rw [hE]
      exact weak_seal 8 (by simp) (by simp [Cur.cells, stCells]) (by simp [List.replicate])
  clear hE
  generalize drawE1 bs = R at *
  obtain ⟨c2, s2⟩ := R
  simp only at hEb ⊢
  refine cw_seq (go_ok hT ?_); simp [List.replicate, hEb, cells_inj]
  refine ⟨c2, 3, rfl, by omega, hEb, rfl, ?_⟩
  have hE2 : drawE2 c2 = if (drawY c2 3).1.below 12 = 0 then (bentR (drawY c2 3).1.step).2.2 else drawH c2 3 := rfl
  have hyb : (drawY c2 3).1.buf.length ≤ 1048576 := by
    obtain ⟨-, a2, -⟩ := drawA_ok c2.step (drawN c2)
    obtain ⟨-, b2, -⟩ := drawB_ok (drawN c2) (drawX c2).1 3
    have e : (drawY c2 3).1.buf = c2.buf := b2.trans a2
    rw [e]; exact hEb
  generalize drawH c2 3 = h at *
  generalize (drawY c2 3).1 = c3 at *
  generalize drawE2 c2 = w at *
  have hys : c3.step.buf.length ≤ 1048576 := hyb
  refine cw_weak (weak_seal (n0 := 0) 28 (by simp) (t' := slots 28 [(3, .pbox 0 0), (4, .pbox 3 0), (5, .pbox 4 0), (6, .pbox 7 0), (7, .pbox 27 0)]) (H' := [.cells [.int .i64 0, .str [], .str []], .nrow, .nrow, .cells [.slref 1 0 0 0, .slref 2 0 0 0], c3.cells, .dead, .dead, stCells s2] ++ List.replicate 15 .dead ++ [.row true 3 1 (h.vars.map encInt), .row true 3 1 (h.next.map encInt), .dead, .dead, .cells [.slref 23 0 h.vars.length h.vars.length, .slref 24 0 h.next.length h.next.length]]) (by simp [List.replicate, Cur.cells, stCells]) (by simp [List.replicate])) ?_
  by_cases g : c3.below 12 = 0
  · rw [if_pos g] at hE2
    refine cw_to ⟨slots 28 [(3, .pbox 0 0), (4, .pbox 3 0), (6, .pbox 7 0), (7, .pbox 27 0)], [.cells [.int .i64 0, .str [], .str []], .nrow, .nrow, .cells [.slref 1 0 0 0, .slref 2 0 0 0], .dead, .dead, .dead, stCells s2] ++ List.replicate 19 .dead ++ [.cells [encL 1 encInt w.vars, encL 1 encInt w.next]]⟩ ?_ ?_
    · refine go_ok hT ?_; simp [List.replicate, hyb, cells_inj, g]
      refine ⟨c3.step, hys, rfl, ?_⟩
      rw [hE2]
      exact weak_seal 28 (by simp) (by simp [List.replicate, Cur.cells, stCells]) (by simp [List.replicate])
    · simp only [slots]
      refine cw_seq (cw_dreg8K hT [] _ [none, none, none, none, some 0, some 3] [false :: true :: true :: false :: List.replicate 30 true, false :: true :: true :: false :: List.replicate 30 true, false :: true :: true :: false :: List.replicate 30 true, false :: true :: true :: false :: List.replicate 30 true, true :: true :: true :: false :: List.replicate 30 true, false :: true :: true :: true :: List.replicate 30 true] (by rfl) ?_)
      simp [List.replicate, stCells]
      refine go_ok hT ?_; simp [List.replicate, stCells]
      exact ⟨rfl, rfl, rfl⟩
  · rw [if_neg g] at hE2
    refine cw_to ⟨slots 28 [(3, .pbox 0 0), (4, .pbox 3 0), (6, .pbox 7 0), (7, .pbox 27 0)], [.cells [.int .i64 0, .str [], .str []], .nrow, .nrow, .cells [.slref 1 0 0 0, .slref 2 0 0 0], .dead, .dead, .dead, stCells s2] ++ List.replicate 15 .dead ++ [.row true 3 1 (h.vars.map encInt), .row true 3 1 (h.next.map encInt), .dead, .dead, .cells [.slref 23 0 h.vars.length h.vars.length, .slref 24 0 h.next.length h.next.length]]⟩ ?_ ?_
    · refine go_ok hT ?_; simp [List.replicate, hyb, cells_inj, g]
      exact weak_seal 28 (by simp) (by simp [List.replicate, Cur.cells, stCells]) (by simp [List.replicate])
    · rw [hE2]
      refine cw_seq (cw_dreg8K hT [] _ [none, none, none, none, some 0, some 3] [false :: true :: true :: false :: List.replicate 30 true, false :: true :: true :: false :: List.replicate 30 true, false :: true :: true :: false :: List.replicate 30 true, false :: true :: true :: false :: List.replicate 30 true, true :: true :: true :: false :: List.replicate 30 true, false :: true :: true :: true :: List.replicate 30 true] (by rfl) ?_)
      simp [List.replicate, stCells]
      refine go_ok hT ?_; simp [List.replicate, stCells]
      exact ⟨rfl, rfl, rfl⟩
end Go.Vm
