/- The reference's draws of structures. No condition. -/
import Derived.Test.YtfelkhckpfjgjaaGreatDoorTRH
import Derived.Test.YtfelkhckpfjgjaaGreatDoorVme
set_option linter.unusedSimpArgs false
set_option linter.unusedVariables false
namespace Go.Vm
open Go.Proofs
def drawB2 (bs : List UInt8) : Strc := (bent12 (cur0 bs)).2
theorem made_bent {H : List Blk} {p : Nat} {c : Cur} (hbuf : c.buf.length ≤ 1048576) (hp : H[p]? = some c.cells) : ∃ (va vn wa wn : Nat) (L : List Blk),
    Stn H.length (H.set p (bent12 c).1.cells ++ L) (.slref va 0 vn vn) (.slref wa 0 wn wn) (bent12 c).2 ∧ OkH Tryz.prog 21 [.pbox p 0] H (.agg [.slref va 0 vn vn, .slref wa 0 wn wn]) (H.set p (bent12 c).1.cells ++ L) := by
  obtain ⟨va, vn, wa, wn, G, ⟨g1, g2, g3, g4⟩, ok⟩ := made_l12Bent hbuf hp
  have hpl := (List.getElem?_eq_some_iff.1 hp).1
  have e : G = H.set p (bent12 c).1.cells ++ G.drop H.length := by
    apply List.ext_getElem?
    intro j
    by_cases g : j < H.length
    · rw [List.getElem?_append_left (by simpa using g)]
      by_cases q : j = p
      · subst q; rw [g1, List.getElem?_set_self hpl]
      · rw [g3 j g q, List.getElem?_set_ne (Ne.symm q)]
    · rw [List.getElem?_append_right (by simp; omega), List.getElem?_drop]
      congr 1; simp; omega
  refine ⟨va, vn, wa, wn, G.drop H.length, ?_, ?_⟩
  · rw [← e]; exact g4
  · rw [← e]; exact ok
def code_spec_DrawIsDefinite : F := ⟨6, [.cell 2 true 2],
 .seq (.reg [⟨some 2, .alloc [(.sl .nil 0 []), (.sl .nil 0 [])], none⟩])
 (.seq (.reg [⟨some 3, .mov (.t 0), none⟩,
     ⟨some 4, .call 20 [(.t 3)], none⟩,
     ⟨some 5, .call 21 [(.t 4)], none⟩,
     ⟨none, .store 2 (.t 2) (.t 5), none⟩])
  (.ret))⟩
theorem fok_spec_DrawIsDefinite : FOk Tryz.prog 7 code_spec_DrawIsDefinite := fok Tryz.func7 (by kernel_rfl)
@[simp] def ct_DrawIsDefinite : Ct := ⟨7, List UInt8, fun bs => bs.length ≤ 1048576, fun bs => [encL 1 encU bs], fun bs => encStrc (drawB2 bs)⟩
set_option maxHeartbeats 2000000 in
theorem ok_DrawIsDefinite : ct_DrawIsDefinite.Ok Tryz.prog := by
  intro bs hbs
  change List UInt8 at bs
  change bs.length ≤ 1048576 at hbs
  obtain ⟨va, vn, wa, wn, L, g4, ok⟩ := made_bent (H := [.nrow, .nrow, .cells [.slref 0 0 0 0, .slref 1 0 0 0], (cur0 bs).cells]) (p := 3) (c := cur0 bs) hbs rfl
  have okB : CtH.Ok Tryz.prog ⟨21, Unit, fun _ H => H = [.nrow, .nrow, .cells [.slref 0 0 0 0, .slref 1 0 0 0], (cur0 bs).cells], fun _ => [.pbox 3 0], fun _ _ => .agg [.slref va 0 vn vn, .slref wa 0 wn wn], fun _ _ => .nrow :: .nrow :: .cells [.slref 0 0 0 0, .slref 1 0 0 0] :: (bent12 (cur0 bs)).1.cells :: L⟩ := by
    intro x H' hH
    have hH : H' = _ := hH
    rw [hH]; exact ok
  have hT : TabOk Tryz.prog _ := tab_h ok_l1New (tab_h okB tab_nil)
  refine Ok.of_cw fok_spec_DrawIsDefinite ?_
  simp only [code_spec_DrawIsDefinite, frame, List.length_cons, List.length_nil, List.replicate, Nat.reduceSub, Nat.reduceAdd, List.cons_append, List.nil_append]
  refine cw_seq (go_ok hT ?_); simp [List.replicate]
  refine cw_seq (go_ok hT ?_); simp [List.replicate, hbs]
  obtain ⟨l1, l2⟩ := g4 (.nrow :: .nrow :: .cells [.slref va 0 vn vn, .slref wa 0 wn wn] :: (bent12 (cur0 bs)).1.cells :: L) (fun j h1 h2 => by
    obtain ⟨k, rfl⟩ : ∃ k, j = k + 4 := ⟨j - 4, by simp at h1; omega⟩
    rfl)
  refine go_ok tab_nil ?_
  simp [List.replicate, l1, l2]
  rfl
def code_spec_DrawStructureText : F := ⟨8, [.tmp 2, .cell 2 true 3],
 .seq (.reg [⟨some 2, .mov (.k (.sl .nil 0 [])), none⟩,
    ⟨some 3, .alloc [(.sl .nil 0 []), (.sl .nil 0 [])], none⟩])
 (.seq (.reg [⟨some 4, .call 24 [], none⟩,
     ⟨some 5, .mov (.t 0), none⟩,
     ⟨some 6, .call 20 [(.t 5)], none⟩,
     ⟨some 7, .call 21 [(.t 6)], none⟩,
     ⟨some 2, .mov (.t 4), none⟩,
     ⟨none, .store 2 (.t 3) (.t 7), none⟩])
  (.ret))⟩
theorem fok_spec_DrawStructureText : FOk Tryz.prog 8 code_spec_DrawStructureText := fok Tryz.func8 (by kernel_rfl)
@[simp] def ct_DrawStructureText : Ct := ⟨8, List UInt8, fun bs => bs.length ≤ 1048576, fun bs => [encL 1 encU bs], fun bs => .tup [encL 1 encStr [[120], [121], [116]], encStrc (drawB2 bs)]⟩
set_option maxHeartbeats 2000000 in
theorem ok_DrawStructureText : ct_DrawStructureText.Ok Tryz.prog := by
  intro bs hbs
  change List UInt8 at bs
  change bs.length ≤ 1048576 at hbs
  obtain ⟨va, vn, wa, wn, L, g4, ok⟩ := made_bent (H := [.nrow, .nrow, .cells [.slref 0 0 0 0, .slref 1 0 0 0], (cur0 bs).cells]) (p := 3) (c := cur0 bs) hbs rfl
  have okB : CtH.Ok Tryz.prog ⟨21, Unit, fun _ H => H = [.nrow, .nrow, .cells [.slref 0 0 0 0, .slref 1 0 0 0], (cur0 bs).cells], fun _ => [.pbox 3 0], fun _ _ => .agg [.slref va 0 vn vn, .slref wa 0 wn wn], fun _ _ => .nrow :: .nrow :: .cells [.slref 0 0 0 0, .slref 1 0 0 0] :: (bent12 (cur0 bs)).1.cells :: L⟩ := by
    intro x H' hH
    have hH : H' = _ := hH
    rw [hH]; exact ok
  have hT : TabOk Tryz.prog _ := tab_h ok_l1New (tab_h okB (tab_cons ok_l2Vars tab_nil))
  refine Ok.of_cw fok_spec_DrawStructureText ?_
  simp only [code_spec_DrawStructureText, frame, List.length_cons, List.length_nil, List.replicate, Nat.reduceSub, Nat.reduceAdd, List.cons_append, List.nil_append]
  refine cw_seq (go_ok hT ?_); simp [List.replicate]
  refine cw_seq (go_ok hT ?_); simp [List.replicate, hbs]
  obtain ⟨l1, l2⟩ := g4 (.nrow :: .nrow :: .cells [.slref va 0 vn vn, .slref wa 0 wn wn] :: (bent12 (cur0 bs)).1.cells :: L) (fun j h1 h2 => by
    obtain ⟨k, rfl⟩ : ∃ k, j = k + 4 := ⟨j - 4, by simp at h1; omega⟩
    rfl)
  refine go_ok tab_nil ?_
  simp [List.replicate, l1, l2]
  rfl
def code_spec_DrawIsStructure : F := ⟨14, [.tmp 2, .cell 2 true 3],
 .seq (.reg [⟨some 2, .mov (.k (.int .i64 0)), none⟩,
    ⟨some 3, .alloc [(.sl .nil 0 []), (.sl .nil 0 [])], none⟩])
 (.seq (.reg [⟨some 6, .mov (.t 0), none⟩,
     ⟨some 7, .call 20 [(.t 6)], none⟩,
     ⟨some 4, .mov (.t 7), none⟩])
  (.seq (.reg [⟨some 8, .mov (.t 4), none⟩,
      ⟨some 9, .call 21 [(.t 8)], none⟩,
      ⟨some 5, .alloc [(.sl .nil 0 []), (.sl .nil 0 [])], none⟩,
      ⟨none, .store 2 (.t 5) (.t 9), none⟩])
   (.seq (.dreg [false, false, false, false, false, true] [false, false, true, false, false, false] [⟨some 10, .mov (.t 4), none⟩,
       ⟨some 11, .bsl 3 1 5 (.int .i64 0) [(0, (.k (.int .i64 3))), (1, (.k (.int .i64 3))), (2, (.k (.int .i64 3))), (3, (.k (.int .i64 2))), (4, (.k (.int .i64 0)))], none⟩,
       ⟨some 12, .call 22 [(.t 10), (.t 11)], none⟩,
       ⟨some 13, .load 2 true (.t 5), none⟩,
       ⟨some 2, .mov (.t 12), none⟩,
       ⟨none, .store 2 (.t 3) (.t 13), none⟩])
    (.ret))))⟩
theorem fok_spec_DrawIsStructure : FOk Tryz.prog 5 code_spec_DrawIsStructure := fok Tryz.func5 (by kernel_rfl)
def drawI2 (bs : List UInt8) : Int := pickI (bent12 (cur0 bs)).1 [3, 3, 3, 2, 0]
@[simp] def ct_DrawIsStructure : Ct := ⟨5, List UInt8, fun bs => bs.length ≤ 1048576, fun bs => [encL 1 encU bs], fun bs => .tup [.int .i64 (drawI2 bs), encStrc (drawB2 bs)]⟩
theorem bent12_buf (c : Cur) : (bent12 c).1.buf = c.buf := by
  have h := (d12_sh c).2
  unfold bent12
  (repeat' split) <;> exact h
theorem isVoid_cur2 {c : Cur} : isVoid (some c.cells) = false := (rfl)
set_option maxHeartbeats 4000000 in
theorem ok_DrawIsStructure : ct_DrawIsStructure.Ok Tryz.prog := by
  intro bs hbs
  change List UInt8 at bs
  change bs.length ≤ 1048576 at hbs
  obtain ⟨va, vn, wa, wn, L, g4, ok⟩ := made_bent (H := [.nrow, .nrow, .cells [.slref 0 0 0 0, .slref 1 0 0 0], (cur0 bs).cells]) (p := 3) (c := cur0 bs) hbs rfl
  have okB : CtH.Ok Tryz.prog ⟨21, Unit, fun _ H => H = [.nrow, .nrow, .cells [.slref 0 0 0 0, .slref 1 0 0 0], (cur0 bs).cells], fun _ => [.pbox 3 0], fun _ _ => .agg [.slref va 0 vn vn, .slref wa 0 wn wn], fun _ _ => .nrow :: .nrow :: .cells [.slref 0 0 0 0, .slref 1 0 0 0] :: (bent12 (cur0 bs)).1.cells :: L⟩ := by
    intro x H' hH
    have hH : H' = _ := hH
    rw [hH]; exact ok
  have hbuf : (bent12 (cur0 bs)).1.buf.length ≤ 1048576 := by rw [bent12_buf]; exact hbs
  have hLg : ∀ (T : List Blk) k, (L ++ T)[L.length + k]? = T[k]? := fun T k => getHk _ _ _
  have hLs : ∀ (T : List Blk) k y, (L ++ T).set (L.length + k) y = L ++ T.set k y := fun T k y => setHk _ _ _ _
  have hT : TabOk Tryz.prog _ := tab_h ok_l1New (tab_h okB (tab_h ok_l1PickInt tab_nil))
  refine Ok.of_cw fok_spec_DrawIsStructure ?_
  simp only [code_spec_DrawIsStructure, frame, List.length_cons, List.length_nil, List.replicate, Nat.reduceSub, Nat.reduceAdd, List.cons_append, List.nil_append]
  refine cw_seq (go_ok hT ?_); simp [List.replicate]
  refine cw_seq (go_ok hT ?_); simp [List.replicate, hbs]
  refine cw_seq (go_ok hT ?_); simp [List.replicate, hLg, hLs, Nat.add_assoc]
  refine cw_seq (cw_dreg8R hT [_, _, _, _] _ [none, none, some 3, none, none] [[true, true, true, false], [true, true, true, false], [true, true, true, true], [true, true, true, false], [true, true, true, false]] (by rfl) ?_)
  simp [List.replicate, hLg, cells_inj]
  refine ⟨_, (bent12 (cur0 bs)).1, [3, 3, 3, 2, 0], rfl, rfl, by decide, by decide, hbuf, rfl, ?_⟩
  obtain ⟨l1, l2⟩ := g4 (.nrow :: .nrow :: .cells [.slref va 0 vn vn, .slref wa 0 wn wn] :: (bent12 (cur0 bs)).1.step.cells :: (L ++ [.nrow, .nrow, .cells [.slref va 0 vn vn, .slref wa 0 wn wn]])) (fun j h1 h2 => by
    obtain ⟨k, rfl⟩ : ∃ k, j = k + 4 := ⟨j - 4, by simp at h1; omega⟩
    show (L ++ _)[k]? = L[k]?
    exact List.getElem?_append_left (by simp at h2; omega))
  refine go_ok tab_nil ?_
  simp [List.replicate, l1, l2]
  exact ⟨rfl, rfl⟩
def code_spec_DrawNextOf : F := ⟨20, [.cell 2 true 2, .tmp 3, .tmp 4],
 .seq (.reg [⟨some 2, .alloc [(.sl .nil 0 []), (.sl .nil 0 [])], none⟩,
    ⟨some 3, .mov (.k (.int .i64 0)), none⟩,
    ⟨some 4, .mov (.k (.int .i64 0)), none⟩])
 (.seq (.reg [⟨some 8, .mov (.t 0), none⟩,
     ⟨some 9, .call 20 [(.t 8)], none⟩,
     ⟨some 5, .mov (.t 9), none⟩])
  (.seq (.reg [⟨some 10, .mov (.t 5), none⟩,
      ⟨some 11, .call 21 [(.t 10)], none⟩,
      ⟨some 6, .alloc [(.sl .nil 0 []), (.sl .nil 0 [])], none⟩,
      ⟨none, .store 2 (.t 6) (.t 11), none⟩])
   (.seq (.reg [⟨some 12, .mov (.t 5), none⟩,
       ⟨some 13, .call 23 [(.t 12), (.k (.int .i64 5))], none⟩,
       ⟨some 14, .bin .sub (.t 13) (.k (.int .i64 1)), none⟩,
       ⟨some 7, .mov (.t 14), none⟩])
    (.seq (.dreg [false, false, false, false, false, false, false, true] [false, false, false, true, false, false, false, false] [⟨some 15, .load 2 true (.t 6), none⟩,
        ⟨some 16, .mov (.t 7), none⟩,
        ⟨some 17, .mov (.t 5), none⟩,
        ⟨some 18, .call 23 [(.t 17), (.k (.int .i64 5))], none⟩,
        ⟨some 19, .bin .sub (.t 18) (.k (.int .i64 1)), none⟩,
        ⟨none, .store 2 (.t 2) (.t 15), none⟩,
        ⟨some 3, .mov (.t 16), none⟩,
        ⟨some 4, .mov (.t 19), none⟩])
     (.ret)))))⟩
theorem fok_spec_DrawNextOf : FOk Tryz.prog 6 code_spec_DrawNextOf := fok Tryz.func6 (by kernel_rfl)
def drawN1 (bs : List UInt8) : Int := (bent12 (cur0 bs)).1.below 5 - 1
def drawN2 (bs : List UInt8) : Int := (bent12 (cur0 bs)).1.step.below 5 - 1
@[simp] def ct_DrawNextOf : Ct := ⟨6, List UInt8, fun bs => bs.length ≤ 1048576, fun bs => [encL 1 encU bs], fun bs => .tup [encStrc (drawB2 bs), .int .i64 (drawN1 bs), .int .i64 (drawN2 bs)]⟩
set_option maxHeartbeats 4000000 in
theorem ok_DrawNextOf : ct_DrawNextOf.Ok Tryz.prog := by
  intro bs hbs
  change List UInt8 at bs
  change bs.length ≤ 1048576 at hbs
  obtain ⟨va, vn, wa, wn, L, g4, ok⟩ := made_bent (H := [.nrow, .nrow, .cells [.slref 0 0 0 0, .slref 1 0 0 0], (cur0 bs).cells]) (p := 3) (c := cur0 bs) hbs rfl
  have okB : CtH.Ok Tryz.prog ⟨21, Unit, fun _ H => H = [.nrow, .nrow, .cells [.slref 0 0 0 0, .slref 1 0 0 0], (cur0 bs).cells], fun _ => [.pbox 3 0], fun _ _ => .agg [.slref va 0 vn vn, .slref wa 0 wn wn], fun _ _ => .nrow :: .nrow :: .cells [.slref 0 0 0 0, .slref 1 0 0 0] :: (bent12 (cur0 bs)).1.cells :: L⟩ := by
    intro x H' hH
    have hH : H' = _ := hH
    rw [hH]; exact ok
  have hbuf : (bent12 (cur0 bs)).1.buf.length ≤ 1048576 := by rw [bent12_buf]; exact hbs
  have hbuf2 : (bent12 (cur0 bs)).1.step.buf.length ≤ 1048576 := hbuf
  have hx1 := below_lt (bent12 (cur0 bs)).1 (n := 5) (by omega)
  have hx2 := below_lt (bent12 (cur0 bs)).1.step (n := 5) (by omega)
  have hw1 : IntKind.i64.wrap ((bent12 (cur0 bs)).1.below 5 - 1) = (bent12 (cur0 bs)).1.below 5 - 1 := by rw [wrap_i64] <;> omega
  have hw2 : IntKind.i64.wrap ((bent12 (cur0 bs)).1.step.below 5 - 1) = (bent12 (cur0 bs)).1.step.below 5 - 1 := by rw [wrap_i64] <;> omega
  have hLg : ∀ (T : List Blk) k, (L ++ T)[L.length + k]? = T[k]? := fun T k => getHk _ _ _
  have hLs : ∀ (T : List Blk) k y, (L ++ T).set (L.length + k) y = L ++ T.set k y := fun T k y => setHk _ _ _ _
  have hT : TabOk Tryz.prog _ := tab_h ok_l1New (tab_h okB (tab_h ok_below tab_nil))
  refine Ok.of_cw fok_spec_DrawNextOf ?_
  simp only [code_spec_DrawNextOf, frame, List.length_cons, List.length_nil, List.replicate, Nat.reduceSub, Nat.reduceAdd, List.cons_append, List.nil_append]
  refine cw_seq (go_ok hT ?_); simp [List.replicate]
  refine cw_seq (go_ok hT ?_); simp [List.replicate, hbs]
  refine cw_seq (go_ok hT ?_); simp [List.replicate, hLg, hLs, Nat.add_assoc]
  refine cw_seq (go_ok hT ?_); simp [List.replicate, cells_inj, hbuf, hw1]
  refine cw_seq (cw_dreg8R hT [_, _, _, _] _ [none, none, none, some 3, none, some 2, none] [[true, true, false, false], [true, true, false, false], [true, true, false, false], [true, true, false, true], [true, true, false, false], [true, true, true, false], [true, true, false, false]] (by rfl) ?_)
  simp [List.replicate, hLg, cells_inj, hbuf2, hw2]
  obtain ⟨l1, l2⟩ := g4 (.nrow :: .nrow :: .cells [.slref va 0 vn vn, .slref wa 0 wn wn] :: (bent12 (cur0 bs)).1.step.step.cells :: (L ++ [.nrow, .nrow, .cells [.slref va 0 vn vn, .slref wa 0 wn wn]])) (fun j h1 h2 => by
    obtain ⟨k, rfl⟩ : ∃ k, j = k + 4 := ⟨j - 4, by simp at h1; omega⟩
    show (L ++ _)[k]? = L[k]?
    exact List.getElem?_append_left (by simp at h2; omega))
  refine go_ok tab_nil ?_
  simp [List.replicate, l1, l2]
  exact ⟨rfl, rfl, rfl⟩
end Go.Vm

namespace Go.Vm
open Go.Proofs
def cblP (i : Nat) : Nat := 7 * i + 14
def cblQ (i : Nat) : Nat := 7 * i + 15
def cblB (x : Node) : List Blk := [.dead, .dead, .dead, .dead, .dead, .row true 3 1 (x.vars.map encInt), .row true 3 1 (x.reach.map encInt)]
def cblX (f : Nat → Node) : Nat → List Blk
  | 0 => []
  | i + 1 => cblX f i ++ cblB (f i)
def cblE (f : Nat → Node) : Nat → List AV
  | 0 => []
  | i + 1 => cblE f i ++ [aggN cblP cblQ i (f i)]
theorem cblX_len (f : Nat → Node) : ∀ i, (cblX f i).length = 7 * i
  | 0 => rfl
  | i + 1 => by simp [cblX, cblB, cblX_len f i]; omega
theorem cblE_len (f : Nat → Node) : ∀ i, (cblE f i).length = i
  | 0 => rfl
  | i + 1 => by simp [cblE, cblE_len f i]
theorem cblX_get (f : Nat → Node) : ∀ {i j : Nat}, j < i → ∀ k, k < 7 → (cblX f i)[7 * j + k]? = (cblB (f j))[k]?
  | 0, j, h, _, _ => by omega
  | i + 1, j, h, k, hk => by
    by_cases e : j = i
    · subst e
      show (cblX f j ++ cblB (f j))[7 * j + k]? = _
      rw [List.getElem?_append_right (by rw [cblX_len]; omega), cblX_len]
      congr 1; omega
    · show (cblX f i ++ cblB (f i))[7 * j + k]? = _
      rw [List.getElem?_append_left (by rw [cblX_len]; omega)]
      exact cblX_get f (by omega) k hk
theorem cblE_get (f : Nat → Node) : ∀ {i j : Nat}, j < i → (cblE f i)[j]? = some (aggN cblP cblQ j (f j))
  | i + 1, j, h => by
    by_cases e : j = i
    · subst e
      show (cblE f j ++ [_])[j]? = _
      rw [List.getElem?_append_right (by rw [cblE_len]; omega), cblE_len]; simp
    · show (cblE f i ++ [_])[j]? = _
      rw [List.getElem?_append_left (by rw [cblE_len]; omega)]
      exact cblE_get f (by omega)
theorem cblX_own (f : Nat → Node) : ∀ i, ∀ k ∈ cblX f i, ownB k = true
  | 0, k, hk => by cases hk
  | i + 1, k, hk => by
    rcases List.mem_append.1 (show k ∈ cblX f i ++ cblB (f i) from hk) with h | h
    · exact cblX_own f i k h
    · simp only [cblB, List.mem_cons, List.not_mem_nil, or_false] at h
      rcases h with rfl | rfl | rfl | rfl | rfl | rfl | rfl <;> first | rfl | simp [ownB]
theorem cblE_own (f : Nat → Node) : ∀ i, ∀ k ∈ cblE f i, ownV k = true
  | 0, k, hk => by cases hk
  | i + 1, k, hk => by
    rcases List.mem_append.1 (show k ∈ cblE f i ++ [aggN cblP cblQ i (f i)] from hk) with h | h
    · exact cblE_own f i k h
    · simp only [List.mem_cons, List.not_mem_nil, or_false] at h
      subst h
      simp [aggN, ownV, ownVL]
def code_spec_l12Copy : F := ⟨29, [.cell 2 true 2],
 .seq (.reg [⟨some 1, .box (.t 0), none⟩,
    ⟨some 2, .alloc [(.sl .nil 0 []), (.sl .nil 0 [])], none⟩])
 (.seq (.reg [⟨some 5, .bsl 3 1 0 (.int .i64 0) [], none⟩,
     ⟨some 6, .faddr 1 (.t 1), none⟩,
     ⟨some 7, .load 1 false (.t 6), none⟩,
     ⟨some 8, .append 3 1 8 (.t 5) (.t 7), none⟩,
     ⟨some 9, .build [(.sl .nil 0 []), (.sl .nil 0 [])] [(1, 1, (.t 8))], none⟩,
     ⟨some 3, .alloc [(.sl .nil 0 []), (.sl .nil 0 [])], none⟩,
     ⟨none, .store 2 (.t 3) (.t 9), none⟩])
  (.seq (.seq (.reg [⟨some 4, .mov (.k (.int .i64 0)), none⟩])
    (.block 0 (.loop (.seq (.seq (.reg [⟨some 10, .mov (.t 4), none⟩,
           ⟨some 11, .faddr 0 (.t 1), none⟩,
           ⟨some 12, .load 1 false (.t 11), none⟩,
           ⟨some 13, .len (.t 12), none⟩,
           ⟨some 14, .bin .lss (.t 10) (.t 13), none⟩])
        (.cond (.t 14)
         (.skip)
         (.exit 0)))
       (.seq (.block 1 (.dreg [false, false, false, false, false, false, false, false, false, true, true, true] [false, false, false, false, false, false, false, true, false, false, false, false] [⟨some 17, .faddr 0 (.t 3), none⟩,
            ⟨some 18, .load 1 false (.t 17), none⟩,
            ⟨some 19, .faddr 0 (.t 1), none⟩,
            ⟨some 20, .load 1 false (.t 19), none⟩,
            ⟨some 21, .mov (.t 4), none⟩,
            ⟨some 22, .iaddr 4 (.t 20) (.t 21), none⟩,
            ⟨some 23, .load 4 true (.t 22), none⟩,
            ⟨some 24, .call 53 [(.t 23)], none⟩,
            ⟨some 25, .bsl 54 4 1 (.agg [(.sl .nil 0 []), (.sl .nil 0 []), (.int .i64 0), (.int .i64 0)]) [(0, (.t 24))], none⟩,
            ⟨some 26, .append 54 4 64 (.t 18) (.t 25), none⟩,
            ⟨some 27, .faddr 0 (.t 3), none⟩,
            ⟨none, .store 1 (.t 27) (.t 26), none⟩]))
        (.reg [⟨some 15, .mov (.t 4), none⟩,
           ⟨some 16, .bin .add (.t 15) (.k (.int .i64 1)), none⟩,
           ⟨some 4, .mov (.t 16), none⟩]))))))
   (.seq (.reg [⟨some 28, .load 2 true (.t 3), none⟩,
       ⟨none, .store 2 (.t 2) (.t 28), none⟩])
    (.ret))))⟩
theorem fok_spec_l12Copy : FOk Tryz.prog 26 code_spec_l12Copy := fok Tryz.func26 (by kernel_rfl)
def cpH (f : Nat → Node) (n : Nat) (ys : List Int) : List Blk := .dead :: .dead :: .dead :: .cells [.slref 8 0 n n, .slref 4 0 ys.length ys.length] :: .row true 3 1 (ys.map encInt) :: .dead :: .dead :: .dead :: .row true 54 4 (cblE f n) :: cblX f n
set_option maxHeartbeats 8000000 in
set_option maxRecDepth 100000 in
theorem ok_l12CopyH (ns : List Node) (nx : List Int) (hx : szStrc ⟨ns, nx⟩ ≤ 1048576) (hn : ns.length ≤ 10) :
    OkH Tryz.prog 26 [encStrc ⟨ns, nx⟩] [] (.agg [.slref 8 0 ns.length ns.length, .slref 4 0 nx.length nx.length]) (cpH (fun i => ns.getD i default) ns.length nx) := by
  have hxl : nx.length ≤ 1048576 := by have h : szStrc ⟨ns, nx⟩ = szNodes ns + nx.length := rfl; omega
  have hb : nx.length * 8 ≤ 140737488355328 := by omega
  have hsz : ∀ y ∈ ns, szNode y ≤ 1048576 := fun y hy => by
    have h1 := sum_mem szNode hy
    have h2 : szStrc ⟨ns, nx⟩ = szNodes ns + nx.length := rfl
    have h3 : szNodes ns = ns.length + (ns.map szNode).sum := rfl
    omega
  have hf : ∀ i (h : i < ns.length), (fun i => ns.getD i default) i = ns[i] := fun i h => by simp [List.getD_eq_getElem?_getD, h]
  generalize (fun i => ns.getD i default) = f at *
  refine OkH.of_cw fok_spec_l12Copy ?_
  simp only [code_spec_l12Copy, frame, List.length_cons, List.length_nil, List.replicate, Nat.reduceSub, Nat.reduceAdd, List.cons_append, List.nil_append]
  refine cw_seq (go_ok tab_nil ?_); simp [List.replicate]
  refine cw_seq (go_ok tab_nil ?_); simp [List.replicate, hb, -appRow, appRow_all]
  refine cw_seq (go_ok tab_nil ?_); simp [List.replicate]
  refine cw_round (fun (i : Nat) => ⟨slots 29 [(1, .pbox 0 0), (2, .pbox 3 0), (3, .pbox 7 0), (4, .int .i64 i)], .cells [encL 4 encNode ns, encL 1 encInt nx] :: .nrow :: .nrow :: .cells [.slref 1 0 0 0, .slref 2 0 0 0] :: .row true 3 1 (nx.map encInt) :: .dead :: .dead :: .cells [.slref 8 0 i i, .slref 4 0 nx.length nx.length] :: .row true 54 4 (cblE f i) :: cblX f i⟩)
    (fun i => i ≤ ns.length) (fun i => ns.length - i) 0 (by simp) ?_ ?_
  · refine (weak_row 8 54 4 rfl).trans (weak_less ?_ ?_)
    · simp [cblE, cblX]
    · simp [List.replicate]
  rintro N hN i hi
  change i ≤ ns.length at hi
  have hw : IntKind.i64.wrap ((i : Int) + 1) = ((i + 1 : Nat) : Int) := by rw [wrap_i64] <;> omega
  by_cases q : i < ns.length
  case neg =>
    have e : i = ns.length := by omega
    subst e
    refine go_ok tab_nil ?_
    simp [List.replicate]
    refine go_ok tab_nil ?_
    simp [List.replicate]
    refine ⟨⟨slots 29 [(2, .pbox 3 0)], _⟩, weak_less (H' := cpH f ns.length nx) (by simp [cpH]) (by simp [List.replicate]), ?_⟩
    simp [retH, List.replicate, cpH]
  have q2 : ¬ ns.length ≤ i := by omega
  have hel := cblE_len f i
  have hXl := cblX_len f i
  have hs1 := hsz ns[i] (List.getElem_mem q)
  have hXs : cblX f (i + 1) = cblX f i ++ cblB (f i) := rfl
  have hEs : cblE f (i + 1) = cblE f i ++ [aggN cblP cblQ i (f i)] := rfl
  have hfi := hf i q
  have hN' := fun st h => hN i (i + 1) st (by show i + 1 ≤ ns.length; omega) (by omega) h
  rw [hXs, hEs, hfi] at hN'
  clear hN hf hXs hEs
  generalize cblX f i = X at *
  generalize cblE f i = els at *
  refine cw_seq (go_ok tab_nil ?_)
  simp [List.replicate, q, q2]
  refine cw_seq (cw_block ?_)
  have hT : TabOk Tryz.prog _ := tab_h (CtN.hok ok_CopyNode) tab_nil
  refine cw_weak weak_void ?_
  refine cw_dreg9K hT _ [true, false] [[.void], []] [none, none, none, none, none, none, none, some 1, some 0] [[], [], [], [], [], [], [], [false, true], [true, true]] (by rfl) (one_cons (fun _ => rfl) (one_cons (by simp) one_nil)) (by rfl) ?_
  simp [List.replicate, q]
  refine ⟨_, fun x x1 => ⟨rfl, rfl⟩, encL 4 encNode ns, fun x x1 => ⟨_, rfl, rfl⟩, ?_⟩
  simp [List.replicate, q]
  refine ⟨hs1, ?_⟩
  have hb1 : (i + 1) * 64 ≤ 140737488355328 := by omega
  have hno : ¬ i + 1 ≤ i := by omega
  have htk : List.take i els = els := List.take_of_length_le (by omega)
  generalize ns[i] = x at *
  simp [cpR, cpN, AV.stored, hel, hb1, hno, htk, offB, offE, offC, offR, Nat.add_assoc]
  refine go_ok tab_nil ?_
  simp [List.replicate, hw]
  exact hN' _ (weak_less (by simp [aggN, cblP, cblQ, hXl, cblB]) (by simp [List.replicate]))
theorem made_Copy (x : Strc) (hx : szStrc x ≤ 1048576) (hn : x.nodes.length ≤ 10) : ∃ (a c : Nat) (els : List AV) (p q : Nat → Nat) (N : List Blk),
    OkH Tryz.prog 26 [encStrc x] [] (.agg [.slref a 0 x.nodes.length x.nodes.length, .slref c 0 x.next.length x.next.length]) N ∧ (∀ k ∈ N, ownB k = true) ∧
    N[a]? = some (.row true 54 4 els) ∧ NIx N els x.nodes p q ∧ N[c]? = some (.row true 3 1 (x.next.map encInt)) := by
  obtain ⟨ns, nx⟩ := x
  have ok := ok_l12CopyH ns nx hx hn
  have hf : ∀ i (h : i < ns.length), (fun i => ns.getD i default) i = ns[i] := fun i h => by simp [List.getD_eq_getElem?_getD, h]
  generalize (fun i => ns.getD i default) = f at *
  have hget : ∀ i y, ns[i]? = some y → i < ns.length ∧ y = f i := fun i y hy => by
    obtain ⟨hi, e⟩ := List.getElem?_eq_some_iff.1 hy
    exact ⟨hi, by rw [hf i hi, e]⟩
  have hX : ∀ j, (cpH f ns.length nx)[j + 9]? = (cblX f ns.length)[j]? := fun j => rfl
  refine ⟨8, 4, cblE f ns.length, cblP, cblQ, cpH f ns.length nx, ok, ?_, rfl, ⟨cblE_len _ _, fun i y hy => ?_, fun i y hy => ?_, fun i y hy => ?_, fun i j _ _ e => by unfold cblP at e; omega, fun i j _ _ e => by unfold cblQ at e; omega, fun i j _ _ e => by unfold cblP cblQ at e; omega⟩, rfl⟩
  · intro k hk
    simp only [cpH, List.mem_cons] at hk
    rcases hk with rfl | rfl | rfl | rfl | rfl | rfl | rfl | rfl | rfl | hk
    · rfl
    · rfl
    · rfl
    · rfl
    · simp [ownB]
    · rfl
    · rfl
    · rfl
    · rw [ownB, ownVL_all, List.all_eq_true]; exact cblE_own f _
    · exact cblX_own f _ k hk
  · obtain ⟨hi, rfl⟩ := hget i y hy
    rw [cblE_get f hi]; rfl
  · obtain ⟨hi, rfl⟩ := hget i y hy
    rw [show cblP i = (7 * i + 5) + 9 from rfl, hX, cblX_get f hi 5 (by omega)]; rfl
  · obtain ⟨hi, rfl⟩ := hget i y hy
    rw [show cblQ i = (7 * i + 6) + 9 from rfl, hX, cblX_get f hi 6 (by omega)]; rfl
end Go.Vm
