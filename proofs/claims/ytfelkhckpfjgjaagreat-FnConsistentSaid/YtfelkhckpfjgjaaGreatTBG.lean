/- The structures that are drawn have truth values; draws for consistency. No condition. -/
import Derived.Test.YtfelkhckpfjgjaaGreatTGK
import Derived.Test.YtfelkhckpfjgjaaGreatTGL
import Derived.Test.YtfelkhckpfjgjaaGreatTPT
import Derived.Test.YtfelkhckpfjgjaaGreatTGG
set_option linter.unusedSimpArgs false
set_option linter.unusedVariables false
namespace Go.Vm
open Go.Proofs
theorem truthsB_iff {l : List Int} : truthsB l = true ↔ ∀ a ∈ l, isTruth a = true := by
  unfold truthsB notT
  simp
theorem structB_truth {v : Int} {s : Strc} (h : structB v s = true) : truthS s := by
  unfold structB at h
  simp only [Bool.and_eq_true] at h
  exact truthsB_iff.1 h.1.2
theorem strcOf_truth {h : Heap} (hf : fitS h = true) : truthS (strcOf h) := structB_truth (strcOf_structB hf)
theorem joinT_truth (a b : Int) : isTruth (joinT a b) = true := by
  unfold joinT
  split
  · rename_i h; exact h.2
  · rfl
theorem joinN_truth {s : Strc} {x o : Int} {b : List Int} (h : isTruth o = true) : isTruth (joinN s x o b) = true := by
  unfold joinN
  induction b generalizing o with
  | nil => exact h
  | cons y ys ih => exact ih (joinT_truth _ _)
theorem nextG_truth {s : Strc} (h : truthS s) (a b : List Int) : isTruth (nextG s a b) = true := by
  unfold nextG
  have : ∀ (a : List Int) (o : Int), isTruth o = true → isTruth (a.foldl (fun o x => joinN s x o b) o) = true := by
    intro a
    induction a with
    | nil => intro o h; exact h
    | cons x xs ih => intro o h; exact ih _ (joinN_truth h)
  exact this _ _ (nextOf_truth h _ _)
theorem blurS_truth {s : Strc} (h : truthS s) : truthS (blurS s) := by
  intro x hx
  obtain ⟨a, _, hx⟩ := List.mem_flatMap.1 hx
  obtain ⟨b, _, rfl⟩ := List.mem_map.1 hx
  exact nextG_truth h _ _
theorem d12S0_truth (c : Cur) : truthS (d12S0 c) := by
  unfold d12S0
  split
  · exact strcOf_truth (drawH_fit c)
  · exact blurS_truth (strcOf_truth (drawH_fit c))
theorem setN_truth {s : Strc} (h : truthS s) (i : Nat) (f : Node → Node) : truthS (setN s i f) := by
  unfold setN
  split
  · exact h
  · exact h
theorem set_truth {l : List Int} {i : Nat} {v : Int} (h : ∀ x ∈ l, isTruth x = true) (hv : isTruth v = true) : ∀ x ∈ l.set i v, isTruth x = true := by
  intro x hx
  rcases List.mem_or_eq_of_mem_set hx with hx | rfl
  · exact h x hx
  · exact hv
theorem d12step_truth {x : Cur × Strc} (h : truthS x.2) : truthS (d12step x).2 := by
  unfold d12step
  split
  · exact setN_truth h _ _
  split
  · exact setN_truth h _ _
  split
  · exact set_truth h rfl
  · exact h
theorem d12It_truth {x : Cur × Strc} (h : truthS x.2) : ∀ k, truthS (d12It x k).2
  | 0 => h
  | k + 1 => d12step_truth (d12It_truth h k)
theorem d12_truth (c : Cur) : truthS (d12 c).2 := by
  unfold d12
  split
  · exact d12S0_truth c
  · exact d12It_truth (d12S0_truth c) _
theorem bent12_truth (c : Cur) : truthS (bent12 c).2 := by
  have h := d12_truth c
  unfold bent12
  split
  · intro x hx
    rcases List.mem_append.1 hx with hx | hx
    · exact h x hx
    · rw [List.mem_singleton.1 hx]; rfl
  split
  · exact h
  split
  · exact setN_truth h _ _
  split
  · exact setN_truth h _ _
  split
  · exact setN_truth h _ _
  · exact h
def code_spec_DrawCountPredicates : F := ⟨6,[.cell 2 true 2],.seq (.reg [⟨some 2,.alloc [(.sl .nil 0 []),(.sl .nil 0 [])],none⟩]) (.seq (.reg [⟨some 3,.mov (.t 0),none⟩,⟨some 4,.call 40 [.t 3],none⟩,⟨some 5,.call 43 [.t 4],none⟩,⟨none,.store 2 (.t 2) (.t 5),none⟩]) (.ret))⟩
theorem fok_spec_DrawCountPredicates : FOk Tryz.prog 25 code_spec_DrawCountPredicates := fok Tryz.func25 (by kernel_rfl)
@[simp] def ct_DrawCountPredicates : Ct := ⟨25, List UInt8, fun bs => bs.length ≤ 1048576, fun bs => [encL 1 encU bs], fun bs => encStrc (drawB2 bs)⟩
set_option maxHeartbeats 2000000 in
theorem ok_DrawCountPredicates : ct_DrawCountPredicates.Ok Tryz.prog := by
  intro bs hbs
  change List UInt8 at bs
  change bs.length ≤ 1048576 at hbs
  obtain ⟨va, vn, wa, wn, L, g4, ok⟩ := made_bent (H := [.nrow, .nrow, .cells [.slref 0 0 0 0, .slref 1 0 0 0], (cur0 bs).cells]) (p := 3) (c := cur0 bs) hbs rfl
  have okB : CtH.Ok Tryz.prog ⟨43, Unit, fun _ H => H = [.nrow, .nrow, .cells [.slref 0 0 0 0, .slref 1 0 0 0], (cur0 bs).cells], fun _ => [.pbox 3 0], fun _ _ => .agg [.slref va 0 vn vn, .slref wa 0 wn wn], fun _ _ => .nrow :: .nrow :: .cells [.slref 0 0 0 0, .slref 1 0 0 0] :: (bent12 (cur0 bs)).1.cells :: L⟩ := by
    intro x H' hH
    have hH : H' = _ := hH
    rw [hH]; exact ok
  have hT : TabOk Tryz.prog _ := tab_h ok_l1New (tab_h okB tab_nil)
  refine Ok.of_cw fok_spec_DrawCountPredicates ?_
  simp only [code_spec_DrawCountPredicates, frame, List.length_cons, List.length_nil, List.replicate, Nat.reduceSub, Nat.reduceAdd, List.cons_append, List.nil_append]
  refine cw_seq (go_ok hT ?_); simp [List.replicate]
  refine cw_seq (go_ok hT ?_); simp [List.replicate, hbs]
  obtain ⟨l1, l2⟩ := g4 (.nrow :: .nrow :: .cells [.slref va 0 vn vn, .slref wa 0 wn wn] :: (bent12 (cur0 bs)).1.cells :: L) (fun j h1 h2 => by
    obtain ⟨k, rfl⟩ : ∃ k, j = k + 4 := ⟨j - 4, by simp at h1; omega⟩
    rfl)
  refine go_ok tab_nil ?_
  simp [List.replicate, l1, l2]
  rfl
def code_spec_DrawMeetsDefinitions : F := ⟨6,[.cell 2 true 2],.seq (.reg [⟨some 2,.alloc [(.sl .nil 0 []),(.sl .nil 0 [])],none⟩]) (.seq (.reg [⟨some 3,.mov (.t 0),none⟩,⟨some 4,.call 40 [.t 3],none⟩,⟨some 5,.call 43 [.t 4],none⟩,⟨none,.store 2 (.t 2) (.t 5),none⟩]) (.ret))⟩
theorem fok_spec_DrawMeetsDefinitions : FOk Tryz.prog 24 code_spec_DrawMeetsDefinitions := fok Tryz.func24 (by kernel_rfl)
@[simp] def ct_DrawMeetsDefinitions : Ct := ⟨24, List UInt8, fun bs => bs.length ≤ 1048576, fun bs => [encL 1 encU bs], fun bs => encStrc (drawB2 bs)⟩
set_option maxHeartbeats 2000000 in
theorem ok_DrawMeetsDefinitions : ct_DrawMeetsDefinitions.Ok Tryz.prog := by
  intro bs hbs
  change List UInt8 at bs
  change bs.length ≤ 1048576 at hbs
  obtain ⟨va, vn, wa, wn, L, g4, ok⟩ := made_bent (H := [.nrow, .nrow, .cells [.slref 0 0 0 0, .slref 1 0 0 0], (cur0 bs).cells]) (p := 3) (c := cur0 bs) hbs rfl
  have okB : CtH.Ok Tryz.prog ⟨43, Unit, fun _ H => H = [.nrow, .nrow, .cells [.slref 0 0 0 0, .slref 1 0 0 0], (cur0 bs).cells], fun _ => [.pbox 3 0], fun _ _ => .agg [.slref va 0 vn vn, .slref wa 0 wn wn], fun _ _ => .nrow :: .nrow :: .cells [.slref 0 0 0 0, .slref 1 0 0 0] :: (bent12 (cur0 bs)).1.cells :: L⟩ := by
    intro x H' hH
    have hH : H' = _ := hH
    rw [hH]; exact ok
  have hT : TabOk Tryz.prog _ := tab_h ok_l1New (tab_h okB tab_nil)
  refine Ok.of_cw fok_spec_DrawMeetsDefinitions ?_
  simp only [code_spec_DrawMeetsDefinitions, frame, List.length_cons, List.length_nil, List.replicate, Nat.reduceSub, Nat.reduceAdd, List.cons_append, List.nil_append]
  refine cw_seq (go_ok hT ?_); simp [List.replicate]
  refine cw_seq (go_ok hT ?_); simp [List.replicate, hbs]
  obtain ⟨l1, l2⟩ := g4 (.nrow :: .nrow :: .cells [.slref va 0 vn vn, .slref wa 0 wn wn] :: (bent12 (cur0 bs)).1.cells :: L) (fun j h1 h2 => by
    obtain ⟨k, rfl⟩ : ∃ k, j = k + 4 := ⟨j - 4, by simp at h1; omega⟩
    rfl)
  refine go_ok tab_nil ?_
  simp [List.replicate, l1, l2]
  rfl
def code_spec_DrawPredicateAt : F := ⟨20,[.cell 2 true 2,.tmp 3,.tmp 4],.seq (.reg [⟨some 2,.alloc [(.sl .nil 0 []),(.sl .nil 0 [])],none⟩,⟨some 3,.mov (.k (.int .i64 0)),none⟩,⟨some 4,.mov (.k (.int .i64 0)),none⟩]) (.seq (.reg [⟨some 8,.mov (.t 0),none⟩,⟨some 9,.call 40 [.t 8],none⟩,⟨some 5,.mov (.t 9),none⟩]) (.seq (.reg [⟨some 10,.mov (.t 5),none⟩,⟨some 11,.call 43 [.t 10],none⟩,⟨some 6,.alloc [(.sl .nil 0 []),(.sl .nil 0 [])],none⟩,⟨none,.store 2 (.t 6) (.t 11),none⟩]) (.seq (.reg [⟨some 12,.mov (.t 5),none⟩,⟨some 13,.call 55 [.t 12,(.k (.int .i64 9))],none⟩,⟨some 14,.bin .sub (.t 13) (.k (.int .i64 1)),none⟩,⟨some 7,.mov (.t 14),none⟩]) (.seq (.dreg [false,false,false,false,false,false,false,true] [false,false,false,true,false,false,false,false] [⟨some 15,.load 2 true (.t 6),none⟩,⟨some 16,.mov (.t 7),none⟩,⟨some 17,.mov (.t 5),none⟩,⟨some 18,.call 55 [.t 17,(.k (.int .i64 5))],none⟩,⟨some 19,.bin .sub (.t 18) (.k (.int .i64 1)),none⟩,⟨none,.store 2 (.t 2) (.t 15),none⟩,⟨some 3,.mov (.t 16),none⟩,⟨some 4,.mov (.t 19),none⟩]) (.ret)))))⟩
theorem fok_spec_DrawPredicateAt : FOk Tryz.prog 23 code_spec_DrawPredicateAt := fok Tryz.func23 (by kernel_rfl)
def drawP1 (bs : List UInt8) : Int := (bent12 (cur0 bs)).1.below 9 - 1
def drawP2 (bs : List UInt8) : Int := (bent12 (cur0 bs)).1.step.below 5 - 1
@[simp] def ct_DrawPredicateAt : Ct := ⟨23, List UInt8, fun bs => bs.length ≤ 1048576, fun bs => [encL 1 encU bs], fun bs => .tup [encStrc (drawB2 bs), .int .i64 (drawP1 bs), .int .i64 (drawP2 bs)]⟩
set_option maxHeartbeats 4000000 in
theorem ok_DrawPredicateAt : ct_DrawPredicateAt.Ok Tryz.prog := by
  intro bs hbs
  change List UInt8 at bs
  change bs.length ≤ 1048576 at hbs
  obtain ⟨va, vn, wa, wn, L, g4, ok⟩ := made_bent (H := [.nrow, .nrow, .cells [.slref 0 0 0 0, .slref 1 0 0 0], (cur0 bs).cells]) (p := 3) (c := cur0 bs) hbs rfl
  have okB : CtH.Ok Tryz.prog ⟨43, Unit, fun _ H => H = [.nrow, .nrow, .cells [.slref 0 0 0 0, .slref 1 0 0 0], (cur0 bs).cells], fun _ => [.pbox 3 0], fun _ _ => .agg [.slref va 0 vn vn, .slref wa 0 wn wn], fun _ _ => .nrow :: .nrow :: .cells [.slref 0 0 0 0, .slref 1 0 0 0] :: (bent12 (cur0 bs)).1.cells :: L⟩ := by
    intro x H' hH
    have hH : H' = _ := hH
    rw [hH]; exact ok
  have hbuf : (bent12 (cur0 bs)).1.buf.length ≤ 1048576 := by rw [bent12_buf]; exact hbs
  have hbuf2 : (bent12 (cur0 bs)).1.step.buf.length ≤ 1048576 := hbuf
  have hx1 := below_lt (bent12 (cur0 bs)).1 (n := 9) (by omega)
  have hx2 := below_lt (bent12 (cur0 bs)).1.step (n := 5) (by omega)
  have hw1 : IntKind.i64.wrap ((bent12 (cur0 bs)).1.below 9 - 1) = (bent12 (cur0 bs)).1.below 9 - 1 := by rw [wrap_i64] <;> omega
  have hw2 : IntKind.i64.wrap ((bent12 (cur0 bs)).1.step.below 5 - 1) = (bent12 (cur0 bs)).1.step.below 5 - 1 := by rw [wrap_i64] <;> omega
  have hLg : ∀ (T : List Blk) k, (L ++ T)[L.length + k]? = T[k]? := fun T k => getHk _ _ _
  have hLs : ∀ (T : List Blk) k y, (L ++ T).set (L.length + k) y = L ++ T.set k y := fun T k y => setHk _ _ _ _
  have hT : TabOk Tryz.prog _ := tab_h ok_l1New (tab_h okB (tab_h ok_below tab_nil))
  refine Ok.of_cw fok_spec_DrawPredicateAt ?_
  simp only [code_spec_DrawPredicateAt, frame, List.length_cons, List.length_nil, List.replicate, Nat.reduceSub, Nat.reduceAdd, List.cons_append, List.nil_append]
  refine cw_seq (go_ok hT ?_); simp [List.replicate]
  refine cw_seq (go_ok hT ?_); simp [List.replicate, hbs]
  refine cw_seq (go_ok hT ?_); simp [List.replicate, hLg, hLs, Nat.add_assoc]
  refine cw_seq (go_ok hT ?_); simp [List.replicate, cells_inj, hbuf, hw1]
  refine cw_seq (cw_dreg8R hT [_, _, _, _] _ [none, none, none, some 3, none, some 2, none] [[true, true, false, false], [true, true, false, false], [true, true, false, false], [true, true, false, true], [true, true, false, false], [true, true, true, false], [true, true, false, false]] (by rfl) ?_)
  simp [List.replicate, hLg, cells_inj, hbuf2, hw2]
  obtain ⟨l1, l2⟩ := g4 (.nrow :: .nrow :: .cells [.slref va 0 vn vn, .slref wa 0 wn wn] :: (bent12 (cur0 bs)).1.step.step.cells :: (L ++ [.nrow, .nrow, .cells [.slref va 0 vn vn, .slref wa 0 wn wn]])) (fun j h1 h2 => by
    obtain ⟨k, rfl⟩ : ∃ k, j = k + 4 := ⟨j - 4, by simp at h1; omega⟩
    show (L ++ _)[k]? = L[k]?
    exact List.getElem?_append_left (by simp at h2; omega))
  refine go_ok tab_nil ?_
  simp [List.replicate, l1, l2]
  exact ⟨rfl, rfl, rfl⟩
end Go.Vm
namespace Go.Vm
open Go.Proofs
theorem sum_leK {α : Type} {f : α → Nat} {c : Nat} : ∀ {l : List α}, (∀ x ∈ l, f x ≤ c) → (l.map f).sum ≤ l.length * c
  | [], _ => by simp
  | a :: l, h => by
    have h1 := h a (by simp)
    have h2 := sum_leK (l := l) fun x hx => h x (by simp [hx])
    simp only [List.map_cons, List.sum_cons, List.length_cons, Nat.add_mul]
    omega
theorem structB_sz {v : Int} {s : Strc} (h : structB v s = true) : szStrc s ≤ 1048576 := by
  unfold structB at h
  simp only [Bool.and_eq_true, decide_eq_true_eq, Bool.not_eq_true', List.any_eq_false] at h
  obtain ⟨⟨⟨⟨⟨h1, h2⟩, h3⟩, h4⟩, h5⟩, h6⟩ := h
  have e1 : (s.nodes.map szNode).sum ≤ s.nodes.length * 8 := by
    refine sum_leK fun x hx => ?_
    have := h6 x hx
    simp only [badN, Bool.not_eq_true', Bool.not_eq_false', Bool.not_not, Bool.and_eq_true, decide_eq_true_eq, Bool.not_eq_true] at this
    simp at this
    obtain ⟨a, b, -⟩ := this
    have : szNode x = x.vars.length + x.reach.length := rfl
    omega
  have e2 : szStrc s = szNodes s.nodes + s.next.length := rfl
  have e3 : szNodes s.nodes = s.nodes.length + (s.nodes.map szNode).sum := rfl
  have e4 : s.next.length = s.nodes.length * s.nodes.length := by exact_mod_cast h4
  have e5 : s.nodes.length * s.nodes.length ≤ 10 * 10 := Nat.mul_le_mul (by omega) (by omega)
  omega
theorem strcOf_szK (h : Heap) : szStrc (strcOf h) ≤ 1048576 := by
  by_cases hf : fitS h = true
  · exact structB_sz (strcOf_structB hf)
  · have : strcOf h = ⟨[], []⟩ := by unfold strcOf; rw [if_neg hf]
    rw [this]; decide
def code_laws_big : F := ⟨6,[.tmp 2],.seq (.reg [⟨some 2,.mov (.k (.bool false)),none⟩]) (.seq (.reg [⟨some 3,.mov (.t 0),none⟩,⟨some 4,.len (.t 3),none⟩,⟨some 5,.bin .gtr (.t 4) (.k (.int .i64 1048576)),none⟩,⟨some 2,.mov (.t 5),none⟩]) (.ret))⟩
theorem fok_laws_big : FOk Tryz.prog 5 code_laws_big := fok Tryz.func5 (by kernel_rfl)
@[simp] def ct_bigK : Ct := ⟨5, List UInt8, fun _ => True, fun bs => [encL 1 encU bs], fun bs => .bool (decide (1048576 < bs.length))⟩
theorem ok_bigK : ct_bigK.Ok Tryz.prog := by
  intro bs _
  change List UInt8 at bs
  refine Ok.of_cw fok_laws_big (go_ok tab_nil ?_)
  simp [code_laws_big, List.replicate]
  omega
end Go.Vm
