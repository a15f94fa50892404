/- Consistency, plain. No condition. -/
import Derived.Test.YtfelkhckpfjgjaaGreatTJC
import Derived.Test.YtfelkhckpfjgjaaGreatTGD
import Derived.Test.YtfelkhckpfjgjaaGreatTDE
set_option linter.unusedSimpArgs false
set_option linter.unusedVariables false
namespace Go.Vm
open Go.Proofs
structure Fine (v : Nat) (s : Strc) : Prop where
  v4 : v ≤ 4
  n10 : s.nodes.length ≤ 10
  nl : (s.next.length : Int) = (s.nodes.length : Int) * s.nodes.length
  nx : ∀ a ∈ s.next, a = 0 ∨ a = 2
  vl : ∀ x ∈ s.nodes, x.vars.length = v
  rl : ∀ x ∈ s.nodes, x.reach.length = v
  vv : ∀ x ∈ s.nodes, ∀ a ∈ x.vars, a = 0 ∨ a = 2
  rv : ∀ x ∈ s.nodes, ∀ a ∈ x.reach, a = 0 ∨ a = 2
  mn : ∀ x ∈ s.nodes, x.many = 0
theorem truthsB_mem {l : List Int} (h : truthsB l = true) : ∀ a ∈ l, isTruth a = true := by
  intro a ha
  unfold truthsB at h
  simp only [Bool.not_eq_true', List.any_eq_false] at h
  have := h a ha
  simpa [notT] using this
theorem truth_def {a : Int} (h : isTruth a = true) (h1 : a ≠ 1) : a = 0 ∨ a = 2 := by rw [isTruth_iff] at h; omega
theorem fine_of {vi : Int} {s : Strc} (h : structB vi s = true) (hd : isDef s = true) : ∃ v : Nat, vi = v ∧ Fine v s := by
  unfold structB at h
  unfold isDef at hd
  simp only [Bool.and_eq_true, decide_eq_true_eq, Bool.not_eq_true', List.any_eq_false, decide_eq_false_iff_not] at h hd
  obtain ⟨⟨⟨⟨⟨h1, h2⟩, h3⟩, h4⟩, h5⟩, h6⟩ := h
  obtain ⟨d1, d2⟩ := hd
  have hn : ∀ x ∈ s.nodes, ((x.vars.length : Int) = vi ∧ (x.reach.length : Int) = vi) ∧ (truthsB x.vars = true ∧ truthsB x.reach = true) ∧ (0 ≤ x.many ∧ x.many ≤ 1) := by
    intro x hx
    have := h6 x hx
    simp only [badN, Bool.not_eq_true', Bool.not_eq_false', Bool.not_not, Bool.and_eq_true, decide_eq_true_eq, Bool.not_eq_true] at this
    simp at this
    obtain ⟨a1, a2, a3, a4, a5, a6, a7⟩ := this
    exact ⟨⟨a1, a2⟩, ⟨a3, a4⟩, a6, a7⟩
  have hh : ∀ x ∈ s.nodes, x.many ≠ 1 ∧ 1 ∉ x.vars ∧ 1 ∉ x.reach := by
    intro x hx
    have := d2 x hx
    simp only [halfN, Bool.or_eq_true, beq_iff_eq, decide_eq_true_eq, not_or] at this
    exact ⟨this.1.1.2, this.1.2, this.2⟩
  refine ⟨vi.toNat, by omega, by omega, by omega, h4, fun a ha => truth_def (truthsB_mem h5 a ha) (fun e => d1 (e ▸ ha)), fun x hx => by have := (hn x hx).1.1; omega, fun x hx => by have := (hn x hx).1.2; omega,
    fun x hx a ha => truth_def (truthsB_mem (hn x hx).2.1.1 a ha) (fun e => (hh x hx).2.1 (e ▸ ha)), fun x hx a ha => truth_def (truthsB_mem (hn x hx).2.1.2 a ha) (fun e => (hh x hx).2.2 (e ▸ ha)), fun x hx => by have := (hn x hx).2.2; have := (hh x hx).1; omega⟩
theorem Fine.truthS {v : Nat} {s : Strc} (h : Fine v s) : truthS s := fun x hx => by rcases h.nx x hx with rfl | rfl <;> simp [isTruth]
theorem Fine.next {v : Nat} {s : Strc} (h : Fine v s) {i j : Nat} (hi : i < s.nodes.length) (hj : j < s.nodes.length) : nextOf s i j = 0 ∨ nextOf s i j = 2 := by
  unfold nextOf
  have h1 : inN s (i : Int) := ⟨by omega, by omega⟩
  have h2 : inN s (j : Int) := ⟨by omega, by omega⟩
  rw [if_pos ⟨h1, h2, h.nl⟩]
  have hl : ((i : Int) * s.nodes.length + j).toNat < s.next.length := by
    have := pair_lt (i := i) (j := j) (n := s.nodes.length) (by omega) (by omega) (by omega)
    have := pair_ge (i := i) (j := j) (n := s.nodes.length) (by omega) (by omega) (by omega)
    have := h.nl
    omega
  rw [show s.next.getD ((i : Int) * s.nodes.length + j).toNat 0 = s.next[((i : Int) * s.nodes.length + j).toNat] by simp [List.getD_eq_getElem?_getD, hl]]
  exact h.nx _ (List.getElem_mem _)
def colN (s : Strc) (k p : Nat) : Nat := (s.nodes.take p).countP fun x => decide (x.vars.getD k 0 = 2)
def rowN (s : Strc) (i p : Nat) : Nat := (List.range p).countP fun (j : Nat) => decide (nextOf s (i : Nat) (j : Nat) = 2)
theorem colN_succ {s : Strc} {k p : Nat} (h : p < s.nodes.length) : colN s k (p + 1) = colN s k p + if s.nodes[p].vars.getD k 0 = 2 then 1 else 0 := by
  unfold colN
  rw [List.take_succ_eq_append_getElem h, List.countP_append]
  simp [List.countP_cons]
theorem colN_le (s : Strc) (k p : Nat) : colN s k p ≤ p := by
  unfold colN
  have := List.countP_le_length (p := fun x : Node => decide (x.vars.getD k 0 = 2)) (l := s.nodes.take p)
  have h2 := List.length_take_le p s.nodes
  omega
theorem rowN_succ (s : Strc) (i p : Nat) : rowN s i (p + 1) = rowN s i p + if nextOf s (i : Nat) (p : Nat) = 2 then 1 else 0 := by
  unfold rowN
  rw [List.range_succ, List.countP_append]
  simp [List.countP_cons]
theorem rowN_le (s : Strc) (i p : Nat) : rowN s i p ≤ p := by
  unfold rowN
  have := List.countP_le_length (p := fun (j : Nat) => decide (nextOf s (i : Nat) (j : Nat) = 2)) (l := List.range p)
  simpa using this
def orTo (l : List Int) (k : Nat) : Int := if 2 ∈ l.take k then 2 else 0
theorem orTo_succ {l : List Int} (hl : ∀ a ∈ l, a = 0 ∨ a = 2) {k : Nat} (h : k < l.length) : orTo l (k + 1) = orT (orTo l k) l[k] := by
  have hk := hl l[k] (List.getElem_mem h)
  unfold orTo
  rw [List.take_succ_eq_append_getElem h]
  simp only [List.mem_append, List.mem_singleton]
  rcases hk with hk | hk <;> rw [hk] <;> by_cases g : 2 ∈ l.take k <;> simp [g, orT, isTruth]
def allC (v : Nat) (s : Strc) : Bool := (List.range v).all fun k => decide (colN s k s.nodes.length ≤ 1)
noncomputable def okI (s : Strc) (i : Nat) : Bool := decide (rowN s i s.nodes.length ≤ 1) && (decide (2 ∈ (nodeI s (i : Nat)).reach) && !rchB s 2 i i)
noncomputable def allI (s : Strc) : Bool := (List.range s.nodes.length).all fun i => okI s i
noncomputable def consB (vi : Int) (s : Strc) : Bool := structB vi s && (isDef s && (allC vi.toNat s && (allI s && decide (meetsT s = 2))))
theorem all_false {p : Nat → Bool} {n i : Nat} (h : i < n) (e : p i = false) : (List.range n).all p = false := by
  rw [List.all_eq_false]
  exact ⟨i, by simpa using h, by simp [e]⟩
theorem all_true {p : Nat → Bool} {n : Nat} (h : ∀ j, j < n → p j = true) : (List.range n).all p = true := by
  rw [List.all_eq_true]
  intro j hj
  exact h j (by simpa using hj)
def code_impl_IsConsistent : F := ⟨97,[.tmp 4],.seq (.reg [⟨some 3,.box (.t 1),none⟩,⟨some 4,.mov (.k (.bool false)),none⟩]) (.seq (.seq (.reg [⟨some 16,.mov (.t 0),none⟩,⟨some 17,.load 2 true (.t 3),none⟩,⟨some 18,.call 44 [.t 16,.t 17],none⟩,⟨some 19,.not (.t 18),none⟩,⟨some 20,.mov (.t 19),none⟩,⟨some 21,.load 2 true (.t 3),some (20,false)⟩,⟨some 22,.call 45 [.t 21],some (20,false)⟩,⟨some 23,.not (.t 22),some (20,false)⟩,⟨some 24,.pick (.t 20) (.k (.bool true)) (.t 23),none⟩]) (.cond (.t 24) (.seq (.reg [⟨some 4,.mov (.k (.bool false)),none⟩]) (.ret)) (.skip))) (.seq (.seq (.reg [⟨some 25,.mov (.t 0),none⟩,⟨some 26,.mov (.k (.int .i64 0)),none⟩]) (.block 0 (.loop (.seq (.reg [⟨some 27,.bin .lss (.t 26) (.t 25),none⟩]) (.seq (.cond (.t 27) (.skip) (.exit 0)) (.seq (.block 1 (.seq (.reg [⟨some 28,.mov (.t 26),none⟩,⟨some 5,.mov (.t 28),none⟩]) (.seq (.reg [⟨some 6,.mov (.k (.int .i64 0)),none⟩]) (.seq (.seq (.reg [⟨some 29,.faddr 0 (.t 3),none⟩,⟨some 30,.load 1 false (.t 29),none⟩,⟨some 31,.len (.t 30),none⟩,⟨some 32,.mov (.k (.int .i64 0)),none⟩]) (.block 2 (.loop (.seq (.reg [⟨some 33,.bin .lss (.t 32) (.t 31),none⟩]) (.seq (.cond (.t 33) (.skip) (.exit 2)) (.seq (.block 3 (.seq (.reg [⟨some 34,.iaddr 4 (.t 30) (.t 32),none⟩,⟨some 35,.load 4 true (.t 34),none⟩,⟨some 8,.alloc [(.sl .nil 0 []),(.sl .nil 0 []),(.int .i64 0),(.int .i64 0)],none⟩,⟨none,.store 4 (.t 8) (.t 35),none⟩]) (.reg [⟨some 36,.mov (.t 6),none⟩,⟨some 37,.faddr 0 (.t 8),none⟩,⟨some 38,.load 1 false (.t 37),none⟩,⟨some 39,.mov (.t 5),none⟩,⟨some 40,.iaddr 1 (.t 38) (.t 39),none⟩,⟨some 41,.load 1 false (.t 40),none⟩,⟨some 42,.bin .quo (.t 41) (.k (.int .i64 2)),none⟩,⟨some 43,.bin .add (.t 36) (.t 42),none⟩,⟨some 6,.mov (.t 43),none⟩]))) (.reg [⟨some 44,.bin .add (.t 32) (.k (.int .i64 1)),none⟩,⟨some 32,.mov (.t 44),none⟩]))))))) (.seq (.reg [⟨some 45,.mov (.t 6),none⟩,⟨some 46,.bin .gtr (.t 45) (.k (.int .i64 1)),none⟩]) (.cond (.t 46) (.seq (.reg [⟨some 4,.mov (.k (.bool false)),none⟩]) (.ret)) (.skip))))))) (.reg [⟨some 47,.bin .add (.t 26) (.k (.int .i64 1)),none⟩,⟨some 26,.mov (.t 47),none⟩]))))))) (.seq (.seq (.reg [⟨some 48,.faddr 0 (.t 3),none⟩,⟨some 49,.load 1 false (.t 48),none⟩,⟨some 50,.len (.t 49),none⟩,⟨some 51,.mov (.k (.int .i64 0)),none⟩]) (.block 4 (.loop (.seq (.reg [⟨some 52,.bin .lss (.t 51) (.t 50),none⟩]) (.seq (.cond (.t 52) (.skip) (.exit 4)) (.seq (.block 5 (.seq (.reg [⟨some 53,.mov (.t 51),none⟩,⟨some 54,.iaddr 4 (.t 49) (.t 51),none⟩,⟨some 55,.load 4 true (.t 54),none⟩,⟨some 10,.alloc [(.sl .nil 0 []),(.sl .nil 0 []),(.int .i64 0),(.int .i64 0)],none⟩,⟨some 9,.mov (.t 53),none⟩,⟨none,.store 4 (.t 10) (.t 55),none⟩]) (.seq (.reg [⟨some 11,.mov (.k (.int .i64 0)),none⟩,⟨some 12,.mov (.k (.int .i64 0)),none⟩]) (.seq (.seq (.reg [⟨some 56,.faddr 0 (.t 3),none⟩,⟨some 57,.load 1 false (.t 56),none⟩,⟨some 58,.len (.t 57),none⟩,⟨some 59,.mov (.k (.int .i64 0)),none⟩]) (.block 6 (.loop (.seq (.reg [⟨some 60,.bin .lss (.t 59) (.t 58),none⟩]) (.seq (.cond (.t 60) (.skip) (.exit 6)) (.seq (.block 7 (.seq (.reg [⟨some 61,.mov (.t 59),none⟩,⟨some 13,.mov (.t 61),none⟩]) (.reg [⟨some 62,.mov (.t 11),none⟩,⟨some 63,.load 2 true (.t 3),none⟩,⟨some 64,.mov (.t 9),none⟩,⟨some 65,.mov (.t 13),none⟩,⟨some 66,.call 79 [.t 63,.t 64,.t 65],none⟩,⟨some 67,.bin .quo (.t 66) (.k (.int .i64 2)),none⟩,⟨some 68,.bin .add (.t 62) (.t 67),none⟩,⟨some 11,.mov (.t 68),none⟩]))) (.reg [⟨some 69,.bin .add (.t 59) (.k (.int .i64 1)),none⟩,⟨some 59,.mov (.t 69),none⟩]))))))) (.seq (.seq (.reg [⟨some 70,.faddr 1 (.t 10),none⟩,⟨some 71,.load 1 false (.t 70),none⟩,⟨some 72,.len (.t 71),none⟩,⟨some 73,.mov (.k (.int .i64 0)),none⟩]) (.block 8 (.loop (.seq (.reg [⟨some 74,.bin .lss (.t 73) (.t 72),none⟩]) (.seq (.cond (.t 74) (.skip) (.exit 8)) (.seq (.block 9 (.seq (.reg [⟨some 75,.iaddr 1 (.t 71) (.t 73),none⟩,⟨some 76,.load 1 false (.t 75),none⟩,⟨some 15,.mov (.t 76),none⟩]) (.reg [⟨some 77,.mov (.t 12),none⟩,⟨some 78,.mov (.t 15),none⟩,⟨some 79,.call 80 [.t 77,.t 78],none⟩,⟨some 12,.mov (.t 79),none⟩]))) (.reg [⟨some 80,.bin .add (.t 73) (.k (.int .i64 1)),none⟩,⟨some 73,.mov (.t 80),none⟩]))))))) (.seq (.reg [⟨some 81,.mov (.t 11),none⟩,⟨some 82,.bin .gtr (.t 81) (.k (.int .i64 1)),none⟩,⟨some 83,.mov (.t 82),none⟩,⟨some 84,.mov (.t 12),some (83,false)⟩,⟨some 85,.bin .eql (.t 84) (.k (.int .i64 0)),some (83,false)⟩,⟨some 86,.pick (.t 83) (.k (.bool true)) (.t 85),none⟩,⟨some 87,.mov (.t 86),none⟩,⟨some 88,.load 2 true (.t 3),some (87,false)⟩,⟨some 89,.mov (.t 9),some (87,false)⟩,⟨some 90,.mov (.t 9),some (87,false)⟩,⟨some 91,.call 81 [.t 88,.t 89,.t 90,(.k (.int .i64 2))],some (87,false)⟩,⟨some 92,.pick (.t 87) (.k (.bool true)) (.t 91),none⟩]) (.cond (.t 92) (.seq (.reg [⟨some 4,.mov (.k (.bool false)),none⟩]) (.ret)) (.skip)))))))) (.reg [⟨some 93,.bin .add (.t 51) (.k (.int .i64 1)),none⟩,⟨some 51,.mov (.t 93),none⟩]))))))) (.seq (.reg [⟨some 94,.load 2 true (.t 3),none⟩,⟨some 95,.call 30 [.t 94],none⟩,⟨some 96,.bin .eql (.t 95) (.k (.int .i64 2)),none⟩,⟨some 4,.mov (.t 96),none⟩]) (.ret)))))⟩
theorem fok_impl_IsConsistent : FOk Tryz.prog 26 code_impl_IsConsistent := fok Tryz.func26 (by kernel_rfl)
@[simp] noncomputable def ct_pIsCons : Ct := ⟨26, Int × Strc, fun x => szStrc x.2 ≤ 1048576, fun x => [.int .i64 x.1, encStrc x.2], fun x => .bool (consB x.1 x.2)⟩
set_option maxHeartbeats 16000000 in
set_option maxRecDepth 100000 in
theorem ok_pIsCons : ct_pIsCons.Ok Tryz.prog := by
  rintro ⟨vi, s⟩ hs
  change szStrc s ≤ 1048576 at hs
  have hs2 := strc_le s
  have hT : TabOk Tryz.prog _ := tab_cons ok_pIsStructure (tab_cons ok_impl_IsDefinite (tab_cons ok_pNextOf (tab_cons ok_pOrOf (tab_cons ok_reaches (tab_cons ok_pMeets tab_nil)))))
  refine Ok.of_cw fok_impl_IsConsistent ?_
  simp only [code_impl_IsConsistent, frame, List.length_cons, List.length_nil, List.replicate, Nat.reduceSub, Nat.reduceAdd, List.cons_append, List.nil_append]
  refine cw_seq (go_ok hT ?_)
  simp
  refine cw_seq (go_ok hT ?_)
  cases hst : structB vi s
  · simp [hs, hst, consB]
  cases hde : isDef s
  · simp [hs, hst, hde, consB]
  obtain ⟨v, rfl, hF⟩ := fine_of hst hde
  have hv4 := hF.v4
  have hn10 := hF.n10
  have hE : consB (v : Int) s = (allC v s && (allI s && decide (meetsT s = 2))) := by simp [consB, hst, hde]
  change go _ _ _ _ (thenS _ (retP _ (.bool (consB (v : Int) s)))) _
  rw [hE]
  simp [hs, hst, hde]
  refine cw_cut_weak (α := Unit) (fun _ => ⟨slots 97 [(3, .pbox 0 0)], [.cells [encL 4 encNode s.nodes, encL 1 encInt s.next]]⟩) (fun _ => allC v s = true) (go_ok hT ?_) ?_
  · simp
    refine cw_round (fun (k : Nat) => ⟨slots 97 [(3, .pbox 0 0), (25, .int .i64 v), (26, .int .i64 k)], [.cells [encL 4 encNode s.nodes, encL 1 encInt s.next]]⟩)
      (fun k => k ≤ v ∧ ∀ j, j < k → colN s j s.nodes.length ≤ 1) (fun k => v - k) 0 ⟨by simp, fun j hj => by omega⟩ ?_ ?_
    · exact weak_seal 1 (by simp) (by simp) (by simp [List.replicate])
    rintro N hN k ⟨hk, hc⟩
    have hwk : IntKind.i64.wrap ((k : Int) + 1) = ((k + 1 : Nat) : Int) := by rw [wrap_i64] <;> omega
    refine go_ok hT ?_
    by_cases gk : k < v
    case neg =>
      have e : k = v := by omega
      subst e
      simp [List.replicate]
      refine ⟨all_true fun j hj => by simpa using hc j hj, weak_seal 1 (by simp) ?_ ?_⟩
      · simp
      · simp [List.replicate]
    have gk2 : ¬ v ≤ k := by omega
    simp [List.replicate, gk, gk2]
    refine cw_round (fun (i : Nat) => ⟨slots 97 [(3, .pbox 0 0), (5, .int .i64 k), (6, .int .i64 (colN s k i)), (25, .int .i64 v), (26, .int .i64 k), (30, encL 4 encNode s.nodes), (31, .int .i64 s.nodes.length), (32, .int .i64 i)], [.cells [encL 4 encNode s.nodes, encL 1 encInt s.next]]⟩)
      (fun i => i ≤ s.nodes.length) (fun i => s.nodes.length - i) 0 (by simp) ?_ ?_
    · exact weak_seal 1 (by simp) (by simp) (by simp [List.replicate, colN])
    rintro N2 hN2 i hi
    have hwi : IntKind.i64.wrap ((i : Int) + 1) = ((i + 1 : Nat) : Int) := by rw [wrap_i64] <;> omega
    refine go_ok hT ?_
    by_cases gi : i < s.nodes.length
    · have gi2 : ¬ s.nodes.length ≤ i := by omega
      have hvl := hF.vl s.nodes[i] (List.getElem_mem gi)
      have hvv := hF.vv s.nodes[i] (List.getElem_mem gi)
      have hsc := colN_succ (s := s) (k := k) gi
      have hcl := colN_le s k i
      generalize hx : s.nodes[i] = x at *
      have hkx : k < x.vars.length := by omega
      have hgd : x.vars.getD k 0 = x.vars[k] := by simp [List.getD_eq_getElem?_getD, hkx]
      rw [hgd] at hsc
      have hw0 : IntKind.i64.wrap ((colN s k i : Int)) = (colN s k i : Int) := by rw [wrap_i64] <;> omega
      have hw1 : IntKind.i64.wrap ((colN s k i : Int) + 1) = ((colN s k i + 1 : Nat) : Int) := by rw [wrap_i64] <;> omega
      rcases hvv x.vars[k] (List.getElem_mem hkx) with hval | hval
      · rw [hval] at hsc
        simp at hsc
        simp [List.replicate, hwi, gi, gi2, hx, hkx, hval, hw0]
        refine hN2 i (i + 1) _ (by omega) (by omega) (weak_seal 1 (by simp) ?_ ?_)
        · simp
        · simp [List.replicate, hsc]
      · rw [hval] at hsc
        simp at hsc
        simp [List.replicate, hwi, gi, gi2, hx, hkx, hval, hw1]
        refine hN2 i (i + 1) _ (by omega) (by omega) (weak_seal 1 (by simp) ?_ ?_)
        · simp
        · simp [List.replicate, hsc]
    · have e : i = s.nodes.length := by omega
      subst e
      by_cases hck : colN s k s.nodes.length ≤ 1
      · have hck2 : ¬ 1 < colN s k s.nodes.length := by omega
        have hck3 : ¬ (1 : Int) < (colN s k s.nodes.length : Int) := by omega
        simp [List.replicate, hck, hck2, hck3, hwk]
        refine hN k (k + 1) _ ⟨by omega, fun j hj => ?_⟩ (by omega) (weak_seal 1 (by simp) ?_ ?_)
        · by_cases e : j = k
          · subst e; exact hck
          · exact hc j (by omega)
        · simp
        · simp [List.replicate]
      · have hck2 : 1 < colN s k s.nodes.length := by omega
        have hck3 : (1 : Int) < (colN s k s.nodes.length : Int) := by omega
        have hf : allC v s = false := all_false gk (by simp; omega)
        simp [List.replicate, hck, hck2, hck3, hf]
  intro _ hAC
  rw [hAC, Bool.true_and]
  refine cw_cut_weak (α := Unit) (fun _ => ⟨slots 97 [(3, .pbox 0 0)], [.cells [encL 4 encNode s.nodes, encL 1 encInt s.next]]⟩) (fun _ => allI s = true) (go_ok hT ?_) ?_
  · simp [List.replicate]
    refine cw_round (fun (i : Nat) => ⟨slots 97 [(3, .pbox 0 0), (49, encL 4 encNode s.nodes), (50, .int .i64 s.nodes.length), (51, .int .i64 i)], [.cells [encL 4 encNode s.nodes, encL 1 encInt s.next]]⟩)
      (fun i => i ≤ s.nodes.length ∧ ∀ j, j < i → okI s j = true) (fun i => s.nodes.length - i) 0 ⟨by simp, fun j hj => by omega⟩ ?_ ?_
    · exact weak_seal 1 (by simp) (by simp) (by simp [List.replicate])
    rintro N hN i ⟨hi, hc⟩
    have hwi : IntKind.i64.wrap ((i : Int) + 1) = ((i + 1 : Nat) : Int) := by rw [wrap_i64] <;> omega
    refine go_ok hT ?_
    by_cases gi : i < s.nodes.length
    case neg =>
      have e : i = s.nodes.length := by omega
      subst e
      simp [List.replicate]
      refine ⟨all_true fun j hj => hc j hj, weak_seal 1 (by simp) ?_ ?_⟩
      · simp
      · simp [List.replicate]
    have gi2 : ¬ s.nodes.length ≤ i := by omega
    have hrl := hF.rl s.nodes[i] (List.getElem_mem gi)
    have hrv := hF.rv s.nodes[i] (List.getElem_mem gi)
    have hno := nodeI_nat gi
    have hin : inN s (i : Int) := ⟨by omega, by omega⟩
    have hok : okI s i = (decide (rowN s i s.nodes.length ≤ 1) && (decide (2 ∈ (s.nodes[i]).reach) && !rchB s 2 i i)) := by unfold okI; rw [hno]
    have hnx : ∀ j : Nat, j < s.nodes.length → nextOf s i j = 0 ∨ nextOf s i j = 2 := fun j hj => hF.next gi hj
    generalize hx : s.nodes[i] = x at *
    simp [List.replicate, gi, gi2, hx]
    refine cw_round (fun (j : Nat) => ⟨slots 97 [(3, .pbox 0 0), (9, .int .i64 i), (10, .pbox 3 0), (11, .int .i64 (rowN s i j)), (12, .int .i64 0), (49, encL 4 encNode s.nodes), (50, .int .i64 s.nodes.length), (51, .int .i64 i), (58, .int .i64 s.nodes.length), (59, .int .i64 j)], [.cells [encL 4 encNode s.nodes, encL 1 encInt s.next], .dead, .dead, .cells [encL 1 encInt x.vars, encL 1 encInt x.reach, .int .i64 x.shared, .int .i64 x.many]]⟩)
      (fun j => j ≤ s.nodes.length) (fun j => s.nodes.length - j) 0 (by simp) ?_ ?_
    · exact weak_seal 4 (by simp) (by simp) (by simp [List.replicate, rowN])
    rintro N2 hN2 j hj
    have hwj : IntKind.i64.wrap ((j : Int) + 1) = ((j + 1 : Nat) : Int) := by rw [wrap_i64] <;> omega
    refine go_ok hT ?_
    by_cases gj : j < s.nodes.length
    · have gj2 : ¬ s.nodes.length ≤ j := by omega
      have hsc := rowN_succ s i j
      have hcl := rowN_le s i j
      have hw0 : IntKind.i64.wrap ((rowN s i j : Int)) = (rowN s i j : Int) := by rw [wrap_i64] <;> omega
      have hw1 : IntKind.i64.wrap ((rowN s i j : Int) + 1) = ((rowN s i j + 1 : Nat) : Int) := by rw [wrap_i64] <;> omega
      rcases hnx j gj with hval | hval
      · rw [hval] at hsc
        simp at hsc
        simp [List.replicate, hwj, gj, gj2, hs, hval, hw0]
        refine hN2 j (j + 1) _ (by omega) (by omega) (weak_seal 4 (by simp) ?_ ?_)
        · simp
        · simp [List.replicate, hsc]
      · rw [hval] at hsc
        simp at hsc
        simp [List.replicate, hwj, gj, gj2, hs, hval, hw1]
        refine hN2 j (j + 1) _ (by omega) (by omega) (weak_seal 4 (by simp) ?_ ?_)
        · simp
        · simp [List.replicate, hsc]
    · have e : j = s.nodes.length := by omega
      subst e
      simp [List.replicate]
      refine cw_round (fun (k : Nat) => ⟨slots 97 [(3, .pbox 0 0), (9, .int .i64 i), (11, .int .i64 (rowN s i s.nodes.length)), (12, .int .i64 (orTo x.reach k)), (49, encL 4 encNode s.nodes), (50, .int .i64 s.nodes.length), (51, .int .i64 i), (71, encL 1 encInt x.reach), (72, .int .i64 x.reach.length), (73, .int .i64 k)], [.cells [encL 4 encNode s.nodes, encL 1 encInt s.next]]⟩)
        (fun k => k ≤ x.reach.length) (fun k => x.reach.length - k) 0 (by simp) ?_ ?_
      · exact weak_seal 1 (by simp) (by simp) (by simp [List.replicate, orTo])
      rintro N3 hN3 k hk
      have hwk : IntKind.i64.wrap ((k : Int) + 1) = ((k + 1 : Nat) : Int) := by rw [wrap_i64] <;> omega
      refine go_ok hT ?_
      by_cases gk : k < x.reach.length
      · have gk2 : ¬ x.reach.length ≤ k := by omega
        have ho := orTo_succ hrv gk
        simp [List.replicate, hwk, gk, gk2]
        refine hN3 k (k + 1) _ (by omega) (by omega) (weak_seal 1 (by simp) ?_ ?_)
        · simp
        · simp [List.replicate, ho]
      · have e : k = x.reach.length := by omega
        subst e
        have hor : orTo x.reach x.reach.length = if 2 ∈ x.reach then 2 else 0 := by unfold orTo; rw [List.take_length]
        by_cases h1 : rowN s i s.nodes.length ≤ 1
        case neg =>
          have h1' : (1 : Int) < (rowN s i s.nodes.length : Int) := by omega
          have h1n : 1 < rowN s i s.nodes.length := by omega
          have hf : allI s = false := all_false gi (by rw [hok]; simp [h1])
          simp [List.replicate, h1', h1n, h1, hf]
        have h1' : ¬ (1 : Int) < (rowN s i s.nodes.length : Int) := by omega
        have h1n : ¬ 1 < rowN s i s.nodes.length := by omega
        by_cases h2 : 2 ∈ x.reach
        case neg =>
          have hf : allI s = false := all_false gi (by rw [hok]; simp [h2])
          rw [if_neg h2] at hor
          simp [List.replicate, h1', h1n, h1, hor, hf]
        rw [if_pos h2] at hor
        cases h3 : rchB s 2 i i
        · have hk1 : okI s i = true := by rw [hok]; simp [h1, h2, h3]
          simp [List.replicate, h1', h1n, h1, hor, hs, hin, h3, hwi]
          refine hN i (i + 1) _ ⟨by omega, fun j hj => ?_⟩ (by omega) (weak_seal 1 (by simp) ?_ ?_)
          · by_cases e : j = i
            · subst e; exact hk1
            · exact hc j (by omega)
          · simp
          · simp [List.replicate]
        · have hf : allI s = false := all_false gi (by rw [hok]; simp [h3])
          simp [List.replicate, h1', h1n, h1, hor, hs, hin, h3, hf]
  intro _ hAI
  rw [hAI, Bool.true_and]
  have hts := hF.truthS
  refine go_ok hT ?_
  simp [List.replicate, hs, hts]
end Go.Vm
namespace Go.Vm
open Go.Proofs
def code_spec_l15Single : F := ⟨56,[.tmp 4],.seq (.reg [⟨some 3,.box (.t 1),none⟩,⟨some 4,.mov (.k (.bool false)),none⟩]) (.seq (.reg [⟨some 10,.faddr 0 (.t 3),none⟩,⟨some 11,.load 1 false (.t 10),none⟩,⟨some 12,.len (.t 11),none⟩,⟨some 5,.mov (.t 12),none⟩]) (.seq (.seq (.reg [⟨some 6,.mov (.k (.int .i64 0)),none⟩]) (.block 0 (.loop (.seq (.seq (.reg [⟨some 13,.mov (.t 6),none⟩,⟨some 14,.mov (.t 0),none⟩,⟨some 15,.bin .lss (.t 13) (.t 14),none⟩]) (.cond (.t 15) (.skip) (.exit 0))) (.seq (.block 1 (.seq (.reg [⟨some 7,.mov (.k (.int .i64 0)),none⟩]) (.seq (.seq (.reg [⟨some 8,.mov (.k (.int .i64 0)),none⟩]) (.block 2 (.loop (.seq (.seq (.reg [⟨some 18,.mov (.t 8),none⟩,⟨some 19,.mov (.t 5),none⟩,⟨some 20,.bin .lss (.t 18) (.t 19),none⟩]) (.cond (.t 20) (.skip) (.exit 2))) (.seq (.block 3 (.reg [⟨some 23,.mov (.t 7),none⟩,⟨some 24,.faddr 0 (.t 3),none⟩,⟨some 25,.load 1 false (.t 24),none⟩,⟨some 26,.mov (.t 8),none⟩,⟨some 27,.iaddr 4 (.t 25) (.t 26),none⟩,⟨some 28,.faddr 0 (.t 27),none⟩,⟨some 29,.load 1 false (.t 28),none⟩,⟨some 30,.mov (.t 6),none⟩,⟨some 31,.iaddr 1 (.t 29) (.t 30),none⟩,⟨some 32,.load 1 false (.t 31),none⟩,⟨some 33,.bin .eql (.t 32) (.k (.int .i64 2)),none⟩,⟨some 34,.call 120 [.t 33],none⟩,⟨some 35,.bin .add (.t 23) (.t 34),none⟩,⟨some 7,.mov (.t 35),none⟩])) (.reg [⟨some 21,.mov (.t 8),none⟩,⟨some 22,.bin .add (.t 21) (.k (.int .i64 1)),none⟩,⟨some 8,.mov (.t 22),none⟩])))))) (.seq (.reg [⟨some 36,.mov (.t 7),none⟩,⟨some 37,.bin .gtr (.t 36) (.k (.int .i64 1)),none⟩]) (.cond (.t 37) (.seq (.reg [⟨some 4,.mov (.k (.bool false)),none⟩]) (.ret)) (.skip)))))) (.reg [⟨some 16,.mov (.t 6),none⟩,⟨some 17,.bin .add (.t 16) (.k (.int .i64 1)),none⟩,⟨some 6,.mov (.t 17),none⟩])))))) (.seq (.seq (.reg [⟨some 9,.mov (.k (.int .i64 0)),none⟩]) (.block 4 (.loop (.seq (.seq (.reg [⟨some 38,.mov (.t 9),none⟩,⟨some 39,.mov (.t 5),none⟩,⟨some 40,.bin .lss (.t 38) (.t 39),none⟩]) (.cond (.t 40) (.skip) (.exit 4))) (.seq (.block 5 (.seq (.reg [⟨some 43,.faddr 1 (.t 3),none⟩,⟨some 44,.load 1 false (.t 43),none⟩,⟨some 45,.mov (.t 9),none⟩,⟨some 46,.mov (.t 5),none⟩,⟨some 47,.bin .mul (.t 45) (.t 46),none⟩,⟨some 48,.mov (.t 9),none⟩,⟨some 49,.bin .add (.t 48) (.k (.int .i64 1)),none⟩,⟨some 50,.mov (.t 5),none⟩,⟨some 51,.bin .mul (.t 49) (.t 50),none⟩,⟨some 52,.slice 1 (.t 44) (some (.t 47)) (some (.t 51)),none⟩,⟨some 53,.call 61 [.t 52,(.k (.int .i64 2))],none⟩,⟨some 54,.len (.t 53),none⟩,⟨some 55,.bin .gtr (.t 54) (.k (.int .i64 1)),none⟩]) (.cond (.t 55) (.seq (.reg [⟨some 4,.mov (.k (.bool false)),none⟩]) (.ret)) (.skip)))) (.reg [⟨some 41,.mov (.t 9),none⟩,⟨some 42,.bin .add (.t 41) (.k (.int .i64 1)),none⟩,⟨some 9,.mov (.t 42),none⟩])))))) (.seq (.reg [⟨some 4,.mov (.k (.bool true)),none⟩]) (.ret)))))⟩
theorem fok_spec_l15Single : FOk Tryz.prog 82 code_spec_l15Single := fok Tryz.func82 (by kernel_rfl)
def code_spec_l15Cycle : F := ⟨31,[.tmp 2],.seq (.reg [⟨some 1,.box (.t 0),none⟩,⟨some 2,.mov (.k (.bool false)),none⟩]) (.seq (.seq (.reg [⟨some 3,.mov (.k (.int .i64 0)),none⟩]) (.block 0 (.loop (.seq (.seq (.reg [⟨some 5,.mov (.t 3),none⟩,⟨some 6,.faddr 0 (.t 1),none⟩,⟨some 7,.load 1 false (.t 6),none⟩,⟨some 8,.len (.t 7),none⟩,⟨some 9,.bin .lss (.t 5) (.t 8),none⟩]) (.cond (.t 9) (.skip) (.exit 0))) (.seq (.block 1 (.seq (.reg [⟨some 4,.mov (.k (.int .i64 0)),none⟩]) (.block 2 (.loop (.seq (.seq (.reg [⟨some 12,.mov (.t 4),none⟩,⟨some 13,.faddr 0 (.t 1),none⟩,⟨some 14,.load 1 false (.t 13),none⟩,⟨some 15,.len (.t 14),none⟩,⟨some 16,.bin .lss (.t 12) (.t 15),none⟩]) (.cond (.t 16) (.skip) (.exit 2))) (.seq (.block 3 (.seq (.reg [⟨some 19,.load 2 true (.t 1),none⟩,⟨some 20,.mov (.t 3),none⟩,⟨some 21,.mov (.t 4),none⟩,⟨some 22,.call 121 [.t 19,.t 20,.t 21],none⟩,⟨some 23,.bin .eql (.t 22) (.k (.int .i64 2)),none⟩,⟨some 24,.mov (.t 23),none⟩,⟨some 25,.load 2 true (.t 1),some (24,true)⟩,⟨some 26,.mov (.t 4),some (24,true)⟩,⟨some 27,.mov (.t 3),some (24,true)⟩,⟨some 28,.call 122 [.t 25,.t 26,.t 27],some (24,true)⟩,⟨some 29,.bin .eql (.t 28) (.k (.int .i64 2)),some (24,true)⟩,⟨some 30,.pick (.t 24) (.t 29) (.k (.bool false)),none⟩]) (.cond (.t 30) (.seq (.reg [⟨some 2,.mov (.k (.bool true)),none⟩]) (.ret)) (.skip)))) (.reg [⟨some 17,.mov (.t 4),none⟩,⟨some 18,.bin .add (.t 17) (.k (.int .i64 1)),none⟩,⟨some 4,.mov (.t 18),none⟩]))))))) (.reg [⟨some 10,.mov (.t 3),none⟩,⟨some 11,.bin .add (.t 10) (.k (.int .i64 1)),none⟩,⟨some 3,.mov (.t 11),none⟩])))))) (.seq (.reg [⟨some 2,.mov (.k (.bool false)),none⟩]) (.ret)))⟩
theorem fok_spec_l15Cycle : FOk Tryz.prog 83 code_spec_l15Cycle := fok Tryz.func83 (by kernel_rfl)
def code_spec_IsConsistent : F := ⟨45,[.tmp 4],.seq (.reg [⟨some 3,.box (.t 1),none⟩,⟨some 4,.mov (.k (.bool false)),none⟩]) (.seq (.seq (.reg [⟨some 6,.mov (.t 0),none⟩,⟨some 7,.load 2 true (.t 3),none⟩,⟨some 8,.call 51 [.t 6,.t 7],none⟩,⟨some 9,.not (.t 8),none⟩,⟨some 10,.mov (.t 9),none⟩,⟨some 11,.load 2 true (.t 3),some (10,false)⟩,⟨some 12,.call 52 [.t 11],some (10,false)⟩,⟨some 13,.not (.t 12),some (10,false)⟩,⟨some 14,.pick (.t 10) (.k (.bool true)) (.t 13),none⟩,⟨some 15,.mov (.t 14),none⟩,⟨some 16,.mov (.t 0),some (15,false)⟩,⟨some 17,.load 2 true (.t 3),some (15,false)⟩,⟨some 18,.call 82 [.t 16,.t 17],some (15,false)⟩,⟨some 19,.not (.t 18),some (15,false)⟩,⟨some 20,.pick (.t 15) (.k (.bool true)) (.t 19),none⟩,⟨some 21,.mov (.t 20),none⟩,⟨some 22,.load 2 true (.t 3),some (21,false)⟩,⟨some 23,.call 83 [.t 22],some (21,false)⟩,⟨some 24,.pick (.t 21) (.k (.bool true)) (.t 23),none⟩,⟨some 25,.mov (.t 24),none⟩,⟨some 26,.load 2 true (.t 3),some (25,false)⟩,⟨some 27,.call 21 [.t 26],some (25,false)⟩,⟨some 28,.bin .neq (.t 27) (.k (.int .i64 2)),some (25,false)⟩,⟨some 29,.pick (.t 25) (.k (.bool true)) (.t 28),none⟩]) (.cond (.t 29) (.seq (.reg [⟨some 4,.mov (.k (.bool false)),none⟩]) (.ret)) (.skip))) (.seq (.seq (.reg [⟨some 5,.mov (.k (.int .i64 0)),none⟩]) (.block 0 (.loop (.seq (.seq (.reg [⟨some 30,.mov (.t 5),none⟩,⟨some 31,.faddr 0 (.t 3),none⟩,⟨some 32,.load 1 false (.t 31),none⟩,⟨some 33,.len (.t 32),none⟩,⟨some 34,.bin .lss (.t 30) (.t 33),none⟩]) (.cond (.t 34) (.skip) (.exit 0))) (.seq (.block 1 (.seq (.reg [⟨some 37,.faddr 0 (.t 3),none⟩,⟨some 38,.load 1 false (.t 37),none⟩,⟨some 39,.mov (.t 5),none⟩,⟨some 40,.iaddr 4 (.t 38) (.t 39),none⟩,⟨some 41,.faddr 1 (.t 40),none⟩,⟨some 42,.load 1 false (.t 41),none⟩,⟨some 43,.call 62 [.t 42,(.k (.int .i64 2))],none⟩,⟨some 44,.not (.t 43),none⟩]) (.cond (.t 44) (.seq (.reg [⟨some 4,.mov (.k (.bool false)),none⟩]) (.ret)) (.skip)))) (.reg [⟨some 35,.mov (.t 5),none⟩,⟨some 36,.bin .add (.t 35) (.k (.int .i64 1)),none⟩,⟨some 5,.mov (.t 36),none⟩])))))) (.seq (.reg [⟨some 4,.mov (.k (.bool true)),none⟩]) (.ret))))⟩
theorem fok_spec_IsConsistent : FOk Tryz.prog 27 code_spec_IsConsistent := fok Tryz.func27 (by kernel_rfl)
noncomputable def allR (s : Strc) : Bool := (List.range s.nodes.length).all fun i => decide (rowN s i s.nodes.length ≤ 1)
noncomputable def cycS (s : Strc) : Bool := (List.range s.nodes.length).any fun i => rchB s 2 i i
def allH (s : Strc) : Bool := (List.range s.nodes.length).all fun i => decide (2 ∈ (nodeI s (i : Nat)).reach)
theorem allI_split (s : Strc) : allI s = (allR s && (!cycS s && allH s)) := by
  unfold allI allR cycS allH okI
  rw [Bool.eq_iff_iff]
  simp only [Bool.and_eq_true, List.all_eq_true, Bool.not_eq_true', List.any_eq_false, Bool.not_eq_true]
  constructor
  · intro h
    exact ⟨fun i hi => (h i hi).1, fun i hi => (h i hi).2.2, fun i hi => (h i hi).2.1⟩
  · rintro ⟨h1, h2, h3⟩ i hi
    exact ⟨h1 i hi, h3 i hi, h2 i hi⟩
theorem rch_first {e : Nat → Nat → Prop} {i y : Nat} (h : Rch e i y) : e i y ∨ ∃ j, e i j ∧ Rch e j y := by
  induction h with
  | one h => exact .inl h
  | more _ g ih =>
    rcases ih with h | ⟨j, h1, h2⟩
    · exact .inr ⟨_, h, .one g⟩
    · exact .inr ⟨j, h1, .more h2 g⟩
theorem rch_cons {e : Nat → Nat → Prop} {i j y : Nat} (h : e i j) (g : Rch e j y) : Rch e i y := by
  induction g with
  | one g => exact .more (.one h) g
  | more _ g ih => exact .more ih g
def rowCut (s : Strc) (i : Nat) : List Int := (s.next.take ((i + 1) * s.nodes.length)).drop (i * s.nodes.length)
theorem rowCut_pos {v : Nat} {s : Strc} (h : Fine v s) {i : Nat} (hi : i < s.nodes.length) : (pos (rowCut s i) 2).length = rowN s i s.nodes.length := by
  have hnl : s.next.length = s.nodes.length * s.nodes.length := by have := h.nl; exact_mod_cast this
  have hle : (i + 1) * s.nodes.length ≤ s.next.length := by rw [hnl]; exact Nat.mul_le_mul_right _ hi
  have he : (i + 1) * s.nodes.length = i * s.nodes.length + s.nodes.length := by rw [Nat.add_mul, Nat.one_mul]
  have hl : (rowCut s i).length = s.nodes.length := by unfold rowCut; rw [List.length_drop, List.length_take, Nat.min_eq_left hle]; omega
  unfold pos rowN
  rw [List.length_map, hl, ← List.countP_eq_length_filter]
  refine List.countP_congr fun j hj => ?_
  have hj : j < s.nodes.length := by simpa using hj
  have hg : (rowCut s i).getD j 0 = nextOf s (i : Nat) (j : Nat) := by
    unfold nextOf
    have h1 : inN s (i : Int) := ⟨by omega, by omega⟩
    have h2 : inN s (j : Int) := ⟨by omega, by omega⟩
    rw [if_pos ⟨h1, h2, h.nl⟩]
    have e2 : ((i : Int) * s.nodes.length + j).toNat = i * s.nodes.length + j := by
      have : ((i : Int) * s.nodes.length + j) = ((i * s.nodes.length + j : Nat) : Int) := by simp
      rw [this, Int.toNat_natCast]
    rw [e2]
    unfold rowCut
    rw [List.getD_eq_getElem?_getD, List.getElem?_drop, List.getElem?_take, if_pos (by omega), ← List.getD_eq_getElem?_getD]
  rw [hg]
  simp
@[simp] noncomputable def ct_l15Single : Ct := ⟨82, Nat × Strc, fun x => szStrc x.2 ≤ 1048576 ∧ Fine x.1 x.2, fun x => [.int .i64 x.1, encStrc x.2], fun x => .bool (allC x.1 x.2 && allR x.2)⟩
set_option maxHeartbeats 8000000 in
set_option maxRecDepth 100000 in
theorem ok_l15Single : ct_l15Single.Ok Tryz.prog := by
  rintro ⟨v, s⟩ ⟨hs, hF⟩
  change szStrc s ≤ 1048576 at hs
  change Fine v s at hF
  have hs2 := strc_le s
  have hv4 := hF.v4
  have hn10 := hF.n10
  have hT : TabOk Tryz.prog _ := tab_cons ok_l1Bit (tab_cons ok_sPositions tab_nil)
  refine Ok.of_cw fok_spec_l15Single ?_
  simp only [code_spec_l15Single, frame, List.length_cons, List.length_nil, List.replicate, Nat.reduceSub, Nat.reduceAdd, List.cons_append, List.nil_append]
  refine cw_seq (go_ok hT ?_)
  simp
  refine cw_seq (go_ok hT ?_)
  simp
  refine cw_cut_weak (α := Unit) (fun _ => ⟨slots 56 [(3, .pbox 0 0), (5, .int .i64 s.nodes.length)], [.cells [encL 4 encNode s.nodes, encL 1 encInt s.next]]⟩) (fun _ => allC v s = true) (go_ok hT ?_) ?_
  · simp
    refine cw_round (fun (k : Nat) => ⟨slots 56 [(0, .int .i64 v), (3, .pbox 0 0), (5, .int .i64 s.nodes.length), (6, .int .i64 k)], [.cells [encL 4 encNode s.nodes, encL 1 encInt s.next]]⟩)
      (fun k => k ≤ v ∧ ∀ j, j < k → colN s j s.nodes.length ≤ 1) (fun k => v - k) 0 ⟨by simp, fun j hj => by omega⟩ ?_ ?_
    · exact weak_seal 1 (by simp) (by simp) (by simp [List.replicate])
    rintro N hN k ⟨hk, hc⟩
    have hwk : IntKind.i64.wrap ((k : Int) + 1) = ((k + 1 : Nat) : Int) := by rw [wrap_i64] <;> omega
    refine go_ok hT ?_
    by_cases gk : k < v
    case neg =>
      have e : k = v := by omega
      subst e
      simp [List.replicate]
      refine ⟨all_true fun j hj => by simpa using hc j hj, weak_seal 1 (by simp) ?_ ?_⟩
      · simp
      · simp [List.replicate]
    have gk2 : ¬ v ≤ k := by omega
    simp [List.replicate, gk, gk2]
    refine cw_round (fun (i : Nat) => ⟨slots 56 [(0, .int .i64 v), (3, .pbox 0 0), (5, .int .i64 s.nodes.length), (6, .int .i64 k), (7, .int .i64 (colN s k i)), (8, .int .i64 i)], [.cells [encL 4 encNode s.nodes, encL 1 encInt s.next]]⟩)
      (fun i => i ≤ s.nodes.length) (fun i => s.nodes.length - i) 0 (by simp) ?_ ?_
    · exact weak_seal 1 (by simp) (by simp) (by simp [List.replicate, colN])
    rintro N2 hN2 i hi
    have hwi : IntKind.i64.wrap ((i : Int) + 1) = ((i + 1 : Nat) : Int) := by rw [wrap_i64] <;> omega
    refine go_ok hT ?_
    by_cases gi : i < s.nodes.length
    · have gi2 : ¬ s.nodes.length ≤ i := by omega
      have hvl := hF.vl s.nodes[i] (List.getElem_mem gi)
      have hsc := colN_succ (s := s) (k := k) gi
      have hcl := colN_le s k i
      generalize hx : s.nodes[i] = x at *
      have hkx : k < x.vars.length := by omega
      have hgd : x.vars.getD k 0 = x.vars[k] := by simp [List.getD_eq_getElem?_getD, hkx]
      rw [hgd] at hsc
      have hw0 : IntKind.i64.wrap ((colN s k i : Int)) = (colN s k i : Int) := by rw [wrap_i64] <;> omega
      have hw1 : IntKind.i64.wrap ((colN s k i : Int) + 1) = ((colN s k i + 1 : Nat) : Int) := by rw [wrap_i64] <;> omega
      by_cases hval : x.vars[k] = 2
      · simp [hval] at hsc
        simp [List.replicate, hwi, gi, gi2, hx, hkx, hval, hw1, bb_ex]
        refine hN2 i (i + 1) _ (by omega) (by omega) (weak_seal 1 (by simp) ?_ ?_)
        · simp
        · simp [List.replicate, hsc]
      · simp [hval] at hsc
        simp [List.replicate, hwi, gi, gi2, hx, hkx, hval, hw0, bb_ex]
        refine hN2 i (i + 1) _ (by omega) (by omega) (weak_seal 1 (by simp) ?_ ?_)
        · simp
        · simp [List.replicate, hsc]
    · have e : i = s.nodes.length := by omega
      subst e
      by_cases hck : colN s k s.nodes.length ≤ 1
      · have hck2 : ¬ 1 < colN s k s.nodes.length := by omega
        have hck3 : ¬ (1 : Int) < (colN s k s.nodes.length : Int) := by omega
        simp [List.replicate, hck, hck2, hck3, hwk]
        refine hN k (k + 1) _ ⟨by omega, fun j hj => ?_⟩ (by omega) (weak_seal 1 (by simp) ?_ ?_)
        · by_cases e : j = k
          · subst e; exact hck
          · exact hc j (by omega)
        · simp
        · simp [List.replicate]
      · have hck2 : 1 < colN s k s.nodes.length := by omega
        have hck3 : (1 : Int) < (colN s k s.nodes.length : Int) := by omega
        have hf : allC v s = false := all_false gk (by simp; omega)
        simp [List.replicate, hck, hck2, hck3, hf]
  intro _ hAC
  change CW _ _ _ (retP _ (.bool (allC v s && allR s))) _
  rw [hAC, Bool.true_and]
  have hnl : s.next.length = s.nodes.length * s.nodes.length := by have := hF.nl; exact_mod_cast this
  refine cw_seq (go_ok hT ?_)
  simp [List.replicate]
  refine cw_round (fun (i : Nat) => ⟨slots 56 [(3, .pbox 0 0), (5, .int .i64 s.nodes.length), (9, .int .i64 i)], [.cells [encL 4 encNode s.nodes, encL 1 encInt s.next]]⟩)
    (fun i => i ≤ s.nodes.length ∧ ∀ j, j < i → rowN s j s.nodes.length ≤ 1) (fun i => s.nodes.length - i) 0 ⟨by simp, fun j hj => by omega⟩ ?_ ?_
  · exact weak_seal 1 (by simp) (by simp) (by simp [List.replicate])
  rintro N hN i ⟨hi, hc⟩
  have hwi : IntKind.i64.wrap ((i : Int) + 1) = ((i + 1 : Nat) : Int) := by rw [wrap_i64] <;> omega
  refine go_ok hT ?_
  by_cases gi : i < s.nodes.length
  case neg =>
    have e : i = s.nodes.length := by omega
    subst e
    have hA : allR s = true := all_true fun j hj => by simpa using hc j hj
    simp [List.replicate]
    refine go_ok hT ?_
    simp [hA]
  have gi2 : ¬ s.nodes.length ≤ i := by omega
  have hm1 : i * s.nodes.length ≤ 10 * 10 := Nat.mul_le_mul (by omega) (by omega)
  have hm2 : (i + 1) * s.nodes.length ≤ s.next.length := by rw [hnl]; exact Nat.mul_le_mul_right _ gi
  have hm3 : (i + 1) * s.nodes.length = i * s.nodes.length + s.nodes.length := by rw [Nat.add_mul, Nat.one_mul]
  have w1 : IntKind.i64.wrap ((i : Int) * (s.nodes.length : Int)) = ((i * s.nodes.length : Nat) : Int) := by
    rw [show (i : Int) * (s.nodes.length : Int) = ((i * s.nodes.length : Nat) : Int) by push_cast; rfl, wrap_i64] <;> omega
  have w2 : IntKind.i64.wrap (((i : Int) + 1) * (s.nodes.length : Int)) = (((i + 1) * s.nodes.length : Nat) : Int) := by
    rw [show ((i : Int) + 1) * (s.nodes.length : Int) = (((i + 1) * s.nodes.length : Nat) : Int) by push_cast; rfl, wrap_i64] <;> omega
  have hrc := rowCut_pos hF gi
  unfold rowCut at hrc
  generalize ha : i * s.nodes.length = a at *
  generalize hb : (i + 1) * s.nodes.length = b at *
  have b1 : a ≤ b := by omega
  have b2 : b ≤ s.next.length := hm2
  have hcl : ((s.next.take b).drop a).length ≤ 1048576 := by simp; omega
  by_cases hr : rowN s i s.nodes.length ≤ 1
  · have hr3 : ¬ (1 : Int) < (rowN s i s.nodes.length : Int) := by omega
    have hr2 : ¬ 1 < rowN s i s.nodes.length := by omega
    have hr4 : (rowN s i s.nodes.length : Int) ≤ 1 := by omega
    simp [List.replicate, hwi, w1, w2, gi, gi2, b1, b2, -List.length_drop, hcl, hrc, hr2, hr3, hr4]
    refine hN i (i + 1) _ ⟨by omega, fun j hj => ?_⟩ (by omega) (weak_seal 1 (by simp) ?_ ?_)
    · by_cases e : j = i
      · subst e; exact hr
      · exact hc j (by omega)
    · simp
    · simp [List.replicate]
  · have hr3 : (1 : Int) < (rowN s i s.nodes.length : Int) := by omega
    have hr2 : 1 < rowN s i s.nodes.length := by omega
    have hr4 : ¬ (rowN s i s.nodes.length : Int) ≤ 1 := by omega
    have hf : allR s = false := all_false gi (by simp; omega)
    simp [List.replicate, hwi, w1, w2, gi, gi2, b1, b2, -List.length_drop, hcl, hrc, hr2, hr3, hr4, hf]
end Go.Vm
