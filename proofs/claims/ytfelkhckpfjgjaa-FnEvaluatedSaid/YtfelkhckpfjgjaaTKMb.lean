/- Embeddings: what is found is one, what is one is found; every structure is embedded in itself and in its abstraction. Plain; no condition. -/
import Derived.Test.YtfelkhckpfjgjaaTJI
import Derived.Test.YtfelkhckpfjgjaaTCI
import Derived.Test.YtfelkhckpfjgjaaTKM
set_option linter.unusedSimpArgs false
set_option linter.unusedVariables false
namespace Go.Vm
open Go.Proofs
theorem structB_node {v : Int} {s : Strc} (h : structB v s = true) {i : Nat} (hi : i < s.nodes.length) : ((s.nodes[i].vars.length : Int) = v ∧ (s.nodes[i].reach.length : Int) = v) ∧ ((∀ a ∈ s.nodes[i].vars, isTruth a = true) ∧ (∀ a ∈ s.nodes[i].reach, isTruth a = true)) ∧ isTruth s.nodes[i].shared = true ∧ (0 ≤ s.nodes[i].many ∧ s.nodes[i].many ≤ 1) := by
  unfold structB at h
  simp only [Bool.and_eq_true, decide_eq_true_eq, Bool.not_eq_true', List.any_eq_false] at h
  have := h.2 _ (List.getElem_mem hi)
  simp only [badN, Bool.not_eq_true', Bool.not_eq_false', Bool.not_not, Bool.and_eq_true, decide_eq_true_eq, Bool.not_eq_true] at this
  simp at this
  obtain ⟨a1, a2, a3, a4, a5, a6, a7⟩ := this
  exact ⟨⟨a1, a2⟩, ⟨truthsB_iff.1 a3, truthsB_iff.1 a4⟩, a5, a6, a7⟩
theorem nodes_getD {s : Strc} {i : Nat} (hi : i < s.nodes.length) : s.nodes.getD i default = s.nodes[i] := by simp [List.getD_eq_getElem?_getD, hi]
structure Gs.Part (nm : Nat → List UInt8) (g : Gs) (i : Nat) : Prop where
  cov : ∀ j : Nat, j < i → ∃ c, c < g.cr.length ∧ (j : Int) ∈ g.cr.getD c []
  dis : ∀ c c' y, y ∈ g.cr.getD c [] → y ∈ g.cr.getD c' [] → c = c'
  nam : ∀ a, a < g.od.length → ∀ j : Nat, (j : Int) ∈ g.cr.getD (g.od.getD a 0) [] → g.nm[a]? = some (nm j)
theorem ins_get {α : Type} {l : List α} {x : α} {a b : Nat} (ha : a ≤ l.length) : (l.take a ++ x :: l.drop a)[b]? = if b < a then l[b]? else if b = a then some x else l[b - 1]? := by
  by_cases h1 : b < a
  · rw [if_pos h1, List.getElem?_append_left (by simp; omega), List.getElem?_take, if_pos h1]
  · rw [if_neg h1, List.getElem?_append_right (by simp; omega)]
    have e : b - (l.take a).length = b - a := by simp; omega
    rw [e]
    by_cases h2 : b = a
    · rw [if_pos h2, h2, Nat.sub_self]; rfl
    · rw [if_neg h2]
      obtain ⟨m, hm⟩ : ∃ m, b - a = m + 1 := ⟨b - a - 1, by omega⟩
      rw [hm, List.getElem?_cons_succ, List.getElem?_drop]
      congr 1; omega
theorem Gs.Part.step {nm : Nat → List UInt8} {g : Gs} {i : Nat} (h : g.Part nm i) (ok : g.Ok i) : (g.step (nm i) i).Part nm (i + 1) := by
  obtain ⟨cov, dis, nam⟩ := h
  obtain ⟨lo, lc, nd, rg, li, ne, el⟩ := ok
  have hle := lowP_le g.nm (nm i)
  have new : ∀ c (y : Int), y ∈ g.cr.getD c [] → y < i := fun c y hy => by
    by_cases hc : c < g.cr.length
    · rw [List.getD_eq_getElem?_getD, List.getElem?_eq_getElem hc] at hy
      exact ((el _ (List.getElem_mem hc)).2 y hy).2
    · rw [List.getD_eq_getElem?_getD, List.getElem?_eq_none (by omega)] at hy; cases hy
  unfold Gs.step
  generalize lowP g.nm (nm i) = a at *
  split
  · rename_i e
    have ha : a < g.nm.length := (List.getElem?_eq_some_iff.1 e).1
    have hao : a < g.od.length := by omega
    have e1 : g.od.getD a 0 = g.od[a] := by simp [List.getD_eq_getElem?_getD, hao]
    have hc : g.od[a] < g.cr.length := rg _ (List.getElem_mem hao)
    rw [e1]
    generalize hc0 : g.od[a] = c0 at *
    have gset : ∀ c, (g.cr.set c0 (g.cr.getD c0 [] ++ [(i : Int)])).getD c [] = if c = c0 then g.cr.getD c0 [] ++ [(i : Int)] else g.cr.getD c [] := fun c => by
      rw [List.getD_eq_getElem?_getD]
      by_cases q : c = c0
      · subst q; rw [List.getElem?_set_self hc, if_pos rfl]; rfl
      · rw [List.getElem?_set_ne (fun e => q e.symm), if_neg q, ← List.getD_eq_getElem?_getD]
    refine ⟨fun j hj => ?_, fun c c' y hy hy' => ?_, fun b hb j hj => ?_⟩
    · by_cases q : j = i
      · subst q; exact ⟨c0, by simpa using hc, by rw [gset, if_pos rfl]; simp⟩
      · obtain ⟨c, h1, h2⟩ := cov j (by omega)
        refine ⟨c, by simpa using h1, ?_⟩
        rw [gset]
        split
        · rename_i q; subst q; exact List.mem_append_left _ h2
        · exact h2
    · simp only [gset] at hy hy'
      split at hy <;> split at hy'
      · omega
      · rename_i q1 q2
        rcases List.mem_append.1 hy with hy | hy
        · rw [q1]; exact dis _ _ _ hy hy'
        · rw [List.mem_singleton.1 hy] at hy'
          have := new _ _ hy'; omega
      · rename_i q1 q2
        rcases List.mem_append.1 hy' with hy' | hy'
        · rw [q2]; exact dis _ _ _ hy hy'
        · rw [List.mem_singleton.1 hy'] at hy
          have := new _ _ hy; omega
      · exact dis _ _ _ hy hy'
    · simp only [gset] at hj
      have hb' : b < g.od.length := hb
      split at hj
      · rename_i q
        have eb : g.od.getD b 0 = g.od[b] := by simp [List.getD_eq_getElem?_getD, hb']
        have hab : b = a := by
          have : g.od[b] = g.od[a] := by rw [← eb, q, hc0]
          exact (List.getElem_inj nd).1 this
        subst hab
        rcases List.mem_append.1 hj with hj | hj
        · exact nam b hb' j (by rw [q]; exact hj)
        · have : j = i := by have := List.mem_singleton.1 hj; omega
          subst this; exact e
      · exact nam b hb' j hj
  · rename_i e
    have gapp : ∀ c, (g.cr ++ [[(i : Int)]]).getD c [] = if c = g.cr.length then [(i : Int)] else g.cr.getD c [] := fun c => by
      rw [List.getD_eq_getElem?_getD]
      by_cases q : c < g.cr.length
      · rw [List.getElem?_append_left q, if_neg (by omega), ← List.getD_eq_getElem?_getD]
      · rw [List.getElem?_append_right (by omega)]
        by_cases q2 : c = g.cr.length
        · rw [if_pos q2, q2]; simp
        · rw [if_neg q2, List.getElem?_eq_none (by simp; omega), List.getD_eq_getElem?_getD, List.getElem?_eq_none (by omega)]
    refine ⟨fun j hj => ?_, fun c c' y hy hy' => ?_, fun b hb j hj => ?_⟩
    · by_cases q : j = i
      · subst q; exact ⟨g.cr.length, by simp, by rw [gapp, if_pos rfl]; simp⟩
      · obtain ⟨c, h1, h2⟩ := cov j (by omega)
        exact ⟨c, by simp; omega, by rw [gapp, if_neg (by omega)]; exact h2⟩
    · simp only [gapp] at hy hy'
      split at hy <;> split at hy'
      · omega
      · rw [List.mem_singleton.1 hy] at hy'
        have := new _ _ hy'; omega
      · rw [List.mem_singleton.1 hy'] at hy
        have := new _ _ hy; omega
      · exact dis _ _ _ hy hy'
    · have hbl : b < g.od.length + 1 := by simp at hb; omega
      have eo : (g.od.take a ++ g.cr.length :: g.od.drop a).getD b 0 = if b < a then g.od.getD b 0 else if b = a then g.cr.length else g.od.getD (b - 1) 0 := by
        rw [List.getD_eq_getElem?_getD, ins_get (by omega)]
        split
        · rw [← List.getD_eq_getElem?_getD]
        · split
          · rfl
          · rw [← List.getD_eq_getElem?_getD]
      have en : (g.nm.take a ++ nm i :: g.nm.drop a)[b]? = if b < a then g.nm[b]? else if b = a then some (nm i) else g.nm[b - 1]? := ins_get hle
      show (g.nm.take a ++ nm i :: g.nm.drop a)[b]? = some (nm j)
      have hj : (j : Int) ∈ (g.cr ++ [[(i : Int)]]).getD ((g.od.take a ++ g.cr.length :: g.od.drop a).getD b 0) [] := hj
      rw [eo, gapp] at hj
      rw [en]
      have odl : ∀ d, d < g.od.length → g.od.getD d 0 ≠ g.cr.length := fun d hd => by
        rw [List.getD_eq_getElem?_getD, List.getElem?_eq_getElem hd]
        have := rg _ (List.getElem_mem hd)
        simp only [Option.getD_some]; omega
      by_cases q1 : b < a
      · rw [if_pos q1] at hj ⊢
        rw [if_neg (odl b (by omega))] at hj
        exact nam b (by omega) j hj
      · rw [if_neg q1] at hj ⊢
        by_cases q2 : b = a
        · rw [if_pos q2] at hj ⊢
          rw [if_pos rfl] at hj
          have : j = i := by have := List.mem_singleton.1 hj; omega
          rw [this]
        · rw [if_neg q2] at hj ⊢
          rw [if_neg (odl (b - 1) (by omega))] at hj
          exact nam (b - 1) (by omega) j hj
end Go.Vm
namespace Go.Vm
open Go.Proofs
def in3 (u : Int) : Bool := decide (0 ≤ u) && decide (u ≤ 3)
theorem in3_iff {u : Int} : in3 u = true ↔ 0 ≤ u ∧ u ≤ 3 := by simp [in3]
@[simp] def ct_in3 : Ct := ⟨48, Int, fun _ => True, fun x => [.int .i64 x, .int .i64 0, .int .i64 3], fun x => .bool (in3 x)⟩
theorem ok_in3 : ct_in3.Ok Try.prog := fun x _ => ok_l1In (x, 0, 3) trivial
def headB (v kind k u w : Int) (n : Nat) : Bool :=
  !((decide (usesT kind < 1) && !decide (u = 0)) || (decide (usesT kind < 2) && !decide (w = 0)) || (!(decide (kind = 2) || decide (kind = 3)) && !decide (k = 0)) || ((decide (kind = 2) || decide (kind = 3)) && (decide (k < 0) || decide (v ≤ k)))) &&
  (in3 u && in3 w && decide ((n : Int) = arity kind))
mutual
def formB (v : Int) : Fm → Bool | .mk kind k u w l => formS v l && headB v kind k u w l.length
def formS (v : Int) : List Fm → Bool
  | [] => true
  | x :: xs => formB v x && formS v xs
end
theorem formS_iff {v : Int} : ∀ {l : List Fm}, formS v l = true ↔ ∀ x ∈ l, formB v x = true
  | [] => by simp [formS]
  | x :: xs => by
    have := formS_iff (v := v) (l := xs)
    simp [formS, this]
def code_spec_l10Form : F := ⟨90,[.tmp 4],.seq (.reg [⟨some 3,.box (.t 1),none⟩,⟨some 4,.mov (.k (.bool false)),none⟩]) (.seq (.seq (.reg [⟨some 5,.mov (.k (.int .i64 0)),none⟩]) (.block 0 (.loop (.seq (.seq (.reg [⟨some 8,.mov (.t 5),none⟩,⟨some 9,.faddr 4 (.t 3),none⟩,⟨some 10,.load 1 false (.t 9),none⟩,⟨some 11,.len (.t 10),none⟩,⟨some 12,.bin .lss (.t 8) (.t 11),none⟩]) (.cond (.t 12) (.skip) (.exit 0))) (.seq (.block 1 (.seq (.reg [⟨some 15,.mov (.t 0),none⟩,⟨some 16,.faddr 4 (.t 3),none⟩,⟨some 17,.load 1 false (.t 16),none⟩,⟨some 18,.mov (.t 5),none⟩,⟨some 19,.iaddr 5 (.t 17) (.t 18),none⟩,⟨some 20,.load 5 true (.t 19),none⟩,⟨some 21,.call 88 [.t 15,.t 20],none⟩,⟨some 22,.not (.t 21),none⟩]) (.cond (.t 22) (.seq (.reg [⟨some 4,.mov (.k (.bool false)),none⟩]) (.ret)) (.skip)))) (.reg [⟨some 13,.mov (.t 5),none⟩,⟨some 14,.bin .add (.t 13) (.k (.int .i64 1)),none⟩,⟨some 5,.mov (.t 14),none⟩])))))) (.seq (.reg [⟨some 23,.faddr 0 (.t 3),none⟩,⟨some 24,.load 1 false (.t 23),none⟩,⟨some 25,.call 107 [.t 24],none⟩,⟨some 6,.mov (.t 25),none⟩]) (.seq (.reg [⟨some 26,.faddr 0 (.t 3),none⟩,⟨some 27,.load 1 false (.t 26),none⟩,⟨some 28,.bin .eql (.t 27) (.k (.int .i64 2)),none⟩,⟨some 29,.mov (.t 28),none⟩,⟨some 30,.faddr 0 (.t 3),some (29,false)⟩,⟨some 31,.load 1 false (.t 30),some (29,false)⟩,⟨some 32,.bin .eql (.t 31) (.k (.int .i64 3)),some (29,false)⟩,⟨some 33,.pick (.t 29) (.k (.bool true)) (.t 32),none⟩,⟨some 7,.mov (.t 33),none⟩]) (.seq (.seq (.reg [⟨some 34,.mov (.t 6),none⟩,⟨some 35,.bin .lss (.t 34) (.k (.int .i64 1)),none⟩,⟨some 36,.mov (.t 35),none⟩,⟨some 37,.faddr 2 (.t 3),some (36,true)⟩,⟨some 38,.load 1 false (.t 37),some (36,true)⟩,⟨some 39,.bin .neq (.t 38) (.k (.int .i64 0)),some (36,true)⟩,⟨some 40,.pick (.t 36) (.t 39) (.k (.bool false)),none⟩,⟨some 41,.mov (.t 40),none⟩,⟨some 42,.mov (.t 6),some (41,false)⟩,⟨some 43,.bin .lss (.t 42) (.k (.int .i64 2)),some (41,false)⟩,⟨some 44,.mov (.t 43),some (41,false)⟩,⟨some 45,.faddr 3 (.t 3),some (44,true)⟩,⟨some 46,.load 1 false (.t 45),some (44,true)⟩,⟨some 47,.bin .neq (.t 46) (.k (.int .i64 0)),some (44,true)⟩,⟨some 48,.pick (.t 44) (.t 47) (.k (.bool false)),some (41,false)⟩,⟨some 49,.pick (.t 41) (.k (.bool true)) (.t 48),none⟩,⟨some 50,.mov (.t 49),none⟩,⟨some 51,.mov (.t 7),some (50,false)⟩,⟨some 52,.not (.t 51),some (50,false)⟩,⟨some 53,.mov (.t 52),some (50,false)⟩,⟨some 54,.faddr 1 (.t 3),some (53,true)⟩,⟨some 55,.load 1 false (.t 54),some (53,true)⟩,⟨some 56,.bin .neq (.t 55) (.k (.int .i64 0)),some (53,true)⟩,⟨some 57,.pick (.t 53) (.t 56) (.k (.bool false)),some (50,false)⟩,⟨some 58,.pick (.t 50) (.k (.bool true)) (.t 57),none⟩,⟨some 59,.mov (.t 58),none⟩,⟨some 60,.mov (.t 7),some (59,false)⟩,⟨some 61,.mov (.t 60),some (59,false)⟩,⟨some 62,.faddr 1 (.t 3),some (61,true)⟩,⟨some 63,.load 1 false (.t 62),some (61,true)⟩,⟨some 64,.bin .lss (.t 63) (.k (.int .i64 0)),some (61,true)⟩,⟨some 65,.mov (.t 64),some (61,true)⟩,⟨some 66,.faddr 1 (.t 3),some (65,false)⟩,⟨some 67,.load 1 false (.t 66),some (65,false)⟩,⟨some 68,.mov (.t 0),some (65,false)⟩,⟨some 69,.bin .geq (.t 67) (.t 68),some (65,false)⟩,⟨some 70,.pick (.t 65) (.k (.bool true)) (.t 69),some (61,true)⟩,⟨some 71,.pick (.t 61) (.t 70) (.k (.bool false)),some (59,false)⟩,⟨some 72,.pick (.t 59) (.k (.bool true)) (.t 71),none⟩]) (.cond (.t 72) (.seq (.reg [⟨some 4,.mov (.k (.bool false)),none⟩]) (.ret)) (.skip))) (.seq (.dreg [true,true,true,true,true,true,true,true,true,false,false,false,false,false,false,true,true,true] [false,false,true,false,false,false,true,false,false,false,false,false,false,false,true,false,false,false] [⟨some 73,.faddr 2 (.t 3),none⟩,⟨some 74,.load 1 false (.t 73),none⟩,⟨some 75,.call 48 [.t 74,(.k (.int .i64 0)),(.k (.int .i64 3))],none⟩,⟨some 76,.mov (.t 75),none⟩,⟨some 77,.faddr 3 (.t 3),some (76,true)⟩,⟨some 78,.load 1 false (.t 77),some (76,true)⟩,⟨some 79,.call 48 [.t 78,(.k (.int .i64 0)),(.k (.int .i64 3))],some (76,true)⟩,⟨some 80,.pick (.t 76) (.t 79) (.k (.bool false)),none⟩,⟨some 81,.mov (.t 80),none⟩,⟨some 82,.faddr 4 (.t 3),some (81,true)⟩,⟨some 83,.load 1 false (.t 82),some (81,true)⟩,⟨some 84,.len (.t 83),some (81,true)⟩,⟨some 85,.faddr 0 (.t 3),some (81,true)⟩,⟨some 86,.load 1 false (.t 85),some (81,true)⟩,⟨some 87,.call 73 [.t 86],some (81,true)⟩,⟨some 88,.bin .eql (.t 84) (.t 87),some (81,true)⟩,⟨some 89,.pick (.t 81) (.t 88) (.k (.bool false)),none⟩,⟨some 4,.mov (.t 89),none⟩]) (.ret))))))⟩
theorem fok_spec_l10Form : FOk Try.prog 88 code_spec_l10Form := fok Try.func88 (by kernel_rfl)
def tl5b : C → C
  | .seq _ (.seq _ (.seq _ (.seq _ x))) => x
  | c => c
def tl6 : C → C
  | .seq _ (.seq _ (.seq _ (.seq _ (.seq _ x)))) => x
  | c => c
@[simp] def ct_l10Form (n : Nat) : Ct := ⟨88, Int × Fm, fun x => x.2.size ≤ n ∧ x.2.size ≤ 1048576, fun x => [.int .i64 x.1, encFm x.2], fun x => .bool (formB x.1 x.2)⟩
set_option maxHeartbeats 8000000 in
set_option maxRecDepth 100000 in
theorem form_fin {v kind k u w : Int} {l : List Fm} (hh : headB v kind k u w l.length = (in3 u && in3 w && decide ((l.length : Int) = arity kind))) (t : List AV) (ht : All2 LessS t (slots 90 [(3, .pbox 0 0)])) :
    CW Try.prog 0 (tl6 code_spec_l10Form.c) (retP code_spec_l10Form.rs (.bool (headB v kind k u w l.length))) ⟨t, [.cells [.int .i64 kind, .int .i64 k, .int .i64 u, .int .i64 w, encL 5 encFm l]]⟩ := by
  have hT : TabOk Try.prog _ := tab_cons ok_l10Uses (tab_cons ok_in3 (tab_cons ok_sArityOf tab_nil))
  refine cw_weak (weak_less (n0 := 0) (H' := [.cells [.int .i64 kind, .int .i64 k, .int .i64 u, .int .i64 w, encL 5 encFm l]]) (by simp) ht) ?_
  rw [hh]
  simp only [code_spec_l10Form, tl6]
  cases q1 : in3 u
  · refine cw_seq (go_ok hT ?_); simp [List.replicate, q1]
    refine go_ok hT ?_; simp [List.replicate]
  cases q2 : in3 w
  · refine cw_seq (go_ok hT ?_); simp [List.replicate, q1, q2]
    refine go_ok hT ?_; simp [List.replicate]
  by_cases q3 : (l.length : Int) = arity kind
  · refine cw_seq (go_ok hT ?_); simp [List.replicate, q1, q2, q3]
    refine go_ok hT ?_; simp [List.replicate]
  · refine cw_seq (go_ok hT ?_); simp [List.replicate, q1, q2, q3]
    refine go_ok hT ?_; simp [List.replicate]
set_option maxHeartbeats 8000000 in
set_option maxRecDepth 100000 in
theorem form_named {v kind k u w : Int} {l : List Fm} (nm : kind = 2 ∨ kind = 3) : CW Try.prog 0 (tl5b code_spec_l10Form.c) (retP code_spec_l10Form.rs (.bool (headB v kind k u w l.length))) ⟨slots 90 [(0, .int .i64 v), (3, .pbox 0 0), (6, .int .i64 1), (7, .bool true)], [.cells [.int .i64 kind, .int .i64 k, .int .i64 u, .int .i64 w, encL 5 encFm l]]⟩ := by
  have hT : TabOk Try.prog _ := tab_cons ok_l10Uses (tab_cons ok_in3 (tab_cons ok_sArityOf tab_nil))
  have fin := fun h => form_fin (v := v) (kind := kind) (k := k) (u := u) (w := w) (l := l) h
  simp only [code_spec_l10Form, tl6] at fin
  simp only [code_spec_l10Form, tl5b]
  have nmB : (decide (kind = 2) || decide (kind = 3)) = true := by simpa using nm
  have hU : usesT kind = 1 := by rcases nm with rfl | rfl <;> rfl
  by_cases w0 : w = 0
  case neg =>
    have hh : headB v kind k u w l.length = false := by simp [headB, hU, nmB, w0]
    refine cw_seq (cw_seq (go_ok hT ?_)); simp [List.replicate, w0]
    refine go_ok hT ?_; simp [List.replicate, hh]
  subst w0
  by_cases k0 : k < 0
  case pos =>
    have hh : headB v kind k u 0 l.length = false := by simp [headB, hU, nmB, k0]
    refine cw_seq (cw_seq (go_ok hT ?_)); simp [List.replicate, k0]
    refine go_ok hT ?_; simp [List.replicate, hh]
  by_cases k1 : v ≤ k
  case pos =>
    have hh : headB v kind k u 0 l.length = false := by simp [headB, hU, nmB, k0, k1]
    refine cw_seq (cw_seq (go_ok hT ?_)); simp [List.replicate, k0, k1]
    refine go_ok hT ?_; simp [List.replicate, hh]
  have hh := fin (by simp [headB, hU, nmB, k0, k1])
  refine cw_seq (cw_seq (go_ok hT ?_)); simp [List.replicate, k0, k1]
  refine go_ok hT ?_; simp [List.replicate]
  refine hh _ ?_; simp [List.replicate]
set_option maxHeartbeats 8000000 in
set_option maxRecDepth 100000 in
theorem form_u0 {v kind k u w : Int} {l : List Fm} (nm : ¬ (kind = 2 ∨ kind = 3)) (hU : usesT kind = 0) : CW Try.prog 0 (tl5b code_spec_l10Form.c) (retP code_spec_l10Form.rs (.bool (headB v kind k u w l.length))) ⟨slots 90 [(0, .int .i64 v), (3, .pbox 0 0), (6, .int .i64 (usesT kind)), (7, .bool false)], [.cells [.int .i64 kind, .int .i64 k, .int .i64 u, .int .i64 w, encL 5 encFm l]]⟩ := by
  have hT : TabOk Try.prog _ := tab_cons ok_l10Uses (tab_cons ok_in3 (tab_cons ok_sArityOf tab_nil))
  have fin := fun h => form_fin (v := v) (kind := kind) (k := k) (u := u) (w := w) (l := l) h
  simp only [code_spec_l10Form, tl6] at fin
  simp only [code_spec_l10Form, tl5b]
  have nmB : (decide (kind = 2) || decide (kind = 3)) = false := by simpa using nm
  rw [hU]
  by_cases u0 : u = 0
  case neg =>
    have hh : headB v kind k u w l.length = false := by simp [headB, hU, nmB, u0]
    refine cw_seq (cw_seq (go_ok hT ?_)); simp [List.replicate, u0]
    refine go_ok hT ?_; simp [List.replicate, hh]
  subst u0
  by_cases w0 : w = 0
  case neg =>
    have hh : headB v kind k 0 w l.length = false := by simp [headB, hU, nmB, w0]
    refine cw_seq (cw_seq (go_ok hT ?_)); simp [List.replicate, w0]
    refine go_ok hT ?_; simp [List.replicate, hh]
  subst w0
  by_cases k0 : k = 0
  case neg =>
    have hh : headB v kind k 0 0 l.length = false := by simp [headB, hU, nmB, k0]
    refine cw_seq (cw_seq (go_ok hT ?_)); simp [List.replicate, k0]
    refine go_ok hT ?_; simp [List.replicate, hh]
  subst k0
  have hh := fin (by simp [headB, hU, nmB, hU])
  refine cw_seq (cw_seq (go_ok hT ?_)); simp [List.replicate, hU]
  refine go_ok hT ?_; simp [List.replicate]
  refine hh _ ?_; simp [List.replicate]
set_option maxHeartbeats 8000000 in
set_option maxRecDepth 100000 in
theorem form_u1 {v kind k u w : Int} {l : List Fm} (nm : ¬ (kind = 2 ∨ kind = 3)) (hU : usesT kind = 1) : CW Try.prog 0 (tl5b code_spec_l10Form.c) (retP code_spec_l10Form.rs (.bool (headB v kind k u w l.length))) ⟨slots 90 [(0, .int .i64 v), (3, .pbox 0 0), (6, .int .i64 (usesT kind)), (7, .bool false)], [.cells [.int .i64 kind, .int .i64 k, .int .i64 u, .int .i64 w, encL 5 encFm l]]⟩ := by
  have hT : TabOk Try.prog _ := tab_cons ok_l10Uses (tab_cons ok_in3 (tab_cons ok_sArityOf tab_nil))
  have fin := fun h => form_fin (v := v) (kind := kind) (k := k) (u := u) (w := w) (l := l) h
  simp only [code_spec_l10Form, tl6] at fin
  simp only [code_spec_l10Form, tl5b]
  have nmB : (decide (kind = 2) || decide (kind = 3)) = false := by simpa using nm
  rw [hU]
  by_cases w0 : w = 0
  case neg =>
    have hh : headB v kind k u w l.length = false := by simp [headB, hU, nmB, w0]
    refine cw_seq (cw_seq (go_ok hT ?_)); simp [List.replicate, w0]
    refine go_ok hT ?_; simp [List.replicate, hh]
  subst w0
  by_cases k0 : k = 0
  case neg =>
    have hh : headB v kind k u 0 l.length = false := by simp [headB, hU, nmB, k0]
    refine cw_seq (cw_seq (go_ok hT ?_)); simp [List.replicate, k0]
    refine go_ok hT ?_; simp [List.replicate, hh]
  subst k0
  have hh := fin (by simp [headB, hU, nmB, hU])
  refine cw_seq (cw_seq (go_ok hT ?_)); simp [List.replicate, hU]
  refine go_ok hT ?_; simp [List.replicate]
  refine hh _ ?_; simp [List.replicate]
set_option maxHeartbeats 8000000 in
set_option maxRecDepth 100000 in
theorem form_u2 {v kind k u w : Int} {l : List Fm} (nm : ¬ (kind = 2 ∨ kind = 3)) (hU : usesT kind = 2) : CW Try.prog 0 (tl5b code_spec_l10Form.c) (retP code_spec_l10Form.rs (.bool (headB v kind k u w l.length))) ⟨slots 90 [(0, .int .i64 v), (3, .pbox 0 0), (6, .int .i64 (usesT kind)), (7, .bool false)], [.cells [.int .i64 kind, .int .i64 k, .int .i64 u, .int .i64 w, encL 5 encFm l]]⟩ := by
  have hT : TabOk Try.prog _ := tab_cons ok_l10Uses (tab_cons ok_in3 (tab_cons ok_sArityOf tab_nil))
  have fin := fun h => form_fin (v := v) (kind := kind) (k := k) (u := u) (w := w) (l := l) h
  simp only [code_spec_l10Form, tl6] at fin
  simp only [code_spec_l10Form, tl5b]
  have nmB : (decide (kind = 2) || decide (kind = 3)) = false := by simpa using nm
  rw [hU]
  by_cases k0 : k = 0
  case neg =>
    have hh : headB v kind k u w l.length = false := by simp [headB, hU, nmB, k0]
    refine cw_seq (cw_seq (go_ok hT ?_)); simp [List.replicate, k0]
    refine go_ok hT ?_; simp [List.replicate, hh]
  subst k0
  have hh := fin (by simp [headB, hU, nmB, hU])
  refine cw_seq (cw_seq (go_ok hT ?_)); simp [List.replicate, hU]
  refine go_ok hT ?_; simp [List.replicate]
  refine hh _ ?_; simp [List.replicate]
set_option maxHeartbeats 8000000 in
set_option maxRecDepth 100000 in
theorem ok_l10Form : ∀ n, (ct_l10Form n).Ok Try.prog
  | 0 => by
    rintro ⟨v, ⟨k, a, u, w, l⟩⟩ ⟨h, -⟩
    have h : Fm.size (.mk k a u w l) ≤ 0 := h
    simp only [Fm.size] at h
    omega
  | n + 1 => by
    rintro ⟨v, ⟨kind, k, u, w, l⟩⟩ ⟨h, h2⟩
    have h : Fm.size (.mk kind k u w l) ≤ n + 1 := h
    have h2 : Fm.size (.mk kind k u w l) ≤ 1048576 := h2
    simp only [Fm.size] at h h2
    have hll := sizes_len l
    have hT : TabOk Try.prog _ := tab_cons (ok_l10Form n) (tab_cons ok_l10Uses (tab_cons ok_in3 (tab_cons ok_sArityOf tab_nil)))
    have hR : formB v (.mk kind k u w l) = (formS v l && headB v kind k u w l.length) := rfl
    simp only [ct_l10Form, hR]
    refine Ok.of_cw fok_spec_l10Form ?_
    simp only [code_spec_l10Form, frame, List.length_cons, List.length_nil, List.replicate, Nat.reduceSub, Nat.reduceAdd, List.cons_append, List.nil_append]
    refine cw_seq (go_ok hT ?_); simp [List.replicate]
    refine cw_seq (cw_seq (go_ok hT ?_)); simp [List.replicate]
    refine cw_block (cw_round (fun (i : Nat) => ⟨slots 90 [(0, .int .i64 v), (3, .pbox 0 0), (5, .int .i64 i)], [.cells [.int .i64 kind, .int .i64 k, .int .i64 u, .int .i64 w, encL 5 encFm l]]⟩)
      (fun i => i ≤ l.length ∧ ∀ j (h : j < l.length), j < i → formB v l[j] = true) (fun i => l.length - i) 0 ⟨by simp, fun j h hj => by omega⟩ ?_ ?_)
    · exact weak_less (by simp) (by simp [List.replicate])
    rintro N hN i ⟨hi, he⟩
    change i ≤ l.length at hi
    have hwi : IntKind.i64.wrap ((i : Int) + 1) = ((i + 1 : Nat) : Int) := by rw [wrap_i64] <;> omega
    refine go_ok hT ?_
    by_cases q : i < l.length
    · have q2 : ¬ l.length ≤ i := by omega
      have hm := size_mem (xs := l) q
      have h5 : l[i].size ≤ n := by omega
      have h6 : l[i].size ≤ 1048576 := by omega
      cases hf : formB v l[i]
      · have hS : formS v l = false := by
          cases hs : formS v l
          · rfl
          · have := formS_iff.1 hs _ (List.getElem_mem q)
            rw [hf] at this; cases this
        simp [List.replicate, q, q2, h5, h6, hf, hS]
      · simp [List.replicate, q, q2, h5, h6, hf, hwi]
        refine hN i (i + 1) _ ⟨by show i + 1 ≤ l.length; omega, fun j h hj => ?_⟩ (by omega) (weak_less (by simp) (by simp [List.replicate]))
        by_cases e : j = i
        · subst e; exact hf
        · exact he j h (by omega)
    · have e : i = l.length := by omega
      subst e
      have hS : formS v l = true := formS_iff.2 fun x hx => by
        obtain ⟨j, hj, rfl⟩ := List.mem_iff_getElem.1 hx
        exact he j hj hj
      simp [List.replicate]
      refine cw_weak (weak_less (t' := slots 90 [(0, .int .i64 v), (3, .pbox 0 0)]) (H' := [.cells [.int .i64 kind, .int .i64 k, .int .i64 u, .int .i64 w, encL 5 encFm l]]) (by simp) (by simp [List.replicate])) ?_
      refine cw_seq (go_ok hT ?_); simp [List.replicate]
      rw [hS, Bool.true_and]
      have U3 : usesT kind = 0 ∨ usesT kind = 1 ∨ usesT kind = 2 := by unfold usesT; (repeat' split) <;> omega
      by_cases nm : kind = 2 ∨ kind = 3
      · have hU : usesT kind = 1 := by rcases nm with rfl | rfl <;> rfl
        refine cw_to ⟨slots 90 [(0, .int .i64 v), (3, .pbox 0 0), (6, .int .i64 1), (7, .bool true)], [.cells [.int .i64 kind, .int .i64 k, .int .i64 u, .int .i64 w, encL 5 encFm l]]⟩ ?_ ?_
        · rcases nm with rfl | rfl
          · refine go_ok hT ?_; simp [List.replicate, hU]
            exact weak_less (by simp) (by simp [List.replicate])
          · refine go_ok hT ?_; simp [List.replicate, hU]
            exact weak_less (by simp) (by simp [List.replicate])
        have := form_named (v := v) (k := k) (u := u) (w := w) (l := l) nm
        simp only [code_spec_l10Form, tl5b] at this
        exact this
      · have n2 : ¬ kind = 2 := fun h => nm (.inl h)
        have n3 : ¬ kind = 3 := fun h => nm (.inr h)
        refine cw_to ⟨slots 90 [(0, .int .i64 v), (3, .pbox 0 0), (6, .int .i64 (usesT kind)), (7, .bool false)], [.cells [.int .i64 kind, .int .i64 k, .int .i64 u, .int .i64 w, encL 5 encFm l]]⟩ ?_ ?_
        · refine go_ok hT ?_; simp [List.replicate, n2, n3]
          exact weak_less (by simp) (by simp [List.replicate])
        have : CW Try.prog 0 (tl5b code_spec_l10Form.c) (retP code_spec_l10Form.rs (.bool (headB v kind k u w l.length))) ⟨slots 90 [(0, .int .i64 v), (3, .pbox 0 0), (6, .int .i64 (usesT kind)), (7, .bool false)], [.cells [.int .i64 kind, .int .i64 k, .int .i64 u, .int .i64 w, encL 5 encFm l]]⟩ := by
          rcases U3 with hU | hU | hU
          · exact form_u0 nm hU
          · exact form_u1 nm hU
          · exact form_u2 nm hU
        simp only [code_spec_l10Form, tl5b] at this
        exact this
def isFmB (v : Int) (f : Fm) : Bool := decide (0 ≤ leftF f 40) && decide (depthF f ≤ 12) && formB v f
def code_spec_IsFormula : F := ⟨18,[.tmp 4],.seq (.reg [⟨some 3,.box (.t 1),none⟩,⟨some 4,.mov (.k (.bool false)),none⟩]) (.seq (.reg [⟨some 5,.load 5 true (.t 3),none⟩,⟨some 6,.call 86 [.t 5,(.k (.int .i64 40))],none⟩,⟨some 7,.bin .geq (.t 6) (.k (.int .i64 0)),none⟩,⟨some 8,.mov (.t 7),none⟩,⟨some 9,.load 5 true (.t 3),some (8,true)⟩,⟨some 10,.call 87 [.t 9],some (8,true)⟩,⟨some 11,.bin .leq (.t 10) (.k (.int .i64 12)),some (8,true)⟩,⟨some 12,.pick (.t 8) (.t 11) (.k (.bool false)),none⟩,⟨some 13,.mov (.t 12),none⟩,⟨some 14,.mov (.t 0),some (13,true)⟩,⟨some 15,.load 5 true (.t 3),some (13,true)⟩,⟨some 16,.call 88 [.t 14,.t 15],some (13,true)⟩,⟨some 17,.pick (.t 13) (.t 16) (.k (.bool false)),none⟩,⟨some 4,.mov (.t 17),none⟩]) (.ret))⟩
theorem fok_spec_IsFormula : FOk Try.prog 32 code_spec_IsFormula := fok Try.func32 (by kernel_rfl)
@[simp] def ct_IsFormula : Ct := ⟨32, Int × Fm, fun x => x.2.size ≤ 1048576, fun x => [.int .i64 x.1, encFm x.2], fun x => .bool (isFmB x.1 x.2)⟩
set_option maxHeartbeats 2000000 in
theorem ok_IsFormula : ct_IsFormula.Ok Try.prog := by
  rintro ⟨v, ⟨kind, k, u, w, l⟩⟩ h
  have h : Fm.size (.mk kind k u w l) ≤ 1048576 := h
  have hT : TabOk Try.prog _ := tab_cons (ok_l10Left 1048576) (tab_cons (ok_DepthOf 1048576) (tab_cons (ok_l10Form 1048576) tab_nil))
  refine Ok.of_cw fok_spec_IsFormula (go_ok hT ?_)
  simp only [ct_IsFormula]
  by_cases h1 : 0 ≤ leftF (.mk kind k u w l) 40
  · by_cases h2 : depthF (.mk kind k u w l) ≤ 12
    · have h3 : ¬ leftF (.mk kind k u w l) 40 < 0 := by omega
      have h4 : ¬ 12 < depthF (.mk kind k u w l) := by omega
      simp [code_spec_IsFormula, List.replicate, isFmB, h, h1, h2, h3, h4]
    · have h4 : 12 < depthF (.mk kind k u w l) := by omega
      simp [code_spec_IsFormula, List.replicate, isFmB, h, h1, h2, h4]
  · have h3 : leftF (.mk kind k u w l) 40 < 0 := by omega
    simp [code_spec_IsFormula, List.replicate, isFmB, h, h1, h3]
end Go.Vm
