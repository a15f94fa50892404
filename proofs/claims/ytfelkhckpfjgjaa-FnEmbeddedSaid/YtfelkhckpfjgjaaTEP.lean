/- The beginning of an embedding, the program's test. No condition. -/
import Derived.Test.YtfelkhckpfjgjaaTEN
set_option linter.unusedSimpArgs false
set_option linter.unusedVariables false
namespace Go.Vm
open Go.Proofs
def code_impl_fitsSoFar : F := ⟨93,[.tmp 6],.seq (.reg [⟨some 3,.box (.t 0),none⟩,⟨some 4,.box (.t 1),none⟩,⟨some 6,.mov (.k (.bool false)),none⟩]) (.seq (.reg [⟨some 10,.mov (.t 2),none⟩,⟨some 11,.len (.t 10),none⟩,⟨some 12,.bin .sub (.t 11) (.k (.int .i64 1)),none⟩,⟨some 7,.mov (.t 12),none⟩]) (.seq (.seq (.dreg [false,false,false,false,false,true,true,true,false,false,false,false,false,false,false,false,false,false,false,false,false,true,true,true] [false,false,false,false,false,true,false,false,false,false,false,false,false,false,false,false,false,false,false,false,false,true,false,false] [⟨some 13,.load 2 true (.t 4),none⟩,⟨some 14,.mov (.t 2),none⟩,⟨some 15,.mov (.t 7),none⟩,⟨some 16,.iaddr 1 (.t 14) (.t 15),none⟩,⟨some 17,.load 1 false (.t 16),none⟩,⟨some 18,.call 82 [.t 13,.t 17],none⟩,⟨some 19,.not (.t 18),none⟩,⟨some 20,.mov (.t 19),none⟩,⟨some 21,.faddr 0 (.t 3),some (20,false)⟩,⟨some 22,.load 1 false (.t 21),some (20,false)⟩,⟨some 23,.mov (.t 7),some (20,false)⟩,⟨some 24,.iaddr 4 (.t 22) (.t 23),some (20,false)⟩,⟨some 25,.load 4 true (.t 24),some (20,false)⟩,⟨some 26,.faddr 0 (.t 4),some (20,false)⟩,⟨some 27,.load 1 false (.t 26),some (20,false)⟩,⟨some 28,.mov (.t 2),some (20,false)⟩,⟨some 29,.mov (.t 7),some (20,false)⟩,⟨some 30,.iaddr 1 (.t 28) (.t 29),some (20,false)⟩,⟨some 31,.load 1 false (.t 30),some (20,false)⟩,⟨some 32,.iaddr 4 (.t 27) (.t 31),some (20,false)⟩,⟨some 33,.load 4 true (.t 32),some (20,false)⟩,⟨some 34,.call 91 [.t 25,.t 33],some (20,false)⟩,⟨some 35,.not (.t 34),some (20,false)⟩,⟨some 36,.pick (.t 20) (.k (.bool true)) (.t 35),none⟩]) (.cond (.t 36) (.seq (.reg [⟨some 6,.mov (.k (.bool false)),none⟩]) (.ret)) (.skip))) (.seq (.seq (.reg [⟨some 37,.mov (.t 2),none⟩,⟨some 38,.len (.t 37),none⟩,⟨some 39,.mov (.k (.int .i64 0)),none⟩]) (.block 0 (.loop (.seq (.reg [⟨some 40,.bin .lss (.t 39) (.t 38),none⟩]) (.seq (.cond (.t 40) (.skip) (.exit 0)) (.seq (.block 1 (.seq (.reg [⟨some 41,.mov (.t 39),none⟩,⟨some 42,.iaddr 1 (.t 37) (.t 39),none⟩,⟨some 43,.load 1 false (.t 42),none⟩,⟨some 8,.mov (.t 41),none⟩,⟨some 9,.mov (.t 43),none⟩]) (.seq (.seq (.reg [⟨some 44,.mov (.t 8),none⟩,⟨some 45,.mov (.t 7),none⟩,⟨some 46,.bin .lss (.t 44) (.t 45),none⟩,⟨some 47,.mov (.t 46),none⟩,⟨some 48,.mov (.t 9),some (47,true)⟩,⟨some 49,.mov (.t 2),some (47,true)⟩,⟨some 50,.mov (.t 7),some (47,true)⟩,⟨some 51,.iaddr 1 (.t 49) (.t 50),some (47,true)⟩,⟨some 52,.load 1 false (.t 51),some (47,true)⟩,⟨some 53,.bin .eql (.t 48) (.t 52),some (47,true)⟩,⟨some 54,.pick (.t 47) (.t 53) (.k (.bool false)),none⟩,⟨some 55,.mov (.t 54),none⟩,⟨some 56,.faddr 0 (.t 4),some (55,true)⟩,⟨some 57,.load 1 false (.t 56),some (55,true)⟩,⟨some 58,.mov (.t 9),some (55,true)⟩,⟨some 59,.iaddr 4 (.t 57) (.t 58),some (55,true)⟩,⟨some 60,.faddr 3 (.t 59),some (55,true)⟩,⟨some 61,.load 1 false (.t 60),some (55,true)⟩,⟨some 62,.bin .neq (.t 61) (.k (.int .i64 1)),some (55,true)⟩,⟨some 63,.pick (.t 55) (.t 62) (.k (.bool false)),none⟩]) (.cond (.t 63) (.seq (.reg [⟨some 6,.mov (.k (.bool false)),none⟩]) (.ret)) (.skip))) (.seq (.dreg [false,false,false,false,false,false,false,false,false,false,true,true,true,true,false,false,false,false,false,false,false,false,false,false,true,true,true,true] [false,false,false,true,false,false,false,false,false,false,true,true,false,false,false,false,false,true,false,false,false,false,false,false,true,true,false,false] [⟨some 64,.load 2 true (.t 3),none⟩,⟨some 65,.mov (.t 7),none⟩,⟨some 66,.mov (.t 8),none⟩,⟨some 67,.call 34 [.t 64,.t 65,.t 66],none⟩,⟨some 68,.load 2 true (.t 4),none⟩,⟨some 69,.mov (.t 2),none⟩,⟨some 70,.mov (.t 7),none⟩,⟨some 71,.iaddr 1 (.t 69) (.t 70),none⟩,⟨some 72,.load 1 false (.t 71),none⟩,⟨some 73,.mov (.t 9),none⟩,⟨some 74,.call 34 [.t 68,.t 72,.t 73],none⟩,⟨some 75,.call 35 [.t 67,.t 74],none⟩,⟨some 76,.not (.t 75),none⟩,⟨some 77,.mov (.t 76),none⟩,⟨some 78,.load 2 true (.t 3),some (77,false)⟩,⟨some 79,.mov (.t 8),some (77,false)⟩,⟨some 80,.mov (.t 7),some (77,false)⟩,⟨some 81,.call 34 [.t 78,.t 79,.t 80],some (77,false)⟩,⟨some 82,.load 2 true (.t 4),some (77,false)⟩,⟨some 83,.mov (.t 9),some (77,false)⟩,⟨some 84,.mov (.t 2),some (77,false)⟩,⟨some 85,.mov (.t 7),some (77,false)⟩,⟨some 86,.iaddr 1 (.t 84) (.t 85),some (77,false)⟩,⟨some 87,.load 1 false (.t 86),some (77,false)⟩,⟨some 88,.call 34 [.t 82,.t 83,.t 87],some (77,false)⟩,⟨some 89,.call 35 [.t 81,.t 88],some (77,false)⟩,⟨some 90,.not (.t 89),some (77,false)⟩,⟨some 91,.pick (.t 77) (.k (.bool true)) (.t 90),none⟩]) (.cond (.t 91) (.seq (.reg [⟨some 6,.mov (.k (.bool false)),none⟩]) (.ret)) (.skip)))))) (.reg [⟨some 92,.bin .add (.t 39) (.k (.int .i64 1)),none⟩,⟨some 39,.mov (.t 92),none⟩]))))))) (.seq (.reg [⟨some 6,.mov (.k (.bool true)),none⟩]) (.ret)))))⟩
theorem fok_impl_fitsSoFar : FOk Try.prog 43 code_impl_fitsSoFar := fok Try.func43 (by kernel_rfl)
@[simp] def ct_fitsSoFar : Ct := ⟨43, Strc × Strc × List Int × Nat, fun x => (szStrc x.1 ≤ 1048576 ∧ szStrc x.2.1 ≤ 1048576) ∧ x.2.2.1.length = x.2.2.2 + 1 ∧ x.2.2.2 < x.1.nodes.length ∧ allN x.2.1 x.2.2.1 x.2.2.2, fun x => [encStrc x.1, encStrc x.2.1, encL 1 encInt x.2.2.1], fun x => .bool (decide (inN x.2.1 (x.2.2.1.getD x.2.2.2 0)) && fitsB x.1 x.2.1 x.2.2.1 x.2.2.2)⟩
set_option maxHeartbeats 2000000 in
set_option maxRecDepth 100000 in
theorem ok_fitsSoFar : ct_fitsSoFar.Ok Try.prog := by
  rintro ⟨s, t, to, i⟩ hx
  change (szStrc s ≤ 1048576 ∧ szStrc t ≤ 1048576) ∧ to.length = i + 1 ∧ i < s.nodes.length ∧ allN t to i at hx
  obtain ⟨⟨hs, ht⟩, hlen, hi, hall⟩ := hx
  have hsl := strc_le s
  have htl := strc_le t
  have hb : i < to.length := by omega
  have w0 : IntKind.i64.wrap ((to.length : Int) - 1) = (i : Int) := by rw [wrap_i64] <;> omega
  have ev : to.getD i 0 = to[i] := by simp [hb]
  by_cases hin : inN t to[i]
  case neg =>
    have hq := hin
    unfold inN at hq
    have hf : (decide (inN t (to.getD i 0)) && fitsB s t to i) = false := by rw [ev]; simp [hin]
    refine Ok.of_cw fok_impl_fitsSoFar (go_ok (tab_cons ok_isNode (tab_cons ok_isWithinNode tab_nil)) ?_)
    by_cases hq0 : 0 ≤ to[i]
    · have hq1 : ¬ to[i] ≤ (t.nodes.length : Int) - 1 := fun h => hq ⟨hq0, h⟩
      simp [code_impl_fitsSoFar, List.replicate, w0, hb, hq0, hq1, hin, inN]
    · simp [code_impl_fitsSoFar, List.replicate, w0, hb, hq0, hin, inN]
  have hin1 : decide (inN t (to.getD i 0)) = true := by rw [ev]; exact decide_eq_true hin
  rw [show ct_fitsSoFar.res (s, t, to, i) = .bool (fitsB s t to i) from by show AV.bool (decide (inN t (to.getD i 0)) && fitsB s t to i) = _; rw [hin1, Bool.true_and]]
  have hx := hin
  unfold inN at hx
  obtain ⟨hx0, hx1⟩ := hx
  have hx2 : ¬ ((t.nodes.length : Int) - 1 < to[i]) := by omega
  have hv := inN_at hin
  obtain ⟨hv0, hv1⟩ := hv
  have en : s.nodes.getD i default = s.nodes[i] := by simp [hi]
  have em0 : t.nodes.getD to[i].toNat default = t.nodes[to[i].toNat] := by simp [hv1]
  have em : t.nodes.getD (to.getD i 0).toNat default = t.nodes[to[i].toNat] := by rw [ev, em0]
  refine Ok.of_cw fok_impl_fitsSoFar (go_ok (tab_cons ok_isNode (tab_cons ok_isWithinNode tab_nil)) ?_)
  cases e0 : nodeB s.nodes[i] t.nodes[to[i].toNat]
  case false =>
    have hf := fits_node (s := s) (t := t) (to := to) (i := i) (by rw [en, em, e0])
    simp [code_impl_fitsSoFar, List.replicate, w0, hb, hi, hv0, hv1, hx0, hx1, hx2, e0, hf]
  simp [code_impl_fitsSoFar, List.replicate, w0, hb, hi, hv0, hv1, hx0, hx1, hx2, e0]
  refine cw_round (fun (k : Nat) => ⟨slots 93 [(2, encL 1 encInt to), (3, .pbox 0 0), (4, .pbox 1 0), (7, .int .i64 i), (37, encL 1 encInt to), (38, .int .i64 to.length), (39, .int .i64 k)], [.cells [encL 4 encNode s.nodes, encL 1 encInt s.next], .cells [encL 4 encNode t.nodes, encL 1 encInt t.next]]⟩)
    (fun k => k ≤ i + 1 ∧ ∀ j, j < k → pairB s t to i j = true) (fun k => i + 1 - k) 0 ⟨by omega, fun j hj => absurd hj (by omega)⟩ ?_ ?_
  · exact weak_seal 2 (by omega) (by simp) (by simp [List.replicate])
  · rintro N hN k ⟨hk, hn⟩
    have hw : IntKind.i64.wrap ((k : Int) + 1) = ((k + 1 : Nat) : Int) := by rw [wrap_i64] <;> omega
    refine go_ok (tab_cons ok_pIsWithin (tab_cons ok_pNextOf tab_nil)) ?_
    by_cases g : k ≤ i
    case neg =>
      have g2 : ¬ k < to.length := by omega
      have hf := fits_good (by rw [en, em, e0]) (fun j hj => hn j (by omega))
      simp [List.replicate, g, g2, hf]
    have g2 : ¬ to.length ≤ k := by omega
    have hkb : k < to.length := by omega
    have eu : to.getD k 0 = to[k] := by simp [hkb]
    have go1 : pairB s t to i k = true → ∀ j, j < k + 1 → pairB s t to i j = true := fun h j hj => by
      by_cases q : j = k
      · subst q; exact h
      · exact hn j (by omega)
    by_cases c : k < i
    case neg =>
      cases p1 : withinB (nextOf s i k) (nextOf t to[i] to[k])
      case false =>
        have hf := fits_bad (s := s) (t := t) (to := to) g (by simp only [pairB, ev, eu, p1, Bool.false_and])
        simp (config := {maxSteps := 2000000}) [List.replicate, hw, g, g2, hkb, hb, hs, ht, hv0, hv1, c, p1, hf]
      cases p2 : withinB (nextOf s k i) (nextOf t to[k] to[i])
      case false =>
        have hf := fits_bad (s := s) (t := t) (to := to) g (by simp only [pairB, ev, eu, p1, p2, Bool.false_and, Bool.and_false])
        simp (config := {maxSteps := 2000000}) [List.replicate, hw, g, g2, hkb, hb, hs, ht, hv0, hv1, c, p1, p2, hf]
      have hp : pairB s t to i k = true := by simp only [pairB, ev, eu, p1, p2, em0, Bool.true_and]; simp [c]
      simp (config := {maxSteps := 2000000}) [List.replicate, hw, g, g2, hkb, hb, hs, ht, hv0, hv1, c, p1, p2]
      refine hN _ (k + 1) _ ⟨by omega, go1 hp⟩ (by omega) (weak_seal 2 (by omega) ?_ ?_)
      · simp
      · simp [List.replicate]
    by_cases d : to[k] = to[i]
    case neg =>
      cases p1 : withinB (nextOf s i k) (nextOf t to[i] to[k])
      case false =>
        have hf := fits_bad (s := s) (t := t) (to := to) g (by simp only [pairB, ev, eu, p1, Bool.false_and])
        simp (config := {maxSteps := 2000000}) [List.replicate, hw, g, g2, hkb, hb, hs, ht, hv0, hv1, c, d, p1, hf]
      cases p2 : withinB (nextOf s k i) (nextOf t to[k] to[i])
      case false =>
        have hf := fits_bad (s := s) (t := t) (to := to) g (by simp only [pairB, ev, eu, p1, p2, Bool.false_and, Bool.and_false])
        simp (config := {maxSteps := 2000000}) [List.replicate, hw, g, g2, hkb, hb, hs, ht, hv0, hv1, c, d, p1, p2, hf]
      have hp : pairB s t to i k = true := by simp only [pairB, ev, eu, p1, p2, em0, Bool.true_and]; simp [c, d]
      simp (config := {maxSteps := 2000000}) [List.replicate, hw, g, g2, hkb, hb, hs, ht, hv0, hv1, c, d, p1, p2]
      refine hN _ (k + 1) _ ⟨by omega, go1 hp⟩ (by omega) (weak_seal 2 (by omega) ?_ ?_)
      · simp
      · simp [List.replicate]
    by_cases m : t.nodes[to[i].toNat].many = 1
    case neg =>
      have hf := fits_bad (s := s) (t := t) (to := to) g (by simp only [pairB, ev, eu, em0]; simp [c, d, m])
      simp (config := {maxSteps := 2000000}) [List.replicate, hw, g, g2, hkb, hb, hs, ht, c, d, hv0, hv1, m, hf]
    cases p1 : withinB (nextOf s i k) (nextOf t to[i] to[k])
    case false =>
      have hf := fits_bad (s := s) (t := t) (to := to) g (by simp only [pairB, ev, eu, p1, Bool.false_and])
      rw [d] at p1
      simp (config := {maxSteps := 2000000}) [List.replicate, hw, g, g2, hkb, hb, hs, ht, hv0, hv1, c, d, m, p1, hf]
    cases p2 : withinB (nextOf s k i) (nextOf t to[k] to[i])
    case false =>
      have hf := fits_bad (s := s) (t := t) (to := to) g (by simp only [pairB, ev, eu, p1, p2, Bool.false_and, Bool.and_false])
      rw [d] at p1 p2
      simp (config := {maxSteps := 2000000}) [List.replicate, hw, g, g2, hkb, hb, hs, ht, hv0, hv1, c, d, m, p1, p2, hf]
    have hp : pairB s t to i k = true := by simp only [pairB, ev, eu, p1, p2, em0, Bool.true_and]; simp [c, d, m]
    rw [d] at p1 p2
    simp (config := {maxSteps := 2000000}) [List.replicate, hw, g, g2, hkb, hb, hs, ht, hv0, hv1, c, d, m, p1, p2]
    refine hN _ (k + 1) _ ⟨by omega, go1 hp⟩ (by omega) (weak_seal 2 (by omega) ?_ ?_)
    · simp
    · simp [List.replicate]
end Go.Vm
namespace Go.Vm
open Go.Proofs
def code_impl_isOnto : F := ⟨17,[.tmp 4],.seq (.reg [⟨some 2,.box (.t 0),none⟩,⟨some 4,.mov (.k (.bool false)),none⟩]) (.seq (.seq (.reg [⟨some 6,.faddr 0 (.t 2),none⟩,⟨some 7,.load 1 false (.t 6),none⟩,⟨some 8,.len (.t 7),none⟩,⟨some 9,.mov (.k (.int .i64 0)),none⟩]) (.block 0 (.loop (.seq (.reg [⟨some 10,.bin .lss (.t 9) (.t 8),none⟩]) (.seq (.cond (.t 10) (.skip) (.exit 0)) (.seq (.block 1 (.seq (.reg [⟨some 11,.mov (.t 9),none⟩,⟨some 5,.mov (.t 11),none⟩]) (.seq (.reg [⟨some 12,.mov (.t 1),none⟩,⟨some 13,.mov (.t 5),none⟩,⟨some 14,.call 90 [.t 12,.t 13],none⟩,⟨some 15,.not (.t 14),none⟩]) (.cond (.t 15) (.seq (.reg [⟨some 4,.mov (.k (.bool false)),none⟩]) (.ret)) (.skip))))) (.reg [⟨some 16,.bin .add (.t 9) (.k (.int .i64 1)),none⟩,⟨some 9,.mov (.t 16),none⟩]))))))) (.seq (.reg [⟨some 4,.mov (.k (.bool true)),none⟩]) (.ret)))⟩
theorem fok_impl_isOnto : FOk Try.prog 41 code_impl_isOnto := fok Try.func41 (by kernel_rfl)
def code_spec_IsEmbedding : F := ⟨52,[.tmp 6],.seq (.reg [⟨some 3,.box (.t 0),none⟩,⟨some 4,.box (.t 1),none⟩,⟨some 6,.mov (.k (.bool false)),none⟩]) (.seq (.seq (.reg [⟨some 9,.mov (.t 2),none⟩,⟨some 10,.len (.t 9),none⟩,⟨some 11,.faddr 0 (.t 3),none⟩,⟨some 12,.load 1 false (.t 11),none⟩,⟨some 13,.len (.t 12),none⟩,⟨some 14,.bin .neq (.t 10) (.t 13),none⟩]) (.cond (.t 14) (.seq (.reg [⟨some 6,.mov (.k (.bool false)),none⟩]) (.ret)) (.skip))) (.seq (.seq (.reg [⟨some 7,.mov (.k (.int .i64 0)),none⟩]) (.block 0 (.loop (.seq (.seq (.reg [⟨some 15,.mov (.t 7),none⟩,⟨some 16,.mov (.t 2),none⟩,⟨some 17,.len (.t 16),none⟩,⟨some 18,.bin .lss (.t 15) (.t 17),none⟩]) (.cond (.t 18) (.skip) (.exit 0))) (.seq (.block 1 (.seq (.dreg [false,false,false,false,false,false,false,false,true,true,true,false,false,false,false,false,false,true,true,true] [false,false,false,false,false,false,false,false,true,false,false,false,false,false,false,false,false,true,false,false] [⟨some 21,.mov (.t 2),none⟩,⟨some 22,.mov (.t 7),none⟩,⟨some 23,.iaddr 1 (.t 21) (.t 22),none⟩,⟨some 24,.load 1 false (.t 23),none⟩,⟨some 25,.faddr 0 (.t 4),none⟩,⟨some 26,.load 1 false (.t 25),none⟩,⟨some 27,.len (.t 26),none⟩,⟨some 28,.bin .sub (.t 27) (.k (.int .i64 1)),none⟩,⟨some 29,.call 48 [.t 24,(.k (.int .i64 0)),.t 28],none⟩,⟨some 30,.not (.t 29),none⟩,⟨some 31,.mov (.t 30),none⟩,⟨some 32,.load 2 true (.t 3),some (31,false)⟩,⟨some 33,.load 2 true (.t 4),some (31,false)⟩,⟨some 34,.mov (.t 2),some (31,false)⟩,⟨some 35,.mov (.t 7),some (31,false)⟩,⟨some 36,.bin .add (.t 35) (.k (.int .i64 1)),some (31,false)⟩,⟨some 37,.slice 1 (.t 34) none (some (.t 36)),some (31,false)⟩,⟨some 38,.call 49 [.t 32,.t 33,.t 37],some (31,false)⟩,⟨some 39,.not (.t 38),some (31,false)⟩,⟨some 40,.pick (.t 31) (.k (.bool true)) (.t 39),none⟩]) (.cond (.t 40) (.seq (.reg [⟨some 6,.mov (.k (.bool false)),none⟩]) (.ret)) (.skip)))) (.reg [⟨some 19,.mov (.t 7),none⟩,⟨some 20,.bin .add (.t 19) (.k (.int .i64 1)),none⟩,⟨some 7,.mov (.t 20),none⟩])))))) (.seq (.seq (.reg [⟨some 8,.mov (.k (.int .i64 0)),none⟩]) (.block 2 (.loop (.seq (.seq (.reg [⟨some 41,.mov (.t 8),none⟩,⟨some 42,.faddr 0 (.t 4),none⟩,⟨some 43,.load 1 false (.t 42),none⟩,⟨some 44,.len (.t 43),none⟩,⟨some 45,.bin .lss (.t 41) (.t 44),none⟩]) (.cond (.t 45) (.skip) (.exit 2))) (.seq (.block 3 (.seq (.reg [⟨some 48,.mov (.t 2),none⟩,⟨some 49,.mov (.t 8),none⟩,⟨some 50,.call 50 [.t 48,.t 49],none⟩,⟨some 51,.not (.t 50),none⟩]) (.cond (.t 51) (.seq (.reg [⟨some 6,.mov (.k (.bool false)),none⟩]) (.ret)) (.skip)))) (.reg [⟨some 46,.mov (.t 8),none⟩,⟨some 47,.bin .add (.t 46) (.k (.int .i64 1)),none⟩,⟨some 8,.mov (.t 47),none⟩])))))) (.seq (.reg [⟨some 6,.mov (.k (.bool true)),none⟩]) (.ret)))))⟩
theorem fok_spec_IsEmbedding : FOk Try.prog 13 code_spec_IsEmbedding := fok Try.func13 (by kernel_rfl)
def code_impl_IsEmbedding : F := ⟨31,[.tmp 6],.seq (.reg [⟨some 3,.box (.t 0),none⟩,⟨some 4,.box (.t 1),none⟩,⟨some 6,.mov (.k (.bool false)),none⟩]) (.seq (.seq (.reg [⟨some 8,.mov (.t 2),none⟩,⟨some 9,.len (.t 8),none⟩,⟨some 10,.faddr 0 (.t 3),none⟩,⟨some 11,.load 1 false (.t 10),none⟩,⟨some 12,.len (.t 11),none⟩,⟨some 13,.bin .neq (.t 9) (.t 12),none⟩]) (.cond (.t 13) (.seq (.reg [⟨some 6,.mov (.k (.bool false)),none⟩]) (.ret)) (.skip))) (.seq (.seq (.reg [⟨some 14,.mov (.t 2),none⟩,⟨some 15,.len (.t 14),none⟩,⟨some 16,.mov (.k (.int .i64 0)),none⟩]) (.block 0 (.loop (.seq (.reg [⟨some 17,.bin .lss (.t 16) (.t 15),none⟩]) (.seq (.cond (.t 17) (.skip) (.exit 0)) (.seq (.block 1 (.seq (.reg [⟨some 18,.mov (.t 16),none⟩,⟨some 7,.mov (.t 18),none⟩]) (.seq (.dreg [false,false,false,false,false,false,true,true] [false,false,false,false,false,false,true,false] [⟨some 19,.load 2 true (.t 3),none⟩,⟨some 20,.load 2 true (.t 4),none⟩,⟨some 21,.mov (.t 2),none⟩,⟨some 22,.mov (.t 7),none⟩,⟨some 23,.bin .add (.t 22) (.k (.int .i64 1)),none⟩,⟨some 24,.slice 1 (.t 21) none (some (.t 23)),none⟩,⟨some 25,.call 43 [.t 19,.t 20,.t 24],none⟩,⟨some 26,.not (.t 25),none⟩]) (.cond (.t 26) (.seq (.reg [⟨some 6,.mov (.k (.bool false)),none⟩]) (.ret)) (.skip))))) (.reg [⟨some 27,.bin .add (.t 16) (.k (.int .i64 1)),none⟩,⟨some 16,.mov (.t 27),none⟩]))))))) (.seq (.reg [⟨some 28,.load 2 true (.t 4),none⟩,⟨some 29,.mov (.t 2),none⟩,⟨some 30,.call 41 [.t 28,.t 29],none⟩,⟨some 6,.mov (.t 30),none⟩]) (.ret))))⟩
theorem fok_impl_IsEmbedding : FOk Try.prog 12 code_impl_IsEmbedding := fok Try.func12 (by kernel_rfl)
def ontoB (t : Strc) (to : List Int) : Bool := (List.range t.nodes.length).all fun j => decide ((j : Int) ∈ to)
theorem onto_bad {t : Strc} {to : List Int} {j : Nat} (h : j < t.nodes.length) (e : ¬ (j : Int) ∈ to) : ontoB t to = false := all_bad h (by simpa using e)
theorem onto_good {t : Strc} {to : List Int} (h : ∀ j, j < t.nodes.length → (j : Int) ∈ to) : ontoB t to = true := all_good fun j hj => by simpa using h j hj
@[simp] def ct_isOnto : Ct := ⟨41, Strc × List Int, fun x => szStrc x.1 ≤ 1048576, fun x => [encStrc x.1, encL 1 encInt x.2], fun x => .bool (ontoB x.1 x.2)⟩
theorem ok_isOnto : ct_isOnto.Ok Try.prog := by
  rintro ⟨t, to⟩ ht
  change szStrc t ≤ 1048576 at ht
  have htl := strc_le t
  refine Ok.of_cw fok_impl_isOnto (go_ok tab_nil ?_)
  simp [code_impl_isOnto, List.replicate]
  refine cw_round (fun (k : Nat) => ⟨slots 17 [(1, encL 1 encInt to), (8, .int .i64 t.nodes.length), (9, .int .i64 k)], []⟩)
    (fun k => k ≤ t.nodes.length ∧ ∀ j, j < k → (j : Int) ∈ to) (fun k => t.nodes.length - k) 0 ⟨by omega, fun j hj => absurd hj (by omega)⟩ ?_ ?_
  · exact weak_seal 0 (by omega) (by simp) (by simp [List.replicate])
  · rintro N hN k ⟨hk, hn⟩
    have hw : IntKind.i64.wrap ((k : Int) + 1) = ((k + 1 : Nat) : Int) := by rw [wrap_i64] <;> omega
    refine go_ok (tab_cons ok_ContainsI tab_nil) ?_
    by_cases g : k < t.nodes.length
    · have g2 : ¬ t.nodes.length ≤ k := by omega
      by_cases e : (k : Int) ∈ to
      · simp [List.replicate, hw, g, g2, e]
        refine hN _ (k + 1) _ ⟨by omega, fun j hj => ?_⟩ (by omega) (weak_seal 0 (by omega) ?_ ?_)
        · by_cases q : j = k
          · subst q; exact e
          · exact hn j (by omega)
        · simp
        · simp [List.replicate]
      · have hf := onto_bad g e
        simp [List.replicate, hw, g, g2, e, hf]
    · have hf := onto_good (fun j hj => hn j (by omega) : ∀ j, j < t.nodes.length → (j : Int) ∈ to)
      simp [List.replicate, g, hf]
def fitsTo (s t : Strc) (to : List Int) (n : Nat) : Bool := (List.range n).all fun i => decide (inN t (to.getD i 0)) && fitsB s t to i
theorem embB_eq (s t : Strc) (to : List Int) : embB s t to = (decide (to.length = s.nodes.length) && fitsTo s t to to.length && ontoB t to) := rfl
theorem fitsTo_bad {s t : Strc} {to : List Int} {i n : Nat} (h : i < n) (e : (decide (inN t (to.getD i 0)) && fitsB s t to i) = false) : fitsTo s t to n = false := all_bad h e
theorem fitsTo_good {s t : Strc} {to : List Int} {n : Nat} (h : ∀ i, i < n → (decide (inN t (to.getD i 0)) && fitsB s t to i) = true) : fitsTo s t to n = true := all_good h
theorem all_congr {p q : Nat → Bool} {n : Nat} (h : ∀ j, j < n → p j = q j) : (List.range n).all p = (List.range n).all q := by
  rw [Bool.eq_iff_iff, List.all_eq_true, List.all_eq_true]
  constructor
  · intro k j hj; rw [← h j (by simpa using hj)]; exact k j hj
  · intro k j hj; rw [h j (by simpa using hj)]; exact k j hj
theorem getD_pre {a b : List Int} {j : Nat} (h : j < a.length) : (a ++ b).getD j 0 = a.getD j 0 := by
  simp [List.getD_eq_getElem?_getD, List.getElem?_append_left h]
theorem getD_take {a : List Int} {n j : Nat} (h : j < n) : (a.take n).getD j 0 = a.getD j 0 := by
  simp [List.getD_eq_getElem?_getD, List.getElem?_take, h]
theorem pairB_congr {s t : Strc} {a b : List Int} {i k : Nat} (h : ∀ j, j ≤ i → a.getD j 0 = b.getD j 0) (hk : k ≤ i) : pairB s t a i k = pairB s t b i k := by
  unfold pairB
  rw [h i (by omega), h k hk]
theorem fitsB_congr {s t : Strc} {a b : List Int} {i : Nat} (h : ∀ j, j ≤ i → a.getD j 0 = b.getD j 0) : fitsB s t a i = fitsB s t b i := by
  unfold fitsB
  rw [h i (by omega), all_congr fun k hk => pairB_congr h (by omega)]
theorem fitsB_take {s t : Strc} {to : List Int} {i : Nat} : fitsB s t (to.take (i + 1)) i = fitsB s t to i := fitsB_congr fun j hj => getD_take (by omega)
@[simp] def ct_sIsEmbedding : Ct := ⟨13, Strc × Strc × List Int, fun x => szStrc x.1 ≤ 1048576 ∧ szStrc x.2.1 ≤ 1048576, fun x => [encStrc x.1, encStrc x.2.1, encL 1 encInt x.2.2], fun x => .bool (embB x.1 x.2.1 x.2.2)⟩
set_option maxHeartbeats 4000000 in
set_option maxRecDepth 100000 in
theorem ok_sIsEmbedding : ct_sIsEmbedding.Ok Try.prog := by
  rintro ⟨s, t, to⟩ ⟨hs, ht⟩
  change szStrc s ≤ 1048576 at hs
  change szStrc t ≤ 1048576 at ht
  have hsl := strc_le s
  have htl := strc_le t
  refine Ok.of_cw fok_spec_IsEmbedding (go_ok tab_nil ?_)
  by_cases h0 : to.length = s.nodes.length
  case neg =>
    have h1 : ¬ ((to.length : Int) = s.nodes.length) := by omega
    simp [code_spec_IsEmbedding, List.replicate, h0, h1, embB_eq]
  have w0 : IntKind.i64.wrap ((t.nodes.length : Int) - 1) = (t.nodes.length : Int) - 1 := by rw [wrap_i64] <;> omega
  rw [show ct_sIsEmbedding.res (s, t, to) = .bool (fitsTo s t to to.length && ontoB t to) from by show AV.bool (embB s t to) = _; rw [embB_eq, decide_eq_true h0, Bool.true_and]]
  simp [code_spec_IsEmbedding, List.replicate, h0]
  refine cw_round (fun (k : Nat) => ⟨slots 52 [(2, encL 1 encInt to), (3, .pbox 0 0), (4, .pbox 1 0), (7, .int .i64 k)], [.cells [encL 4 encNode s.nodes, encL 1 encInt s.next], .cells [encL 4 encNode t.nodes, encL 1 encInt t.next]]⟩)
    (fun k => k ≤ to.length ∧ ∀ i, i < k → (decide (inN t (to.getD i 0)) && fitsB s t to i) = true) (fun k => to.length - k) 0 ⟨by omega, fun j hj => absurd hj (by omega)⟩ ?_ ?_
  · exact weak_seal 2 (by omega) (by simp) (by simp [List.replicate])
  · rintro N hN k ⟨hk, hn⟩
    have hw : IntKind.i64.wrap ((k : Int) + 1) = ((k + 1 : Nat) : Int) := by rw [wrap_i64] <;> omega
    by_cases g : k < to.length
    · have g2 : ¬ to.length ≤ k := by omega
      have ev : to.getD k 0 = to[k] := by simp [g]
      have g3 : k + 1 ≤ to.length := by omega
      have g4 : (k : Int) + 1 ≤ to.length := by omega
      have g5 : (0 : Int) ≤ (k : Int) + 1 := by omega
      have g6 : k < s.nodes.length := by omega
      have ht1 : ((k : Int) + 1).toNat = k + 1 := by omega
      refine go_ok (tab_cons ok_l1In (tab_cons ok_l16Fits tab_nil)) ?_
      by_cases hin : inN t to[k]
      · have hq := hin
        unfold inN at hq
        obtain ⟨q0, q1⟩ := hq
        have q2 : ¬ ((t.nodes.length : Int) - 1 < to[k]) := by omega
        have hall : allN t (to.take (k + 1)) (k + 1) := fun j hj => by
          rw [getD_take hj]
          by_cases q : j = k
          · subst q; rw [ev]; exact hin
          · have := hn j (by omega); simp only [Bool.and_eq_true, decide_eq_true_eq] at this; exact this.1
        have hft := fitsB_take (s := s) (t := t) (to := to) (i := k)
        cases e : fitsB s t to k
        · have hf := fitsTo_bad (s := s) (t := t) (to := to) g6 (by rw [e, Bool.and_false])
          simp (config := {maxSteps := 2000000}) [List.replicate, hw, g, g2, g3, g4, g5, g6, ht1, w0, q0, q1, q2, hs, ht, hf, hall, hft, e]
        · simp (config := {maxSteps := 2000000}) [List.replicate, hw, g, g2, g3, g4, g5, g6, ht1, w0, q0, q1, q2, hs, ht, hall, hft, e]
          refine hN _ (k + 1) _ ⟨by omega, fun j hj => ?_⟩ (by omega) (weak_seal 2 (by omega) ?_ ?_)
          · by_cases q : j = k
            · subst q; rw [ev, e]; simp [hin]
            · exact hn j (by omega)
          · simp
          · simp [List.replicate]
      · have hf := fitsTo_bad (s := s) (t := t) (to := to) g6 (by rw [ev]; simp [hin])
        by_cases q0 : 0 ≤ to[k]
        · have q1 : ¬ to[k] ≤ (t.nodes.length : Int) - 1 := fun h => hin ⟨q0, h⟩
          have q2 : ((t.nodes.length : Int) - 1 < to[k]) := by omega
          simp (config := {maxSteps := 2000000}) [List.replicate, hw, g, g2, w0, q0, q1, q2, hf]
        · simp (config := {maxSteps := 2000000}) [List.replicate, hw, g, g2, w0, q0, hf]
    · have e : k = to.length := by omega
      subst e
      have hf := fitsTo_good hn
      rw [h0] at hf
      have hlen : to.length ≤ 1048576 := by omega
      refine go_ok tab_nil ?_
      simp [List.replicate, hf]
      refine cw_round (fun (k : Nat) => ⟨slots 52 [(2, encL 1 encInt to), (4, .pbox 1 0), (8, .int .i64 k)], [.dead, .cells [encL 4 encNode t.nodes, encL 1 encInt t.next]]⟩)
        (fun k => k ≤ t.nodes.length ∧ ∀ j, j < k → (j : Int) ∈ to) (fun k => t.nodes.length - k) 0 ⟨by omega, fun j hj => absurd hj (by omega)⟩ ?_ ?_
      · exact weak_seal 2 (by omega) (by simp) (by simp [List.replicate])
      · rintro M hM k ⟨hk, hn⟩
        have hw : IntKind.i64.wrap ((k : Int) + 1) = ((k + 1 : Nat) : Int) := by rw [wrap_i64] <;> omega
        refine go_ok (tab_cons ok_l7Has tab_nil) ?_
        by_cases g : k < t.nodes.length
        · have g2 : ¬ t.nodes.length ≤ k := by omega
          by_cases e : (k : Int) ∈ to
          · simp [List.replicate, hw, g, g2, e, hlen]
            refine hM _ (k + 1) _ ⟨by omega, fun j hj => ?_⟩ (by omega) (weak_seal 2 (by omega) ?_ ?_)
            · by_cases q : j = k
              · subst q; exact e
              · exact hn j (by omega)
            · simp
            · simp [List.replicate]
          · have hf := onto_bad g e
            simp [List.replicate, hw, g, g2, e, hf, hlen]
        · have hf := onto_good (fun j hj => hn j (by omega) : ∀ j, j < t.nodes.length → (j : Int) ∈ to)
          have g2 : t.nodes.length ≤ k := by omega
          simp [List.replicate, g, g2, hf]
@[simp] def ct_pIsEmbedding : Ct := ⟨12, Strc × Strc × List Int, fun x => szStrc x.1 ≤ 1048576 ∧ szStrc x.2.1 ≤ 1048576, fun x => [encStrc x.1, encStrc x.2.1, encL 1 encInt x.2.2], fun x => .bool (embB x.1 x.2.1 x.2.2)⟩
set_option maxHeartbeats 4000000 in
set_option maxRecDepth 100000 in
theorem ok_pIsEmbedding : ct_pIsEmbedding.Ok Try.prog := by
  rintro ⟨s, t, to⟩ ⟨hs, ht⟩
  change szStrc s ≤ 1048576 at hs
  change szStrc t ≤ 1048576 at ht
  have hsl := strc_le s
  have htl := strc_le t
  refine Ok.of_cw fok_impl_IsEmbedding (go_ok (tab_cons ok_isOnto tab_nil) ?_)
  by_cases h0 : to.length = s.nodes.length
  case neg =>
    have h1 : ¬ ((to.length : Int) = s.nodes.length) := by omega
    simp [code_impl_IsEmbedding, List.replicate, h0, h1, embB_eq]
  rw [show ct_pIsEmbedding.res (s, t, to) = .bool (fitsTo s t to to.length && ontoB t to) from by show AV.bool (embB s t to) = _; rw [embB_eq, decide_eq_true h0, Bool.true_and]]
  simp [code_impl_IsEmbedding, List.replicate, h0]
  refine cw_round (fun (k : Nat) => ⟨slots 31 [(2, encL 1 encInt to), (3, .pbox 0 0), (4, .pbox 1 0), (15, .int .i64 to.length), (16, .int .i64 k)], [.cells [encL 4 encNode s.nodes, encL 1 encInt s.next], .cells [encL 4 encNode t.nodes, encL 1 encInt t.next]]⟩)
    (fun k => k ≤ to.length ∧ ∀ i, i < k → (decide (inN t (to.getD i 0)) && fitsB s t to i) = true) (fun k => to.length - k) 0 ⟨by omega, fun j hj => absurd hj (by omega)⟩ ?_ ?_
  · exact weak_seal 2 (by omega) (by simp) (by simp [List.replicate, h0])
  · rintro N hN k ⟨hk, hn⟩
    have hw : IntKind.i64.wrap ((k : Int) + 1) = ((k + 1 : Nat) : Int) := by rw [wrap_i64] <;> omega
    by_cases g : k < to.length
    · have g2 : ¬ to.length ≤ k := by omega
      have ev : to.getD k 0 = to[k] := by simp [g]
      have g3 : k + 1 ≤ to.length := by omega
      have g4 : (k : Int) + 1 ≤ to.length := by omega
      have g5 : (0 : Int) ≤ (k : Int) + 1 := by omega
      have g6 : k < s.nodes.length := by omega
      have ht1 : ((k : Int) + 1).toNat = k + 1 := by omega
      refine go_ok (tab_cons ok_fitsSoFar tab_nil) ?_
      have hall : allN t (to.take (k + 1)) k := fun j hj => by
        rw [getD_take (by omega)]
        have := hn j (by omega); simp only [Bool.and_eq_true, decide_eq_true_eq] at this; exact this.1
      have hft := fitsB_take (s := s) (t := t) (to := to) (i := k)
      have hgt : (to.take (k + 1)).getD k 0 = to[k] := by rw [getD_take (by omega), ev]
      simp only [List.getD_eq_getElem?_getD] at hgt
      cases e : (decide (inN t to[k]) && fitsB s t to k)
      · have hf := fitsTo_bad (s := s) (t := t) (to := to) g6 (by rw [ev]; exact e)
        by_cases e1 : inN t to[k]
        · have e2 : fitsB s t to k = false := by simpa [e1] using e
          simp (config := {maxSteps := 2000000}) [List.replicate, hw, g, g2, g3, g4, g5, g6, ht1, hs, ht, hf, hall, hft, hgt, e1, e2]
        · simp (config := {maxSteps := 2000000}) [List.replicate, hw, g, g2, g3, g4, g5, g6, ht1, hs, ht, hf, hall, hft, hgt, e1]
      · simp only [Bool.and_eq_true, decide_eq_true_eq] at e
        obtain ⟨e1, e2⟩ := e
        simp (config := {maxSteps := 2000000}) [List.replicate, hw, g, g2, g3, g4, g5, g6, ht1, hs, ht, hall, hft, hgt, e1, e2]
        refine hN _ (k + 1) _ ⟨by omega, fun j hj => ?_⟩ (by omega) (weak_seal 2 (by omega) ?_ ?_)
        · by_cases q : j = k
          · subst q; rw [ev, decide_eq_true e1, e2]; rfl
          · exact hn j (by omega)
        · simp
        · simp [List.replicate]
    · have e : k = to.length := by omega
      subst e
      have hf := fitsTo_good hn
      rw [h0] at hf
      refine go_ok (tab_cons ok_isOnto tab_nil) ?_
      simp [List.replicate, hf, ht]
end Go.Vm
