/- The beginning of an embedding, the reference's test. No condition. -/
import Derived.Test.YtfelkhckpfjgjaaTEM
set_option linter.unusedSimpArgs false
set_option linter.unusedVariables false
namespace Go.Vm
open Go.Proofs
def code_spec_l16Fits : F := ⟨92,[.tmp 6],.seq (.reg [⟨some 3,.box (.t 0),none⟩,⟨some 4,.box (.t 1),none⟩,⟨some 6,.mov (.k (.bool false)),none⟩]) (.seq (.reg [⟨some 9,.mov (.t 2),none⟩,⟨some 10,.len (.t 9),none⟩,⟨some 11,.bin .sub (.t 10) (.k (.int .i64 1)),none⟩,⟨some 7,.mov (.t 11),none⟩]) (.seq (.seq (.dreg [false,false,false,false,false,false,false,false,false,false,false,false,false,true,true] [false,false,false,false,false,false,false,false,false,false,false,false,false,true,false] [⟨some 12,.faddr 0 (.t 3),none⟩,⟨some 13,.load 1 false (.t 12),none⟩,⟨some 14,.mov (.t 7),none⟩,⟨some 15,.iaddr 4 (.t 13) (.t 14),none⟩,⟨some 16,.load 4 true (.t 15),none⟩,⟨some 17,.faddr 0 (.t 4),none⟩,⟨some 18,.load 1 false (.t 17),none⟩,⟨some 19,.mov (.t 2),none⟩,⟨some 20,.mov (.t 7),none⟩,⟨some 21,.iaddr 1 (.t 19) (.t 20),none⟩,⟨some 22,.load 1 false (.t 21),none⟩,⟨some 23,.iaddr 4 (.t 18) (.t 22),none⟩,⟨some 24,.load 4 true (.t 23),none⟩,⟨some 25,.call 97 [.t 16,.t 24],none⟩,⟨some 26,.not (.t 25),none⟩]) (.cond (.t 26) (.seq (.reg [⟨some 6,.mov (.k (.bool false)),none⟩]) (.ret)) (.skip))) (.seq (.seq (.reg [⟨some 8,.mov (.k (.int .i64 0)),none⟩]) (.block 0 (.loop (.seq (.seq (.reg [⟨some 27,.mov (.t 8),none⟩,⟨some 28,.mov (.t 7),none⟩,⟨some 29,.bin .leq (.t 27) (.t 28),none⟩]) (.cond (.t 29) (.skip) (.exit 0))) (.seq (.block 1 (.seq (.seq (.dreg [false,false,false,false,false,false,false,false,false,false,false,false,false,true,true,true,true,false,false,false,false,false,false,false,false,false,false,false,false,false,true,true,true,true] [false,false,false,true,false,false,false,false,false,false,false,false,false,true,true,false,false,false,false,false,true,false,false,false,false,false,false,false,false,false,true,true,false,false] [⟨some 32,.load 2 true (.t 3),none⟩,⟨some 33,.mov (.t 7),none⟩,⟨some 34,.mov (.t 8),none⟩,⟨some 35,.call 99 [.t 32,.t 33,.t 34],none⟩,⟨some 36,.load 2 true (.t 4),none⟩,⟨some 37,.mov (.t 2),none⟩,⟨some 38,.mov (.t 7),none⟩,⟨some 39,.iaddr 1 (.t 37) (.t 38),none⟩,⟨some 40,.load 1 false (.t 39),none⟩,⟨some 41,.mov (.t 2),none⟩,⟨some 42,.mov (.t 8),none⟩,⟨some 43,.iaddr 1 (.t 41) (.t 42),none⟩,⟨some 44,.load 1 false (.t 43),none⟩,⟨some 45,.call 99 [.t 36,.t 40,.t 44],none⟩,⟨some 46,.call 98 [.t 35,.t 45],none⟩,⟨some 47,.not (.t 46),none⟩,⟨some 48,.mov (.t 47),none⟩,⟨some 49,.load 2 true (.t 3),some (48,false)⟩,⟨some 50,.mov (.t 8),some (48,false)⟩,⟨some 51,.mov (.t 7),some (48,false)⟩,⟨some 52,.call 99 [.t 49,.t 50,.t 51],some (48,false)⟩,⟨some 53,.load 2 true (.t 4),some (48,false)⟩,⟨some 54,.mov (.t 2),some (48,false)⟩,⟨some 55,.mov (.t 8),some (48,false)⟩,⟨some 56,.iaddr 1 (.t 54) (.t 55),some (48,false)⟩,⟨some 57,.load 1 false (.t 56),some (48,false)⟩,⟨some 58,.mov (.t 2),some (48,false)⟩,⟨some 59,.mov (.t 7),some (48,false)⟩,⟨some 60,.iaddr 1 (.t 58) (.t 59),some (48,false)⟩,⟨some 61,.load 1 false (.t 60),some (48,false)⟩,⟨some 62,.call 99 [.t 53,.t 57,.t 61],some (48,false)⟩,⟨some 63,.call 98 [.t 52,.t 62],some (48,false)⟩,⟨some 64,.not (.t 63),some (48,false)⟩,⟨some 65,.pick (.t 48) (.k (.bool true)) (.t 64),none⟩]) (.cond (.t 65) (.seq (.reg [⟨some 6,.mov (.k (.bool false)),none⟩]) (.ret)) (.skip))) (.seq (.dreg [false,false,true,true,false,false,false,false,false,false,false,false,true,true,true,false,false,false,false,false,false,true,true,true,true,true] [false,false,false,false,false,false,false,false,false,false,false,false,false,false,false,false,false,false,false,false,false,false,false,false,false,false] [⟨some 66,.mov (.t 8),none⟩,⟨some 67,.mov (.t 7),none⟩,⟨some 68,.bin .lss (.t 66) (.t 67),none⟩,⟨some 69,.mov (.t 68),none⟩,⟨some 70,.mov (.t 2),some (69,true)⟩,⟨some 71,.mov (.t 8),some (69,true)⟩,⟨some 72,.iaddr 1 (.t 70) (.t 71),some (69,true)⟩,⟨some 73,.load 1 false (.t 72),some (69,true)⟩,⟨some 74,.mov (.t 2),some (69,true)⟩,⟨some 75,.mov (.t 7),some (69,true)⟩,⟨some 76,.iaddr 1 (.t 74) (.t 75),some (69,true)⟩,⟨some 77,.load 1 false (.t 76),some (69,true)⟩,⟨some 78,.bin .eql (.t 73) (.t 77),some (69,true)⟩,⟨some 79,.pick (.t 69) (.t 78) (.k (.bool false)),none⟩,⟨some 80,.mov (.t 79),none⟩,⟨some 81,.faddr 0 (.t 4),some (80,true)⟩,⟨some 82,.load 1 false (.t 81),some (80,true)⟩,⟨some 83,.mov (.t 2),some (80,true)⟩,⟨some 84,.mov (.t 7),some (80,true)⟩,⟨some 85,.iaddr 1 (.t 83) (.t 84),some (80,true)⟩,⟨some 86,.load 1 false (.t 85),some (80,true)⟩,⟨some 87,.iaddr 4 (.t 82) (.t 86),some (80,true)⟩,⟨some 88,.faddr 3 (.t 87),some (80,true)⟩,⟨some 89,.load 1 false (.t 88),some (80,true)⟩,⟨some 90,.bin .neq (.t 89) (.k (.int .i64 1)),some (80,true)⟩,⟨some 91,.pick (.t 80) (.t 90) (.k (.bool false)),none⟩]) (.cond (.t 91) (.seq (.reg [⟨some 6,.mov (.k (.bool false)),none⟩]) (.ret)) (.skip))))) (.reg [⟨some 30,.mov (.t 8),none⟩,⟨some 31,.bin .add (.t 30) (.k (.int .i64 1)),none⟩,⟨some 8,.mov (.t 31),none⟩])))))) (.seq (.reg [⟨some 6,.mov (.k (.bool true)),none⟩]) (.ret)))))⟩
theorem fok_spec_l16Fits : FOk Try.prog 49 code_spec_l16Fits := fok Try.func49 (by kernel_rfl)
theorem fits_node {s t : Strc} {to : List Int} {i : Nat} (e : nodeB (s.nodes.getD i default) (t.nodes.getD (to.getD i 0).toNat default) = false) : fitsB s t to i = false := by simp only [fitsB, e, Bool.false_and]
theorem fits_bad {s t : Strc} {to : List Int} {i k : Nat} (h : k ≤ i) (e : pairB s t to i k = false) : fitsB s t to i = false := by
  unfold fitsB
  rw [all_bad (i := k) (by omega) e, Bool.and_false]
theorem fits_good {s t : Strc} {to : List Int} {i : Nat} (e : nodeB (s.nodes.getD i default) (t.nodes.getD (to.getD i 0).toNat default) = true) (h : ∀ k, k < i + 1 → pairB s t to i k = true) : fitsB s t to i = true := by
  unfold fitsB
  rw [all_good h, e]; rfl
theorem inN_at {t : Strc} {v : Int} (h : inN t v) : 0 ≤ v ∧ v.toNat < t.nodes.length := by
  unfold inN at h
  omega
def allN (t : Strc) (to : List Int) (n : Nat) : Prop := ∀ k, k < n → inN t (to.getD k 0)
@[simp] def ct_l16Fits : Ct := ⟨49, Strc × Strc × List Int × Nat, fun x => (szStrc x.1 ≤ 1048576 ∧ szStrc x.2.1 ≤ 1048576) ∧ x.2.2.1.length = x.2.2.2 + 1 ∧ x.2.2.2 < x.1.nodes.length ∧ allN x.2.1 x.2.2.1 (x.2.2.2 + 1), fun x => [encStrc x.1, encStrc x.2.1, encL 1 encInt x.2.2.1], fun x => .bool (fitsB x.1 x.2.1 x.2.2.1 x.2.2.2)⟩
set_option maxHeartbeats 2000000 in
set_option maxRecDepth 100000 in
theorem ok_l16Fits : ct_l16Fits.Ok Try.prog := by
  rintro ⟨s, t, to, i⟩ hx
  change (szStrc s ≤ 1048576 ∧ szStrc t ≤ 1048576) ∧ to.length = i + 1 ∧ i < s.nodes.length ∧ allN t to (i + 1) at hx
  obtain ⟨⟨hs, ht⟩, hlen, hi, hall⟩ := hx
  have hsl := strc_le s
  have htl := strc_le t
  have hb : i < to.length := by omega
  have w0 : IntKind.i64.wrap ((to.length : Int) - 1) = (i : Int) := by rw [wrap_i64] <;> omega
  have hv := inN_at (hall i (by omega))
  have ev : to.getD i 0 = to[i] := by simp [hb]
  rw [ev] at hv
  obtain ⟨hv0, hv1⟩ := hv
  have en : s.nodes.getD i default = s.nodes[i] := by simp [hi]
  have em0 : t.nodes.getD to[i].toNat default = t.nodes[to[i].toNat] := by simp [hv1]
  have em : t.nodes.getD (to.getD i 0).toNat default = t.nodes[to[i].toNat] := by rw [ev, em0]
  refine Ok.of_cw fok_spec_l16Fits (go_ok (tab_cons ok_l16Node tab_nil) ?_)
  cases e0 : nodeB s.nodes[i] t.nodes[to[i].toNat]
  case false =>
    have hf := fits_node (s := s) (t := t) (to := to) (i := i) (by rw [en, em, e0])
    simp [code_spec_l16Fits, List.replicate, w0, hb, hi, hv0, hv1, e0, hf]
  simp [code_spec_l16Fits, List.replicate, w0, hb, hi, hv0, hv1, e0]
  refine cw_round (fun (k : Nat) => ⟨slots 92 [(2, encL 1 encInt to), (3, .pbox 0 0), (4, .pbox 1 0), (7, .int .i64 i), (8, .int .i64 k)], [.cells [encL 4 encNode s.nodes, encL 1 encInt s.next], .cells [encL 4 encNode t.nodes, encL 1 encInt t.next]]⟩)
    (fun k => k ≤ i + 1 ∧ ∀ j, j < k → pairB s t to i j = true) (fun k => i + 1 - k) 0 ⟨by omega, fun j hj => absurd hj (by omega)⟩ ?_ ?_
  · exact weak_seal 2 (by omega) (by simp) (by simp [List.replicate])
  · rintro N hN k ⟨hk, hn⟩
    have hw : IntKind.i64.wrap ((k : Int) + 1) = ((k + 1 : Nat) : Int) := by rw [wrap_i64] <;> omega
    refine go_ok (tab_cons ok_sIsWithin (tab_cons ok_sNextOf tab_nil)) ?_
    by_cases g : k ≤ i
    case neg =>
      have g2 : i < k := by omega
      have hf := fits_good (by rw [en, em, e0]) (fun j hj => hn j (by omega))
      simp [List.replicate, g, g2, hf]
    have g2 : ¬ i < k := by omega
    have hkb : k < to.length := by omega
    have eu : to.getD k 0 = to[k] := by simp [hkb]
    cases p1 : withinB (nextOf s i k) (nextOf t to[i] to[k])
    case false =>
      have hf := fits_bad (s := s) (t := t) (to := to) g (by simp only [pairB, ev, eu, p1, Bool.false_and])
      simp (config := {maxSteps := 2000000}) [List.replicate, hw, g, g2, hkb, hb, hs, ht, p1, hf]
    cases p2 : withinB (nextOf s k i) (nextOf t to[k] to[i])
    case false =>
      have hf := fits_bad (s := s) (t := t) (to := to) g (by simp only [pairB, ev, eu, p1, p2, Bool.false_and, Bool.and_false])
      simp (config := {maxSteps := 2000000}) [List.replicate, hw, g, g2, hkb, hb, hs, ht, p1, p2, hf]
    have hp : pairB s t to i k = !(decide (k < i) && decide (to[k] = to[i]) && !decide (t.nodes[to[i].toNat].many = 1)) := by
      simp only [pairB, ev, eu, p1, p2, em0, Bool.true_and]
    have go1 : pairB s t to i k = true → ∀ j, j < k + 1 → pairB s t to i j = true := fun h j hj => by
      by_cases q : j = k
      · subst q; exact h
      · exact hn j (by omega)
    by_cases c : k < i
    · by_cases d : to[k] = to[i]
      · have q1 := p1
        have q2 := p2
        rw [d] at q1 q2
        by_cases m : t.nodes[to[i].toNat].many = 1
        · simp (config := {maxSteps := 2000000}) [List.replicate, hw, g, g2, hkb, hb, hs, ht, p1, p2, q1, q2, c, d, hv0, hv1, m]
          refine hN _ (k + 1) _ ⟨by omega, go1 (by simp [hp, c, d, m])⟩ (by omega) (weak_seal 2 (by omega) ?_ ?_)
          · simp
          · simp [List.replicate]
        · have hf := fits_bad (s := s) (t := t) (to := to) g (by simp [hp, c, d, m])
          simp (config := {maxSteps := 2000000}) [List.replicate, hw, g, g2, hkb, hb, hs, ht, p1, p2, q1, q2, c, d, hv0, hv1, m, hf]
      · simp (config := {maxSteps := 2000000}) [List.replicate, hw, g, g2, hkb, hb, hs, ht, p1, p2, c, d]
        refine hN _ (k + 1) _ ⟨by omega, go1 (by simp [hp, c, d])⟩ (by omega) (weak_seal 2 (by omega) ?_ ?_)
        · simp
        · simp [List.replicate]
    · simp (config := {maxSteps := 2000000}) [List.replicate, hw, g, g2, hkb, hb, hs, ht, p1, p2, c]
      refine hN _ (k + 1) _ ⟨by omega, go1 (by simp [hp, c])⟩ (by omega) (weak_seal 2 (by omega) ?_ ?_)
      · simp
      · simp [List.replicate]
end Go.Vm
namespace Go.Vm
open Go.Proofs
def code_impl_fitsSoFar : F := ⟨93,[.tmp 6],.seq (.reg [⟨some 3,.box (.t 0),none⟩,⟨some 4,.box (.t 1),none⟩,⟨some 6,.mov (.k (.bool false)),none⟩]) (.seq (.reg [⟨some 10,.mov (.t 2),none⟩,⟨some 11,.len (.t 10),none⟩,⟨some 12,.bin .sub (.t 11) (.k (.int .i64 1)),none⟩,⟨some 7,.mov (.t 12),none⟩]) (.seq (.seq (.dreg [false,false,false,false,false,true,true,true,false,false,false,false,false,false,false,false,false,false,false,false,false,true,true,true] [false,false,false,false,false,true,false,false,false,false,false,false,false,false,false,false,false,false,false,false,false,true,false,false] [⟨some 13,.load 2 true (.t 4),none⟩,⟨some 14,.mov (.t 2),none⟩,⟨some 15,.mov (.t 7),none⟩,⟨some 16,.iaddr 1 (.t 14) (.t 15),none⟩,⟨some 17,.load 1 false (.t 16),none⟩,⟨some 18,.call 82 [.t 13,.t 17],none⟩,⟨some 19,.not (.t 18),none⟩,⟨some 20,.mov (.t 19),none⟩,⟨some 21,.faddr 0 (.t 3),some (20,false)⟩,⟨some 22,.load 1 false (.t 21),some (20,false)⟩,⟨some 23,.mov (.t 7),some (20,false)⟩,⟨some 24,.iaddr 4 (.t 22) (.t 23),some (20,false)⟩,⟨some 25,.load 4 true (.t 24),some (20,false)⟩,⟨some 26,.faddr 0 (.t 4),some (20,false)⟩,⟨some 27,.load 1 false (.t 26),some (20,false)⟩,⟨some 28,.mov (.t 2),some (20,false)⟩,⟨some 29,.mov (.t 7),some (20,false)⟩,⟨some 30,.iaddr 1 (.t 28) (.t 29),some (20,false)⟩,⟨some 31,.load 1 false (.t 30),some (20,false)⟩,⟨some 32,.iaddr 4 (.t 27) (.t 31),some (20,false)⟩,⟨some 33,.load 4 true (.t 32),some (20,false)⟩,⟨some 34,.call 91 [.t 25,.t 33],some (20,false)⟩,⟨some 35,.not (.t 34),some (20,false)⟩,⟨some 36,.pick (.t 20) (.k (.bool true)) (.t 35),none⟩]) (.cond (.t 36) (.seq (.reg [⟨some 6,.mov (.k (.bool false)),none⟩]) (.ret)) (.skip))) (.seq (.seq (.reg [⟨some 37,.mov (.t 2),none⟩,⟨some 38,.len (.t 37),none⟩,⟨some 39,.mov (.k (.int .i64 0)),none⟩]) (.block 0 (.loop (.seq (.reg [⟨some 40,.bin .lss (.t 39) (.t 38),none⟩]) (.seq (.cond (.t 40) (.skip) (.exit 0)) (.seq (.block 1 (.seq (.reg [⟨some 41,.mov (.t 39),none⟩,⟨some 42,.iaddr 1 (.t 37) (.t 39),none⟩,⟨some 43,.load 1 false (.t 42),none⟩,⟨some 8,.mov (.t 41),none⟩,⟨some 9,.mov (.t 43),none⟩]) (.seq (.seq (.reg [⟨some 44,.mov (.t 8),none⟩,⟨some 45,.mov (.t 7),none⟩,⟨some 46,.bin .lss (.t 44) (.t 45),none⟩,⟨some 47,.mov (.t 46),none⟩,⟨some 48,.mov (.t 9),some (47,true)⟩,⟨some 49,.mov (.t 2),some (47,true)⟩,⟨some 50,.mov (.t 7),some (47,true)⟩,⟨some 51,.iaddr 1 (.t 49) (.t 50),some (47,true)⟩,⟨some 52,.load 1 false (.t 51),some (47,true)⟩,⟨some 53,.bin .eql (.t 48) (.t 52),some (47,true)⟩,⟨some 54,.pick (.t 47) (.t 53) (.k (.bool false)),none⟩,⟨some 55,.mov (.t 54),none⟩,⟨some 56,.faddr 0 (.t 4),some (55,true)⟩,⟨some 57,.load 1 false (.t 56),some (55,true)⟩,⟨some 58,.mov (.t 9),some (55,true)⟩,⟨some 59,.iaddr 4 (.t 57) (.t 58),some (55,true)⟩,⟨some 60,.faddr 3 (.t 59),some (55,true)⟩,⟨some 61,.load 1 false (.t 60),some (55,true)⟩,⟨some 62,.bin .neq (.t 61) (.k (.int .i64 1)),some (55,true)⟩,⟨some 63,.pick (.t 55) (.t 62) (.k (.bool false)),none⟩]) (.cond (.t 63) (.seq (.reg [⟨some 6,.mov (.k (.bool false)),none⟩]) (.ret)) (.skip))) (.seq (.dreg [false,false,false,false,false,false,false,false,false,false,true,true,true,true,false,false,false,false,false,false,false,false,false,false,true,true,true,true] [false,false,false,true,false,false,false,false,false,false,true,true,false,false,false,false,false,true,false,false,false,false,false,false,true,true,false,false] [⟨some 64,.load 2 true (.t 3),none⟩,⟨some 65,.mov (.t 7),none⟩,⟨some 66,.mov (.t 8),none⟩,⟨some 67,.call 34 [.t 64,.t 65,.t 66],none⟩,⟨some 68,.load 2 true (.t 4),none⟩,⟨some 69,.mov (.t 2),none⟩,⟨some 70,.mov (.t 7),none⟩,⟨some 71,.iaddr 1 (.t 69) (.t 70),none⟩,⟨some 72,.load 1 false (.t 71),none⟩,⟨some 73,.mov (.t 9),none⟩,⟨some 74,.call 34 [.t 68,.t 72,.t 73],none⟩,⟨some 75,.call 35 [.t 67,.t 74],none⟩,⟨some 76,.not (.t 75),none⟩,⟨some 77,.mov (.t 76),none⟩,⟨some 78,.load 2 true (.t 3),some (77,false)⟩,⟨some 79,.mov (.t 8),some (77,false)⟩,⟨some 80,.mov (.t 7),some (77,false)⟩,⟨some 81,.call 34 [.t 78,.t 79,.t 80],some (77,false)⟩,⟨some 82,.load 2 true (.t 4),some (77,false)⟩,⟨some 83,.mov (.t 9),some (77,false)⟩,⟨some 84,.mov (.t 2),some (77,false)⟩,⟨some 85,.mov (.t 7),some (77,false)⟩,⟨some 86,.iaddr 1 (.t 84) (.t 85),some (77,false)⟩,⟨some 87,.load 1 false (.t 86),some (77,false)⟩,⟨some 88,.call 34 [.t 82,.t 83,.t 87],some (77,false)⟩,⟨some 89,.call 35 [.t 81,.t 88],some (77,false)⟩,⟨some 90,.not (.t 89),some (77,false)⟩,⟨some 91,.pick (.t 77) (.k (.bool true)) (.t 90),none⟩]) (.cond (.t 91) (.seq (.reg [⟨some 6,.mov (.k (.bool false)),none⟩]) (.ret)) (.skip)))))) (.reg [⟨some 92,.bin .add (.t 39) (.k (.int .i64 1)),none⟩,⟨some 39,.mov (.t 92),none⟩]))))))) (.seq (.reg [⟨some 6,.mov (.k (.bool true)),none⟩]) (.ret)))))⟩
theorem fok_impl_fitsSoFar : FOk Try.prog 43 code_impl_fitsSoFar := fok Try.func43 (by kernel_rfl)
@[simp] def ct_fitsSoFar : Ct := ⟨43, Strc × Strc × List Int × Nat, fun x => (szStrc x.1 ≤ 1048576 ∧ szStrc x.2.1 ≤ 1048576) ∧ x.2.2.1.length = x.2.2.2 + 1 ∧ x.2.2.2 < x.1.nodes.length ∧ allN x.2.1 x.2.2.1 x.2.2.2, fun x => [encStrc x.1, encStrc x.2.1, encL 1 encInt x.2.2.1], fun x => .bool (decide (inN x.2.1 (x.2.2.1.getD x.2.2.2 0)) && fitsB x.1 x.2.1 x.2.2.1 x.2.2.2)⟩
set_option maxHeartbeats 2000000 in
set_option maxRecDepth 100000 in
theorem ok_fitsSoFar : ct_fitsSoFar.Ok Try.prog := by
  rintro ⟨s, t, to, i⟩ hx
  change (szStrc s ≤ 1048576 ∧ szStrc t ≤ 1048576) ∧ to.length = i + 1 ∧ i < s.nodes.length ∧ allN t to i at hx
  obtain ⟨⟨hs, ht⟩, hlen, hi, hall⟩ := hx
  have hsl := strc_le s
  have htl := strc_le t
  have hb : i < to.length := by omega
  have w0 : IntKind.i64.wrap ((to.length : Int) - 1) = (i : Int) := by rw [wrap_i64] <;> omega
  have ev : to.getD i 0 = to[i] := by simp [hb]
  by_cases hin : inN t to[i]
  case neg =>
    have hq := hin
    unfold inN at hq
    have hf : (decide (inN t (to.getD i 0)) && fitsB s t to i) = false := by rw [ev]; simp [hin]
    refine Ok.of_cw fok_impl_fitsSoFar (go_ok (tab_cons ok_isNode (tab_cons ok_isWithinNode tab_nil)) ?_)
    by_cases hq0 : 0 ≤ to[i]
    · have hq1 : ¬ to[i] ≤ (t.nodes.length : Int) - 1 := fun h => hq ⟨hq0, h⟩
      simp [code_impl_fitsSoFar, List.replicate, w0, hb, hq0, hq1, hin, inN]
    · simp [code_impl_fitsSoFar, List.replicate, w0, hb, hq0, hin, inN]
  have hin1 : decide (inN t (to.getD i 0)) = true := by rw [ev]; exact decide_eq_true hin
  rw [show ct_fitsSoFar.res (s, t, to, i) = .bool (fitsB s t to i) from by show AV.bool (decide (inN t (to.getD i 0)) && fitsB s t to i) = _; rw [hin1, Bool.true_and]]
  have hx := hin
  unfold inN at hx
  obtain ⟨hx0, hx1⟩ := hx
  have hx2 : ¬ ((t.nodes.length : Int) - 1 < to[i]) := by omega
  have hv := inN_at hin
  obtain ⟨hv0, hv1⟩ := hv
  have en : s.nodes.getD i default = s.nodes[i] := by simp [hi]
  have em0 : t.nodes.getD to[i].toNat default = t.nodes[to[i].toNat] := by simp [hv1]
  have em : t.nodes.getD (to.getD i 0).toNat default = t.nodes[to[i].toNat] := by rw [ev, em0]
  refine Ok.of_cw fok_impl_fitsSoFar (go_ok (tab_cons ok_isNode (tab_cons ok_isWithinNode tab_nil)) ?_)
  cases e0 : nodeB s.nodes[i] t.nodes[to[i].toNat]
  case false =>
    have hf := fits_node (s := s) (t := t) (to := to) (i := i) (by rw [en, em, e0])
    simp [code_impl_fitsSoFar, List.replicate, w0, hb, hi, hv0, hv1, hx0, hx1, hx2, e0, hf]
  simp [code_impl_fitsSoFar, List.replicate, w0, hb, hi, hv0, hv1, hx0, hx1, hx2, e0]
  refine cw_round (fun (k : Nat) => ⟨slots 93 [(2, encL 1 encInt to), (3, .pbox 0 0), (4, .pbox 1 0), (7, .int .i64 i), (37, encL 1 encInt to), (38, .int .i64 to.length), (39, .int .i64 k)], [.cells [encL 4 encNode s.nodes, encL 1 encInt s.next], .cells [encL 4 encNode t.nodes, encL 1 encInt t.next]]⟩)
    (fun k => k ≤ i + 1 ∧ ∀ j, j < k → pairB s t to i j = true) (fun k => i + 1 - k) 0 ⟨by omega, fun j hj => absurd hj (by omega)⟩ ?_ ?_
  · exact weak_seal 2 (by omega) (by simp) (by simp [List.replicate])
  · rintro N hN k ⟨hk, hn⟩
    have hw : IntKind.i64.wrap ((k : Int) + 1) = ((k + 1 : Nat) : Int) := by rw [wrap_i64] <;> omega
    refine go_ok (tab_cons ok_pIsWithin (tab_cons ok_pNextOf tab_nil)) ?_
    by_cases g : k ≤ i
    case neg =>
      have g2 : ¬ k < to.length := by omega
      have hf := fits_good (by rw [en, em, e0]) (fun j hj => hn j (by omega))
      simp [List.replicate, g, g2, hf]
    have g2 : ¬ to.length ≤ k := by omega
    have hkb : k < to.length := by omega
    have eu : to.getD k 0 = to[k] := by simp [hkb]
    have go1 : pairB s t to i k = true → ∀ j, j < k + 1 → pairB s t to i j = true := fun h j hj => by
      by_cases q : j = k
      · subst q; exact h
      · exact hn j (by omega)
    by_cases c : k < i
    case neg =>
      cases p1 : withinB (nextOf s i k) (nextOf t to[i] to[k])
      case false =>
        have hf := fits_bad (s := s) (t := t) (to := to) g (by simp only [pairB, ev, eu, p1, Bool.false_and])
        simp (config := {maxSteps := 2000000}) [List.replicate, hw, g, g2, hkb, hb, hs, ht, hv0, hv1, c, p1, hf]
      cases p2 : withinB (nextOf s k i) (nextOf t to[k] to[i])
      case false =>
        have hf := fits_bad (s := s) (t := t) (to := to) g (by simp only [pairB, ev, eu, p1, p2, Bool.false_and, Bool.and_false])
        simp (config := {maxSteps := 2000000}) [List.replicate, hw, g, g2, hkb, hb, hs, ht, hv0, hv1, c, p1, p2, hf]
      have hp : pairB s t to i k = true := by simp only [pairB, ev, eu, p1, p2, em0, Bool.true_and]; simp [c]
      simp (config := {maxSteps := 2000000}) [List.replicate, hw, g, g2, hkb, hb, hs, ht, hv0, hv1, c, p1, p2]
      refine hN _ (k + 1) _ ⟨by omega, go1 hp⟩ (by omega) (weak_seal 2 (by omega) ?_ ?_)
      · simp
      · simp [List.replicate]
    by_cases d : to[k] = to[i]
    case neg =>
      cases p1 : withinB (nextOf s i k) (nextOf t to[i] to[k])
      case false =>
        have hf := fits_bad (s := s) (t := t) (to := to) g (by simp only [pairB, ev, eu, p1, Bool.false_and])
        simp (config := {maxSteps := 2000000}) [List.replicate, hw, g, g2, hkb, hb, hs, ht, hv0, hv1, c, d, p1, hf]
      cases p2 : withinB (nextOf s k i) (nextOf t to[k] to[i])
      case false =>
        have hf := fits_bad (s := s) (t := t) (to := to) g (by simp only [pairB, ev, eu, p1, p2, Bool.false_and, Bool.and_false])
        simp (config := {maxSteps := 2000000}) [List.replicate, hw, g, g2, hkb, hb, hs, ht, hv0, hv1, c, d, p1, p2, hf]
      have hp : pairB s t to i k = true := by simp only [pairB, ev, eu, p1, p2, em0, Bool.true_and]; simp [c, d]
      simp (config := {maxSteps := 2000000}) [List.replicate, hw, g, g2, hkb, hb, hs, ht, hv0, hv1, c, d, p1, p2]
      refine hN _ (k + 1) _ ⟨by omega, go1 hp⟩ (by omega) (weak_seal 2 (by omega) ?_ ?_)
      · simp
      · simp [List.replicate]
    by_cases m : t.nodes[to[i].toNat].many = 1
    case neg =>
      have hf := fits_bad (s := s) (t := t) (to := to) g (by simp only [pairB, ev, eu, em0]; simp [c, d, m])
      simp (config := {maxSteps := 2000000}) [List.replicate, hw, g, g2, hkb, hb, hs, ht, c, d, hv0, hv1, m, hf]
    cases p1 : withinB (nextOf s i k) (nextOf t to[i] to[k])
    case false =>
      have hf := fits_bad (s := s) (t := t) (to := to) g (by simp only [pairB, ev, eu, p1, Bool.false_and])
      rw [d] at p1
      simp (config := {maxSteps := 2000000}) [List.replicate, hw, g, g2, hkb, hb, hs, ht, hv0, hv1, c, d, m, p1, hf]
    cases p2 : withinB (nextOf s k i) (nextOf t to[k] to[i])
    case false =>
      have hf := fits_bad (s := s) (t := t) (to := to) g (by simp only [pairB, ev, eu, p1, p2, Bool.false_and, Bool.and_false])
      rw [d] at p1 p2
      simp (config := {maxSteps := 2000000}) [List.replicate, hw, g, g2, hkb, hb, hs, ht, hv0, hv1, c, d, m, p1, p2, hf]
    have hp : pairB s t to i k = true := by simp only [pairB, ev, eu, p1, p2, em0, Bool.true_and]; simp [c, d, m]
    rw [d] at p1 p2
    simp (config := {maxSteps := 2000000}) [List.replicate, hw, g, g2, hkb, hb, hs, ht, hv0, hv1, c, d, m, p1, p2]
    refine hN _ (k + 1) _ ⟨by omega, go1 hp⟩ (by omega) (weak_seal 2 (by omega) ?_ ?_)
    · simp
    · simp [List.replicate]
end Go.Vm
