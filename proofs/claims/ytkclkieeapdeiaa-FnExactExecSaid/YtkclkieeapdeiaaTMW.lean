/- laws.markHeap with a wider bound. No condition. -/
import Derived.Test.YtkclkieeapdeiaaTMK
set_option linter.unusedSimpArgs false
set_option linter.unusedVariables false
namespace Go.Vm
open Go.Proofs
@[simp] def ct_markHq (E : Nat) : CtH := ⟨26, Nat × List Int × Nat × List Int × Int, fun x H => (0 ≤ x.2.2.2.2 ∧ x.2.2.2.2 ≤ 4194304) ∧ (x.2.1.length ≤ 1048576 ∧ x.2.2.2.1.length ≤ 1048576) ∧ x.1 ≠ x.2.2.1 ∧ H[x.1]? = some (.row true E 1 (x.2.1.map encInt)) ∧ H[x.2.2.1]? = some (.row true E 1 (x.2.2.2.1.map encInt)),
  fun x => [.agg [.slref x.1 0 x.2.1.length x.2.1.length, .slref x.2.2.1 0 x.2.2.2.1.length x.2.2.2.1.length], .int .i64 x.2.2.2.2], fun x _ => .int .i64 (x.2.2.2.2 + x.2.1.length + x.2.2.2.1.length),
  fun x H => (H.set x.1 (.row true E 1 ((marks x.2.2.2.2 x.2.1.length).map encInt))).set x.2.2.1 (.row true E 1 ((marks (x.2.2.2.2 + x.2.1.length) x.2.2.2.1.length).map encInt))⟩
set_option maxHeartbeats 1000000 in
theorem ok_markHq (E : Nat) : (ct_markHq E).Ok Try.prog := by
  rintro ⟨b, xs, c, ys, k⟩ H ⟨⟨h1, h2⟩, ⟨h3, h4⟩, hne, hb, hc⟩
  change 0 ≤ k at h1
  change k ≤ 4194304 at h2
  change xs.length ≤ 1048576 at h3
  change ys.length ≤ 1048576 at h4
  change b ≠ c at hne
  change H[b]? = some (.row true E 1 (xs.map encInt)) at hb
  change H[c]? = some (.row true E 1 (ys.map encInt)) at hc
  have hbl : b < H.length := (List.getElem?_eq_some_iff.1 hb).1
  have hcl : c < H.length := (List.getElem?_eq_some_iff.1 hc).1
  have hb' : ∀ L, (H ++ L)[b]? = some (.row true E 1 (xs.map encInt)) := fun L => by rw [List.getElem?_append_left hbl, hb]
  have hc' : ∀ x L, ((H ++ L).set b x)[c]? = some (.row true E 1 (ys.map encInt)) := fun x L => by rw [List.getElem?_set_ne hne, List.getElem?_append_left hcl, hc]
  have hs1 : ∀ x L, (H ++ L).set b x = H.set b x ++ L := fun x L => List.set_append_left _ _ hbl
  have hs2 : ∀ x y L, (H.set b x ++ L).set c y = (H.set b x).set c y ++ L := fun x y L => List.set_append_left _ _ (by simpa using hcl)
  have hc'' : ∀ x L, (H.set b x ++ L)[c]? = some (.row true E 1 (ys.map encInt)) := fun x L => by rw [← hs1, hc']
  have k1 : (xs.length : Int) ≤ 1099511627776 := by omega
  have k2 : xs.length ≤ 1099511627776 := by omega
  have k3 : ys.length ≤ 1099511627776 := by omega
  have k4 : k ≤ 1099511627776 := by omega
  have k5 : 0 ≤ k + xs.length := by omega
  have k6 : k + xs.length ≤ 1099511627776 := by omega
  have g0 : ∀ x, (H.set b x ++ [x])[H.length]? = some x := fun x => by rw [List.getElem?_append_right (by simp)]; simp
  have hls : ∀ x, (H.set b x).length = H.length := fun x => by simp
  refine OkH.of_self fun hB => OkH.of_cw fok_laws_markHeap (go_ok (tab_h (ok_markI E) tab_nil) ?_)
  simp [code_laws_markHeap, List.replicate, retH, getHk, getH0, setHk, setH0, hb', hc', hs1, hs2, hc'', h1, k2, k3, k4, k5, k6]
  refine ⟨xs, rfl, k2, rfl, ys, rfl, k5, k6, k3, rfl, ?_⟩
  refine ⟨⟨[.undef, .undef, .undef, .undef, .int .i64 (k + xs.length + ys.length), .undef, .undef, .undef, .undef, .undef, .undef, .undef, .undef, .undef], _⟩, weak_sealH 0 (X' := []) (selfB_set (selfB_set hB fun _ _ => slB_ints) fun _ _ => slB_ints) (by simp) (by simp) ?_, ?_⟩
  · simp
  · simp
end Go.Vm
