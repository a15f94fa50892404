/- Positions and Followed of the reference, in rows of their own. No condition. -/
import Derived.Test.YtkclkieeapdeiaaTCI
import Derived.Test.YtkclkieeapdeiaaTWL
set_option linter.unusedSimpArgs false
set_option linter.unusedVariables false
namespace Go.Vm
open Go.Proofs
@[simp] def ct_PositionsN : CtN := ⟨99, List Int × Int, fun x => x.1.length ≤ 1048576, fun x => [encL 1 encInt x.1, .int .i64 x.2], fun x => .slref 0 0 (pos x.1 x.2).length (pos x.1 x.2).length, fun x => [.row true 3 1 ((pos x.1 x.2).map encInt)]⟩
theorem ok_PositionsH : ∀ x, ct_PositionsN.pre x → OkH Try.prog 99 (ct_PositionsN.args x) [] (ct_PositionsN.res x) (ct_PositionsN.new x) := by
  rintro ⟨xs, v⟩ hx
  change xs.length ≤ 1048576 at hx
  refine OkH.of_cw fok_spec_Positions (go_ok tab_nil ?_)
  simp [code_spec_Positions, List.replicate]
  refine cw_round (fun (p : Nat) => ⟨slots 25 [(0, encL 1 encInt xs), (1, .int .i64 v), (5, .slref 0 0 (posTo xs v p).length (posTo xs v p).length), (6, .int .i64 p)], [.row true 3 1 ((posTo xs v p).map encInt)]⟩)
    (fun p => p ≤ xs.length) (fun p => xs.length - p) 0 (by omega) ?_ ?_
  · refine weak_seal 1 (by omega) ?_ ?_
    · simp [posTo_zero]
    · simp [List.replicate, posTo_zero]
  · rintro N hN i hi
    have hw : IntKind.i64.wrap ((i : Int) + 1) = ((i + 1 : Nat) : Int) := by rw [wrap_i64] <;> omega
    refine go_ok tab_nil ?_
    have hp := posTo_len (xs := xs) (n := v) (k := i)
    have hb : ((posTo xs v i).length + 1) * 8 ≤ 140737488355328 := by omega
    by_cases h : i < xs.length
    · have h2 : ¬ xs.length ≤ i := by omega
      simp [List.replicate, hw, h, h2, hb, app1]
      refine ⟨fun e => ?_, fun e => ?_⟩
      · refine hN _ (i + 1) _ (by omega) (by omega) (weak_seal 1 (by omega) ?_ ?_)
        · simp [posTo_hit h e]
        · simp [List.replicate, posTo_hit h e]
      · refine hN _ (i + 1) _ (by omega) (by omega) (weak_seal 1 (by omega) ?_ ?_)
        · simp [posTo_miss h e]
        · simp [List.replicate, posTo_miss h e]
    · have e : i = xs.length := by omega
      subst e
      simp [List.replicate]
      have hpe : posTo xs v xs.length = pos xs v := rfl
      rw [hpe]
      refine ⟨⟨slots 25 [(4, .slref 0 0 (pos xs v).length (pos xs v).length)], _⟩, weak_less (H' := [.row true 3 1 ((pos xs v).map encInt)]) (by simp) (by simp [List.replicate]), ?_⟩
      simp [retH, List.replicate]
theorem ok_PositionsN : ct_PositionsN.Ok Try.prog where
  ok := ok_PositionsH
  res := fun x _ => rfl
  new := fun x _ k hk => by
    have : k = .row true 3 1 ((pos x.1 x.2).map encInt) := by simpa using hk
    subst this
    exact ownVL_ints
@[simp] def ct_FollowedN : CtN := ⟨88, Heap × Int, fun x => x.1.next.length ≤ 1048576 ∧ closedC x.1.next ∧ (x.2 = -1 ∨ inC x.1.next.length x.2), fun x => [encHeap x.1, .int .i64 x.2], fun x => .slref 1 0 (followed x.1.next x.2).length (followed x.1.next x.2).length, fun x => [.dead, .row true 3 1 ((followed x.1.next x.2).map encInt)]⟩
set_option maxHeartbeats 1000000 in
theorem ok_FollowedH : ∀ x, ct_FollowedN.pre x → OkH Try.prog 88 (ct_FollowedN.args x) [] (ct_FollowedN.res x) (ct_FollowedN.new x) := by
  rintro ⟨⟨vs, nx⟩, c0⟩ ⟨hx, hcl, hc0⟩
  change nx.length ≤ 1048576 at hx
  change closedC nx at hcl
  change c0 = -1 ∨ inC nx.length c0 at hc0
  refine OkH.of_cw fok_spec_Followed (go_ok tab_nil ?_)
  simp [code_spec_Followed, List.replicate]
  refine cw_round (fun (p : List Int × Int) => ⟨slots 33 [(1, .int .i64 p.2), (2, .pbox 0 0), (5, .slref 1 0 p.1.length p.1.length)], [.cells [encL 1 encInt vs, encL 1 encInt nx], .row true 3 1 (p.1.map encInt)]⟩)
    (fun p => (p.2 = -1 ∨ inC nx.length p.2) ∧ goodC nx.length p.1 ∧ followed nx c0 = follow nx (nx.length + 1 - p.1.length) p.1 p.2) (fun p => nx.length + 1 - p.1.length) ([], c0) ⟨hc0, goodC_nil _, rfl⟩ ?_ ?_
  · exact weak_seal 2 (by omega) (by simp) (by simp [List.replicate])
  · rintro N hN ⟨out, c⟩ ⟨hin, hg, hf⟩
    change c = -1 ∨ inC nx.length c at hin
    change goodC nx.length out at hg
    change followed nx c0 = follow nx (nx.length + 1 - out.length) out c at hf
    have hlen := goodC_len hg
    obtain ⟨d, hd⟩ : ∃ d, nx.length + 1 - out.length = d + 1 := ⟨nx.length - out.length, by omega⟩
    rw [hd] at hf
    have hw : IntKind.i64.wrap ((nx.length : Int) - 1) = (nx.length : Int) - 1 := by rw [wrap_i64] <;> omega
    have hb : (out.length + 1) * 8 ≤ 140737488355328 := by omega
    have hol : out.length ≤ 1048576 := by omega
    refine go_ok (tab_cons ok_l7Has (tab_cons ok_l1In tab_nil)) ?_
    by_cases h1 : c = -1
    · rw [follow_stop (.inl h1)] at hf
      simp [List.replicate, h1, hf]
      refine ⟨⟨slots 33 [(4, .slref 1 0 out.length out.length)], _⟩, weak_less (H' := [.dead, .row true 3 1 (out.map encInt)]) (by simp) (by simp [List.replicate]), ?_⟩
      simp [retH, List.replicate]
    by_cases h2 : c ∈ out
    · rw [follow_stop (.inr h2)] at hf
      simp [List.replicate, h1, h2, hf, hol]
      refine ⟨⟨slots 33 [(4, .slref 1 0 out.length out.length)], _⟩, weak_less (H' := [.dead, .row true 3 1 (out.map encInt)]) (by simp) (by simp [List.replicate]), ?_⟩
      simp [retH, List.replicate]
    have h12 : ¬ (c = -1 ∨ c ∈ out) := by simp [h1, h2]
    by_cases h3 : 0 ≤ c ∧ c < nx.length
    · rw [follow_step h12 h3] at hf
      have h4 : c ≤ (nx.length : Int) - 1 := by omega
      have h5 : c.toNat < nx.length := by omega
      have h6 : ¬ ((nx.length : Int) - 1 < c) := by omega
      simp [List.replicate, h1, h2, h3, h4, h5, h6, hol, hw, hb, app1]
      refine hN (out, c) (out ++ [c], nx[c.toNat]) _ ⟨by have := closed_get hcl (c := c) h3; simpa [List.getD_eq_getElem?_getD, h5] using this, goodC_add hg h2 h3.1 h3.2, ?_⟩ (by simp; omega) (weak_seal 2 (by omega) ?_ ?_)
      · rw [hf]
        simp [List.getD_eq_getElem?_getD, h5]
        congr 1; omega
      · simp
      · simp [List.replicate]
    · exact absurd (hin.resolve_left h1) h3
theorem ok_FollowedN : ct_FollowedN.Ok Try.prog where
  ok := ok_FollowedH
  res := fun x _ => rfl
  new := fun x _ k hk => by
    have : k = .dead ∨ k = .row true 3 1 ((followed x.1.next x.2).map encInt) := by simpa using hk
    rcases this with rfl | rfl
    · rfl
    · exact ownVL_ints
end Go.Vm
