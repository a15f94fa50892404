/- The law FnKept, closed. No condition. -/
import Derived.Test.YtfelkhckpfjgjaaTKV
set_option linter.unusedSimpArgs false
set_option linter.unusedVariables false
namespace Go.Vm
open Go.Proofs
theorem u8_of_wf {i : Int} (h : (Lit.int .u8 i).wf = true) : ∃ u : UInt8, i = (u.toNat : Int) := by
  simp only [Lit.wf, Bool.and_eq_true, decide_eq_true_eq] at h
  have h1 : (0 : Int) ≤ i := h.1
  have h2 : i ≤ 255 := h.2
  have h3 : (UInt8.ofNat i.toNat).toNat = i.toNat % 256 := by simp
  refine ⟨UInt8.ofNat i.toNat, ?_⟩
  rw [h3]
  omega
theorem dec_5 : ∀ (n : Nat) (c : List AV), TyN Try.prog n 5 c → ∃ x : UInt8, mkE false c = encU x := by
  intro n c h
  obtain ⟨i, rfl, hw⟩ := ty_int Try.underlying5 h
  obtain ⟨u, rfl⟩ := u8_of_wf hw
  exact ⟨u, rfl⟩
theorem dec_22 : ∀ (n : Nat) (c : List AV), TyN Try.prog n 22 c → ∃ x : List (UInt8), mkE false c = (encL 1 encU) x := by
  intro n c h
  obtain ⟨xs, rfl⟩ := ty_slice encU Try.underlying22 (sz := 1) (b := false) (by kernel_rfl) (isAgg_eq Try.underlying5) (fun m cs _ h => dec_5 m cs h) h
  exact ⟨xs, rfl⟩
end Go.Vm
namespace Go.Proofs.Ytfelkhckpfjgjaa.fnKept
open Go.RowKit Go.ChangeShapes Go.WideShapes Go.ChangeAt Go.Vm
theorem own : ownKnob Try.prog.godebug = none := by kernel_rfl
set_option maxRecDepth 100000 in
theorem lifted (os : Os) (started : os.Started) (H : Type) (enc : TypeId × Value → H) :
    ReturnsInHanded {} Try.checked os 5 .any (Rows.fnKeptSpec.pre6 enc Try.prog Try.f5 Rows.fnKeptRow.domain false) (Rows.fnKeptSpec.post enc Try.prog Try.f5 false true false false) := by
  refine law_lift (C := Try.checked) (T := [22, 5]) (tb := 4) own started (by kernel_rfl) Try.func5
    (ChangeSpec.witness6 (enc := enc) (C := Try.checked) false ⟨#[], #[.slice none 0 0], []⟩ 8 (by kernel_rfl) (by kernel_rfl) (by kernel_rfl) (by kernel_rfl)) rfl ?_ (by kernel_rfl) Try.underlying4 (by kernel_rfl) ?_ (by kernel_rfl) ?_ ?_
  · intro ds h
    rw [Try.params5] at h
    match ds, h with
    | [d0], _ => rfl
  · rw [Try.params5]; simp
  · rw [Try.params5]
    intro t ht
    have ht : t ∈ [22] := ht
    rcases List.mem_cons.1 ht with rfl | ht
    · exact ⟨by kernel_rfl, of_decide_eq_true (by kernel_rfl)⟩
    cases ht
  · rw [Try.params5]
    intro ass h
    rcases h with _ | ⟨h0, _ | _⟩
    obtain ⟨n0, h0⟩ := h0
    obtain ⟨x0, e0⟩ := dec_22 _ _ h0
    change Ok Try.prog 5 (argE Try.prog _ _) _
    simp only [argE, isAgg_eq Try.underlying22, TypeDesc.isStruct, e0]
    exact ok_lawKept x0
theorem over : Rows.fnKeptRow.holds Try.pinned (OpenSpec.ofChange Rows.fnKeptSpec) :=
  OpenClaim.holds_of_wide 5 Try.f5 rfl rfl rfl rfl rfl rfl rfl ⟨rfl, rfl, rfl, rfl, rfl⟩ rfl rfl rfl rfl rfl (by kernel_rfl) Try.func5 (by kernel_rfl)
    (of_decide_eq_true (by kernel_rfl)) (by unfold Func.isWrapper; first | (rw [if_pos (by decide +kernel)]; kernel_rfl) | (rw [if_neg (by decide +kernel)]; exact ⟨rfl, rfl⟩))
    (fun os started H enc _ => lifted os started H enc)
end Go.Proofs.Ytfelkhckpfjgjaa.fnKept
namespace Go.Proofs.Ytfelkhckpfjgjaa
theorem fnKept_holds : Rows.FnKeptSaid := fnKept.over
#print axioms fnKept_holds
end Go.Proofs.Ytfelkhckpfjgjaa
