/- CanonHeap of the program, told without blocks. No condition. -/
import Derived.Test.YtkclkieeapdeiaaTCH
set_option linter.unusedSimpArgs false
set_option linter.unusedVariables false
namespace Go.Vm
open Go.Proofs
@[simp] def ct_pCanonC : Ct := ⟨47, Heap, fun x => szHeap x ≤ 1048576, fun x => [encHeap x], fun x => encHeap (canonH x)⟩
theorem ok_pCanonC : ct_pCanonC.Ok Try.prog := by
  intro x hx
  refine Ok.of_okH (ok_pCanonH x hx) ?_
  unfold canonR canonN
  by_cases hc : cellsB x = true
  · simp [hc, encHeap_eq]
  · have : canonH x = ⟨[], []⟩ := by unfold canonH; rw [if_neg hc]
    simp [hc, this, encHeap_eq]
/-- Code that ends in one state, whichever way it goes. -/
theorem cw_to {P : Program} {n0 : Nat} {A B : C} {Q : Exit → St → Prop} {st : St} (st' : St) (h1 : CW P n0 A (fun e s => e = .normal ∧ Weak n0 s st') st) (h2 : CW P n0 B Q st') : CW P n0 (.seq A B) Q st :=
  cw_seq (cw_mono h1 fun e s h => by obtain ⟨rfl, hw⟩ := h; exact cw_weak hw h2)
end Go.Vm
