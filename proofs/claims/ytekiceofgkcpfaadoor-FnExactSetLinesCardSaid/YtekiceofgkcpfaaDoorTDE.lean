/- IsDefinite and EqualStructure. No condition. -/
import Derived.Test.YtekiceofgkcpfaaDoorTIXN
set_option linter.unusedSimpArgs false
set_option linter.unusedVariables false
namespace Go.Vm
open Go.Proofs
def code_slices_ContainsFunc_impl_Node_impl_Node : F := ⟨9, [.tmp 4],
 .seq (.reg [⟨some 4, .mov (.k (.bool false)), none⟩])
 (.seq (.reg [⟨some 5, .mov (.t 0), none⟩,
     ⟨some 6, .mov (.t 1), none⟩,
     ⟨some 7, .call 122 [(.t 5), (.t 6)], none⟩,
     ⟨some 8, .bin .geq (.t 7) (.k (.int .i64 0)), none⟩,
     ⟨some 4, .mov (.t 8), none⟩])
  (.ret))⟩
theorem fok_slices_ContainsFunc_impl_Node_impl_Node : FOk Tryd.prog 108 code_slices_ContainsFunc_impl_Node_impl_Node := fok Tryd.func108 (by kernel_rfl)
/-- A node with a value that is not known. -/
def halfN (x : Node) : Bool := x.shared == 1 || x.many == 1 || decide (1 ∈ x.vars) || decide (1 ∈ x.reach)
@[simp] def ct_ContainsFuncN : Ct := ⟨108, List Node × Nat × List AV × (Node → Bool), fun x => callable Tryd.prog x.2.1 = true ∧ ((∀ m H, lendCs m H 19 x.2.2.1 = some x.2.2.1) ∧ ∀ m H, lendAll m H x.2.2.1 = some x.2.2.1) ∧ ∀ a ∈ x.1, Ok Tryd.prog x.2.1 (encNode a :: x.2.2.1) (.bool (x.2.2.2 a)), fun x => [encL 4 encNode x.1, .fn x.2.1 x.2.2.1], fun x => .bool (x.1.any x.2.2.2)⟩
theorem ok_ContainsFuncN : ct_ContainsFuncN.Ok Tryd.prog := by
  rintro ⟨xs, f, caps, p⟩ hx
  refine Ok.of_cw fok_slices_ContainsFunc_impl_Node_impl_Node (go_ok (tab_cons ok_IndexFuncN tab_nil) ?_)
  have hA := hx.2.1.1
  have hB := hx.2.1.2
  simp at hA hB
  simp [code_slices_ContainsFunc_impl_Node_impl_Node, List.replicate, hA]
  exact ⟨hx.1, hB, p, hx.2.2, findI_any.symm⟩
def isDef (x : Strc) : Bool := !decide (1 ∈ x.next) && !x.nodes.any halfN
end Go.Vm
