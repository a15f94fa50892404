/- spec.l8Null. No condition. -/
import Derived.Test.YtkclkieeapdeiaaTLB
set_option linter.unusedSimpArgs false
set_option linter.unusedVariables false
namespace Go.Vm
open Go.Proofs
structure N8 where
  s : Stmt
  h : Heap
  i : Nat
  j : Nat
def N8.res (x : N8) : Bool := if x.s.kind = 5 then decide (x.h.vars.getD x.j 0 = -1) else if x.s.kind = 6 ∨ x.s.kind = 7 ∨ x.s.kind = 8 then decide (x.h.vars.getD x.i 0 = -1) else false
@[simp] def ct_l8Null : Ct := ⟨53, N8, fun x => x.i < x.h.vars.length ∧ x.j < x.h.vars.length, fun x => [encStmt x.s, encHeap x.h, .int .i64 x.i, .int .i64 x.j], fun x => .bool x.res⟩
theorem ok_l8Null : ct_l8Null.Ok Try.prog := by
  rintro ⟨s, ⟨vs, nx⟩, i, j⟩ ⟨hi, hj⟩
  change i < vs.length at hi
  change j < vs.length at hj
  have e1 : vs.getD i 0 = vs[i] := by simp [List.getD_eq_getElem?_getD, hi]
  have e2 : vs.getD j 0 = vs[j] := by simp [List.getD_eq_getElem?_getD, hj]
  simp only [ct_l8Null, N8.res, e1, e2]
  clear e1 e2
  generalize hav : vs[i] = a
  generalize hbv : vs[j] = b
  refine Ok.of_cw fok_spec_l8Null (go_ok tab_nil ?_)
  by_cases k5 : s.kind = 5
  · simp [code_spec_l8Null, List.replicate, encStmt_eq, encHeap_eq, k5, hi, hj, hav, hbv]
  by_cases k6 : s.kind = 6
  · simp [code_spec_l8Null, List.replicate, encStmt_eq, encHeap_eq, k6, hi, hj, hav, hbv]
  by_cases k7 : s.kind = 7
  · simp [code_spec_l8Null, List.replicate, encStmt_eq, encHeap_eq, k7, hi, hj, hav, hbv]
  by_cases k8 : s.kind = 8
  · simp [code_spec_l8Null, List.replicate, encStmt_eq, encHeap_eq, k8, hi, hj, hav, hbv]
  · simp [code_spec_l8Null, List.replicate, encStmt_eq, encHeap_eq, k5, k6, k7, k8, hi, hj, hav, hbv]
end Go.Vm
