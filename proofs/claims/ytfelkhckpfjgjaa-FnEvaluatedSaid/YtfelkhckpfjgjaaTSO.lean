/- What the laws' further size, copy and comparison functions answer. No condition. -/
import Derived.Test.YtfelkhckpfjgjaaTG
import Derived.Test.YtfelkhckpfjgjaaTCC
import Derived.Test.YtfelkhckpfjgjaaTTR
set_option linter.unusedSimpArgs false
set_option linter.unusedVariables false
namespace Go.Vm
open Go.Proofs
end Go.Vm
namespace Go.Vm
open Go.Proofs
def code_spec_l3Of : F := ⟨4,[.tmp 2],.seq (.reg [⟨some 2,.mov (.k (.int .i64 0)),none⟩]) (.seq (.seq (.reg [⟨some 3,.mov (.t 0),none⟩]) (.cond (.t 3) (.seq (.reg [⟨some 2,.mov (.k (.int .i64 2)),none⟩]) (.ret)) (.skip))) (.seq (.reg [⟨some 2,.mov (.k (.int .i64 0)),none⟩]) (.ret)))⟩
theorem fok_spec_l3Of : FOk Try.prog 94 code_spec_l3Of := fok Try.func94 (by kernel_rfl)
def trI (b : Bool) : Int := if b = true then 2 else 0
structure BB where
  b : Bool
@[simp] theorem exists_BB {b : Bool} {P : BB → Prop} : (∃ x : BB, b = x.b ∧ P x) = P ⟨b⟩ := by
  apply propext
  constructor
  · rintro ⟨⟨c⟩, rfl, h⟩; exact h
  · intro h; exact ⟨⟨b⟩, rfl, h⟩
@[simp] def ct_l3Of : Ct := ⟨94, BB, fun _ => True, fun x => [.bool x.b], fun x => .int .i64 (trI x.b)⟩
theorem ok_l3Of : ct_l3Of.Ok Try.prog := by
  rintro ⟨_ | _⟩ - <;> refine Ok.of_cw fok_spec_l3Of (go_ok tab_nil ?_) <;> simp [code_spec_l3Of, List.replicate, trI]
def varT (c : Nat) (v : Int) : Int := trI (decide (v = (c : Int)))
def reachT (nx : List Int) (c : Nat) (v : Int) : Int := trI (decide ((c : Int) ∈ followed nx v))
def sharT (nx : List Int) (c : Nat) : Int := trI (decide (1 < (pos nx c).length))
def nextT (nx : List Int) (c d : Nat) : Int := trI (decide (nx.getD c 0 = (d : Int)))
def nodeT (vs nx : List Int) (c : Nat) : Node := ⟨vs.map (varT c), vs.map (reachT nx c), sharT nx c, 0⟩
def rowT (nx : List Int) (c n : Nat) : List Int := (List.range n).map (nextT nx c)
def fitS (h : Heap) : Bool := cellsB h && decide (h.next.length ≤ 10) && (decide (1 ≤ h.vars.length) && decide (h.vars.length ≤ 4))
def nodesT (vs nx : List Int) (n : Nat) : List Node := (List.range n).map (nodeT vs nx)
def nextsT (nx : List Int) (n : Nat) : List Int := (List.range n).flatMap fun c => rowT nx c nx.length
def strcOf (h : Heap) : Strc := if fitS h = true then ⟨nodesT h.vars h.next h.next.length, nextsT h.next h.next.length⟩ else ⟨[], []⟩
theorem nextsT_succ (nx : List Int) (n : Nat) : nextsT nx (n + 1) = nextsT nx n ++ rowT nx n nx.length := by simp [nextsT, List.range_succ]
theorem rowT_succ (nx : List Int) (c n : Nat) : rowT nx c (n + 1) = rowT nx c n ++ [nextT nx c n] := by simp [rowT, List.range_succ]
theorem rowT_len (nx : List Int) (c n : Nat) : (rowT nx c n).length = n := by simp [rowT]
theorem nodesT_len (vs nx : List Int) (n : Nat) : (nodesT vs nx n).length = n := by simp [nodesT]
theorem nextsT_len (nx : List Int) : ∀ n, (nextsT nx n).length = n * nx.length
  | 0 => by simp [nextsT]
  | n + 1 => by rw [nextsT_succ, List.length_append, nextsT_len nx n, rowT_len, Nat.add_mul]; omega
end Go.Vm
