/- The reference's draws of heaps. No condition. -/
import Derived.Test.YtkclkieeapdeiaaTRG
import Derived.Test.YtkclkieeapdeiaaTKC
set_option linter.unusedSimpArgs false
set_option linter.unusedVariables false
namespace Go.Vm
open Go.Proofs
theorem bent_len (c : Cur) : (bentR c).2.2.vars.length = 3 ∧ (bentR c).2.2.next.length ≤ 6 ∧ (bentR c).1.buf = c.buf ∧ 2 ≤ (bentR c).2.1 ∧ (bentR c).2.1 ≤ 4 := by
  obtain ⟨h1, h2⟩ := drawH_len c 3
  have h1' : (bentH c).vars.length = 3 := h1
  have h2' : (bentH c).next.length ≤ 5 := h2
  obtain ⟨-, a2, -⟩ := drawA_ok c.step (drawN c)
  obtain ⟨-, b2, -⟩ := drawB_ok (drawN c) (drawX c).1 3
  have e : (bentC c).buf = c.buf := b2.trans a2
  have hb := below_lt (bentC c).step (n := 3) (by omega)
  unfold bentR
  split
  · exact ⟨by simp [h1'], by simp only; omega, e, by simp, by simp⟩
  split
  · exact ⟨h1', by simp; omega, e, by simp, by simp⟩
  split
  · split
    · exact ⟨h1', by simp; omega, e, by simp, by simp⟩
    · exact ⟨h1', by simp only; omega, e, by simp, by simp⟩
  split
  · exact ⟨h1', by simp only; omega, e, by simp only; omega, by simp only; omega⟩
  · exact ⟨h1', by simp only; omega, e, by simp, by simp⟩
def drawCan (bs : List UInt8) : Int × Heap := (bentR (cur0 bs)).2
@[simp] theorem isVoid_cur {c : Cur} : isVoid (some c.cells) = false := (rfl)
def drawFol (bs : List UInt8) : Heap × Int := ((drawCan bs).2, (bentR (cur0 bs)).1.below 7 - 1)
def code_spec_l2Vars : F := ⟨2, [.tmp 0],
 .seq (.reg [⟨some 0, .mov (.k (.sl .nil 0 [])), none⟩])
 (.seq (.reg [⟨some 1, .bsl 9 1 3 (.str []) [(0, (.k (.str [120]))), (1, (.k (.str [121]))), (2, (.k (.str [116])))], none⟩,
     ⟨some 0, .mov (.t 1), none⟩])
  (.ret))⟩
theorem fok_spec_l2Vars : FOk Try.prog 34 code_spec_l2Vars := fok Try.func34 (by kernel_rfl)
@[simp] def ct_l2Vars : Ct := ⟨34, Unit, fun _ => True, fun _ => [], fun _ => encL 1 encStr [[120], [121], [116]]⟩
theorem ok_l2Vars : ct_l2Vars.Ok Try.prog := by
  rintro ⟨⟩ -
  refine Ok.of_cw fok_spec_l2Vars (go_ok tab_nil ?_)
  simp [code_spec_l2Vars, List.replicate]
  rfl
def drawEq (bs : List UInt8) : Heap × Heap := if (bentR (cur0 bs)).1.below 2 = 0 then ((drawCan bs).2, (drawCan bs).2) else ((drawCan bs).2, (bentR (bentR (cur0 bs)).1.step).2.2)
end Go.Vm
