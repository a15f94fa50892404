/- EqualStructure. No condition. -/
import Derived.Test.YtfelkhckpfjgjaaGreatTSL
import Derived.Test.YtfelkhckpfjgjaaGreatTGK
import Derived.Test.YtfelkhckpfjgjaaGreatTFP
set_option linter.unusedSimpArgs false
set_option linter.unusedVariables false
namespace Go.Vm
open Go.Proofs
end Go.Vm
namespace Go.Vm
open Go.Proofs
def code_spec_DrawStructureOf : F := ⟨5,[.cell 2 true 2],.seq (.reg [⟨some 2,.alloc [(.sl .nil 0 []),(.sl .nil 0 [])],none⟩]) (.seq (.reg [⟨some 3,.mov (.t 0),none⟩,⟨some 4,.call 33 [.t 3],none⟩,⟨none,.store 2 (.t 2) (.t 4),none⟩]) (.ret))⟩
theorem fok_spec_DrawStructureOf : FOk Tryz.prog 6 code_spec_DrawStructureOf := fok Tryz.func6 (by kernel_rfl)
@[simp] def ct_DrawStructureOf : Ct := ⟨6, List UInt8, fun bs => bs.length ≤ 1048576, fun bs => [encL 1 encU bs], fun bs => encHeap (drawCan bs).2⟩
theorem ok_DrawStructureOf : ct_DrawStructureOf.Ok Tryz.prog := by
  intro bs hbs
  change List UInt8 at bs
  change bs.length ≤ 1048576 at hbs
  refine Ok.of_cw fok_spec_DrawStructureOf (go_ok (tab_cons ok_DrawCanonHeap tab_nil) ?_)
  simp [code_spec_DrawStructureOf, List.replicate, hbs]
  rfl
def code_spec_DrawHeapOf : F := ⟨14,[.tmp 2,.cell 2 true 3],.seq (.reg [⟨some 2,.mov (.k (.int .i64 0)),none⟩,⟨some 3,.alloc [(.sl .nil 0 []),(.sl .nil 0 [])],none⟩]) (.seq (.reg [⟨some 5,.mov (.t 0),none⟩,⟨some 6,.call 40 [.t 5],none⟩,⟨some 4,.mov (.t 6),none⟩]) (.seq (.seq (.reg [⟨some 7,.mov (.t 4),none⟩,⟨some 8,.call 41 [.t 7,(.k (.int .i64 2))],none⟩]) (.cond (.t 8) (.seq (.reg [⟨some 9,.mov (.t 4),none⟩,⟨some 10,.call 42 [.t 9,(.k (.int .i64 3))],none⟩,⟨some 11,.call 13 [.t 10],none⟩,⟨some 2,.mov (.k (.int .i64 3)),none⟩,⟨none,.store 2 (.t 3) (.t 11),none⟩]) (.ret)) (.skip))) (.seq (.reg [⟨some 12,.mov (.t 4),none⟩,⟨some 13,.call 43 [.t 12],none⟩,⟨some 2,.mov (.k (.int .i64 3)),none⟩,⟨none,.store 2 (.t 3) (.t 13),none⟩]) (.ret))))⟩
theorem fok_spec_DrawHeapOf : FOk Tryz.prog 8 code_spec_DrawHeapOf := fok Tryz.func8 (by kernel_rfl)
def drawHO (bs : List UInt8) : Strc := if (cur0 bs).below 2 = 0 then strcOf (drawH (cur0 bs).step 3) else (bent12 (cur0 bs).step).2
end Go.Vm
