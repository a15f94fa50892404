/- What the bounds' tests answer. No condition. -/
import Derived.Test.YtfelkhckpfjgjaaTG
set_option linter.unusedSimpArgs false
set_option linter.unusedVariables false
namespace Go.Vm
open Go.Proofs
def code_impl_within : F := ⟨15,[.tmp 6],.seq (.reg [⟨some 6,.mov (.k (.bool false)),none⟩]) (.seq (.reg [⟨some 7,.mov (.t 1),none⟩,⟨some 8,.mov (.t 0),none⟩,⟨some 9,.bin .leq (.t 7) (.t 8),none⟩,⟨some 10,.mov (.t 9),none⟩,⟨some 11,.mov (.t 0),some (10,true)⟩,⟨some 12,.mov (.t 2),some (10,true)⟩,⟨some 13,.bin .leq (.t 11) (.t 12),some (10,true)⟩,⟨some 14,.pick (.t 10) (.t 13) (.k (.bool false)),none⟩,⟨some 6,.mov (.t 14),none⟩]) (.ret))⟩
theorem fok_impl_within : FOk Try.prog 68 code_impl_within := fok Try.func68 (by kernel_rfl)
def code_spec_l1In : F := ⟨15,[.tmp 6],.seq (.reg [⟨some 6,.mov (.k (.bool false)),none⟩]) (.seq (.reg [⟨some 7,.mov (.t 0),none⟩,⟨some 8,.mov (.t 1),none⟩,⟨some 9,.bin .geq (.t 7) (.t 8),none⟩,⟨some 10,.mov (.t 9),none⟩,⟨some 11,.mov (.t 0),some (10,true)⟩,⟨some 12,.mov (.t 2),some (10,true)⟩,⟨some 13,.bin .leq (.t 11) (.t 12),some (10,true)⟩,⟨some 14,.pick (.t 10) (.t 13) (.k (.bool false)),none⟩,⟨some 6,.mov (.t 14),none⟩]) (.ret))⟩
theorem fok_spec_l1In : FOk Try.prog 48 code_spec_l1In := fok Try.func48 (by kernel_rfl)
@[simp] def ct_within : Ct := ⟨68, Int × Int × Int, fun _ => True, fun x => [.int .i64 x.1, .int .i64 x.2.1, .int .i64 x.2.2], fun x => .bool (decide (x.2.1 ≤ x.1) && decide (x.1 ≤ x.2.2))⟩
theorem ok_within : ct_within.Ok Try.prog := by
  rintro ⟨a, b, c⟩ -
  refine Ok.of_cw fok_impl_within (go_ok tab_nil ?_)
  simp [code_impl_within, List.replicate]
  grind
@[simp] def ct_l1In : Ct := ⟨48, Int × Int × Int, fun _ => True, fun x => [.int .i64 x.1, .int .i64 x.2.1, .int .i64 x.2.2], fun x => .bool (decide (x.2.1 ≤ x.1) && decide (x.1 ≤ x.2.2))⟩
theorem ok_l1In : ct_l1In.Ok Try.prog := by
  rintro ⟨a, b, c⟩ -
  refine Ok.of_cw fok_spec_l1In (go_ok tab_nil ?_)
  simp [code_spec_l1In, List.replicate]
  grind
def at1 (l : List Int) (k : Int) : Int := if 0 ≤ k ∧ k < l.length then l.getD k.toNat 0 else 1
def code_spec_l13At : F := ⟨15,[.tmp 4],.seq (.reg [⟨some 4,.mov (.k (.int .i64 0)),none⟩]) (.seq (.seq (.reg [⟨some 5,.mov (.t 1),none⟩,⟨some 6,.mov (.t 0),none⟩,⟨some 7,.len (.t 6),none⟩,⟨some 8,.bin .sub (.t 7) (.k (.int .i64 1)),none⟩,⟨some 9,.call 48 [.t 5,(.k (.int .i64 0)),.t 8],none⟩,⟨some 10,.not (.t 9),none⟩]) (.cond (.t 10) (.seq (.reg [⟨some 4,.mov (.k (.int .i64 1)),none⟩]) (.ret)) (.skip))) (.seq (.reg [⟨some 11,.mov (.t 0),none⟩,⟨some 12,.mov (.t 1),none⟩,⟨some 13,.iaddr 1 (.t 11) (.t 12),none⟩,⟨some 14,.load 1 false (.t 13),none⟩,⟨some 4,.mov (.t 14),none⟩]) (.ret)))⟩
theorem fok_spec_l13At : FOk Try.prog 112 code_spec_l13At := fok Try.func112 (by kernel_rfl)
@[simp] def ct_l13At : Ct := ⟨112, List Int × Int, fun x => x.1.length ≤ 1048576, fun x => [encL 1 encInt x.1, .int .i64 x.2], fun x => .int .i64 (at1 x.1 x.2)⟩
theorem ok_l13At : ct_l13At.Ok Try.prog := by
  rintro ⟨l, k⟩ h
  change l.length ≤ 1048576 at h
  refine Ok.of_cw fok_spec_l13At (go_ok (tab_cons ok_l1In tab_nil) ?_)
  have hw : IntKind.i64.wrap ((l.length : Int) - 1) = (l.length : Int) - 1 := by rw [wrap_i64] <;> omega
  simp [code_spec_l13At, List.replicate, hw, at1]
  grind
def code_impl_Structure_isNode : F := ⟨11,[.tmp 4],.seq (.reg [⟨some 2,.box (.t 0),none⟩,⟨some 4,.mov (.k (.bool false)),none⟩]) (.seq (.reg [⟨some 5,.mov (.t 1),none⟩,⟨some 6,.faddr 0 (.t 2),none⟩,⟨some 7,.load 1 false (.t 6),none⟩,⟨some 8,.len (.t 7),none⟩,⟨some 9,.bin .sub (.t 8) (.k (.int .i64 1)),none⟩,⟨some 10,.call 68 [.t 5,(.k (.int .i64 0)),.t 9],none⟩,⟨some 4,.mov (.t 10),none⟩]) (.ret))⟩
theorem fok_impl_Structure_isNode : FOk Try.prog 82 code_impl_Structure_isNode := fok Try.func82 (by kernel_rfl)
@[simp] def ct_isNode : Ct := ⟨82, Strc × Int, fun _ => True, fun x => [encStrc x.1, .int .i64 x.2], fun x => .bool (decide (0 ≤ x.2) && decide (x.2 ≤ (x.1.nodes.length : Int) - 1))⟩
theorem ok_isNode : ct_isNode.Ok Try.prog := by
  rintro ⟨⟨a, b⟩, i⟩ -
  refine Ok.lens fun hl => Ok.of_cw fok_impl_Structure_isNode (go_ok (tab_cons ok_within tab_nil) ?_)
  have hl : lensOkL [encStrc ⟨a, b⟩, .int .i64 i] := hl
  simp [lensOkL_cons, lensOk_encL, encStrc_eq, lens_agg, lens_int, lens_nil] at hl
  have hw : IntKind.i64.wrap ((a.length : Int) - 1) = (a.length : Int) - 1 := by rw [wrap_i64] <;> omega
  simp [code_impl_Structure_isNode, List.replicate, hw]
end Go.Vm
namespace Go.Vm
open Go.Proofs
def code_spec_IsTruth : F := ⟨5,[.tmp 2],.seq (.reg [⟨some 2,.mov (.k (.bool false)),none⟩]) (.seq (.reg [⟨some 3,.mov (.t 0),none⟩,⟨some 4,.call 48 [.t 3,(.k (.int .i64 0)),(.k (.int .i64 2))],none⟩,⟨some 2,.mov (.t 4),none⟩]) (.ret))⟩
theorem fok_spec_IsTruth : FOk Try.prog 53 code_spec_IsTruth := fok Try.func53 (by kernel_rfl)
def code_impl_IsTruth : F := ⟨5,[.tmp 2],.seq (.reg [⟨some 2,.mov (.k (.bool false)),none⟩]) (.seq (.reg [⟨some 3,.mov (.t 0),none⟩,⟨some 4,.call 68 [.t 3,(.k (.int .i64 0)),(.k (.int .i64 2))],none⟩,⟨some 2,.mov (.t 4),none⟩]) (.ret))⟩
theorem fok_impl_IsTruth : FOk Try.prog 30 code_impl_IsTruth := fok Try.func30 (by kernel_rfl)
def code_spec_TruthText : F := ⟨10,[.tmp 2],.seq (.reg [⟨some 2,.mov (.k (.str [])),none⟩]) (.seq (.seq (.reg [⟨some 3,.mov (.t 0),none⟩,⟨some 4,.call 53 [.t 3],none⟩,⟨some 5,.not (.t 4),none⟩]) (.cond (.t 5) (.seq (.reg [⟨some 2,.mov (.k (.str [])),none⟩]) (.ret)) (.skip))) (.seq (.reg [⟨some 6,.mov (.t 0),none⟩,⟨some 7,.mov (.t 0),none⟩,⟨some 8,.bin .add (.t 7) (.k (.int .i64 1)),none⟩,⟨some 9,.sslice (.k (.str [48,63,49])) (some (.t 6)) (some (.t 8)),none⟩,⟨some 2,.mov (.t 9),none⟩]) (.ret)))⟩
theorem fok_spec_TruthText : FOk Try.prog 124 code_spec_TruthText := fok Try.func124 (by kernel_rfl)
def isTruth (a : Int) : Bool := decide (0 ≤ a) && decide (a ≤ 2)
@[simp] def ct_sIsTruth : Ct := ⟨53, Int, fun _ => True, fun x => [.int .i64 x], fun x => .bool (isTruth x)⟩
theorem ok_sIsTruth : ct_sIsTruth.Ok Try.prog := by
  rintro a -
  change Int at a
  refine Ok.of_cw fok_spec_IsTruth (go_ok (tab_cons ok_l1In tab_nil) ?_)
  simp [code_spec_IsTruth, List.replicate, isTruth]
@[simp] def ct_pIsTruth : Ct := ⟨30, Int, fun _ => True, fun x => [.int .i64 x], fun x => .bool (isTruth x)⟩
theorem ok_pIsTruth : ct_pIsTruth.Ok Try.prog := by
  rintro a -
  change Int at a
  refine Ok.of_cw fok_impl_IsTruth (go_ok (tab_cons ok_within tab_nil) ?_)
  simp [code_impl_IsTruth, List.replicate, isTruth]
def truthText (a : Int) : List UInt8 := if a = 0 then [48] else if a = 1 then [63] else if a = 2 then [49] else []
theorem truthText_len (a : Int) : (truthText a).length ≤ 1 := by unfold truthText; (repeat' split) <;> simp
@[simp] def ct_sTruthText : Ct := ⟨124, Int, fun _ => True, fun x => [.int .i64 x], fun x => .str (truthText x)⟩
theorem ok_sTruthText : ct_sTruthText.Ok Try.prog := by
  rintro a -
  change Int at a
  refine Ok.of_cw fok_spec_TruthText (go_ok (tab_cons ok_sIsTruth tab_nil) ?_)
  by_cases h : 0 ≤ a ∧ a ≤ 2
  · have : a = 0 ∨ a = 1 ∨ a = 2 := by omega
    rcases this with rfl | rfl | rfl <;> simp [code_spec_TruthText, List.replicate, isTruth, truthText]
  · have h2 : isTruth a = false := by simp [isTruth]; omega
    have h3 : truthText a = [] := by unfold truthText; rw [if_neg (by omega), if_neg (by omega), if_neg (by omega)]
    simp [code_spec_TruthText, List.replicate, h2, h3]
end Go.Vm
