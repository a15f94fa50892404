/- What the bounds' tests answer. No condition. -/
import Derived.Test.YtfelkhckpfjgjaaTG
set_option linter.unusedSimpArgs false
set_option linter.unusedVariables false
namespace Go.Vm
open Go.Proofs
def code_impl_within : F := ⟨15,[.tmp 6],.seq (.reg [⟨some 6,.mov (.k (.bool false)),none⟩]) (.seq (.reg [⟨some 7,.mov (.t 1),none⟩,⟨some 8,.mov (.t 0),none⟩,⟨some 9,.bin .leq (.t 7) (.t 8),none⟩,⟨some 10,.mov (.t 9),none⟩,⟨some 11,.mov (.t 0),some (10,true)⟩,⟨some 12,.mov (.t 2),some (10,true)⟩,⟨some 13,.bin .leq (.t 11) (.t 12),some (10,true)⟩,⟨some 14,.pick (.t 10) (.t 13) (.k (.bool false)),none⟩,⟨some 6,.mov (.t 14),none⟩]) (.ret))⟩
theorem fok_impl_within : FOk Try.prog 68 code_impl_within := fok Try.func68 (by kernel_rfl)
def code_spec_l1In : F := ⟨15,[.tmp 6],.seq (.reg [⟨some 6,.mov (.k (.bool false)),none⟩]) (.seq (.reg [⟨some 7,.mov (.t 0),none⟩,⟨some 8,.mov (.t 1),none⟩,⟨some 9,.bin .geq (.t 7) (.t 8),none⟩,⟨some 10,.mov (.t 9),none⟩,⟨some 11,.mov (.t 0),some (10,true)⟩,⟨some 12,.mov (.t 2),some (10,true)⟩,⟨some 13,.bin .leq (.t 11) (.t 12),some (10,true)⟩,⟨some 14,.pick (.t 10) (.t 13) (.k (.bool false)),none⟩,⟨some 6,.mov (.t 14),none⟩]) (.ret))⟩
theorem fok_spec_l1In : FOk Try.prog 48 code_spec_l1In := fok Try.func48 (by kernel_rfl)
@[simp] def ct_within : Ct := ⟨68, Int × Int × Int, fun _ => True, fun x => [.int .i64 x.1, .int .i64 x.2.1, .int .i64 x.2.2], fun x => .bool (decide (x.2.1 ≤ x.1) && decide (x.1 ≤ x.2.2))⟩
theorem ok_within : ct_within.Ok Try.prog := by
  rintro ⟨a, b, c⟩ -
  refine Ok.of_cw fok_impl_within (go_ok tab_nil ?_)
  simp [code_impl_within, List.replicate]
  grind
@[simp] def ct_l1In : Ct := ⟨48, Int × Int × Int, fun _ => True, fun x => [.int .i64 x.1, .int .i64 x.2.1, .int .i64 x.2.2], fun x => .bool (decide (x.2.1 ≤ x.1) && decide (x.1 ≤ x.2.2))⟩
theorem ok_l1In : ct_l1In.Ok Try.prog := by
  rintro ⟨a, b, c⟩ -
  refine Ok.of_cw fok_spec_l1In (go_ok tab_nil ?_)
  simp [code_spec_l1In, List.replicate]
  grind
def at1 (l : List Int) (k : Int) : Int := if 0 ≤ k ∧ k < l.length then l.getD k.toNat 0 else 1
def code_spec_l13At : F := ⟨15,[.tmp 4],.seq (.reg [⟨some 4,.mov (.k (.int .i64 0)),none⟩]) (.seq (.seq (.reg [⟨some 5,.mov (.t 1),none⟩,⟨some 6,.mov (.t 0),none⟩,⟨some 7,.len (.t 6),none⟩,⟨some 8,.bin .sub (.t 7) (.k (.int .i64 1)),none⟩,⟨some 9,.call 48 [.t 5,(.k (.int .i64 0)),.t 8],none⟩,⟨some 10,.not (.t 9),none⟩]) (.cond (.t 10) (.seq (.reg [⟨some 4,.mov (.k (.int .i64 1)),none⟩]) (.ret)) (.skip))) (.seq (.reg [⟨some 11,.mov (.t 0),none⟩,⟨some 12,.mov (.t 1),none⟩,⟨some 13,.iaddr 1 (.t 11) (.t 12),none⟩,⟨some 14,.load 1 false (.t 13),none⟩,⟨some 4,.mov (.t 14),none⟩]) (.ret)))⟩
theorem fok_spec_l13At : FOk Try.prog 112 code_spec_l13At := fok Try.func112 (by kernel_rfl)
@[simp] def ct_l13At : Ct := ⟨112, List Int × Int, fun x => x.1.length ≤ 1048576, fun x => [encL 1 encInt x.1, .int .i64 x.2], fun x => .int .i64 (at1 x.1 x.2)⟩
theorem ok_l13At : ct_l13At.Ok Try.prog := by
  rintro ⟨l, k⟩ h
  change l.length ≤ 1048576 at h
  refine Ok.of_cw fok_spec_l13At (go_ok (tab_cons ok_l1In tab_nil) ?_)
  have hw : IntKind.i64.wrap ((l.length : Int) - 1) = (l.length : Int) - 1 := by rw [wrap_i64] <;> omega
  simp [code_spec_l13At, List.replicate, hw, at1]
  grind
def code_impl_Structure_isNode : F := ⟨11,[.tmp 4],.seq (.reg [⟨some 2,.box (.t 0),none⟩,⟨some 4,.mov (.k (.bool false)),none⟩]) (.seq (.reg [⟨some 5,.mov (.t 1),none⟩,⟨some 6,.faddr 0 (.t 2),none⟩,⟨some 7,.load 1 false (.t 6),none⟩,⟨some 8,.len (.t 7),none⟩,⟨some 9,.bin .sub (.t 8) (.k (.int .i64 1)),none⟩,⟨some 10,.call 68 [.t 5,(.k (.int .i64 0)),.t 9],none⟩,⟨some 4,.mov (.t 10),none⟩]) (.ret))⟩
theorem fok_impl_Structure_isNode : FOk Try.prog 82 code_impl_Structure_isNode := fok Try.func82 (by kernel_rfl)
@[simp] def ct_isNode : Ct := ⟨82, Strc × Int, fun _ => True, fun x => [encStrc x.1, .int .i64 x.2], fun x => .bool (decide (0 ≤ x.2) && decide (x.2 ≤ (x.1.nodes.length : Int) - 1))⟩
theorem ok_isNode : ct_isNode.Ok Try.prog := by
  rintro ⟨⟨a, b⟩, i⟩ -
  refine Ok.lens fun hl => Ok.of_cw fok_impl_Structure_isNode (go_ok (tab_cons ok_within tab_nil) ?_)
  have hl : lensOkL [encStrc ⟨a, b⟩, .int .i64 i] := hl
  simp [lensOkL_cons, lensOk_encL, encStrc_eq, lens_agg, lens_int, lens_nil] at hl
  have hw : IntKind.i64.wrap ((a.length : Int) - 1) = (a.length : Int) - 1 := by rw [wrap_i64] <;> omega
  simp [code_impl_Structure_isNode, List.replicate, hw]
end Go.Vm
namespace Go.Vm
open Go.Proofs
def code_spec_Positions : F := ⟨25,[.tmp 4],.seq (.reg [⟨some 4,.mov (.k (.sl .nil 0 [])),none⟩]) (.seq (.reg [⟨some 7,.bsl 3 1 0 (.int .i64 0) [],none⟩,⟨some 5,.mov (.t 7),none⟩]) (.seq (.seq (.reg [⟨some 6,.mov (.k (.int .i64 0)),none⟩]) (.block 0 (.loop (.seq (.seq (.reg [⟨some 8,.mov (.t 6),none⟩,⟨some 9,.mov (.t 0),none⟩,⟨some 10,.len (.t 9),none⟩,⟨some 11,.bin .lss (.t 8) (.t 10),none⟩]) (.cond (.t 11) (.skip) (.exit 0))) (.seq (.block 1 (.seq (.reg [⟨some 14,.mov (.t 0),none⟩,⟨some 15,.mov (.t 6),none⟩,⟨some 16,.iaddr 1 (.t 14) (.t 15),none⟩,⟨some 17,.load 1 false (.t 16),none⟩,⟨some 18,.mov (.t 1),none⟩,⟨some 19,.bin .eql (.t 17) (.t 18),none⟩]) (.cond (.t 19) (.reg [⟨some 20,.mov (.t 5),none⟩,⟨some 21,.mov (.t 6),none⟩,⟨some 22,.bsl 3 1 1 (.int .i64 0) [(0,.t 21)],none⟩,⟨some 23,.append 3 1 8 (.t 20) (.t 22),none⟩,⟨some 5,.mov (.t 23),none⟩]) (.skip)))) (.reg [⟨some 12,.mov (.t 6),none⟩,⟨some 13,.bin .add (.t 12) (.k (.int .i64 1)),none⟩,⟨some 6,.mov (.t 13),none⟩])))))) (.seq (.reg [⟨some 24,.mov (.t 5),none⟩,⟨some 4,.mov (.t 24),none⟩]) (.ret))))⟩
theorem fok_spec_Positions : FOk Try.prog 95 code_spec_Positions := fok Try.func95 (by kernel_rfl)
def code_spec_l7Has : F := ⟨10,[.tmp 4],.seq (.reg [⟨some 4,.mov (.k (.bool false)),none⟩]) (.seq (.reg [⟨some 5,.mov (.t 0),none⟩,⟨some 6,.mov (.t 1),none⟩,⟨some 7,.call 95 [.t 5,.t 6],none⟩,⟨some 8,.len (.t 7),none⟩,⟨some 9,.bin .gtr (.t 8) (.k (.int .i64 0)),none⟩,⟨some 4,.mov (.t 9),none⟩]) (.ret))⟩
theorem fok_spec_l7Has : FOk Try.prog 50 code_spec_l7Has := fok Try.func50 (by kernel_rfl)
@[simp] def ct_sPositions : Ct := ⟨95, List Int × Int, fun x => x.1.length ≤ 1048576, fun x => [encL 1 encInt x.1, .int .i64 x.2], fun x => encL 1 encInt (pos x.1 x.2)⟩
theorem ok_sPositions : ct_sPositions.Ok Try.prog := by
  rintro ⟨xs, v⟩ hx
  change xs.length ≤ 1048576 at hx
  refine Ok.of_cw fok_spec_Positions (go_ok tab_nil ?_)
  simp [code_spec_Positions, List.replicate]
  refine cw_round (fun (p : Nat) => ⟨slots 25 [(0, encL 1 encInt xs), (1, .int .i64 v), (5, .slref 0 0 (posTo xs v p).length (posTo xs v p).length), (6, .int .i64 p)], [.row true 3 1 ((posTo xs v p).map encInt)]⟩)
    (fun p => p ≤ xs.length) (fun p => xs.length - p) 0 (by omega) ?_ ?_
  · refine weak_seal 1 (by omega) ?_ ?_
    · simp [posTo_zero]
    · simp [List.replicate, posTo_zero]
  · rintro N hN i hi
    have hw : IntKind.i64.wrap ((i : Int) + 1) = ((i + 1 : Nat) : Int) := by rw [wrap_i64] <;> omega
    refine go_ok tab_nil ?_
    have hp := posTo_len (xs := xs) (n := v) (k := i)
    have hb : ((posTo xs v i).length + 1) * 8 ≤ 140737488355328 := by omega
    by_cases h : i < xs.length
    · have h2 : ¬ xs.length ≤ i := by omega
      simp [List.replicate, hw, h, h2, hb, app1]
      refine ⟨fun e => ?_, fun e => ?_⟩
      · refine hN _ (i + 1) _ (by omega) (by omega) (weak_seal 1 (by omega) ?_ ?_)
        · simp [posTo_hit h e]
        · simp [List.replicate, posTo_hit h e]
      · refine hN _ (i + 1) _ (by omega) (by omega) (weak_seal 1 (by omega) ?_ ?_)
        · simp [posTo_miss h e]
        · simp [List.replicate, posTo_miss h e]
    · have e : i = xs.length := by omega
      subst e
      simp [List.replicate]
      rfl
@[simp] def ct_l7Has : Ct := ⟨50, List Int × Int, fun x => x.1.length ≤ 1048576, fun x => [encL 1 encInt x.1, .int .i64 x.2], fun x => .bool (decide (x.2 ∈ x.1))⟩
theorem ok_l7Has : ct_l7Has.Ok Try.prog := by
  rintro ⟨xs, v⟩ hx
  refine Ok.of_cw fok_spec_l7Has (go_ok (tab_cons ok_sPositions tab_nil) ?_)
  simp [code_spec_l7Has, List.replicate, pos_nil]
  exact hx
end Go.Vm
