/- NodeName. No condition. -/
import Derived.Test.YtfelkhckpfjgjaaTTR
import Derived.Test.YtfelkhckpfjgjaaTPA
import Derived.Test.YtfelkhckpfjgjaaTG
set_option linter.unusedSimpArgs false
set_option linter.unusedVariables false
namespace Go.Vm
open Go.Proofs
def code_spec_NodeName : F := ⟨30,[.tmp 4],.seq (.reg [⟨some 2,.box (.t 0),none⟩,⟨some 4,.mov (.k (.str [])),none⟩]) (.seq (.seq (.reg [⟨some 8,.mov (.t 1),none⟩,⟨some 9,.faddr 0 (.t 2),none⟩,⟨some 10,.load 1 false (.t 9),none⟩,⟨some 11,.len (.t 10),none⟩,⟨some 12,.bin .sub (.t 11) (.k (.int .i64 1)),none⟩,⟨some 13,.call 48 [.t 8,(.k (.int .i64 0)),.t 12],none⟩,⟨some 14,.not (.t 13),none⟩]) (.cond (.t 14) (.seq (.reg [⟨some 4,.mov (.k (.str [])),none⟩]) (.ret)) (.skip))) (.seq (.reg [⟨some 5,.mov (.k (.str [])),none⟩]) (.seq (.reg [⟨some 15,.load 2 true (.t 2),none⟩,⟨some 16,.call 123 [.t 15],none⟩,⟨some 6,.mov (.t 16),none⟩]) (.seq (.seq (.reg [⟨some 7,.mov (.k (.int .i64 0)),none⟩]) (.block 0 (.loop (.seq (.seq (.reg [⟨some 17,.mov (.t 7),none⟩,⟨some 18,.mov (.t 6),none⟩,⟨some 19,.bin .lss (.t 17) (.t 18),none⟩]) (.cond (.t 19) (.skip) (.exit 0))) (.seq (.block 1 (.reg [⟨some 22,.mov (.t 5),none⟩,⟨some 23,.load 2 true (.t 2),none⟩,⟨some 24,.mov (.t 7),none⟩,⟨some 25,.mov (.t 1),none⟩,⟨some 26,.call 125 [.t 23,.t 24,.t 25],none⟩,⟨some 27,.call 124 [.t 26],none⟩,⟨some 28,.bin .add (.t 22) (.t 27),none⟩,⟨some 5,.mov (.t 28),none⟩])) (.reg [⟨some 20,.mov (.t 7),none⟩,⟨some 21,.bin .add (.t 20) (.k (.int .i64 1)),none⟩,⟨some 7,.mov (.t 21),none⟩])))))) (.seq (.reg [⟨some 29,.mov (.t 5),none⟩,⟨some 4,.mov (.t 29),none⟩]) (.ret))))))⟩
theorem fok_spec_NodeName : FOk Try.prog 105 code_spec_NodeName := fok Try.func105 (by kernel_rfl)
def nameTo (x : Strc) (i : Int) (k : Nat) : List UInt8 := (List.range k).flatMap fun (j : Nat) => truthText (predAt x j i)
theorem nameTo_succ (x : Strc) (i : Int) (k : Nat) : nameTo x i (k + 1) = nameTo x i k ++ truthText (predAt x k i) := by
  simp [nameTo, List.range_succ, List.flatMap_append]
theorem nameTo_len (x : Strc) (i : Int) : ∀ k, (nameTo x i k).length ≤ k
  | 0 => by simp [nameTo]
  | k + 1 => by
    rw [nameTo_succ, List.length_append]
    have := nameTo_len x i k
    have := truthText_len (predAt x k i)
    omega
def nodeName (x : Strc) (i : Int) : List UInt8 := if 0 ≤ i ∧ i ≤ (x.nodes.length : Int) - 1 then nameTo x i (2 * nvars x + 1) else []
theorem cntP_eq {x : Strc} (h : szStrc x ≤ 1048576) (h0 : x.nodes ≠ []) : cntP x = ((2 * nvars x + 1 : Nat) : Int) := by
  have hn := nvars_le x
  unfold cntP
  rw [if_neg h0]
  rw [wrap_i64, wrap_i64] <;> (try rw [wrap_i64]) <;> omega
@[simp] def ct_sNodeName : Ct := ⟨105, Strc × Int, fun x => szStrc x.1 ≤ 1048576, fun x => [encStrc x.1, .int .i64 x.2], fun x => .str (nodeName x.1 x.2)⟩
set_option maxHeartbeats 1000000 in
theorem ok_sNodeName : ct_sNodeName.Ok Try.prog := by
  rintro ⟨x, i⟩ hx
  change szStrc x ≤ 1048576 at hx
  have hs := strc_le x
  have hn := nvars_le x
  have w0 : IntKind.i64.wrap ((x.nodes.length : Int) - 1) = (x.nodes.length : Int) - 1 := by rw [wrap_i64] <;> omega
  refine Ok.of_cw fok_spec_NodeName (go_ok (tab_cons ok_l1In (tab_cons ok_spec_Count tab_nil)) ?_)
  by_cases c : 0 ≤ i ∧ i ≤ (x.nodes.length : Int) - 1
  case neg =>
    simp [code_spec_NodeName, List.replicate, w0, nodeName, c]
    exact fun a b => absurd ⟨a, b⟩ c
  have hne : x.nodes ≠ [] := by intro e; rw [e] at c; simp at c; omega
  have hc := cntP_eq hx hne
  have h3 : ¬ ((x.nodes.length : Int) - 1 < i) := by omega
  simp [code_spec_NodeName, List.replicate, w0, nodeName, c.1, c.2, h3, hc]
  refine cw_round (fun (k : Nat) => ⟨slots 30 [(1, .int .i64 i), (2, .pbox 0 0), (5, .str (nameTo x i k)), (6, .int .i64 (2 * (nvars x : Int) + 1)), (7, .int .i64 k)], [.cells [encL 4 encNode x.nodes, encL 1 encInt x.next]]⟩)
    (fun k => k ≤ 2 * nvars x + 1) (fun k => 2 * nvars x + 1 - k) 0 (by omega) ?_ ?_
  · exact weak_seal 1 (by omega) (by simp) (by simp [List.replicate, nameTo])
  · rintro N hN k hk
    have hw : IntKind.i64.wrap ((k : Int) + 1) = ((k + 1 : Nat) : Int) := by rw [wrap_i64] <;> omega
    have hl := nameTo_len x i k
    have hl2 := truthText_len (predAt x k i)
    refine go_ok (tab_cons ok_spec_PredicateAt (tab_cons ok_sTruthText tab_nil)) ?_
    by_cases h : k < 2 * nvars x + 1
    · have h1 : (k : Int) < 2 * (nvars x : Int) + 1 := by omega
      have h2 : ¬ (2 * (nvars x : Int) + 1 ≤ k) := by omega
      simp [List.replicate, hw, h1, h2, hx]
      refine ⟨by omega, hN k (k + 1) _ (by omega) (by omega) (weak_seal 1 (by omega) ?_ ?_)⟩
      · simp
      · simp [List.replicate, nameTo_succ]
    · have e : k = 2 * nvars x + 1 := by omega
      subst e
      simp [List.replicate]
end Go.Vm
namespace Go.Vm
open Go.Proofs
def code_slices_Index_int_int : F := ⟨19,[.tmp 4],.seq (.reg [⟨some 4,.mov (.k (.int .i64 0)),none⟩]) (.seq (.seq (.reg [⟨some 6,.mov (.t 0),none⟩,⟨some 7,.len (.t 6),none⟩,⟨some 8,.mov (.k (.int .i64 0)),none⟩]) (.block 0 (.loop (.seq (.reg [⟨some 9,.bin .lss (.t 8) (.t 7),none⟩]) (.seq (.cond (.t 9) (.skip) (.exit 0)) (.seq (.block 1 (.seq (.reg [⟨some 10,.mov (.t 8),none⟩,⟨some 5,.mov (.t 10),none⟩]) (.seq (.reg [⟨some 11,.mov (.t 1),none⟩,⟨some 12,.mov (.t 0),none⟩,⟨some 13,.mov (.t 5),none⟩,⟨some 14,.iaddr 1 (.t 12) (.t 13),none⟩,⟨some 15,.load 1 false (.t 14),none⟩,⟨some 16,.bin .eql (.t 11) (.t 15),none⟩]) (.cond (.t 16) (.seq (.reg [⟨some 17,.mov (.t 5),none⟩,⟨some 4,.mov (.t 17),none⟩]) (.ret)) (.skip))))) (.reg [⟨some 18,.bin .add (.t 8) (.k (.int .i64 1)),none⟩,⟨some 8,.mov (.t 18),none⟩]))))))) (.seq (.reg [⟨some 4,.mov (.k (.int .i64 (-1))),none⟩]) (.ret)))⟩
theorem fok_slices_Index_int_int : FOk Try.prog 114 code_slices_Index_int_int := fok Try.func114 (by kernel_rfl)
def code_slices_Contains_int_int : F := ⟨9,[.tmp 4],.seq (.reg [⟨some 4,.mov (.k (.bool false)),none⟩]) (.seq (.reg [⟨some 5,.mov (.t 0),none⟩,⟨some 6,.mov (.t 1),none⟩,⟨some 7,.call 114 [.t 5,.t 6],none⟩,⟨some 8,.bin .geq (.t 7) (.k (.int .i64 0)),none⟩,⟨some 4,.mov (.t 8),none⟩]) (.ret))⟩
theorem fok_slices_Contains_int_int : FOk Try.prog 90 code_slices_Contains_int_int := fok Try.func90 (by kernel_rfl)
def code_spec_Positions : F := ⟨25,[.tmp 4],.seq (.reg [⟨some 4,.mov (.k (.sl .nil 0 [])),none⟩]) (.seq (.reg [⟨some 7,.bsl 3 1 0 (.int .i64 0) [],none⟩,⟨some 5,.mov (.t 7),none⟩]) (.seq (.seq (.reg [⟨some 6,.mov (.k (.int .i64 0)),none⟩]) (.block 0 (.loop (.seq (.seq (.reg [⟨some 8,.mov (.t 6),none⟩,⟨some 9,.mov (.t 0),none⟩,⟨some 10,.len (.t 9),none⟩,⟨some 11,.bin .lss (.t 8) (.t 10),none⟩]) (.cond (.t 11) (.skip) (.exit 0))) (.seq (.block 1 (.seq (.reg [⟨some 14,.mov (.t 0),none⟩,⟨some 15,.mov (.t 6),none⟩,⟨some 16,.iaddr 1 (.t 14) (.t 15),none⟩,⟨some 17,.load 1 false (.t 16),none⟩,⟨some 18,.mov (.t 1),none⟩,⟨some 19,.bin .eql (.t 17) (.t 18),none⟩]) (.cond (.t 19) (.reg [⟨some 20,.mov (.t 5),none⟩,⟨some 21,.mov (.t 6),none⟩,⟨some 22,.bsl 3 1 1 (.int .i64 0) [(0,.t 21)],none⟩,⟨some 23,.append 3 1 8 (.t 20) (.t 22),none⟩,⟨some 5,.mov (.t 23),none⟩]) (.skip)))) (.reg [⟨some 12,.mov (.t 6),none⟩,⟨some 13,.bin .add (.t 12) (.k (.int .i64 1)),none⟩,⟨some 6,.mov (.t 13),none⟩])))))) (.seq (.reg [⟨some 24,.mov (.t 5),none⟩,⟨some 4,.mov (.t 24),none⟩]) (.ret))))⟩
theorem fok_spec_Positions : FOk Try.prog 95 code_spec_Positions := fok Try.func95 (by kernel_rfl)
def code_spec_l7Has : F := ⟨10,[.tmp 4],.seq (.reg [⟨some 4,.mov (.k (.bool false)),none⟩]) (.seq (.reg [⟨some 5,.mov (.t 0),none⟩,⟨some 6,.mov (.t 1),none⟩,⟨some 7,.call 95 [.t 5,.t 6],none⟩,⟨some 8,.len (.t 7),none⟩,⟨some 9,.bin .gtr (.t 8) (.k (.int .i64 0)),none⟩,⟨some 4,.mov (.t 9),none⟩]) (.ret))⟩
theorem fok_spec_l7Has : FOk Try.prog 50 code_spec_l7Has := fok Try.func50 (by kernel_rfl)
@[simp] def ct_IndexI : Ct := ⟨114, List Int × Int, fun _ => True, fun x => [encL 1 encInt x.1, .int .i64 x.2], fun x => .int .i64 (findI (fun a => x.2 == a) x.1)⟩
theorem ok_IndexI : ct_IndexI.Ok Try.prog := by
  rintro ⟨xs, v⟩ -
  refine Ok.lens fun hl => Ok.of_cw fok_slices_Index_int_int (go_ok tab_nil ?_)
  simp [lensOkL_cons, lensOk_encL] at hl
  simp [code_slices_Index_int_int, List.replicate]
  refine cw_round (fun (p : Nat) => ⟨slots 19 [(0, encL 1 encInt xs), (1, .int .i64 v), (7, .int .i64 xs.length), (8, .int .i64 p)], []⟩)
    (fun p => p ≤ xs.length ∧ noHit (fun a => v == a) xs p) (fun p => xs.length - p) 0 ⟨by omega, noHit_zero⟩ ?_ ?_
  · exact weak_seal 0 (by omega) (by simp) (by simp [List.replicate])
  · rintro N hN i ⟨hi, hn⟩
    have hw : i < xs.length → IntKind.i64.wrap ((i : Int) + 1) = ((i + 1 : Nat) : Int) := fun h => by rw [wrap_i64] <;> omega
    refine go_ok tab_nil ?_
    by_cases h : i < xs.length
    · simp [List.replicate, hw, h]
      refine ⟨fun e => ?_, fun e => ?_⟩
      · rw [findI_hit hn h (by simp [e])]
      · refine hN _ (i + 1) _ ⟨by omega, noHit_succ hn h (by simp [e])⟩ (by omega) (weak_seal 0 (by omega) ?_ ?_)
        · simp
        · simp [List.replicate]
    · simp [List.replicate, h]
      rw [findI_none hn (by omega)]
@[simp] def ct_ContainsI : Ct := ⟨90, List Int × Int, fun _ => True, fun x => [encL 1 encInt x.1, .int .i64 x.2], fun x => .bool (decide (x.2 ∈ x.1))⟩
theorem ok_ContainsI : ct_ContainsI.Ok Try.prog := by
  rintro ⟨xs, v⟩ -
  refine Ok.of_cw fok_slices_Contains_int_int (go_ok (tab_cons ok_IndexI tab_nil) ?_)
  simp [code_slices_Contains_int_int, List.replicate, findI_any, any_beq]
@[simp] def ct_sPositions : Ct := ⟨95, List Int × Int, fun x => x.1.length ≤ 1048576, fun x => [encL 1 encInt x.1, .int .i64 x.2], fun x => encL 1 encInt (pos x.1 x.2)⟩
theorem ok_sPositions : ct_sPositions.Ok Try.prog := by
  rintro ⟨xs, v⟩ hx
  change xs.length ≤ 1048576 at hx
  refine Ok.of_cw fok_spec_Positions (go_ok tab_nil ?_)
  simp [code_spec_Positions, List.replicate]
  refine cw_round (fun (p : Nat) => ⟨slots 25 [(0, encL 1 encInt xs), (1, .int .i64 v), (5, .slref 0 0 (posTo xs v p).length (posTo xs v p).length), (6, .int .i64 p)], [.row true 3 1 ((posTo xs v p).map encInt)]⟩)
    (fun p => p ≤ xs.length) (fun p => xs.length - p) 0 (by omega) ?_ ?_
  · refine weak_seal 1 (by omega) ?_ ?_
    · simp [posTo_zero]
    · simp [List.replicate, posTo_zero]
  · rintro N hN i hi
    have hw : IntKind.i64.wrap ((i : Int) + 1) = ((i + 1 : Nat) : Int) := by rw [wrap_i64] <;> omega
    refine go_ok tab_nil ?_
    have hp := posTo_len (xs := xs) (n := v) (k := i)
    have hb : ((posTo xs v i).length + 1) * 8 ≤ 140737488355328 := by omega
    by_cases h : i < xs.length
    · have h2 : ¬ xs.length ≤ i := by omega
      simp [List.replicate, hw, h, h2, hb, app1]
      refine ⟨fun e => ?_, fun e => ?_⟩
      · refine hN _ (i + 1) _ (by omega) (by omega) (weak_seal 1 (by omega) ?_ ?_)
        · simp [posTo_hit h e]
        · simp [List.replicate, posTo_hit h e]
      · refine hN _ (i + 1) _ (by omega) (by omega) (weak_seal 1 (by omega) ?_ ?_)
        · simp [posTo_miss h e]
        · simp [List.replicate, posTo_miss h e]
    · have e : i = xs.length := by omega
      subst e
      simp [List.replicate]
      rfl
@[simp] def ct_l7Has : Ct := ⟨50, List Int × Int, fun x => x.1.length ≤ 1048576, fun x => [encL 1 encInt x.1, .int .i64 x.2], fun x => .bool (decide (x.2 ∈ x.1))⟩
theorem ok_l7Has : ct_l7Has.Ok Try.prog := by
  rintro ⟨xs, v⟩ hx
  refine Ok.of_cw fok_spec_l7Has (go_ok (tab_cons ok_sPositions tab_nil) ?_)
  simp [code_spec_l7Has, List.replicate, pos_nil]
  exact hx
end Go.Vm
