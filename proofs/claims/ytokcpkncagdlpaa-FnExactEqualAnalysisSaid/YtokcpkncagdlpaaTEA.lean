/- EqualAnalysis. No condition. -/
import Derived.Test.YtokcpkncagdlpaaTE2
set_option linter.unusedSimpArgs false
set_option linter.unusedVariables false
namespace Go.Vm
open Go.Proofs
def code_slices_Equal_impl_Alarm_impl_Alarm : F := ⟨26, [.tmp 4],
 .seq (.reg [⟨some 4, .mov (.k (.bool false)), none⟩])
 (.seq (.seq (.reg [⟨some 6, .mov (.t 0), none⟩,
      ⟨some 7, .len (.t 6), none⟩,
      ⟨some 8, .mov (.t 1), none⟩,
      ⟨some 9, .len (.t 8), none⟩,
      ⟨some 10, .bin .neq (.t 7) (.t 9), none⟩])
   (.cond (.t 10)
    (.seq (.reg [⟨some 4, .mov (.k (.bool false)), none⟩])
     (.ret))
    (.skip)))
  (.seq (.seq (.reg [⟨some 11, .mov (.t 0), none⟩,
       ⟨some 12, .len (.t 11), none⟩,
       ⟨some 13, .mov (.k (.int .i64 0)), none⟩])
    (.block 0 (.loop (.seq (.reg [⟨some 14, .bin .lss (.t 13) (.t 12), none⟩])
       (.seq (.cond (.t 14)
         (.skip)
         (.exit 0))
        (.seq (.block 1 (.seq (.reg [⟨some 15, .mov (.t 13), none⟩,
              ⟨some 5, .mov (.t 15), none⟩])
           (.seq (.dreg [false, false, false, false, false, false, false, false, true] [⟨some 16, .mov (.t 0), none⟩,
               ⟨some 17, .mov (.t 5), none⟩,
               ⟨some 18, .iaddr 2 (.t 16) (.t 17), none⟩,
               ⟨some 19, .load 2 true (.t 18), none⟩,
               ⟨some 20, .mov (.t 1), none⟩,
               ⟨some 21, .mov (.t 5), none⟩,
               ⟨some 22, .iaddr 2 (.t 20) (.t 21), none⟩,
               ⟨some 23, .load 2 true (.t 22), none⟩,
               ⟨some 24, .eqs true [true, true] (.t 19) (.t 23), none⟩])
            (.cond (.t 24)
             (.seq (.reg [⟨some 4, .mov (.k (.bool false)), none⟩])
              (.ret))
             (.skip)))))
         (.reg [⟨some 25, .bin .add (.t 13) (.k (.int .i64 1)), none⟩,
            ⟨some 13, .mov (.t 25), none⟩])))))))
   (.seq (.reg [⟨some 4, .mov (.k (.bool true)), none⟩])
    (.ret))))⟩
theorem fok_slices_Equal_impl_Alarm_impl_Alarm : FOk Try.prog 94 code_slices_Equal_impl_Alarm_impl_Alarm := fok Try.func94 (by kernel_rfl)
def code_slices_EqualFunc_SS_impl_Structure_SS_impl_Structure_impl_Structure_impl_Structure : F := ⟨32, [.tmp 6],
 .seq (.reg [⟨some 6, .mov (.k (.bool false)), none⟩])
 (.seq (.seq (.reg [⟨some 10, .mov (.t 0), none⟩,
      ⟨some 11, .len (.t 10), none⟩,
      ⟨some 12, .mov (.t 1), none⟩,
      ⟨some 13, .len (.t 12), none⟩,
      ⟨some 14, .bin .neq (.t 11) (.t 13), none⟩])
   (.cond (.t 14)
    (.seq (.reg [⟨some 6, .mov (.k (.bool false)), none⟩])
     (.ret))
    (.skip)))
  (.seq (.seq (.reg [⟨some 15, .mov (.t 0), none⟩,
       ⟨some 16, .len (.t 15), none⟩,
       ⟨some 17, .mov (.k (.int .i64 0)), none⟩])
    (.block 0 (.loop (.seq (.reg [⟨some 18, .bin .lss (.t 17) (.t 16), none⟩])
       (.seq (.cond (.t 18)
         (.skip)
         (.exit 0))
        (.seq (.block 1 (.seq (.reg [⟨some 19, .mov (.t 17), none⟩,
              ⟨some 20, .iaddr 1 (.t 15) (.t 17), none⟩,
              ⟨some 21, .load 1 false (.t 20), none⟩,
              ⟨some 7, .mov (.t 19), none⟩,
              ⟨some 8, .mov (.t 21), none⟩])
           (.seq (.reg [⟨some 22, .mov (.t 1), none⟩,
               ⟨some 23, .mov (.t 7), none⟩,
               ⟨some 24, .iaddr 1 (.t 22) (.t 23), none⟩,
               ⟨some 25, .load 1 false (.t 24), none⟩,
               ⟨some 9, .mov (.t 25), none⟩])
            (.seq (.reg [⟨some 26, .mov (.t 2), none⟩,
                ⟨some 27, .mov (.t 8), none⟩,
                ⟨some 28, .mov (.t 9), none⟩,
                ⟨some 29, .callv (.t 26) [(.t 27), (.t 28)], none⟩,
                ⟨some 30, .not (.t 29), none⟩])
             (.cond (.t 30)
              (.seq (.reg [⟨some 6, .mov (.k (.bool false)), none⟩])
               (.ret))
              (.skip))))))
         (.reg [⟨some 31, .bin .add (.t 17) (.k (.int .i64 1)), none⟩,
            ⟨some 17, .mov (.t 31), none⟩])))))))
   (.seq (.reg [⟨some 6, .mov (.k (.bool true)), none⟩])
    (.ret))))⟩
theorem fok_slices_EqualFunc_SS_impl_Structure_SS_impl_Structure_impl_Structure_impl_Structure : FOk Try.prog 93 code_slices_EqualFunc_SS_impl_Structure_SS_impl_Structure_impl_Structure_impl_Structure := fok Try.func93 (by kernel_rfl)
def code_spec_l23Same : F := ⟨27, [.tmp 4],
 .seq (.reg [⟨some 4, .mov (.k (.bool false)), none⟩])
 (.seq (.seq (.reg [⟨some 6, .mov (.t 0), none⟩,
      ⟨some 7, .len (.t 6), none⟩,
      ⟨some 8, .mov (.t 1), none⟩,
      ⟨some 9, .len (.t 8), none⟩,
      ⟨some 10, .bin .neq (.t 7) (.t 9), none⟩])
   (.cond (.t 10)
    (.seq (.reg [⟨some 4, .mov (.k (.bool false)), none⟩])
     (.ret))
    (.skip)))
  (.seq (.seq (.reg [⟨some 5, .mov (.k (.int .i64 0)), none⟩])
    (.block 0 (.loop (.seq (.seq (.reg [⟨some 11, .mov (.t 5), none⟩,
           ⟨some 12, .mov (.t 0), none⟩,
           ⟨some 13, .len (.t 12), none⟩,
           ⟨some 14, .bin .lss (.t 11) (.t 13), none⟩])
        (.cond (.t 14)
         (.skip)
         (.exit 0)))
       (.seq (.block 1 (.seq (.dreg [false, false, false, false, false, false, false, false, true, true] [⟨some 17, .mov (.t 0), none⟩,
             ⟨some 18, .mov (.t 5), none⟩,
             ⟨some 19, .iaddr 1 (.t 17) (.t 18), none⟩,
             ⟨some 20, .load 1 false (.t 19), none⟩,
             ⟨some 21, .mov (.t 1), none⟩,
             ⟨some 22, .mov (.t 5), none⟩,
             ⟨some 23, .iaddr 1 (.t 21) (.t 22), none⟩,
             ⟨some 24, .load 1 false (.t 23), none⟩,
             ⟨some 25, .call 13 [(.t 20), (.t 24)], none⟩,
             ⟨some 26, .not (.t 25), none⟩])
          (.cond (.t 26)
           (.seq (.reg [⟨some 4, .mov (.k (.bool false)), none⟩])
            (.ret))
           (.skip))))
        (.reg [⟨some 15, .mov (.t 5), none⟩,
           ⟨some 16, .bin .add (.t 15) (.k (.int .i64 1)), none⟩,
           ⟨some 5, .mov (.t 16), none⟩]))))))
   (.seq (.reg [⟨some 4, .mov (.k (.bool true)), none⟩])
    (.ret))))⟩
theorem fok_spec_l23Same : FOk Try.prog 92 code_spec_l23Same := fok Try.func92 (by kernel_rfl)
def code_spec_EqualAnalysis : F := ⟨46, [.tmp 4],
 .seq (.reg [⟨some 2, .box (.t 0), none⟩,
    ⟨some 3, .box (.t 1), none⟩,
    ⟨some 4, .mov (.k (.bool false)), none⟩])
 (.seq (.seq (.reg [⟨some 6, .faddr 0 (.t 2), none⟩,
      ⟨some 7, .load 1 false (.t 6), none⟩,
      ⟨some 8, .faddr 0 (.t 3), none⟩,
      ⟨some 9, .load 1 false (.t 8), none⟩,
      ⟨some 10, .call 92 [(.t 7), (.t 9)], none⟩,
      ⟨some 11, .not (.t 10), none⟩,
      ⟨some 12, .mov (.t 11), none⟩,
      ⟨some 13, .faddr 1 (.t 2), some (12, false)⟩,
      ⟨some 14, .load 1 false (.t 13), some (12, false)⟩,
      ⟨some 15, .len (.t 14), some (12, false)⟩,
      ⟨some 16, .faddr 1 (.t 3), some (12, false)⟩,
      ⟨some 17, .load 1 false (.t 16), some (12, false)⟩,
      ⟨some 18, .len (.t 17), some (12, false)⟩,
      ⟨some 19, .bin .neq (.t 15) (.t 18), some (12, false)⟩,
      ⟨some 20, .pick (.t 12) (.k (.bool true)) (.t 19), none⟩,
      ⟨some 21, .mov (.t 20), none⟩,
      ⟨some 22, .faddr 2 (.t 2), some (21, false)⟩,
      ⟨some 23, .load 1 false (.t 22), some (21, false)⟩,
      ⟨some 24, .faddr 2 (.t 3), some (21, false)⟩,
      ⟨some 25, .load 1 false (.t 24), some (21, false)⟩,
      ⟨some 26, .bin .neq (.t 23) (.t 25), some (21, false)⟩,
      ⟨some 27, .pick (.t 21) (.k (.bool true)) (.t 26), none⟩])
   (.cond (.t 27)
    (.seq (.reg [⟨some 4, .mov (.k (.bool false)), none⟩])
     (.ret))
    (.skip)))
  (.seq (.seq (.reg [⟨some 5, .mov (.k (.int .i64 0)), none⟩])
    (.block 0 (.loop (.seq (.seq (.reg [⟨some 28, .mov (.t 5), none⟩,
           ⟨some 29, .faddr 1 (.t 2), none⟩,
           ⟨some 30, .load 1 false (.t 29), none⟩,
           ⟨some 31, .len (.t 30), none⟩,
           ⟨some 32, .bin .lss (.t 28) (.t 31), none⟩])
        (.cond (.t 32)
         (.skip)
         (.exit 0)))
       (.seq (.block 1 (.seq (.dreg [false, false, false, false, false, false, false, false, false, false, true] [⟨some 35, .faddr 1 (.t 2), none⟩,
             ⟨some 36, .load 1 false (.t 35), none⟩,
             ⟨some 37, .mov (.t 5), none⟩,
             ⟨some 38, .iaddr 2 (.t 36) (.t 37), none⟩,
             ⟨some 39, .load 2 true (.t 38), none⟩,
             ⟨some 40, .faddr 1 (.t 3), none⟩,
             ⟨some 41, .load 1 false (.t 40), none⟩,
             ⟨some 42, .mov (.t 5), none⟩,
             ⟨some 43, .iaddr 2 (.t 41) (.t 42), none⟩,
             ⟨some 44, .load 2 true (.t 43), none⟩,
             ⟨some 45, .eqs true [true, true] (.t 39) (.t 44), none⟩])
          (.cond (.t 45)
           (.seq (.reg [⟨some 4, .mov (.k (.bool false)), none⟩])
            (.ret))
           (.skip))))
        (.reg [⟨some 33, .mov (.t 5), none⟩,
           ⟨some 34, .bin .add (.t 33) (.k (.int .i64 1)), none⟩,
           ⟨some 5, .mov (.t 34), none⟩]))))))
   (.seq (.reg [⟨some 4, .mov (.k (.bool true)), none⟩])
    (.ret))))⟩
theorem fok_spec_EqualAnalysis : FOk Try.prog 36 code_spec_EqualAnalysis := fok Try.func36 (by kernel_rfl)
def code_impl_EqualAnalysis : F := ⟨24, [.tmp 4],
 .seq (.reg [⟨some 2, .box (.t 0), none⟩,
    ⟨some 3, .box (.t 1), none⟩,
    ⟨some 4, .mov (.k (.bool false)), none⟩])
 (.seq (.reg [⟨some 5, .faddr 0 (.t 2), none⟩,
     ⟨some 6, .load 1 false (.t 5), none⟩,
     ⟨some 7, .faddr 0 (.t 3), none⟩,
     ⟨some 8, .load 1 false (.t 7), none⟩,
     ⟨some 9, .call 93 [(.t 6), (.t 8), (.k (.fn 15 []))], none⟩,
     ⟨some 10, .mov (.t 9), none⟩,
     ⟨some 11, .faddr 1 (.t 2), some (10, true)⟩,
     ⟨some 12, .load 1 false (.t 11), some (10, true)⟩,
     ⟨some 13, .faddr 1 (.t 3), some (10, true)⟩,
     ⟨some 14, .load 1 false (.t 13), some (10, true)⟩,
     ⟨some 15, .call 94 [(.t 12), (.t 14)], some (10, true)⟩,
     ⟨some 16, .pick (.t 10) (.t 15) (.k (.bool false)), none⟩,
     ⟨some 17, .mov (.t 16), none⟩,
     ⟨some 18, .faddr 2 (.t 2), some (17, true)⟩,
     ⟨some 19, .load 1 false (.t 18), some (17, true)⟩,
     ⟨some 20, .faddr 2 (.t 3), some (17, true)⟩,
     ⟨some 21, .load 1 false (.t 20), some (17, true)⟩,
     ⟨some 22, .bin .eql (.t 19) (.t 21), some (17, true)⟩,
     ⟨some 23, .pick (.t 17) (.t 22) (.k (.bool false)), none⟩,
     ⟨some 4, .mov (.t 23), none⟩])
  (.ret))⟩
theorem fok_impl_EqualAnalysis : FOk Try.prog 37 code_impl_EqualAnalysis := fok Try.func37 (by kernel_rfl)
theorem alarm_eq (x y : Alarm) : (x.edge = y.edge ∧ x.code = y.code) = (x = y) := by cases x; cases y; simp
@[simp] def ct_EqualA : Ct := ⟨94, List Alarm × List Alarm, fun _ => True, fun x => [encL 2 encAlarm x.1, encL 2 encAlarm x.2], fun x => .bool (decide (x.1 = x.2))⟩
theorem ok_EqualA : ct_EqualA.Ok Try.prog := by
  rintro ⟨xs, ys⟩ -
  refine Ok.lens fun hl => Ok.of_cw fok_slices_Equal_impl_Alarm_impl_Alarm (go_ok tab_nil ?_)
  have hl : lensOkL [encL 2 encAlarm xs, encL 2 encAlarm ys] := hl
  rw [lensOkL_cons, lensOk_encL] at hl
  have hl := hl.1.1
  simp [code_slices_Equal_impl_Alarm_impl_Alarm, List.replicate]
  refine ⟨fun h => ?_, fun h => ?_⟩
  · intro e; exact absurd (by rw [e]) h
  refine cw_round (fun (p : Nat) => ⟨slots 26 [(0, encL 2 encAlarm xs), (1, encL 2 encAlarm ys), (12, .int .i64 xs.length), (13, .int .i64 p)], []⟩)
    (fun p => p ≤ xs.length ∧ xs.take p = ys.take p) (fun p => xs.length - p) 0 ⟨by omega, by simp⟩ ?_ ?_
  · exact weak_seal 0 (by omega) (by simp) (by simp [List.replicate])
  · rintro N hN i ⟨hi, hn⟩
    have hw : i < xs.length → IntKind.i64.wrap ((i : Int) + 1) = ((i + 1 : Nat) : Int) := fun h => by rw [wrap_i64] <;> omega
    refine go_ok tab_nil ?_
    by_cases g : i < xs.length
    · have g' : i < ys.length := by omega
      by_cases e : xs[i] = ys[i]
      · simp [List.replicate, hw, g, g', e]
        refine hN _ (i + 1) _ ⟨by omega, ?_⟩ (by omega) (weak_seal 0 (by omega) ?_ ?_)
        · rw [List.take_succ_eq_append_getElem g, List.take_succ_eq_append_getElem g', hn, e]
        · simp
        · simp [List.replicate, e]
      · have e' : ¬ (xs[i].edge = ys[i].edge ∧ xs[i].code = ys[i].code) := by rw [alarm_eq]; exact e
        have e'' : (decide (xs[i].edge = ys[i].edge) && decide (xs[i].code = ys[i].code)) = false := by simpa using e'
        simp [List.replicate, hw, g, g', e'']
        refine .inl ⟨fun x y => e' ⟨x, y⟩, ?_⟩
        intro k; subst k; exact e rfl
    · simp [List.replicate, g]
      rw [List.take_of_length_le (by omega), List.take_of_length_le (by omega)] at hn
      exact hn
@[simp] def ct_EqualFuncSS : Ct := ⟨93, List (List Strc) × List (List Strc), fun _ => True, fun x => [encL 1 (encL 2 encStrc) x.1, encL 1 (encL 2 encStrc) x.2, .fn 15 []], fun x => .bool (decide (x.1 = x.2))⟩
theorem ok_EqualFuncSS : ct_EqualFuncSS.Ok Try.prog := by
  rintro ⟨xs, ys⟩ -
  have hc : callable Try.prog 15 = true := by kernel_rfl
  refine Ok.lens fun hl => Ok.of_cw fok_slices_EqualFunc_SS_impl_Structure_SS_impl_Structure_impl_Structure_impl_Structure (go_ok tab_nil ?_)
  have hl : lensOkL [encL 1 (encL 2 encStrc) xs, encL 1 (encL 2 encStrc) ys, .fn 15 []] := hl
  rw [lensOkL_cons, lensOk_encL] at hl
  have hl := hl.1.1
  simp [code_slices_EqualFunc_SS_impl_Structure_SS_impl_Structure_impl_Structure_impl_Structure, List.replicate]
  refine ⟨fun h => ?_, fun h => ?_⟩
  · intro e; exact absurd (by rw [e]) h
  refine cw_round (fun (p : Nat) => ⟨slots 32 [(0, encL 1 (encL 2 encStrc) xs), (1, encL 1 (encL 2 encStrc) ys), (2, .fn 15 []), (15, encL 1 (encL 2 encStrc) xs), (16, .int .i64 xs.length), (17, .int .i64 p)], []⟩)
    (fun p => p ≤ xs.length ∧ xs.take p = ys.take p) (fun p => xs.length - p) 0 ⟨by omega, by simp⟩ ?_ ?_
  · exact weak_seal 0 (by omega) (by simp) (by simp [List.replicate])
  · rintro N hN i ⟨hi, hn⟩
    have hw : i < xs.length → IntKind.i64.wrap ((i : Int) + 1) = ((i + 1 : Nat) : Int) := fun h => by rw [wrap_i64] <;> omega
    refine go_ok (tab_cons ok_impl_EqualSet tab_nil) ?_
    by_cases g : i < xs.length
    · have g' : i < ys.length := by omega
      by_cases e : xs[i] = ys[i]
      · simp [List.replicate, hw, g, g', hc, e]
        refine hN _ (i + 1) _ ⟨by omega, ?_⟩ (by omega) (weak_seal 0 (by omega) ?_ ?_)
        · rw [List.take_succ_eq_append_getElem g, List.take_succ_eq_append_getElem g', hn, e]
        · simp
        · simp [List.replicate, e]
      · simp [List.replicate, hw, g, g', hc, e]
        intro k; subst k; exact e rfl
    · simp [List.replicate, g]
      rw [List.take_of_length_le (by omega), List.take_of_length_le (by omega)] at hn
      exact hn
@[simp] def ct_l23Same : Ct := ⟨92, List (List Strc) × List (List Strc), fun _ => True, fun x => [encL 1 (encL 2 encStrc) x.1, encL 1 (encL 2 encStrc) x.2], fun x => .bool (decide (x.1 = x.2))⟩
theorem ok_l23Same : ct_l23Same.Ok Try.prog := by
  rintro ⟨xs, ys⟩ -
  refine Ok.lens fun hl => Ok.of_cw fok_spec_l23Same (go_ok tab_nil ?_)
  have hl : lensOkL [encL 1 (encL 2 encStrc) xs, encL 1 (encL 2 encStrc) ys] := hl
  rw [lensOkL_cons, lensOk_encL] at hl
  have hl := hl.1.1
  simp [code_spec_l23Same, List.replicate]
  refine ⟨fun h => by intro e; rw [e] at h; exact h rfl, fun hlen => ?_⟩
  refine cw_round (fun (i : Nat) => ⟨slots 27 [(0, encL 1 (encL 2 encStrc) xs), (1, encL 1 (encL 2 encStrc) ys), (5, .int .i64 i)], []⟩)
    (fun i => i ≤ xs.length ∧ xs.take i = ys.take i) (fun i => xs.length - i) 0 (by simp) ?_ ?_
  · exact weak_seal 0 (by omega) (by simp) (by simp [List.replicate])
  · rintro N hN i ⟨hi, ht⟩
    refine go_ok (tab_cons ok_spec_EqualSet tab_nil) ?_
    by_cases h : i < xs.length
    · have hw : IntKind.i64.wrap ((i : Int) + 1) = ((i + 1 : Nat) : Int) := by rw [wrap_i64] <;> omega
      have h2 : ¬ xs.length ≤ i := by omega
      have h3 : i < ys.length := by omega
      simp [List.replicate, hw, h, h2, h3]
      refine ⟨take_ne h h3, fun he => hN _ (i + 1) _ ⟨by omega, take_step h h3 ht he⟩ (by omega) (weak_seal 0 (by omega) ?_ ?_)⟩
      · simp
      · simp [List.replicate]
    · simp [List.replicate, h]
      exact ⟨by omega, fun k => take_done (by omega) k ht⟩
@[simp] def ct_pEqualAnalysis : Ct := ⟨37, Anal × Anal, fun _ => True, fun x => [encAnal x.1, encAnal x.2], fun x => .bool (decide (x.1 = x.2))⟩
theorem ok_pEqualAnalysis : ct_pEqualAnalysis.Ok Try.prog := by
  rintro ⟨⟨a, b, c⟩, ⟨a', b', c'⟩⟩ -
  refine Ok.of_cw fok_impl_EqualAnalysis (go_ok (tab_cons ok_EqualFuncSS (tab_cons ok_EqualA tab_nil)) ?_)
  simp [code_impl_EqualAnalysis, List.replicate]
  grind
@[simp] def ct_sEqualAnalysis : Ct := ⟨36, Anal × Anal, fun _ => True, fun x => [encAnal x.1, encAnal x.2], fun x => .bool (decide (x.1 = x.2))⟩
set_option maxHeartbeats 2000000 in
theorem ok_sEqualAnalysis : ct_sEqualAnalysis.Ok Try.prog := by
  rintro ⟨⟨a, b, c⟩, ⟨a', b', c'⟩⟩ -
  refine Ok.lens fun hl => Ok.of_cw fok_spec_EqualAnalysis (go_ok (tab_cons ok_l23Same tab_nil) ?_)
  have hl : lensOkL [encAnal ⟨a, b, c⟩, encAnal ⟨a', b', c'⟩] := hl
  simp [lensOkL_cons, lensOk_encL, encAnal_eq, lens_agg, lens_int, lens_nil] at hl
  by_cases e1 : a = a'
  case neg => simp [code_spec_EqualAnalysis, List.replicate, e1]
  by_cases e2 : b.length = b'.length
  case neg =>
    have e2' : ¬ (b.length : Int) = b'.length := by omega
    simp [code_spec_EqualAnalysis, List.replicate, e1, e2']
    intro e; exact absurd (by rw [e]) e2
  by_cases e3 : c = c'
  case neg => simp [code_spec_EqualAnalysis, List.replicate, e1, e2, e3]
  subst e1
  subst e3
  simp [code_spec_EqualAnalysis, List.replicate, e2]
  refine cw_round (fun (p : Nat) => ⟨slots 46 [(2, .pbox 0 0), (3, .pbox 1 0), (5, .int .i64 p)], [.cells [encL 1 (encL 2 encStrc) a, encL 2 encAlarm b, .int .i64 c], .cells [encL 1 (encL 2 encStrc) a, encL 2 encAlarm b', .int .i64 c]]⟩)
    (fun p => p ≤ b.length ∧ b.take p = b'.take p) (fun p => b.length - p) 0 ⟨by omega, by simp⟩ ?_ ?_
  · exact weak_seal 2 (by omega) (by simp) (by simp [List.replicate])
  · rintro N hN i ⟨hi, hn⟩
    refine go_ok tab_nil ?_
    by_cases g : i < b.length
    · have hw : IntKind.i64.wrap ((i : Int) + 1) = ((i + 1 : Nat) : Int) := by rw [wrap_i64] <;> omega
      have g' : i < b'.length := by omega
      have g2 : ¬ b.length ≤ i := by omega
      have g3 : ¬ b'.length ≤ i := by omega
      by_cases e : b[i] = b'[i]
      · simp [List.replicate, hw, g, g', g2, g3, e]
        refine hN i (i + 1) _ ⟨by omega, ?_⟩ (by omega) (weak_seal 2 (by omega) ?_ ?_)
        · rw [List.take_succ_eq_append_getElem g, List.take_succ_eq_append_getElem g', hn, e]
        · simp
        · simp [List.replicate, e]
      · have e'' : (decide (b[i].edge = b'[i].edge) && decide (b[i].code = b'[i].code)) = false := by
          have : ¬ (b[i].edge = b'[i].edge ∧ b[i].code = b'[i].code) := by rw [alarm_eq]; exact e
          simpa using this
        have e' : ¬ (b[i].edge = b'[i].edge ∧ b[i].code = b'[i].code) := by rw [alarm_eq]; exact e
        simp [List.replicate, hw, g, g', g2, g3, e'']
        refine .inl ⟨fun x y => e' ⟨x, y⟩, ?_⟩
        intro k; subst k; exact e rfl
    · have g2 : b.length ≤ i := by omega
      simp [List.replicate, g, g2]
      rw [List.take_of_length_le (by omega), List.take_of_length_le (by omega)] at hn
      exact hn
def code_laws_FnExactEqualAnalysis : F := ⟨45, [.tmp 4],
 .seq (.reg [⟨some 2, .box (.t 0), none⟩,
    ⟨some 3, .box (.t 1), none⟩,
    ⟨some 4, .mov (.k (.bool false)), none⟩])
 (.seq (.reg [⟨some 5, .mov (.k (.int .i64 1048576)), none⟩])
  (.seq (.reg [⟨some 10, .load 3 true (.t 2), none⟩,
      ⟨some 11, .mov (.t 5), none⟩,
      ⟨some 12, .call 31 [(.t 10), (.t 11)], none⟩,
      ⟨some 5, .mov (.t 12), none⟩])
   (.seq (.seq (.reg [⟨some 13, .mov (.t 5), none⟩,
        ⟨some 14, .bin .lss (.t 13) (.k (.int .i64 0)), none⟩])
     (.cond (.t 14)
      (.seq (.reg [⟨some 4, .mov (.k (.bool true)), none⟩])
       (.ret))
      (.skip)))
    (.seq (.reg [⟨some 15, .load 3 true (.t 3), none⟩,
        ⟨some 16, .mov (.t 5), none⟩,
        ⟨some 17, .call 31 [(.t 15), (.t 16)], none⟩,
        ⟨some 5, .mov (.t 17), none⟩])
     (.seq (.seq (.reg [⟨some 18, .mov (.t 5), none⟩,
          ⟨some 19, .bin .lss (.t 18) (.k (.int .i64 0)), none⟩])
       (.cond (.t 19)
        (.seq (.reg [⟨some 4, .mov (.k (.bool true)), none⟩])
         (.ret))
        (.skip)))
      (.seq (.dreg [false, false, false, true, true, true] [⟨some 20, .load 3 true (.t 2), none⟩,
          ⟨some 21, .call 33 [(.t 20)], none⟩,
          ⟨some 22, .load 3 true (.t 3), none⟩,
          ⟨some 23, .call 33 [(.t 22)], none⟩,
          ⟨some 24, .call 36 [(.t 21), (.t 23)], none⟩,
          ⟨some 6, .mov (.t 24), none⟩])
       (.seq (.reg [⟨some 25, .load 3 true (.t 2), none⟩,
           ⟨some 26, .call 33 [(.t 25)], none⟩,
           ⟨some 7, .alloc [(.sl .nil 0 []), (.sl .nil 0 []), (.int .i64 0)], none⟩,
           ⟨none, .store 3 (.t 7) (.t 26), none⟩])
        (.seq (.reg [⟨some 27, .load 3 true (.t 3), none⟩,
            ⟨some 28, .call 33 [(.t 27)], none⟩,
            ⟨some 8, .alloc [(.sl .nil 0 []), (.sl .nil 0 []), (.int .i64 0)], none⟩,
            ⟨none, .store 3 (.t 8) (.t 28), none⟩])
         (.seq (.reg [⟨some 29, .load 3 true (.t 7), none⟩,
             ⟨some 30, .load 3 true (.t 8), none⟩,
             ⟨some 31, .call 37 [(.t 29), (.t 30)], none⟩,
             ⟨some 9, .mov (.t 31), none⟩])
          (.seq (.seq (.reg [⟨some 32, .mov (.t 9), none⟩,
               ⟨some 33, .mov (.t 6), none⟩,
               ⟨some 34, .beq true (.t 32) (.t 33), none⟩])
            (.cond (.t 34)
             (.seq (.reg [⟨some 4, .mov (.k (.bool false)), none⟩])
              (.ret))
             (.skip)))
           (.seq (.seq (.dreg [false, false, false, true, true] [⟨some 35, .load 3 true (.t 7), none⟩,
                ⟨some 36, .load 3 true (.t 2), none⟩,
                ⟨some 37, .call 33 [(.t 36)], none⟩,
                ⟨some 38, .call 35 [(.t 35), (.t 37)], none⟩,
                ⟨some 39, .not (.t 38), none⟩])
             (.cond (.t 39)
              (.seq (.reg [⟨some 4, .mov (.k (.bool false)), none⟩])
               (.ret))
              (.skip)))
            (.seq (.seq (.dreg [false, false, false, true, true] [⟨some 40, .load 3 true (.t 8), none⟩,
                 ⟨some 41, .load 3 true (.t 3), none⟩,
                 ⟨some 42, .call 33 [(.t 41)], none⟩,
                 ⟨some 43, .call 35 [(.t 40), (.t 42)], none⟩,
                 ⟨some 44, .not (.t 43), none⟩])
              (.cond (.t 44)
               (.seq (.reg [⟨some 4, .mov (.k (.bool false)), none⟩])
                (.ret))
               (.skip)))
             (.seq (.reg [⟨some 4, .mov (.k (.bool true)), none⟩])
              (.ret))))))))))))))⟩
theorem fok_laws_FnExactEqualAnalysis : FOk Try.prog 8 code_laws_FnExactEqualAnalysis := fok Try.func8 (by kernel_rfl)
set_option maxHeartbeats 2000000 in
set_option maxRecDepth 100000 in
theorem ok_lawEqualAnalysis (x y : Anal) : Ok Try.prog 8 [encAnal x, encAnal y] (.bool true) := by
  by_cases h1 : (szAnal x : Int) ≤ 1048576
  case neg =>
    refine Ok.of_cw fok_laws_FnExactEqualAnalysis (go_ok (tab_cons ok_szAnal tab_nil) ?_)
    simp [code_laws_FnExactEqualAnalysis, List.replicate, left_neg (by omega : (1048576:Int) < szAnal x)]
  have l1 := left_ge h1
  by_cases h2 : (szAnal y : Int) ≤ 1048576 - szAnal x
  case neg =>
    refine Ok.of_cw fok_laws_FnExactEqualAnalysis (go_ok (tab_cons ok_szAnal tab_nil) ?_)
    simp [code_laws_FnExactEqualAnalysis, List.replicate, l1, left_neg (by omega : (1048576:Int) - szAnal x < szAnal y)]
    omega
  have l2 := left_ge h2
  refine Ok.of_cw fok_laws_FnExactEqualAnalysis (go_ok (tab_cons ok_szAnal (tab_cons ok_toAnal (tab_cons ok_sEqualAnalysis (tab_cons ok_pEqualAnalysis (tab_cons ok_eqAnal tab_nil))))) ?_)
  simp [code_laws_FnExactEqualAnalysis, List.replicate, l1, l2]
  omega
end Go.Vm
