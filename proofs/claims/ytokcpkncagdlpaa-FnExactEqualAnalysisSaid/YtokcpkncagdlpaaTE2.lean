/- EqualSet, IsQuiet and EqualAnalysis. No condition. -/
import Derived.Test.YtokcpkncagdlpaaTEQ
import Derived.Test.YtokcpkncagdlpaaTL2
set_option linter.unusedSimpArgs false
set_option linter.unusedVariables false
namespace Go.Vm
open Go.Proofs
def code_spec_EqualSet : F := ⟨27, [.tmp 4],
 .seq (.reg [⟨some 4, .mov (.k (.bool false)), none⟩])
 (.seq (.seq (.reg [⟨some 6, .mov (.t 0), none⟩,
      ⟨some 7, .len (.t 6), none⟩,
      ⟨some 8, .mov (.t 1), none⟩,
      ⟨some 9, .len (.t 8), none⟩,
      ⟨some 10, .bin .neq (.t 7) (.t 9), none⟩])
   (.cond (.t 10)
    (.seq (.reg [⟨some 4, .mov (.k (.bool false)), none⟩])
     (.ret))
    (.skip)))
  (.seq (.seq (.reg [⟨some 5, .mov (.k (.int .i64 0)), none⟩])
    (.block 0 (.loop (.seq (.seq (.reg [⟨some 11, .mov (.t 5), none⟩,
           ⟨some 12, .mov (.t 0), none⟩,
           ⟨some 13, .len (.t 12), none⟩,
           ⟨some 14, .bin .lss (.t 11) (.t 13), none⟩])
        (.cond (.t 14)
         (.skip)
         (.exit 0)))
       (.seq (.block 1 (.seq (.dreg [false, false, false, false, false, false, false, false, true, true] [⟨some 17, .mov (.t 0), none⟩,
             ⟨some 18, .mov (.t 5), none⟩,
             ⟨some 19, .iaddr 2 (.t 17) (.t 18), none⟩,
             ⟨some 20, .load 2 true (.t 19), none⟩,
             ⟨some 21, .mov (.t 1), none⟩,
             ⟨some 22, .mov (.t 5), none⟩,
             ⟨some 23, .iaddr 2 (.t 21) (.t 22), none⟩,
             ⟨some 24, .load 2 true (.t 23), none⟩,
             ⟨some 25, .call 57 [(.t 20), (.t 24)], none⟩,
             ⟨some 26, .not (.t 25), none⟩])
          (.cond (.t 26)
           (.seq (.reg [⟨some 4, .mov (.k (.bool false)), none⟩])
            (.ret))
           (.skip))))
        (.reg [⟨some 15, .mov (.t 5), none⟩,
           ⟨some 16, .bin .add (.t 15) (.k (.int .i64 1)), none⟩,
           ⟨some 5, .mov (.t 16), none⟩]))))))
   (.seq (.reg [⟨some 4, .mov (.k (.bool true)), none⟩])
    (.ret))))⟩
theorem fok_spec_EqualSet : FOk Try.prog 13 code_spec_EqualSet := fok Try.func13 (by kernel_rfl)
def code_slices_EqualFunc_impl_Structure_impl_Structure_impl_Structure_impl_Structure : F := ⟨32, [.tmp 6],
 .seq (.reg [⟨some 6, .mov (.k (.bool false)), none⟩])
 (.seq (.seq (.reg [⟨some 10, .mov (.t 0), none⟩,
      ⟨some 11, .len (.t 10), none⟩,
      ⟨some 12, .mov (.t 1), none⟩,
      ⟨some 13, .len (.t 12), none⟩,
      ⟨some 14, .bin .neq (.t 11) (.t 13), none⟩])
   (.cond (.t 14)
    (.seq (.reg [⟨some 6, .mov (.k (.bool false)), none⟩])
     (.ret))
    (.skip)))
  (.seq (.seq (.reg [⟨some 15, .mov (.t 0), none⟩,
       ⟨some 16, .len (.t 15), none⟩,
       ⟨some 17, .mov (.k (.int .i64 0)), none⟩])
    (.block 0 (.loop (.seq (.reg [⟨some 18, .bin .lss (.t 17) (.t 16), none⟩])
       (.seq (.cond (.t 18)
         (.skip)
         (.exit 0))
        (.seq (.block 1 (.seq (.reg [⟨some 19, .mov (.t 17), none⟩,
              ⟨some 20, .iaddr 2 (.t 15) (.t 17), none⟩,
              ⟨some 21, .load 2 true (.t 20), none⟩,
              ⟨some 8, .alloc [(.sl .nil 0 []), (.sl .nil 0 [])], none⟩,
              ⟨some 7, .mov (.t 19), none⟩,
              ⟨none, .store 2 (.t 8) (.t 21), none⟩])
           (.seq (.reg [⟨some 22, .mov (.t 1), none⟩,
               ⟨some 23, .mov (.t 7), none⟩,
               ⟨some 24, .iaddr 2 (.t 22) (.t 23), none⟩,
               ⟨some 25, .load 2 true (.t 24), none⟩,
               ⟨some 9, .alloc [(.sl .nil 0 []), (.sl .nil 0 [])], none⟩,
               ⟨none, .store 2 (.t 9) (.t 25), none⟩])
            (.seq (.reg [⟨some 26, .mov (.t 2), none⟩,
                ⟨some 27, .load 2 true (.t 8), none⟩,
                ⟨some 28, .load 2 true (.t 9), none⟩,
                ⟨some 29, .callv (.t 26) [(.t 27), (.t 28)], none⟩,
                ⟨some 30, .not (.t 29), none⟩])
             (.cond (.t 30)
              (.seq (.reg [⟨some 6, .mov (.k (.bool false)), none⟩])
               (.ret))
              (.skip))))))
         (.reg [⟨some 31, .bin .add (.t 17) (.k (.int .i64 1)), none⟩,
            ⟨some 17, .mov (.t 31), none⟩])))))))
   (.seq (.reg [⟨some 6, .mov (.k (.bool true)), none⟩])
    (.ret))))⟩
theorem fok_slices_EqualFunc_impl_Structure_impl_Structure_impl_Structure_impl_Structure : FOk Try.prog 58 code_slices_EqualFunc_impl_Structure_impl_Structure_impl_Structure_impl_Structure := fok Try.func58 (by kernel_rfl)
def code_impl_EqualSet : F := ⟨8, [.tmp 4],
 .seq (.reg [⟨some 4, .mov (.k (.bool false)), none⟩])
 (.seq (.reg [⟨some 5, .mov (.t 0), none⟩,
     ⟨some 6, .mov (.t 1), none⟩,
     ⟨some 7, .call 58 [(.t 5), (.t 6), (.k (.fn 59 []))], none⟩,
     ⟨some 4, .mov (.t 7), none⟩])
  (.ret))⟩
theorem fok_impl_EqualSet : FOk Try.prog 15 code_impl_EqualSet := fok Try.func15 (by kernel_rfl)
@[simp] def ct_spec_EqualSet : Ct := ⟨13, List Strc × List Strc, fun _ => True, fun x => [encL 2 encStrc x.1, encL 2 encStrc x.2], fun x => .bool (decide (x.1 = x.2))⟩
theorem ok_spec_EqualSet : ct_spec_EqualSet.Ok Try.prog := by
  rintro ⟨xs, ys⟩ -
  refine Ok.lens fun hl => Ok.of_cw fok_spec_EqualSet (go_ok tab_nil ?_)
  have hl : lensOkL [encL 2 encStrc xs, encL 2 encStrc ys] := hl
  rw [lensOkL_cons, lensOk_encL] at hl
  have hl := hl.1.1
  simp [code_spec_EqualSet, List.replicate]
  refine ⟨fun h => by intro e; rw [e] at h; exact h rfl, fun hlen => ?_⟩
  refine cw_round (fun (i : Nat) => ⟨slots 27 [(0, encL 2 encStrc xs), (1, encL 2 encStrc ys), (5, .int .i64 i)], []⟩)
    (fun i => i ≤ xs.length ∧ xs.take i = ys.take i) (fun i => xs.length - i) 0 (by simp) ?_ ?_
  · exact weak_seal 0 (by omega) (by simp) (by simp [List.replicate])
  · rintro N hN i ⟨hi, ht⟩
    refine go_ok (tab_cons ok_spec_EqualStructure tab_nil) ?_
    by_cases h : i < xs.length
    · have hw : IntKind.i64.wrap ((i : Int) + 1) = ((i + 1 : Nat) : Int) := by rw [wrap_i64] <;> omega
      have h2 : ¬ xs.length ≤ i := by omega
      have h3 : i < ys.length := by omega
      simp [List.replicate, hw, h, h2, h3]
      refine ⟨take_ne h h3, fun he => hN _ (i + 1) _ ⟨by omega, take_step h h3 ht he⟩ (by omega) (weak_seal 0 (by omega) ?_ ?_)⟩
      · simp
      · simp [List.replicate]
    · simp [List.replicate, h]
      exact ⟨by omega, fun k => take_done (by omega) k ht⟩
@[simp] def ct_EqualFuncS : Ct := ⟨58, List Strc × List Strc, fun _ => True, fun x => [encL 2 encStrc x.1, encL 2 encStrc x.2, .fn 59 []], fun x => .bool (decide (x.1 = x.2))⟩
theorem ok_EqualFuncS : ct_EqualFuncS.Ok Try.prog := by
  rintro ⟨xs, ys⟩ -
  have hc : callable Try.prog 59 = true := by kernel_rfl
  refine Ok.lens fun hl => Ok.of_cw fok_slices_EqualFunc_impl_Structure_impl_Structure_impl_Structure_impl_Structure (go_ok tab_nil ?_)
  have hl : lensOkL [encL 2 encStrc xs, encL 2 encStrc ys, .fn 59 []] := hl
  rw [lensOkL_cons, lensOk_encL] at hl
  have hl := hl.1.1
  simp [code_slices_EqualFunc_impl_Structure_impl_Structure_impl_Structure_impl_Structure, List.replicate]
  refine ⟨fun h => ?_, fun h => ?_⟩
  · intro e; exact absurd (by rw [e]) h
  refine cw_round (fun (p : Nat) => ⟨slots 32 [(0, encL 2 encStrc xs), (1, encL 2 encStrc ys), (2, .fn 59 []), (15, encL 2 encStrc xs), (16, .int .i64 xs.length), (17, .int .i64 p)], []⟩)
    (fun p => p ≤ xs.length ∧ xs.take p = ys.take p) (fun p => xs.length - p) 0 ⟨by omega, by simp⟩ ?_ ?_
  · exact weak_seal 0 (by omega) (by simp) (by simp [List.replicate])
  · rintro N hN i ⟨hi, hn⟩
    have hw : i < xs.length → IntKind.i64.wrap ((i : Int) + 1) = ((i + 1 : Nat) : Int) := fun h => by rw [wrap_i64] <;> omega
    refine go_ok (tab_cons ok_impl_EqualStructure tab_nil) ?_
    by_cases g : i < xs.length
    · have g' : i < ys.length := by omega
      by_cases e : xs[i] = ys[i]
      · simp [List.replicate, hw, g, g', hc, e]
        refine hN _ (i + 1) _ ⟨by omega, ?_⟩ (by omega) (weak_seal 0 (by omega) ?_ ?_)
        · rw [List.take_succ_eq_append_getElem g, List.take_succ_eq_append_getElem g', hn, e]
        · simp
        · simp [List.replicate, e]
      · simp [List.replicate, hw, g, g', hc, e]
        intro k; subst k; exact e rfl
    · simp [List.replicate, g]
      rw [List.take_of_length_le (by omega), List.take_of_length_le (by omega)] at hn
      exact hn
@[simp] def ct_impl_EqualSet : Ct := ⟨15, List Strc × List Strc, fun _ => True, fun x => [encL 2 encStrc x.1, encL 2 encStrc x.2], fun x => .bool (decide (x.1 = x.2))⟩
theorem ok_impl_EqualSet : ct_impl_EqualSet.Ok Try.prog := by
  rintro ⟨xs, ys⟩ -
  refine Ok.of_cw fok_impl_EqualSet (go_ok (tab_cons ok_EqualFuncS tab_nil) ?_)
  simp [code_impl_EqualSet, List.replicate]
def code_laws_FnExactEqualSet : F := ⟨45, [.tmp 4],
 .seq (.reg [⟨some 4, .mov (.k (.bool false)), none⟩])
 (.seq (.reg [⟨some 5, .mov (.k (.int .i64 1048576)), none⟩])
  (.seq (.reg [⟨some 10, .mov (.t 0), none⟩,
      ⟨some 11, .mov (.t 5), none⟩,
      ⟨some 12, .call 12 [(.t 10), (.t 11)], none⟩,
      ⟨some 5, .mov (.t 12), none⟩])
   (.seq (.seq (.reg [⟨some 13, .mov (.t 5), none⟩,
        ⟨some 14, .bin .lss (.t 13) (.k (.int .i64 0)), none⟩])
     (.cond (.t 14)
      (.seq (.reg [⟨some 4, .mov (.k (.bool true)), none⟩])
       (.ret))
      (.skip)))
    (.seq (.reg [⟨some 15, .mov (.t 1), none⟩,
        ⟨some 16, .mov (.t 5), none⟩,
        ⟨some 17, .call 12 [(.t 15), (.t 16)], none⟩,
        ⟨some 5, .mov (.t 17), none⟩])
     (.seq (.seq (.reg [⟨some 18, .mov (.t 5), none⟩,
          ⟨some 19, .bin .lss (.t 18) (.k (.int .i64 0)), none⟩])
       (.cond (.t 19)
        (.seq (.reg [⟨some 4, .mov (.k (.bool true)), none⟩])
         (.ret))
        (.skip)))
      (.seq (.reg [⟨some 20, .mov (.t 0), none⟩,
          ⟨some 21, .call 14 [(.t 20)], none⟩,
          ⟨some 22, .mov (.t 1), none⟩,
          ⟨some 23, .call 14 [(.t 22)], none⟩,
          ⟨some 24, .call 13 [(.t 21), (.t 23)], none⟩,
          ⟨some 6, .mov (.t 24), none⟩])
       (.seq (.reg [⟨some 25, .mov (.t 0), none⟩,
           ⟨some 26, .call 14 [(.t 25)], none⟩,
           ⟨some 7, .mov (.t 26), none⟩])
        (.seq (.reg [⟨some 27, .mov (.t 1), none⟩,
            ⟨some 28, .call 14 [(.t 27)], none⟩,
            ⟨some 8, .mov (.t 28), none⟩])
         (.seq (.reg [⟨some 29, .mov (.t 7), none⟩,
             ⟨some 30, .mov (.t 8), none⟩,
             ⟨some 31, .call 15 [(.t 29), (.t 30)], none⟩,
             ⟨some 9, .mov (.t 31), none⟩])
          (.seq (.seq (.reg [⟨some 32, .mov (.t 9), none⟩,
               ⟨some 33, .mov (.t 6), none⟩,
               ⟨some 34, .beq true (.t 32) (.t 33), none⟩])
            (.cond (.t 34)
             (.seq (.reg [⟨some 4, .mov (.k (.bool false)), none⟩])
              (.ret))
             (.skip)))
           (.seq (.seq (.reg [⟨some 35, .mov (.t 7), none⟩,
                ⟨some 36, .mov (.t 0), none⟩,
                ⟨some 37, .call 14 [(.t 36)], none⟩,
                ⟨some 38, .call 16 [(.t 35), (.t 37)], none⟩,
                ⟨some 39, .not (.t 38), none⟩])
             (.cond (.t 39)
              (.seq (.reg [⟨some 4, .mov (.k (.bool false)), none⟩])
               (.ret))
              (.skip)))
            (.seq (.seq (.reg [⟨some 40, .mov (.t 8), none⟩,
                 ⟨some 41, .mov (.t 1), none⟩,
                 ⟨some 42, .call 14 [(.t 41)], none⟩,
                 ⟨some 43, .call 16 [(.t 40), (.t 42)], none⟩,
                 ⟨some 44, .not (.t 43), none⟩])
              (.cond (.t 44)
               (.seq (.reg [⟨some 4, .mov (.k (.bool false)), none⟩])
                (.ret))
               (.skip)))
             (.seq (.reg [⟨some 4, .mov (.k (.bool true)), none⟩])
              (.ret))))))))))))))⟩
theorem fok_laws_FnExactEqualSet : FOk Try.prog 3 code_laws_FnExactEqualSet := fok Try.func3 (by kernel_rfl)
set_option maxHeartbeats 1000000 in
set_option maxRecDepth 100000 in
theorem ok_lawEqualSet (x y : List Strc) : Ok Try.prog 3 [encL 2 encStrc x, encL 2 encStrc y] (.bool true) := by
  by_cases h1 : (szStrcs x : Int) ≤ 1048576
  case neg =>
    refine Ok.of_cw fok_laws_FnExactEqualSet (go_ok (tab_cons ok_szStrcs tab_nil) ?_)
    simp [code_laws_FnExactEqualSet, List.replicate, left_neg (by omega : (1048576:Int) < szStrcs x)]
  have l1 := left_ge h1
  by_cases h2 : (szStrcs y : Int) ≤ 1048576 - szStrcs x
  case neg =>
    refine Ok.of_cw fok_laws_FnExactEqualSet (go_ok (tab_cons ok_szStrcs tab_nil) ?_)
    simp [code_laws_FnExactEqualSet, List.replicate, l1, left_neg (by omega : (1048576:Int) - szStrcs x < szStrcs y)]
    omega
  have l2 := left_ge h2
  refine Ok.of_cw fok_laws_FnExactEqualSet (go_ok (tab_cons ok_szStrcs (tab_cons ok_toStrcs (tab_cons ok_spec_EqualSet (tab_cons ok_impl_EqualSet (tab_cons ok_eqStrcs tab_nil))))) ?_)
  simp [code_laws_FnExactEqualSet, List.replicate, l1, l2]
  omega
def code_spec_IsQuiet : F := ⟨7, [.tmp 2],
 .seq (.reg [⟨some 1, .box (.t 0), none⟩,
    ⟨some 2, .mov (.k (.bool false)), none⟩])
 (.seq (.reg [⟨some 3, .faddr 1 (.t 1), none⟩,
     ⟨some 4, .load 1 false (.t 3), none⟩,
     ⟨some 5, .len (.t 4), none⟩,
     ⟨some 6, .bin .eql (.t 5) (.k (.int .i64 0)), none⟩,
     ⟨some 2, .mov (.t 6), none⟩])
  (.ret))⟩
theorem fok_spec_IsQuiet : FOk Try.prog 32 code_spec_IsQuiet := fok Try.func32 (by kernel_rfl)
def code_impl_IsQuiet : F := ⟨7, [.tmp 2],
 .seq (.reg [⟨some 1, .box (.t 0), none⟩,
    ⟨some 2, .mov (.k (.bool false)), none⟩])
 (.seq (.reg [⟨some 3, .faddr 1 (.t 1), none⟩,
     ⟨some 4, .load 1 false (.t 3), none⟩,
     ⟨some 5, .len (.t 4), none⟩,
     ⟨some 6, .bin .eql (.t 5) (.k (.int .i64 0)), none⟩,
     ⟨some 2, .mov (.t 6), none⟩])
  (.ret))⟩
theorem fok_impl_IsQuiet : FOk Try.prog 34 code_impl_IsQuiet := fok Try.func34 (by kernel_rfl)
def code_laws_FnExactIsQuiet : F := ⟨27, [.tmp 2],
 .seq (.reg [⟨some 1, .box (.t 0), none⟩,
    ⟨some 2, .mov (.k (.bool false)), none⟩])
 (.seq (.reg [⟨some 3, .mov (.k (.int .i64 1048576)), none⟩])
  (.seq (.reg [⟨some 7, .load 3 true (.t 1), none⟩,
      ⟨some 8, .mov (.t 3), none⟩,
      ⟨some 9, .call 31 [(.t 7), (.t 8)], none⟩,
      ⟨some 3, .mov (.t 9), none⟩])
   (.seq (.seq (.reg [⟨some 10, .mov (.t 3), none⟩,
        ⟨some 11, .bin .lss (.t 10) (.k (.int .i64 0)), none⟩])
     (.cond (.t 11)
      (.seq (.reg [⟨some 2, .mov (.k (.bool true)), none⟩])
       (.ret))
      (.skip)))
    (.seq (.reg [⟨some 12, .load 3 true (.t 1), none⟩,
        ⟨some 13, .call 33 [(.t 12)], none⟩,
        ⟨some 14, .call 32 [(.t 13)], none⟩,
        ⟨some 4, .mov (.t 14), none⟩])
     (.seq (.reg [⟨some 15, .load 3 true (.t 1), none⟩,
         ⟨some 16, .call 33 [(.t 15)], none⟩,
         ⟨some 5, .alloc [(.sl .nil 0 []), (.sl .nil 0 []), (.int .i64 0)], none⟩,
         ⟨none, .store 3 (.t 5) (.t 16), none⟩])
      (.seq (.reg [⟨some 17, .load 3 true (.t 5), none⟩,
          ⟨some 18, .call 34 [(.t 17)], none⟩,
          ⟨some 6, .mov (.t 18), none⟩])
       (.seq (.seq (.reg [⟨some 19, .mov (.t 6), none⟩,
            ⟨some 20, .mov (.t 4), none⟩,
            ⟨some 21, .beq true (.t 19) (.t 20), none⟩])
         (.cond (.t 21)
          (.seq (.reg [⟨some 2, .mov (.k (.bool false)), none⟩])
           (.ret))
          (.skip)))
        (.seq (.seq (.dreg [false, false, false, true, true] [⟨some 22, .load 3 true (.t 5), none⟩,
             ⟨some 23, .load 3 true (.t 1), none⟩,
             ⟨some 24, .call 33 [(.t 23)], none⟩,
             ⟨some 25, .call 35 [(.t 22), (.t 24)], none⟩,
             ⟨some 26, .not (.t 25), none⟩])
          (.cond (.t 26)
           (.seq (.reg [⟨some 2, .mov (.k (.bool false)), none⟩])
            (.ret))
           (.skip)))
         (.seq (.reg [⟨some 2, .mov (.k (.bool true)), none⟩])
          (.ret))))))))))⟩
theorem fok_laws_FnExactIsQuiet : FOk Try.prog 7 code_laws_FnExactIsQuiet := fok Try.func7 (by kernel_rfl)
@[simp] def ct_spec_IsQuiet : Ct := ⟨32, Anal, fun _ => True, fun x => [encAnal x], fun x => .bool (decide (x.alarms = []))⟩
theorem ok_spec_IsQuiet : ct_spec_IsQuiet.Ok Try.prog := by
  rintro ⟨a, b, c⟩ -
  refine Ok.of_cw fok_spec_IsQuiet (go_ok tab_nil ?_)
  cases b <;> simp [code_spec_IsQuiet, List.replicate]
  omega
@[simp] def ct_impl_IsQuiet : Ct := ⟨34, Anal, fun _ => True, fun x => [encAnal x], fun x => .bool (decide (x.alarms = []))⟩
theorem ok_impl_IsQuiet : ct_impl_IsQuiet.Ok Try.prog := by
  rintro ⟨a, b, c⟩ -
  refine Ok.of_cw fok_impl_IsQuiet (go_ok tab_nil ?_)
  cases b <;> simp [code_impl_IsQuiet, List.replicate]
  omega
set_option maxHeartbeats 1000000 in
set_option maxRecDepth 100000 in
theorem ok_lawIsQuiet (x : Anal) : Ok Try.prog 7 [encAnal x] (.bool true) := by
  refine Ok.of_cw fok_laws_FnExactIsQuiet (go_ok (tab_cons ok_szAnal (tab_cons ok_toAnal (tab_cons ok_spec_IsQuiet (tab_cons ok_impl_IsQuiet (tab_cons ok_eqAnal tab_nil))))) ?_)
  simp [code_laws_FnExactIsQuiet, List.replicate]
  intro h
  have := left_ge0.1 h
  omega
end Go.Vm
