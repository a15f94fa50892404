/- Execution of a statement, of both: small functions and the plain form. No condition. -/
import Derived.Test.YtkclkieeapdeiaaTPF
import Derived.Test.YtkclkieeapdeiaaTSU
import Derived.Test.YtkclkieeapdeiaaTSO
import Derived.Test.YtkclkieeapdeiaaTCI
set_option linter.unusedSimpArgs false
set_option linter.unusedVariables false
namespace Go.Vm
open Go.Proofs
def atV (vars : List (List UInt8)) (h : Heap) (name : List UInt8) : Int := if 0 ≤ ixS vars name then h.vars.getD (ixS vars name).toNat 0 else -1
def testB (k : Int) : Bool := decide (9 ≤ k) && decide (k ≤ 12)
def holdsB (k a b : Int) : Bool := if k = 9 then decide (a = -1) else if k = 10 then decide (¬ a = -1) else if k = 11 then decide (a = b) else decide (¬ a = b)
def code_impl_IsTest : F := ⟨6, [.tmp 2],
 .seq (.reg [⟨some 1, .box (.t 0), none⟩,
    ⟨some 2, .mov (.k (.bool false)), none⟩])
 (.seq (.reg [⟨some 3, .faddr 0 (.t 1), none⟩,
     ⟨some 4, .load 1 false (.t 3), none⟩,
     ⟨some 5, .call 60 [(.t 4), (.k (.int .i64 9)), (.k (.int .i64 12))], none⟩,
     ⟨some 2, .mov (.t 5), none⟩])
  (.ret))⟩
theorem fok_impl_IsTest : FOk Try.prog 40 code_impl_IsTest := fok Try.func40 (by kernel_rfl)
def code_spec_IsTest : F := ⟨6, [.tmp 2],
 .seq (.reg [⟨some 1, .box (.t 0), none⟩,
    ⟨some 2, .mov (.k (.bool false)), none⟩])
 (.seq (.reg [⟨some 3, .faddr 0 (.t 1), none⟩,
     ⟨some 4, .load 1 false (.t 3), none⟩,
     ⟨some 5, .call 61 [(.t 4), (.k (.int .i64 9)), (.k (.int .i64 12))], none⟩,
     ⟨some 2, .mov (.t 5), none⟩])
  (.ret))⟩
theorem fok_spec_IsTest : FOk Try.prog 51 code_spec_IsTest := fok Try.func51 (by kernel_rfl)
def code_impl_holds : F := ⟨24, [.tmp 6],
 .seq (.reg [⟨some 6, .mov (.k (.bool false)), none⟩])
 (.seq (.seq (.reg [⟨some 7, .mov (.t 0), none⟩])
   (.block 0 (.seq (.reg [⟨some 9, .bin .eql (.t 7) (.k (.int .i64 9)), none⟩,
        ⟨some 8, .mov (.t 9), none⟩])
     (.cond (.t 8)
      (.seq (.reg [⟨some 10, .mov (.t 1), none⟩,
          ⟨some 11, .bin .eql (.t 10) (.k (.int .i64 (-1))), none⟩,
          ⟨some 6, .mov (.t 11), none⟩])
       (.ret))
      (.seq (.reg [⟨some 13, .bin .eql (.t 7) (.k (.int .i64 10)), none⟩,
          ⟨some 12, .mov (.t 13), none⟩])
       (.cond (.t 12)
        (.seq (.reg [⟨some 14, .mov (.t 1), none⟩,
            ⟨some 15, .bin .neq (.t 14) (.k (.int .i64 (-1))), none⟩,
            ⟨some 6, .mov (.t 15), none⟩])
         (.ret))
        (.seq (.reg [⟨some 17, .bin .eql (.t 7) (.k (.int .i64 11)), none⟩,
            ⟨some 16, .mov (.t 17), none⟩])
         (.cond (.t 16)
          (.seq (.reg [⟨some 18, .mov (.t 1), none⟩,
              ⟨some 19, .mov (.t 2), none⟩,
              ⟨some 20, .bin .eql (.t 18) (.t 19), none⟩,
              ⟨some 6, .mov (.t 20), none⟩])
           (.ret))
          (.skip)))))))))
  (.seq (.reg [⟨some 21, .mov (.t 1), none⟩,
      ⟨some 22, .mov (.t 2), none⟩,
      ⟨some 23, .bin .neq (.t 21) (.t 22), none⟩,
      ⟨some 6, .mov (.t 23), none⟩])
   (.ret)))⟩
theorem fok_impl_holds : FOk Try.prog 41 code_impl_holds := fok Try.func41 (by kernel_rfl)
def code_spec_l8Test : F := ⟨24, [.tmp 6],
 .seq (.reg [⟨some 6, .mov (.k (.bool false)), none⟩])
 (.seq (.seq (.reg [⟨some 7, .mov (.t 0), none⟩])
   (.block 0 (.seq (.reg [⟨some 9, .bin .eql (.t 7) (.k (.int .i64 9)), none⟩,
        ⟨some 8, .mov (.t 9), none⟩])
     (.cond (.t 8)
      (.seq (.reg [⟨some 10, .mov (.t 1), none⟩,
          ⟨some 11, .bin .eql (.t 10) (.k (.int .i64 (-1))), none⟩,
          ⟨some 6, .mov (.t 11), none⟩])
       (.ret))
      (.seq (.reg [⟨some 13, .bin .eql (.t 7) (.k (.int .i64 10)), none⟩,
          ⟨some 12, .mov (.t 13), none⟩])
       (.cond (.t 12)
        (.seq (.reg [⟨some 14, .mov (.t 1), none⟩,
            ⟨some 15, .bin .neq (.t 14) (.k (.int .i64 (-1))), none⟩,
            ⟨some 6, .mov (.t 15), none⟩])
         (.ret))
        (.seq (.reg [⟨some 17, .bin .eql (.t 7) (.k (.int .i64 11)), none⟩,
            ⟨some 16, .mov (.t 17), none⟩])
         (.cond (.t 16)
          (.seq (.reg [⟨some 18, .mov (.t 1), none⟩,
              ⟨some 19, .mov (.t 2), none⟩,
              ⟨some 20, .bin .eql (.t 18) (.t 19), none⟩,
              ⟨some 6, .mov (.t 20), none⟩])
           (.ret))
          (.skip)))))))))
  (.seq (.reg [⟨some 21, .mov (.t 1), none⟩,
      ⟨some 22, .mov (.t 2), none⟩,
      ⟨some 23, .bin .neq (.t 21) (.t 22), none⟩,
      ⟨some 6, .mov (.t 23), none⟩])
   (.ret)))⟩
theorem fok_spec_l8Test : FOk Try.prog 52 code_spec_l8Test := fok Try.func52 (by kernel_rfl)
def code_impl_needs : F := ⟨17, [.tmp 6, .tmp 7],
 .seq (.reg [⟨some 6, .mov (.k (.int .i64 0)), none⟩,
    ⟨some 7, .mov (.k (.bool false)), none⟩])
 (.seq (.seq (.reg [⟨some 8, .mov (.t 0), none⟩])
   (.block 0 (.seq (.reg [⟨some 10, .bin .eql (.t 8) (.k (.int .i64 5)), none⟩,
        ⟨some 9, .mov (.t 10), none⟩])
     (.cond (.t 9)
      (.seq (.reg [⟨some 11, .mov (.t 2), none⟩,
          ⟨some 6, .mov (.t 11), none⟩,
          ⟨some 7, .mov (.k (.bool true)), none⟩])
       (.ret))
      (.seq (.seq (.reg [⟨some 13, .bin .eql (.t 8) (.k (.int .i64 6)), none⟩,
           ⟨some 12, .mov (.t 13), none⟩])
        (.cond (.t 12)
         (.skip)
         (.seq (.reg [⟨some 14, .bin .eql (.t 8) (.k (.int .i64 7)), none⟩,
             ⟨some 12, .mov (.t 14), none⟩])
          (.cond (.t 12)
           (.skip)
           (.reg [⟨some 15, .bin .eql (.t 8) (.k (.int .i64 8)), none⟩,
              ⟨some 12, .mov (.t 15), none⟩])))))
       (.cond (.t 12)
        (.seq (.reg [⟨some 16, .mov (.t 1), none⟩,
            ⟨some 6, .mov (.t 16), none⟩,
            ⟨some 7, .mov (.k (.bool true)), none⟩])
         (.ret))
        (.skip)))))))
  (.seq (.reg [⟨some 6, .mov (.k (.int .i64 0)), none⟩,
      ⟨some 7, .mov (.k (.bool false)), none⟩])
   (.ret)))⟩
theorem fok_impl_needs : FOk Try.prog 39 code_impl_needs := fok Try.func39 (by kernel_rfl)
def code_impl_Heap_at : F := ⟨18, [.tmp 6],
 .seq (.reg [⟨some 3, .box (.t 0), none⟩,
    ⟨some 6, .mov (.k (.int .i64 0)), none⟩])
 (.seq (.seq (.reg [⟨some 8, .mov (.t 1), none⟩,
      ⟨some 9, .mov (.t 2), none⟩,
      ⟨some 10, .call 37 [(.t 8), (.t 9)], none⟩,
      ⟨some 7, .mov (.t 10), none⟩])
   (.seq (.reg [⟨some 11, .mov (.t 7), none⟩,
       ⟨some 12, .bin .geq (.t 11) (.k (.int .i64 0)), none⟩])
    (.cond (.t 12)
     (.seq (.reg [⟨some 13, .faddr 0 (.t 3), none⟩,
         ⟨some 14, .load 1 false (.t 13), none⟩,
         ⟨some 15, .mov (.t 7), none⟩,
         ⟨some 16, .iaddr 1 (.t 14) (.t 15), none⟩,
         ⟨some 17, .load 1 false (.t 16), none⟩,
         ⟨some 6, .mov (.t 17), none⟩])
      (.ret))
     (.skip))))
  (.seq (.reg [⟨some 6, .mov (.k (.int .i64 (-1))), none⟩])
   (.ret)))⟩
theorem fok_impl_Heap_at : FOk Try.prog 38 code_impl_Heap_at := fok Try.func38 (by kernel_rfl)
def code_spec_l1Max : F := ⟨10, [.tmp 4],
 .seq (.reg [⟨some 4, .mov (.k (.int .i64 0)), none⟩])
 (.seq (.seq (.reg [⟨some 5, .mov (.t 0), none⟩,
      ⟨some 6, .mov (.t 1), none⟩,
      ⟨some 7, .bin .gtr (.t 5) (.t 6), none⟩])
   (.cond (.t 7)
    (.seq (.reg [⟨some 8, .mov (.t 0), none⟩,
        ⟨some 4, .mov (.t 8), none⟩])
     (.ret))
    (.skip)))
  (.seq (.reg [⟨some 9, .mov (.t 1), none⟩,
      ⟨some 4, .mov (.t 9), none⟩])
   (.ret)))⟩
theorem fok_spec_l1Max : FOk Try.prog 49 code_spec_l1Max := fok Try.func49 (by kernel_rfl)
def code_spec_l8Null : F := ⟨29, [.tmp 8],
 .seq (.reg [⟨some 4, .box (.t 0), none⟩,
    ⟨some 5, .box (.t 1), none⟩,
    ⟨some 8, .mov (.k (.bool false)), none⟩])
 (.seq (.seq (.reg [⟨some 9, .faddr 0 (.t 4), none⟩,
      ⟨some 10, .load 1 false (.t 9), none⟩])
   (.block 0 (.seq (.reg [⟨some 12, .bin .eql (.t 10) (.k (.int .i64 5)), none⟩,
        ⟨some 11, .mov (.t 12), none⟩])
     (.cond (.t 11)
      (.seq (.reg [⟨some 13, .faddr 0 (.t 5), none⟩,
          ⟨some 14, .load 1 false (.t 13), none⟩,
          ⟨some 15, .mov (.t 3), none⟩,
          ⟨some 16, .iaddr 1 (.t 14) (.t 15), none⟩,
          ⟨some 17, .load 1 false (.t 16), none⟩,
          ⟨some 18, .bin .eql (.t 17) (.k (.int .i64 (-1))), none⟩,
          ⟨some 8, .mov (.t 18), none⟩])
       (.ret))
      (.seq (.seq (.reg [⟨some 20, .bin .eql (.t 10) (.k (.int .i64 6)), none⟩,
           ⟨some 19, .mov (.t 20), none⟩])
        (.cond (.t 19)
         (.skip)
         (.seq (.reg [⟨some 21, .bin .eql (.t 10) (.k (.int .i64 7)), none⟩,
             ⟨some 19, .mov (.t 21), none⟩])
          (.cond (.t 19)
           (.skip)
           (.reg [⟨some 22, .bin .eql (.t 10) (.k (.int .i64 8)), none⟩,
              ⟨some 19, .mov (.t 22), none⟩])))))
       (.cond (.t 19)
        (.seq (.reg [⟨some 23, .faddr 0 (.t 5), none⟩,
            ⟨some 24, .load 1 false (.t 23), none⟩,
            ⟨some 25, .mov (.t 2), none⟩,
            ⟨some 26, .iaddr 1 (.t 24) (.t 25), none⟩,
            ⟨some 27, .load 1 false (.t 26), none⟩,
            ⟨some 28, .bin .eql (.t 27) (.k (.int .i64 (-1))), none⟩,
            ⟨some 8, .mov (.t 28), none⟩])
         (.ret))
        (.skip)))))))
  (.seq (.reg [⟨some 8, .mov (.k (.bool false)), none⟩])
   (.ret)))⟩
theorem fok_spec_l8Null : FOk Try.prog 53 code_spec_l8Null := fok Try.func53 (by kernel_rfl)
@[simp] def ct_pIsTest : Ct := ⟨40, Stmt, fun _ => True, fun s => [encStmt s], fun s => .bool (testB s.kind)⟩
theorem ok_pIsTest : ct_pIsTest.Ok Try.prog := by
  intro s _
  change Stmt at s
  refine Ok.of_cw fok_impl_IsTest (go_ok (tab_cons ok_within tab_nil) ?_)
  simp [code_impl_IsTest, List.replicate, encStmt_eq, testB]
@[simp] def ct_sIsTest : Ct := ⟨51, Stmt, fun _ => True, fun s => [encStmt s], fun s => .bool (testB s.kind)⟩
theorem ok_sIsTest : ct_sIsTest.Ok Try.prog := by
  intro s _
  change Stmt at s
  refine Ok.of_cw fok_spec_IsTest (go_ok (tab_cons ok_l1In tab_nil) ?_)
  simp [code_spec_IsTest, List.replicate, encStmt_eq, testB]
@[simp] def ct_pholds : Ct := ⟨41, Int × Int × Int, fun _ => True, fun x => [.int .i64 x.1, .int .i64 x.2.1, .int .i64 x.2.2], fun x => .bool (holdsB x.1 x.2.1 x.2.2)⟩
theorem ok_pholds : ct_pholds.Ok Try.prog := by
  rintro ⟨k, a, b⟩ -
  refine Ok.of_cw fok_impl_holds (go_ok tab_nil ?_)
  by_cases h9 : k = 9
  · simp [code_impl_holds, List.replicate, holdsB, h9]
  by_cases h10 : k = 10
  · simp [code_impl_holds, List.replicate, holdsB, h10]
  by_cases h11 : k = 11
  · simp [code_impl_holds, List.replicate, holdsB, h11]
  · simp [code_impl_holds, List.replicate, holdsB, h9, h10, h11]
@[simp] def ct_sholds : Ct := ⟨52, Int × Int × Int, fun _ => True, fun x => [.int .i64 x.1, .int .i64 x.2.1, .int .i64 x.2.2], fun x => .bool (holdsB x.1 x.2.1 x.2.2)⟩
theorem ok_sholds : ct_sholds.Ok Try.prog := by
  rintro ⟨k, a, b⟩ -
  refine Ok.of_cw fok_spec_l8Test (go_ok tab_nil ?_)
  by_cases h9 : k = 9
  · simp [code_spec_l8Test, List.replicate, holdsB, h9]
  by_cases h10 : k = 10
  · simp [code_spec_l8Test, List.replicate, holdsB, h10]
  by_cases h11 : k = 11
  · simp [code_spec_l8Test, List.replicate, holdsB, h11]
  · simp [code_spec_l8Test, List.replicate, holdsB, h9, h10, h11]
def needB (k : Int) : Bool := decide (k = 5) || decide (k = 6) || decide (k = 7) || decide (k = 8)
def needV (k a b : Int) : Int := if k = 5 then b else if k = 6 ∨ k = 7 ∨ k = 8 then a else 0
@[simp] def ct_needs : Ct := ⟨39, Int × Int × Int, fun _ => True, fun x => [.int .i64 x.1, .int .i64 x.2.1, .int .i64 x.2.2], fun x => .tup [.int .i64 (needV x.1 x.2.1 x.2.2), .bool (needB x.1)]⟩
theorem ok_needs : ct_needs.Ok Try.prog := by
  rintro ⟨k, a, b⟩ -
  refine Ok.of_cw fok_impl_needs (go_ok tab_nil ?_)
  by_cases h5 : k = 5
  · simp [code_impl_needs, List.replicate, needB, needV, h5]
  by_cases h6 : k = 6
  · simp [code_impl_needs, List.replicate, needB, needV, h6]
  by_cases h7 : k = 7
  · simp [code_impl_needs, List.replicate, needB, needV, h7]
  by_cases h8 : k = 8
  · simp [code_impl_needs, List.replicate, needB, needV, h8]
  · simp [code_impl_needs, List.replicate, needB, needV, h5, h6, h7, h8]
@[simp] def ct_at : Ct := ⟨38, Heap × List (List UInt8) × List UInt8, fun x => x.2.1.length = x.1.vars.length, fun x => [encHeap x.1, encL 1 encStr x.2.1, .str x.2.2], fun x => .int .i64 (atV x.2.1 x.1 x.2.2)⟩
theorem ok_at : ct_at.Ok Try.prog := by
  rintro ⟨h, vars, name⟩ hl
  change vars.length = h.vars.length at hl
  refine Ok.of_cw fok_impl_Heap_at (go_ok (tab_cons ok_pIndexOf tab_nil) ?_)
  by_cases h0 : 0 ≤ ixS vars name
  · have h1 : ixS vars name < vars.length := findI_le
    have h2 : ixS vars name < h.vars.length := by omega
    have h3 : (ixS vars name).toNat < h.vars.length := by omega
    have h4 : ¬ ixS vars name < 0 := by omega
    simp [code_impl_Heap_at, List.replicate, encHeap_eq, h0, h2, h3, h4, atV]
  · simp [code_impl_Heap_at, List.replicate, encHeap_eq, h0, atV]
@[simp] def ct_l1Max : Ct := ⟨49, Int × Int, fun _ => True, fun x => [.int .i64 x.1, .int .i64 x.2], fun x => .int .i64 (if x.2 < x.1 then x.1 else x.2)⟩
theorem ok_l1Max : ct_l1Max.Ok Try.prog := by
  rintro ⟨a, b⟩ -
  refine Ok.of_cw fok_spec_l1Max (go_ok tab_nil ?_)
  by_cases h : b < a
  · simp [code_spec_l1Max, List.replicate, h]
  · simp [code_spec_l1Max, List.replicate, h]
/-- What both answer. -/
def execH (vars : List (List UInt8)) (s : Stmt) (h : Heap) : Heap × Int :=
  let a := atV vars h s.a
  let b := atV vars h s.b
  if ¬ (stmtB vars s = true ∧ isHeapB vars.length h = true) then (⟨[], []⟩, 7)
  else if testB s.kind = true ∧ holdsB s.kind a b = false then (⟨[], []⟩, 1)
  else if needB s.kind = true ∧ needV s.kind a b = -1 then (⟨[], []⟩, 2)
  else if s.kind = 3 ∧ h.next.length = 6 then (⟨[], []⟩, 6)
  else if s.kind = 8 ∧ (1 < (pos h.vars a).length ∨ a ∈ h.next) then (⟨[], []⟩, 5)
  else if s.kind = 7 ∧ a ∈ followed h.next b then (⟨[], []⟩, 3)
  else if leakB (perfH s.kind h (ixS vars s.a) a b) = true then (⟨[], []⟩, 4)
  else (canonH (perfH s.kind h (ixS vars s.a) a b), 0)
theorem heap_bounds {n : Int} {h : Heap} (hh : isHeapB n h = true) : (h.vars.length : Int) = n ∧ n ≤ 4 ∧ 1 ≤ n ∧ h.next.length ≤ 6 ∧ (∀ y ∈ h.vars, -1 ≤ y ∧ y < h.next.length) ∧ (∀ y ∈ h.next, -1 ≤ y ∧ y < h.next.length) := by
  unfold isHeapB at hh
  simp only [Bool.and_eq_true, decide_eq_true_eq] at hh
  obtain ⟨⟨⟨⟨⟨⟨⟨h1, h2⟩, h3⟩, h4⟩, hc⟩, -⟩, -⟩, -⟩ := hh
  unfold cellsB at hc
  rw [List.all_eq_true] at hc
  refine ⟨h3, h2, h1, h4, fun y hy => ?_, fun y hy => ?_⟩
  · have := hc y (by simp [hy]); simp at this; omega
  · have := hc y (by simp [hy]); simp at this; omega
theorem stmt_names {vars : List (List UInt8)} {s : Stmt} (h : stmtB vars s = true) : (1 ≤ s.kind ∧ s.kind ≤ 12) ∧ (0 < namesN s.kind → 0 ≤ ixS vars s.a ∧ ixS vars s.a < vars.length) ∧ (1 < namesN s.kind → 0 ≤ ixS vars s.b ∧ ixS vars s.b < vars.length) := by
  unfold stmtB namesOkB at h
  simp only [Bool.and_eq_true, decide_eq_true_eq] at h
  obtain ⟨-, ⟨h1, h2⟩, h3⟩ := h
  refine ⟨?_, fun h0 => ?_, fun h0 => ?_⟩
  · unfold namesN at h1
    repeat' split at h1
    all_goals omega
  · rw [if_pos h0] at h2
    simp only [decide_eq_true_eq] at h2
    exact ⟨h2, findI_le⟩
  · rw [if_pos h0] at h3
    simp only [decide_eq_true_eq] at h3
    exact ⟨h3, findI_le⟩
end Go.Vm
