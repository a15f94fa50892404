/- Names of Exec's codes, opposites of tests, and the law FnExec. No condition. -/
import Derived.Test.YtkclkieeapdeiaaTQD
import Derived.Test.YtkclkieeapdeiaaTCJ
import Derived.Test.YtkclkieeapdeiaaTLD
import Derived.Test.YtkclkieeapdeiaaTEY
import Derived.Test.YtkclkieeapdeiaaTPB
set_option linter.unusedSimpArgs false
set_option linter.unusedVariables false
namespace Go.Vm
open Go.Proofs
def exNames : List (List UInt8) := [[111, 107], [98, 108, 111, 99, 107, 101, 100], [110, 117, 108, 108], [99, 121, 99, 108, 101], [108, 101, 97, 107], [100, 97, 110, 103, 108, 105, 110, 103], [102, 117, 108, 108], [98, 97, 100]]
def exName (k : Int) : List UInt8 := if 0 ≤ k ∧ k ≤ 7 then exNames.getD k.toNat [] else [63]
theorem codes {k : Int} (h : 0 ≤ k ∧ k ≤ 7) : k = 0 ∨ k = 1 ∨ k = 2 ∨ k = 3 ∨ k = 4 ∨ k = 5 ∨ k = 6 ∨ k = 7 := by omega
def code_impl_ExecName : F := ⟨10, [.tmp 2],
 .seq (.reg [⟨some 2, .mov (.k (.str [])), none⟩])
 (.seq (.seq (.reg [⟨some 3, .mov (.t 0), none⟩,
      ⟨some 4, .call 60 [(.t 3), (.k (.int .i64 0)), (.k (.int .i64 7))], none⟩,
      ⟨some 5, .not (.t 4), none⟩])
   (.cond (.t 5)
    (.seq (.reg [⟨some 2, .mov (.k (.str [63])), none⟩])
     (.ret))
    (.skip)))
  (.seq (.reg [⟨some 6, .bsl 9 1 8 (.str []) [(0, (.k (.str [111, 107]))), (1, (.k (.str [98, 108, 111, 99, 107, 101, 100]))), (2, (.k (.str [110, 117, 108, 108]))), (3, (.k (.str [99, 121, 99, 108, 101]))), (4, (.k (.str [108, 101, 97, 107]))), (5, (.k (.str [100, 97, 110, 103, 108, 105, 110, 103]))), (6, (.k (.str [102, 117, 108, 108]))), (7, (.k (.str [98, 97, 100])))], none⟩,
      ⟨some 7, .mov (.t 0), none⟩,
      ⟨some 8, .iaddr 1 (.t 6) (.t 7), none⟩,
      ⟨some 9, .load 1 false (.t 8), none⟩,
      ⟨some 2, .mov (.t 9), none⟩])
   (.ret)))⟩
theorem fok_impl_ExecName : FOk Try.prog 11 code_impl_ExecName := fok Try.func11 (by kernel_rfl)
@[simp] def ct_pExecName : Ct := ⟨11, Int, fun _ => True, fun k => [.int .i64 k], fun k => .str (exName k)⟩
set_option maxHeartbeats 1000000 in
theorem ok_pExecName : ct_pExecName.Ok Try.prog := by
  intro k _
  change Int at k
  refine Ok.of_cw fok_impl_ExecName (go_ok (tab_cons ok_within tab_nil) ?_)
  by_cases h : 0 ≤ k ∧ k ≤ 7
  · rcases codes h with rfl | rfl | rfl | rfl | rfl | rfl | rfl | rfl <;> simp [code_impl_ExecName, List.replicate, exName, exNames]
  · have h2 : 0 ≤ k → ¬ k ≤ 7 := fun h1 h2 => h ⟨h1, h2⟩
    have h3 : 0 ≤ k → 7 < k := fun h1 => by have := h2 h1; omega
    simp [code_impl_ExecName, List.replicate, exName, h, h2, h3]
    intro a1 a2; exact absurd ⟨a1, a2⟩ h
def code_spec_ExecName : F := ⟨10, [.tmp 2],
 .seq (.reg [⟨some 2, .mov (.k (.str [])), none⟩])
 (.seq (.seq (.reg [⟨some 3, .mov (.t 0), none⟩,
      ⟨some 4, .call 61 [(.t 3), (.k (.int .i64 0)), (.k (.int .i64 7))], none⟩,
      ⟨some 5, .not (.t 4), none⟩])
   (.cond (.t 5)
    (.seq (.reg [⟨some 2, .mov (.k (.str [63])), none⟩])
     (.ret))
    (.skip)))
  (.seq (.reg [⟨some 6, .bsl 9 1 8 (.str []) [(0, (.k (.str [111, 107]))), (1, (.k (.str [98, 108, 111, 99, 107, 101, 100]))), (2, (.k (.str [110, 117, 108, 108]))), (3, (.k (.str [99, 121, 99, 108, 101]))), (4, (.k (.str [108, 101, 97, 107]))), (5, (.k (.str [100, 97, 110, 103, 108, 105, 110, 103]))), (6, (.k (.str [102, 117, 108, 108]))), (7, (.k (.str [98, 97, 100])))], none⟩,
      ⟨some 7, .mov (.t 0), none⟩,
      ⟨some 8, .iaddr 1 (.t 6) (.t 7), none⟩,
      ⟨some 9, .load 1 false (.t 8), none⟩,
      ⟨some 2, .mov (.t 9), none⟩])
   (.ret)))⟩
theorem fok_spec_ExecName : FOk Try.prog 12 code_spec_ExecName := fok Try.func12 (by kernel_rfl)
@[simp] def ct_sExecName : Ct := ⟨12, Int, fun _ => True, fun k => [.int .i64 k], fun k => .str (exName k)⟩
set_option maxHeartbeats 1000000 in
theorem ok_sExecName : ct_sExecName.Ok Try.prog := by
  intro k _
  change Int at k
  refine Ok.of_cw fok_spec_ExecName (go_ok (tab_cons ok_l1In tab_nil) ?_)
  by_cases h : 0 ≤ k ∧ k ≤ 7
  · rcases codes h with rfl | rfl | rfl | rfl | rfl | rfl | rfl | rfl <;> simp [code_spec_ExecName, List.replicate, exName, exNames]
  · have h2 : 0 ≤ k → ¬ k ≤ 7 := fun h1 h2 => h ⟨h1, h2⟩
    have h3 : 0 ≤ k → 7 < k := fun h1 => by have := h2 h1; omega
    simp [code_spec_ExecName, List.replicate, exName, h, h2, h3]
    intro a1 a2; exact absurd ⟨a1, a2⟩ h
def code_impl_IsError : F := ⟨5, [.tmp 2],
 .seq (.reg [⟨some 2, .mov (.k (.bool false)), none⟩])
 (.seq (.reg [⟨some 3, .mov (.t 0), none⟩,
     ⟨some 4, .call 60 [(.t 3), (.k (.int .i64 2)), (.k (.int .i64 5))], none⟩,
     ⟨some 2, .mov (.t 4), none⟩])
  (.ret))⟩
theorem fok_impl_IsError : FOk Try.prog 13 code_impl_IsError := fok Try.func13 (by kernel_rfl)
@[simp] def ct_pIsError : Ct := ⟨13, Int, fun _ => True, fun k => [.int .i64 k], fun k => .bool (decide (2 ≤ k) && decide (k ≤ 5))⟩
theorem ok_pIsError : ct_pIsError.Ok Try.prog := by
  intro k _
  change Int at k
  refine Ok.of_cw fok_impl_IsError (go_ok (tab_cons ok_within tab_nil) ?_)
  simp [code_impl_IsError, List.replicate]
def code_spec_IsError : F := ⟨5, [.tmp 2],
 .seq (.reg [⟨some 2, .mov (.k (.bool false)), none⟩])
 (.seq (.reg [⟨some 3, .mov (.t 0), none⟩,
     ⟨some 4, .call 61 [(.t 3), (.k (.int .i64 2)), (.k (.int .i64 5))], none⟩,
     ⟨some 2, .mov (.t 4), none⟩])
  (.ret))⟩
theorem fok_spec_IsError : FOk Try.prog 14 code_spec_IsError := fok Try.func14 (by kernel_rfl)
@[simp] def ct_sIsError : Ct := ⟨14, Int, fun _ => True, fun k => [.int .i64 k], fun k => .bool (decide (2 ≤ k) && decide (k ≤ 5))⟩
theorem ok_sIsError : ct_sIsError.Ok Try.prog := by
  intro k _
  change Int at k
  refine Ok.of_cw fok_spec_IsError (go_ok (tab_cons ok_l1In tab_nil) ?_)
  simp [code_spec_IsError, List.replicate]
def code_spec_OppositeOf : F := ⟨29, [.cell 3 true 2, .tmp 3],
 .seq (.reg [⟨some 1, .box (.t 0), none⟩,
    ⟨some 2, .alloc [(.int .i64 0), (.str []), (.str [])], none⟩,
    ⟨some 3, .mov (.k (.bool false)), none⟩])
 (.seq (.seq (.reg [⟨some 5, .load 3 true (.t 1), none⟩,
      ⟨some 6, .call 51 [(.t 5)], none⟩,
      ⟨some 7, .not (.t 6), none⟩])
   (.cond (.t 7)
    (.seq (.reg [⟨some 8, .build [(.int .i64 0), (.str []), (.str [])] [], none⟩,
        ⟨none, .store 3 (.t 2) (.t 8), none⟩,
        ⟨some 3, .mov (.k (.bool false)), none⟩])
     (.ret))
    (.skip)))
  (.seq (.reg [⟨some 9, .faddr 0 (.t 1), none⟩,
      ⟨some 10, .load 1 false (.t 9), none⟩,
      ⟨some 11, .bin .add (.t 10) (.k (.int .i64 1)), none⟩,
      ⟨some 4, .mov (.t 11), none⟩])
   (.seq (.seq (.reg [⟨some 12, .faddr 0 (.t 1), none⟩,
        ⟨some 13, .load 1 false (.t 12), none⟩,
        ⟨some 14, .bin .eql (.t 13) (.k (.int .i64 10)), none⟩,
        ⟨some 15, .mov (.t 14), none⟩,
        ⟨some 16, .faddr 0 (.t 1), some (15, false)⟩,
        ⟨some 17, .load 1 false (.t 16), some (15, false)⟩,
        ⟨some 18, .bin .eql (.t 17) (.k (.int .i64 12)), some (15, false)⟩,
        ⟨some 19, .pick (.t 15) (.k (.bool true)) (.t 18), none⟩])
     (.cond (.t 19)
      (.reg [⟨some 20, .faddr 0 (.t 1), none⟩,
         ⟨some 21, .load 1 false (.t 20), none⟩,
         ⟨some 22, .bin .sub (.t 21) (.k (.int .i64 1)), none⟩,
         ⟨some 4, .mov (.t 22), none⟩])
      (.skip)))
    (.seq (.reg [⟨some 23, .mov (.t 4), none⟩,
        ⟨some 24, .faddr 1 (.t 1), none⟩,
        ⟨some 25, .load 1 false (.t 24), none⟩,
        ⟨some 26, .faddr 2 (.t 1), none⟩,
        ⟨some 27, .load 1 false (.t 26), none⟩,
        ⟨some 28, .build [(.int .i64 0), (.str []), (.str [])] [(0, 1, (.t 23)), (1, 1, (.t 25)), (2, 1, (.t 27))], none⟩,
        ⟨none, .store 3 (.t 2) (.t 28), none⟩,
        ⟨some 3, .mov (.k (.bool true)), none⟩])
     (.ret)))))⟩
theorem fok_spec_OppositeOf : FOk Try.prog 16 code_spec_OppositeOf := fok Try.func16 (by kernel_rfl)
@[simp] def ct_OppositeOf : Ct := ⟨16, Stmt, fun _ => True, fun s => [encStmt s], fun s => .tup [encStmt (if testB s.kind = true then oppS s else ⟨0, [], []⟩), .bool (testB s.kind)]⟩
set_option maxHeartbeats 1000000 in
theorem ok_OppositeOf : ct_OppositeOf.Ok Try.prog := by
  rintro ⟨k, a, b⟩ -
  refine Ok.of_cw fok_spec_OppositeOf (go_ok (tab_cons ok_sIsTest tab_nil) ?_)
  cases ht : testB k
  · simp [code_spec_OppositeOf, List.replicate, ht]
  · have hk : k = 9 ∨ k = 10 ∨ k = 11 ∨ k = 12 := by unfold testB at ht; simp at ht; omega
    rcases hk with rfl | rfl | rfl | rfl <;> simp [code_spec_OppositeOf, List.replicate, ht, oppS]
theorem draw_sz (bs : List UInt8) : szHeap (drawEx bs).2 ≤ 1048576 := by
  have h : ∀ c, szHeap (drawE2 c) ≤ 1048576 := by
    intro c
    unfold drawE2
    split
    · obtain ⟨h1, h2, -⟩ := bent_len (drawY c 3).1.step
      change (bentR _).2.2.vars.length + (bentR _).2.2.next.length ≤ _
      omega
    · obtain ⟨h1, h2⟩ := drawH_len c 3
      change (drawH c 3).vars.length + (drawH c 3).next.length ≤ _
      omega
  exact h _
theorem vars3_ok : szVarsOk vars3 := ⟨by simp [vars3], by simp [vars3]⟩
def code_laws_big : F := ⟨6, [.tmp 2],
 .seq (.reg [⟨some 2, .mov (.k (.bool false)), none⟩])
 (.seq (.reg [⟨some 3, .mov (.t 0), none⟩,
     ⟨some 4, .len (.t 3), none⟩,
     ⟨some 5, .bin .gtr (.t 4) (.k (.int .i64 1048576)), none⟩,
     ⟨some 2, .mov (.t 5), none⟩])
  (.ret))⟩
theorem fok_laws_big : FOk Try.prog 5 code_laws_big := fok Try.func5 (by kernel_rfl)
@[simp] def ct_bigE : Ct := ⟨5, List UInt8, fun _ => True, fun bs => [encL 1 encU bs], fun bs => .bool (decide (1048576 < bs.length))⟩
theorem ok_bigE : ct_bigE.Ok Try.prog := by
  intro bs _
  change List UInt8 at bs
  refine Ok.of_cw fok_laws_big (go_ok tab_nil ?_)
  simp [code_laws_big, List.replicate]
  omega
def code_impl_EqualHeap : F := ⟨17, [.tmp 4],
 .seq (.reg [⟨some 2, .box (.t 0), none⟩,
    ⟨some 3, .box (.t 1), none⟩,
    ⟨some 4, .mov (.k (.bool false)), none⟩])
 (.seq (.reg [⟨some 5, .faddr 0 (.t 2), none⟩,
     ⟨some 6, .load 1 false (.t 5), none⟩,
     ⟨some 7, .faddr 0 (.t 3), none⟩,
     ⟨some 8, .load 1 false (.t 7), none⟩,
     ⟨some 9, .call 59 [(.t 6), (.t 8)], none⟩,
     ⟨some 10, .mov (.t 9), none⟩,
     ⟨some 11, .faddr 1 (.t 2), some (10, true)⟩,
     ⟨some 12, .load 1 false (.t 11), some (10, true)⟩,
     ⟨some 13, .faddr 1 (.t 3), some (10, true)⟩,
     ⟨some 14, .load 1 false (.t 13), some (10, true)⟩,
     ⟨some 15, .call 59 [(.t 12), (.t 14)], some (10, true)⟩,
     ⟨some 16, .pick (.t 10) (.t 15) (.k (.bool false)), none⟩,
     ⟨some 4, .mov (.t 16), none⟩])
  (.ret))⟩
theorem fok_impl_EqualHeap : FOk Try.prog 10 code_impl_EqualHeap := fok Try.func10 (by kernel_rfl)
@[simp] def ct_pEqualHeapE : Ct := ⟨10, Heap × Heap, fun _ => True, fun x => [encHeap x.1, encHeap x.2], fun x => .bool (decide (x.1 = x.2))⟩
theorem heap_eq_iffE {a b : Heap} : a = b ↔ a.vars = b.vars ∧ a.next = b.next := by
  obtain ⟨a1, a2⟩ := a
  obtain ⟨b1, b2⟩ := b
  simp
theorem ok_pEqualHeapE : ct_pEqualHeapE.Ok Try.prog := by
  rintro ⟨a, b⟩ -
  refine Ok.of_cw fok_impl_EqualHeap (go_ok (tab_cons ok_EqualI tab_nil) ?_)
  by_cases h1 : a.vars = b.vars
  · by_cases h2 : a.next = b.next
    · simp [code_impl_EqualHeap, List.replicate, h1, h2, encHeap_eq, heap_eq_iffE]
    · simp [code_impl_EqualHeap, List.replicate, h1, h2, encHeap_eq, heap_eq_iffE]
  · simp [code_impl_EqualHeap, List.replicate, h1, encHeap_eq, heap_eq_iffE]
def code_laws_FnExec : F := ⟨114, [.tmp 2],
 .seq (.reg [⟨some 2, .mov (.k (.bool false)), none⟩])
 (.seq (.seq (.reg [⟨some 15, .mov (.t 0), none⟩,
      ⟨some 16, .call 5 [(.t 15)], none⟩])
   (.cond (.t 16)
    (.seq (.reg [⟨some 2, .mov (.k (.bool true)), none⟩])
     (.ret))
    (.skip)))
  (.seq (.reg [⟨some 18, .mov (.t 0), none⟩,
      ⟨some 19, .call 6 [(.t 18)], none⟩,
      ⟨some 17, .mov (.t 19), none⟩,
      ⟨some 20, .extr (.t 17) 0, none⟩,
      ⟨some 21, .extr (.t 17) 1, none⟩,
      ⟨some 22, .extr (.t 17) 2, none⟩,
      ⟨some 4, .alloc [(.int .i64 0), (.str []), (.str [])], none⟩,
      ⟨some 5, .alloc [(.sl .nil 0 []), (.sl .nil 0 [])], none⟩,
      ⟨some 3, .mov (.t 20), none⟩,
      ⟨none, .store 3 (.t 4) (.t 21), none⟩,
      ⟨none, .store 2 (.t 5) (.t 22), none⟩])
   (.seq (.reg [⟨some 24, .mov (.t 3), none⟩,
       ⟨some 25, .load 3 true (.t 4), none⟩,
       ⟨some 26, .load 2 true (.t 5), none⟩,
       ⟨some 27, .call 7 [(.t 24), (.t 25), (.t 26)], none⟩,
       ⟨some 23, .mov (.t 27), none⟩,
       ⟨some 28, .extr (.t 23) 0, none⟩,
       ⟨some 29, .extr (.t 23) 1, none⟩,
       ⟨some 6, .alloc [(.sl .nil 0 []), (.sl .nil 0 [])], none⟩,
       ⟨none, .store 2 (.t 6) (.t 28), none⟩,
       ⟨some 7, .mov (.t 29), none⟩])
    (.seq (.reg [⟨some 31, .mov (.t 3), none⟩,
        ⟨some 32, .load 3 true (.t 4), none⟩,
        ⟨some 33, .load 2 true (.t 5), none⟩,
        ⟨some 34, .call 8 [(.t 31), (.t 32), (.t 33)], none⟩,
        ⟨some 30, .mov (.t 34), none⟩,
        ⟨some 35, .extr (.t 30) 0, none⟩,
        ⟨some 36, .extr (.t 30) 1, none⟩,
        ⟨some 8, .alloc [(.sl .nil 0 []), (.sl .nil 0 [])], none⟩,
        ⟨none, .store 2 (.t 8) (.t 35), none⟩,
        ⟨some 9, .mov (.t 36), none⟩])
     (.seq (.reg [⟨some 37, .mov (.t 0), none⟩,
         ⟨some 38, .call 9 [(.t 37)], none⟩,
         ⟨some 10, .mov (.t 38), none⟩])
      (.seq (.seq (.reg [⟨some 39, .mov (.t 7), none⟩,
           ⟨some 40, .mov (.t 9), none⟩,
           ⟨some 41, .bin .neq (.t 39) (.t 40), none⟩,
           ⟨some 42, .mov (.t 41), none⟩,
           ⟨some 43, .load 2 true (.t 6), some (42, false)⟩,
           ⟨some 44, .load 2 true (.t 8), some (42, false)⟩,
           ⟨some 45, .call 10 [(.t 43), (.t 44)], some (42, false)⟩,
           ⟨some 46, .not (.t 45), some (42, false)⟩,
           ⟨some 47, .pick (.t 42) (.k (.bool true)) (.t 46), none⟩,
           ⟨some 48, .mov (.t 47), none⟩,
           ⟨some 49, .mov (.t 10), some (48, false)⟩,
           ⟨some 50, .call 11 [(.t 49)], some (48, false)⟩,
           ⟨some 51, .mov (.t 10), some (48, false)⟩,
           ⟨some 52, .call 12 [(.t 51)], some (48, false)⟩,
           ⟨some 53, .bin .neq (.t 50) (.t 52), some (48, false)⟩,
           ⟨some 54, .pick (.t 48) (.k (.bool true)) (.t 53), none⟩,
           ⟨some 55, .mov (.t 54), none⟩,
           ⟨some 56, .mov (.t 10), some (55, false)⟩,
           ⟨some 57, .call 13 [(.t 56)], some (55, false)⟩,
           ⟨some 58, .mov (.t 10), some (55, false)⟩,
           ⟨some 59, .call 14 [(.t 58)], some (55, false)⟩,
           ⟨some 60, .beq true (.t 57) (.t 59), some (55, false)⟩,
           ⟨some 61, .pick (.t 55) (.k (.bool true)) (.t 60), none⟩,
           ⟨some 62, .mov (.t 61), none⟩,
           ⟨some 63, .mov (.t 7), some (62, false)⟩,
           ⟨some 64, .bin .eql (.t 63) (.k (.int .i64 0)), some (62, false)⟩,
           ⟨some 65, .mov (.t 64), some (62, false)⟩,
           ⟨some 66, .mov (.t 3), some (65, true)⟩,
           ⟨some 67, .len (.t 66), some (65, true)⟩,
           ⟨some 68, .load 2 true (.t 6), some (65, true)⟩,
           ⟨some 69, .call 15 [(.t 67), (.t 68)], some (65, true)⟩,
           ⟨some 70, .not (.t 69), some (65, true)⟩,
           ⟨some 71, .pick (.t 65) (.t 70) (.k (.bool false)), some (62, false)⟩,
           ⟨some 72, .pick (.t 62) (.k (.bool true)) (.t 71), none⟩])
        (.cond (.t 72)
         (.seq (.reg [⟨some 2, .mov (.k (.bool false)), none⟩])
          (.ret))
         (.skip)))
       (.seq (.reg [⟨some 74, .load 3 true (.t 4), none⟩,
           ⟨some 75, .call 16 [(.t 74)], none⟩,
           ⟨some 73, .mov (.t 75), none⟩,
           ⟨some 76, .extr (.t 73) 0, none⟩,
           ⟨some 77, .extr (.t 73) 1, none⟩,
           ⟨some 11, .alloc [(.int .i64 0), (.str []), (.str [])], none⟩,
           ⟨none, .store 3 (.t 11) (.t 76), none⟩,
           ⟨some 12, .mov (.t 77), none⟩])
        (.seq (.seq (.reg [⟨some 78, .mov (.t 12), none⟩,
             ⟨some 79, .not (.t 78), none⟩,
             ⟨some 80, .mov (.t 79), none⟩,
             ⟨some 81, .mov (.t 7), some (80, false)⟩,
             ⟨some 82, .bin .eql (.t 81) (.k (.int .i64 7)), some (80, false)⟩,
             ⟨some 83, .pick (.t 80) (.k (.bool true)) (.t 82), none⟩])
          (.cond (.t 83)
           (.seq (.reg [⟨some 2, .mov (.k (.bool true)), none⟩])
            (.ret))
           (.skip)))
         (.seq (.reg [⟨some 85, .mov (.t 3), none⟩,
             ⟨some 86, .load 3 true (.t 11), none⟩,
             ⟨some 87, .load 2 true (.t 5), none⟩,
             ⟨some 88, .call 7 [(.t 85), (.t 86), (.t 87)], none⟩,
             ⟨some 84, .mov (.t 88), none⟩,
             ⟨some 89, .extr (.t 84) 0, none⟩,
             ⟨some 90, .extr (.t 84) 1, none⟩,
             ⟨some 13, .alloc [(.sl .nil 0 []), (.sl .nil 0 [])], none⟩,
             ⟨none, .store 2 (.t 13) (.t 89), none⟩,
             ⟨some 14, .mov (.t 90), none⟩])
          (.seq (.reg [⟨some 91, .mov (.t 7), none⟩,
              ⟨some 92, .bin .eql (.t 91) (.k (.int .i64 0)), none⟩,
              ⟨some 93, .mov (.t 14), none⟩,
              ⟨some 94, .bin .eql (.t 93) (.k (.int .i64 0)), none⟩,
              ⟨some 95, .beq true (.t 92) (.t 94), none⟩,
              ⟨some 96, .mov (.t 95), none⟩,
              ⟨some 97, .mov (.t 7), some (96, true)⟩,
              ⟨some 98, .bin .neq (.t 97) (.k (.int .i64 0)), some (96, true)⟩,
              ⟨some 99, .mov (.t 98), some (96, true)⟩,
              ⟨some 100, .load 2 true (.t 6), some (99, false)⟩,
              ⟨some 101, .load 2 true (.t 5), some (99, false)⟩,
              ⟨some 102, .call 10 [(.t 100), (.t 101)], some (99, false)⟩,
              ⟨some 103, .pick (.t 99) (.k (.bool true)) (.t 102), some (96, true)⟩,
              ⟨some 104, .pick (.t 96) (.t 103) (.k (.bool false)), none⟩,
              ⟨some 105, .mov (.t 104), none⟩,
              ⟨some 106, .mov (.t 14), some (105, true)⟩,
              ⟨some 107, .bin .neq (.t 106) (.k (.int .i64 0)), some (105, true)⟩,
              ⟨some 108, .mov (.t 107), some (105, true)⟩,
              ⟨some 109, .load 2 true (.t 13), some (108, false)⟩,
              ⟨some 110, .load 2 true (.t 5), some (108, false)⟩,
              ⟨some 111, .call 10 [(.t 109), (.t 110)], some (108, false)⟩,
              ⟨some 112, .pick (.t 108) (.k (.bool true)) (.t 111), some (105, true)⟩,
              ⟨some 113, .pick (.t 105) (.t 112) (.k (.bool false)), none⟩,
              ⟨some 2, .mov (.t 113), none⟩])
           (.ret)))))))))))⟩
theorem fok_laws_FnExec : FOk Try.prog 3 code_laws_FnExec := fok Try.func3 (by kernel_rfl)
set_option maxHeartbeats 8000000 in
set_option maxRecDepth 100000 in
theorem ok_lawFnExec (bs : List UInt8) : Ok Try.prog 3 [encL 1 encU bs] (.bool true) := by
  by_cases hbs : bs.length ≤ 1048576
  · have hb2 : ¬ 1048576 < bs.length := by omega
    have hT : TabOk Try.prog _ := tab_cons ok_bigE (tab_cons ok_DrawExec (tab_cons ok_pExec (tab_cons ok_sExec (tab_cons ok_DrawExecName (tab_cons ok_pEqualHeapE (tab_cons ok_pExecName (tab_cons ok_sExecName (tab_cons ok_pIsError (tab_cons ok_sIsError (tab_cons ok_sIsHeap (tab_cons ok_OppositeOf tab_nil)))))))))))
    have hz := draw_sz bs
    have hv := vars3_ok
    refine Ok.of_cw fok_laws_FnExec ?_
    simp only [code_laws_FnExec, frame, List.length_cons, List.length_nil, List.replicate, Nat.reduceSub, Nat.reduceAdd, List.cons_append, List.nil_append]
    refine cw_seq (go_ok hT ?_); simp [List.replicate]
    refine cw_seq (go_ok hT ?_); simp [List.replicate, hbs, hb2]
    refine cw_seq (go_ok hT ?_); simp [List.replicate, hbs]
    generalize drawEx bs = R at *
    obtain ⟨s, h⟩ := R
    simp only at hz ⊢
    generalize drawName bs = nm at *
    refine cw_weak (weak_seal (n0 := 0) 4 (by simp) (t' := slots 114 [(0, encL 1 encU bs), (3, encL 1 encStr vars3), (4, .pbox 0 0), (5, .pbox 3 0)]) (H' := [.cells [.int .i64 s.kind, .str s.a, .str s.b], .dead, .dead, .cells [encL 1 encInt h.vars, encL 1 encInt h.next]]) (by simp) (by simp [List.replicate])) ?_
    refine cw_seq (go_ok hT ?_); simp [List.replicate, hz, hv]
    refine ⟨⟨vars3, s, h⟩, rfl, rfl, rfl, hv, hz, ?_⟩
    have F1 := exec_heap (vars := vars3) (s := s) (h := h)
    have F2 := exec_test (vars := vars3) (s := s) (h := h)
    simp only
    generalize hw : execH vars3 s h = W at *
    obtain ⟨w, k⟩ := W
    simp only at F1 F2 ⊢
    refine cw_weak (weak_seal (n0 := 0) 7 (by simp) (t' := slots 114 [(0, encL 1 encU bs), (3, encL 1 encStr vars3), (4, .pbox 0 0), (5, .pbox 3 0), (6, .pbox 6 0), (7, .int .i64 k)]) (H' := [.cells [.int .i64 s.kind, .str s.a, .str s.b], .dead, .dead, .cells [encL 1 encInt h.vars, encL 1 encInt h.next], .dead, .dead, .cells [encL 1 encInt w.vars, encL 1 encInt w.next]]) (by simp) (by simp [List.replicate])) ?_
    refine cw_seq (go_ok hT ?_); simp [List.replicate, hz, hv]
    refine ⟨⟨vars3, s, h⟩, rfl, rfl, rfl, hv, hz, ?_⟩
    simp only [hw]
    refine cw_weak (weak_seal (n0 := 0) 10 (by simp) (t' := slots 114 [(0, encL 1 encU bs), (3, encL 1 encStr vars3), (4, .pbox 0 0), (5, .pbox 3 0), (6, .pbox 6 0), (7, .int .i64 k), (8, .pbox 9 0), (9, .int .i64 k)]) (H' := [.cells [.int .i64 s.kind, .str s.a, .str s.b], .dead, .dead, .cells [encL 1 encInt h.vars, encL 1 encInt h.next], .dead, .dead, .cells [encL 1 encInt w.vars, encL 1 encInt w.next], .dead, .dead, .cells [encL 1 encInt w.vars, encL 1 encInt w.next]]) (by simp) (by simp [List.replicate])) ?_
    refine cw_seq (go_ok hT ?_); simp [List.replicate, hbs]
    generalize drawName bs = nm at *
    refine cw_to ⟨slots 114 [(3, encL 1 encStr vars3), (4, .pbox 0 0), (5, .pbox 3 0), (6, .pbox 6 0), (7, .int .i64 k), (72, .bool false)], [.cells [.int .i64 s.kind, .str s.a, .str s.b], .dead, .dead, .cells [encL 1 encInt h.vars, encL 1 encInt h.next], .dead, .dead, .cells [encL 1 encInt w.vars, encL 1 encInt w.next]]⟩ ?_ ?_
    · by_cases k0 : k = 0
      · have G1 := F1 k0
        have e3 : vars3.length = 3 := rfl
        have zw : szHeap w ≤ 1048576 := by
          have g := heap_bounds G1
          change w.vars.length + w.next.length ≤ _
          rw [e3] at g
          omega
        rw [e3] at G1
        have G1 : isHeapB 3 w = true := G1
        refine go_ok hT ?_; simp (maxSteps := 4000000) [List.replicate, k0, G1, e3, zw]
        exact weak_seal 7 (by simp) (by simp) (by simp [List.replicate])
      · refine go_ok hT ?_; simp (maxSteps := 4000000) [List.replicate, k0]
        exact weak_seal 7 (by simp) (by simp) (by simp [List.replicate])
    refine go_ok hT ?_; simp (maxSteps := 4000000) [List.replicate]
    by_cases ht : testB s.kind = true
    case neg => exact .inl (by simpa using ht)
    refine .inr ⟨ht, fun k7 => ?_⟩
    obtain ⟨f1, f2, f3⟩ := F2 ht k7
    refine ⟨⟨vars3, oppS s, h⟩, rfl, by rw [if_pos ht], rfl, hv, hz, ?_⟩
    simp only
    generalize execH vars3 (oppS s) h = W2 at *
    obtain ⟨w2, k2⟩ := W2
    simp only at f1 f2 f3 ⊢
    rcases f1 with ⟨a1, a2⟩ | ⟨a1, a2⟩
    · have a3 := f2 a1
      rw [a1, a2, a3]
      simp
    · have a3 := f3 a2
      rw [a1, a2, a3]
      simp
  · have hb2 : 1048576 < bs.length := by omega
    refine Ok.of_cw fok_laws_FnExec (go_ok (tab_cons ok_bigE tab_nil) ?_)
    simp [code_laws_FnExec, List.replicate, hb2]
end Go.Vm
