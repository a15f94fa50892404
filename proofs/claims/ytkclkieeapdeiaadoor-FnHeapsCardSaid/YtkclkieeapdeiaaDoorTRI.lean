/- The law FnHeaps. No condition. -/
import Derived.Test.YtkclkieeapdeiaaDoorTRH
import Derived.Test.YtkclkieeapdeiaaDoorTCI
import Derived.Test.YtkclkieeapdeiaaDoorTXD
import Derived.Test.YtkclkieeapdeiaaDoorTEQ
set_option linter.unusedSimpArgs false
set_option linter.unusedVariables false
namespace Go.Vm
open Go.Proofs
def code_impl_EqualHeap : F := ⟨17, [.tmp 4],
 .seq (.reg [⟨some 2, .box (.t 0), none⟩,
    ⟨some 3, .box (.t 1), none⟩,
    ⟨some 4, .mov (.k (.bool false)), none⟩])
 (.seq (.reg [⟨some 5, .faddr 0 (.t 2), none⟩,
     ⟨some 6, .load 1 false (.t 5), none⟩,
     ⟨some 7, .faddr 0 (.t 3), none⟩,
     ⟨some 8, .load 1 false (.t 7), none⟩,
     ⟨some 9, .call 29 [(.t 6), (.t 8)], none⟩,
     ⟨some 10, .mov (.t 9), none⟩,
     ⟨some 11, .faddr 1 (.t 2), some (10, true)⟩,
     ⟨some 12, .load 1 false (.t 11), some (10, true)⟩,
     ⟨some 13, .faddr 1 (.t 3), some (10, true)⟩,
     ⟨some 14, .load 1 false (.t 13), some (10, true)⟩,
     ⟨some 15, .call 29 [(.t 12), (.t 14)], some (10, true)⟩,
     ⟨some 16, .pick (.t 10) (.t 15) (.k (.bool false)), none⟩,
     ⟨some 4, .mov (.t 16), none⟩])
  (.ret))⟩
theorem fok_impl_EqualHeap : FOk Tryd.prog 8 code_impl_EqualHeap := fok Tryd.func8 (by kernel_rfl)
def code_spec_EqualHeap : F := ⟨17, [.tmp 4],
 .seq (.reg [⟨some 2, .box (.t 0), none⟩,
    ⟨some 3, .box (.t 1), none⟩,
    ⟨some 4, .mov (.k (.bool false)), none⟩])
 (.seq (.reg [⟨some 5, .faddr 0 (.t 2), none⟩,
     ⟨some 6, .load 1 false (.t 5), none⟩,
     ⟨some 7, .faddr 0 (.t 3), none⟩,
     ⟨some 8, .load 1 false (.t 7), none⟩,
     ⟨some 9, .call 52 [(.t 6), (.t 8)], none⟩,
     ⟨some 10, .mov (.t 9), none⟩,
     ⟨some 11, .faddr 1 (.t 2), some (10, true)⟩,
     ⟨some 12, .load 1 false (.t 11), some (10, true)⟩,
     ⟨some 13, .faddr 1 (.t 3), some (10, true)⟩,
     ⟨some 14, .load 1 false (.t 13), some (10, true)⟩,
     ⟨some 15, .call 52 [(.t 12), (.t 14)], some (10, true)⟩,
     ⟨some 16, .pick (.t 10) (.t 15) (.k (.bool false)), none⟩,
     ⟨some 4, .mov (.t 16), none⟩])
  (.ret))⟩
theorem fok_spec_EqualHeap : FOk Tryd.prog 22 code_spec_EqualHeap := fok Tryd.func22 (by kernel_rfl)
@[simp] def ct_pEqualHeap : Ct := ⟨8, Heap × Heap, fun _ => True, fun x => [encHeap x.1, encHeap x.2], fun x => .bool (decide (x.1 = x.2))⟩
theorem heap_eq_iff {a b : Heap} : a = b ↔ a.vars = b.vars ∧ a.next = b.next := by
  obtain ⟨a1, a2⟩ := a
  obtain ⟨b1, b2⟩ := b
  simp
theorem ok_pEqualHeap : ct_pEqualHeap.Ok Tryd.prog := by
  rintro ⟨a, b⟩ -
  refine Ok.of_cw fok_impl_EqualHeap (go_ok (tab_cons ok_EqualI tab_nil) ?_)
  by_cases h1 : a.vars = b.vars
  · by_cases h2 : a.next = b.next
    · simp [code_impl_EqualHeap, List.replicate, h1, h2, encHeap_eq, heap_eq_iff]
    · simp [code_impl_EqualHeap, List.replicate, h1, h2, encHeap_eq, heap_eq_iff]
  · simp [code_impl_EqualHeap, List.replicate, h1, encHeap_eq, heap_eq_iff]
@[simp] def ct_sEqualHeap : Ct := ⟨22, Heap × Heap, fun _ => True, fun x => [encHeap x.1, encHeap x.2], fun x => .bool (decide (x.1 = x.2))⟩
theorem ok_sEqualHeap : ct_sEqualHeap.Ok Tryd.prog := by
  rintro ⟨a, b⟩ -
  refine Ok.of_cw fok_spec_EqualHeap (go_ok (tab_cons ok_l7Same tab_nil) ?_)
  by_cases h1 : a.vars = b.vars
  · by_cases h2 : a.next = b.next
    · simp [code_spec_EqualHeap, List.replicate, h1, h2, encHeap_eq, heap_eq_iff]
    · simp [code_spec_EqualHeap, List.replicate, h1, h2, encHeap_eq, heap_eq_iff]
  · simp [code_spec_EqualHeap, List.replicate, h1, encHeap_eq, heap_eq_iff]
@[simp] def ct_pCanonC : Ct := ⟨6, Heap, fun x => szHeap x ≤ 1048576, fun x => [encHeap x], fun x => encHeap (canonH x)⟩
theorem ok_pCanonC : ct_pCanonC.Ok Tryd.prog := by
  intro x hx
  refine Ok.of_okH (ok_pCanonH x hx) ?_
  unfold canonR canonN
  by_cases hc : cellsB x = true
  · simp [hc, encHeap_eq]
  · have : canonH x = ⟨[], []⟩ := by unfold canonH; rw [if_neg hc]
    simp [hc, this, encHeap_eq]
def code_laws_big : F := ⟨6, [.tmp 2],
 .seq (.reg [⟨some 2, .mov (.k (.bool false)), none⟩])
 (.seq (.reg [⟨some 3, .mov (.t 0), none⟩,
     ⟨some 4, .len (.t 3), none⟩,
     ⟨some 5, .bin .gtr (.t 4) (.k (.int .i64 1048576)), none⟩,
     ⟨some 2, .mov (.t 5), none⟩])
  (.ret))⟩
theorem fok_laws_big : FOk Tryd.prog 4 code_laws_big := fok Tryd.func4 (by kernel_rfl)
@[simp] def ct_big : Ct := ⟨4, List UInt8, fun _ => True, fun bs => [encL 1 encU bs], fun bs => .bool (decide (1048576 < bs.length))⟩
theorem ok_big : ct_big.Ok Tryd.prog := by
  intro bs _
  change List UInt8 at bs
  refine Ok.of_cw fok_laws_big (go_ok tab_nil ?_)
  simp [code_laws_big, List.replicate]
  omega
def code_laws_sameInts : F := ⟨26, [.tmp 4],
 .seq (.reg [⟨some 4, .mov (.k (.bool false)), none⟩])
 (.seq (.seq (.reg [⟨some 6, .mov (.t 0), none⟩,
      ⟨some 7, .len (.t 6), none⟩,
      ⟨some 8, .mov (.t 1), none⟩,
      ⟨some 9, .len (.t 8), none⟩,
      ⟨some 10, .bin .neq (.t 7) (.t 9), none⟩])
   (.cond (.t 10)
    (.seq (.reg [⟨some 4, .mov (.k (.bool false)), none⟩])
     (.ret))
    (.skip)))
  (.seq (.seq (.reg [⟨some 5, .mov (.k (.int .i64 0)), none⟩])
    (.block 0 (.loop (.seq (.seq (.reg [⟨some 11, .mov (.t 5), none⟩,
           ⟨some 12, .mov (.t 0), none⟩,
           ⟨some 13, .len (.t 12), none⟩,
           ⟨some 14, .bin .lss (.t 11) (.t 13), none⟩])
        (.cond (.t 14)
         (.skip)
         (.exit 0)))
       (.seq (.block 1 (.seq (.dreg [false, false, false, false, false, false, false, false, true] [false, false, false, false, false, false, false, false, false] [⟨some 17, .mov (.t 0), none⟩,
             ⟨some 18, .mov (.t 5), none⟩,
             ⟨some 19, .iaddr 1 (.t 17) (.t 18), none⟩,
             ⟨some 20, .load 1 false (.t 19), none⟩,
             ⟨some 21, .mov (.t 1), none⟩,
             ⟨some 22, .mov (.t 5), none⟩,
             ⟨some 23, .iaddr 1 (.t 21) (.t 22), none⟩,
             ⟨some 24, .load 1 false (.t 23), none⟩,
             ⟨some 25, .bin .neq (.t 20) (.t 24), none⟩])
          (.cond (.t 25)
           (.seq (.reg [⟨some 4, .mov (.k (.bool false)), none⟩])
            (.ret))
           (.skip))))
        (.reg [⟨some 15, .mov (.t 5), none⟩,
           ⟨some 16, .bin .add (.t 15) (.k (.int .i64 1)), none⟩,
           ⟨some 5, .mov (.t 16), none⟩]))))))
   (.seq (.reg [⟨some 4, .mov (.k (.bool true)), none⟩])
    (.ret))))⟩
theorem fok_laws_sameInts : FOk Tryd.prog 17 code_laws_sameInts := fok Tryd.func17 (by kernel_rfl)
@[simp] def ct_sameInts : Ct := ⟨17, List Int × List Int, fun _ => True, fun x => [encL 1 encInt x.1, encL 1 encInt x.2], fun x => .bool (decide (x.1 = x.2))⟩
theorem ok_sameInts : ct_sameInts.Ok Tryd.prog := by
  rintro ⟨xs, ys⟩ -
  refine Ok.lens fun hl => Ok.of_cw fok_laws_sameInts (go_ok tab_nil ?_)
  simp [lensOkL_cons, lensOk_encL] at hl
  simp [code_laws_sameInts, List.replicate]
  refine ⟨fun h => ?_, fun h => ?_⟩
  · intro e; exact absurd (by rw [e]) h
  refine cw_round (fun (p : Nat) => ⟨slots 26 [(0, encL 1 encInt xs), (1, encL 1 encInt ys), (5, .int .i64 p)], []⟩)
    (fun p => p ≤ xs.length ∧ xs.take p = ys.take p) (fun p => xs.length - p) 0 ⟨by omega, by simp⟩ ?_ ?_
  · exact weak_seal 0 (by omega) (by simp) (by simp [List.replicate])
  · rintro N hN i ⟨hi, hn⟩
    have hw : i < xs.length → IntKind.i64.wrap ((i : Int) + 1) = ((i + 1 : Nat) : Int) := fun h => by rw [wrap_i64] <;> omega
    refine go_ok tab_nil ?_
    by_cases g : i < xs.length
    · have g' : i < ys.length := by omega
      have g2 : ¬ xs.length ≤ i := by omega
      simp [List.replicate, hw, g, g', g2]
      refine ⟨fun e => ?_, fun e => ?_⟩
      · intro k; subst k; exact e rfl
      · refine hN _ (i + 1) _ ⟨by omega, ?_⟩ (by omega) (weak_seal 0 (by omega) ?_ ?_)
        · rw [List.take_succ_eq_append_getElem g, List.take_succ_eq_append_getElem g', hn, e]
        · simp
        · simp [List.replicate]
    · have g2 : xs.length ≤ i := by omega
      simp [List.replicate, g, g2]
      rw [List.take_of_length_le (by omega), List.take_of_length_le (by omega)] at hn
      exact hn
theorem canon_sz (h : Heap) : szHeap (canonH h) ≤ szHeap h := by
  change (canonH h).vars.length + (canonH h).next.length ≤ h.vars.length + h.next.length
  unfold canonH
  split
  · have := goodC_len (met_good h)
    simp only [List.length_map]; omega
  · simp
theorem vars_ok : szVarsOk [[120], [121], [116]] := ⟨by simp, by simp⟩
def code_laws_FnHeaps : F := ⟨110, [.tmp 2],
 .seq (.reg [⟨some 2, .mov (.k (.bool false)), none⟩])
 (.seq (.seq (.reg [⟨some 13, .mov (.t 0), none⟩,
      ⟨some 14, .call 4 [(.t 13)], none⟩])
   (.cond (.t 14)
    (.seq (.reg [⟨some 2, .mov (.k (.bool true)), none⟩])
     (.ret))
    (.skip)))
  (.seq (.reg [⟨some 15, .mov (.t 0), none⟩,
      ⟨some 16, .call 5 [(.t 15)], none⟩,
      ⟨some 3, .alloc [(.sl .nil 0 []), (.sl .nil 0 [])], none⟩,
      ⟨none, .store 2 (.t 3) (.t 16), none⟩])
   (.seq (.reg [⟨some 17, .load 2 true (.t 3), none⟩,
       ⟨some 18, .call 6 [(.t 17)], none⟩,
       ⟨some 4, .alloc [(.sl .nil 0 []), (.sl .nil 0 [])], none⟩,
       ⟨none, .store 2 (.t 4) (.t 18), none⟩])
    (.seq (.reg [⟨some 20, .mov (.t 0), none⟩,
        ⟨some 21, .call 7 [(.t 20)], none⟩,
        ⟨some 19, .mov (.t 21), none⟩,
        ⟨some 22, .extr (.t 19) 0, none⟩,
        ⟨some 23, .extr (.t 19) 1, none⟩,
        ⟨some 6, .alloc [(.sl .nil 0 []), (.sl .nil 0 [])], none⟩,
        ⟨some 5, .mov (.t 22), none⟩,
        ⟨none, .store 2 (.t 6) (.t 23), none⟩])
     (.seq (.seq (.dreg [false, false, false, true, true, true, false, false, false, true, true, true, true, true, true, true, true, false, false, false, true, true, true, true, false, false, false, false, false, true, true, true] [false, false, true, true, false, false, false, true, false, true, false, false, false, false, true, false, false, false, true, false, true, false, false, false, false, false, true, false, false, true, false, false] [⟨some 24, .load 2 true (.t 4), none⟩,
          ⟨some 25, .load 2 true (.t 3), none⟩,
          ⟨some 26, .call 9 [(.t 25)], none⟩,
          ⟨some 27, .call 8 [(.t 24), (.t 26)], none⟩,
          ⟨some 28, .not (.t 27), none⟩,
          ⟨some 29, .mov (.t 28), none⟩,
          ⟨some 30, .load 2 true (.t 4), some (29, false)⟩,
          ⟨some 31, .call 6 [(.t 30)], some (29, false)⟩,
          ⟨some 32, .load 2 true (.t 4), some (29, false)⟩,
          ⟨some 33, .call 8 [(.t 31), (.t 32)], some (29, false)⟩,
          ⟨some 34, .not (.t 33), some (29, false)⟩,
          ⟨some 35, .pick (.t 29) (.k (.bool true)) (.t 34), none⟩,
          ⟨some 36, .mov (.t 35), none⟩,
          ⟨some 37, .load 2 true (.t 4), some (36, false)⟩,
          ⟨some 38, .call 10 [(.t 37)], some (36, false)⟩,
          ⟨some 39, .pick (.t 36) (.k (.bool true)) (.t 38), none⟩,
          ⟨some 40, .mov (.t 39), none⟩,
          ⟨some 41, .load 2 true (.t 3), some (40, false)⟩,
          ⟨some 42, .call 10 [(.t 41)], some (40, false)⟩,
          ⟨some 43, .load 2 true (.t 3), some (40, false)⟩,
          ⟨some 44, .call 11 [(.t 43)], some (40, false)⟩,
          ⟨some 45, .beq true (.t 42) (.t 44), some (40, false)⟩,
          ⟨some 46, .pick (.t 40) (.k (.bool true)) (.t 45), none⟩,
          ⟨some 47, .mov (.t 46), none⟩,
          ⟨some 48, .mov (.t 5), some (47, false)⟩,
          ⟨some 49, .load 2 true (.t 6), some (47, false)⟩,
          ⟨some 50, .call 12 [(.t 48), (.t 49)], some (47, false)⟩,
          ⟨some 51, .mov (.t 5), some (47, false)⟩,
          ⟨some 52, .load 2 true (.t 6), some (47, false)⟩,
          ⟨some 53, .call 13 [(.t 51), (.t 52)], some (47, false)⟩,
          ⟨some 54, .beq true (.t 50) (.t 53), some (47, false)⟩,
          ⟨some 55, .pick (.t 47) (.k (.bool true)) (.t 54), none⟩])
       (.cond (.t 55)
        (.seq (.reg [⟨some 2, .mov (.k (.bool false)), none⟩])
         (.ret))
        (.skip)))
      (.seq (.seq (.dreg [false, false, true, true, false, false, false, true, true, true, true, true, true, true] [false, false, true, false, false, true, false, true, false, false, false, true, false, false] [⟨some 56, .mov (.t 5), none⟩,
           ⟨some 57, .load 2 true (.t 6), none⟩,
           ⟨some 58, .call 12 [(.t 56), (.t 57)], none⟩,
           ⟨some 59, .mov (.t 58), none⟩,
           ⟨some 60, .load 2 true (.t 6), some (59, true)⟩,
           ⟨some 61, .call 6 [(.t 60)], some (59, true)⟩,
           ⟨some 62, .load 2 true (.t 6), some (59, true)⟩,
           ⟨some 63, .call 8 [(.t 61), (.t 62)], some (59, true)⟩,
           ⟨some 64, .not (.t 63), some (59, true)⟩,
           ⟨some 65, .mov (.t 64), some (59, true)⟩,
           ⟨some 66, .load 2 true (.t 6), some (65, false)⟩,
           ⟨some 67, .call 10 [(.t 66)], some (65, false)⟩,
           ⟨some 68, .pick (.t 65) (.k (.bool true)) (.t 67), some (59, true)⟩,
           ⟨some 69, .pick (.t 59) (.t 68) (.k (.bool false)), none⟩])
        (.cond (.t 69)
         (.seq (.reg [⟨some 2, .mov (.k (.bool false)), none⟩])
          (.ret))
         (.skip)))
       (.seq (.reg [⟨some 71, .mov (.t 0), none⟩,
           ⟨some 72, .call 14 [(.t 71)], none⟩,
           ⟨some 70, .mov (.t 72), none⟩,
           ⟨some 73, .extr (.t 70) 0, none⟩,
           ⟨some 74, .extr (.t 70) 1, none⟩,
           ⟨some 7, .alloc [(.sl .nil 0 []), (.sl .nil 0 [])], none⟩,
           ⟨none, .store 2 (.t 7) (.t 73), none⟩,
           ⟨some 8, .mov (.t 74), none⟩])
        (.seq (.reg [⟨some 76, .mov (.t 0), none⟩,
            ⟨some 77, .call 15 [(.t 76)], none⟩,
            ⟨some 75, .mov (.t 77), none⟩,
            ⟨some 78, .extr (.t 75) 0, none⟩,
            ⟨some 79, .extr (.t 75) 1, none⟩,
            ⟨some 10, .alloc [(.sl .nil 0 []), (.sl .nil 0 [])], none⟩,
            ⟨some 9, .mov (.t 78), none⟩,
            ⟨none, .store 2 (.t 10) (.t 79), none⟩])
         (.seq (.reg [⟨some 81, .mov (.t 0), none⟩,
             ⟨some 82, .call 16 [(.t 81)], none⟩,
             ⟨some 80, .mov (.t 82), none⟩,
             ⟨some 83, .extr (.t 80) 0, none⟩,
             ⟨some 84, .extr (.t 80) 1, none⟩,
             ⟨some 11, .alloc [(.sl .nil 0 []), (.sl .nil 0 [])], none⟩,
             ⟨some 12, .alloc [(.sl .nil 0 []), (.sl .nil 0 [])], none⟩,
             ⟨none, .store 2 (.t 11) (.t 83), none⟩,
             ⟨none, .store 2 (.t 12) (.t 84), none⟩])
          (.seq (.dreg [false, false, false, false, false, true, true, true, false, false, false, false, false, true, true, true, true, false, false, false, false, false, true, true, true, true] [false, false, true, false, false, true, true, false, false, false, true, false, false, true, false, false, false, false, false, true, false, false, true, false, false, false] [⟨some 85, .load 2 true (.t 7), none⟩,
              ⟨some 86, .mov (.t 8), none⟩,
              ⟨some 87, .call 18 [(.t 85), (.t 86)], none⟩,
              ⟨some 88, .load 2 true (.t 7), none⟩,
              ⟨some 89, .mov (.t 8), none⟩,
              ⟨some 90, .call 19 [(.t 88), (.t 89)], none⟩,
              ⟨some 91, .call 17 [(.t 87), (.t 90)], none⟩,
              ⟨some 92, .mov (.t 91), none⟩,
              ⟨some 93, .mov (.t 9), some (92, true)⟩,
              ⟨some 94, .load 2 true (.t 10), some (92, true)⟩,
              ⟨some 95, .call 20 [(.t 93), (.t 94)], some (92, true)⟩,
              ⟨some 96, .mov (.t 9), some (92, true)⟩,
              ⟨some 97, .load 2 true (.t 10), some (92, true)⟩,
              ⟨some 98, .call 21 [(.t 96), (.t 97)], some (92, true)⟩,
              ⟨some 99, .bin .eql (.t 95) (.t 98), some (92, true)⟩,
              ⟨some 100, .pick (.t 92) (.t 99) (.k (.bool false)), none⟩,
              ⟨some 101, .mov (.t 100), none⟩,
              ⟨some 102, .load 2 true (.t 11), some (101, true)⟩,
              ⟨some 103, .load 2 true (.t 12), some (101, true)⟩,
              ⟨some 104, .call 8 [(.t 102), (.t 103)], some (101, true)⟩,
              ⟨some 105, .load 2 true (.t 11), some (101, true)⟩,
              ⟨some 106, .load 2 true (.t 12), some (101, true)⟩,
              ⟨some 107, .call 22 [(.t 105), (.t 106)], some (101, true)⟩,
              ⟨some 108, .beq false (.t 104) (.t 107), some (101, true)⟩,
              ⟨some 109, .pick (.t 101) (.t 108) (.k (.bool false)), none⟩,
              ⟨some 2, .mov (.t 109), none⟩])
           (.ret)))))))))))⟩
theorem fok_laws_FnHeaps : FOk Tryd.prog 3 code_laws_FnHeaps := fok Tryd.func3 (by kernel_rfl)
set_option maxHeartbeats 8000000 in
set_option maxRecDepth 100000 in
theorem ok_lawHeaps (bs : List UInt8) : Ok Tryd.prog 3 [encL 1 encU bs] (.bool true) := by
  by_cases hbs : bs.length ≤ 1048576
  · have hb2 : ¬ 1048576 < bs.length := by omega
    have hT : TabOk Tryd.prog _ := tab_cons ok_big (tab_cons ok_DrawCanonHeap (tab_cons ok_DrawIsHeap (tab_cons ok_DrawFollowed (tab_cons ok_DrawHeapText (tab_cons ok_DrawEqualHeap (tab_cons ok_pCanonC (tab_cons ok_sCanon (tab_cons ok_pEqualHeap (tab_cons ok_sEqualHeap
      (tab_cons ok_pHasLeak (tab_cons ok_sHasLeak (tab_cons ok_pIsHeap (tab_cons ok_sIsHeap (tab_cons ok_pFollowed (tab_cons ok_sFollowed (tab_cons ok_sameInts (tab_cons ok_pHeapText (tab_cons ok_sHeapText tab_nil))))))))))))))))))
    obtain ⟨b1, b2, -⟩ := bent_len (cur0 bs)
    have l1 : (drawCan bs).2.vars.length = 3 := b1
    have l2 : (drawCan bs).2.next.length ≤ 6 := b2
    have e1 : (drawFol bs).1 = (drawCan bs).2 := rfl
    have e2 : (drawEq bs).1 = (drawCan bs).2 := by unfold drawEq; split <;> rfl
    refine Ok.of_cw fok_laws_FnHeaps ?_
    simp only [code_laws_FnHeaps, frame, List.length_cons, List.length_nil, List.replicate, Nat.reduceSub, Nat.reduceAdd, List.cons_append, List.nil_append]
    refine cw_seq (go_ok hT ?_); simp [List.replicate]
    refine cw_seq (go_ok hT ?_); simp [List.replicate, hbs, hb2]
    refine cw_seq (go_ok hT ?_); simp [List.replicate, hbs]
    have z1 : szHeap (drawCan bs).2 ≤ 1048576 := by change (drawCan bs).2.vars.length + (drawCan bs).2.next.length ≤ _; omega
    have z2 : szHeap (canonH (drawCan bs).2) ≤ 1048576 := by
      have := canon_sz (drawCan bs).2
      omega
    have z3 : (drawCan bs).2.next.length ≤ 1048576 := by omega
    have hf : drawFol bs = ((drawCan bs).2, (drawFol bs).2) := rfl
    have hp := heap_canon (n := (drawCan bs).1) (g := (drawCan bs).2)
    generalize hD : drawCan bs = R at *
    obtain ⟨n, h⟩ := R
    simp only [] at l1 l2 z1 z2 z3 hp e1 e2 hf
    refine cw_seq (go_ok hT ?_); simp [List.replicate, z1]
    refine cw_seq (go_ok hT ?_); simp [List.replicate, hbs]
    simp only [hD]
    refine cw_weak (weak_seal (n0 := 0) 9 (by simp) (t' := slots 110 [(0, encL 1 encU bs), (3, .pbox 2 0), (4, .pbox 5 0), (5, .int .i64 n), (6, .pbox 8 0)]) (H' := [.dead, .dead, .cells [encL 1 encInt h.vars, encL 1 encInt h.next], .dead, .dead, .cells [encL 1 encInt (canonH h).vars, encL 1 encInt (canonH h).next], .dead, .dead, .cells [encL 1 encInt h.vars, encL 1 encInt h.next]]) ?_ ?_) ?_
    · simp
    · simp [List.replicate]
    refine cw_seq (cw_seq (go_ok hT ?_)); simp (maxSteps := 4000000) [List.replicate, z1, z2, canon_canon, canon_leak]
    refine go_ok hT ?_
    simp
    refine cw_weak (weak_seal (n0 := 0) 9 (by simp) (t' := slots 110 [(0, encL 1 encU bs), (5, .int .i64 n), (6, .pbox 8 0)]) (H' := [.dead, .dead, .dead, .dead, .dead, .dead, .dead, .dead, .cells [encL 1 encInt h.vars, encL 1 encInt h.next]]) ?_ ?_) ?_
    · simp
    · simp [List.replicate]
    refine cw_seq (cw_seq (go_ok hT ?_))
    by_cases q : isHeapB n h = true
    · obtain ⟨hp1, hp2⟩ := hp q
      simp (maxSteps := 4000000) [List.replicate, z1, q, hp1, hp2]
      refine go_ok hT ?_
      simp
      refine cw_weak (weak_seal (n0 := 0) 0 (by simp) (t' := slots 110 [(0, encL 1 encU bs)]) (H' := []) ?_ ?_) ?_
      · simp
      · simp [List.replicate]
      refine cw_seq (go_ok hT ?_); simp [List.replicate, hbs]
      refine cw_seq (go_ok hT ?_); simp [List.replicate, hbs]
      refine cw_seq (go_ok hT ?_); simp [List.replicate, hbs]
      simp only [hD, e1, e2]
      refine cw_seq (go_ok hT ?_); simp (maxSteps := 4000000) [List.replicate, z1, z3, vars_ok]
      refine go_ok hT ?_; simp
    · simp only [Bool.not_eq_true] at q
      simp (maxSteps := 4000000) [List.replicate, z1, q]
      refine go_ok hT ?_
      simp
      refine cw_weak (weak_seal (n0 := 0) 0 (by simp) (t' := slots 110 [(0, encL 1 encU bs)]) (H' := []) ?_ ?_) ?_
      · simp
      · simp [List.replicate]
      refine cw_seq (go_ok hT ?_); simp [List.replicate, hbs]
      refine cw_seq (go_ok hT ?_); simp [List.replicate, hbs]
      refine cw_seq (go_ok hT ?_); simp [List.replicate, hbs]
      simp only [hD, e1, e2]
      refine cw_seq (go_ok hT ?_); simp (maxSteps := 4000000) [List.replicate, z1, z3, vars_ok]
      refine go_ok hT ?_; simp
  · have hb2 : 1048576 < bs.length := by omega
    refine Ok.of_cw fok_laws_FnHeaps (go_ok (tab_cons ok_big tab_nil) ?_)
    simp [code_laws_FnHeaps, List.replicate, hb2]
end Go.Vm
