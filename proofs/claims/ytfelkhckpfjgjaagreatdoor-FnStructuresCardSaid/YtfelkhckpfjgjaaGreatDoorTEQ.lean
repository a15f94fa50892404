/- The text of a structure: both. No condition. -/
import Derived.Test.YtfelkhckpfjgjaaGreatDoorTST
import Derived.Test.YtfelkhckpfjgjaaGreatDoorTGD
import Derived.Test.YtfelkhckpfjgjaaGreatDoorTNX
import Derived.Test.YtfelkhckpfjgjaaGreatDoorTTR
import Derived.Test.YtfelkhckpfjgjaaGreatDoorTSL
set_option linter.unusedSimpArgs false
set_option linter.unusedVariables false
namespace Go.Vm
open Go.Proofs
def code_spec_l12Values : F := ⟨19, [.tmp 2],
 .seq (.reg [⟨some 2, .mov (.k (.str [])), none⟩])
 (.seq (.reg [⟨some 3, .mov (.k (.str [])), none⟩])
  (.seq (.seq (.reg [⟨some 4, .mov (.k (.int .i64 0)), none⟩])
    (.block 0 (.loop (.seq (.seq (.reg [⟨some 5, .mov (.t 4), none⟩,
           ⟨some 6, .mov (.t 0), none⟩,
           ⟨some 7, .len (.t 6), none⟩,
           ⟨some 8, .bin .lss (.t 5) (.t 7), none⟩])
        (.cond (.t 8)
         (.skip)
         (.exit 0)))
       (.seq (.block 1 (.reg [⟨some 11, .mov (.t 3), none⟩,
            ⟨some 12, .mov (.t 0), none⟩,
            ⟨some 13, .mov (.t 4), none⟩,
            ⟨some 14, .iaddr 1 (.t 12) (.t 13), none⟩,
            ⟨some 15, .load 1 false (.t 14), none⟩,
            ⟨some 16, .call 67 [(.t 15)], none⟩,
            ⟨some 17, .bin .add (.t 11) (.t 16), none⟩,
            ⟨some 3, .mov (.t 17), none⟩]))
        (.reg [⟨some 9, .mov (.t 4), none⟩,
           ⟨some 10, .bin .add (.t 9) (.k (.int .i64 1)), none⟩,
           ⟨some 4, .mov (.t 10), none⟩]))))))
   (.seq (.reg [⟨some 18, .mov (.t 3), none⟩,
       ⟨some 2, .mov (.t 18), none⟩])
    (.ret))))⟩
theorem fok_spec_l12Values : FOk Tryz.prog 66 code_spec_l12Values := fok Tryz.func66 (by kernel_rfl)
def code_impl_truthTexts : F := ⟨18, [.tmp 2],
 .seq (.reg [⟨some 2, .mov (.k (.str [])), none⟩])
 (.seq (.reg [⟨some 3, .mov (.k (.str [])), none⟩])
  (.seq (.seq (.reg [⟨some 6, .mov (.t 0), none⟩,
       ⟨some 7, .len (.t 6), none⟩,
       ⟨some 8, .mov (.k (.int .i64 0)), none⟩])
    (.block 0 (.loop (.seq (.reg [⟨some 9, .bin .lss (.t 8) (.t 7), none⟩])
       (.seq (.cond (.t 9)
         (.skip)
         (.exit 0))
        (.seq (.block 1 (.seq (.reg [⟨some 10, .iaddr 1 (.t 6) (.t 8), none⟩,
              ⟨some 11, .load 1 false (.t 10), none⟩,
              ⟨some 5, .mov (.t 11), none⟩])
           (.reg [⟨some 12, .mov (.t 3), none⟩,
              ⟨some 13, .mov (.t 5), none⟩,
              ⟨some 14, .call 61 [(.t 13)], none⟩,
              ⟨some 15, .bin .add (.t 12) (.t 14), none⟩,
              ⟨some 3, .mov (.t 15), none⟩])))
         (.reg [⟨some 16, .bin .add (.t 8) (.k (.int .i64 1)), none⟩,
            ⟨some 8, .mov (.t 16), none⟩])))))))
   (.seq (.reg [⟨some 17, .mov (.t 3), none⟩,
       ⟨some 2, .mov (.t 17), none⟩])
    (.ret))))⟩
theorem fok_impl_truthTexts : FOk Tryz.prog 43 code_impl_truthTexts := fok Tryz.func43 (by kernel_rfl)
def code_spec_l12Node : F := ⟨66, [.tmp 4],
 .seq (.reg [⟨some 2, .box (.t 0), none⟩,
    ⟨some 4, .mov (.k (.str [])), none⟩])
 (.seq (.reg [⟨some 9, .faddr 0 (.t 2), none⟩,
     ⟨some 10, .load 1 false (.t 9), none⟩,
     ⟨some 11, .mov (.t 1), none⟩,
     ⟨some 12, .iaddr 4 (.t 10) (.t 11), none⟩,
     ⟨some 13, .load 4 true (.t 12), none⟩,
     ⟨some 5, .alloc [(.sl .nil 0 []), (.sl .nil 0 []), (.int .i64 0), (.int .i64 0)], none⟩,
     ⟨none, .store 4 (.t 5) (.t 13), none⟩])
  (.seq (.dreg [false, false, false, false, false, false, false, false, false, false, true, true] [false, false, true, false, false, true, false, false, false, true, false, false] [⟨some 14, .faddr 0 (.t 5), none⟩,
      ⟨some 15, .load 1 false (.t 14), none⟩,
      ⟨some 16, .call 66 [(.t 15)], none⟩,
      ⟨some 17, .faddr 1 (.t 5), none⟩,
      ⟨some 18, .load 1 false (.t 17), none⟩,
      ⟨some 19, .call 66 [(.t 18)], none⟩,
      ⟨some 20, .bin .add (.t 16) (.t 19), none⟩,
      ⟨some 21, .faddr 2 (.t 5), none⟩,
      ⟨some 22, .load 1 false (.t 21), none⟩,
      ⟨some 23, .call 67 [(.t 22)], none⟩,
      ⟨some 24, .bin .add (.t 20) (.t 23), none⟩,
      ⟨some 6, .mov (.t 24), none⟩])
   (.seq (.seq (.reg [⟨some 25, .faddr 3 (.t 5), none⟩,
        ⟨some 26, .load 1 false (.t 25), none⟩,
        ⟨some 27, .bin .eql (.t 26) (.k (.int .i64 1)), none⟩])
     (.cond (.t 27)
      (.reg [⟨some 28, .mov (.t 6), none⟩,
         ⟨some 29, .bin .add (.t 28) (.k (.str [42])), none⟩,
         ⟨some 6, .mov (.t 29), none⟩])
      (.skip)))
    (.seq (.reg [⟨some 30, .bsl 9 1 0 (.str []) [], none⟩,
        ⟨some 7, .mov (.t 30), none⟩])
     (.seq (.seq (.reg [⟨some 8, .mov (.k (.int .i64 0)), none⟩])
       (.block 0 (.loop (.seq (.seq (.reg [⟨some 31, .mov (.t 8), none⟩,
              ⟨some 32, .faddr 0 (.t 2), none⟩,
              ⟨some 33, .load 1 false (.t 32), none⟩,
              ⟨some 34, .len (.t 33), none⟩,
              ⟨some 35, .bin .lss (.t 31) (.t 34), none⟩])
           (.cond (.t 35)
            (.skip)
            (.exit 0)))
          (.seq (.block 1 (.seq (.reg [⟨some 38, .load 2 true (.t 2), none⟩,
                ⟨some 39, .mov (.t 1), none⟩,
                ⟨some 40, .mov (.t 8), none⟩,
                ⟨some 41, .call 14 [(.t 38), (.t 39), (.t 40)], none⟩])
             (.block 2 (.seq (.reg [⟨some 43, .bin .eql (.t 41) (.k (.int .i64 2)), none⟩,
                  ⟨some 42, .mov (.t 43), none⟩])
               (.cond (.t 42)
                (.reg [⟨some 44, .mov (.t 7), none⟩,
                   ⟨some 45, .mov (.t 8), none⟩,
                   ⟨some 46, .call 68 [(.t 45)], none⟩,
                   ⟨some 47, .bsl 9 1 1 (.str []) [(0, (.t 46))], none⟩,
                   ⟨some 48, .append 9 1 16 (.t 44) (.t 47), none⟩,
                   ⟨some 7, .mov (.t 48), none⟩])
                (.seq (.reg [⟨some 50, .bin .eql (.t 41) (.k (.int .i64 1)), none⟩,
                    ⟨some 49, .mov (.t 50), none⟩])
                 (.cond (.t 49)
                  (.reg [⟨some 51, .mov (.t 7), none⟩,
                     ⟨some 52, .mov (.t 8), none⟩,
                     ⟨some 53, .call 68 [(.t 52)], none⟩,
                     ⟨some 54, .bin .add (.t 53) (.k (.str [63])), none⟩,
                     ⟨some 55, .bsl 9 1 1 (.str []) [(0, (.t 54))], none⟩,
                     ⟨some 56, .append 9 1 16 (.t 51) (.t 55), none⟩,
                     ⟨some 7, .mov (.t 56), none⟩])
                  (.skip))))))))
           (.reg [⟨some 36, .mov (.t 8), none⟩,
              ⟨some 37, .bin .add (.t 36) (.k (.int .i64 1)), none⟩,
              ⟨some 8, .mov (.t 37), none⟩]))))))
      (.seq (.seq (.reg [⟨some 57, .mov (.t 7), none⟩,
           ⟨some 58, .len (.t 57), none⟩,
           ⟨some 59, .bin .gtr (.t 58) (.k (.int .i64 0)), none⟩])
        (.cond (.t 59)
         (.reg [⟨some 60, .mov (.t 6), none⟩,
            ⟨some 61, .bin .add (.t 60) (.k (.str [62])), none⟩,
            ⟨some 62, .mov (.t 7), none⟩,
            ⟨some 63, .call 48 [(.t 62), (.k (.str [44]))], none⟩,
            ⟨some 64, .bin .add (.t 61) (.t 63), none⟩,
            ⟨some 6, .mov (.t 64), none⟩])
         (.skip)))
       (.seq (.reg [⟨some 65, .mov (.t 6), none⟩,
           ⟨some 4, .mov (.t 65), none⟩])
        (.ret))))))))⟩
theorem fok_spec_l12Node : FOk Tryz.prog 47 code_spec_l12Node := fok Tryz.func47 (by kernel_rfl)
def code_spec_StructureText : F := ⟨36, [.tmp 4],
 .seq (.reg [⟨some 3, .box (.t 1), none⟩,
    ⟨some 4, .mov (.k (.str [])), none⟩])
 (.seq (.seq (.reg [⟨some 7, .mov (.t 0), none⟩,
      ⟨some 8, .call 46 [(.t 7)], none⟩,
      ⟨some 9, .not (.t 8), none⟩,
      ⟨some 10, .mov (.t 9), none⟩,
      ⟨some 11, .mov (.t 0), some (10, false)⟩,
      ⟨some 12, .len (.t 11), some (10, false)⟩,
      ⟨some 13, .load 2 true (.t 3), some (10, false)⟩,
      ⟨some 14, .call 12 [(.t 12), (.t 13)], some (10, false)⟩,
      ⟨some 15, .not (.t 14), some (10, false)⟩,
      ⟨some 16, .pick (.t 10) (.k (.bool true)) (.t 15), none⟩])
   (.cond (.t 16)
    (.seq (.reg [⟨some 4, .mov (.k (.str [])), none⟩])
     (.ret))
    (.skip)))
  (.seq (.reg [⟨some 17, .bsl 9 1 0 (.str []) [], none⟩,
      ⟨some 5, .mov (.t 17), none⟩])
   (.seq (.seq (.reg [⟨some 6, .mov (.k (.int .i64 0)), none⟩])
     (.block 0 (.loop (.seq (.seq (.reg [⟨some 18, .mov (.t 6), none⟩,
            ⟨some 19, .faddr 0 (.t 3), none⟩,
            ⟨some 20, .load 1 false (.t 19), none⟩,
            ⟨some 21, .len (.t 20), none⟩,
            ⟨some 22, .bin .lss (.t 18) (.t 21), none⟩])
         (.cond (.t 22)
          (.skip)
          (.exit 0)))
        (.seq (.block 1 (.reg [⟨some 25, .mov (.t 5), none⟩,
             ⟨some 26, .load 2 true (.t 3), none⟩,
             ⟨some 27, .mov (.t 6), none⟩,
             ⟨some 28, .call 47 [(.t 26), (.t 27)], none⟩,
             ⟨some 29, .bsl 9 1 1 (.str []) [(0, (.t 28))], none⟩,
             ⟨some 30, .append 9 1 16 (.t 25) (.t 29), none⟩,
             ⟨some 5, .mov (.t 30), none⟩]))
         (.reg [⟨some 23, .mov (.t 6), none⟩,
            ⟨some 24, .bin .add (.t 23) (.k (.int .i64 1)), none⟩,
            ⟨some 6, .mov (.t 24), none⟩]))))))
    (.seq (.seq (.reg [⟨some 31, .mov (.t 5), none⟩,
         ⟨some 32, .len (.t 31), none⟩,
         ⟨some 33, .bin .eql (.t 32) (.k (.int .i64 0)), none⟩])
      (.cond (.t 33)
       (.seq (.reg [⟨some 4, .mov (.k (.str [45])), none⟩])
        (.ret))
       (.skip)))
     (.seq (.reg [⟨some 34, .mov (.t 5), none⟩,
         ⟨some 35, .call 48 [(.t 34), (.k (.str [32]))], none⟩,
         ⟨some 4, .mov (.t 35), none⟩])
      (.ret))))))⟩
theorem fok_spec_StructureText : FOk Tryz.prog 18 code_spec_StructureText := fok Tryz.func18 (by kernel_rfl)
def code_impl_StructureText : F := ⟨93, [.tmp 4],
 .seq (.reg [⟨some 3, .box (.t 1), none⟩,
    ⟨some 4, .mov (.k (.str [])), none⟩])
 (.seq (.seq (.reg [⟨some 11, .mov (.t 0), none⟩,
      ⟨some 12, .call 42 [(.t 11)], none⟩,
      ⟨some 13, .not (.t 12), none⟩,
      ⟨some 14, .mov (.t 13), none⟩,
      ⟨some 15, .mov (.t 0), some (14, false)⟩,
      ⟨some 16, .len (.t 15), some (14, false)⟩,
      ⟨some 17, .load 2 true (.t 3), some (14, false)⟩,
      ⟨some 18, .call 11 [(.t 16), (.t 17)], some (14, false)⟩,
      ⟨some 19, .not (.t 18), some (14, false)⟩,
      ⟨some 20, .pick (.t 14) (.k (.bool true)) (.t 19), none⟩])
   (.cond (.t 20)
    (.seq (.reg [⟨some 4, .mov (.k (.str [])), none⟩])
     (.ret))
    (.skip)))
  (.seq (.seq (.reg [⟨some 21, .faddr 0 (.t 3), none⟩,
       ⟨some 22, .load 1 false (.t 21), none⟩,
       ⟨some 23, .len (.t 22), none⟩,
       ⟨some 24, .bin .eql (.t 23) (.k (.int .i64 0)), none⟩])
    (.cond (.t 24)
     (.seq (.reg [⟨some 4, .mov (.k (.str [45])), none⟩])
      (.ret))
     (.skip)))
   (.seq (.reg [⟨some 25, .bsl 9 1 0 (.str []) [], none⟩,
       ⟨some 5, .mov (.t 25), none⟩])
    (.seq (.seq (.reg [⟨some 26, .faddr 0 (.t 3), none⟩,
         ⟨some 27, .load 1 false (.t 26), none⟩,
         ⟨some 28, .len (.t 27), none⟩,
         ⟨some 29, .mov (.k (.int .i64 0)), none⟩])
      (.block 0 (.loop (.seq (.reg [⟨some 30, .bin .lss (.t 29) (.t 28), none⟩])
         (.seq (.cond (.t 30)
           (.skip)
           (.exit 0))
          (.seq (.block 1 (.seq (.reg [⟨some 31, .mov (.t 29), none⟩,
                ⟨some 32, .iaddr 4 (.t 27) (.t 29), none⟩,
                ⟨some 33, .load 4 true (.t 32), none⟩,
                ⟨some 7, .alloc [(.sl .nil 0 []), (.sl .nil 0 []), (.int .i64 0), (.int .i64 0)], none⟩,
                ⟨some 6, .mov (.t 31), none⟩,
                ⟨none, .store 4 (.t 7) (.t 33), none⟩])
             (.seq (.dreg [false, false, false, false, false, false, false, false, false, false, false, true, true] [false, false, true, false, false, true, false, false, false, false, true, false, false] [⟨some 34, .faddr 0 (.t 7), none⟩,
                 ⟨some 35, .load 1 false (.t 34), none⟩,
                 ⟨some 36, .call 43 [(.t 35)], none⟩,
                 ⟨some 37, .faddr 1 (.t 7), none⟩,
                 ⟨some 38, .load 1 false (.t 37), none⟩,
                 ⟨some 39, .call 43 [(.t 38)], none⟩,
                 ⟨some 40, .bin .add (.t 36) (.t 39), none⟩,
                 ⟨some 41, .faddr 2 (.t 7), none⟩,
                 ⟨some 42, .load 1 false (.t 41), none⟩,
                 ⟨some 43, .bsl 3 1 1 (.int .i64 0) [(0, (.t 42))], none⟩,
                 ⟨some 44, .call 43 [(.t 43)], none⟩,
                 ⟨some 45, .bin .add (.t 40) (.t 44), none⟩,
                 ⟨some 8, .mov (.t 45), none⟩])
              (.seq (.seq (.reg [⟨some 46, .faddr 3 (.t 7), none⟩,
                   ⟨some 47, .load 1 false (.t 46), none⟩,
                   ⟨some 48, .bin .eql (.t 47) (.k (.int .i64 1)), none⟩])
                (.cond (.t 48)
                 (.reg [⟨some 49, .mov (.t 8), none⟩,
                    ⟨some 50, .bin .add (.t 49) (.k (.str [42])), none⟩,
                    ⟨some 8, .mov (.t 50), none⟩])
                 (.skip)))
               (.seq (.reg [⟨some 51, .bsl 9 1 0 (.str []) [], none⟩,
                   ⟨some 9, .mov (.t 51), none⟩])
                (.seq (.seq (.reg [⟨some 52, .faddr 0 (.t 3), none⟩,
                     ⟨some 53, .load 1 false (.t 52), none⟩,
                     ⟨some 54, .len (.t 53), none⟩,
                     ⟨some 55, .mov (.k (.int .i64 0)), none⟩])
                  (.block 2 (.loop (.seq (.reg [⟨some 56, .bin .lss (.t 55) (.t 54), none⟩])
                     (.seq (.cond (.t 56)
                       (.skip)
                       (.exit 2))
                      (.seq (.block 3 (.seq (.reg [⟨some 57, .mov (.t 55), none⟩,
                            ⟨some 10, .mov (.t 57), none⟩])
                         (.seq (.reg [⟨some 58, .load 2 true (.t 3), none⟩,
                             ⟨some 59, .mov (.t 6), none⟩,
                             ⟨some 60, .mov (.t 10), none⟩,
                             ⟨some 61, .call 13 [(.t 58), (.t 59), (.t 60)], none⟩])
                          (.block 4 (.seq (.reg [⟨some 63, .bin .eql (.t 61) (.k (.int .i64 2)), none⟩,
                               ⟨some 62, .mov (.t 63), none⟩])
                            (.cond (.t 62)
                             (.reg [⟨some 64, .mov (.t 9), none⟩,
                                ⟨some 65, .mov (.t 10), none⟩,
                                ⟨some 66, .call 44 [(.t 65)], none⟩,
                                ⟨some 67, .bsl 9 1 1 (.str []) [(0, (.t 66))], none⟩,
                                ⟨some 68, .append 9 1 16 (.t 64) (.t 67), none⟩,
                                ⟨some 9, .mov (.t 68), none⟩])
                             (.seq (.reg [⟨some 70, .bin .eql (.t 61) (.k (.int .i64 1)), none⟩,
                                 ⟨some 69, .mov (.t 70), none⟩])
                              (.cond (.t 69)
                               (.reg [⟨some 71, .mov (.t 9), none⟩,
                                  ⟨some 72, .mov (.t 10), none⟩,
                                  ⟨some 73, .call 44 [(.t 72)], none⟩,
                                  ⟨some 74, .bin .add (.t 73) (.k (.str [63])), none⟩,
                                  ⟨some 75, .bsl 9 1 1 (.str []) [(0, (.t 74))], none⟩,
                                  ⟨some 76, .append 9 1 16 (.t 71) (.t 75), none⟩,
                                  ⟨some 9, .mov (.t 76), none⟩])
                               (.skip)))))))))
                       (.reg [⟨some 77, .bin .add (.t 55) (.k (.int .i64 1)), none⟩,
                          ⟨some 55, .mov (.t 77), none⟩])))))))
                 (.seq (.seq (.reg [⟨some 78, .mov (.t 9), none⟩,
                      ⟨some 79, .len (.t 78), none⟩,
                      ⟨some 80, .bin .gtr (.t 79) (.k (.int .i64 0)), none⟩])
                   (.cond (.t 80)
                    (.reg [⟨some 81, .mov (.t 8), none⟩,
                       ⟨some 82, .mov (.t 9), none⟩,
                       ⟨some 83, .call 45 [(.t 82), (.k (.str [44]))], none⟩,
                       ⟨some 84, .bin .add (.k (.str [62])) (.t 83), none⟩,
                       ⟨some 85, .bin .add (.t 81) (.t 84), none⟩,
                       ⟨some 8, .mov (.t 85), none⟩])
                    (.skip)))
                  (.reg [⟨some 86, .mov (.t 5), none⟩,
                     ⟨some 87, .mov (.t 8), none⟩,
                     ⟨some 88, .bsl 9 1 1 (.str []) [(0, (.t 87))], none⟩,
                     ⟨some 89, .append 9 1 16 (.t 86) (.t 88), none⟩,
                     ⟨some 5, .mov (.t 89), none⟩]))))))))
           (.reg [⟨some 90, .bin .add (.t 29) (.k (.int .i64 1)), none⟩,
              ⟨some 29, .mov (.t 90), none⟩])))))))
     (.seq (.reg [⟨some 91, .mov (.t 5), none⟩,
         ⟨some 92, .call 45 [(.t 91), (.k (.str [32]))], none⟩,
         ⟨some 4, .mov (.t 92), none⟩])
      (.ret))))))⟩
theorem fok_impl_StructureText : FOk Tryz.prog 17 code_impl_StructureText := fok Tryz.func17 (by kernel_rfl)
def ttS (l : List Int) : List UInt8 := l.flatMap truthText
theorem ttS_take {l : List Int} {k : Nat} (h : k < l.length) : ttS (l.take (k + 1)) = ttS (l.take k) ++ truthText l[k] := by
  rw [ttS, ttS, List.take_succ_eq_append_getElem h, List.flatMap_append]; simp
theorem ttS_len : ∀ l : List Int, (ttS l).length ≤ l.length
  | [] => by simp [ttS]
  | a :: l => by
    have := ttS_len l
    have := truthText_len a
    have e : ttS (a :: l) = truthText a ++ ttS l := by simp [ttS]
    rw [e, List.length_append, List.length_cons]; omega
theorem enc_one (a : Int) : mksl 1 [.int .i64 a] = encL 1 encInt [a] := (rfl)
theorem ttS_one (a : Int) : ttS [a] = truthText a := by simp [ttS]
@[simp] def ct_l12Values : Ct := ⟨66, List Int, fun x => x.length ≤ 1048576, fun x => [encL 1 encInt x], fun x => .str (ttS x)⟩
set_option maxHeartbeats 1000000 in
theorem ok_l12Values : ct_l12Values.Ok Tryz.prog := by
  intro xs h1
  change List Int at xs
  change xs.length ≤ 1048576 at h1
  refine Ok.of_cw fok_spec_l12Values (go_ok tab_nil ?_)
  simp [code_spec_l12Values, List.replicate]
  refine cw_round (fun (k : Nat) => ⟨slots 19 [(0, encL 1 encInt xs), (3, .str (ttS (xs.take k))), (4, .int .i64 k)], []⟩)
    (fun k => k ≤ xs.length) (fun k => xs.length - k) 0 (by simp) ?_ ?_
  · refine weak_less ?_ ?_
    · simp
    · simp [List.replicate, ttS]
  · rintro N hN k hk
    have hw : IntKind.i64.wrap ((k : Int) + 1) = ((k + 1 : Nat) : Int) := by rw [wrap_i64] <;> omega
    by_cases g : k < xs.length
    · have g2 : ¬ xs.length ≤ k := by omega
      have hl := ttS_len (xs.take k)
      rw [List.length_take] at hl
      have hl2 := truthText_len xs[k]
      have b1 : (ttS (xs.take k)).length + (truthText xs[k]).length ≤ 4611686018427387904 := by omega
      refine go_ok (tab_cons ok_sTruthText tab_nil) ?_
      simp [List.replicate, hw, g, g2, b1]
      refine hN k (k + 1) _ (by omega) (by omega) (weak_less ?_ ?_)
      · simp
      · simp [List.replicate, ttS_take g]
    · have e : k = xs.length := by omega
      subst e
      refine go_ok tab_nil ?_
      simp [List.replicate, hw]
@[simp] def ct_truthTexts : Ct := ⟨43, List Int, fun x => x.length ≤ 1048576, fun x => [encL 1 encInt x], fun x => .str (ttS x)⟩
set_option maxHeartbeats 1000000 in
theorem ok_truthTexts : ct_truthTexts.Ok Tryz.prog := by
  intro xs h1
  change List Int at xs
  change xs.length ≤ 1048576 at h1
  refine Ok.of_cw fok_impl_truthTexts (go_ok tab_nil ?_)
  simp [code_impl_truthTexts, List.replicate]
  refine cw_round (fun (k : Nat) => ⟨slots 18 [(3, .str (ttS (xs.take k))), (6, encL 1 encInt xs), (7, .int .i64 xs.length), (8, .int .i64 k)], []⟩)
    (fun k => k ≤ xs.length) (fun k => xs.length - k) 0 (by simp) ?_ ?_
  · refine weak_less ?_ ?_
    · simp
    · simp [List.replicate, ttS]
  · rintro N hN k hk
    have hw : IntKind.i64.wrap ((k : Int) + 1) = ((k + 1 : Nat) : Int) := by rw [wrap_i64] <;> omega
    by_cases g : k < xs.length
    · have g2 : ¬ xs.length ≤ k := by omega
      have hl := ttS_len (xs.take k)
      rw [List.length_take] at hl
      have hl2 := truthText_len xs[k]
      have b1 : (ttS (xs.take k)).length + (truthText xs[k]).length ≤ 4611686018427387904 := by omega
      refine go_ok (tab_cons ok_pTruthText tab_nil) ?_
      simp [List.replicate, hw, g, g2, b1]
      refine hN k (k + 1) _ (by omega) (by omega) (weak_less ?_ ?_)
      · simp
      · simp [List.replicate, ttS_take g]
    · have e : k = xs.length := by omega
      subst e
      refine go_ok tab_nil ?_
      simp [List.replicate, hw]
def tgS (x : Strc) (i j : Nat) : List (List UInt8) := if nextOf x i j = 2 then [digS j] else if nextOf x i j = 1 then [digS j ++ [63]] else []
def targS (x : Strc) (i k : Nat) : List (List UInt8) := (List.range k).flatMap (tgS x i)
theorem targS_succ (x : Strc) (i k : Nat) : targS x i (k + 1) = targS x i k ++ tgS x i k := by simp [targS, List.range_succ]
theorem targS_len (x : Strc) (i : Nat) : ∀ k, (targS x i k).length ≤ k
  | 0 => by simp [targS]
  | k + 1 => by
    have := targS_len x i k
    rw [targS_succ, List.length_append]
    unfold tgS
    (repeat' split) <;> simp <;> omega
theorem targS_mem (x : Strc) (i k : Nat) : ∀ s ∈ targS x i k, s.length ≤ 2 := by
  intro s hs
  simp only [targS, List.mem_flatMap] at hs
  obtain ⟨j, -, hs⟩ := hs
  unfold tgS at hs
  split at hs
  · simp at hs; subst hs; simp [digS]
  · split at hs
    · simp at hs; subst hs; simp [digS]
    · simp at hs
def baseS (n : Node) : List UInt8 := ttS n.vars ++ (ttS n.reach ++ truthText n.shared)
def baseT (n : Node) : List UInt8 := if n.many = 1 then baseS n ++ [42] else baseS n
def tailS (l : List (List UInt8)) : List UInt8 := if l = [] then [] else 62 :: joinS l [44]
def nodeS (x : Strc) (i : Nat) : List UInt8 := baseT (x.nodes.getD i default) ++ tailS (targS x i x.nodes.length)
theorem tailS_len {l : List (List UInt8)} (h : l.length ≤ 10) (h2 : ∀ s ∈ l, s.length ≤ 2) : (tailS l).length ≤ 31 := by
  unfold tailS
  split
  · simp
  · have := joinS_len [44] 2 l h2
    simp only [List.length_cons, List.length_nil] at this ⊢
    omega
theorem baseT_len {n : Node} : (baseT n).length ≤ n.vars.length + n.reach.length + 2 := by
  have h1 := ttS_len n.vars
  have h2 := ttS_len n.reach
  have h3 := truthText_len n.shared
  unfold baseT baseS
  split <;> simp <;> omega
@[simp] def ct_l12Node : Ct := ⟨47, Strc × Int, fun x => szStrc x.1 ≤ 1048576 ∧ x.1.nodes.length ≤ 10 ∧ 0 ≤ x.2 ∧ x.2 < x.1.nodes.length, fun x => [encStrc x.1, .int .i64 x.2], fun x => .str (nodeS x.1 x.2.toNat)⟩
set_option maxHeartbeats 4000000 in
set_option maxRecDepth 100000 in
theorem ok_l12Node : ct_l12Node.Ok Tryz.prog := by
  rintro ⟨x, i⟩ ⟨hx, h10, h0, hi⟩
  change szStrc x ≤ 1048576 at hx
  change x.nodes.length ≤ 10 at h10
  change 0 ≤ i at h0
  obtain ⟨i, rfl⟩ := Int.eq_ofNat_of_zero_le h0
  replace hi : i < x.nodes.length := by simpa using hi
  have hge : x.nodes[i]? = some x.nodes[i] := by simp [hi]
  have hnd := node_le (List.mem_of_getElem? hge)
  have hgd : x.nodes.getD i default = x.nodes[i] := by simp [hi]
  generalize hn : x.nodes[i] = n at *
  have hv : n.vars.length ≤ 1048576 := by omega
  have hr : n.reach.length ≤ 1048576 := by omega
  have l1 := ttS_len n.vars
  have l2 := ttS_len n.reach
  have l3 := truthText_len n.shared
  have b1 : (ttS n.vars).length + (ttS n.reach).length ≤ 4611686018427387904 := by omega
  have b2 : (ttS n.vars).length + ((ttS n.reach).length + (truthText n.shared).length) ≤ 4611686018427387904 := by omega
  have b3 : (ttS n.vars).length + ((ttS n.reach).length + ((truthText n.shared).length + 1)) ≤ 4611686018427387904 := by omega
  have hi2 : ¬ x.nodes.length ≤ i := by omega
  have hbl := baseT_len (n := n)
  have hT : TabOk Tryz.prog _ := tab_cons ok_l12Values (tab_cons ok_sTruthText tab_nil)
  refine Ok.of_cw fok_spec_l12Node ?_
  simp only [code_spec_l12Node, frame, List.length_cons, List.length_nil, List.replicate, Nat.reduceSub, Nat.reduceAdd, List.cons_append, List.nil_append]
  refine cw_seq (go_ok hT ?_); simp [List.replicate]
  refine cw_seq (go_ok hT ?_); simp [List.replicate, hi, hi2, hn]
  refine cw_seq (go_ok hT ?_); simp [List.replicate, hv, hr, b1, b2, Nat.add_assoc]
  have hC : baseT n = if n.many = 1 then ttS n.vars ++ (ttS n.reach ++ (truthText n.shared ++ [42])) else ttS n.vars ++ (ttS n.reach ++ truthText n.shared) := by
    unfold baseT baseS; split <;> simp
  have hR : nodeS x i = baseT n ++ tailS (targS x i x.nodes.length) := by rw [nodeS, hgd]
  refine cw_cut (fun st => ∃ t, st = ⟨t, [.cells [encL 4 encNode x.nodes, encL 1 encInt x.next], .nrow, .nrow, .cells [encL 1 encInt n.vars, encL 1 encInt n.reach, .int .i64 n.shared, .int .i64 n.many]]⟩ ∧ All2 LessS t (slots 66 [(1, .int .i64 i), (2, .pbox 0 0), (6, .str (baseT n))])) ?_ ?_
  · by_cases hm : n.many = 1
    · refine go_ok hT ?_
      rw [if_pos hm] at hC
      simp [List.replicate, hm, b3, Nat.add_assoc, hC]
    · refine go_ok hT ?_
      rw [if_neg hm] at hC
      simp [List.replicate, hm, hC]
  rintro st ⟨t, rfl, ht⟩
  refine cw_weak (weak_less (n0 := 0) (t' := slots 66 [(1, .int .i64 i), (2, .pbox 0 0), (6, .str (baseT n))]) (H' := [.cells [encL 4 encNode x.nodes, encL 1 encInt x.next], .dead, .dead, .dead]) (by simp) ht) ?_
  clear ht b1 b2 b3 l1 l2 l3 hC
  generalize baseT n = bs at *
  refine cw_seq (go_ok hT ?_); simp [List.replicate]
  refine cw_seq ?_
  refine go_ok tab_nil ?_
  simp [List.replicate]
  refine cw_round (fun (p : Nat × List (List UInt8)) => ⟨slots 66 [(1, .int .i64 i), (2, .pbox 0 0), (6, .str bs), (7, .slref 4 0 p.2.length p.2.length), (8, .int .i64 p.1)], [.cells [encL 4 encNode x.nodes, encL 1 encInt x.next], .dead, .dead, .dead, .row true 9 1 (p.2.map encStr)]⟩)
    (fun p => p.1 ≤ x.nodes.length ∧ p.2 = targS x i p.1) (fun p => x.nodes.length - p.1) (0, []) ⟨by simp, by simp [targS]⟩ ?_ ?_
  · refine weak_less ?_ ?_
    · simp
    · simp [List.replicate]
  rintro N hN ⟨k, ts⟩ ⟨hk, hts⟩
  change k ≤ x.nodes.length at hk
  change ts = targS x i k at hts
  have hw : IntKind.i64.wrap ((k : Int) + 1) = ((k + 1 : Nat) : Int) := by rw [wrap_i64] <;> omega
  have htl : ts.length ≤ k := by rw [hts]; exact targS_len x i k
  have hk10 : (k : Int) < x.nodes.length → (k : Int) < 10 := by omega
  have hb : (ts.length + 1) * 16 ≤ 140737488355328 := by omega
  by_cases g : k < x.nodes.length
  · have g2 : ¬ x.nodes.length ≤ k := by omega
    have g10 : (k : Int) < 10 := by omega
    have hs := targS_succ x i k
    rw [← hts] at hs
    refine go_ok (tab_cons ok_sNextOf (tab_cons ok_sFormatInt tab_nil)) ?_
    by_cases c2 : nextOf x i k = 2
    · rw [tgS, if_pos c2] at hs
      simp [List.replicate, hw, g, g2, hx, c2, g10, hb, app1]
      refine hN (k, ts) (k + 1, ts ++ [digS k]) _ ⟨by simp only; omega, hs.symm⟩ (by simp only; omega) (weak_seal 5 (by omega) ?_ ?_)
      · simp
      · simp [List.replicate]
    · by_cases c1 : nextOf x i k = 1
      · rw [tgS, if_neg c2, if_pos c1] at hs
        simp [List.replicate, hw, g, g2, hx, c2, c1, g10, hb, app1, digS_len]
        refine hN (k, ts) (k + 1, ts ++ [digS k ++ [63]]) _ ⟨by simp only; omega, hs.symm⟩ (by simp only; omega) (weak_seal 5 (by omega) ?_ ?_)
        · simp
        · simp [List.replicate]
      · rw [tgS, if_neg c2, if_neg c1, List.append_nil] at hs
        simp [List.replicate, hw, g, g2, hx, c2, c1]
        refine hN (k, ts) (k + 1, ts) _ ⟨by simp only; omega, hs.symm⟩ (by simp only; omega) (weak_seal 5 (by omega) ?_ ?_)
        · simp
        · simp [List.replicate]
  · have e : k = x.nodes.length := by omega
    subst e
    have hmem := targS_mem x i x.nodes.length
    have htl2 := tailS_len (l := ts) (by omega) (by rw [hts]; exact hmem)
    rw [← hts] at hmem hR
    have hj : ∀ s ∈ ts, s.length ≤ 1048576 := fun s hs => by have := hmem s hs; omega
    have hjl := joinS_len [44] 2 ts hmem
    have b4 : bs.length + 1 ≤ 4611686018427387904 := by omega
    have b5 : bs.length + (1 + (joinS ts [44]).length) ≤ 4611686018427387904 := by
      simp only [List.length_cons, List.length_nil] at hjl; omega
    have b6 : bs.length + ((joinS ts [44]).length + 1) ≤ 4611686018427387904 := by omega
    have hl1 : ts.length ≤ 1048576 := by omega
    refine go_ok tab_nil ?_
    simp [List.replicate, hw]
    refine cw_seq (go_ok (tab_cons ok_sJoin tab_nil) ?_)
    by_cases h0 : ts = []
    · have hz : ts.length = 0 := by rw [h0]; rfl
      simp [List.replicate, h0]
      refine go_ok tab_nil ?_
      simp [List.replicate, hR, tailS, h0]
    · have hz : 0 < ts.length := List.length_pos_iff.2 h0
      have hz2 : (0 : Int) < ts.length := by omega
      have hjo : joinOk (ts, [44]) := ⟨hl1, by simp, hj⟩
      simp [List.replicate, hz, hz2, h0, hjo, b4, b5, b6, Nat.add_assoc]
      refine go_ok tab_nil ?_
      simp [List.replicate, hR, tailS, h0]
def strcS (x : Strc) : List UInt8 := if x.nodes = [] then [45] else joinS ((List.range x.nodes.length).map (nodeS x)) [32]
def textS (vars : List (List UInt8)) (x : Strc) : List UInt8 := if (varsB vars && structB vars.length x) = true then strcS x else []
theorem structB_node {v : Int} {x : Strc} (h : structB v x = true) : x.nodes.length ≤ 10 ∧ ∀ n ∈ x.nodes, n.vars.length ≤ 4 ∧ n.reach.length ≤ 4 := by
  unfold structB at h
  simp only [Bool.and_eq_true, decide_eq_true_eq, Bool.not_eq_true', List.any_eq_false] at h
  obtain ⟨⟨⟨⟨⟨h1, h2⟩, h3⟩, -⟩, -⟩, h4⟩ := h
  refine ⟨by omega, fun n hn => ?_⟩
  have h5 : badN v n = false := by simpa using h4 n hn
  unfold badN at h5
  simp only [Bool.not_eq_false', Bool.and_eq_true, decide_eq_true_eq] at h5
  obtain ⟨⟨⟨⟨h6, h7⟩, -⟩, -⟩, -⟩ := h5
  omega
theorem nodeS_len {v : Int} {x : Strc} (h : structB v x = true) {i : Nat} (hi : i < x.nodes.length) : (nodeS x i).length ≤ 41 := by
  obtain ⟨h1, h2⟩ := structB_node h
  have h3 := h2 x.nodes[i] (List.getElem_mem hi)
  have h4 := baseT_len (n := x.nodes[i])
  have h5 := tailS_len (l := targS x i x.nodes.length) (by have := targS_len x i x.nodes.length; omega) (targS_mem x i _)
  have h6 : x.nodes.getD i default = x.nodes[i] := by simp [hi]
  rw [nodeS, h6, List.length_append]
  omega
theorem words_ok {v : Int} {x : Strc} (h : structB v x = true) (k : Nat) (hk : k ≤ x.nodes.length) : joinOk ((List.range k).map (nodeS x), [32]) := by
  obtain ⟨h1, h2⟩ := structB_node h
  refine ⟨by simp only [List.length_map, List.length_range]; omega, by simp, fun s hs => ?_⟩
  obtain ⟨j, hj, rfl⟩ := List.mem_map.1 hs
  have := nodeS_len h (i := j) (by have := List.mem_range.1 hj; omega)
  omega
theorem words_succ (x : Strc) (k : Nat) : (List.range (k + 1)).map (nodeS x) = (List.range k).map (nodeS x) ++ [nodeS x k] := by simp [List.range_succ]
@[simp] def ct_sStrcText : Ct := ⟨18, List (List UInt8) × Strc, fun x => szVarsOk x.1 ∧ szStrc x.2 ≤ 1048576, fun x => [encL 1 encStr x.1, encStrc x.2], fun x => .str (textS x.1 x.2)⟩
set_option maxHeartbeats 4000000 in
set_option maxRecDepth 100000 in
theorem ok_sStrcText : ct_sStrcText.Ok Tryz.prog := by
  rintro ⟨vars, x⟩ ⟨hvs, hx⟩
  change szVarsOk vars at hvs
  change szStrc x ≤ 1048576 at hx
  have hT : TabOk Tryz.prog _ := tab_cons ok_sAreVars (tab_cons ok_sIsStructure (tab_cons ok_sJoin tab_nil))
  cases c1 : varsB vars
  · have hr : textS vars x = [] := by simp [textS, c1]
    refine Ok.of_cw fok_spec_StructureText (go_ok hT ?_)
    simp [code_spec_StructureText, List.replicate, hvs, hx, c1, hr]
  cases c2 : structB vars.length x
  · have hr : textS vars x = [] := by simp [textS, c1, c2]
    refine Ok.of_cw fok_spec_StructureText (go_ok hT ?_)
    simp [code_spec_StructureText, List.replicate, hvs, hx, c1, c2, hr]
  have hr : textS vars x = strcS x := by simp [textS, c1, c2]
  obtain ⟨h10, -⟩ := structB_node c2
  refine Ok.of_cw fok_spec_StructureText (go_ok hT ?_)
  simp [code_spec_StructureText, List.replicate, hvs, hx, c1, c2, hr]
  refine cw_round (fun (p : Nat × List (List UInt8)) => ⟨slots 36 [(3, .pbox 0 0), (5, .slref 1 0 p.2.length p.2.length), (6, .int .i64 p.1)], [.cells [encL 4 encNode x.nodes, encL 1 encInt x.next], .row true 9 1 (p.2.map encStr)]⟩)
    (fun p => p.1 ≤ x.nodes.length ∧ p.2 = (List.range p.1).map (nodeS x)) (fun p => x.nodes.length - p.1) (0, []) ⟨by simp, by simp⟩ ?_ ?_
  · refine weak_less ?_ ?_
    · simp
    · simp [List.replicate]
  rintro N hN ⟨k, ws⟩ ⟨hk, hws⟩
  change k ≤ x.nodes.length at hk
  change ws = (List.range k).map (nodeS x) at hws
  have hw : IntKind.i64.wrap ((k : Int) + 1) = ((k + 1 : Nat) : Int) := by rw [wrap_i64] <;> omega
  have hwl : ws.length = k := by rw [hws]; simp
  have hb : (ws.length + 1) * 16 ≤ 140737488355328 := by omega
  by_cases g : k < x.nodes.length
  · have g2 : ¬ x.nodes.length ≤ k := by omega
    have hs := words_succ x k
    rw [← hws] at hs
    refine go_ok (tab_cons ok_l12Node tab_nil) ?_
    simp [List.replicate, hw, g, g2, hx, h10, hb, app1]
    refine hN (k, ws) (k + 1, ws ++ [nodeS x k]) _ ⟨by simp only; omega, hs.symm⟩ (by simp only; omega) (weak_seal 2 (by omega) ?_ ?_)
    · simp
    · simp [List.replicate]
  · have e : k = x.nodes.length := by omega
    subst e
    have hok := words_ok c2 x.nodes.length (Nat.le_refl _)
    rw [← hws] at hok
    refine go_ok tab_nil ?_
    by_cases h0 : x.nodes = []
    · have hz : ws = [] := by rw [hws, h0]; rfl
      simp [List.replicate, hw, hz, strcS, eq_true h0]
    · have hz : ws ≠ [] := by
        intro e
        rw [e] at hwl
        exact h0 (List.length_eq_zero_iff.1 hwl.symm)
      have hr2 : strcS x = joinS ws [32] := by rw [strcS, if_neg h0, hws]
      simp [List.replicate, hw, hz, hok, hr2]
@[simp] def ct_pStrcText : Ct := ⟨17, List (List UInt8) × Strc, fun x => szVarsOk x.1 ∧ szStrc x.2 ≤ 1048576, fun x => [encL 1 encStr x.1, encStrc x.2], fun x => .str (textS x.1 x.2)⟩
set_option maxHeartbeats 8000000 in
set_option maxRecDepth 100000 in
theorem ok_pStrcText : ct_pStrcText.Ok Tryz.prog := by
  rintro ⟨vars, x⟩ ⟨hvs, hx⟩
  change szVarsOk vars at hvs
  change szStrc x ≤ 1048576 at hx
  have hT : TabOk Tryz.prog _ := tab_cons ok_pAreVars (tab_cons ok_pIsStructure (tab_cons ok_pJoin tab_nil))
  cases c1 : varsB vars
  · have hr : textS vars x = [] := by simp [textS, c1]
    refine Ok.of_cw fok_impl_StructureText (go_ok hT ?_)
    simp [code_impl_StructureText, List.replicate, hvs, hx, c1, hr]
  cases c2 : structB vars.length x
  · have hr : textS vars x = [] := by simp [textS, c1, c2]
    refine Ok.of_cw fok_impl_StructureText (go_ok hT ?_)
    simp [code_impl_StructureText, List.replicate, hvs, hx, c1, c2, hr]
  have hr : textS vars x = strcS x := by simp [textS, c1, c2]
  by_cases h0 : x.nodes = []
  · refine Ok.of_cw fok_impl_StructureText (go_ok hT ?_)
    simp [code_impl_StructureText, List.replicate, hvs, hx, c1, c2, hr, eq_true h0, strcS]
  have hr2 : textS vars x = joinS ((List.range x.nodes.length).map (nodeS x)) [32] := by rw [hr, strcS, if_neg h0]
  obtain ⟨h10, hnn⟩ := structB_node c2
  have hz : ¬ (x.nodes.length : Int) = 0 := by have := List.length_pos_iff.2 h0; omega
  refine Ok.of_cw fok_impl_StructureText (go_ok hT ?_)
  simp [code_impl_StructureText, List.replicate, hvs, hx, c1, c2, h0, hz]
  refine cw_round (fun (p : Nat × List (List UInt8)) => ⟨slots 93 [(3, .pbox 0 0), (5, .slref 1 0 p.2.length p.2.length), (27, encL 4 encNode x.nodes), (28, .int .i64 x.nodes.length), (29, .int .i64 p.1)], [.cells [encL 4 encNode x.nodes, encL 1 encInt x.next], .row true 9 1 (p.2.map encStr)]⟩)
    (fun p => p.1 ≤ x.nodes.length ∧ p.2 = (List.range p.1).map (nodeS x)) (fun p => x.nodes.length - p.1) (0, []) ⟨by simp, by simp⟩ ?_ ?_
  · refine weak_less ?_ ?_
    · simp
    · simp [List.replicate]
  rintro N hN ⟨k, ws⟩ ⟨hk, hws⟩
  change k ≤ x.nodes.length at hk
  change ws = (List.range k).map (nodeS x) at hws
  have hw : IntKind.i64.wrap ((k : Int) + 1) = ((k + 1 : Nat) : Int) := by rw [wrap_i64] <;> omega
  have hwl : ws.length = k := by rw [hws]; simp
  have hb : (ws.length + 1) * 16 ≤ 140737488355328 := by omega
  by_cases g : k < x.nodes.length
  case neg =>
    have e : k = x.nodes.length := by omega
    subst e
    have hok := words_ok c2 x.nodes.length (Nat.le_refl _)
    rw [← hws] at hok hr2
    refine go_ok tab_nil ?_
    simp [List.replicate, hok, hr2]
  have g2 : ¬ x.nodes.length ≤ k := by omega
  have hs := words_succ x k
  rw [← hws] at hs
  have hgd : x.nodes.getD k default = x.nodes[k] := by simp [g]
  have hnd := hnn x.nodes[k] (List.getElem_mem g)
  have hR : nodeS x k = baseT x.nodes[k] ++ tailS (targS x k x.nodes.length) := by rw [nodeS, hgd]
  generalize hn : x.nodes[k] = n at *
  have hv : n.vars.length ≤ 1048576 := by omega
  have hrr : n.reach.length ≤ 1048576 := by omega
  have l1 := ttS_len n.vars
  have l2 := ttS_len n.reach
  have l3 := truthText_len n.shared
  have b1 : (ttS n.vars).length + (ttS n.reach).length ≤ 4611686018427387904 := by omega
  have b2 : (ttS n.vars).length + ((ttS n.reach).length + (truthText n.shared).length) ≤ 4611686018427387904 := by omega
  have b3 : (ttS n.vars).length + ((ttS n.reach).length + ((truthText n.shared).length + 1)) ≤ 4611686018427387904 := by omega
  have hbl := baseT_len (n := n)
  have hC : baseT n = if n.many = 1 then ttS n.vars ++ (ttS n.reach ++ (truthText n.shared ++ [42])) else ttS n.vars ++ (ttS n.reach ++ truthText n.shared) := by
    unfold baseT baseS; split <;> simp
  refine cw_seq (go_ok tab_nil ?_); simp [List.replicate, g, g2]
  refine cw_seq (go_ok tab_nil ?_); simp [List.replicate]
  refine cw_seq (cw_block ?_)
  refine cw_seq (go_ok tab_nil ?_); simp [List.replicate, g, g2, hn]
  refine cw_seq (go_ok (tab_cons ok_truthTexts tab_nil) ?_); simp [List.replicate, hv, hrr, b1, b2, Nat.add_assoc, ttS_one, enc_one]
  refine cw_cut (fun st => ∃ t, st = ⟨t, [.cells [encL 4 encNode x.nodes, encL 1 encInt x.next], .row true 9 1 (ws.map encStr), .nrow, .nrow, .cells [encL 1 encInt n.vars, encL 1 encInt n.reach, .int .i64 n.shared, .int .i64 n.many]]⟩ ∧ All2 LessS t (slots 93 [(3, .pbox 0 0), (5, .slref 1 0 ws.length ws.length), (27, encL 4 encNode x.nodes), (28, .int .i64 x.nodes.length), (29, .int .i64 k), (6, .int .i64 k), (8, .str (baseT n))])) ?_ ?_
  · by_cases hm : n.many = 1
    · refine go_ok tab_nil ?_
      rw [if_pos hm] at hC
      simp [List.replicate, hm, b3, Nat.add_assoc, hC]
    · refine go_ok tab_nil ?_
      rw [if_neg hm] at hC
      simp [List.replicate, hm, hC]
  rintro st ⟨t, rfl, ht⟩
  refine cw_weak (weak_less (n0 := 0) (t' := slots 93 [(3, .pbox 0 0), (5, .slref 1 0 ws.length ws.length), (27, encL 4 encNode x.nodes), (28, .int .i64 x.nodes.length), (29, .int .i64 k), (6, .int .i64 k), (8, .str (baseT n))]) (H' := [.cells [encL 4 encNode x.nodes, encL 1 encInt x.next], .row true 9 1 (ws.map encStr), .dead, .dead, .dead]) (by simp) ht) ?_
  clear ht b1 b2 b3 l1 l2 l3 hC
  generalize baseT n = bs at *
  refine cw_seq (go_ok tab_nil ?_); simp [List.replicate]
  refine cw_seq ?_
  refine go_ok tab_nil ?_
  simp [List.replicate]
  refine cw_round (fun (p : Nat × List (List UInt8)) => ⟨slots 93 [(3, .pbox 0 0), (5, .slref 1 0 ws.length ws.length), (27, encL 4 encNode x.nodes), (28, .int .i64 x.nodes.length), (29, .int .i64 k), (6, .int .i64 k), (8, .str bs), (9, .slref 5 0 p.2.length p.2.length), (54, .int .i64 x.nodes.length), (55, .int .i64 p.1)], [.cells [encL 4 encNode x.nodes, encL 1 encInt x.next], .row true 9 1 (ws.map encStr), .dead, .dead, .dead, .row true 9 1 (p.2.map encStr)]⟩)
    (fun p => p.1 ≤ x.nodes.length ∧ p.2 = targS x k p.1) (fun p => x.nodes.length - p.1) (0, []) ⟨by simp, by simp [targS]⟩ ?_ ?_
  · refine weak_less ?_ ?_
    · simp
    · simp [List.replicate]
  rintro M hM ⟨j, ts⟩ ⟨hj, hts⟩
  change j ≤ x.nodes.length at hj
  change ts = targS x k j at hts
  have hwj : IntKind.i64.wrap ((j : Int) + 1) = ((j + 1 : Nat) : Int) := by rw [wrap_i64] <;> omega
  have htl : ts.length ≤ j := by rw [hts]; exact targS_len x k j
  have hbt : (ts.length + 1) * 16 ≤ 140737488355328 := by omega
  by_cases gj : j < x.nodes.length
  · have gj2 : ¬ x.nodes.length ≤ j := by omega
    have g10 : (j : Int) < 10 := by omega
    have hs2 := targS_succ x k j
    rw [← hts] at hs2
    refine go_ok (tab_cons ok_pNextOf (tab_cons ok_pFormatInt tab_nil)) ?_
    by_cases q2 : nextOf x k j = 2
    · rw [tgS, if_pos q2] at hs2
      simp [List.replicate, hwj, gj, gj2, hx, q2, g10, hbt, app1]
      refine hM (j, ts) (j + 1, ts ++ [digS j]) _ ⟨by simp only; omega, hs2.symm⟩ (by simp only; omega) (weak_seal 6 (by omega) ?_ ?_)
      · simp
      · simp [List.replicate]
    · by_cases q1 : nextOf x k j = 1
      · rw [tgS, if_neg q2, if_pos q1] at hs2
        simp [List.replicate, hwj, gj, gj2, hx, q2, q1, g10, hbt, app1, digS_len]
        refine hM (j, ts) (j + 1, ts ++ [digS j ++ [63]]) _ ⟨by simp only; omega, hs2.symm⟩ (by simp only; omega) (weak_seal 6 (by omega) ?_ ?_)
        · simp
        · simp [List.replicate]
      · rw [tgS, if_neg q2, if_neg q1, List.append_nil] at hs2
        simp [List.replicate, hwj, gj, gj2, hx, q2, q1]
        refine hM (j, ts) (j + 1, ts) _ ⟨by simp only; omega, hs2.symm⟩ (by simp only; omega) (weak_seal 6 (by omega) ?_ ?_)
        · simp
        · simp [List.replicate]
  have e : j = x.nodes.length := by omega
  subst e
  have hmem := targS_mem x k x.nodes.length
  rw [← hts] at hmem hR
  have hjn : ∀ s ∈ ts, s.length ≤ 1048576 := fun s hs => by have := hmem s hs; omega
  have hjl := joinS_len [44] 2 ts hmem
  simp only [List.length_cons, List.length_nil] at hjl
  have b5 : bs.length + (1 + (joinS ts [44]).length) ≤ 4611686018427387904 := by omega
  have b6 : bs.length + ((joinS ts [44]).length + 1) ≤ 4611686018427387904 := by omega
  have b7 : 1 + (joinS ts [44]).length ≤ 4611686018427387904 := by omega
  have b8 : (joinS ts [44]).length + 1 ≤ 4611686018427387904 := by omega
  have hl1 : ts.length ≤ 1048576 := by omega
  have hjo : joinOk (ts, [44]) := ⟨hl1, by simp, hjn⟩
  refine go_ok tab_nil ?_
  simp [List.replicate, hwj]
  refine cw_seq (go_ok (tab_cons ok_pJoin tab_nil) ?_)
  by_cases h00 : ts = []
  · simp [List.replicate, h00]
    refine go_ok tab_nil ?_
    simp [List.replicate, hb, app1]
    refine go_ok tab_nil ?_
    simp [List.replicate, hw]
    refine hN (k, ws) (k + 1, ws ++ [nodeS x k]) _ ⟨by simp only; omega, hs.symm⟩ (by simp only; omega) (weak_seal 2 (by omega) ?_ ?_)
    · simp [hR, tailS, h00]
    · simp [List.replicate]
  · have hz1 : 0 < ts.length := List.length_pos_iff.2 h00
    have hz2 : (0 : Int) < ts.length := by omega
    simp [List.replicate, hz1, hz2, h00, hjo, b5, b6, b7, b8, Nat.add_assoc]
    refine go_ok tab_nil ?_
    simp [List.replicate, hb, app1]
    refine go_ok tab_nil ?_
    simp [List.replicate, hw]
    refine hN (k, ws) (k + 1, ws ++ [nodeS x k]) _ ⟨by simp only; omega, hs.symm⟩ (by simp only; omega) (weak_seal 2 (by omega) ?_ ?_)
    · simp [hR, tailS, h00]
    · simp [List.replicate]
end Go.Vm

namespace Go.Vm
open Go.Proofs
def code_impl_EqualStructure_1 : F := ⟨31, [.tmp 4],
 .seq (.reg [⟨some 2, .box (.t 0), none⟩,
    ⟨some 3, .box (.t 1), none⟩,
    ⟨some 4, .mov (.k (.bool false)), none⟩])
 (.seq (.reg [⟨some 5, .faddr 0 (.t 2), none⟩,
     ⟨some 6, .load 1 false (.t 5), none⟩,
     ⟨some 7, .faddr 0 (.t 3), none⟩,
     ⟨some 8, .load 1 false (.t 7), none⟩,
     ⟨some 9, .call 27 [(.t 6), (.t 8)], none⟩,
     ⟨some 10, .mov (.t 9), none⟩,
     ⟨some 11, .faddr 1 (.t 2), some (10, true)⟩,
     ⟨some 12, .load 1 false (.t 11), some (10, true)⟩,
     ⟨some 13, .faddr 1 (.t 3), some (10, true)⟩,
     ⟨some 14, .load 1 false (.t 13), some (10, true)⟩,
     ⟨some 15, .call 27 [(.t 12), (.t 14)], some (10, true)⟩,
     ⟨some 16, .pick (.t 10) (.t 15) (.k (.bool false)), none⟩,
     ⟨some 17, .mov (.t 16), none⟩,
     ⟨some 18, .faddr 2 (.t 2), some (17, true)⟩,
     ⟨some 19, .load 1 false (.t 18), some (17, true)⟩,
     ⟨some 20, .faddr 2 (.t 3), some (17, true)⟩,
     ⟨some 21, .load 1 false (.t 20), some (17, true)⟩,
     ⟨some 22, .bin .eql (.t 19) (.t 21), some (17, true)⟩,
     ⟨some 23, .pick (.t 17) (.t 22) (.k (.bool false)), none⟩,
     ⟨some 24, .mov (.t 23), none⟩,
     ⟨some 25, .faddr 3 (.t 2), some (24, true)⟩,
     ⟨some 26, .load 1 false (.t 25), some (24, true)⟩,
     ⟨some 27, .faddr 3 (.t 3), some (24, true)⟩,
     ⟨some 28, .load 1 false (.t 27), some (24, true)⟩,
     ⟨some 29, .bin .eql (.t 26) (.t 28), some (24, true)⟩,
     ⟨some 30, .pick (.t 24) (.t 29) (.k (.bool false)), none⟩,
     ⟨some 4, .mov (.t 30), none⟩])
  (.ret))⟩
theorem fok_impl_EqualStructure_1 : FOk Tryz.prog 29 code_impl_EqualStructure_1 := fok Tryz.func29 (by kernel_rfl)
def code_slices_EqualFunc_impl_Node_impl_Node_impl_Node_impl_Node : F := ⟨32, [.tmp 6],
 .seq (.reg [⟨some 6, .mov (.k (.bool false)), none⟩])
 (.seq (.seq (.reg [⟨some 10, .mov (.t 0), none⟩,
      ⟨some 11, .len (.t 10), none⟩,
      ⟨some 12, .mov (.t 1), none⟩,
      ⟨some 13, .len (.t 12), none⟩,
      ⟨some 14, .bin .neq (.t 11) (.t 13), none⟩])
   (.cond (.t 14)
    (.seq (.reg [⟨some 6, .mov (.k (.bool false)), none⟩])
     (.ret))
    (.skip)))
  (.seq (.seq (.reg [⟨some 15, .mov (.t 0), none⟩,
       ⟨some 16, .len (.t 15), none⟩,
       ⟨some 17, .mov (.k (.int .i64 0)), none⟩])
    (.block 0 (.loop (.seq (.reg [⟨some 18, .bin .lss (.t 17) (.t 16), none⟩])
       (.seq (.cond (.t 18)
         (.skip)
         (.exit 0))
        (.seq (.block 1 (.seq (.reg [⟨some 19, .mov (.t 17), none⟩,
              ⟨some 20, .iaddr 4 (.t 15) (.t 17), none⟩,
              ⟨some 21, .load 4 true (.t 20), none⟩,
              ⟨some 8, .alloc [(.sl .nil 0 []), (.sl .nil 0 []), (.int .i64 0), (.int .i64 0)], none⟩,
              ⟨some 7, .mov (.t 19), none⟩,
              ⟨none, .store 4 (.t 8) (.t 21), none⟩])
           (.seq (.reg [⟨some 22, .mov (.t 1), none⟩,
               ⟨some 23, .mov (.t 7), none⟩,
               ⟨some 24, .iaddr 4 (.t 22) (.t 23), none⟩,
               ⟨some 25, .load 4 true (.t 24), none⟩,
               ⟨some 9, .alloc [(.sl .nil 0 []), (.sl .nil 0 []), (.int .i64 0), (.int .i64 0)], none⟩,
               ⟨none, .store 4 (.t 9) (.t 25), none⟩])
            (.seq (.reg [⟨some 26, .mov (.t 2), none⟩,
                ⟨some 27, .load 4 true (.t 8), none⟩,
                ⟨some 28, .load 4 true (.t 9), none⟩,
                ⟨some 29, .callv (.t 26) [(.t 27), (.t 28)], none⟩,
                ⟨some 30, .not (.t 29), none⟩])
             (.cond (.t 30)
              (.seq (.reg [⟨some 6, .mov (.k (.bool false)), none⟩])
               (.ret))
              (.skip))))))
         (.reg [⟨some 31, .bin .add (.t 17) (.k (.int .i64 1)), none⟩,
            ⟨some 17, .mov (.t 31), none⟩])))))))
   (.seq (.reg [⟨some 6, .mov (.k (.bool true)), none⟩])
    (.ret))))⟩
theorem fok_slices_EqualFunc_impl_Node_impl_Node_impl_Node_impl_Node : FOk Tryz.prog 28 code_slices_EqualFunc_impl_Node_impl_Node_impl_Node_impl_Node := fok Tryz.func28 (by kernel_rfl)
def code_impl_EqualStructure : F := ⟨17, [.tmp 4],
 .seq (.reg [⟨some 2, .box (.t 0), none⟩,
    ⟨some 3, .box (.t 1), none⟩,
    ⟨some 4, .mov (.k (.bool false)), none⟩])
 (.seq (.reg [⟨some 5, .faddr 1 (.t 2), none⟩,
     ⟨some 6, .load 1 false (.t 5), none⟩,
     ⟨some 7, .faddr 1 (.t 3), none⟩,
     ⟨some 8, .load 1 false (.t 7), none⟩,
     ⟨some 9, .call 27 [(.t 6), (.t 8)], none⟩,
     ⟨some 10, .mov (.t 9), none⟩,
     ⟨some 11, .faddr 0 (.t 2), some (10, true)⟩,
     ⟨some 12, .load 1 false (.t 11), some (10, true)⟩,
     ⟨some 13, .faddr 0 (.t 3), some (10, true)⟩,
     ⟨some 14, .load 1 false (.t 13), some (10, true)⟩,
     ⟨some 15, .call 28 [(.t 12), (.t 14), (.k (.fn 29 []))], some (10, true)⟩,
     ⟨some 16, .pick (.t 10) (.t 15) (.k (.bool false)), none⟩,
     ⟨some 4, .mov (.t 16), none⟩])
  (.ret))⟩
theorem fok_impl_EqualStructure : FOk Tryz.prog 10 code_impl_EqualStructure := fok Tryz.func10 (by kernel_rfl)
def code_spec_l7Same : F := ⟨26, [.tmp 4],
 .seq (.reg [⟨some 4, .mov (.k (.bool false)), none⟩])
 (.seq (.seq (.reg [⟨some 6, .mov (.t 0), none⟩,
      ⟨some 7, .len (.t 6), none⟩,
      ⟨some 8, .mov (.t 1), none⟩,
      ⟨some 9, .len (.t 8), none⟩,
      ⟨some 10, .bin .neq (.t 7) (.t 9), none⟩])
   (.cond (.t 10)
    (.seq (.reg [⟨some 4, .mov (.k (.bool false)), none⟩])
     (.ret))
    (.skip)))
  (.seq (.seq (.reg [⟨some 5, .mov (.k (.int .i64 0)), none⟩])
    (.block 0 (.loop (.seq (.seq (.reg [⟨some 11, .mov (.t 5), none⟩,
           ⟨some 12, .mov (.t 0), none⟩,
           ⟨some 13, .len (.t 12), none⟩,
           ⟨some 14, .bin .lss (.t 11) (.t 13), none⟩])
        (.cond (.t 14)
         (.skip)
         (.exit 0)))
       (.seq (.block 1 (.seq (.dreg [false, false, false, false, false, false, false, false, true] [false, false, false, false, false, false, false, false, false] [⟨some 17, .mov (.t 0), none⟩,
             ⟨some 18, .mov (.t 5), none⟩,
             ⟨some 19, .iaddr 1 (.t 17) (.t 18), none⟩,
             ⟨some 20, .load 1 false (.t 19), none⟩,
             ⟨some 21, .mov (.t 1), none⟩,
             ⟨some 22, .mov (.t 5), none⟩,
             ⟨some 23, .iaddr 1 (.t 21) (.t 22), none⟩,
             ⟨some 24, .load 1 false (.t 23), none⟩,
             ⟨some 25, .bin .neq (.t 20) (.t 24), none⟩])
          (.cond (.t 25)
           (.seq (.reg [⟨some 4, .mov (.k (.bool false)), none⟩])
            (.ret))
           (.skip))))
        (.reg [⟨some 15, .mov (.t 5), none⟩,
           ⟨some 16, .bin .add (.t 15) (.k (.int .i64 1)), none⟩,
           ⟨some 5, .mov (.t 16), none⟩]))))))
   (.seq (.reg [⟨some 4, .mov (.k (.bool true)), none⟩])
    (.ret))))⟩
theorem fok_spec_l7Same : FOk Tryz.prog 49 code_spec_l7Same := fok Tryz.func49 (by kernel_rfl)
def code_spec_l12SameNode : F := ⟨31, [.tmp 4],
 .seq (.reg [⟨some 2, .box (.t 0), none⟩,
    ⟨some 3, .box (.t 1), none⟩,
    ⟨some 4, .mov (.k (.bool false)), none⟩])
 (.seq (.reg [⟨some 5, .faddr 0 (.t 2), none⟩,
     ⟨some 6, .load 1 false (.t 5), none⟩,
     ⟨some 7, .faddr 0 (.t 3), none⟩,
     ⟨some 8, .load 1 false (.t 7), none⟩,
     ⟨some 9, .call 49 [(.t 6), (.t 8)], none⟩,
     ⟨some 10, .mov (.t 9), none⟩,
     ⟨some 11, .faddr 1 (.t 2), some (10, true)⟩,
     ⟨some 12, .load 1 false (.t 11), some (10, true)⟩,
     ⟨some 13, .faddr 1 (.t 3), some (10, true)⟩,
     ⟨some 14, .load 1 false (.t 13), some (10, true)⟩,
     ⟨some 15, .call 49 [(.t 12), (.t 14)], some (10, true)⟩,
     ⟨some 16, .pick (.t 10) (.t 15) (.k (.bool false)), none⟩,
     ⟨some 17, .mov (.t 16), none⟩,
     ⟨some 18, .faddr 2 (.t 2), some (17, true)⟩,
     ⟨some 19, .load 1 false (.t 18), some (17, true)⟩,
     ⟨some 20, .faddr 2 (.t 3), some (17, true)⟩,
     ⟨some 21, .load 1 false (.t 20), some (17, true)⟩,
     ⟨some 22, .bin .eql (.t 19) (.t 21), some (17, true)⟩,
     ⟨some 23, .pick (.t 17) (.t 22) (.k (.bool false)), none⟩,
     ⟨some 24, .mov (.t 23), none⟩,
     ⟨some 25, .faddr 3 (.t 2), some (24, true)⟩,
     ⟨some 26, .load 1 false (.t 25), some (24, true)⟩,
     ⟨some 27, .faddr 3 (.t 3), some (24, true)⟩,
     ⟨some 28, .load 1 false (.t 27), some (24, true)⟩,
     ⟨some 29, .bin .eql (.t 26) (.t 28), some (24, true)⟩,
     ⟨some 30, .pick (.t 24) (.t 29) (.k (.bool false)), none⟩,
     ⟨some 4, .mov (.t 30), none⟩])
  (.ret))⟩
theorem fok_spec_l12SameNode : FOk Tryz.prog 50 code_spec_l12SameNode := fok Tryz.func50 (by kernel_rfl)
def code_spec_EqualStructure : F := ⟨40, [.tmp 4],
 .seq (.reg [⟨some 2, .box (.t 0), none⟩,
    ⟨some 3, .box (.t 1), none⟩,
    ⟨some 4, .mov (.k (.bool false)), none⟩])
 (.seq (.seq (.reg [⟨some 6, .faddr 0 (.t 2), none⟩,
      ⟨some 7, .load 1 false (.t 6), none⟩,
      ⟨some 8, .len (.t 7), none⟩,
      ⟨some 9, .faddr 0 (.t 3), none⟩,
      ⟨some 10, .load 1 false (.t 9), none⟩,
      ⟨some 11, .len (.t 10), none⟩,
      ⟨some 12, .bin .neq (.t 8) (.t 11), none⟩,
      ⟨some 13, .mov (.t 12), none⟩,
      ⟨some 14, .faddr 1 (.t 2), some (13, false)⟩,
      ⟨some 15, .load 1 false (.t 14), some (13, false)⟩,
      ⟨some 16, .faddr 1 (.t 3), some (13, false)⟩,
      ⟨some 17, .load 1 false (.t 16), some (13, false)⟩,
      ⟨some 18, .call 49 [(.t 15), (.t 17)], some (13, false)⟩,
      ⟨some 19, .not (.t 18), some (13, false)⟩,
      ⟨some 20, .pick (.t 13) (.k (.bool true)) (.t 19), none⟩])
   (.cond (.t 20)
    (.seq (.reg [⟨some 4, .mov (.k (.bool false)), none⟩])
     (.ret))
    (.skip)))
  (.seq (.seq (.reg [⟨some 5, .mov (.k (.int .i64 0)), none⟩])
    (.block 0 (.loop (.seq (.seq (.reg [⟨some 21, .mov (.t 5), none⟩,
           ⟨some 22, .faddr 0 (.t 2), none⟩,
           ⟨some 23, .load 1 false (.t 22), none⟩,
           ⟨some 24, .len (.t 23), none⟩,
           ⟨some 25, .bin .lss (.t 21) (.t 24), none⟩])
        (.cond (.t 25)
         (.skip)
         (.exit 0)))
       (.seq (.block 1 (.seq (.dreg [false, false, false, false, false, false, false, false, false, false, true, true] [false, false, false, false, false, false, false, false, false, false, true, false] [⟨some 28, .faddr 0 (.t 2), none⟩,
             ⟨some 29, .load 1 false (.t 28), none⟩,
             ⟨some 30, .mov (.t 5), none⟩,
             ⟨some 31, .iaddr 4 (.t 29) (.t 30), none⟩,
             ⟨some 32, .load 4 true (.t 31), none⟩,
             ⟨some 33, .faddr 0 (.t 3), none⟩,
             ⟨some 34, .load 1 false (.t 33), none⟩,
             ⟨some 35, .mov (.t 5), none⟩,
             ⟨some 36, .iaddr 4 (.t 34) (.t 35), none⟩,
             ⟨some 37, .load 4 true (.t 36), none⟩,
             ⟨some 38, .call 50 [(.t 32), (.t 37)], none⟩,
             ⟨some 39, .not (.t 38), none⟩])
          (.cond (.t 39)
           (.seq (.reg [⟨some 4, .mov (.k (.bool false)), none⟩])
            (.ret))
           (.skip))))
        (.reg [⟨some 26, .mov (.t 5), none⟩,
           ⟨some 27, .bin .add (.t 26) (.k (.int .i64 1)), none⟩,
           ⟨some 5, .mov (.t 27), none⟩]))))))
   (.seq (.reg [⟨some 4, .mov (.k (.bool true)), none⟩])
    (.ret))))⟩
theorem fok_spec_EqualStructure : FOk Tryz.prog 19 code_spec_EqualStructure := fok Tryz.func19 (by kernel_rfl)
@[simp] def ct_sameN : Ct := ⟨29, Node × Node, fun _ => True, fun x => [encNode x.1, encNode x.2], fun x => .bool (decide (x.1 = x.2))⟩
theorem ok_sameN : ct_sameN.Ok Tryz.prog := by
  rintro ⟨⟨a, b, c, d⟩, ⟨a', b', c', d'⟩⟩ -
  refine Ok.of_cw fok_impl_EqualStructure_1 (go_ok (tab_cons ok_EqualI tab_nil) ?_)
  simp [code_impl_EqualStructure_1, List.replicate]
  grind
@[simp] def ct_EqualFuncN : Ct := ⟨28, List Node × List Node, fun _ => True, fun x => [encL 4 encNode x.1, encL 4 encNode x.2, .fn 29 []], fun x => .bool (decide (x.1 = x.2))⟩
theorem ok_EqualFuncN : ct_EqualFuncN.Ok Tryz.prog := by
  rintro ⟨xs, ys⟩ -
  have hc : callable Tryz.prog 29 = true := by kernel_rfl
  refine Ok.lens fun hl => Ok.of_cw fok_slices_EqualFunc_impl_Node_impl_Node_impl_Node_impl_Node (go_ok tab_nil ?_)
  have hl : lensOkL [encL 4 encNode xs, encL 4 encNode ys, .fn 29 []] := hl
  rw [lensOkL_cons, lensOk_encL] at hl
  have hl := hl.1.1
  simp [code_slices_EqualFunc_impl_Node_impl_Node_impl_Node_impl_Node, List.replicate]
  refine ⟨fun h => ?_, fun h => ?_⟩
  · intro e; exact absurd (by rw [e]) h
  refine cw_round (fun (p : Nat) => ⟨slots 32 [(0, encL 4 encNode xs), (1, encL 4 encNode ys), (2, .fn 29 []), (15, encL 4 encNode xs), (16, .int .i64 xs.length), (17, .int .i64 p)], []⟩)
    (fun p => p ≤ xs.length ∧ xs.take p = ys.take p) (fun p => xs.length - p) 0 ⟨by omega, by simp⟩ ?_ ?_
  · exact weak_seal 0 (by omega) (by simp) (by simp [List.replicate])
  · rintro N hN i ⟨hi, hn⟩
    have hw : i < xs.length → IntKind.i64.wrap ((i : Int) + 1) = ((i + 1 : Nat) : Int) := fun h => by rw [wrap_i64] <;> omega
    refine go_ok (tab_cons ok_sameN tab_nil) ?_
    by_cases g : i < xs.length
    · have g' : i < ys.length := by omega
      by_cases e : xs[i] = ys[i]
      · simp [List.replicate, hw, g, g', hc, e]
        refine hN _ (i + 1) _ ⟨by omega, ?_⟩ (by omega) (weak_seal 0 (by omega) ?_ ?_)
        · rw [List.take_succ_eq_append_getElem g, List.take_succ_eq_append_getElem g', hn, e]
        · simp
        · simp [List.replicate, e]
      · simp [List.replicate, hw, g, g', hc, e]
        intro k; subst k; exact e rfl
    · simp [List.replicate, g]
      rw [List.take_of_length_le (by omega), List.take_of_length_le (by omega)] at hn
      exact hn
@[simp] def ct_impl_EqualStructure : Ct := ⟨10, Strc × Strc, fun _ => True, fun x => [encStrc x.1, encStrc x.2], fun x => .bool (decide (x.1 = x.2))⟩
theorem ok_impl_EqualStructure : ct_impl_EqualStructure.Ok Tryz.prog := by
  rintro ⟨⟨a, b⟩, ⟨a', b'⟩⟩ -
  refine Ok.of_cw fok_impl_EqualStructure (go_ok (tab_cons ok_EqualI (tab_cons ok_EqualFuncN tab_nil)) ?_)
  simp [code_impl_EqualStructure, List.replicate]
  grind
@[simp] def ct_l7Same : Ct := ⟨49, List Int × List Int, fun _ => True, fun x => [encL 1 encInt x.1, encL 1 encInt x.2], fun x => .bool (decide (x.1 = x.2))⟩
theorem ok_l7Same : ct_l7Same.Ok Tryz.prog := by
  rintro ⟨xs, ys⟩ -
  refine Ok.lens fun hl => Ok.of_cw fok_spec_l7Same (go_ok tab_nil ?_)
  simp [lensOkL_cons, lensOk_encL] at hl
  simp [code_spec_l7Same, List.replicate]
  refine ⟨fun h => ?_, fun h => ?_⟩
  · intro e; exact absurd (by rw [e]) h
  refine cw_round (fun (p : Nat) => ⟨slots 26 [(0, encL 1 encInt xs), (1, encL 1 encInt ys), (5, .int .i64 p)], []⟩)
    (fun p => p ≤ xs.length ∧ xs.take p = ys.take p) (fun p => xs.length - p) 0 ⟨by omega, by simp⟩ ?_ ?_
  · exact weak_seal 0 (by omega) (by simp) (by simp [List.replicate])
  · rintro N hN i ⟨hi, hn⟩
    have hw : i < xs.length → IntKind.i64.wrap ((i : Int) + 1) = ((i + 1 : Nat) : Int) := fun h => by rw [wrap_i64] <;> omega
    refine go_ok tab_nil ?_
    by_cases g : i < xs.length
    · have g' : i < ys.length := by omega
      have g2 : ¬ xs.length ≤ i := by omega
      simp [List.replicate, hw, g, g', g2]
      refine ⟨fun e => ?_, fun e => ?_⟩
      · intro k; subst k; exact e rfl
      · refine hN _ (i + 1) _ ⟨by omega, ?_⟩ (by omega) (weak_seal 0 (by omega) ?_ ?_)
        · rw [List.take_succ_eq_append_getElem g, List.take_succ_eq_append_getElem g', hn, e]
        · simp
        · simp [List.replicate]
    · have g2 : xs.length ≤ i := by omega
      simp [List.replicate, g, g2]
      rw [List.take_of_length_le (by omega), List.take_of_length_le (by omega)] at hn
      exact hn
@[simp] def ct_l12SameNode : Ct := ⟨50, Node × Node, fun _ => True, fun x => [encNode x.1, encNode x.2], fun x => .bool (decide (x.1 = x.2))⟩
theorem ok_l12SameNode : ct_l12SameNode.Ok Tryz.prog := by
  rintro ⟨⟨a, b, c, d⟩, ⟨a', b', c', d'⟩⟩ -
  refine Ok.of_cw fok_spec_l12SameNode (go_ok (tab_cons ok_l7Same tab_nil) ?_)
  simp [code_spec_l12SameNode, List.replicate]
  grind
@[simp] def ct_spec_EqualStructure : Ct := ⟨19, Strc × Strc, fun _ => True, fun x => [encStrc x.1, encStrc x.2], fun x => .bool (decide (x.1 = x.2))⟩
theorem ok_spec_EqualStructure : ct_spec_EqualStructure.Ok Tryz.prog := by
  rintro ⟨x, y⟩ -
  refine Ok.lens fun hl => Ok.of_cw fok_spec_EqualStructure (go_ok (tab_cons ok_l7Same tab_nil) ?_)
  have hl : lensOkL [encStrc x, encStrc y] := hl
  simp [lensOkL_cons, lensOk_encL, encStrc_eq, lens_agg, lens_int, lens_nil] at hl
  simp [code_spec_EqualStructure, List.replicate]
  refine ⟨fun h => ⟨fun h3 e => h3 (by rw [e]), fun h3 => ?_⟩, fun h e => h (by rw [e])⟩
  have h : x.nodes.length = y.nodes.length := by omega
  refine cw_round (fun (p : Nat) => ⟨slots 40 [(2, .pbox 0 0), (3, .pbox 1 0), (5, .int .i64 p)], [.cells [encL 4 encNode x.nodes, encL 1 encInt x.next], .cells [encL 4 encNode y.nodes, encL 1 encInt y.next]]⟩)
    (fun p => p ≤ x.nodes.length ∧ x.nodes.take p = y.nodes.take p) (fun p => x.nodes.length - p) 0 ⟨by omega, by simp⟩ ?_ ?_
  · exact weak_seal 2 (by omega) (by simp) (by simp [List.replicate])
  · rintro N hN i ⟨hi, hn⟩
    have hw : i < y.nodes.length → IntKind.i64.wrap ((i : Int) + 1) = ((i + 1 : Nat) : Int) := fun h => by rw [wrap_i64] <;> omega
    refine go_ok (tab_cons ok_l12SameNode tab_nil) ?_
    by_cases g : i < x.nodes.length
    · have g' : i < y.nodes.length := by omega
      have g2 : ¬ x.nodes.length ≤ i := by omega
      have g3 : ¬ y.nodes.length ≤ i := by omega
      simp [List.replicate, hw, g, g', g2, g3, h]
      refine ⟨fun e => ?_, fun e => ?_⟩
      · intro k; subst k; exact e rfl
      · refine hN _ (i + 1) _ ⟨by omega, ?_⟩ (by omega) (weak_seal 2 (by omega) ?_ ?_)
        · rw [List.take_succ_eq_append_getElem g, List.take_succ_eq_append_getElem g', hn, e]
        · simp
        · simp [List.replicate, e]
    · have g2 : x.nodes.length ≤ i := by omega
      have g3 : y.nodes.length ≤ i := by omega
      have g4 : ¬ i < y.nodes.length := by omega
      simp [List.replicate, g, g2, g3, g4, h]
      rw [List.take_of_length_le (by omega), List.take_of_length_le (by omega)] at hn
      cases x; cases y
      simp_all
end Go.Vm
