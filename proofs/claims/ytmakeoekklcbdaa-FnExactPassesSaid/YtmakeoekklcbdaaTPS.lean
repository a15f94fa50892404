/- Passes: both. No condition. -/
import Derived.Test.YtmakeoekklcbdaaTEH
import Derived.Test.YtmakeoekklcbdaaTEK
import Derived.Test.YtmakeoekklcbdaaTFP
import Derived.Test.YtmakeoekklcbdaaTSU
import Derived.Test.YtmakeoekklcbdaaTSS
set_option linter.unusedSimpArgs false
set_option linter.unusedVariables false
namespace Go.Vm
open Go.Proofs
def code_impl_pointsSome : F := ⟨6, [.cell 5 true 2],
 .seq (.reg [⟨some 2, .alloc [(.int .i64 0), (.int .i64 0), (.int .i64 0), (.int .i64 0), (.sl .nil 0 [])], none⟩])
 (.seq (.reg [⟨some 3, .mov (.t 0), none⟩,
     ⟨some 4, .call 102 [(.t 3), (.k (.int .i64 0))], none⟩,
     ⟨some 5, .call 184 [(.k (.int .i64 0)), (.t 4)], none⟩,
     ⟨none, .store 5 (.t 2) (.t 5), none⟩])
  (.ret))⟩
theorem fok_impl_pointsSome : FOk Try.prog 131 code_impl_pointsSome := fok Try.func131 (by kernel_rfl)
def code_impl_nullFormula : F := ⟨25, [.cell 5 true 4, .tmp 5],
 .seq (.reg [⟨some 3, .box (.t 1), none⟩,
    ⟨some 4, .alloc [(.int .i64 0), (.int .i64 0), (.int .i64 0), (.int .i64 0), (.sl .nil 0 [])], none⟩,
    ⟨some 5, .mov (.k (.bool false)), none⟩])
 (.seq (.seq (.reg [⟨some 6, .faddr 0 (.t 3), none⟩,
      ⟨some 7, .load 1 false (.t 6), none⟩])
   (.block 0 (.seq (.reg [⟨some 9, .bin .eql (.t 7) (.k (.int .i64 5)), none⟩,
        ⟨some 8, .mov (.t 9), none⟩])
     (.cond (.t 8)
      (.seq (.reg [⟨some 10, .mov (.t 0), none⟩,
          ⟨some 11, .faddr 2 (.t 3), none⟩,
          ⟨some 12, .load 1 false (.t 11), none⟩,
          ⟨some 13, .call 97 [(.t 10), (.t 12)], none⟩,
          ⟨some 14, .call 131 [(.t 13)], none⟩,
          ⟨none, .store 5 (.t 4) (.t 14), none⟩,
          ⟨some 5, .mov (.k (.bool true)), none⟩])
       (.ret))
      (.seq (.seq (.reg [⟨some 16, .bin .eql (.t 7) (.k (.int .i64 6)), none⟩,
           ⟨some 15, .mov (.t 16), none⟩])
        (.cond (.t 15)
         (.skip)
         (.seq (.reg [⟨some 17, .bin .eql (.t 7) (.k (.int .i64 7)), none⟩,
             ⟨some 15, .mov (.t 17), none⟩])
          (.cond (.t 15)
           (.skip)
           (.reg [⟨some 18, .bin .eql (.t 7) (.k (.int .i64 8)), none⟩,
              ⟨some 15, .mov (.t 18), none⟩])))))
       (.cond (.t 15)
        (.seq (.reg [⟨some 19, .mov (.t 0), none⟩,
            ⟨some 20, .faddr 1 (.t 3), none⟩,
            ⟨some 21, .load 1 false (.t 20), none⟩,
            ⟨some 22, .call 97 [(.t 19), (.t 21)], none⟩,
            ⟨some 23, .call 131 [(.t 22)], none⟩,
            ⟨none, .store 5 (.t 4) (.t 23), none⟩,
            ⟨some 5, .mov (.k (.bool true)), none⟩])
         (.ret))
        (.skip)))))))
  (.seq (.reg [⟨some 24, .build [(.int .i64 0), (.int .i64 0), (.int .i64 0), (.int .i64 0), (.sl .nil 0 [])] [], none⟩,
      ⟨none, .store 5 (.t 4) (.t 24), none⟩,
      ⟨some 5, .mov (.k (.bool false)), none⟩])
   (.ret)))⟩
theorem fok_impl_nullFormula : FOk Try.prog 133 code_impl_nullFormula := fok Try.func133 (by kernel_rfl)
def code_impl_Passes : F := ⟨76, [.tmp 6],
 .seq (.reg [⟨some 4, .box (.t 1), none⟩,
    ⟨some 5, .box (.t 2), none⟩,
    ⟨some 6, .mov (.k (.int .i64 0)), none⟩])
 (.seq (.seq (.reg [⟨some 13, .mov (.t 0), none⟩,
      ⟨some 14, .load 3 true (.t 4), none⟩,
      ⟨some 15, .call 98 [(.t 13), (.t 14)], none⟩,
      ⟨some 16, .not (.t 15), none⟩])
   (.cond (.t 16)
    (.seq (.reg [⟨some 6, .mov (.k (.int .i64 1)), none⟩])
     (.ret))
    (.skip)))
  (.seq (.dreg [false, false, false, false, false, false, false, true, true, true] [⟨some 17, .mov (.t 0), none⟩,
      ⟨some 18, .faddr 1 (.t 4), none⟩,
      ⟨some 19, .load 1 false (.t 18), none⟩,
      ⟨some 20, .call 97 [(.t 17), (.t 19)], none⟩,
      ⟨some 21, .mov (.t 0), none⟩,
      ⟨some 22, .faddr 2 (.t 4), none⟩,
      ⟨some 23, .load 1 false (.t 22), none⟩,
      ⟨some 24, .call 97 [(.t 21), (.t 23)], none⟩,
      ⟨some 7, .mov (.t 20), none⟩,
      ⟨some 8, .mov (.t 24), none⟩])
   (.seq (.seq (.reg [⟨some 25, .faddr 0 (.t 4), none⟩,
        ⟨some 26, .load 1 false (.t 25), none⟩])
     (.block 0 (.seq (.reg [⟨some 28, .bin .eql (.t 26) (.k (.int .i64 9)), none⟩,
          ⟨some 27, .mov (.t 28), none⟩])
       (.cond (.t 27)
        (.seq (.dreg [false, false, false, true, true, true] [⟨some 29, .load 2 true (.t 5), none⟩,
            ⟨some 30, .mov (.t 7), none⟩,
            ⟨some 31, .call 131 [(.t 30)], none⟩,
            ⟨some 32, .call 118 [(.t 29), (.t 31)], none⟩,
            ⟨some 33, .call 130 [(.t 32)], none⟩,
            ⟨some 6, .mov (.t 33), none⟩])
         (.ret))
        (.seq (.reg [⟨some 35, .bin .eql (.t 26) (.k (.int .i64 10)), none⟩,
            ⟨some 34, .mov (.t 35), none⟩])
         (.cond (.t 34)
          (.seq (.dreg [false, false, false, true, true] [⟨some 36, .load 2 true (.t 5), none⟩,
              ⟨some 37, .mov (.t 7), none⟩,
              ⟨some 38, .call 131 [(.t 37)], none⟩,
              ⟨some 39, .call 118 [(.t 36), (.t 38)], none⟩,
              ⟨some 6, .mov (.t 39), none⟩])
           (.ret))
          (.seq (.seq (.reg [⟨some 41, .bin .eql (.t 26) (.k (.int .i64 11)), none⟩,
               ⟨some 40, .mov (.t 41), none⟩])
            (.cond (.t 40)
             (.skip)
             (.reg [⟨some 42, .bin .eql (.t 26) (.k (.int .i64 12)), none⟩,
                ⟨some 40, .mov (.t 42), none⟩])))
           (.cond (.t 40)
            (.seq (.reg [⟨some 43, .mov (.t 7), none⟩,
                ⟨some 44, .call 102 [(.t 43), (.k (.int .i64 0))], none⟩,
                ⟨some 45, .mov (.t 8), none⟩,
                ⟨some 46, .call 102 [(.t 45), (.k (.int .i64 0))], none⟩,
                ⟨some 47, .call 99 [(.t 44), (.t 46)], none⟩,
                ⟨some 48, .mov (.t 7), none⟩,
                ⟨some 49, .call 102 [(.t 48), (.k (.int .i64 0))], none⟩,
                ⟨some 50, .call 101 [(.t 49)], none⟩,
                ⟨some 51, .mov (.t 8), none⟩,
                ⟨some 52, .call 102 [(.t 51), (.k (.int .i64 0))], none⟩,
                ⟨some 53, .call 101 [(.t 52)], none⟩,
                ⟨some 54, .call 99 [(.t 50), (.t 53)], none⟩,
                ⟨some 55, .call 103 [(.t 47), (.t 54)], none⟩,
                ⟨some 56, .call 132 [(.k (.int .i64 0)), (.t 55)], none⟩,
                ⟨some 9, .alloc [(.int .i64 0), (.int .i64 0), (.int .i64 0), (.int .i64 0), (.sl .nil 0 [])], none⟩,
                ⟨none, .store 5 (.t 9) (.t 56), none⟩])
             (.seq (.reg [⟨some 57, .load 2 true (.t 5), none⟩,
                 ⟨some 58, .load 5 true (.t 9), none⟩,
                 ⟨some 59, .call 118 [(.t 57), (.t 58)], none⟩,
                 ⟨some 10, .mov (.t 59), none⟩])
              (.seq (.seq (.reg [⟨some 60, .faddr 0 (.t 4), none⟩,
                   ⟨some 61, .load 1 false (.t 60), none⟩,
                   ⟨some 62, .bin .eql (.t 61) (.k (.int .i64 12)), none⟩])
                (.cond (.t 62)
                 (.seq (.reg [⟨some 63, .mov (.t 10), none⟩,
                     ⟨some 64, .call 130 [(.t 63)], none⟩,
                     ⟨some 6, .mov (.t 64), none⟩])
                  (.ret))
                 (.skip)))
               (.seq (.reg [⟨some 65, .mov (.t 10), none⟩,
                   ⟨some 6, .mov (.t 65), none⟩])
                (.ret)))))
            (.skip)))))))))
    (.seq (.seq (.reg [⟨some 67, .mov (.t 0), none⟩,
         ⟨some 68, .load 3 true (.t 4), none⟩,
         ⟨some 69, .call 133 [(.t 67), (.t 68)], none⟩,
         ⟨some 66, .mov (.t 69), none⟩,
         ⟨some 70, .extr (.t 66) 0, none⟩,
         ⟨some 71, .extr (.t 66) 1, none⟩,
         ⟨some 11, .alloc [(.int .i64 0), (.int .i64 0), (.int .i64 0), (.int .i64 0), (.sl .nil 0 [])], none⟩,
         ⟨none, .store 5 (.t 11) (.t 70), none⟩,
         ⟨some 12, .mov (.t 71), none⟩])
      (.seq (.reg [⟨some 72, .mov (.t 12), none⟩])
       (.cond (.t 72)
        (.seq (.reg [⟨some 73, .load 2 true (.t 5), none⟩,
            ⟨some 74, .load 5 true (.t 11), none⟩,
            ⟨some 75, .call 118 [(.t 73), (.t 74)], none⟩,
            ⟨some 6, .mov (.t 75), none⟩])
         (.ret))
        (.skip))))
     (.seq (.reg [⟨some 6, .mov (.k (.int .i64 2)), none⟩])
      (.ret))))))⟩
theorem fok_impl_Passes : FOk Try.prog 51 code_impl_Passes := fok Try.func51 (by kernel_rfl)
def code_spec_l22Some : F := ⟨6, [.cell 5 true 2],
 .seq (.reg [⟨some 2, .alloc [(.int .i64 0), (.int .i64 0), (.int .i64 0), (.int .i64 0), (.sl .nil 0 [])], none⟩])
 (.seq (.reg [⟨some 3, .mov (.t 0), none⟩,
     ⟨some 4, .call 95 [(.t 3), (.k (.int .i64 0))], none⟩,
     ⟨some 5, .call 179 [(.k (.int .i64 0)), (.t 4)], none⟩,
     ⟨none, .store 5 (.t 2) (.t 5), none⟩])
  (.ret))⟩
theorem fok_spec_l22Some : FOk Try.prog 127 code_spec_l22Some := fok Try.func127 (by kernel_rfl)
def code_spec_l22Null : F := ⟨21, [.tmp 4],
 .seq (.reg [⟨some 3, .box (.t 1), none⟩,
    ⟨some 4, .mov (.k (.int .i64 0)), none⟩])
 (.seq (.seq (.reg [⟨some 5, .faddr 0 (.t 3), none⟩,
      ⟨some 6, .load 1 false (.t 5), none⟩])
   (.block 0 (.seq (.reg [⟨some 8, .bin .eql (.t 6) (.k (.int .i64 5)), none⟩,
        ⟨some 7, .mov (.t 8), none⟩])
     (.cond (.t 7)
      (.seq (.reg [⟨some 9, .mov (.t 0), none⟩,
          ⟨some 10, .faddr 2 (.t 3), none⟩,
          ⟨some 11, .load 1 false (.t 10), none⟩,
          ⟨some 12, .call 91 [(.t 9), (.t 11)], none⟩,
          ⟨some 4, .mov (.t 12), none⟩])
       (.ret))
      (.seq (.seq (.reg [⟨some 14, .bin .eql (.t 6) (.k (.int .i64 6)), none⟩,
           ⟨some 13, .mov (.t 14), none⟩])
        (.cond (.t 13)
         (.skip)
         (.seq (.reg [⟨some 15, .bin .eql (.t 6) (.k (.int .i64 7)), none⟩,
             ⟨some 13, .mov (.t 15), none⟩])
          (.cond (.t 13)
           (.skip)
           (.reg [⟨some 16, .bin .eql (.t 6) (.k (.int .i64 8)), none⟩,
              ⟨some 13, .mov (.t 16), none⟩])))))
       (.cond (.t 13)
        (.seq (.reg [⟨some 17, .mov (.t 0), none⟩,
            ⟨some 18, .faddr 1 (.t 3), none⟩,
            ⟨some 19, .load 1 false (.t 18), none⟩,
            ⟨some 20, .call 91 [(.t 17), (.t 19)], none⟩,
            ⟨some 4, .mov (.t 20), none⟩])
         (.ret))
        (.skip)))))))
  (.seq (.reg [⟨some 4, .mov (.k (.int .i64 (-1))), none⟩])
   (.ret)))⟩
theorem fok_spec_l22Null : FOk Try.prog 129 code_spec_l22Null := fok Try.func129 (by kernel_rfl)
def code_spec_l22Same : F := ⟨24, [.cell 5 true 4],
 .seq (.reg [⟨some 4, .alloc [(.int .i64 0), (.int .i64 0), (.int .i64 0), (.int .i64 0), (.sl .nil 0 [])], none⟩])
 (.seq (.reg [⟨some 7, .mov (.t 0), none⟩,
     ⟨some 8, .call 95 [(.t 7), (.k (.int .i64 0))], none⟩,
     ⟨some 9, .mov (.t 1), none⟩,
     ⟨some 10, .call 95 [(.t 9), (.k (.int .i64 0))], none⟩,
     ⟨some 11, .call 92 [(.t 8), (.t 10)], none⟩,
     ⟨some 5, .alloc [(.int .i64 0), (.int .i64 0), (.int .i64 0), (.int .i64 0), (.sl .nil 0 [])], none⟩,
     ⟨none, .store 5 (.t 5) (.t 11), none⟩])
  (.seq (.reg [⟨some 12, .mov (.t 0), none⟩,
      ⟨some 13, .call 95 [(.t 12), (.k (.int .i64 0))], none⟩,
      ⟨some 14, .call 94 [(.t 13)], none⟩,
      ⟨some 15, .mov (.t 1), none⟩,
      ⟨some 16, .call 95 [(.t 15), (.k (.int .i64 0))], none⟩,
      ⟨some 17, .call 94 [(.t 16)], none⟩,
      ⟨some 18, .call 92 [(.t 14), (.t 17)], none⟩,
      ⟨some 6, .alloc [(.int .i64 0), (.int .i64 0), (.int .i64 0), (.int .i64 0), (.sl .nil 0 [])], none⟩,
      ⟨none, .store 5 (.t 6) (.t 18), none⟩])
   (.seq (.reg [⟨some 19, .load 5 true (.t 5), none⟩,
       ⟨some 20, .load 5 true (.t 6), none⟩,
       ⟨some 21, .call 96 [(.t 19), (.t 20)], none⟩,
       ⟨some 22, .bsl 57 5 1 (.agg [(.int .i64 0), (.int .i64 0), (.int .i64 0), (.int .i64 0), (.sl .nil 0 [])]) [(0, (.t 21))], none⟩,
       ⟨some 23, .build [(.int .i64 0), (.int .i64 0), (.int .i64 0), (.int .i64 0), (.sl .nil 0 [])] [(0, 1, (.k (.int .i64 12))), (4, 1, (.t 22))], none⟩,
       ⟨none, .store 5 (.t 4) (.t 23), none⟩])
    (.ret))))⟩
theorem fok_spec_l22Same : FOk Try.prog 128 code_spec_l22Same := fok Try.func128 (by kernel_rfl)
def code_spec_Passes : F := ⟨61, [.tmp 6],
 .seq (.reg [⟨some 4, .box (.t 1), none⟩,
    ⟨some 5, .box (.t 2), none⟩,
    ⟨some 6, .mov (.k (.int .i64 0)), none⟩])
 (.seq (.seq (.reg [⟨some 10, .mov (.t 0), none⟩,
      ⟨some 11, .load 3 true (.t 4), none⟩,
      ⟨some 12, .call 90 [(.t 10), (.t 11)], none⟩,
      ⟨some 13, .not (.t 12), none⟩])
   (.cond (.t 13)
    (.seq (.reg [⟨some 6, .mov (.k (.int .i64 1)), none⟩])
     (.ret))
    (.skip)))
  (.seq (.reg [⟨some 14, .mov (.t 0), none⟩,
      ⟨some 15, .faddr 1 (.t 4), none⟩,
      ⟨some 16, .load 1 false (.t 15), none⟩,
      ⟨some 17, .call 91 [(.t 14), (.t 16)], none⟩,
      ⟨some 7, .mov (.t 17), none⟩])
   (.seq (.reg [⟨some 18, .mov (.t 0), none⟩,
       ⟨some 19, .faddr 2 (.t 4), none⟩,
       ⟨some 20, .load 1 false (.t 19), none⟩,
       ⟨some 21, .call 91 [(.t 18), (.t 20)], none⟩,
       ⟨some 8, .mov (.t 21), none⟩])
    (.seq (.seq (.reg [⟨some 22, .faddr 0 (.t 4), none⟩,
         ⟨some 23, .load 1 false (.t 22), none⟩])
      (.block 0 (.seq (.reg [⟨some 25, .bin .eql (.t 23) (.k (.int .i64 9)), none⟩,
           ⟨some 24, .mov (.t 25), none⟩])
        (.cond (.t 24)
         (.seq (.dreg [false, false, false, true, true, true] [⟨some 26, .load 2 true (.t 5), none⟩,
             ⟨some 27, .mov (.t 7), none⟩,
             ⟨some 28, .call 127 [(.t 27)], none⟩,
             ⟨some 29, .call 116 [(.t 26), (.t 28)], none⟩,
             ⟨some 30, .call 126 [(.t 29)], none⟩,
             ⟨some 6, .mov (.t 30), none⟩])
          (.ret))
         (.seq (.reg [⟨some 32, .bin .eql (.t 23) (.k (.int .i64 10)), none⟩,
             ⟨some 31, .mov (.t 32), none⟩])
          (.cond (.t 31)
           (.seq (.dreg [false, false, false, true, true] [⟨some 33, .load 2 true (.t 5), none⟩,
               ⟨some 34, .mov (.t 7), none⟩,
               ⟨some 35, .call 127 [(.t 34)], none⟩,
               ⟨some 36, .call 116 [(.t 33), (.t 35)], none⟩,
               ⟨some 6, .mov (.t 36), none⟩])
            (.ret))
           (.seq (.reg [⟨some 38, .bin .eql (.t 23) (.k (.int .i64 11)), none⟩,
               ⟨some 37, .mov (.t 38), none⟩])
            (.cond (.t 37)
             (.seq (.dreg [false, false, false, false, true, true] [⟨some 39, .load 2 true (.t 5), none⟩,
                 ⟨some 40, .mov (.t 7), none⟩,
                 ⟨some 41, .mov (.t 8), none⟩,
                 ⟨some 42, .call 128 [(.t 40), (.t 41)], none⟩,
                 ⟨some 43, .call 116 [(.t 39), (.t 42)], none⟩,
                 ⟨some 6, .mov (.t 43), none⟩])
              (.ret))
             (.seq (.reg [⟨some 45, .bin .eql (.t 23) (.k (.int .i64 12)), none⟩,
                 ⟨some 44, .mov (.t 45), none⟩])
              (.cond (.t 44)
               (.seq (.dreg [false, false, false, false, true, true, true] [⟨some 46, .load 2 true (.t 5), none⟩,
                   ⟨some 47, .mov (.t 7), none⟩,
                   ⟨some 48, .mov (.t 8), none⟩,
                   ⟨some 49, .call 128 [(.t 47), (.t 48)], none⟩,
                   ⟨some 50, .call 116 [(.t 46), (.t 49)], none⟩,
                   ⟨some 51, .call 126 [(.t 50)], none⟩,
                   ⟨some 6, .mov (.t 51), none⟩])
                (.ret))
               (.skip)))))))))))
     (.seq (.reg [⟨some 52, .mov (.t 0), none⟩,
         ⟨some 53, .load 3 true (.t 4), none⟩,
         ⟨some 54, .call 129 [(.t 52), (.t 53)], none⟩,
         ⟨some 9, .mov (.t 54), none⟩])
      (.seq (.seq (.reg [⟨some 55, .mov (.t 9), none⟩,
           ⟨some 56, .bin .geq (.t 55) (.k (.int .i64 0)), none⟩])
        (.cond (.t 56)
         (.seq (.dreg [false, false, false, true, true] [⟨some 57, .load 2 true (.t 5), none⟩,
             ⟨some 58, .mov (.t 9), none⟩,
             ⟨some 59, .call 127 [(.t 58)], none⟩,
             ⟨some 60, .call 116 [(.t 57), (.t 59)], none⟩,
             ⟨some 6, .mov (.t 60), none⟩])
          (.ret))
         (.skip)))
       (.seq (.reg [⟨some 6, .mov (.k (.int .i64 2)), none⟩])
        (.ret))))))))⟩
theorem fok_spec_Passes : FOk Try.prog 50 code_spec_Passes := fok Try.func50 (by kernel_rfl)
def someF (k : Int) : Fm := .mk 11 0 0 0 [.mk 2 k 0 0 []]
def sameF (a b : Int) : Fm := .mk 12 0 0 0 [.mk 10 0 0 0 [.mk 9 0 0 0 [.mk 2 a 0 0 [], .mk 2 b 0 0 []], .mk 9 0 0 0 [.mk 8 0 0 0 [.mk 2 a 0 0 []], .mk 8 0 0 0 [.mk 2 b 0 0 []]]]]
@[simp] theorem someF_noPath (k : Int) : noPathF (someF k) = true := by simp [someF, noPathF, noPathS]
@[simp] theorem sameF_noPath (a b : Int) : noPathF (sameF a b) = true := by simp [sameF, noPathF, noPathS]
def nullB (k : Int) : Bool := decide (k = 5) || (decide (6 ≤ k) && decide (k ≤ 8))
def nullK (vars : List (List UInt8)) (s : Stmt) : Int := if s.kind = 5 then ixS vars s.b else if 6 ≤ s.kind ∧ s.kind ≤ 8 then ixS vars s.a else -1
@[simp] def ct_pointsSome : Ct := ⟨131, Int, fun _ => True, fun x => [.int .i64 x], fun x => encFm (someF x)⟩
theorem ok_pointsSome : ct_pointsSome.Ok Try.prog := by
  rintro k -
  change Int at k
  refine Ok.of_cw fok_impl_pointsSome (go_ok (tab_cons ok_onP (tab_cons ok_fmSomeP tab_nil)) ?_)
  simp [code_impl_pointsSome, List.replicate, someF, -encFm_mk]
  exact encFm_eq _
@[simp] def ct_l22Some : Ct := ⟨127, Int, fun _ => True, fun x => [.int .i64 x], fun x => encFm (someF x)⟩
theorem ok_l22Some : ct_l22Some.Ok Try.prog := by
  rintro k -
  change Int at k
  refine Ok.of_cw fok_spec_l22Some (go_ok (tab_cons ok_l14Var (tab_cons ok_l14Some tab_nil)) ?_)
  simp [code_spec_l22Some, List.replicate, someF, -encFm_mk, size_mk, sizes_cons, sizes_nil]
  exact encFm_eq _
@[simp] def ct_l22Same : Ct := ⟨128, Int × Int, fun _ => True, fun x => [.int .i64 x.1, .int .i64 x.2], fun x => encFm (sameF x.1 x.2)⟩
set_option maxHeartbeats 2000000 in
set_option maxRecDepth 100000 in
theorem ok_l22Same : ct_l22Same.Ok Try.prog := by
  rintro ⟨a, b⟩ -
  refine Ok.of_cw fok_spec_l22Same (go_ok (tab_cons ok_l14Var (tab_cons ok_l14And (tab_cons ok_l14Not (tab_cons ok_l14Or tab_nil)))) ?_)
  simp [code_spec_l22Same, List.replicate, sameF, -encFm_mk, size_mk, sizes_cons, sizes_nil]
  exact encFm_eq _
@[simp] def ct_nullF : Ct := ⟨133, List (List UInt8) × Stmt, fun _ => True, fun x => [encL 1 encStr x.1, encStmt x.2], fun x => .tup [encFm (if nullB x.2.kind then someF (nullK x.1 x.2) else .mk 0 0 0 0 []), .bool (nullB x.2.kind)]⟩
set_option maxHeartbeats 2000000 in
theorem ok_nullF : ct_nullF.Ok Try.prog := by
  rintro ⟨vars, ⟨k, a, b⟩⟩ -
  refine Ok.of_cw fok_impl_nullFormula (go_ok (tab_cons ok_pIndexOf (tab_cons ok_pointsSome tab_nil)) ?_)
  by_cases h : 5 ≤ k ∧ k ≤ 8
  · obtain rfl | rfl | rfl | rfl : k = 5 ∨ k = 6 ∨ k = 7 ∨ k = 8 := by omega
    all_goals simp [code_impl_nullFormula, List.replicate, nullB, nullK, -encFm_mk]
    all_goals exact encFm_eq _
  · have n5 : ¬ k = 5 := by omega
    have n6 : ¬ k = 6 := by omega
    have n7 : ¬ k = 7 := by omega
    have n8 : ¬ k = 8 := by omega
    have hb : nullB k = false := by simp [nullB, n5]; omega
    simp [code_impl_nullFormula, List.replicate, n5, n6, n7, n8, hb]
@[simp] def ct_l22Null : Ct := ⟨129, List (List UInt8) × Stmt, fun _ => True, fun x => [encL 1 encStr x.1, encStmt x.2], fun x => .int .i64 (nullK x.1 x.2)⟩
set_option maxHeartbeats 2000000 in
theorem ok_l22Null : ct_l22Null.Ok Try.prog := by
  rintro ⟨vars, ⟨k, a, b⟩⟩ -
  refine Ok.of_cw fok_spec_l22Null (go_ok (tab_cons ok_sIndexOf tab_nil) ?_)
  by_cases h : 5 ≤ k ∧ k ≤ 8
  · obtain rfl | rfl | rfl | rfl : k = 5 ∨ k = 6 ∨ k = 7 ∨ k = 8 := by omega
    all_goals simp [code_spec_l22Null, List.replicate, nullK]
  · have n5 : ¬ k = 5 := by omega
    have n6 : ¬ k = 6 := by omega
    have n7 : ¬ k = 7 := by omega
    have n8 : ¬ k = 8 := by omega
    have hb : ¬ (6 ≤ k ∧ k ≤ 8) := by omega
    have hE : nullK vars ⟨k, a, b⟩ = -1 := by unfold nullK; rw [if_neg n5, if_neg hb]
    simp [code_spec_l22Null, List.replicate, n5, n6, n7, n8, hE]
theorem stmt_null {vars : List (List UInt8)} {k : Int} {a b : List UInt8} (h : stmtB vars ⟨k, a, b⟩ = true) (hk : nullB k = true) : 0 ≤ nullK vars ⟨k, a, b⟩ := by
  have hk2 : 5 ≤ k ∧ k ≤ 8 := by simp [nullB] at hk; omega
  simp only [stmtB, namesOkB, Bool.and_eq_true] at h
  obtain ⟨_, ⟨h1, h2⟩, h3⟩ := h
  obtain rfl | rfl | rfl | rfl : k = 5 ∨ k = 6 ∨ k = 7 ∨ k = 8 := by omega
  all_goals simp [namesN] at h2 h3
  all_goals simp [nullK]
  all_goals omega
theorem nullK_not {vars : List (List UInt8)} {k : Int} {a b : List UInt8} (hk : nullB k = false) : nullK vars ⟨k, a, b⟩ = -1 := by
  simp [nullB] at hk
  unfold nullK
  rw [if_neg (by simp; omega), if_neg (by simp; omega)]
/-- What a statement's test comes to. -/
noncomputable def passT (vars : List (List UInt8)) (s : Stmt) (x : Strc) : Int :=
  if stmtB vars s then
    if s.kind = 9 then notT3 (evalT x (someF (ixS vars s.a)) [])
    else if s.kind = 10 then evalT x (someF (ixS vars s.a)) []
    else if s.kind = 11 then evalT x (sameF (ixS vars s.a) (ixS vars s.b)) []
    else if s.kind = 12 then notT3 (evalT x (sameF (ixS vars s.a) (ixS vars s.b)) [])
    else if nullB s.kind then evalT x (someF (nullK vars s)) []
    else 2
  else 1
@[simp] noncomputable def ct_pPasses : Ct := ⟨51, List (List UInt8) × Stmt × Strc, fun x => szVarsOk x.1 ∧ szStrc x.2.2 ≤ 1048576, fun x => [encL 1 encStr x.1, encStmt x.2.1, encStrc x.2.2], fun x => .int .i64 (passT x.1 x.2.1 x.2.2)⟩
set_option maxHeartbeats 8000000 in
set_option maxRecDepth 100000 in
theorem ok_pPasses : ct_pPasses.Ok Try.prog := by
  rintro ⟨vars, ⟨k, a, b⟩, s⟩ ⟨hv, hs⟩
  change szVarsOk vars at hv
  change szStrc s ≤ 1048576 at hs
  have hT : TabOk Try.prog _ := tab_cons ok_pIsStmt (tab_cons ok_pIndexOf (tab_cons ok_pointsSome (tab_cons (ok_pHolds ok_noPath) (tab_cons ok_pNotOf (tab_cons ok_onP (tab_cons ok_fmAndP (tab_cons ok_fmNotP (tab_cons ok_fmOrP (tab_cons ok_fmAllP (tab_cons ok_nullF tab_nil))))))))))
  have hSame : sameF (ixS vars a) (ixS vars b) = .mk 12 0 0 0 [.mk 10 0 0 0 [.mk 9 0 0 0 [.mk 2 (ixS vars a) 0 0 [], .mk 2 (ixS vars b) 0 0 []], .mk 9 0 0 0 [.mk 8 0 0 0 [.mk 2 (ixS vars a) 0 0 []], .mk 8 0 0 0 [.mk 2 (ixS vars b) 0 0 []]]]] := rfl
  have hnp := sameF_noPath (ixS vars a) (ixS vars b)
  refine Ok.of_cw fok_impl_Passes ?_
  simp only [code_impl_Passes, frame, List.length_cons, List.length_nil, List.replicate, Nat.reduceSub, Nat.reduceAdd, List.cons_append, List.nil_append]
  refine cw_seq (go_ok hT ?_)
  simp
  refine cw_seq (go_ok hT ?_)
  cases c : stmtB vars ⟨k, a, b⟩
  · simp [hv, c, passT]
  simp [hv, c]
  refine cw_seq (go_ok hT ?_)
  simp
  refine cw_seq (go_ok hT ?_)
  by_cases k9 : k = 9
  · subst k9
    simp [passT, c, hs]
  by_cases k10 : k = 10
  · subst k10
    simp [passT, c, hs]
  by_cases k11 : k = 11
  · subst k11
    have hE : passT vars ⟨11, a, b⟩ s = evalT s (sameF (ixS vars a) (ixS vars b)) [] := by simp [passT, c]
    rw [hSame] at hE hnp
    change go _ _ _ _ (thenS _ (retP _ (.int .i64 (passT vars ⟨11, a, b⟩ s)))) _
    rw [hE]
    simp [hs, hnp, -encFm_mk]
  by_cases k12 : k = 12
  · subst k12
    have hE : passT vars ⟨12, a, b⟩ s = notT3 (evalT s (sameF (ixS vars a) (ixS vars b)) []) := by simp [passT, c]
    rw [hSame] at hE hnp
    change go _ _ _ _ (thenS _ (retP _ (.int .i64 (passT vars ⟨12, a, b⟩ s)))) _
    rw [hE]
    simp [hs, hnp, -encFm_mk]
  simp [k9, k10, k11, k12]
  refine go_ok hT ?_
  cases d : nullB k
  · simp [passT, c, d, k9, k10, k11, k12]
  · simp [passT, c, d, k9, k10, k11, k12, hs, -encFm_mk]
@[simp] noncomputable def ct_sPasses : Ct := ⟨50, List (List UInt8) × Stmt × Strc, fun x => szVarsOk x.1 ∧ szStrc x.2.2 ≤ 1048576, fun x => [encL 1 encStr x.1, encStmt x.2.1, encStrc x.2.2], fun x => .int .i64 (passT x.1 x.2.1 x.2.2)⟩
set_option maxHeartbeats 8000000 in
set_option maxRecDepth 100000 in
theorem ok_sPasses : ct_sPasses.Ok Try.prog := by
  rintro ⟨vars, ⟨k, a, b⟩, s⟩ ⟨hv, hs⟩
  change szVarsOk vars at hv
  change szStrc s ≤ 1048576 at hs
  have hT : TabOk Try.prog _ := tab_cons ok_sIsStmt (tab_cons ok_sIndexOf (tab_cons ok_l22Some (tab_cons (ok_sHolds ok_noPathS) (tab_cons ok_sNotOf (tab_cons ok_l22Same (tab_cons ok_l22Null tab_nil))))))
  refine Ok.of_cw fok_spec_Passes ?_
  simp only [code_spec_Passes, frame, List.length_cons, List.length_nil, List.replicate, Nat.reduceSub, Nat.reduceAdd, List.cons_append, List.nil_append]
  refine cw_seq (go_ok hT ?_)
  simp
  refine cw_seq (go_ok hT ?_)
  cases c : stmtB vars ⟨k, a, b⟩
  · simp [hv, c, passT]
  simp [hv, c]
  refine cw_seq (go_ok hT ?_)
  simp
  refine cw_seq (go_ok hT ?_)
  simp
  refine cw_seq (go_ok hT ?_)
  by_cases k9 : k = 9
  · subst k9
    simp [passT, c, hs]
  by_cases k10 : k = 10
  · subst k10
    simp [passT, c, hs]
  by_cases k11 : k = 11
  · subst k11
    simp [passT, c, hs]
  by_cases k12 : k = 12
  · subst k12
    simp [passT, c, hs]
  simp [k9, k10, k11, k12]
  refine cw_seq (go_ok hT ?_)
  simp
  refine go_ok hT ?_
  cases d : nullB k
  · have hn := nullK_not (vars := vars) (a := a) (b := b) d
    simp [passT, c, d, k9, k10, k11, k12, hn]
  · have hn := stmt_null c d
    simp [passT, c, d, k9, k10, k11, k12, hs, hn]
def code_laws_FnExactPasses : F := ⟨56, [.tmp 6],
 .seq (.reg [⟨some 4, .box (.t 1), none⟩,
    ⟨some 5, .box (.t 2), none⟩,
    ⟨some 6, .mov (.k (.bool false)), none⟩])
 (.seq (.reg [⟨some 7, .mov (.k (.int .i64 1048576)), none⟩])
  (.seq (.reg [⟨some 12, .mov (.t 0), none⟩,
      ⟨some 13, .mov (.t 7), none⟩,
      ⟨some 14, .call 31 [(.t 12), (.t 13)], none⟩,
      ⟨some 7, .mov (.t 14), none⟩])
   (.seq (.seq (.reg [⟨some 15, .mov (.t 7), none⟩,
        ⟨some 16, .bin .lss (.t 15) (.k (.int .i64 0)), none⟩])
     (.cond (.t 16)
      (.seq (.reg [⟨some 6, .mov (.k (.bool true)), none⟩])
       (.ret))
      (.skip)))
    (.seq (.reg [⟨some 17, .load 3 true (.t 4), none⟩,
        ⟨some 18, .mov (.t 7), none⟩,
        ⟨some 19, .call 32 [(.t 17), (.t 18)], none⟩,
        ⟨some 7, .mov (.t 19), none⟩])
     (.seq (.seq (.reg [⟨some 20, .mov (.t 7), none⟩,
          ⟨some 21, .bin .lss (.t 20) (.k (.int .i64 0)), none⟩])
       (.cond (.t 21)
        (.seq (.reg [⟨some 6, .mov (.k (.bool true)), none⟩])
         (.ret))
        (.skip)))
      (.seq (.reg [⟨some 22, .load 2 true (.t 5), none⟩,
          ⟨some 23, .mov (.t 7), none⟩,
          ⟨some 24, .call 12 [(.t 22), (.t 23)], none⟩,
          ⟨some 7, .mov (.t 24), none⟩])
       (.seq (.seq (.reg [⟨some 25, .mov (.t 7), none⟩,
            ⟨some 26, .bin .lss (.t 25) (.k (.int .i64 0)), none⟩])
         (.cond (.t 26)
          (.seq (.reg [⟨some 6, .mov (.k (.bool true)), none⟩])
           (.ret))
          (.skip)))
        (.seq (.dreg [false, false, false, false, false, true, true, true] [⟨some 27, .mov (.t 0), none⟩,
            ⟨some 28, .call 34 [(.t 27)], none⟩,
            ⟨some 29, .load 3 true (.t 4), none⟩,
            ⟨some 30, .call 35 [(.t 29)], none⟩,
            ⟨some 31, .load 2 true (.t 5), none⟩,
            ⟨some 32, .call 14 [(.t 31)], none⟩,
            ⟨some 33, .call 50 [(.t 28), (.t 30), (.t 32)], none⟩,
            ⟨some 8, .mov (.t 33), none⟩])
         (.seq (.reg [⟨some 34, .mov (.t 0), none⟩,
             ⟨some 35, .call 34 [(.t 34)], none⟩,
             ⟨some 9, .mov (.t 35), none⟩])
          (.seq (.reg [⟨some 36, .load 2 true (.t 5), none⟩,
              ⟨some 37, .call 14 [(.t 36)], none⟩,
              ⟨some 10, .alloc [(.sl .nil 0 []), (.sl .nil 0 [])], none⟩,
              ⟨none, .store 2 (.t 10) (.t 37), none⟩])
           (.seq (.dreg [false, false, false, false, true, true] [⟨some 38, .mov (.t 9), none⟩,
               ⟨some 39, .load 3 true (.t 4), none⟩,
               ⟨some 40, .call 35 [(.t 39)], none⟩,
               ⟨some 41, .load 2 true (.t 10), none⟩,
               ⟨some 42, .call 51 [(.t 38), (.t 40), (.t 41)], none⟩,
               ⟨some 11, .mov (.t 42), none⟩])
            (.seq (.seq (.reg [⟨some 43, .mov (.t 11), none⟩,
                 ⟨some 44, .mov (.t 8), none⟩,
                 ⟨some 45, .bin .neq (.t 43) (.t 44), none⟩])
              (.cond (.t 45)
               (.seq (.reg [⟨some 6, .mov (.k (.bool false)), none⟩])
                (.ret))
               (.skip)))
             (.seq (.seq (.reg [⟨some 46, .mov (.t 9), none⟩,
                  ⟨some 47, .mov (.t 0), none⟩,
                  ⟨some 48, .call 34 [(.t 47)], none⟩,
                  ⟨some 49, .call 38 [(.t 46), (.t 48)], none⟩,
                  ⟨some 50, .not (.t 49), none⟩])
               (.cond (.t 50)
                (.seq (.reg [⟨some 6, .mov (.k (.bool false)), none⟩])
                 (.ret))
                (.skip)))
              (.seq (.seq (.dreg [false, false, false, true, true] [⟨some 51, .load 2 true (.t 10), none⟩,
                   ⟨some 52, .load 2 true (.t 5), none⟩,
                   ⟨some 53, .call 14 [(.t 52)], none⟩,
                   ⟨some 54, .call 17 [(.t 51), (.t 53)], none⟩,
                   ⟨some 55, .not (.t 54), none⟩])
                (.cond (.t 55)
                 (.seq (.reg [⟨some 6, .mov (.k (.bool false)), none⟩])
                  (.ret))
                 (.skip)))
               (.seq (.reg [⟨some 6, .mov (.k (.bool true)), none⟩])
                (.ret))))))))))))))))⟩
theorem fok_laws_FnExactPasses : FOk Try.prog 10 code_laws_FnExactPasses := fok Try.func10 (by kernel_rfl)
set_option maxHeartbeats 8000000 in
set_option maxRecDepth 100000 in
theorem ok_lawPasses (vars : List (List UInt8)) (hv : ∀ s ∈ vars, s.length ≤ 9223372036854775807) (st : Stmt) (hst : st.a.length ≤ 9223372036854775807 ∧ st.b.length ≤ 9223372036854775807) (x : Strc) :
    Ok Try.prog 10 [encL 1 encStr vars, encStmt st, encStrc x] (.bool true) := by
  have hT : TabOk Try.prog _ := tab_cons ok_szStrs (tab_cons ok_szStmt (tab_cons ok_szStrc (tab_cons ok_toStrs (tab_cons ok_toStmt (tab_cons ok_toStrc (tab_cons ok_sPasses (tab_cons ok_pPasses (tab_cons ok_eqStrs (tab_cons ok_eqStrc tab_nil)))))))))
  have q1 : strsOk vars := hv
  have q2 : stmtOk st := hst
  refine Ok.of_cw fok_laws_FnExactPasses ?_
  simp only [code_laws_FnExactPasses, frame, List.length_cons, List.length_nil, List.replicate, Nat.reduceSub, Nat.reduceAdd, List.cons_append, List.nil_append]
  refine cw_seq (go_ok hT ?_)
  simp
  refine cw_seq (go_ok hT ?_)
  simp
  by_cases h1 : (szStrs vars : Int) ≤ 1048576
  case neg =>
    refine cw_seq (go_ok hT ?_)
    simp [q1, left_neg (by omega : (1048576:Int) < szStrs vars)]
    refine cw_seq (go_ok hT ?_)
    simp
  have l1 := left_ge h1
  have n1 : ¬ (1048576 - (szStrs vars : Int) < 0) := by omega
  have n1' : ¬ (1048576 < (szStrs vars : Int)) := by omega
  have p1 : (0 : Int) ≤ 1048576 - szStrs vars := by omega
  refine cw_seq (go_ok hT ?_)
  simp [q1, l1]
  refine cw_seq (go_ok hT ?_)
  simp [n1, n1']
  by_cases h2 : (szStmtN st : Int) ≤ 1048576 - szStrs vars
  case neg =>
    refine cw_seq (go_ok hT ?_)
    simp [q2, h1, p1, left_neg (by omega : (1048576:Int) - szStrs vars < szStmtN st)]
    refine ⟨by omega, ?_⟩
    refine cw_seq (go_ok hT ?_)
    simp
  have l2 := left_ge h2
  have n2 : ¬ (1048576 - (szStrs vars : Int) - szStmtN st < 0) := by omega
  refine cw_seq (go_ok hT ?_)
  simp [q2, h1, p1, l2]
  refine ⟨by omega, ?_⟩
  refine cw_seq (go_ok hT ?_)
  simp [n2]
  have hvl : vars.length ≤ szStrs vars := by unfold szStrs; omega
  have hvs : szVarsOk vars := ⟨by omega, fun s hs => by
    have h := sum_mem List.length hs
    unfold szStrs at h1
    omega⟩
  by_cases h3 : (szStrc x : Int) ≤ 1048576 - szStrs vars - szStmtN st
  case neg =>
    refine cw_seq (go_ok hT ?_)
    simp [left_neg (by omega : (1048576:Int) - szStrs vars - szStmtN st < szStrc x)]
    refine ⟨by omega, by omega, ?_⟩
    refine cw_seq (go_ok hT ?_)
    simp
  have l3 := left_ge h3
  have n3 : ¬ (1048576 - (szStrs vars : Int) - szStmtN st - szStrc x < 0) := by omega
  have hx : szStrc x ≤ 1048576 := by omega
  have hvl2 : vars.length ≤ 1048576 := by omega
  refine cw_seq (go_ok hT ?_)
  simp [l3]
  refine ⟨by omega, by omega, ?_⟩
  refine cw_seq (go_ok hT ?_)
  simp [n3]
  refine cw_seq (go_ok hT ?_)
  simp [hx, hvl2, hvs]
  refine cw_seq (go_ok hT ?_)
  simp [hvl2]
  refine cw_seq (go_ok hT ?_)
  simp [hx]
  refine cw_seq (go_ok hT ?_)
  simp [hx, hvs]
  refine go_ok hT ?_
  simp [hx, hvl2]
end Go.Vm
