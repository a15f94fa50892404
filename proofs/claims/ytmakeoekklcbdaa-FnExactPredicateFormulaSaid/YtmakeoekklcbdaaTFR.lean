/- The formulas of statements: what they are, and the reference's. No condition. -/
import Derived.Test.YtmakeoekklcbdaaTFL
import Derived.Test.YtmakeoekklcbdaaTSU
import Derived.Test.YtmakeoekklcbdaaTPB
set_option linter.unusedSimpArgs false
set_option linter.unusedVariables false
namespace Go.Vm
open Go.Proofs
def code_spec_l21False : F := ⟨3, [.cell 5 true 0],
 .seq (.reg [⟨some 0, .alloc [(.int .i64 0), (.int .i64 0), (.int .i64 0), (.int .i64 0), (.sl .nil 0 [])], none⟩])
 (.seq (.reg [⟨some 1, .build [(.int .i64 0), (.int .i64 0), (.int .i64 0), (.int .i64 0), (.sl .nil 0 [])] [(0, 1, (.k (.int .i64 1)))], none⟩,
     ⟨some 2, .call 94 [(.t 1)], none⟩,
     ⟨none, .store 5 (.t 0) (.t 2), none⟩])
  (.ret))⟩
theorem fok_spec_l21False : FOk Try.prog 177 code_spec_l21False := fok Try.func177 (by kernel_rfl)
def code_spec_l21CutReach : F := ⟨26, [.cell 5 true 4],
 .seq (.reg [⟨some 4, .alloc [(.int .i64 0), (.int .i64 0), (.int .i64 0), (.int .i64 0), (.sl .nil 0 [])], none⟩])
 (.seq (.reg [⟨some 7, .mov (.t 0), none⟩,
     ⟨some 8, .call 178 [(.t 7), (.k (.int .i64 0))], none⟩,
     ⟨some 9, .mov (.t 0), none⟩,
     ⟨some 10, .call 95 [(.t 9), (.k (.int .i64 0))], none⟩,
     ⟨some 11, .call 94 [(.t 10)], none⟩,
     ⟨some 12, .call 92 [(.t 8), (.t 11)], none⟩,
     ⟨some 5, .alloc [(.int .i64 0), (.int .i64 0), (.int .i64 0), (.int .i64 0), (.sl .nil 0 [])], none⟩,
     ⟨none, .store 5 (.t 5) (.t 12), none⟩])
  (.seq (.reg [⟨some 13, .mov (.t 0), none⟩,
      ⟨some 14, .call 95 [(.t 13), (.k (.int .i64 1))], none⟩,
      ⟨some 15, .mov (.t 1), none⟩,
      ⟨some 16, .call 178 [(.t 15), (.k (.int .i64 1))], none⟩,
      ⟨some 17, .call 92 [(.t 14), (.t 16)], none⟩,
      ⟨some 18, .call 179 [(.k (.int .i64 1)), (.t 17)], none⟩,
      ⟨some 6, .alloc [(.int .i64 0), (.int .i64 0), (.int .i64 0), (.int .i64 0), (.sl .nil 0 [])], none⟩,
      ⟨none, .store 5 (.t 6) (.t 18), none⟩])
   (.seq (.dreg [false, false, false, false, true, true, true, true] [false, true, false, false, true, true, true, false] [⟨some 19, .mov (.t 1), none⟩,
       ⟨some 20, .call 178 [(.t 19), (.k (.int .i64 0))], none⟩,
       ⟨some 21, .load 5 true (.t 5), none⟩,
       ⟨some 22, .load 5 true (.t 6), none⟩,
       ⟨some 23, .call 92 [(.t 21), (.t 22)], none⟩,
       ⟨some 24, .call 94 [(.t 23)], none⟩,
       ⟨some 25, .call 92 [(.t 20), (.t 24)], none⟩,
       ⟨none, .store 5 (.t 4) (.t 25), none⟩])
    (.ret))))⟩
theorem fok_spec_l21CutReach : FOk Try.prog 181 code_spec_l21CutReach := fok Try.func181 (by kernel_rfl)
def code_spec_l21CutShared : F := ⟨36, [.cell 5 true 2],
 .seq (.reg [⟨some 2, .alloc [(.int .i64 0), (.int .i64 0), (.int .i64 0), (.int .i64 0), (.sl .nil 0 [])], none⟩])
 (.seq (.reg [⟨some 7, .mov (.t 0), none⟩,
     ⟨some 8, .call 95 [(.t 7), (.k (.int .i64 1))], none⟩,
     ⟨some 9, .call 93 [(.k (.int .i64 1)), (.k (.int .i64 0))], none⟩,
     ⟨some 10, .call 92 [(.t 8), (.t 9)], none⟩,
     ⟨some 11, .call 179 [(.k (.int .i64 1)), (.t 10)], none⟩,
     ⟨some 3, .alloc [(.int .i64 0), (.int .i64 0), (.int .i64 0), (.int .i64 0), (.sl .nil 0 [])], none⟩,
     ⟨none, .store 5 (.t 3) (.t 11), none⟩])
  (.seq (.reg [⟨some 12, .build [(.int .i64 0), (.int .i64 0), (.int .i64 0), (.int .i64 0), (.sl .nil 0 [])] [(0, 1, (.k (.int .i64 6))), (2, 1, (.k (.int .i64 1))), (3, 1, (.k (.int .i64 2)))], none⟩,
      ⟨some 13, .call 94 [(.t 12)], none⟩,
      ⟨some 4, .alloc [(.int .i64 0), (.int .i64 0), (.int .i64 0), (.int .i64 0), (.sl .nil 0 [])], none⟩,
      ⟨none, .store 5 (.t 4) (.t 13), none⟩])
   (.seq (.dreg [false, false, false, false, false, false, true] [true, true, true, false, true, false, false] [⟨some 14, .call 93 [(.k (.int .i64 1)), (.k (.int .i64 0))], none⟩,
       ⟨some 15, .call 93 [(.k (.int .i64 2)), (.k (.int .i64 0))], none⟩,
       ⟨some 16, .call 92 [(.t 14), (.t 15)], none⟩,
       ⟨some 17, .load 5 true (.t 4), none⟩,
       ⟨some 18, .call 92 [(.t 16), (.t 17)], none⟩,
       ⟨some 5, .alloc [(.int .i64 0), (.int .i64 0), (.int .i64 0), (.int .i64 0), (.sl .nil 0 [])], none⟩,
       ⟨none, .store 5 (.t 5) (.t 18), none⟩])
    (.seq (.reg [⟨some 19, .mov (.t 0), none⟩,
        ⟨some 20, .call 95 [(.t 19), (.k (.int .i64 1))], none⟩,
        ⟨some 21, .call 94 [(.t 20)], none⟩,
        ⟨some 22, .mov (.t 0), none⟩,
        ⟨some 23, .call 95 [(.t 22), (.k (.int .i64 2))], none⟩,
        ⟨some 24, .call 94 [(.t 23)], none⟩,
        ⟨some 25, .call 92 [(.t 21), (.t 24)], none⟩,
        ⟨some 6, .alloc [(.int .i64 0), (.int .i64 0), (.int .i64 0), (.int .i64 0), (.sl .nil 0 [])], none⟩,
        ⟨none, .store 5 (.t 6) (.t 25), none⟩])
     (.seq (.dreg [false, false, false, false, false, true, true, true, true, true, true] [true, false, true, false, false, true, true, true, true, true, false] [⟨some 26, .call 182 [(.k (.int .i64 0))], none⟩,
         ⟨some 27, .load 5 true (.t 3), none⟩,
         ⟨some 28, .call 94 [(.t 27)], none⟩,
         ⟨some 29, .load 5 true (.t 5), none⟩,
         ⟨some 30, .load 5 true (.t 6), none⟩,
         ⟨some 31, .call 92 [(.t 29), (.t 30)], none⟩,
         ⟨some 32, .call 179 [(.k (.int .i64 2)), (.t 31)], none⟩,
         ⟨some 33, .call 179 [(.k (.int .i64 1)), (.t 32)], none⟩,
         ⟨some 34, .call 96 [(.t 28), (.t 33)], none⟩,
         ⟨some 35, .call 92 [(.t 26), (.t 34)], none⟩,
         ⟨none, .store 5 (.t 2) (.t 35), none⟩])
      (.ret))))))⟩
theorem fok_spec_l21CutShared : FOk Try.prog 180 code_spec_l21CutShared := fok Try.func180 (by kernel_rfl)
def code_spec_l21Own : F := ⟨21, [.cell 5 true 4],
 .seq (.reg [⟨some 4, .alloc [(.int .i64 0), (.int .i64 0), (.int .i64 0), (.int .i64 0), (.sl .nil 0 [])], none⟩])
 (.seq (.block 0 (.seq (.reg [⟨some 6, .mov (.t 1), none⟩,
       ⟨some 7, .mov (.t 0), none⟩,
       ⟨some 8, .bin .lss (.t 6) (.t 7), none⟩,
       ⟨some 5, .mov (.t 8), none⟩])
    (.cond (.t 5)
     (.seq (.reg [⟨some 9, .mov (.t 1), none⟩,
         ⟨some 10, .call 95 [(.t 9), (.k (.int .i64 0))], none⟩,
         ⟨none, .store 5 (.t 4) (.t 10), none⟩])
      (.ret))
     (.seq (.reg [⟨some 12, .mov (.t 1), none⟩,
         ⟨some 13, .mov (.t 0), none⟩,
         ⟨some 14, .bin .mul (.k (.int .i64 2)) (.t 13), none⟩,
         ⟨some 15, .bin .lss (.t 12) (.t 14), none⟩,
         ⟨some 11, .mov (.t 15), none⟩])
      (.cond (.t 11)
       (.seq (.reg [⟨some 16, .mov (.t 1), none⟩,
           ⟨some 17, .mov (.t 0), none⟩,
           ⟨some 18, .bin .sub (.t 16) (.t 17), none⟩,
           ⟨some 19, .call 178 [(.t 18), (.k (.int .i64 0))], none⟩,
           ⟨none, .store 5 (.t 4) (.t 19), none⟩])
        (.ret))
       (.skip))))))
  (.seq (.reg [⟨some 20, .call 182 [(.k (.int .i64 0))], none⟩,
      ⟨none, .store 5 (.t 4) (.t 20), none⟩])
   (.ret)))⟩
theorem fok_spec_l21Own : FOk Try.prog 111 code_spec_l21Own := fok Try.func111 (by kernel_rfl)
def code_spec_l21Cut : F := ⟨50, [.cell 5 true 8],
 .seq (.reg [⟨some 8, .alloc [(.int .i64 0), (.int .i64 0), (.int .i64 0), (.int .i64 0), (.sl .nil 0 [])], none⟩])
 (.seq (.block 0 (.seq (.reg [⟨some 10, .mov (.t 2), none⟩,
       ⟨some 11, .mov (.t 0), none⟩,
       ⟨some 12, .bin .mul (.k (.int .i64 2)) (.t 11), none⟩,
       ⟨some 13, .bin .eql (.t 10) (.t 12), none⟩,
       ⟨some 9, .mov (.t 13), none⟩])
    (.cond (.t 9)
     (.seq (.reg [⟨some 14, .mov (.t 1), none⟩,
         ⟨some 15, .call 180 [(.t 14)], none⟩,
         ⟨none, .store 5 (.t 8) (.t 15), none⟩])
      (.ret))
     (.seq (.reg [⟨some 17, .mov (.t 3), none⟩,
         ⟨some 18, .mov (.t 17), none⟩,
         ⟨some 19, .mov (.t 2), some (18, true)⟩,
         ⟨some 20, .mov (.t 1), some (18, true)⟩,
         ⟨some 21, .bin .eql (.t 19) (.t 20), some (18, true)⟩,
         ⟨some 22, .mov (.t 21), some (18, true)⟩,
         ⟨some 23, .mov (.t 2), some (22, false)⟩,
         ⟨some 24, .mov (.t 0), some (22, false)⟩,
         ⟨some 25, .mov (.t 1), some (22, false)⟩,
         ⟨some 26, .bin .add (.t 24) (.t 25), some (22, false)⟩,
         ⟨some 27, .bin .eql (.t 23) (.t 26), some (22, false)⟩,
         ⟨some 28, .pick (.t 22) (.k (.bool true)) (.t 27), some (18, true)⟩,
         ⟨some 29, .pick (.t 18) (.t 28) (.k (.bool false)), none⟩,
         ⟨some 16, .mov (.t 29), none⟩])
      (.cond (.t 16)
       (.seq (.reg [⟨some 30, .call 177 [], none⟩,
           ⟨none, .store 5 (.t 8) (.t 30), none⟩])
        (.ret))
       (.seq (.reg [⟨some 32, .mov (.t 2), none⟩,
           ⟨some 33, .mov (.t 0), none⟩,
           ⟨some 34, .bin .lss (.t 32) (.t 33), none⟩,
           ⟨some 31, .mov (.t 34), none⟩])
        (.cond (.t 31)
         (.seq (.reg [⟨some 35, .mov (.t 2), none⟩,
             ⟨some 36, .call 95 [(.t 35), (.k (.int .i64 0))], none⟩,
             ⟨none, .store 5 (.t 8) (.t 36), none⟩])
          (.ret))
         (.seq (.reg [⟨some 38, .mov (.t 2), none⟩,
             ⟨some 39, .mov (.t 0), none⟩,
             ⟨some 40, .mov (.t 1), none⟩,
             ⟨some 41, .bin .add (.t 39) (.t 40), none⟩,
             ⟨some 42, .bin .eql (.t 38) (.t 41), none⟩,
             ⟨some 37, .mov (.t 42), none⟩])
          (.cond (.t 37)
           (.seq (.reg [⟨some 43, .mov (.t 1), none⟩,
               ⟨some 44, .call 95 [(.t 43), (.k (.int .i64 0))], none⟩,
               ⟨none, .store 5 (.t 8) (.t 44), none⟩])
            (.ret))
           (.skip))))))))))
  (.seq (.reg [⟨some 45, .mov (.t 1), none⟩,
      ⟨some 46, .mov (.t 2), none⟩,
      ⟨some 47, .mov (.t 0), none⟩,
      ⟨some 48, .bin .sub (.t 46) (.t 47), none⟩,
      ⟨some 49, .call 181 [(.t 45), (.t 48)], none⟩,
      ⟨none, .store 5 (.t 8) (.t 49), none⟩])
   (.ret)))⟩
theorem fok_spec_l21Cut : FOk Try.prog 109 code_spec_l21Cut := fok Try.func109 (by kernel_rfl)
def code_spec_l21Link : F := ⟨45, [.cell 5 true 8],
 .seq (.reg [⟨some 8, .alloc [(.int .i64 0), (.int .i64 0), (.int .i64 0), (.int .i64 0), (.sl .nil 0 [])], none⟩])
 (.seq (.block 0 (.seq (.reg [⟨some 11, .mov (.t 3), none⟩,
       ⟨some 12, .mov (.t 0), none⟩,
       ⟨some 13, .bin .mul (.k (.int .i64 2)) (.t 12), none⟩,
       ⟨some 14, .bin .eql (.t 11) (.t 13), none⟩,
       ⟨some 10, .mov (.t 14), none⟩])
    (.cond (.t 10)
     (.seq (.reg [⟨some 15, .call 182 [(.k (.int .i64 0))], none⟩,
         ⟨some 16, .mov (.t 2), none⟩,
         ⟨some 17, .call 95 [(.t 16), (.k (.int .i64 0))], none⟩,
         ⟨some 18, .call 93 [(.k (.int .i64 1)), (.k (.int .i64 0))], none⟩,
         ⟨some 19, .call 179 [(.k (.int .i64 1)), (.t 18)], none⟩,
         ⟨some 20, .call 92 [(.t 17), (.t 19)], none⟩,
         ⟨some 21, .call 96 [(.t 15), (.t 20)], none⟩,
         ⟨none, .store 5 (.t 8) (.t 21), none⟩])
      (.ret))
     (.seq (.reg [⟨some 23, .mov (.t 3), none⟩,
         ⟨some 24, .mov (.t 0), none⟩,
         ⟨some 25, .bin .lss (.t 23) (.t 24), none⟩,
         ⟨some 22, .mov (.t 25), none⟩])
      (.cond (.t 22)
       (.seq (.reg [⟨some 26, .mov (.t 3), none⟩,
           ⟨some 27, .call 95 [(.t 26), (.k (.int .i64 0))], none⟩,
           ⟨none, .store 5 (.t 8) (.t 27), none⟩])
        (.ret))
       (.skip))))))
  (.seq (.reg [⟨some 28, .mov (.t 1), none⟩,
      ⟨some 29, .call 95 [(.t 28), (.k (.int .i64 1))], none⟩,
      ⟨some 30, .mov (.t 3), none⟩,
      ⟨some 31, .mov (.t 0), none⟩,
      ⟨some 32, .bin .sub (.t 30) (.t 31), none⟩,
      ⟨some 33, .call 178 [(.t 32), (.k (.int .i64 1))], none⟩,
      ⟨some 34, .call 92 [(.t 29), (.t 33)], none⟩,
      ⟨some 35, .call 179 [(.k (.int .i64 1)), (.t 34)], none⟩,
      ⟨some 9, .alloc [(.int .i64 0), (.int .i64 0), (.int .i64 0), (.int .i64 0), (.sl .nil 0 [])], none⟩,
      ⟨none, .store 5 (.t 9) (.t 35), none⟩])
   (.seq (.dreg [false, false, false, false, false, false, false, true, true, true] [false, false, false, true, false, false, true, true, true, false] [⟨some 36, .mov (.t 3), none⟩,
       ⟨some 37, .mov (.t 0), none⟩,
       ⟨some 38, .bin .sub (.t 36) (.t 37), none⟩,
       ⟨some 39, .call 178 [(.t 38), (.k (.int .i64 0))], none⟩,
       ⟨some 40, .load 5 true (.t 9), none⟩,
       ⟨some 41, .mov (.t 2), none⟩,
       ⟨some 42, .call 178 [(.t 41), (.k (.int .i64 0))], none⟩,
       ⟨some 43, .call 92 [(.t 40), (.t 42)], none⟩,
       ⟨some 44, .call 96 [(.t 39), (.t 43)], none⟩,
       ⟨none, .store 5 (.t 8) (.t 44), none⟩])
    (.ret))))⟩
theorem fok_spec_l21Link : FOk Try.prog 110 code_spec_l21Link := fok Try.func110 (by kernel_rfl)
def code_spec_l21Set : F := ⟨67, [.cell 5 true 10],
 .seq (.reg [⟨some 5, .box (.t 0), none⟩,
    ⟨some 10, .alloc [(.int .i64 0), (.int .i64 0), (.int .i64 0), (.int .i64 0), (.sl .nil 0 [])], none⟩])
 (.seq (.block 0 (.seq (.reg [⟨some 12, .mov (.t 4), none⟩,
       ⟨some 13, .mov (.t 2), none⟩,
       ⟨some 14, .bin .neq (.t 12) (.t 13), none⟩,
       ⟨some 15, .mov (.t 14), none⟩,
       ⟨some 16, .mov (.t 4), some (15, true)⟩,
       ⟨some 17, .mov (.t 1), some (15, true)⟩,
       ⟨some 18, .mov (.t 2), some (15, true)⟩,
       ⟨some 19, .bin .add (.t 17) (.t 18), some (15, true)⟩,
       ⟨some 20, .bin .neq (.t 16) (.t 19), some (15, true)⟩,
       ⟨some 21, .pick (.t 15) (.t 20) (.k (.bool false)), none⟩,
       ⟨some 11, .mov (.t 21), none⟩])
    (.cond (.t 11)
     (.seq (.reg [⟨some 22, .mov (.t 1), none⟩,
         ⟨some 23, .mov (.t 4), none⟩,
         ⟨some 24, .call 111 [(.t 22), (.t 23)], none⟩,
         ⟨none, .store 5 (.t 10) (.t 24), none⟩])
      (.ret))
     (.seq (.reg [⟨some 26, .faddr 0 (.t 5), none⟩,
         ⟨some 27, .load 1 false (.t 26), none⟩,
         ⟨some 28, .bin .eql (.t 27) (.k (.int .i64 2)), none⟩,
         ⟨some 29, .mov (.t 28), none⟩,
         ⟨some 30, .faddr 0 (.t 5), some (29, false)⟩,
         ⟨some 31, .load 1 false (.t 30), some (29, false)⟩,
         ⟨some 32, .bin .eql (.t 31) (.k (.int .i64 3)), some (29, false)⟩,
         ⟨some 33, .pick (.t 29) (.k (.bool true)) (.t 32), none⟩,
         ⟨some 25, .mov (.t 33), none⟩])
      (.cond (.t 25)
       (.seq (.reg [⟨some 34, .call 177 [], none⟩,
           ⟨none, .store 5 (.t 10) (.t 34), none⟩])
        (.ret))
       (.seq (.reg [⟨some 36, .faddr 0 (.t 5), none⟩,
           ⟨some 37, .load 1 false (.t 36), none⟩,
           ⟨some 38, .bin .eql (.t 37) (.k (.int .i64 4)), none⟩,
           ⟨some 39, .mov (.t 38), none⟩,
           ⟨some 40, .mov (.t 4), some (39, true)⟩,
           ⟨some 41, .mov (.t 2), some (39, true)⟩,
           ⟨some 42, .bin .eql (.t 40) (.t 41), some (39, true)⟩,
           ⟨some 43, .pick (.t 39) (.t 42) (.k (.bool false)), none⟩,
           ⟨some 35, .mov (.t 43), none⟩])
        (.cond (.t 35)
         (.seq (.reg [⟨some 44, .mov (.t 3), none⟩,
             ⟨some 45, .call 95 [(.t 44), (.k (.int .i64 0))], none⟩,
             ⟨none, .store 5 (.t 10) (.t 45), none⟩])
          (.ret))
         (.seq (.reg [⟨some 47, .faddr 0 (.t 5), none⟩,
             ⟨some 48, .load 1 false (.t 47), none⟩,
             ⟨some 49, .bin .eql (.t 48) (.k (.int .i64 4)), none⟩,
             ⟨some 46, .mov (.t 49), none⟩])
          (.cond (.t 46)
           (.seq (.reg [⟨some 50, .mov (.t 3), none⟩,
               ⟨some 51, .call 178 [(.t 50), (.k (.int .i64 0))], none⟩,
               ⟨none, .store 5 (.t 10) (.t 51), none⟩])
            (.ret))
           (.seq (.reg [⟨some 53, .mov (.t 4), none⟩,
               ⟨some 54, .mov (.t 2), none⟩,
               ⟨some 55, .bin .eql (.t 53) (.t 54), none⟩,
               ⟨some 52, .mov (.t 55), none⟩])
            (.cond (.t 52)
             (.seq (.reg [⟨some 56, .mov (.t 3), none⟩,
                 ⟨some 57, .call 95 [(.t 56), (.k (.int .i64 1))], none⟩,
                 ⟨some 58, .call 93 [(.k (.int .i64 1)), (.k (.int .i64 0))], none⟩,
                 ⟨some 59, .call 92 [(.t 57), (.t 58)], none⟩,
                 ⟨some 60, .call 179 [(.k (.int .i64 1)), (.t 59)], none⟩,
                 ⟨none, .store 5 (.t 10) (.t 60), none⟩])
              (.ret))
             (.skip))))))))))))
  (.seq (.reg [⟨some 61, .mov (.t 3), none⟩,
      ⟨some 62, .call 178 [(.t 61), (.k (.int .i64 0))], none⟩,
      ⟨some 63, .mov (.t 3), none⟩,
      ⟨some 64, .call 95 [(.t 63), (.k (.int .i64 0))], none⟩,
      ⟨some 65, .call 94 [(.t 64)], none⟩,
      ⟨some 66, .call 92 [(.t 62), (.t 65)], none⟩,
      ⟨none, .store 5 (.t 10) (.t 66), none⟩])
   (.ret)))⟩
theorem fok_spec_l21Set : FOk Try.prog 108 code_spec_l21Set := fok Try.func108 (by kernel_rfl)
def code_spec_PredicateFormula : F := ⟨65, [.cell 5 true 6],
 .seq (.reg [⟨some 4, .box (.t 1), none⟩,
    ⟨some 6, .alloc [(.int .i64 0), (.int .i64 0), (.int .i64 0), (.int .i64 0), (.sl .nil 0 [])], none⟩])
 (.seq (.reg [⟨some 10, .mov (.t 0), none⟩,
     ⟨some 11, .len (.t 10), none⟩,
     ⟨some 7, .mov (.t 11), none⟩])
  (.seq (.seq (.reg [⟨some 12, .mov (.t 0), none⟩,
       ⟨some 13, .load 3 true (.t 4), none⟩,
       ⟨some 14, .call 90 [(.t 12), (.t 13)], none⟩,
       ⟨some 15, .not (.t 14), none⟩,
       ⟨some 16, .mov (.t 15), none⟩,
       ⟨some 17, .mov (.t 2), some (16, false)⟩,
       ⟨some 18, .mov (.t 7), some (16, false)⟩,
       ⟨some 19, .bin .mul (.k (.int .i64 2)) (.t 18), some (16, false)⟩,
       ⟨some 20, .call 76 [(.t 17), (.k (.int .i64 0)), (.t 19)], some (16, false)⟩,
       ⟨some 21, .not (.t 20), some (16, false)⟩,
       ⟨some 22, .pick (.t 16) (.k (.bool true)) (.t 21), none⟩])
    (.cond (.t 22)
     (.seq (.reg [⟨some 23, .build [(.int .i64 0), (.int .i64 0), (.int .i64 0), (.int .i64 0), (.sl .nil 0 [])] [], none⟩,
         ⟨none, .store 5 (.t 6) (.t 23), none⟩])
      (.ret))
     (.skip)))
   (.seq (.reg [⟨some 24, .mov (.t 0), none⟩,
       ⟨some 25, .faddr 1 (.t 4), none⟩,
       ⟨some 26, .load 1 false (.t 25), none⟩,
       ⟨some 27, .call 91 [(.t 24), (.t 26)], none⟩,
       ⟨some 8, .mov (.t 27), none⟩])
    (.seq (.reg [⟨some 28, .mov (.t 0), none⟩,
        ⟨some 29, .faddr 2 (.t 4), none⟩,
        ⟨some 30, .load 1 false (.t 29), none⟩,
        ⟨some 31, .call 91 [(.t 28), (.t 30)], none⟩,
        ⟨some 9, .mov (.t 31), none⟩])
     (.seq (.seq (.reg [⟨some 32, .faddr 0 (.t 4), none⟩,
          ⟨some 33, .load 1 false (.t 32), none⟩])
       (.block 0 (.seq (.seq (.reg [⟨some 35, .bin .eql (.t 33) (.k (.int .i64 2)), none⟩,
             ⟨some 34, .mov (.t 35), none⟩])
          (.cond (.t 34)
           (.skip)
           (.seq (.reg [⟨some 36, .bin .eql (.t 33) (.k (.int .i64 3)), none⟩,
               ⟨some 34, .mov (.t 36), none⟩])
            (.cond (.t 34)
             (.skip)
             (.seq (.reg [⟨some 37, .bin .eql (.t 33) (.k (.int .i64 4)), none⟩,
                 ⟨some 34, .mov (.t 37), none⟩])
              (.cond (.t 34)
               (.skip)
               (.reg [⟨some 38, .bin .eql (.t 33) (.k (.int .i64 5)), none⟩,
                  ⟨some 34, .mov (.t 38), none⟩])))))))
         (.cond (.t 34)
          (.seq (.reg [⟨some 39, .load 3 true (.t 4), none⟩,
              ⟨some 40, .mov (.t 7), none⟩,
              ⟨some 41, .mov (.t 8), none⟩,
              ⟨some 42, .mov (.t 9), none⟩,
              ⟨some 43, .mov (.t 2), none⟩,
              ⟨some 44, .call 108 [(.t 39), (.t 40), (.t 41), (.t 42), (.t 43)], none⟩,
              ⟨none, .store 5 (.t 6) (.t 44), none⟩])
           (.ret))
          (.seq (.seq (.reg [⟨some 46, .bin .eql (.t 33) (.k (.int .i64 6)), none⟩,
               ⟨some 45, .mov (.t 46), none⟩])
            (.cond (.t 45)
             (.skip)
             (.reg [⟨some 47, .bin .eql (.t 33) (.k (.int .i64 8)), none⟩,
                ⟨some 45, .mov (.t 47), none⟩])))
           (.cond (.t 45)
            (.seq (.reg [⟨some 48, .mov (.t 7), none⟩,
                ⟨some 49, .mov (.t 8), none⟩,
                ⟨some 50, .mov (.t 2), none⟩,
                ⟨some 51, .faddr 0 (.t 4), none⟩,
                ⟨some 52, .load 1 false (.t 51), none⟩,
                ⟨some 53, .bin .eql (.t 52) (.k (.int .i64 8)), none⟩,
                ⟨some 54, .call 109 [(.t 48), (.t 49), (.t 50), (.t 53)], none⟩,
                ⟨none, .store 5 (.t 6) (.t 54), none⟩])
             (.ret))
            (.seq (.reg [⟨some 56, .bin .eql (.t 33) (.k (.int .i64 7)), none⟩,
                ⟨some 55, .mov (.t 56), none⟩])
             (.cond (.t 55)
              (.seq (.reg [⟨some 57, .mov (.t 7), none⟩,
                  ⟨some 58, .mov (.t 8), none⟩,
                  ⟨some 59, .mov (.t 9), none⟩,
                  ⟨some 60, .mov (.t 2), none⟩,
                  ⟨some 61, .call 110 [(.t 57), (.t 58), (.t 59), (.t 60)], none⟩,
                  ⟨none, .store 5 (.t 6) (.t 61), none⟩])
               (.ret))
              (.skip)))))))))
      (.seq (.reg [⟨some 62, .mov (.t 7), none⟩,
          ⟨some 63, .mov (.t 2), none⟩,
          ⟨some 64, .call 111 [(.t 62), (.t 63)], none⟩,
          ⟨none, .store 5 (.t 6) (.t 64), none⟩])
       (.ret)))))))⟩
theorem fok_spec_PredicateFormula : FOk Try.prog 42 code_spec_PredicateFormula := fok Try.func42 (by kernel_rfl)
def code_spec_EdgeFormula : F := ⟨38, [.cell 5 true 4],
 .seq (.reg [⟨some 3, .box (.t 1), none⟩,
    ⟨some 4, .alloc [(.int .i64 0), (.int .i64 0), (.int .i64 0), (.int .i64 0), (.sl .nil 0 [])], none⟩])
 (.seq (.seq (.reg [⟨some 6, .mov (.t 0), none⟩,
      ⟨some 7, .load 3 true (.t 3), none⟩,
      ⟨some 8, .call 90 [(.t 6), (.t 7)], none⟩,
      ⟨some 9, .not (.t 8), none⟩])
   (.cond (.t 9)
    (.seq (.reg [⟨some 10, .build [(.int .i64 0), (.int .i64 0), (.int .i64 0), (.int .i64 0), (.sl .nil 0 [])] [], none⟩,
        ⟨none, .store 5 (.t 4) (.t 10), none⟩])
     (.ret))
    (.skip)))
  (.seq (.reg [⟨some 11, .mov (.t 0), none⟩,
      ⟨some 12, .faddr 1 (.t 3), none⟩,
      ⟨some 13, .load 1 false (.t 12), none⟩,
      ⟨some 14, .call 91 [(.t 11), (.t 13)], none⟩,
      ⟨some 5, .mov (.t 14), none⟩])
   (.seq (.seq (.reg [⟨some 15, .faddr 0 (.t 3), none⟩,
        ⟨some 16, .load 1 false (.t 15), none⟩])
     (.block 0 (.seq (.seq (.reg [⟨some 18, .bin .eql (.t 16) (.k (.int .i64 6)), none⟩,
           ⟨some 17, .mov (.t 18), none⟩])
        (.cond (.t 17)
         (.skip)
         (.reg [⟨some 19, .bin .eql (.t 16) (.k (.int .i64 8)), none⟩,
            ⟨some 17, .mov (.t 19), none⟩])))
       (.cond (.t 17)
        (.seq (.reg [⟨some 20, .call 93 [(.k (.int .i64 0)), (.k (.int .i64 1))], none⟩,
            ⟨some 21, .mov (.t 5), none⟩,
            ⟨some 22, .call 95 [(.t 21), (.k (.int .i64 0))], none⟩,
            ⟨some 23, .call 94 [(.t 22)], none⟩,
            ⟨some 24, .call 92 [(.t 20), (.t 23)], none⟩,
            ⟨none, .store 5 (.t 4) (.t 24), none⟩])
         (.ret))
        (.seq (.reg [⟨some 26, .bin .eql (.t 16) (.k (.int .i64 7)), none⟩,
            ⟨some 25, .mov (.t 26), none⟩])
         (.cond (.t 25)
          (.seq (.dreg [false, false, false, false, false, false, true, true, true, true, true] [true, false, true, false, false, false, true, true, true, true, false] [⟨some 27, .call 93 [(.k (.int .i64 0)), (.k (.int .i64 1))], none⟩,
              ⟨some 28, .mov (.t 5), none⟩,
              ⟨some 29, .call 95 [(.t 28), (.k (.int .i64 0))], none⟩,
              ⟨some 30, .mov (.t 0), none⟩,
              ⟨some 31, .faddr 2 (.t 3), none⟩,
              ⟨some 32, .load 1 false (.t 31), none⟩,
              ⟨some 33, .call 91 [(.t 30), (.t 32)], none⟩,
              ⟨some 34, .call 95 [(.t 33), (.k (.int .i64 1))], none⟩,
              ⟨some 35, .call 92 [(.t 29), (.t 34)], none⟩,
              ⟨some 36, .call 96 [(.t 27), (.t 35)], none⟩,
              ⟨none, .store 5 (.t 4) (.t 36), none⟩])
           (.ret))
          (.skip)))))))
    (.seq (.reg [⟨some 37, .call 93 [(.k (.int .i64 0)), (.k (.int .i64 1))], none⟩,
        ⟨none, .store 5 (.t 4) (.t 37), none⟩])
     (.ret)))))⟩
theorem fok_spec_EdgeFormula : FOk Try.prog 33 code_spec_EdgeFormula := fok Try.func33 (by kernel_rfl)
def onL (k u : Int) : Fm := .mk 2 k u 0 []
def frmL (k u : Int) : Fm := .mk 3 k u 0 []
def nxtL (u v : Int) : Fm := .mk 5 0 u v []
def shL0 : Fm := .mk 4 0 0 0 []
def notL (x : Fm) : Fm := .mk 8 0 0 0 [x]
def andL (x y : Fm) : Fm := .mk 9 0 0 0 [x, y]
def orL (x y : Fm) : Fm := .mk 10 0 0 0 [x, y]
def someL (u : Int) (x : Fm) : Fm := .mk 11 0 u 0 [x]
def falseT : Fm := notL (.mk 1 0 0 0 [])
def cutReachT (z a : Int) : Fm := andL (frmL z 0) (notL (andL (andL (frmL a 0) (notL (onL a 0))) (someL 1 (andL (onL a 1) (frmL z 1)))))
def cutSharedT (a : Int) : Fm := andL shL0 (orL (notL (someL 1 (andL (onL a 1) (nxtL 1 0)))) (someL 1 (someL 2 (andL (andL (andL (nxtL 1 0) (nxtL 2 0)) (notL (.mk 6 0 1 2 []))) (andL (notL (onL a 1)) (notL (onL a 2)))))))
def pOnT (kind a b x : Int) : Fm := if x = a then (if kind = 2 then falseT else if kind = 8 then falseT else if kind = 3 then falseT else if kind = 4 then onL b 0 else if kind = 5 then someL 1 (andL (onL b 1) (nxtL 1 0)) else onL x 0) else onL x 0
def pFromT (kind a b x : Int) : Fm :=
  if kind = 7 then orL (frmL x 0) (andL (someL 1 (andL (onL a 1) (frmL x 1))) (frmL b 0))
  else if x = a then (if kind = 2 then falseT else if kind = 8 then falseT else if kind = 3 then falseT else if kind = 4 then frmL b 0 else if kind = 5 then andL (frmL b 0) (notL (onL b 0)) else if kind = 6 then onL a 0 else frmL x 0)
  else if kind = 6 then cutReachT x a else if kind = 8 then cutReachT x a else frmL x 0
def pSharedT (kind a b : Int) : Fm := if kind = 6 then cutSharedT a else if kind = 8 then cutSharedT a else if kind = 7 then orL shL0 (andL (onL b 0) (someL 1 (nxtL 1 0))) else shL0
def predT (n kind a b k : Int) : Fm := if k < n then pOnT kind a b k else if k < 2 * n then pFromT kind a b (k - n) else pSharedT kind a b
def edgeT (kind a b : Int) : Fm := if kind = 6 then andL (nxtL 0 1) (notL (onL a 0)) else if kind = 8 then andL (nxtL 0 1) (notL (onL a 0)) else if kind = 7 then orL (nxtL 0 1) (andL (onL a 0) (onL b 1)) else nxtL 0 1
noncomputable def predF (vars : List (List UInt8)) (s : Stmt) (k : Int) : Fm := if stmtB vars s = true then (if 0 ≤ k ∧ k ≤ 2 * vars.length then predT vars.length s.kind (ixS vars s.a) (ixS vars s.b) k else .mk 0 0 0 0 []) else .mk 0 0 0 0 []
noncomputable def edgeF (vars : List (List UInt8)) (s : Stmt) : Fm := if stmtB vars s = true then edgeT s.kind (ixS vars s.a) (ixS vars s.b) else .mk 0 0 0 0 []
@[simp] def ct_l21False : Ct := ⟨177, Unit, fun _ => True, fun _ => [], fun _ => encFm falseT⟩
theorem ok_l21False : ct_l21False.Ok Try.prog := by
  rintro a -
  refine Ok.of_cw fok_spec_l21False (go_ok (tab_cons ok_l14Not tab_nil) ?_)
  simp [code_spec_l21False, List.replicate, falseT, notL, encF0, size_mk, sizes_cons, sizes_nil]
@[simp] def ct_l21CutReach : Ct := ⟨181, Int × Int, fun _ => True, fun x => [.int .i64 x.1, .int .i64 x.2], fun x => encFm (cutReachT x.2 x.1)⟩
set_option maxHeartbeats 4000000 in
set_option maxRecDepth 100000 in
theorem ok_l21CutReach : ct_l21CutReach.Ok Try.prog := by
  rintro ⟨a, z⟩ -
  refine Ok.of_cw fok_spec_l21CutReach (go_ok (tab_cons ok_l14Var (tab_cons ok_l14Reach (tab_cons ok_l14Some (tab_cons ok_l14And (tab_cons ok_l14Not tab_nil))))) ?_)
  simp (maxSteps := 1000000) [code_spec_l21CutReach, List.replicate, cutReachT, onL, frmL, nxtL, notL, andL, someL, encF0, size_mk, sizes_cons, sizes_nil, needs1, isH]
@[simp] def ct_l21CutShared : Ct := ⟨180, Int, fun _ => True, fun x => [.int .i64 x], fun x => encFm (cutSharedT x)⟩
set_option maxHeartbeats 8000000 in
set_option maxRecDepth 100000 in
theorem ok_l21CutShared : ct_l21CutShared.Ok Try.prog := by
  rintro a -
  change Int at a
  refine Ok.of_cw fok_spec_l21CutShared (go_ok (tab_cons ok_l14Var (tab_cons ok_l14Next (tab_cons ok_l21Shared (tab_cons ok_l14Some (tab_cons ok_l14And (tab_cons ok_l14Or (tab_cons ok_l14Not tab_nil))))))) ?_)
  simp (maxSteps := 1000000) [code_spec_l21CutShared, List.replicate, cutSharedT, onL, frmL, nxtL, notL, andL, orL, shL0, someL, encF0, size_mk, sizes_cons, sizes_nil, needs1, isH]
def ownT (n k : Int) : Fm := if k < n then onL k 0 else if k < 2 * n then frmL (k - n) 0 else shL0
@[simp] def ct_l21Own : Ct := ⟨111, Int × Int, fun x => 0 ≤ x.1 ∧ x.1 ≤ 1048576 ∧ 0 ≤ x.2 ∧ x.2 ≤ 2 * x.1, fun x => [.int .i64 x.1, .int .i64 x.2], fun x => encFm (ownT x.1 x.2)⟩
set_option maxHeartbeats 4000000 in
theorem ok_l21Own : ct_l21Own.Ok Try.prog := by
  rintro ⟨n, k⟩ ⟨h1, h2, h3, h4⟩
  change 0 ≤ n at h1
  change n ≤ 1048576 at h2
  change 0 ≤ k at h3
  change k ≤ 2 * n at h4
  have w1 : IntKind.i64.wrap (2 * n) = 2 * n := by rw [wrap_i64] <;> omega
  have w2 : IntKind.i64.wrap (k - n) = k - n := by rw [wrap_i64] <;> omega
  refine Ok.of_cw fok_spec_l21Own (go_ok (tab_cons ok_l14Var (tab_cons ok_l14Reach (tab_cons ok_l21Shared tab_nil))) ?_)
  by_cases g1 : k < n
  · simp [code_spec_l21Own, List.replicate, ownT, g1, onL]
  · by_cases g2 : k < 2 * n
    · simp [code_spec_l21Own, List.replicate, ownT, g1, g2, frmL, w1, w2]
    · simp [code_spec_l21Own, List.replicate, ownT, g1, g2, shL0, w1, w2]
noncomputable def cutT (n a k : Int) (free : Bool) : Fm := if k = 2 * n then cutSharedT a else if free = true ∧ (k = a ∨ k = n + a) then falseT else if k < n then onL k 0 else if k = n + a then onL a 0 else cutReachT (k - n) a
@[simp] noncomputable def ct_l21Cut : Ct := ⟨109, Int × Int × Int × Bool, fun x => (0 ≤ x.1 ∧ x.1 ≤ 1048576) ∧ (0 ≤ x.2.1 ∧ x.2.1 ≤ 1048576) ∧ 0 ≤ x.2.2.1 ∧ x.2.2.1 ≤ 2 * x.1, fun x => [.int .i64 x.1, .int .i64 x.2.1, .int .i64 x.2.2.1, .bool x.2.2.2], fun x => encFm (cutT x.1 x.2.1 x.2.2.1 x.2.2.2)⟩
set_option maxHeartbeats 8000000 in
set_option maxRecDepth 100000 in
theorem ok_l21Cut : ct_l21Cut.Ok Try.prog := by
  rintro ⟨n, a, k, free⟩ ⟨⟨h1, h2⟩, ⟨h5, h6⟩, h3, h4⟩
  change 0 ≤ n at h1
  change n ≤ 1048576 at h2
  change 0 ≤ a at h5
  change a ≤ 1048576 at h6
  change 0 ≤ k at h3
  change k ≤ 2 * n at h4
  have w1 : IntKind.i64.wrap (2 * n) = 2 * n := by rw [wrap_i64] <;> omega
  have w2 : IntKind.i64.wrap (k - n) = k - n := by rw [wrap_i64] <;> omega
  have w3 : IntKind.i64.wrap (n + a) = n + a := by rw [wrap_i64] <;> omega
  refine Ok.of_cw fok_spec_l21Cut (go_ok (tab_cons ok_l14Var (tab_cons ok_l21CutReach (tab_cons ok_l21CutShared (tab_cons ok_l21False tab_nil)))) ?_)
  by_cases g1 : k = 2 * n
  · simp [code_spec_l21Cut, List.replicate, cutT, g1, w1]
    exact encFm_eq _
  cases free
  · by_cases g2 : k < n
    · simp [code_spec_l21Cut, List.replicate, cutT, g1, g2, w1, onL]
    · by_cases g3 : k = n + a
      · have g1' : ¬ n + a = 2 * n := by omega
        have g2' : ¬ n + a < n := by omega
        simp [code_spec_l21Cut, List.replicate, cutT, g1', g2', g3, w1, w3, onL]
        try omega
      · simp [code_spec_l21Cut, List.replicate, cutT, g1, g2, g3, w1, w2, w3]
        exact encFm_eq _
  · by_cases g4 : k = a
    · have g1' : ¬ a = 2 * n := by omega
      simp [code_spec_l21Cut, List.replicate, cutT, g1', g4, w1]
      exact encFm_eq _
    · by_cases g3 : k = n + a
      · have g1' : ¬ n + a = 2 * n := by omega
        have g4' : ¬ n + a = a := by omega
        simp [code_spec_l21Cut, List.replicate, cutT, g1', g4', g3, w1, w3]
        exact encFm_eq _
      · by_cases g2 : k < n
        · simp [code_spec_l21Cut, List.replicate, cutT, g1, g2, g3, g4, w1, w3, onL]
        · simp [code_spec_l21Cut, List.replicate, cutT, g1, g2, g3, g4, w1, w2, w3]
          exact encFm_eq _
noncomputable def linkT (n a b k : Int) : Fm := if k = 2 * n then orL shL0 (andL (onL b 0) (someL 1 (nxtL 1 0))) else if k < n then onL k 0 else orL (frmL (k - n) 0) (andL (someL 1 (andL (onL a 1) (frmL (k - n) 1))) (frmL b 0))
@[simp] noncomputable def ct_l21Link : Ct := ⟨110, Int × Int × Int × Int, fun x => (0 ≤ x.1 ∧ x.1 ≤ 1048576) ∧ 0 ≤ x.2.2.2 ∧ x.2.2.2 ≤ 2 * x.1, fun x => [.int .i64 x.1, .int .i64 x.2.1, .int .i64 x.2.2.1, .int .i64 x.2.2.2], fun x => encFm (linkT x.1 x.2.1 x.2.2.1 x.2.2.2)⟩
set_option maxHeartbeats 8000000 in
set_option maxRecDepth 100000 in
theorem ok_l21Link : ct_l21Link.Ok Try.prog := by
  rintro ⟨n, a, b, k⟩ ⟨⟨h1, h2⟩, h3, h4⟩
  change 0 ≤ n at h1
  change n ≤ 1048576 at h2
  change 0 ≤ k at h3
  change k ≤ 2 * n at h4
  have w1 : IntKind.i64.wrap (2 * n) = 2 * n := by rw [wrap_i64] <;> omega
  have w2 : IntKind.i64.wrap (k - n) = k - n := by rw [wrap_i64] <;> omega
  refine Ok.of_cw fok_spec_l21Link (go_ok (tab_cons ok_l14Var (tab_cons ok_l14Reach (tab_cons ok_l14Next (tab_cons ok_l21Shared (tab_cons ok_l14Some (tab_cons ok_l14And (tab_cons ok_l14Or tab_nil))))))) ?_)
  by_cases g1 : k = 2 * n
  · simp [code_spec_l21Link, List.replicate, linkT, g1, w1, onL, frmL, nxtL, notL, andL, orL, shL0, someL, encF0, size_mk, sizes_cons, sizes_nil, needs1, isH]
  by_cases g2 : k < n
  · simp [code_spec_l21Link, List.replicate, linkT, g1, g2, w1, onL]
  · simp [code_spec_l21Link, List.replicate, linkT, g1, g2, w1, w2, onL, frmL, nxtL, notL, andL, orL, shL0, someL, encF0, size_mk, sizes_cons, sizes_nil, needs1, isH]
noncomputable def setT (kind n a b k : Int) : Fm := if k ≠ a ∧ k ≠ n + a then ownT n k else if kind = 2 ∨ kind = 3 then falseT else if kind = 4 then (if k = a then onL b 0 else frmL b 0) else if k = a then someL 1 (andL (onL b 1) (nxtL 1 0)) else andL (frmL b 0) (notL (onL b 0))
@[simp] noncomputable def ct_l21Set : Ct := ⟨108, Stmt × Int × Int × Int × Int, fun x => (0 ≤ x.2.1 ∧ x.2.1 ≤ 1048576) ∧ (0 ≤ x.2.2.1 ∧ x.2.2.1 ≤ 1048576) ∧ 0 ≤ x.2.2.2.2 ∧ x.2.2.2.2 ≤ 2 * x.2.1, fun x => [encStmt x.1, .int .i64 x.2.1, .int .i64 x.2.2.1, .int .i64 x.2.2.2.1, .int .i64 x.2.2.2.2], fun x => encFm (setT x.1.kind x.2.1 x.2.2.1 x.2.2.2.1 x.2.2.2.2)⟩
set_option maxHeartbeats 8000000 in
set_option maxRecDepth 100000 in
theorem ok_l21Set : ct_l21Set.Ok Try.prog := by
  rintro ⟨⟨kind, sa, sb⟩, n, a, b, k⟩ ⟨⟨h1, h2⟩, ⟨h5, h6⟩, h3, h4⟩
  change 0 ≤ n at h1
  change n ≤ 1048576 at h2
  change 0 ≤ a at h5
  change a ≤ 1048576 at h6
  change 0 ≤ k at h3
  change k ≤ 2 * n at h4
  have w3 : IntKind.i64.wrap (n + a) = n + a := by rw [wrap_i64] <;> omega
  refine Ok.of_cw fok_spec_l21Set (go_ok (tab_cons ok_l14Var (tab_cons ok_l14Reach (tab_cons ok_l14Next (tab_cons ok_l21False (tab_cons ok_l21Own (tab_cons ok_l14Some (tab_cons ok_l14And (tab_cons ok_l14Not tab_nil)))))))) ?_)
  by_cases g1 : k = a
  · subst g1
    by_cases g2 : kind = 2
    · simp [code_spec_l21Set, List.replicate, setT, g2]
      exact encFm_eq _
    by_cases g3 : kind = 3
    · simp [code_spec_l21Set, List.replicate, setT, g3]
      exact encFm_eq _
    by_cases g4 : kind = 4
    · simp [code_spec_l21Set, List.replicate, setT, g4, onL]
    simp [code_spec_l21Set, List.replicate, setT, g2, g3, g4, onL, frmL, nxtL, notL, andL, orL, shL0, someL, encF0, size_mk, sizes_cons, sizes_nil, needs1, isH]
  by_cases g5 : k = n + a
  · subst g5
    by_cases g2 : kind = 2
    · simp [code_spec_l21Set, List.replicate, setT, g1, w3, g2]
      exact encFm_eq _
    by_cases g3 : kind = 3
    · simp [code_spec_l21Set, List.replicate, setT, g1, w3, g3]
      exact encFm_eq _
    by_cases g4 : kind = 4
    · simp [code_spec_l21Set, List.replicate, setT, g1, w3, g4, frmL]
    simp [code_spec_l21Set, List.replicate, setT, g1, w3, g2, g3, g4, onL, frmL, nxtL, notL, andL, orL, shL0, someL, encF0, size_mk, sizes_cons, sizes_nil, needs1, isH]
  simp [code_spec_l21Set, List.replicate, setT, g1, g5, w3, h1, h2, h3, h4]
  exact encFm_eq _
theorem stmt_vars {vars : List (List UInt8)} {s : Stmt} (h : stmtB vars s = true) : 1 ≤ vars.length ∧ vars.length ≤ 4 := by
  simp only [stmtB, varsB, Bool.and_eq_true, decide_eq_true_eq] at h
  omega
theorem stmt_a {vars : List (List UInt8)} {s : Stmt} (h : stmtB vars s = true) (hk : 2 ≤ s.kind ∧ s.kind ≤ 8) : 0 ≤ ixS vars s.a := by
  simp only [stmtB, namesOkB, Bool.and_eq_true, decide_eq_true_eq] at h
  have h2 := h.2.1.2
  have : 0 < namesN s.kind := by
    obtain ⟨k1, k2⟩ := hk
    unfold namesN
    (repeat' split) <;> omega
  rw [if_pos this, decide_eq_true_eq] at h2
  exact h2
theorem ixS_lt (vars : List (List UInt8)) (a : List UInt8) : ixS vars a < vars.length := findI_le
theorem set_pred {kind n a b k : Int} (hn : 0 ≤ n) (ha : 0 ≤ a ∧ a < n) (hk : 0 ≤ k ∧ k ≤ 2 * n) (h : kind = 2 ∨ kind = 3 ∨ kind = 4 ∨ kind = 5) : setT kind n a b k = predT n kind a b k := by
  unfold setT predT pOnT pFromT pSharedT ownT
  have e1 : k < n → ¬ k = n + a := fun _ => by omega
  have e2 : ¬ k < n → ¬ k = a := fun _ => by omega
  have e3 : k - n = a ↔ k = n + a := by omega
  by_cases g : k < n
  · by_cases g2 : k = a
    · rcases h with rfl | rfl | rfl | rfl <;> simp [g2, ha]
    · simp [g, g2, e1 g]
  · by_cases g3 : k < 2 * n
    · by_cases g2 : k = n + a
      · have g4 : ¬ n + a < n := by omega
        have g5 : n + a < 2 * n := by omega
        have g6 : ¬ n + a = a := by omega
        have g7 : n + a - n = a := by omega
        rcases h with rfl | rfl | rfl | rfl <;> simp [g2, g4, g5, g6, g7]
      · have g8 : ¬ k - n = a := by omega
        rcases h with rfl | rfl | rfl | rfl <;> simp [g, g2, g3, g8, e2 g]
    · have g2 : ¬ k = n + a := by omega
      rcases h with rfl | rfl | rfl | rfl <;> simp [g, g2, g3, e2 g]
theorem cut_pred {kind n a b k : Int} (hn : 0 ≤ n) (ha : 0 ≤ a ∧ a < n) (hk : 0 ≤ k ∧ k ≤ 2 * n) (h : kind = 6 ∨ kind = 8) : cutT n a k (decide (kind = 8)) = predT n kind a b k := by
  unfold cutT predT pOnT pFromT pSharedT
  by_cases g1 : k = 2 * n
  · have g2 : ¬ 2 * n < n := by omega
    rcases h with rfl | rfl <;> simp [g1, g2]
  have e0 : k < 2 * n := by omega
  by_cases g : k < n
  · have g2 : ¬ k = n + a := by omega
    by_cases g3 : k = a
    · rcases h with rfl | rfl <;> simp [g1, g, g2, g3, ha] <;> (try omega) <;> (intro; omega)
    · rcases h with rfl | rfl <;> simp [g1, g, g2, g3]
  · have e2 : ¬ k = a := by omega
    by_cases g2 : k = n + a
    · have g4 : ¬ n + a < n := by omega
      have g5 : n + a < 2 * n := by omega
      have g6 : ¬ n + a = a := by omega
      have g7 : n + a - n = a := by omega
      have g8 : ¬ n + a = 2 * n := by omega
      rcases h with rfl | rfl <;> simp [g2, g4, g5, g6, g7, g8]
    · have g8 : ¬ k - n = a := by omega
      rcases h with rfl | rfl <;> simp [g1, g, e0, g2, e2, g8]
theorem link_pred {n a b k : Int} (hn : 0 ≤ n) (hk : 0 ≤ k ∧ k ≤ 2 * n) : linkT n a b k = predT n 7 a b k := by
  unfold linkT predT pOnT pFromT pSharedT
  by_cases g1 : k = 2 * n
  · have g2 : ¬ 2 * n < n := by omega
    simp [g1, g2]
  have e0 : k < 2 * n := by omega
  by_cases g : k < n
  · simp [g1, g]
  · simp [g1, g, e0]
theorem own_pred {kind n a b k : Int} (h : kind < 2 ∨ 8 < kind) : ownT n k = predT n kind a b k := by
  unfold ownT predT pOnT pFromT pSharedT
  have h1 : ¬ kind = 2 := by omega
  have h2 : ¬ kind = 3 := by omega
  have h3 : ¬ kind = 4 := by omega
  have h4 : ¬ kind = 5 := by omega
  have h5 : ¬ kind = 6 := by omega
  have h6 : ¬ kind = 7 := by omega
  have h7 : ¬ kind = 8 := by omega
  simp [h1, h2, h3, h4, h5, h6, h7]
@[simp] noncomputable def ct_sEdge : Ct := ⟨33, List (List UInt8) × Stmt, fun x => szVarsOk x.1, fun x => [encL 1 encStr x.1, encStmt x.2], fun x => encFm (edgeF x.1 x.2)⟩
set_option maxHeartbeats 8000000 in
set_option maxRecDepth 100000 in
theorem ok_sEdge : ct_sEdge.Ok Try.prog := by
  rintro ⟨vars, ⟨k, a, b⟩⟩ hv
  change szVarsOk vars at hv
  refine Ok.of_cw fok_spec_EdgeFormula (go_ok (tab_cons ok_sIsStmt (tab_cons ok_sIndexOf (tab_cons ok_l14Var (tab_cons ok_l14Next (tab_cons ok_l14And (tab_cons ok_l14Or (tab_cons ok_l14Not tab_nil))))))) ?_)
  cases hs : stmtB vars ⟨k, a, b⟩
  · simp [code_spec_EdgeFormula, List.replicate, edgeF, hs, hv, encF0]
  by_cases g6 : k = 6
  · subst g6; simp (maxSteps := 1000000) [code_spec_EdgeFormula, List.replicate, edgeF, edgeT, hs, hv, onL, frmL, nxtL, notL, andL, orL, shL0, someL, encF0, size_mk, sizes_cons, sizes_nil, needs1, isH]
  by_cases g8 : k = 8
  · subst g8; simp (maxSteps := 1000000) [code_spec_EdgeFormula, List.replicate, edgeF, edgeT, hs, hv, onL, frmL, nxtL, notL, andL, orL, shL0, someL, encF0, size_mk, sizes_cons, sizes_nil, needs1, isH]
  by_cases g7 : k = 7
  · subst g7; simp (maxSteps := 1000000) [code_spec_EdgeFormula, List.replicate, edgeF, edgeT, hs, hv, onL, frmL, nxtL, notL, andL, orL, shL0, someL, encF0, size_mk, sizes_cons, sizes_nil, needs1, isH]
  simp (maxSteps := 1000000) [code_spec_EdgeFormula, List.replicate, edgeF, edgeT, hs, hv, g6, g7, g8, onL, frmL, nxtL, notL, andL, orL, shL0, someL, encF0, size_mk, sizes_cons, sizes_nil, needs1, isH]
@[simp] noncomputable def ct_sPred : Ct := ⟨42, List (List UInt8) × Stmt × Int, fun x => szVarsOk x.1, fun x => [encL 1 encStr x.1, encStmt x.2.1, .int .i64 x.2.2], fun x => encFm (predF x.1 x.2.1 x.2.2)⟩
set_option maxHeartbeats 8000000 in
set_option maxRecDepth 100000 in
theorem ok_sPred : ct_sPred.Ok Try.prog := by
  rintro ⟨vars, ⟨kind, a, b⟩, k⟩ hv
  change szVarsOk vars at hv
  refine Ok.of_cw fok_spec_PredicateFormula (go_ok (tab_cons ok_sIsStmt (tab_cons ok_sIndexOf (tab_cons ok_l1In (tab_cons ok_l21Set (tab_cons ok_l21Cut (tab_cons ok_l21Link (tab_cons ok_l21Own tab_nil))))))) ?_)
  have hlv := hv.1
  have w1 : IntKind.i64.wrap (2 * (vars.length : Int)) = 2 * vars.length := by rw [wrap_i64] <;> omega
  cases hs : stmtB vars ⟨kind, a, b⟩
  · simp (maxSteps := 1000000) [code_spec_PredicateFormula, List.replicate, predF, hs, hv, encF0]
  by_cases h1 : 0 ≤ k
  case neg => simp [code_spec_PredicateFormula, List.replicate, predF, hs, hv, w1, h1, encF0]
  by_cases h2 : k ≤ 2 * (vars.length : Int)
  case neg => simp [code_spec_PredicateFormula, List.replicate, predF, hs, hv, w1, h1, h2, encF0]
  have h2' : ¬ 2 * (vars.length : Int) < k := by omega
  have hR : predF vars ⟨kind, a, b⟩ k = predT vars.length kind (ixS vars a) (ixS vars b) k := by simp [predF, hs, h1, h2]
  change go _ _ _ _ (retP _ (encFm (predF vars ⟨kind, a, b⟩ k))) _
  rw [hR]
  have hl := stmt_vars hs
  have h4 : (vars.length : Int) ≤ 1048576 := by omega
  have h0 : (0 : Int) ≤ vars.length := by omega
  have hb := ixS_lt vars a
  have hA : 2 ≤ kind ∧ kind ≤ 8 → 0 ≤ ixS vars a := fun h => stmt_a (s := ⟨kind, a, b⟩) hs h
  have hb2 : ixS vars a ≤ 1048576 := by omega
  by_cases c1 : kind = 2 ∨ kind = 3 ∨ kind = 4 ∨ kind = 5
  · have hA := hA (by omega)
    rw [← set_pred h0 ⟨hA, by omega⟩ ⟨h1, h2⟩ c1]
    rcases c1 with rfl | rfl | rfl | rfl <;> (simp [code_spec_PredicateFormula, List.replicate, hs, hv, w1, h1, h2, h2', h4, hA, hb2]; exact encFm_eq _)
  by_cases c2 : kind = 6 ∨ kind = 8
  · have hA := hA (by omega)
    rw [← cut_pred h0 ⟨hA, by omega⟩ ⟨h1, h2⟩ c2]
    rcases c2 with rfl | rfl <;> (simp [code_spec_PredicateFormula, List.replicate, hs, hv, w1, h1, h2, h2', h4, hA, hb2]; exact encFm_eq _)
  by_cases c3 : kind = 7
  · subst c3
    rw [← link_pred h0 ⟨h1, h2⟩]
    simp [code_spec_PredicateFormula, List.replicate, hs, hv, w1, h1, h2, h2', h4]
    exact encFm_eq _
  · rw [← own_pred (by omega)]
    have d1 : ¬ kind = 2 := by omega
    have d2 : ¬ kind = 3 := by omega
    have d3 : ¬ kind = 4 := by omega
    have d4 : ¬ kind = 5 := by omega
    have d5 : ¬ kind = 6 := by omega
    have d6 : ¬ kind = 8 := by omega
    simp [code_spec_PredicateFormula, List.replicate, hs, hv, w1, h1, h2, h2', h4, c3, d1, d2, d3, d4, d5, d6]
    exact encFm_eq _
end Go.Vm
