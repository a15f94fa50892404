/- Truth values: not, and, or; arities; nodes of logic variables. No condition. -/
import Derived.Test.YtmakeoekklcbdaaTNX
import Derived.Test.YtmakeoekklcbdaaTTR
set_option linter.unusedSimpArgs false
set_option linter.unusedVariables false
namespace Go.Vm
open Go.Proofs
def code_spec_NotOf : F := ⟨8, [.tmp 2],
 .seq (.reg [⟨some 2, .mov (.k (.int .i64 0)), none⟩])
 (.seq (.seq (.reg [⟨some 3, .mov (.t 0), none⟩,
      ⟨some 4, .call 149 [(.t 3)], none⟩,
      ⟨some 5, .not (.t 4), none⟩])
   (.cond (.t 5)
    (.seq (.reg [⟨some 2, .mov (.k (.int .i64 1)), none⟩])
     (.ret))
    (.skip)))
  (.seq (.reg [⟨some 6, .mov (.t 0), none⟩,
      ⟨some 7, .bin .sub (.k (.int .i64 2)) (.t 6), none⟩,
      ⟨some 2, .mov (.t 7), none⟩])
   (.ret)))⟩
theorem fok_spec_NotOf : FOk Try.prog 126 code_spec_NotOf := fok Try.func126 (by kernel_rfl)
def code_impl_NotOf : F := ⟨8, [.tmp 2],
 .seq (.reg [⟨some 2, .mov (.k (.int .i64 0)), none⟩])
 (.seq (.seq (.reg [⟨some 3, .mov (.t 0), none⟩,
      ⟨some 4, .call 157 [(.t 3)], none⟩,
      ⟨some 5, .not (.t 4), none⟩])
   (.cond (.t 5)
    (.seq (.reg [⟨some 2, .mov (.k (.int .i64 1)), none⟩])
     (.ret))
    (.skip)))
  (.seq (.reg [⟨some 6, .mov (.t 0), none⟩,
      ⟨some 7, .bin .sub (.k (.int .i64 2)) (.t 6), none⟩,
      ⟨some 2, .mov (.t 7), none⟩])
   (.ret)))⟩
theorem fok_impl_NotOf : FOk Try.prog 130 code_impl_NotOf := fok Try.func130 (by kernel_rfl)
def code_spec_AndOf : F := ⟨16, [.tmp 4],
 .seq (.reg [⟨some 4, .mov (.k (.int .i64 0)), none⟩])
 (.seq (.seq (.reg [⟨some 5, .mov (.t 0), none⟩,
      ⟨some 6, .call 149 [(.t 5)], none⟩,
      ⟨some 7, .not (.t 6), none⟩,
      ⟨some 8, .mov (.t 7), none⟩,
      ⟨some 9, .mov (.t 1), some (8, false)⟩,
      ⟨some 10, .call 149 [(.t 9)], some (8, false)⟩,
      ⟨some 11, .not (.t 10), some (8, false)⟩,
      ⟨some 12, .pick (.t 8) (.k (.bool true)) (.t 11), none⟩])
   (.cond (.t 12)
    (.seq (.reg [⟨some 4, .mov (.k (.int .i64 1)), none⟩])
     (.ret))
    (.skip)))
  (.seq (.reg [⟨some 13, .mov (.t 0), none⟩,
      ⟨some 14, .mov (.t 1), none⟩,
      ⟨some 15, .call 222 [(.t 13), (.t 14)], none⟩,
      ⟨some 4, .mov (.t 15), none⟩])
   (.ret)))⟩
theorem fok_spec_AndOf : FOk Try.prog 193 code_spec_AndOf := fok Try.func193 (by kernel_rfl)
def code_impl_AndOf : F := ⟨16, [.tmp 4],
 .seq (.reg [⟨some 4, .mov (.k (.int .i64 0)), none⟩])
 (.seq (.seq (.reg [⟨some 5, .mov (.t 0), none⟩,
      ⟨some 6, .call 157 [(.t 5)], none⟩,
      ⟨some 7, .not (.t 6), none⟩,
      ⟨some 8, .mov (.t 7), none⟩,
      ⟨some 9, .mov (.t 1), some (8, false)⟩,
      ⟨some 10, .call 157 [(.t 9)], some (8, false)⟩,
      ⟨some 11, .not (.t 10), some (8, false)⟩,
      ⟨some 12, .pick (.t 8) (.k (.bool true)) (.t 11), none⟩])
   (.cond (.t 12)
    (.seq (.reg [⟨some 4, .mov (.k (.int .i64 1)), none⟩])
     (.ret))
    (.skip)))
  (.seq (.reg [⟨some 13, .mov (.t 0), none⟩,
      ⟨some 14, .mov (.t 1), none⟩,
      ⟨some 15, .min (.t 13) (.t 14), none⟩,
      ⟨some 4, .mov (.t 15), none⟩])
   (.ret)))⟩
theorem fok_impl_AndOf : FOk Try.prog 198 code_impl_AndOf := fok Try.func198 (by kernel_rfl)
def code_spec_OrOf : F := ⟨16, [.tmp 4],
 .seq (.reg [⟨some 4, .mov (.k (.int .i64 0)), none⟩])
 (.seq (.seq (.reg [⟨some 5, .mov (.t 0), none⟩,
      ⟨some 6, .call 149 [(.t 5)], none⟩,
      ⟨some 7, .not (.t 6), none⟩,
      ⟨some 8, .mov (.t 7), none⟩,
      ⟨some 9, .mov (.t 1), some (8, false)⟩,
      ⟨some 10, .call 149 [(.t 9)], some (8, false)⟩,
      ⟨some 11, .not (.t 10), some (8, false)⟩,
      ⟨some 12, .pick (.t 8) (.k (.bool true)) (.t 11), none⟩])
   (.cond (.t 12)
    (.seq (.reg [⟨some 4, .mov (.k (.int .i64 1)), none⟩])
     (.ret))
    (.skip)))
  (.seq (.reg [⟨some 13, .mov (.t 0), none⟩,
      ⟨some 14, .mov (.t 1), none⟩,
      ⟨some 15, .call 134 [(.t 13), (.t 14)], none⟩,
      ⟨some 4, .mov (.t 15), none⟩])
   (.ret)))⟩
theorem fok_spec_OrOf : FOk Try.prog 216 code_spec_OrOf := fok Try.func216 (by kernel_rfl)
def code_impl_OrOf : F := ⟨16, [.tmp 4],
 .seq (.reg [⟨some 4, .mov (.k (.int .i64 0)), none⟩])
 (.seq (.seq (.reg [⟨some 5, .mov (.t 0), none⟩,
      ⟨some 6, .call 157 [(.t 5)], none⟩,
      ⟨some 7, .not (.t 6), none⟩,
      ⟨some 8, .mov (.t 7), none⟩,
      ⟨some 9, .mov (.t 1), some (8, false)⟩,
      ⟨some 10, .call 157 [(.t 9)], some (8, false)⟩,
      ⟨some 11, .not (.t 10), some (8, false)⟩,
      ⟨some 12, .pick (.t 8) (.k (.bool true)) (.t 11), none⟩])
   (.cond (.t 12)
    (.seq (.reg [⟨some 4, .mov (.k (.int .i64 1)), none⟩])
     (.ret))
    (.skip)))
  (.seq (.reg [⟨some 13, .mov (.t 0), none⟩,
      ⟨some 14, .mov (.t 1), none⟩,
      ⟨some 15, .max (.t 13) (.t 14), none⟩,
      ⟨some 4, .mov (.t 15), none⟩])
   (.ret)))⟩
theorem fok_impl_OrOf : FOk Try.prog 123 code_impl_OrOf := fok Try.func123 (by kernel_rfl)
def code_spec_ArityOf : F := ⟨24, [.tmp 2],
 .seq (.reg [⟨some 2, .mov (.k (.int .i64 0)), none⟩])
 (.seq (.block 0 (.seq (.reg [⟨some 4, .mov (.t 0), none⟩,
       ⟨some 5, .call 76 [(.t 4), (.k (.int .i64 1)), (.k (.int .i64 7))], none⟩,
       ⟨some 3, .mov (.t 5), none⟩])
    (.cond (.t 3)
     (.seq (.reg [⟨some 2, .mov (.k (.int .i64 0)), none⟩])
      (.ret))
     (.seq (.reg [⟨some 7, .mov (.t 0), none⟩,
         ⟨some 8, .bin .eql (.t 7) (.k (.int .i64 8)), none⟩,
         ⟨some 9, .mov (.t 8), none⟩,
         ⟨some 10, .mov (.t 0), some (9, false)⟩,
         ⟨some 11, .bin .eql (.t 10) (.k (.int .i64 11)), some (9, false)⟩,
         ⟨some 12, .pick (.t 9) (.k (.bool true)) (.t 11), none⟩,
         ⟨some 13, .mov (.t 12), none⟩,
         ⟨some 14, .mov (.t 0), some (13, false)⟩,
         ⟨some 15, .bin .eql (.t 14) (.k (.int .i64 12)), some (13, false)⟩,
         ⟨some 16, .pick (.t 13) (.k (.bool true)) (.t 15), none⟩,
         ⟨some 6, .mov (.t 16), none⟩])
      (.cond (.t 6)
       (.seq (.reg [⟨some 2, .mov (.k (.int .i64 1)), none⟩])
        (.ret))
       (.seq (.reg [⟨some 18, .mov (.t 0), none⟩,
           ⟨some 19, .bin .eql (.t 18) (.k (.int .i64 9)), none⟩,
           ⟨some 20, .mov (.t 19), none⟩,
           ⟨some 21, .mov (.t 0), some (20, false)⟩,
           ⟨some 22, .bin .eql (.t 21) (.k (.int .i64 10)), some (20, false)⟩,
           ⟨some 23, .pick (.t 20) (.k (.bool true)) (.t 22), none⟩,
           ⟨some 17, .mov (.t 23), none⟩])
        (.cond (.t 17)
         (.seq (.reg [⟨some 2, .mov (.k (.int .i64 2)), none⟩])
          (.ret))
         (.skip))))))))
  (.seq (.reg [⟨some 2, .mov (.k (.int .i64 (-1))), none⟩])
   (.ret)))⟩
theorem fok_spec_ArityOf : FOk Try.prog 210 code_spec_ArityOf := fok Try.func210 (by kernel_rfl)
def code_impl_ArityOf : F := ⟨24, [.tmp 2],
 .seq (.reg [⟨some 2, .mov (.k (.int .i64 0)), none⟩])
 (.seq (.block 0 (.seq (.reg [⟨some 4, .mov (.t 0), none⟩,
       ⟨some 5, .call 82 [(.t 4), (.k (.int .i64 1)), (.k (.int .i64 7))], none⟩,
       ⟨some 3, .mov (.t 5), none⟩])
    (.cond (.t 3)
     (.seq (.reg [⟨some 2, .mov (.k (.int .i64 0)), none⟩])
      (.ret))
     (.seq (.reg [⟨some 7, .mov (.t 0), none⟩,
         ⟨some 8, .bin .eql (.t 7) (.k (.int .i64 8)), none⟩,
         ⟨some 9, .mov (.t 8), none⟩,
         ⟨some 10, .mov (.t 0), some (9, false)⟩,
         ⟨some 11, .bin .eql (.t 10) (.k (.int .i64 11)), some (9, false)⟩,
         ⟨some 12, .pick (.t 9) (.k (.bool true)) (.t 11), none⟩,
         ⟨some 13, .mov (.t 12), none⟩,
         ⟨some 14, .mov (.t 0), some (13, false)⟩,
         ⟨some 15, .bin .eql (.t 14) (.k (.int .i64 12)), some (13, false)⟩,
         ⟨some 16, .pick (.t 13) (.k (.bool true)) (.t 15), none⟩,
         ⟨some 6, .mov (.t 16), none⟩])
      (.cond (.t 6)
       (.seq (.reg [⟨some 2, .mov (.k (.int .i64 1)), none⟩])
        (.ret))
       (.seq (.reg [⟨some 18, .mov (.t 0), none⟩,
           ⟨some 19, .bin .eql (.t 18) (.k (.int .i64 9)), none⟩,
           ⟨some 20, .mov (.t 19), none⟩,
           ⟨some 21, .mov (.t 0), some (20, false)⟩,
           ⟨some 22, .bin .eql (.t 21) (.k (.int .i64 10)), some (20, false)⟩,
           ⟨some 23, .pick (.t 20) (.k (.bool true)) (.t 22), none⟩,
           ⟨some 17, .mov (.t 23), none⟩])
        (.cond (.t 17)
         (.seq (.reg [⟨some 2, .mov (.k (.int .i64 2)), none⟩])
          (.ret))
         (.skip))))))))
  (.seq (.reg [⟨some 2, .mov (.k (.int .i64 (-1))), none⟩])
   (.ret)))⟩
theorem fok_impl_ArityOf : FOk Try.prog 217 code_impl_ArityOf := fok Try.func217 (by kernel_rfl)
def code_spec_l1Min : F := ⟨10, [.tmp 4],
 .seq (.reg [⟨some 4, .mov (.k (.int .i64 0)), none⟩])
 (.seq (.seq (.reg [⟨some 5, .mov (.t 0), none⟩,
      ⟨some 6, .mov (.t 1), none⟩,
      ⟨some 7, .bin .lss (.t 5) (.t 6), none⟩])
   (.cond (.t 7)
    (.seq (.reg [⟨some 8, .mov (.t 0), none⟩,
        ⟨some 4, .mov (.t 8), none⟩])
     (.ret))
    (.skip)))
  (.seq (.reg [⟨some 9, .mov (.t 1), none⟩,
      ⟨some 4, .mov (.t 9), none⟩])
   (.ret)))⟩
theorem fok_spec_l1Min : FOk Try.prog 222 code_spec_l1Min := fok Try.func222 (by kernel_rfl)
def code_spec_l1Max : F := ⟨10, [.tmp 4],
 .seq (.reg [⟨some 4, .mov (.k (.int .i64 0)), none⟩])
 (.seq (.seq (.reg [⟨some 5, .mov (.t 0), none⟩,
      ⟨some 6, .mov (.t 1), none⟩,
      ⟨some 7, .bin .gtr (.t 5) (.t 6), none⟩])
   (.cond (.t 7)
    (.seq (.reg [⟨some 8, .mov (.t 0), none⟩,
        ⟨some 4, .mov (.t 8), none⟩])
     (.ret))
    (.skip)))
  (.seq (.reg [⟨some 9, .mov (.t 1), none⟩,
      ⟨some 4, .mov (.t 9), none⟩])
   (.ret)))⟩
theorem fok_spec_l1Max : FOk Try.prog 134 code_spec_l1Max := fok Try.func134 (by kernel_rfl)
def code_spec_l13Truth : F := ⟨7, [.tmp 2],
 .seq (.reg [⟨some 2, .mov (.k (.int .i64 0)), none⟩])
 (.seq (.seq (.reg [⟨some 3, .mov (.t 0), none⟩,
      ⟨some 4, .call 149 [(.t 3)], none⟩,
      ⟨some 5, .not (.t 4), none⟩])
   (.cond (.t 5)
    (.seq (.reg [⟨some 2, .mov (.k (.int .i64 1)), none⟩])
     (.ret))
    (.skip)))
  (.seq (.reg [⟨some 6, .mov (.t 0), none⟩,
      ⟨some 2, .mov (.t 6), none⟩])
   (.ret)))⟩
theorem fok_spec_l13Truth : FOk Try.prog 211 code_spec_l13Truth := fok Try.func211 (by kernel_rfl)
def code_impl_known : F := ⟨7, [.tmp 2],
 .seq (.reg [⟨some 2, .mov (.k (.int .i64 0)), none⟩])
 (.seq (.seq (.reg [⟨some 3, .mov (.t 0), none⟩,
      ⟨some 4, .call 157 [(.t 3)], none⟩,
      ⟨some 5, .not (.t 4), none⟩])
   (.cond (.t 5)
    (.seq (.reg [⟨some 2, .mov (.k (.int .i64 1)), none⟩])
     (.ret))
    (.skip)))
  (.seq (.reg [⟨some 6, .mov (.t 0), none⟩,
      ⟨some 2, .mov (.t 6), none⟩])
   (.ret)))⟩
theorem fok_impl_known : FOk Try.prog 229 code_impl_known := fok Try.func229 (by kernel_rfl)
def code_impl_element : F := ⟨16, [.tmp 4],
 .seq (.reg [⟨some 4, .mov (.k (.int .i64 0)), none⟩])
 (.seq (.seq (.reg [⟨some 5, .mov (.t 1), none⟩,
      ⟨some 6, .mov (.t 0), none⟩,
      ⟨some 7, .len (.t 6), none⟩,
      ⟨some 8, .bin .sub (.t 7) (.k (.int .i64 1)), none⟩,
      ⟨some 9, .call 82 [(.t 5), (.k (.int .i64 0)), (.t 8)], none⟩,
      ⟨some 10, .not (.t 9), none⟩])
   (.cond (.t 10)
    (.seq (.reg [⟨some 4, .mov (.k (.int .i64 1)), none⟩])
     (.ret))
    (.skip)))
  (.seq (.reg [⟨some 11, .mov (.t 0), none⟩,
      ⟨some 12, .mov (.t 1), none⟩,
      ⟨some 13, .iaddr 1 (.t 11) (.t 12), none⟩,
      ⟨some 14, .load 1 false (.t 13), none⟩,
      ⟨some 15, .call 229 [(.t 14)], none⟩,
      ⟨some 4, .mov (.t 15), none⟩])
   (.ret)))⟩
theorem fok_impl_element : FOk Try.prog 228 code_impl_element := fok Try.func228 (by kernel_rfl)
def code_impl_usesU : F := ⟨9, [.tmp 2],
 .seq (.reg [⟨some 2, .mov (.k (.bool false)), none⟩])
 (.seq (.reg [⟨some 3, .mov (.t 0), none⟩,
     ⟨some 4, .call 82 [(.t 3), (.k (.int .i64 2)), (.k (.int .i64 7))], none⟩,
     ⟨some 5, .mov (.t 4), none⟩,
     ⟨some 6, .mov (.t 0), some (5, false)⟩,
     ⟨some 7, .call 218 [(.t 6)], some (5, false)⟩,
     ⟨some 8, .pick (.t 5) (.k (.bool true)) (.t 7), none⟩,
     ⟨some 2, .mov (.t 8), none⟩])
  (.ret))⟩
theorem fok_impl_usesU : FOk Try.prog 226 code_impl_usesU := fok Try.func226 (by kernel_rfl)
def code_impl_usesV : F := ⟨5, [.tmp 2],
 .seq (.reg [⟨some 2, .mov (.k (.bool false)), none⟩])
 (.seq (.reg [⟨some 3, .mov (.t 0), none⟩,
     ⟨some 4, .call 82 [(.t 3), (.k (.int .i64 5)), (.k (.int .i64 7))], none⟩,
     ⟨some 2, .mov (.t 4), none⟩])
  (.ret))⟩
theorem fok_impl_usesV : FOk Try.prog 227 code_impl_usesV := fok Try.func227 (by kernel_rfl)
def code_impl_isBinder : F := ⟨9, [.tmp 2],
 .seq (.reg [⟨some 2, .mov (.k (.bool false)), none⟩])
 (.seq (.reg [⟨some 3, .mov (.t 0), none⟩,
     ⟨some 4, .bin .eql (.t 3) (.k (.int .i64 11)), none⟩,
     ⟨some 5, .mov (.t 4), none⟩,
     ⟨some 6, .mov (.t 0), some (5, false)⟩,
     ⟨some 7, .bin .eql (.t 6) (.k (.int .i64 12)), some (5, false)⟩,
     ⟨some 8, .pick (.t 5) (.k (.bool true)) (.t 7), none⟩,
     ⟨some 2, .mov (.t 8), none⟩])
  (.ret))⟩
theorem fok_impl_isBinder : FOk Try.prog 218 code_impl_isBinder := fok Try.func218 (by kernel_rfl)
def code_impl_place : F := ⟨29, [.tmp 6],
 .seq (.reg [⟨some 3, .box (.t 0), none⟩,
    ⟨some 6, .mov (.k (.int .i64 0)), none⟩])
 (.seq (.seq (.dreg [true, true, true, true, false, false, false, true, true, true, false, false, false, false, false, true, true, true] [⟨some 7, .mov (.t 2), none⟩,
      ⟨some 8, .call 82 [(.t 7), (.k (.int .i64 0)), (.k (.int .i64 3))], none⟩,
      ⟨some 9, .not (.t 8), none⟩,
      ⟨some 10, .mov (.t 9), none⟩,
      ⟨some 11, .mov (.t 2), some (10, false)⟩,
      ⟨some 12, .mov (.t 1), some (10, false)⟩,
      ⟨some 13, .len (.t 12), some (10, false)⟩,
      ⟨some 14, .bin .geq (.t 11) (.t 13), some (10, false)⟩,
      ⟨some 15, .pick (.t 10) (.k (.bool true)) (.t 14), none⟩,
      ⟨some 16, .mov (.t 15), none⟩,
      ⟨some 17, .load 2 true (.t 3), some (16, false)⟩,
      ⟨some 18, .mov (.t 1), some (16, false)⟩,
      ⟨some 19, .mov (.t 2), some (16, false)⟩,
      ⟨some 20, .iaddr 1 (.t 18) (.t 19), some (16, false)⟩,
      ⟨some 21, .load 1 false (.t 20), some (16, false)⟩,
      ⟨some 22, .call 197 [(.t 17), (.t 21)], some (16, false)⟩,
      ⟨some 23, .not (.t 22), some (16, false)⟩,
      ⟨some 24, .pick (.t 16) (.k (.bool true)) (.t 23), none⟩])
   (.cond (.t 24)
    (.seq (.reg [⟨some 6, .mov (.k (.int .i64 (-1))), none⟩])
     (.ret))
    (.skip)))
  (.seq (.reg [⟨some 25, .mov (.t 1), none⟩,
      ⟨some 26, .mov (.t 2), none⟩,
      ⟨some 27, .iaddr 1 (.t 25) (.t 26), none⟩,
      ⟨some 28, .load 1 false (.t 27), none⟩,
      ⟨some 6, .mov (.t 28), none⟩])
   (.ret)))⟩
theorem fok_impl_place : FOk Try.prog 220 code_impl_place := fok Try.func220 (by kernel_rfl)
def code_spec_l13Node : F := ⟨33, [.tmp 6],
 .seq (.reg [⟨some 3, .box (.t 0), none⟩,
    ⟨some 6, .mov (.k (.int .i64 0)), none⟩])
 (.seq (.seq (.dreg [false, false, false, false, true, true, true, true, true, true, true, false, false, false, false, false, false, false, false, true, true, true] [⟨some 7, .mov (.t 2), none⟩,
      ⟨some 8, .mov (.t 1), none⟩,
      ⟨some 9, .len (.t 8), none⟩,
      ⟨some 10, .bin .sub (.t 9) (.k (.int .i64 1)), none⟩,
      ⟨some 11, .call 76 [(.t 7), (.k (.int .i64 0)), (.t 10)], none⟩,
      ⟨some 12, .not (.t 11), none⟩,
      ⟨some 13, .mov (.t 12), none⟩,
      ⟨some 14, .mov (.t 2), some (13, false)⟩,
      ⟨some 15, .bin .geq (.t 14) (.k (.int .i64 4)), some (13, false)⟩,
      ⟨some 16, .pick (.t 13) (.k (.bool true)) (.t 15), none⟩,
      ⟨some 17, .mov (.t 16), none⟩,
      ⟨some 18, .mov (.t 1), some (17, false)⟩,
      ⟨some 19, .mov (.t 2), some (17, false)⟩,
      ⟨some 20, .iaddr 1 (.t 18) (.t 19), some (17, false)⟩,
      ⟨some 21, .load 1 false (.t 20), some (17, false)⟩,
      ⟨some 22, .faddr 0 (.t 3), some (17, false)⟩,
      ⟨some 23, .load 1 false (.t 22), some (17, false)⟩,
      ⟨some 24, .len (.t 23), some (17, false)⟩,
      ⟨some 25, .bin .sub (.t 24) (.k (.int .i64 1)), some (17, false)⟩,
      ⟨some 26, .call 76 [(.t 21), (.k (.int .i64 0)), (.t 25)], some (17, false)⟩,
      ⟨some 27, .not (.t 26), some (17, false)⟩,
      ⟨some 28, .pick (.t 17) (.k (.bool true)) (.t 27), none⟩])
   (.cond (.t 28)
    (.seq (.reg [⟨some 6, .mov (.k (.int .i64 (-1))), none⟩])
     (.ret))
    (.skip)))
  (.seq (.reg [⟨some 29, .mov (.t 1), none⟩,
      ⟨some 30, .mov (.t 2), none⟩,
      ⟨some 31, .iaddr 1 (.t 29) (.t 30), none⟩,
      ⟨some 32, .load 1 false (.t 31), none⟩,
      ⟨some 6, .mov (.t 32), none⟩])
   (.ret)))⟩
theorem fok_spec_l13Node : FOk Try.prog 213 code_spec_l13Node := fok Try.func213 (by kernel_rfl)
def code_impl_sameNode : F := ⟨12, [.tmp 4],
 .seq (.reg [⟨some 2, .box (.t 0), none⟩,
    ⟨some 4, .mov (.k (.int .i64 0)), none⟩])
 (.seq (.seq (.reg [⟨some 5, .faddr 0 (.t 2), none⟩,
      ⟨some 6, .load 1 false (.t 5), none⟩,
      ⟨some 7, .mov (.t 1), none⟩,
      ⟨some 8, .iaddr 4 (.t 6) (.t 7), none⟩,
      ⟨some 9, .faddr 3 (.t 8), none⟩,
      ⟨some 10, .load 1 false (.t 9), none⟩,
      ⟨some 11, .bin .eql (.t 10) (.k (.int .i64 0)), none⟩])
   (.cond (.t 11)
    (.seq (.reg [⟨some 4, .mov (.k (.int .i64 2)), none⟩])
     (.ret))
    (.skip)))
  (.seq (.reg [⟨some 4, .mov (.k (.int .i64 1)), none⟩])
   (.ret)))⟩
theorem fok_impl_sameNode : FOk Try.prog 230 code_impl_sameNode := fok Try.func230 (by kernel_rfl)
def notT3 (a : Int) : Int := if isTruth a then 2 - a else 1
def andT (a b : Int) : Int := if isTruth a && isTruth b then (if a ≤ b then a else b) else 1
def orT (a b : Int) : Int := if isTruth a && isTruth b then (if a ≤ b then b else a) else 1
def knownT (a : Int) : Int := if isTruth a then a else 1
def arity (k : Int) : Int := if 1 ≤ k ∧ k ≤ 7 then 0 else if k = 8 ∨ k = 11 ∨ k = 12 then 1 else if k = 9 ∨ k = 10 then 2 else -1
theorem isTruth_iff (a : Int) : (isTruth a = true) = (0 ≤ a ∧ a ≤ 2) := by simp [isTruth]
theorem notT3_truth (a : Int) : isTruth (notT3 a) = true := by unfold notT3; simp only [isTruth_iff]; split <;> omega
theorem andT_truth (a b : Int) : isTruth (andT a b) = true := by unfold andT; simp only [Bool.and_eq_true, isTruth_iff]; (repeat' split) <;> omega
theorem orT_truth (a b : Int) : isTruth (orT a b) = true := by unfold orT; simp only [Bool.and_eq_true, isTruth_iff]; (repeat' split) <;> omega
theorem knownT_truth (a : Int) : isTruth (knownT a) = true := by unfold knownT; simp only [isTruth_iff]; (repeat' split) <;> omega
theorem knownT_of {a : Int} (h : isTruth a = true) : knownT a = a := by simp [knownT, h]
@[simp] def ct_sNotOf : Ct := ⟨126, Int, fun _ => True, fun x => [.int .i64 x], fun x => .int .i64 (notT3 x)⟩
theorem ok_sNotOf : ct_sNotOf.Ok Try.prog := by
  rintro a -
  change Int at a
  refine Ok.of_cw fok_spec_NotOf (go_ok (tab_cons ok_sIsTruth tab_nil) ?_)
  cases h : isTruth a
  · simp [code_spec_NotOf, List.replicate, notT3, h]
  · have h2 := h
    rw [isTruth_iff] at h2
    have hw : IntKind.i64.wrap (2 - a) = 2 - a := by rw [wrap_i64] <;> omega
    simp [code_spec_NotOf, List.replicate, notT3, h, hw]
@[simp] def ct_pNotOf : Ct := ⟨130, Int, fun _ => True, fun x => [.int .i64 x], fun x => .int .i64 (notT3 x)⟩
theorem ok_pNotOf : ct_pNotOf.Ok Try.prog := by
  rintro a -
  change Int at a
  refine Ok.of_cw fok_impl_NotOf (go_ok (tab_cons ok_pIsTruth tab_nil) ?_)
  cases h : isTruth a
  · simp [code_impl_NotOf, List.replicate, notT3, h]
  · have h2 := h
    rw [isTruth_iff] at h2
    have hw : IntKind.i64.wrap (2 - a) = 2 - a := by rw [wrap_i64] <;> omega
    simp [code_impl_NotOf, List.replicate, notT3, h, hw]
@[simp] def ct_l1Min : Ct := ⟨222, Int × Int, fun _ => True, fun x => [.int .i64 x.1, .int .i64 x.2], fun x => .int .i64 (if x.1 ≤ x.2 then x.1 else x.2)⟩
theorem ok_l1Min : ct_l1Min.Ok Try.prog := by
  rintro ⟨a, b⟩ -
  refine Ok.of_cw fok_spec_l1Min (go_ok tab_nil ?_)
  by_cases h : a ≤ b <;> by_cases h2 : a < b <;> by_cases h3 : b < a <;> simp [code_spec_l1Min, List.replicate, h, h2, h3] <;> omega
@[simp] def ct_l1Max : Ct := ⟨134, Int × Int, fun _ => True, fun x => [.int .i64 x.1, .int .i64 x.2], fun x => .int .i64 (if x.1 ≤ x.2 then x.2 else x.1)⟩
theorem ok_l1Max : ct_l1Max.Ok Try.prog := by
  rintro ⟨a, b⟩ -
  refine Ok.of_cw fok_spec_l1Max (go_ok tab_nil ?_)
  by_cases h : a ≤ b <;> by_cases h2 : a < b <;> by_cases h3 : b < a <;> simp [code_spec_l1Max, List.replicate, h, h2, h3] <;> omega
@[simp] def ct_sAndOf : Ct := ⟨193, Int × Int, fun _ => True, fun x => [.int .i64 x.1, .int .i64 x.2], fun x => .int .i64 (andT x.1 x.2)⟩
theorem ok_sAndOf : ct_sAndOf.Ok Try.prog := by
  rintro ⟨a, b⟩ -
  refine Ok.of_cw fok_spec_AndOf (go_ok (tab_cons ok_sIsTruth (tab_cons ok_l1Min tab_nil)) ?_)
  cases h : isTruth a <;> cases h2 : isTruth b <;> simp [code_spec_AndOf, List.replicate, andT, h, h2]
@[simp] def ct_pAndOf : Ct := ⟨198, Int × Int, fun _ => True, fun x => [.int .i64 x.1, .int .i64 x.2], fun x => .int .i64 (andT x.1 x.2)⟩
theorem ok_pAndOf : ct_pAndOf.Ok Try.prog := by
  rintro ⟨a, b⟩ -
  refine Ok.of_cw fok_impl_AndOf (go_ok (tab_cons ok_pIsTruth tab_nil) ?_)
  cases h : isTruth a <;> cases h2 : isTruth b <;> simp [code_impl_AndOf, List.replicate, andT, h, h2]
  grind
@[simp] def ct_sOrOf : Ct := ⟨216, Int × Int, fun _ => True, fun x => [.int .i64 x.1, .int .i64 x.2], fun x => .int .i64 (orT x.1 x.2)⟩
theorem ok_sOrOf : ct_sOrOf.Ok Try.prog := by
  rintro ⟨a, b⟩ -
  refine Ok.of_cw fok_spec_OrOf (go_ok (tab_cons ok_sIsTruth (tab_cons ok_l1Max tab_nil)) ?_)
  cases h : isTruth a <;> cases h2 : isTruth b <;> simp [code_spec_OrOf, List.replicate, orT, h, h2]
@[simp] def ct_pOrOf : Ct := ⟨123, Int × Int, fun _ => True, fun x => [.int .i64 x.1, .int .i64 x.2], fun x => .int .i64 (orT x.1 x.2)⟩
theorem ok_pOrOf : ct_pOrOf.Ok Try.prog := by
  rintro ⟨a, b⟩ -
  refine Ok.of_cw fok_impl_OrOf (go_ok (tab_cons ok_pIsTruth tab_nil) ?_)
  cases h : isTruth a <;> cases h2 : isTruth b <;> simp [code_impl_OrOf, List.replicate, orT, h, h2]
  grind
@[simp] def ct_sArityOf : Ct := ⟨210, Int, fun _ => True, fun x => [.int .i64 x], fun x => .int .i64 (arity x)⟩
theorem ok_sArityOf : ct_sArityOf.Ok Try.prog := by
  rintro a -
  change Int at a
  refine Ok.of_cw fok_spec_ArityOf (go_ok (tab_cons ok_l1In tab_nil) ?_)
  by_cases h : 1 ≤ a ∧ a ≤ 7
  · simp [code_spec_ArityOf, List.replicate, arity, h]
  · by_cases h1 : 8 ≤ a ∧ a ≤ 12
    · obtain rfl | rfl | rfl | rfl | rfl : a = 8 ∨ a = 9 ∨ a = 10 ∨ a = 11 ∨ a = 12 := by omega
      all_goals simp [code_spec_ArityOf, List.replicate, arity]
    · have n8 : a ≠ 8 := by omega
      have n9 : a ≠ 9 := by omega
      have n10 : a ≠ 10 := by omega
      have n11 : a ≠ 11 := by omega
      have n12 : a ≠ 12 := by omega
      by_cases g : 1 ≤ a
      · have g2 : ¬ a ≤ 7 := by omega
        simp [code_spec_ArityOf, List.replicate, arity, g, g2, n8, n9, n10, n11, n12]
        omega
      · simp [code_spec_ArityOf, List.replicate, arity, g, n8, n9, n10, n11, n12]
@[simp] def ct_pArityOf : Ct := ⟨217, Int, fun _ => True, fun x => [.int .i64 x], fun x => .int .i64 (arity x)⟩
theorem ok_pArityOf : ct_pArityOf.Ok Try.prog := by
  rintro a -
  change Int at a
  refine Ok.of_cw fok_impl_ArityOf (go_ok (tab_cons ok_within tab_nil) ?_)
  by_cases h : 1 ≤ a ∧ a ≤ 7
  · simp [code_impl_ArityOf, List.replicate, arity, h]
  · by_cases h1 : 8 ≤ a ∧ a ≤ 12
    · obtain rfl | rfl | rfl | rfl | rfl : a = 8 ∨ a = 9 ∨ a = 10 ∨ a = 11 ∨ a = 12 := by omega
      all_goals simp [code_impl_ArityOf, List.replicate, arity]
    · have n8 : a ≠ 8 := by omega
      have n9 : a ≠ 9 := by omega
      have n10 : a ≠ 10 := by omega
      have n11 : a ≠ 11 := by omega
      have n12 : a ≠ 12 := by omega
      by_cases g : 1 ≤ a
      · have g2 : ¬ a ≤ 7 := by omega
        simp [code_impl_ArityOf, List.replicate, arity, g, g2, n8, n9, n10, n11, n12]
        omega
      · simp [code_impl_ArityOf, List.replicate, arity, g, n8, n9, n10, n11, n12]
@[simp] def ct_l13Truth : Ct := ⟨211, Int, fun _ => True, fun x => [.int .i64 x], fun x => .int .i64 (knownT x)⟩
theorem ok_l13Truth : ct_l13Truth.Ok Try.prog := by
  rintro a -
  change Int at a
  refine Ok.of_cw fok_spec_l13Truth (go_ok (tab_cons ok_sIsTruth tab_nil) ?_)
  cases h : isTruth a <;> simp [code_spec_l13Truth, List.replicate, knownT, h]
@[simp] def ct_known : Ct := ⟨229, Int, fun _ => True, fun x => [.int .i64 x], fun x => .int .i64 (knownT x)⟩
theorem ok_known : ct_known.Ok Try.prog := by
  rintro a -
  change Int at a
  refine Ok.of_cw fok_impl_known (go_ok (tab_cons ok_pIsTruth tab_nil) ?_)
  cases h : isTruth a <;> simp [code_impl_known, List.replicate, knownT, h]
@[simp] def ct_element : Ct := ⟨228, List Int × Int, fun x => x.1.length ≤ 1048576, fun x => [encL 1 encInt x.1, .int .i64 x.2], fun x => .int .i64 (knownT (at1 x.1 x.2))⟩
theorem ok_element : ct_element.Ok Try.prog := by
  rintro ⟨l, k⟩ h
  change l.length ≤ 1048576 at h
  refine Ok.of_cw fok_impl_element (go_ok (tab_cons ok_within (tab_cons ok_known tab_nil)) ?_)
  have hw : IntKind.i64.wrap ((l.length : Int) - 1) = (l.length : Int) - 1 := by rw [wrap_i64] <;> omega
  by_cases c : 0 ≤ k ∧ k ≤ (l.length : Int) - 1
  · have c2 : k.toNat < l.length := by omega
    have c3 : k < l.length := by omega
    simp [code_impl_element, List.replicate, hw, at1, c, c2, c3]
    omega
  · have c3 : ¬ (0 ≤ k ∧ k < l.length) := by omega
    by_cases c4 : 0 ≤ k
    · have c5 : ¬ (k ≤ (l.length : Int) - 1) := by omega
      have c6 : ¬ k < (l.length : Int) := by omega
      simp [code_impl_element, List.replicate, hw, at1, c6, c4, c5, knownT, isTruth]
      omega
    · simp [code_impl_element, List.replicate, hw, at1, c3, c4, knownT, isTruth]
def useU (k : Int) : Bool := decide (2 ≤ k) && decide (k ≤ 7) || (decide (k = 11) || decide (k = 12))
def useV (k : Int) : Bool := decide (5 ≤ k) && decide (k ≤ 7)
def binder (k : Int) : Bool := decide (k = 11) || decide (k = 12)
@[simp] def ct_isBinder : Ct := ⟨218, Int, fun _ => True, fun x => [.int .i64 x], fun x => .bool (binder x)⟩
theorem ok_isBinder : ct_isBinder.Ok Try.prog := by
  rintro a -
  change Int at a
  refine Ok.of_cw fok_impl_isBinder (go_ok tab_nil ?_)
  by_cases h : a = 11 <;> by_cases h2 : a = 12 <;> simp [code_impl_isBinder, List.replicate, binder, h, h2]
@[simp] def ct_usesU : Ct := ⟨226, Int, fun _ => True, fun x => [.int .i64 x], fun x => .bool (useU x)⟩
theorem ok_usesU : ct_usesU.Ok Try.prog := by
  rintro a -
  change Int at a
  refine Ok.of_cw fok_impl_usesU (go_ok (tab_cons ok_within (tab_cons ok_isBinder tab_nil)) ?_)
  by_cases h : 2 ≤ a
  · by_cases h2 : a ≤ 7
    · simp [code_impl_usesU, List.replicate, useU, binder, h, h2]
      omega
    · simp [code_impl_usesU, List.replicate, useU, binder, h, h2]
  · simp [code_impl_usesU, List.replicate, useU, binder, h]
@[simp] def ct_usesV : Ct := ⟨227, Int, fun _ => True, fun x => [.int .i64 x], fun x => .bool (useV x)⟩
theorem ok_usesV : ct_usesV.Ok Try.prog := by
  rintro a -
  change Int at a
  refine Ok.of_cw fok_impl_usesV (go_ok (tab_cons ok_within tab_nil) ?_)
  simp [code_impl_usesV, List.replicate, useV]
/-- The node of a logic variable, or -1. -/
def nodeOf (s : Strc) (nodes : List Int) (u : Int) : Int := if 0 ≤ u ∧ u ≤ 3 ∧ u < nodes.length ∧ inN s (nodes.getD u.toNat 0) then nodes.getD u.toNat 0 else -1
theorem nodeOf_or (s : Strc) (nodes : List Int) (u : Int) : nodeOf s nodes u = -1 ∨ inN s (nodeOf s nodes u) := by
  unfold nodeOf
  split
  · rename_i h; exact .inr h.2.2.2
  · exact .inl rfl
@[simp] def ct_place : Ct := ⟨220, Strc × List Int × Int, fun x => x.2.1.length ≤ 1048576, fun x => [encStrc x.1, encL 1 encInt x.2.1, .int .i64 x.2.2], fun x => .int .i64 (nodeOf x.1 x.2.1 x.2.2)⟩
theorem ok_place : ct_place.Ok Try.prog := by
  rintro ⟨s, l, u⟩ h
  change l.length ≤ 1048576 at h
  refine Ok.of_cw fok_impl_place (go_ok (tab_cons ok_within (tab_cons ok_isNode tab_nil)) ?_)
  by_cases c1 : 0 ≤ u
  case neg => simp [code_impl_place, List.replicate, nodeOf, c1]
  by_cases c2 : u ≤ 3
  case neg => simp [code_impl_place, List.replicate, nodeOf, c1, c2]
  by_cases c3 : u < l.length
  case neg =>
    have c3' : (l.length : Int) ≤ u := by omega
    simp [code_impl_place, List.replicate, nodeOf, c1, c2, c3, c3']
  have c3' : ¬ ((l.length : Int) ≤ u) := by omega
  have c4 : u.toNat < l.length := by omega
  have e : l.getD u.toNat 0 = l[u.toNat] := by simp [List.getD_eq_getElem?_getD, c4]
  have hR : nodeOf s l u = if 0 ≤ u ∧ u ≤ 3 ∧ u < l.length ∧ inN s l[u.toNat] then l[u.toNat] else -1 := by unfold nodeOf; rw [e]
  simp only [ct_place]
  rw [hR]
  by_cases c5 : inN s l[u.toNat]
  · have c6 := c5
    unfold inN at c6
    simp [code_impl_place, List.replicate, c1, c2, c3, c3', c4, c5, c6]
    try omega
  · have c6 := c5
    unfold inN at c6
    simp [code_impl_place, List.replicate, c1, c2, c3, c3', c4, c5]
    grind
@[simp] def ct_l13Node : Ct := ⟨213, Strc × List Int × Int, fun x => szStrc x.1 ≤ 1048576 ∧ x.2.1.length ≤ 1048576, fun x => [encStrc x.1, encL 1 encInt x.2.1, .int .i64 x.2.2], fun x => .int .i64 (nodeOf x.1 x.2.1 x.2.2)⟩
theorem ok_l13Node : ct_l13Node.Ok Try.prog := by
  rintro ⟨s, l, u⟩ ⟨hs, h⟩
  change szStrc s ≤ 1048576 at hs
  change l.length ≤ 1048576 at h
  have hs := strc_le s
  refine Ok.of_cw fok_spec_l13Node (go_ok (tab_cons ok_l1In tab_nil) ?_)
  have hw : IntKind.i64.wrap ((l.length : Int) - 1) = (l.length : Int) - 1 := by rw [wrap_i64] <;> omega
  have hw2 : IntKind.i64.wrap ((s.nodes.length : Int) - 1) = (s.nodes.length : Int) - 1 := by rw [wrap_i64] <;> omega
  by_cases c1 : 0 ≤ u
  case neg => simp [code_spec_l13Node, List.replicate, nodeOf, c1, hw, hw2]
  by_cases c3 : u < l.length
  case neg =>
    have c3' : ¬ (u ≤ (l.length : Int) - 1) := by omega
    simp [code_spec_l13Node, List.replicate, nodeOf, c1, c3, c3', hw, hw2]
  have c3' : (u ≤ (l.length : Int) - 1) := by omega
  by_cases c2 : u ≤ 3
  case neg =>
    have c2' : 4 ≤ u := by omega
    simp [code_spec_l13Node, List.replicate, nodeOf, c1, c2, c2', c3, c3', hw, hw2]
  have c2' : ¬ 4 ≤ u := by omega
  have c4 : u.toNat < l.length := by omega
  have e : l.getD u.toNat 0 = l[u.toNat] := by simp [List.getD_eq_getElem?_getD, c4]
  have hR : nodeOf s l u = if 0 ≤ u ∧ u ≤ 3 ∧ u < l.length ∧ inN s l[u.toNat] then l[u.toNat] else -1 := by unfold nodeOf; rw [e]
  simp only [ct_l13Node]
  rw [hR]
  by_cases c5 : inN s l[u.toNat]
  · have c6 := c5
    unfold inN at c6
    simp [code_spec_l13Node, List.replicate, c1, c2, c2', c3, c3', c4, c5, c6, hw, hw2]
    omega
  · have c6 := c5
    unfold inN at c6
    simp [code_spec_l13Node, List.replicate, c1, c2, c2', c3, c3', c4, c5, hw, hw2]
    grind
def sameT (s : Strc) (i : Int) : Int := if (s.nodes.getD i.toNat default).many = 0 then 2 else 1
@[simp] def ct_sameNode : Ct := ⟨230, Strc × Int, fun x => inN x.1 x.2, fun x => [encStrc x.1, .int .i64 x.2], fun x => .int .i64 (sameT x.1 x.2)⟩
theorem ok_sameNode : ct_sameNode.Ok Try.prog := by
  rintro ⟨s, i⟩ hi
  change inN s i at hi
  unfold inN at hi
  have c4 : i.toNat < s.nodes.length := by omega
  have c5 : i < s.nodes.length := by omega
  have e : s.nodes.getD i.toNat default = s.nodes[i.toNat] := by simp [List.getD_eq_getElem?_getD, c4]
  have hR : sameT s i = if s.nodes[i.toNat].many = 0 then 2 else 1 := by unfold sameT; rw [e]
  simp only [ct_sameNode]
  rw [hR]
  refine Ok.of_cw fok_impl_sameNode (go_ok tab_nil ?_)
  by_cases c : s.nodes[i.toNat].many = 0 <;> simp [code_impl_sameNode, List.replicate, hi.1, c4, c5, c]
end Go.Vm
