/- Names, variables and statements, of both. No condition. -/
import Derived.Test.YtkclkieeapdeiaaTSL
import Derived.Test.YtkclkieeapdeiaaTPB
set_option linter.unusedSimpArgs false
set_option linter.unusedVariables false
namespace Go.Vm
open Go.Proofs
def code_spec_IsName : F := ⟨23, [.tmp 2],
 .seq (.reg [⟨some 2, .mov (.k (.bool false)), none⟩])
 (.seq (.seq (.reg [⟨some 3, .mov (.k (.int .i64 0)), none⟩])
   (.block 0 (.loop (.seq (.seq (.reg [⟨some 4, .mov (.t 3), none⟩,
          ⟨some 5, .mov (.t 0), none⟩,
          ⟨some 6, .slen (.t 5), none⟩,
          ⟨some 7, .bin .lss (.t 4) (.t 6), none⟩])
       (.cond (.t 7)
        (.skip)
        (.exit 0)))
      (.seq (.block 1 (.seq (.reg [⟨some 10, .mov (.t 0), none⟩,
            ⟨some 11, .mov (.t 3), none⟩,
            ⟨some 12, .idxs (.t 10) (.t 11), none⟩,
            ⟨some 13, .bin .lss (.t 12) (.k (.int .u8 97)), none⟩,
            ⟨some 14, .mov (.t 13), none⟩,
            ⟨some 15, .mov (.t 0), some (14, false)⟩,
            ⟨some 16, .mov (.t 3), some (14, false)⟩,
            ⟨some 17, .idxs (.t 15) (.t 16), some (14, false)⟩,
            ⟨some 18, .bin .gtr (.t 17) (.k (.int .u8 122)), some (14, false)⟩,
            ⟨some 19, .pick (.t 14) (.k (.bool true)) (.t 18), none⟩])
         (.cond (.t 19)
          (.seq (.reg [⟨some 2, .mov (.k (.bool false)), none⟩])
           (.ret))
          (.skip))))
       (.reg [⟨some 8, .mov (.t 3), none⟩,
          ⟨some 9, .bin .add (.t 8) (.k (.int .i64 1)), none⟩,
          ⟨some 3, .mov (.t 9), none⟩]))))))
  (.seq (.reg [⟨some 20, .mov (.t 0), none⟩,
      ⟨some 21, .slen (.t 20), none⟩,
      ⟨some 22, .call 61 [(.t 21), (.k (.int .i64 1)), (.k (.int .i64 2))], none⟩,
      ⟨some 2, .mov (.t 22), none⟩])
   (.ret)))⟩
theorem fok_spec_IsName : FOk Try.prog 98 code_spec_IsName := fok Try.func98 (by kernel_rfl)
def code_impl_IsName : F := ⟨23, [.tmp 2],
 .seq (.reg [⟨some 2, .mov (.k (.bool false)), none⟩])
 (.seq (.seq (.reg [⟨some 4, .mov (.t 0), none⟩,
      ⟨some 5, .slen (.t 4), none⟩,
      ⟨some 6, .mov (.k (.int .i64 0)), none⟩])
   (.block 0 (.loop (.seq (.reg [⟨some 7, .bin .lss (.t 6) (.t 5), none⟩])
      (.seq (.cond (.t 7)
        (.skip)
        (.exit 0))
       (.seq (.block 1 (.seq (.reg [⟨some 8, .mov (.t 6), none⟩,
             ⟨some 3, .mov (.t 8), none⟩])
          (.seq (.reg [⟨some 9, .mov (.t 0), none⟩,
              ⟨some 10, .mov (.t 3), none⟩,
              ⟨some 11, .idxs (.t 9) (.t 10), none⟩,
              ⟨some 12, .bin .lss (.t 11) (.k (.int .u8 97)), none⟩,
              ⟨some 13, .mov (.t 12), none⟩,
              ⟨some 14, .mov (.t 0), some (13, false)⟩,
              ⟨some 15, .mov (.t 3), some (13, false)⟩,
              ⟨some 16, .idxs (.t 14) (.t 15), some (13, false)⟩,
              ⟨some 17, .bin .gtr (.t 16) (.k (.int .u8 122)), some (13, false)⟩,
              ⟨some 18, .pick (.t 13) (.k (.bool true)) (.t 17), none⟩])
           (.cond (.t 18)
            (.seq (.reg [⟨some 2, .mov (.k (.bool false)), none⟩])
             (.ret))
            (.skip)))))
        (.reg [⟨some 19, .bin .add (.t 6) (.k (.int .i64 1)), none⟩,
           ⟨some 6, .mov (.t 19), none⟩])))))))
  (.seq (.reg [⟨some 20, .mov (.t 0), none⟩,
      ⟨some 21, .slen (.t 20), none⟩,
      ⟨some 22, .call 60 [(.t 21), (.k (.int .i64 1)), (.k (.int .i64 2))], none⟩,
      ⟨some 2, .mov (.t 22), none⟩])
   (.ret)))⟩
theorem fok_impl_IsName : FOk Try.prog 92 code_impl_IsName := fok Try.func92 (by kernel_rfl)
def code_spec_IndexOf : F := ⟨19, [.tmp 4],
 .seq (.reg [⟨some 4, .mov (.k (.int .i64 0)), none⟩])
 (.seq (.seq (.reg [⟨some 5, .mov (.k (.int .i64 0)), none⟩])
   (.block 0 (.loop (.seq (.seq (.reg [⟨some 6, .mov (.t 5), none⟩,
          ⟨some 7, .mov (.t 0), none⟩,
          ⟨some 8, .len (.t 7), none⟩,
          ⟨some 9, .bin .lss (.t 6) (.t 8), none⟩])
       (.cond (.t 9)
        (.skip)
        (.exit 0)))
      (.seq (.block 1 (.seq (.reg [⟨some 12, .mov (.t 0), none⟩,
            ⟨some 13, .mov (.t 5), none⟩,
            ⟨some 14, .iaddr 1 (.t 12) (.t 13), none⟩,
            ⟨some 15, .load 1 false (.t 14), none⟩,
            ⟨some 16, .mov (.t 1), none⟩,
            ⟨some 17, .bin .eql (.t 15) (.t 16), none⟩])
         (.cond (.t 17)
          (.seq (.reg [⟨some 18, .mov (.t 5), none⟩,
              ⟨some 4, .mov (.t 18), none⟩])
           (.ret))
          (.skip))))
       (.reg [⟨some 10, .mov (.t 5), none⟩,
          ⟨some 11, .bin .add (.t 10) (.k (.int .i64 1)), none⟩,
          ⟨some 5, .mov (.t 11), none⟩]))))))
  (.seq (.reg [⟨some 4, .mov (.k (.int .i64 (-1))), none⟩])
   (.ret)))⟩
theorem fok_spec_IndexOf : FOk Try.prog 50 code_spec_IndexOf := fok Try.func50 (by kernel_rfl)
def code_slices_Index_string_string : F := ⟨19, [.tmp 4],
 .seq (.reg [⟨some 4, .mov (.k (.int .i64 0)), none⟩])
 (.seq (.seq (.reg [⟨some 6, .mov (.t 0), none⟩,
      ⟨some 7, .len (.t 6), none⟩,
      ⟨some 8, .mov (.k (.int .i64 0)), none⟩])
   (.block 0 (.loop (.seq (.reg [⟨some 9, .bin .lss (.t 8) (.t 7), none⟩])
      (.seq (.cond (.t 9)
        (.skip)
        (.exit 0))
       (.seq (.block 1 (.seq (.reg [⟨some 10, .mov (.t 8), none⟩,
             ⟨some 5, .mov (.t 10), none⟩])
          (.seq (.reg [⟨some 11, .mov (.t 1), none⟩,
              ⟨some 12, .mov (.t 0), none⟩,
              ⟨some 13, .mov (.t 5), none⟩,
              ⟨some 14, .iaddr 1 (.t 12) (.t 13), none⟩,
              ⟨some 15, .load 1 false (.t 14), none⟩,
              ⟨some 16, .bin .eql (.t 11) (.t 15), none⟩])
           (.cond (.t 16)
            (.seq (.reg [⟨some 17, .mov (.t 5), none⟩,
                ⟨some 4, .mov (.t 17), none⟩])
             (.ret))
            (.skip)))))
        (.reg [⟨some 18, .bin .add (.t 8) (.k (.int .i64 1)), none⟩,
           ⟨some 8, .mov (.t 18), none⟩])))))))
  (.seq (.reg [⟨some 4, .mov (.k (.int .i64 (-1))), none⟩])
   (.ret)))⟩
theorem fok_slices_Index_string_string : FOk Try.prog 80 code_slices_Index_string_string := fok Try.func80 (by kernel_rfl)
def code_slices_Contains_string_string : F := ⟨9, [.tmp 4],
 .seq (.reg [⟨some 4, .mov (.k (.bool false)), none⟩])
 (.seq (.reg [⟨some 5, .mov (.t 0), none⟩,
     ⟨some 6, .mov (.t 1), none⟩,
     ⟨some 7, .call 80 [(.t 5), (.t 6)], none⟩,
     ⟨some 8, .bin .geq (.t 7) (.k (.int .i64 0)), none⟩,
     ⟨some 4, .mov (.t 8), none⟩])
  (.ret))⟩
theorem fok_slices_Contains_string_string : FOk Try.prog 76 code_slices_Contains_string_string := fok Try.func76 (by kernel_rfl)
def code_impl_IndexOf : F := ⟨8, [.tmp 4],
 .seq (.reg [⟨some 4, .mov (.k (.int .i64 0)), none⟩])
 (.seq (.reg [⟨some 5, .mov (.t 0), none⟩,
     ⟨some 6, .mov (.t 1), none⟩,
     ⟨some 7, .call 80 [(.t 5), (.t 6)], none⟩,
     ⟨some 4, .mov (.t 7), none⟩])
  (.ret))⟩
theorem fok_impl_IndexOf : FOk Try.prog 37 code_impl_IndexOf := fok Try.func37 (by kernel_rfl)
def code_spec_AreVars : F := ⟨29, [.tmp 2],
 .seq (.reg [⟨some 2, .mov (.k (.bool false)), none⟩])
 (.seq (.seq (.reg [⟨some 3, .mov (.k (.int .i64 0)), none⟩])
   (.block 0 (.loop (.seq (.seq (.reg [⟨some 4, .mov (.t 3), none⟩,
          ⟨some 5, .mov (.t 0), none⟩,
          ⟨some 6, .len (.t 5), none⟩,
          ⟨some 7, .bin .lss (.t 4) (.t 6), none⟩])
       (.cond (.t 7)
        (.skip)
        (.exit 0)))
      (.seq (.block 1 (.seq (.reg [⟨some 10, .mov (.t 0), none⟩,
            ⟨some 11, .mov (.t 3), none⟩,
            ⟨some 12, .iaddr 1 (.t 10) (.t 11), none⟩,
            ⟨some 13, .load 1 false (.t 12), none⟩,
            ⟨some 14, .call 98 [(.t 13)], none⟩,
            ⟨some 15, .not (.t 14), none⟩,
            ⟨some 16, .mov (.t 15), none⟩,
            ⟨some 17, .mov (.t 0), some (16, false)⟩,
            ⟨some 18, .mov (.t 0), some (16, false)⟩,
            ⟨some 19, .mov (.t 3), some (16, false)⟩,
            ⟨some 20, .iaddr 1 (.t 18) (.t 19), some (16, false)⟩,
            ⟨some 21, .load 1 false (.t 20), some (16, false)⟩,
            ⟨some 22, .call 50 [(.t 17), (.t 21)], some (16, false)⟩,
            ⟨some 23, .mov (.t 3), some (16, false)⟩,
            ⟨some 24, .bin .neq (.t 22) (.t 23), some (16, false)⟩,
            ⟨some 25, .pick (.t 16) (.k (.bool true)) (.t 24), none⟩])
         (.cond (.t 25)
          (.seq (.reg [⟨some 2, .mov (.k (.bool false)), none⟩])
           (.ret))
          (.skip))))
       (.reg [⟨some 8, .mov (.t 3), none⟩,
          ⟨some 9, .bin .add (.t 8) (.k (.int .i64 1)), none⟩,
          ⟨some 3, .mov (.t 9), none⟩]))))))
  (.seq (.reg [⟨some 26, .mov (.t 0), none⟩,
      ⟨some 27, .len (.t 26), none⟩,
      ⟨some 28, .call 61 [(.t 27), (.k (.int .i64 1)), (.k (.int .i64 4))], none⟩,
      ⟨some 2, .mov (.t 28), none⟩])
   (.ret)))⟩
theorem fok_spec_AreVars : FOk Try.prog 86 code_spec_AreVars := fok Try.func86 (by kernel_rfl)
def code_impl_AreVars : F := ⟨26, [.tmp 2],
 .seq (.reg [⟨some 2, .mov (.k (.bool false)), none⟩])
 (.seq (.seq (.reg [⟨some 5, .mov (.t 0), none⟩,
      ⟨some 6, .len (.t 5), none⟩,
      ⟨some 7, .mov (.k (.int .i64 0)), none⟩])
   (.block 0 (.loop (.seq (.reg [⟨some 8, .bin .lss (.t 7) (.t 6), none⟩])
      (.seq (.cond (.t 8)
        (.skip)
        (.exit 0))
       (.seq (.block 1 (.seq (.reg [⟨some 9, .mov (.t 7), none⟩,
             ⟨some 10, .iaddr 1 (.t 5) (.t 7), none⟩,
             ⟨some 11, .load 1 false (.t 10), none⟩,
             ⟨some 3, .mov (.t 9), none⟩,
             ⟨some 4, .mov (.t 11), none⟩])
          (.seq (.reg [⟨some 12, .mov (.t 4), none⟩,
              ⟨some 13, .call 92 [(.t 12)], none⟩,
              ⟨some 14, .not (.t 13), none⟩,
              ⟨some 15, .mov (.t 14), none⟩,
              ⟨some 16, .mov (.t 0), some (15, false)⟩,
              ⟨some 17, .mov (.t 4), some (15, false)⟩,
              ⟨some 18, .call 37 [(.t 16), (.t 17)], some (15, false)⟩,
              ⟨some 19, .mov (.t 3), some (15, false)⟩,
              ⟨some 20, .bin .neq (.t 18) (.t 19), some (15, false)⟩,
              ⟨some 21, .pick (.t 15) (.k (.bool true)) (.t 20), none⟩])
           (.cond (.t 21)
            (.seq (.reg [⟨some 2, .mov (.k (.bool false)), none⟩])
             (.ret))
            (.skip)))))
        (.reg [⟨some 22, .bin .add (.t 7) (.k (.int .i64 1)), none⟩,
           ⟨some 7, .mov (.t 22), none⟩])))))))
  (.seq (.reg [⟨some 23, .mov (.t 0), none⟩,
      ⟨some 24, .len (.t 23), none⟩,
      ⟨some 25, .call 60 [(.t 24), (.k (.int .i64 1)), (.k (.int .i64 4))], none⟩,
      ⟨some 2, .mov (.t 25), none⟩])
   (.ret)))⟩
theorem fok_impl_AreVars : FOk Try.prog 73 code_impl_AreVars := fok Try.func73 (by kernel_rfl)
def code_spec_NamesOf : F := ⟨19, [.tmp 2],
 .seq (.reg [⟨some 2, .mov (.k (.int .i64 0)), none⟩])
 (.seq (.seq (.reg [⟨some 3, .mov (.t 0), none⟩])
   (.block 0 (.seq (.reg [⟨some 5, .bin .eql (.t 3) (.k (.int .i64 1)), none⟩,
        ⟨some 4, .mov (.t 5), none⟩])
     (.cond (.t 4)
      (.seq (.reg [⟨some 2, .mov (.k (.int .i64 0)), none⟩])
       (.ret))
      (.seq (.seq (.reg [⟨some 7, .bin .eql (.t 3) (.k (.int .i64 2)), none⟩,
           ⟨some 6, .mov (.t 7), none⟩])
        (.cond (.t 6)
         (.skip)
         (.seq (.reg [⟨some 8, .bin .eql (.t 3) (.k (.int .i64 3)), none⟩,
             ⟨some 6, .mov (.t 8), none⟩])
          (.cond (.t 6)
           (.skip)
           (.seq (.reg [⟨some 9, .bin .eql (.t 3) (.k (.int .i64 6)), none⟩,
               ⟨some 6, .mov (.t 9), none⟩])
            (.cond (.t 6)
             (.skip)
             (.seq (.reg [⟨some 10, .bin .eql (.t 3) (.k (.int .i64 8)), none⟩,
                 ⟨some 6, .mov (.t 10), none⟩])
              (.cond (.t 6)
               (.skip)
               (.seq (.reg [⟨some 11, .bin .eql (.t 3) (.k (.int .i64 9)), none⟩,
                   ⟨some 6, .mov (.t 11), none⟩])
                (.cond (.t 6)
                 (.skip)
                 (.reg [⟨some 12, .bin .eql (.t 3) (.k (.int .i64 10)), none⟩,
                    ⟨some 6, .mov (.t 12), none⟩])))))))))))
       (.cond (.t 6)
        (.seq (.reg [⟨some 2, .mov (.k (.int .i64 1)), none⟩])
         (.ret))
        (.seq (.seq (.reg [⟨some 14, .bin .eql (.t 3) (.k (.int .i64 4)), none⟩,
             ⟨some 13, .mov (.t 14), none⟩])
          (.cond (.t 13)
           (.skip)
           (.seq (.reg [⟨some 15, .bin .eql (.t 3) (.k (.int .i64 5)), none⟩,
               ⟨some 13, .mov (.t 15), none⟩])
            (.cond (.t 13)
             (.skip)
             (.seq (.reg [⟨some 16, .bin .eql (.t 3) (.k (.int .i64 7)), none⟩,
                 ⟨some 13, .mov (.t 16), none⟩])
              (.cond (.t 13)
               (.skip)
               (.seq (.reg [⟨some 17, .bin .eql (.t 3) (.k (.int .i64 11)), none⟩,
                   ⟨some 13, .mov (.t 17), none⟩])
                (.cond (.t 13)
                 (.skip)
                 (.reg [⟨some 18, .bin .eql (.t 3) (.k (.int .i64 12)), none⟩,
                    ⟨some 13, .mov (.t 18), none⟩])))))))))
         (.cond (.t 13)
          (.seq (.reg [⟨some 2, .mov (.k (.int .i64 2)), none⟩])
           (.ret))
          (.skip)))))))))
  (.seq (.reg [⟨some 2, .mov (.k (.int .i64 (-1))), none⟩])
   (.ret)))⟩
theorem fok_spec_NamesOf : FOk Try.prog 71 code_spec_NamesOf := fok Try.func71 (by kernel_rfl)
def code_impl_NamesOf : F := ⟨11, [.tmp 2],
 .seq (.reg [⟨some 2, .mov (.k (.int .i64 0)), none⟩])
 (.seq (.seq (.reg [⟨some 3, .mov (.t 0), none⟩,
      ⟨some 4, .call 60 [(.t 3), (.k (.int .i64 1)), (.k (.int .i64 12))], none⟩,
      ⟨some 5, .not (.t 4), none⟩])
   (.cond (.t 5)
    (.seq (.reg [⟨some 2, .mov (.k (.int .i64 (-1))), none⟩])
     (.ret))
    (.skip)))
  (.seq (.reg [⟨some 6, .bsl 3 1 12 (.int .i64 0) [(0, (.k (.int .i64 0))), (1, (.k (.int .i64 1))), (2, (.k (.int .i64 1))), (3, (.k (.int .i64 2))), (4, (.k (.int .i64 2))), (5, (.k (.int .i64 1))), (6, (.k (.int .i64 2))), (7, (.k (.int .i64 1))), (8, (.k (.int .i64 1))), (9, (.k (.int .i64 1))), (10, (.k (.int .i64 2))), (11, (.k (.int .i64 2)))], none⟩,
      ⟨some 7, .mov (.t 0), none⟩,
      ⟨some 8, .bin .sub (.t 7) (.k (.int .i64 1)), none⟩,
      ⟨some 9, .iaddr 1 (.t 6) (.t 8), none⟩,
      ⟨some 10, .load 1 false (.t 9), none⟩,
      ⟨some 2, .mov (.t 10), none⟩])
   (.ret)))⟩
theorem fok_impl_NamesOf : FOk Try.prog 93 code_impl_NamesOf := fok Try.func93 (by kernel_rfl)
def code_impl_Stmt_hasNames : F := ⟨43, [.tmp 4],
 .seq (.reg [⟨some 2, .box (.t 0), none⟩,
    ⟨some 4, .mov (.k (.bool false)), none⟩])
 (.seq (.reg [⟨some 8, .faddr 0 (.t 2), none⟩,
     ⟨some 9, .load 1 false (.t 8), none⟩,
     ⟨some 10, .call 93 [(.t 9)], none⟩,
     ⟨some 5, .mov (.t 10), none⟩])
  (.seq (.seq (.reg [⟨some 11, .faddr 1 (.t 2), none⟩,
       ⟨some 12, .load 1 false (.t 11), none⟩,
       ⟨some 13, .faddr 2 (.t 2), none⟩,
       ⟨some 14, .load 1 false (.t 13), none⟩,
       ⟨some 15, .bsl 9 1 2 (.str []) [(0, (.t 12)), (1, (.t 14))], none⟩,
       ⟨some 16, .len (.t 15), none⟩,
       ⟨some 17, .mov (.k (.int .i64 0)), none⟩])
    (.block 0 (.loop (.seq (.reg [⟨some 18, .bin .lss (.t 17) (.t 16), none⟩])
       (.seq (.cond (.t 18)
         (.skip)
         (.exit 0))
        (.seq (.block 1 (.seq (.reg [⟨some 19, .mov (.t 17), none⟩,
              ⟨some 20, .iaddr 1 (.t 15) (.t 17), none⟩,
              ⟨some 21, .load 1 false (.t 20), none⟩,
              ⟨some 6, .mov (.t 19), none⟩,
              ⟨some 7, .mov (.t 21), none⟩])
           (.seq (.reg [⟨some 22, .mov (.t 6), none⟩,
               ⟨some 23, .mov (.t 5), none⟩,
               ⟨some 24, .bin .lss (.t 22) (.t 23), none⟩,
               ⟨some 25, .mov (.t 24), none⟩,
               ⟨some 26, .mov (.t 1), some (25, true)⟩,
               ⟨some 27, .mov (.t 7), some (25, true)⟩,
               ⟨some 28, .callv (.t 26) [(.t 27)], some (25, true)⟩,
               ⟨some 29, .not (.t 28), some (25, true)⟩,
               ⟨some 30, .pick (.t 25) (.t 29) (.k (.bool false)), none⟩,
               ⟨some 31, .mov (.t 30), none⟩,
               ⟨some 32, .mov (.t 6), some (31, false)⟩,
               ⟨some 33, .mov (.t 5), some (31, false)⟩,
               ⟨some 34, .bin .geq (.t 32) (.t 33), some (31, false)⟩,
               ⟨some 35, .mov (.t 34), some (31, false)⟩,
               ⟨some 36, .mov (.t 7), some (35, true)⟩,
               ⟨some 37, .bin .neq (.t 36) (.k (.str [])), some (35, true)⟩,
               ⟨some 38, .pick (.t 35) (.t 37) (.k (.bool false)), some (31, false)⟩,
               ⟨some 39, .pick (.t 31) (.k (.bool true)) (.t 38), none⟩])
            (.cond (.t 39)
             (.seq (.reg [⟨some 4, .mov (.k (.bool false)), none⟩])
              (.ret))
             (.skip)))))
         (.reg [⟨some 40, .bin .add (.t 17) (.k (.int .i64 1)), none⟩,
            ⟨some 17, .mov (.t 40), none⟩])))))))
   (.seq (.reg [⟨some 41, .mov (.t 5), none⟩,
       ⟨some 42, .bin .geq (.t 41) (.k (.int .i64 0)), none⟩,
       ⟨some 4, .mov (.t 42), none⟩])
    (.ret))))⟩
theorem fok_impl_Stmt_hasNames : FOk Try.prog 74 code_impl_Stmt_hasNames := fok Try.func74 (by kernel_rfl)
def code_impl_IsStmt_1 : F := ⟨7, [.tmp 3],
 .seq (.reg [⟨some 3, .mov (.k (.bool false)), none⟩])
 (.seq (.reg [⟨some 4, .load 1 false (.t 1), none⟩,
     ⟨some 5, .mov (.t 0), none⟩,
     ⟨some 6, .call 76 [(.t 4), (.t 5)], none⟩,
     ⟨some 3, .mov (.t 6), none⟩])
  (.ret))⟩
theorem fok_impl_IsStmt_1 : FOk Try.prog 75 code_impl_IsStmt_1 := fok Try.func75 (by kernel_rfl)
def code_impl_IsStmt : F := ⟨12, [.tmp 4],
 .seq (.reg [⟨some 2, .box (.t 0), none⟩,
    ⟨some 3, .box (.t 1), none⟩,
    ⟨some 4, .mov (.k (.bool false)), none⟩])
 (.seq (.reg [⟨some 5, .load 1 false (.t 2), none⟩,
     ⟨some 6, .call 73 [(.t 5)], none⟩,
     ⟨some 7, .mov (.t 6), none⟩,
     ⟨some 8, .load 3 true (.t 3), some (7, true)⟩,
     ⟨some 9, .mkfn 75 [(.t 2)], some (7, true)⟩,
     ⟨some 10, .call 74 [(.t 8), (.t 9)], some (7, true)⟩,
     ⟨some 11, .pick (.t 7) (.t 10) (.k (.bool false)), none⟩,
     ⟨some 4, .mov (.t 11), none⟩])
  (.ret))⟩
theorem fok_impl_IsStmt : FOk Try.prog 35 code_impl_IsStmt := fok Try.func35 (by kernel_rfl)
def code_spec_IsStmt : F := ⟨54, [.tmp 4],
 .seq (.reg [⟨some 3, .box (.t 1), none⟩,
    ⟨some 4, .mov (.k (.bool false)), none⟩])
 (.seq (.reg [⟨some 6, .faddr 0 (.t 3), none⟩,
     ⟨some 7, .load 1 false (.t 6), none⟩,
     ⟨some 8, .call 71 [(.t 7)], none⟩,
     ⟨some 5, .mov (.t 8), none⟩])
  (.seq (.seq (.reg [⟨some 9, .mov (.t 0), none⟩,
       ⟨some 10, .call 86 [(.t 9)], none⟩,
       ⟨some 11, .not (.t 10), none⟩,
       ⟨some 12, .mov (.t 11), none⟩,
       ⟨some 13, .mov (.t 5), some (12, false)⟩,
       ⟨some 14, .bin .lss (.t 13) (.k (.int .i64 0)), some (12, false)⟩,
       ⟨some 15, .pick (.t 12) (.k (.bool true)) (.t 14), none⟩,
       ⟨some 16, .mov (.t 15), none⟩,
       ⟨some 17, .mov (.t 5), some (16, false)⟩,
       ⟨some 18, .bin .lss (.t 17) (.k (.int .i64 1)), some (16, false)⟩,
       ⟨some 19, .mov (.t 18), some (16, false)⟩,
       ⟨some 20, .faddr 1 (.t 3), some (19, true)⟩,
       ⟨some 21, .load 1 false (.t 20), some (19, true)⟩,
       ⟨some 22, .bin .neq (.t 21) (.k (.str [])), some (19, true)⟩,
       ⟨some 23, .pick (.t 19) (.t 22) (.k (.bool false)), some (16, false)⟩,
       ⟨some 24, .pick (.t 16) (.k (.bool true)) (.t 23), none⟩,
       ⟨some 25, .mov (.t 24), none⟩,
       ⟨some 26, .mov (.t 5), some (25, false)⟩,
       ⟨some 27, .bin .lss (.t 26) (.k (.int .i64 2)), some (25, false)⟩,
       ⟨some 28, .mov (.t 27), some (25, false)⟩,
       ⟨some 29, .faddr 2 (.t 3), some (28, true)⟩,
       ⟨some 30, .load 1 false (.t 29), some (28, true)⟩,
       ⟨some 31, .bin .neq (.t 30) (.k (.str [])), some (28, true)⟩,
       ⟨some 32, .pick (.t 28) (.t 31) (.k (.bool false)), some (25, false)⟩,
       ⟨some 33, .pick (.t 25) (.k (.bool true)) (.t 32), none⟩])
    (.cond (.t 33)
     (.seq (.reg [⟨some 4, .mov (.k (.bool false)), none⟩])
      (.ret))
     (.skip)))
   (.seq (.reg [⟨some 34, .mov (.t 5), none⟩,
       ⟨some 35, .bin .lss (.t 34) (.k (.int .i64 1)), none⟩,
       ⟨some 36, .mov (.t 35), none⟩,
       ⟨some 37, .mov (.t 0), some (36, false)⟩,
       ⟨some 38, .faddr 1 (.t 3), some (36, false)⟩,
       ⟨some 39, .load 1 false (.t 38), some (36, false)⟩,
       ⟨some 40, .call 50 [(.t 37), (.t 39)], some (36, false)⟩,
       ⟨some 41, .bin .geq (.t 40) (.k (.int .i64 0)), some (36, false)⟩,
       ⟨some 42, .pick (.t 36) (.k (.bool true)) (.t 41), none⟩,
       ⟨some 43, .mov (.t 42), none⟩,
       ⟨some 44, .mov (.t 5), some (43, true)⟩,
       ⟨some 45, .bin .lss (.t 44) (.k (.int .i64 2)), some (43, true)⟩,
       ⟨some 46, .mov (.t 45), some (43, true)⟩,
       ⟨some 47, .mov (.t 0), some (46, false)⟩,
       ⟨some 48, .faddr 2 (.t 3), some (46, false)⟩,
       ⟨some 49, .load 1 false (.t 48), some (46, false)⟩,
       ⟨some 50, .call 50 [(.t 47), (.t 49)], some (46, false)⟩,
       ⟨some 51, .bin .geq (.t 50) (.k (.int .i64 0)), some (46, false)⟩,
       ⟨some 52, .pick (.t 46) (.k (.bool true)) (.t 51), some (43, true)⟩,
       ⟨some 53, .pick (.t 43) (.t 52) (.k (.bool false)), none⟩,
       ⟨some 4, .mov (.t 53), none⟩])
    (.ret))))⟩
theorem fok_spec_IsStmt : FOk Try.prog 48 code_spec_IsStmt := fok Try.func48 (by kernel_rfl)
def highC (c : UInt8) : Bool := decide ((c.toNat : Int) < 97) || decide ((122 : Int) < (c.toNat : Int))
def nameB (s : List UInt8) : Bool := !s.any highC && (decide ((1 : Int) ≤ (s.length : Int)) && decide ((s.length : Int) ≤ 2))
@[simp] def ct_sIsName : Ct := ⟨98, List UInt8, fun s => s.length ≤ 4611686018427387904, fun s => [.str s], fun s => .bool (nameB s)⟩
set_option maxHeartbeats 1000000 in
theorem ok_sIsName : ct_sIsName.Ok Try.prog := by
  rintro s hs
  change List UInt8 at s
  change s.length ≤ 4611686018427387904 at hs
  refine Ok.of_cw fok_spec_IsName (go_ok (tab_cons ok_l1In tab_nil) ?_)
  simp [code_spec_IsName, List.replicate]
  refine cw_round (fun (i : Nat) => ⟨slots 23 [(0, .str s), (3, .int .i64 i)], []⟩)
    (fun i => i ≤ s.length ∧ noHit highC s i) (fun i => s.length - i) 0 ⟨by omega, noHit_zero⟩ ?_ ?_
  · exact weak_seal 0 (by omega) (by simp) (by simp [List.replicate])
  · rintro N hN i ⟨hi, hn⟩
    have hw : IntKind.i64.wrap ((i : Int) + 1) = ((i + 1 : Nat) : Int) := by rw [wrap_i64] <;> omega
    refine go_ok (tab_cons ok_l1In tab_nil) ?_
    by_cases h : i < s.length
    · have h2 : ¬ s.length ≤ i := by omega
      by_cases c1 : ((s[i].toNat : Nat) : Int) < 97
      · have hf : nameB s = false := by unfold nameB; rw [any_hit h (by simp [highC, c1])]; rfl
        have c1n : ¬ ((97 : Int) ≤ ((s[i].toNat : Nat) : Int)) := by omega
        simp [List.replicate, hw, h, h2, c1, c1n, hf]
      · by_cases c2 : (122 : Int) < ((s[i].toNat : Nat) : Int)
        · have hf : nameB s = false := by unfold nameB; rw [any_hit h (by simp [highC, c2])]; rfl
          have c1n : (97 : Int) ≤ ((s[i].toNat : Nat) : Int) := by omega
          have c2n : ¬ (((s[i].toNat : Nat) : Int) ≤ 122) := by omega
          simp [List.replicate, hw, h, h2, c1, c2, c1n, c2n, hf]
        · have c1n : (97 : Int) ≤ ((s[i].toNat : Nat) : Int) := by omega
          have c2n : ((s[i].toNat : Nat) : Int) ≤ 122 := by omega
          simp [List.replicate, hw, h, h2, c1, c2, c1n, c2n]
          refine hN i (i + 1) _ ⟨by omega, noHit_succ hn h (by simp [highC]; omega)⟩ (by omega) (weak_seal 0 (by omega) ?_ ?_)
          · simp
          · simp [List.replicate]
    · have hf : nameB s = (decide ((1 : Int) ≤ (s.length : Int)) && decide ((s.length : Int) ≤ 2)) := by unfold nameB; rw [any_none hn (by omega)]; rfl
      have h2 : s.length ≤ i := by omega
      simp [List.replicate, h, h2, hf]
@[simp] def ct_pIsName : Ct := ⟨92, List UInt8, fun s => s.length ≤ 4611686018427387904, fun s => [.str s], fun s => .bool (nameB s)⟩
set_option maxHeartbeats 1000000 in
theorem ok_pIsName : ct_pIsName.Ok Try.prog := by
  rintro s hs
  change List UInt8 at s
  change s.length ≤ 4611686018427387904 at hs
  refine Ok.of_cw fok_impl_IsName (go_ok (tab_cons ok_within tab_nil) ?_)
  simp [code_impl_IsName, List.replicate]
  refine cw_round (fun (i : Nat) => ⟨slots 23 [(0, .str s), (5, .int .i64 s.length), (6, .int .i64 i)], []⟩)
    (fun i => i ≤ s.length ∧ noHit highC s i) (fun i => s.length - i) 0 ⟨by omega, noHit_zero⟩ ?_ ?_
  · exact weak_seal 0 (by omega) (by simp) (by simp [List.replicate])
  · rintro N hN i ⟨hi, hn⟩
    have hw : IntKind.i64.wrap ((i : Int) + 1) = ((i + 1 : Nat) : Int) := by rw [wrap_i64] <;> omega
    refine go_ok (tab_cons ok_within tab_nil) ?_
    by_cases h : i < s.length
    · have h2 : ¬ s.length ≤ i := by omega
      by_cases c1 : ((s[i].toNat : Nat) : Int) < 97
      · have hf : nameB s = false := by unfold nameB; rw [any_hit h (by simp [highC, c1])]; rfl
        have c1n : ¬ ((97 : Int) ≤ ((s[i].toNat : Nat) : Int)) := by omega
        simp [List.replicate, hw, h, h2, c1, c1n, hf]
      · by_cases c2 : (122 : Int) < ((s[i].toNat : Nat) : Int)
        · have hf : nameB s = false := by unfold nameB; rw [any_hit h (by simp [highC, c2])]; rfl
          have c1n : (97 : Int) ≤ ((s[i].toNat : Nat) : Int) := by omega
          have c2n : ¬ (((s[i].toNat : Nat) : Int) ≤ 122) := by omega
          simp [List.replicate, hw, h, h2, c1, c2, c1n, c2n, hf]
        · have c1n : (97 : Int) ≤ ((s[i].toNat : Nat) : Int) := by omega
          have c2n : ((s[i].toNat : Nat) : Int) ≤ 122 := by omega
          simp [List.replicate, hw, h, h2, c1, c2, c1n, c2n]
          refine hN i (i + 1) _ ⟨by omega, noHit_succ hn h (by simp [highC]; omega)⟩ (by omega) (weak_seal 0 (by omega) ?_ ?_)
          · simp
          · simp [List.replicate]
    · have hf : nameB s = (decide ((1 : Int) ≤ (s.length : Int)) && decide ((s.length : Int) ≤ 2)) := by unfold nameB; rw [any_none hn (by omega)]; rfl
      have h2 : s.length ≤ i := by omega
      simp [List.replicate, h, h2, hf]
def ixS (list : List (List UInt8)) (s : List UInt8) : Int := findI (fun a => s == a) list
@[simp] def ct_IndexS : Ct := ⟨80, List (List UInt8) × List UInt8, fun _ => True, fun x => [encL 1 encStr x.1, .str x.2], fun x => .int .i64 (ixS x.1 x.2)⟩
theorem ok_IndexS : ct_IndexS.Ok Try.prog := by
  rintro ⟨xs, v⟩ -
  refine Ok.lens fun hl => Ok.of_cw fok_slices_Index_string_string (go_ok tab_nil ?_)
  simp [lensOkL_cons, lensOk_encL] at hl
  simp [code_slices_Index_string_string, List.replicate]
  refine cw_round (fun (p : Nat) => ⟨slots 19 [(0, encL 1 encStr xs), (1, .str v), (7, .int .i64 xs.length), (8, .int .i64 p)], []⟩)
    (fun p => p ≤ xs.length ∧ noHit (fun a => v == a) xs p) (fun p => xs.length - p) 0 ⟨by omega, noHit_zero⟩ ?_ ?_
  · exact weak_seal 0 (by omega) (by simp) (by simp [List.replicate])
  · rintro N hN i ⟨hi, hn⟩
    have hw : i < xs.length → IntKind.i64.wrap ((i : Int) + 1) = ((i + 1 : Nat) : Int) := fun h => by rw [wrap_i64] <;> omega
    refine go_ok tab_nil ?_
    by_cases h : i < xs.length
    · simp [List.replicate, hw, h]
      refine ⟨fun e => ?_, fun e => ?_⟩
      · unfold ixS
        rw [findI_hit hn h (by simp [e])]
      · refine hN _ (i + 1) _ ⟨by omega, noHit_succ hn h (by simp [e])⟩ (by omega) (weak_seal 0 (by omega) ?_ ?_)
        · simp
        · simp [List.replicate]
    · simp [List.replicate, h]
      unfold ixS
      rw [findI_none hn (by omega)]
@[simp] def ct_ContainsS : Ct := ⟨76, List (List UInt8) × List UInt8, fun _ => True, fun x => [encL 1 encStr x.1, .str x.2], fun x => .bool (decide (0 ≤ ixS x.1 x.2))⟩
theorem ok_ContainsS : ct_ContainsS.Ok Try.prog := by
  rintro ⟨xs, v⟩ -
  refine Ok.of_cw fok_slices_Contains_string_string (go_ok (tab_cons ok_IndexS tab_nil) ?_)
  simp [code_slices_Contains_string_string, List.replicate]
@[simp] def ct_pIndexOf : Ct := ⟨37, List (List UInt8) × List UInt8, fun _ => True, fun x => [encL 1 encStr x.1, .str x.2], fun x => .int .i64 (ixS x.1 x.2)⟩
theorem ok_pIndexOf : ct_pIndexOf.Ok Try.prog := by
  rintro ⟨xs, v⟩ -
  refine Ok.of_cw fok_impl_IndexOf (go_ok (tab_cons ok_IndexS tab_nil) ?_)
  simp [code_impl_IndexOf, List.replicate]
@[simp] def ct_sIndexOf : Ct := ⟨50, List (List UInt8) × List UInt8, fun _ => True, fun x => [encL 1 encStr x.1, .str x.2], fun x => .int .i64 (ixS x.1 x.2)⟩
theorem ok_sIndexOf : ct_sIndexOf.Ok Try.prog := by
  rintro ⟨xs, v⟩ -
  refine Ok.lens fun hl => Ok.of_cw fok_spec_IndexOf (go_ok tab_nil ?_)
  simp [lensOkL_cons, lensOk_encL] at hl
  simp [code_spec_IndexOf, List.replicate]
  refine cw_round (fun (p : Nat) => ⟨slots 19 [(0, encL 1 encStr xs), (1, .str v), (5, .int .i64 p)], []⟩)
    (fun p => p ≤ xs.length ∧ noHit (fun a => v == a) xs p) (fun p => xs.length - p) 0 ⟨by omega, noHit_zero⟩ ?_ ?_
  · exact weak_seal 0 (by omega) (by simp) (by simp [List.replicate])
  · rintro N hN i ⟨hi, hn⟩
    have hw : i < xs.length → IntKind.i64.wrap ((i : Int) + 1) = ((i + 1 : Nat) : Int) := fun h => by rw [wrap_i64] <;> omega
    refine go_ok tab_nil ?_
    by_cases h : i < xs.length
    · have h2 : ¬ xs.length ≤ i := by omega
      simp [List.replicate, hw, h, h2]
      refine ⟨fun e => ?_, fun e => ?_⟩
      · unfold ixS
        rw [findI_hit hn h (by simp [e])]
      · refine hN _ (i + 1) _ ⟨by omega, noHit_succ hn h (by simp; exact fun q => e q.symm)⟩ (by omega) (weak_seal 0 (by omega) ?_ ?_)
        · simp
        · simp [List.replicate]
    · have h2 : xs.length ≤ i := by omega
      simp [List.replicate, h, h2]
      unfold ixS
      rw [findI_none hn (by omega)]
/-- Which of the elements is no name, or stands there again? -/
def badV (list : List (List UInt8)) (i : Nat) : Bool := !nameB (list.getD i []) || !decide (ixS list (list.getD i []) = (i : Int))
def varsB (list : List (List UInt8)) : Bool := (List.range list.length).all (fun i => !badV list i) && (decide ((1 : Int) ≤ (list.length : Int)) && decide ((list.length : Int) ≤ 4))
def szVarsOk (list : List (List UInt8)) : Prop := list.length ≤ 1048576 ∧ ∀ s ∈ list, s.length ≤ 4611686018427387904
theorem range_bad {p : Nat → Bool} {n i : Nat} (h : i < n) (e : p i = true) : (List.range n).all (fun i => !p i) = false := by
  rw [List.all_eq_false]
  exact ⟨i, by simpa using h, by simp [e]⟩
theorem range_good {p : Nat → Bool} {n : Nat} (h : ∀ j, j < n → p j = false) : (List.range n).all (fun i => !p i) = true := by
  rw [List.all_eq_true]
  intro j hj
  rw [h j (by simpa using hj)]; rfl
@[simp] def ct_sAreVars : Ct := ⟨86, List (List UInt8), szVarsOk, fun x => [encL 1 encStr x], fun x => .bool (varsB x)⟩
set_option maxHeartbeats 1000000 in
theorem ok_sAreVars : ct_sAreVars.Ok Try.prog := by
  rintro xs ⟨hx, hsz⟩
  change List (List UInt8) at xs
  refine Ok.of_cw fok_spec_AreVars (go_ok (tab_cons ok_l1In tab_nil) ?_)
  simp [code_spec_AreVars, List.replicate]
  refine cw_round (fun (i : Nat) => ⟨slots 29 [(0, encL 1 encStr xs), (3, .int .i64 i)], []⟩)
    (fun i => i ≤ xs.length ∧ ∀ j, j < i → badV xs j = false) (fun i => xs.length - i) 0 ⟨by omega, fun j hj => absurd hj (by omega)⟩ ?_ ?_
  · exact weak_seal 0 (by omega) (by simp) (by simp [List.replicate])
  · rintro N hN i ⟨hi, hn⟩
    have hw : IntKind.i64.wrap ((i : Int) + 1) = ((i + 1 : Nat) : Int) := by rw [wrap_i64] <;> omega
    refine go_ok (tab_cons ok_sIsName (tab_cons ok_sIndexOf tab_nil)) ?_
    by_cases h : i < xs.length
    · have h2 : ¬ xs.length ≤ i := by omega
      have hs := hsz xs[i] (List.getElem_mem h)
      have eg : xs.getD i [] = xs[i] := by simp [h]
      have bad : badV xs i = true → varsB xs = false := fun e => by unfold varsB; rw [range_bad h e]; rfl
      cases c1 : nameB xs[i]
      · have hf := bad (by unfold badV; rw [eg, c1]; rfl)
        simp [List.replicate, hw, h, h2, hs, c1, hf]
      · by_cases c2 : ixS xs xs[i] = (i : Int)
        · have hg : badV xs i = false := by unfold badV; rw [eg, c1, decide_eq_true c2]; rfl
          simp [List.replicate, hw, h, h2, hs, c1, c2]
          refine hN i (i + 1) _ ⟨by omega, fun j hj => ?_⟩ (by omega) (weak_seal 0 (by omega) ?_ ?_)
          · by_cases q : j = i
            · subst q; exact hg
            · exact hn j (by omega)
          · simp
          · simp [List.replicate]
        · have hf := bad (by unfold badV; rw [eg, c1, decide_eq_false c2]; rfl)
          simp [List.replicate, hw, h, h2, hs, c1, c2, hf]
    · have h2 : xs.length ≤ i := by omega
      have hf : varsB xs = (decide ((1 : Int) ≤ (xs.length : Int)) && decide ((xs.length : Int) ≤ 4)) := by unfold varsB; rw [range_good fun j hj => hn j (by omega)]; rfl
      simp [List.replicate, h, h2, hf]
@[simp] def ct_pAreVars : Ct := ⟨73, List (List UInt8), szVarsOk, fun x => [encL 1 encStr x], fun x => .bool (varsB x)⟩
set_option maxHeartbeats 1000000 in
theorem ok_pAreVars : ct_pAreVars.Ok Try.prog := by
  rintro xs ⟨hx, hsz⟩
  change List (List UInt8) at xs
  refine Ok.of_cw fok_impl_AreVars (go_ok (tab_cons ok_within tab_nil) ?_)
  simp [code_impl_AreVars, List.replicate]
  refine cw_round (fun (i : Nat) => ⟨slots 26 [(0, encL 1 encStr xs), (5, encL 1 encStr xs), (6, .int .i64 xs.length), (7, .int .i64 i)], []⟩)
    (fun i => i ≤ xs.length ∧ ∀ j, j < i → badV xs j = false) (fun i => xs.length - i) 0 ⟨by omega, fun j hj => absurd hj (by omega)⟩ ?_ ?_
  · exact weak_seal 0 (by omega) (by simp) (by simp [List.replicate])
  · rintro N hN i ⟨hi, hn⟩
    have hw : IntKind.i64.wrap ((i : Int) + 1) = ((i + 1 : Nat) : Int) := by rw [wrap_i64] <;> omega
    refine go_ok (tab_cons ok_pIsName (tab_cons ok_pIndexOf tab_nil)) ?_
    by_cases h : i < xs.length
    · have h2 : ¬ xs.length ≤ i := by omega
      have hs := hsz xs[i] (List.getElem_mem h)
      have eg : xs.getD i [] = xs[i] := by simp [h]
      have bad : badV xs i = true → varsB xs = false := fun e => by unfold varsB; rw [range_bad h e]; rfl
      cases c1 : nameB xs[i]
      · have hf := bad (by unfold badV; rw [eg, c1]; rfl)
        simp [List.replicate, hw, h, h2, hs, c1, hf]
      · by_cases c2 : ixS xs xs[i] = (i : Int)
        · have hg : badV xs i = false := by unfold badV; rw [eg, c1, decide_eq_true c2]; rfl
          simp [List.replicate, hw, h, h2, hs, c1, c2]
          refine hN i (i + 1) _ ⟨by omega, fun j hj => ?_⟩ (by omega) (weak_seal 0 (by omega) ?_ ?_)
          · by_cases q : j = i
            · subst q; exact hg
            · exact hn j (by omega)
          · simp
          · simp [List.replicate]
        · have hf := bad (by unfold badV; rw [eg, c1, decide_eq_false c2]; rfl)
          simp [List.replicate, hw, h, h2, hs, c1, c2, hf]
    · have h2 : xs.length ≤ i := by omega
      have hf : varsB xs = (decide ((1 : Int) ≤ (xs.length : Int)) && decide ((xs.length : Int) ≤ 4)) := by unfold varsB; rw [range_good fun j hj => hn j (by omega)]; rfl
      simp [List.replicate, h, h2, hf]
def namesN (k : Int) : Int := if k = 1 then 0 else if k = 2 ∨ k = 3 ∨ k = 6 ∨ k = 8 ∨ k = 9 ∨ k = 10 then 1 else if k = 4 ∨ k = 5 ∨ k = 7 ∨ k = 11 ∨ k = 12 then 2 else -1
theorem kinds {k : Int} (h : 1 ≤ k ∧ k ≤ 12) : k = 1 ∨ k = 2 ∨ k = 3 ∨ k = 4 ∨ k = 5 ∨ k = 6 ∨ k = 7 ∨ k = 8 ∨ k = 9 ∨ k = 10 ∨ k = 11 ∨ k = 12 := by omega
@[simp] def ct_sNamesOf : Ct := ⟨71, Int, fun _ => True, fun k => [.int .i64 k], fun k => .int .i64 (namesN k)⟩
set_option maxHeartbeats 1000000 in
theorem ok_sNamesOf : ct_sNamesOf.Ok Try.prog := by
  rintro k -
  change Int at k
  refine Ok.of_cw fok_spec_NamesOf (go_ok tab_nil ?_)
  by_cases h : 1 ≤ k ∧ k ≤ 12
  · rcases kinds h with rfl | rfl | rfl | rfl | rfl | rfl | rfl | rfl | rfl | rfl | rfl | rfl <;> simp [code_spec_NamesOf, List.replicate, namesN]
  · have n1 : ¬ k = 1 := by omega
    have n2 : ¬ k = 2 := by omega
    have n3 : ¬ k = 3 := by omega
    have n4 : ¬ k = 4 := by omega
    have n5 : ¬ k = 5 := by omega
    have n6 : ¬ k = 6 := by omega
    have n7 : ¬ k = 7 := by omega
    have n8 : ¬ k = 8 := by omega
    have n9 : ¬ k = 9 := by omega
    have n10 : ¬ k = 10 := by omega
    have n11 : ¬ k = 11 := by omega
    have n12 : ¬ k = 12 := by omega
    simp [code_spec_NamesOf, List.replicate, namesN, n1, n2, n3, n4, n5, n6, n7, n8, n9, n10, n11, n12]
@[simp] def ct_pNamesOf : Ct := ⟨93, Int, fun _ => True, fun k => [.int .i64 k], fun k => .int .i64 (namesN k)⟩
set_option maxHeartbeats 1000000 in
theorem ok_pNamesOf : ct_pNamesOf.Ok Try.prog := by
  rintro k -
  change Int at k
  refine Ok.of_cw fok_impl_NamesOf (go_ok (tab_cons ok_within tab_nil) ?_)
  by_cases h : 1 ≤ k ∧ k ≤ 12
  · rcases kinds h with rfl | rfl | rfl | rfl | rfl | rfl | rfl | rfl | rfl | rfl | rfl | rfl <;> simp [code_impl_NamesOf, List.replicate, namesN]
  · have hf : namesN k = -1 := by unfold namesN; rw [if_neg (by omega), if_neg (by omega), if_neg (by omega)]
    by_cases h1 : 1 ≤ k
    · have h2 : ¬ k ≤ 12 := fun q => h ⟨h1, q⟩
      simp [code_impl_NamesOf, List.replicate, hf, h1, h2]
    · simp [code_impl_NamesOf, List.replicate, hf, h1]
end Go.Vm
