/- The laws of the formulas. No condition. -/
import Derived.Test.YtjkjbiegekbikaaTFL
set_option linter.unusedSimpArgs false
set_option linter.unusedVariables false
namespace Go.Vm
open Go.Proofs
theorem foldF0 (a b c d : Int) : AV.agg [.int .i64 a, .int .i64 b, .int .i64 c, .int .i64 d, .sl .any 0 []] = encFm (.mk a b c d []) := by rw [encFm_eq]; rfl
theorem foldF1 (a b c d : Int) (x : Fm) : AV.agg [.int .i64 a, .int .i64 b, .int .i64 c, .int .i64 d, .sl .any 5 [encFm x]] = encFm (.mk a b c d [x]) := by rw [encFm_eq (.mk a b c d [x])]; rfl
theorem foldF2 (a b c d : Int) (x y : Fm) : AV.agg [.int .i64 a, .int .i64 b, .int .i64 c, .int .i64 d, .sl .any 5 [encFm x, encFm y]] = encFm (.mk a b c d [x, y]) := by rw [encFm_eq (.mk a b c d [x, y])]; rfl
def code_laws_FnExactReachFormula : F := ⟨41, [.tmp 2],
 .seq (.reg [⟨some 2, .mov (.k (.bool false)), none⟩])
 (.seq (.reg [⟨some 8, .mov (.t 0), none⟩,
     ⟨some 9, .call 22 [(.t 8)], none⟩,
     ⟨some 3, .alloc [(.int .i64 0), (.int .i64 0), (.int .i64 0), (.int .i64 0), (.sl .nil 0 [])], none⟩,
     ⟨none, .store 5 (.t 3) (.t 9), none⟩])
  (.seq (.reg [⟨some 10, .mov (.t 0), none⟩,
      ⟨some 11, .call 23 [(.t 10)], none⟩,
      ⟨some 4, .alloc [(.int .i64 0), (.int .i64 0), (.int .i64 0), (.int .i64 0), (.sl .nil 0 [])], none⟩,
      ⟨none, .store 5 (.t 4) (.t 11), none⟩])
   (.seq (.seq (.reg [⟨some 12, .load 5 true (.t 4), none⟩,
        ⟨some 13, .load 5 true (.t 3), none⟩,
        ⟨some 14, .call 19 [(.t 12), (.t 13)], none⟩,
        ⟨some 15, .not (.t 14), none⟩])
     (.cond (.t 15)
      (.seq (.reg [⟨some 2, .mov (.k (.bool false)), none⟩])
       (.ret))
      (.skip)))
    (.seq (.reg [⟨some 5, .mov (.k (.int .i64 1)), none⟩])
     (.seq (.reg [⟨some 16, .load 5 true (.t 4), none⟩,
         ⟨some 17, .mov (.t 5), none⟩,
         ⟨some 18, .call 20 [(.t 16), (.t 17)], none⟩,
         ⟨some 5, .mov (.t 18), none⟩])
      (.seq (.reg [⟨some 6, .mov (.k (.int .i64 1)), none⟩])
       (.seq (.reg [⟨some 19, .load 5 true (.t 4), none⟩,
           ⟨some 20, .mov (.t 6), none⟩,
           ⟨some 21, .call 21 [(.t 19), (.t 20)], none⟩,
           ⟨some 6, .mov (.t 21), none⟩])
        (.seq (.seq (.reg [⟨some 22, .mov (.t 6), none⟩,
             ⟨some 23, .bin .lss (.t 22) (.k (.int .i64 0)), none⟩])
          (.cond (.t 23)
           (.seq (.reg [⟨some 2, .mov (.k (.bool false)), none⟩])
            (.ret))
           (.skip)))
         (.seq (.seq (.reg [⟨some 24, .mov (.t 6), none⟩,
              ⟨some 25, .mov (.t 5), none⟩,
              ⟨some 26, .bin .neq (.t 24) (.t 25), none⟩])
           (.cond (.t 26)
            (.seq (.reg [⟨some 2, .mov (.k (.bool false)), none⟩])
             (.ret))
            (.skip)))
          (.seq (.reg [⟨some 27, .mov (.t 0), none⟩,
              ⟨some 28, .call 23 [(.t 27)], none⟩,
              ⟨some 7, .alloc [(.int .i64 0), (.int .i64 0), (.int .i64 0), (.int .i64 0), (.sl .nil 0 [])], none⟩,
              ⟨none, .store 5 (.t 7) (.t 28), none⟩])
           (.seq (.seq (.reg [⟨some 29, .load 5 true (.t 7), none⟩,
                ⟨some 30, .load 5 true (.t 3), none⟩,
                ⟨some 31, .call 19 [(.t 29), (.t 30)], none⟩,
                ⟨some 32, .not (.t 31), none⟩])
             (.cond (.t 32)
              (.seq (.reg [⟨some 2, .mov (.k (.bool false)), none⟩])
               (.ret))
              (.skip)))
            (.seq (.reg [⟨some 6, .mov (.k (.int .i64 1)), none⟩])
             (.seq (.reg [⟨some 33, .load 5 true (.t 4), none⟩,
                 ⟨some 34, .mov (.t 6), none⟩,
                 ⟨some 35, .call 21 [(.t 33), (.t 34)], none⟩,
                 ⟨some 6, .mov (.t 35), none⟩])
              (.seq (.seq (.reg [⟨some 36, .mov (.t 6), none⟩,
                   ⟨some 37, .bin .lss (.t 36) (.k (.int .i64 0)), none⟩])
                (.cond (.t 37)
                 (.seq (.reg [⟨some 2, .mov (.k (.bool false)), none⟩])
                  (.ret))
                 (.skip)))
               (.seq (.seq (.reg [⟨some 38, .mov (.t 6), none⟩,
                    ⟨some 39, .mov (.t 5), none⟩,
                    ⟨some 40, .bin .neq (.t 38) (.t 39), none⟩])
                 (.cond (.t 40)
                  (.seq (.reg [⟨some 2, .mov (.k (.bool false)), none⟩])
                   (.ret))
                  (.skip)))
                (.seq (.reg [⟨some 2, .mov (.k (.bool true)), none⟩])
                 (.ret)))))))))))))))))⟩
theorem fok_laws_FnExactReachFormula : FOk Try.prog 5 code_laws_FnExactReachFormula := fok Try.func5 (by kernel_rfl)
set_option maxHeartbeats 4000000 in
set_option maxRecDepth 100000 in
theorem ok_lawReachFormula (k : Int) : Ok Try.prog 5 [encInt k] (.bool true) := by
  refine Ok.of_cw fok_laws_FnExactReachFormula (go_ok (tab_h ok_pReach (tab_h ok_mark (tab_cons ok_sReach (tab_cons ok_eqFm (tab_cons ok_held tab_nil))))) ?_)
  simp [code_laws_FnExactReachFormula, List.replicate, r1, r2, mk1, mk2, v1, v2, fA, fin, done1, pReach, reachT, av_nil, av_any, av_row, FV.av_mk, boxF_nil, boxF_any, boxF_row, inF_nil, inF_any, inF_row, markS, markR, rowy, encF0, encF1, encF2, mkF1, mkF2, sizes_cons, sizes_nil, size_mk, heldS, heldF]
  simp only [foldF0, foldF1, foldF2, encFm_iff]
  simp [heldS, heldF, sizes_cons, sizes_nil, size_mk]
def code_laws_FnExactIsUnshared : F := ⟨36, [.tmp 0],
 .seq (.reg [⟨some 0, .mov (.k (.bool false)), none⟩])
 (.seq (.reg [⟨some 6, .call 17 [], none⟩,
     ⟨some 1, .alloc [(.int .i64 0), (.int .i64 0), (.int .i64 0), (.int .i64 0), (.sl .nil 0 [])], none⟩,
     ⟨none, .store 5 (.t 1) (.t 6), none⟩])
  (.seq (.reg [⟨some 7, .call 18 [], none⟩,
      ⟨some 2, .alloc [(.int .i64 0), (.int .i64 0), (.int .i64 0), (.int .i64 0), (.sl .nil 0 [])], none⟩,
      ⟨none, .store 5 (.t 2) (.t 7), none⟩])
   (.seq (.seq (.reg [⟨some 8, .load 5 true (.t 2), none⟩,
        ⟨some 9, .load 5 true (.t 1), none⟩,
        ⟨some 10, .call 19 [(.t 8), (.t 9)], none⟩,
        ⟨some 11, .not (.t 10), none⟩])
     (.cond (.t 11)
      (.seq (.reg [⟨some 0, .mov (.k (.bool false)), none⟩])
       (.ret))
      (.skip)))
    (.seq (.reg [⟨some 3, .mov (.k (.int .i64 1)), none⟩])
     (.seq (.reg [⟨some 12, .load 5 true (.t 2), none⟩,
         ⟨some 13, .mov (.t 3), none⟩,
         ⟨some 14, .call 20 [(.t 12), (.t 13)], none⟩,
         ⟨some 3, .mov (.t 14), none⟩])
      (.seq (.reg [⟨some 4, .mov (.k (.int .i64 1)), none⟩])
       (.seq (.reg [⟨some 15, .load 5 true (.t 2), none⟩,
           ⟨some 16, .mov (.t 4), none⟩,
           ⟨some 17, .call 21 [(.t 15), (.t 16)], none⟩,
           ⟨some 4, .mov (.t 17), none⟩])
        (.seq (.seq (.reg [⟨some 18, .mov (.t 4), none⟩,
             ⟨some 19, .bin .lss (.t 18) (.k (.int .i64 0)), none⟩])
          (.cond (.t 19)
           (.seq (.reg [⟨some 0, .mov (.k (.bool false)), none⟩])
            (.ret))
           (.skip)))
         (.seq (.seq (.reg [⟨some 20, .mov (.t 4), none⟩,
              ⟨some 21, .mov (.t 3), none⟩,
              ⟨some 22, .bin .neq (.t 20) (.t 21), none⟩])
           (.cond (.t 22)
            (.seq (.reg [⟨some 0, .mov (.k (.bool false)), none⟩])
             (.ret))
            (.skip)))
          (.seq (.reg [⟨some 23, .call 18 [], none⟩,
              ⟨some 5, .alloc [(.int .i64 0), (.int .i64 0), (.int .i64 0), (.int .i64 0), (.sl .nil 0 [])], none⟩,
              ⟨none, .store 5 (.t 5) (.t 23), none⟩])
           (.seq (.seq (.reg [⟨some 24, .load 5 true (.t 5), none⟩,
                ⟨some 25, .load 5 true (.t 1), none⟩,
                ⟨some 26, .call 19 [(.t 24), (.t 25)], none⟩,
                ⟨some 27, .not (.t 26), none⟩])
             (.cond (.t 27)
              (.seq (.reg [⟨some 0, .mov (.k (.bool false)), none⟩])
               (.ret))
              (.skip)))
            (.seq (.reg [⟨some 4, .mov (.k (.int .i64 1)), none⟩])
             (.seq (.reg [⟨some 28, .load 5 true (.t 2), none⟩,
                 ⟨some 29, .mov (.t 4), none⟩,
                 ⟨some 30, .call 21 [(.t 28), (.t 29)], none⟩,
                 ⟨some 4, .mov (.t 30), none⟩])
              (.seq (.seq (.reg [⟨some 31, .mov (.t 4), none⟩,
                   ⟨some 32, .bin .lss (.t 31) (.k (.int .i64 0)), none⟩])
                (.cond (.t 32)
                 (.seq (.reg [⟨some 0, .mov (.k (.bool false)), none⟩])
                  (.ret))
                 (.skip)))
               (.seq (.seq (.reg [⟨some 33, .mov (.t 4), none⟩,
                    ⟨some 34, .mov (.t 3), none⟩,
                    ⟨some 35, .bin .neq (.t 33) (.t 34), none⟩])
                 (.cond (.t 35)
                  (.seq (.reg [⟨some 0, .mov (.k (.bool false)), none⟩])
                   (.ret))
                  (.skip)))
                (.seq (.reg [⟨some 0, .mov (.k (.bool true)), none⟩])
                 (.ret)))))))))))))))))⟩
theorem fok_laws_FnExactIsUnshared : FOk Try.prog 4 code_laws_FnExactIsUnshared := fok Try.func4 (by kernel_rfl)
set_option maxHeartbeats 4000000 in
set_option maxRecDepth 100000 in
theorem ok_lawIsUnshared  : Ok Try.prog 4 [] (.bool true) := by
  refine Ok.of_cw fok_laws_FnExactIsUnshared (go_ok (tab_h ok_pUnshared (tab_h ok_mark (tab_cons ok_sUnshared (tab_cons ok_eqFm (tab_cons ok_held tab_nil))))) ?_)
  simp [code_laws_FnExactIsUnshared, List.replicate, r1, r2, mk1, mk2, v1, v2, fA, fin, done1, pUnshared, unsharedT, av_nil, av_any, av_row, FV.av_mk, boxF_nil, boxF_any, boxF_row, inF_nil, inF_any, inF_row, markS, markR, rowy, encF0, encF1, encF2, mkF1, mkF2, sizes_cons, sizes_nil, size_mk, heldS, heldF]
  simp only [foldF0, foldF1, foldF2, encFm_iff]
  simp [heldS, heldF, sizes_cons, sizes_nil, size_mk]
def code_laws_FnExactSeparateFormula : F := ⟨46, [.tmp 4],
 .seq (.reg [⟨some 4, .mov (.k (.bool false)), none⟩])
 (.seq (.reg [⟨some 10, .mov (.t 0), none⟩,
     ⟨some 11, .mov (.t 1), none⟩,
     ⟨some 12, .call 24 [(.t 10), (.t 11)], none⟩,
     ⟨some 5, .alloc [(.int .i64 0), (.int .i64 0), (.int .i64 0), (.int .i64 0), (.sl .nil 0 [])], none⟩,
     ⟨none, .store 5 (.t 5) (.t 12), none⟩])
  (.seq (.reg [⟨some 13, .mov (.t 0), none⟩,
      ⟨some 14, .mov (.t 1), none⟩,
      ⟨some 15, .call 25 [(.t 13), (.t 14)], none⟩,
      ⟨some 6, .alloc [(.int .i64 0), (.int .i64 0), (.int .i64 0), (.int .i64 0), (.sl .nil 0 [])], none⟩,
      ⟨none, .store 5 (.t 6) (.t 15), none⟩])
   (.seq (.seq (.reg [⟨some 16, .load 5 true (.t 6), none⟩,
        ⟨some 17, .load 5 true (.t 5), none⟩,
        ⟨some 18, .call 19 [(.t 16), (.t 17)], none⟩,
        ⟨some 19, .not (.t 18), none⟩])
     (.cond (.t 19)
      (.seq (.reg [⟨some 4, .mov (.k (.bool false)), none⟩])
       (.ret))
      (.skip)))
    (.seq (.reg [⟨some 7, .mov (.k (.int .i64 1)), none⟩])
     (.seq (.reg [⟨some 20, .load 5 true (.t 6), none⟩,
         ⟨some 21, .mov (.t 7), none⟩,
         ⟨some 22, .call 20 [(.t 20), (.t 21)], none⟩,
         ⟨some 7, .mov (.t 22), none⟩])
      (.seq (.reg [⟨some 8, .mov (.k (.int .i64 1)), none⟩])
       (.seq (.reg [⟨some 23, .load 5 true (.t 6), none⟩,
           ⟨some 24, .mov (.t 8), none⟩,
           ⟨some 25, .call 21 [(.t 23), (.t 24)], none⟩,
           ⟨some 8, .mov (.t 25), none⟩])
        (.seq (.seq (.reg [⟨some 26, .mov (.t 8), none⟩,
             ⟨some 27, .bin .lss (.t 26) (.k (.int .i64 0)), none⟩])
          (.cond (.t 27)
           (.seq (.reg [⟨some 4, .mov (.k (.bool false)), none⟩])
            (.ret))
           (.skip)))
         (.seq (.seq (.reg [⟨some 28, .mov (.t 8), none⟩,
              ⟨some 29, .mov (.t 7), none⟩,
              ⟨some 30, .bin .neq (.t 28) (.t 29), none⟩])
           (.cond (.t 30)
            (.seq (.reg [⟨some 4, .mov (.k (.bool false)), none⟩])
             (.ret))
            (.skip)))
          (.seq (.reg [⟨some 31, .mov (.t 0), none⟩,
              ⟨some 32, .mov (.t 1), none⟩,
              ⟨some 33, .call 25 [(.t 31), (.t 32)], none⟩,
              ⟨some 9, .alloc [(.int .i64 0), (.int .i64 0), (.int .i64 0), (.int .i64 0), (.sl .nil 0 [])], none⟩,
              ⟨none, .store 5 (.t 9) (.t 33), none⟩])
           (.seq (.seq (.reg [⟨some 34, .load 5 true (.t 9), none⟩,
                ⟨some 35, .load 5 true (.t 5), none⟩,
                ⟨some 36, .call 19 [(.t 34), (.t 35)], none⟩,
                ⟨some 37, .not (.t 36), none⟩])
             (.cond (.t 37)
              (.seq (.reg [⟨some 4, .mov (.k (.bool false)), none⟩])
               (.ret))
              (.skip)))
            (.seq (.reg [⟨some 8, .mov (.k (.int .i64 1)), none⟩])
             (.seq (.reg [⟨some 38, .load 5 true (.t 6), none⟩,
                 ⟨some 39, .mov (.t 8), none⟩,
                 ⟨some 40, .call 21 [(.t 38), (.t 39)], none⟩,
                 ⟨some 8, .mov (.t 40), none⟩])
              (.seq (.seq (.reg [⟨some 41, .mov (.t 8), none⟩,
                   ⟨some 42, .bin .lss (.t 41) (.k (.int .i64 0)), none⟩])
                (.cond (.t 42)
                 (.seq (.reg [⟨some 4, .mov (.k (.bool false)), none⟩])
                  (.ret))
                 (.skip)))
               (.seq (.seq (.reg [⟨some 43, .mov (.t 8), none⟩,
                    ⟨some 44, .mov (.t 7), none⟩,
                    ⟨some 45, .bin .neq (.t 43) (.t 44), none⟩])
                 (.cond (.t 45)
                  (.seq (.reg [⟨some 4, .mov (.k (.bool false)), none⟩])
                   (.ret))
                  (.skip)))
                (.seq (.reg [⟨some 4, .mov (.k (.bool true)), none⟩])
                 (.ret)))))))))))))))))⟩
theorem fok_laws_FnExactSeparateFormula : FOk Try.prog 6 code_laws_FnExactSeparateFormula := fok Try.func6 (by kernel_rfl)
set_option maxHeartbeats 4000000 in
set_option maxRecDepth 100000 in
theorem ok_lawSeparateFormula (a b : Int) : Ok Try.prog 6 [encInt a, encInt b] (.bool true) := by
  refine Ok.of_cw fok_laws_FnExactSeparateFormula (go_ok (tab_h ok_pSeparate (tab_h ok_mark (tab_cons ok_sSeparate (tab_cons ok_eqFm (tab_cons ok_held tab_nil))))) ?_)
  simp [code_laws_FnExactSeparateFormula, List.replicate, r1, r2, mk1, mk2, v1, v2, fA, fin, done1, pSeparate, separateT, av_nil, av_any, av_row, FV.av_mk, boxF_nil, boxF_any, boxF_row, inF_nil, inF_any, inF_row, markS, markR, rowy, encF0, encF1, encF2, mkF1, mkF2, sizes_cons, sizes_nil, size_mk, heldS, heldF]
  simp only [foldF0, foldF1, foldF2, encFm_iff]
  simp [heldS, heldF, sizes_cons, sizes_nil, size_mk]
def code_laws_FnExactListFormula : F := ⟨41, [.tmp 2],
 .seq (.reg [⟨some 2, .mov (.k (.bool false)), none⟩])
 (.seq (.reg [⟨some 8, .mov (.t 0), none⟩,
     ⟨some 9, .call 26 [(.t 8)], none⟩,
     ⟨some 3, .alloc [(.int .i64 0), (.int .i64 0), (.int .i64 0), (.int .i64 0), (.sl .nil 0 [])], none⟩,
     ⟨none, .store 5 (.t 3) (.t 9), none⟩])
  (.seq (.reg [⟨some 10, .mov (.t 0), none⟩,
      ⟨some 11, .call 27 [(.t 10)], none⟩,
      ⟨some 4, .alloc [(.int .i64 0), (.int .i64 0), (.int .i64 0), (.int .i64 0), (.sl .nil 0 [])], none⟩,
      ⟨none, .store 5 (.t 4) (.t 11), none⟩])
   (.seq (.seq (.reg [⟨some 12, .load 5 true (.t 4), none⟩,
        ⟨some 13, .load 5 true (.t 3), none⟩,
        ⟨some 14, .call 19 [(.t 12), (.t 13)], none⟩,
        ⟨some 15, .not (.t 14), none⟩])
     (.cond (.t 15)
      (.seq (.reg [⟨some 2, .mov (.k (.bool false)), none⟩])
       (.ret))
      (.skip)))
    (.seq (.reg [⟨some 5, .mov (.k (.int .i64 1)), none⟩])
     (.seq (.reg [⟨some 16, .load 5 true (.t 4), none⟩,
         ⟨some 17, .mov (.t 5), none⟩,
         ⟨some 18, .call 20 [(.t 16), (.t 17)], none⟩,
         ⟨some 5, .mov (.t 18), none⟩])
      (.seq (.reg [⟨some 6, .mov (.k (.int .i64 1)), none⟩])
       (.seq (.reg [⟨some 19, .load 5 true (.t 4), none⟩,
           ⟨some 20, .mov (.t 6), none⟩,
           ⟨some 21, .call 21 [(.t 19), (.t 20)], none⟩,
           ⟨some 6, .mov (.t 21), none⟩])
        (.seq (.seq (.reg [⟨some 22, .mov (.t 6), none⟩,
             ⟨some 23, .bin .lss (.t 22) (.k (.int .i64 0)), none⟩])
          (.cond (.t 23)
           (.seq (.reg [⟨some 2, .mov (.k (.bool false)), none⟩])
            (.ret))
           (.skip)))
         (.seq (.seq (.reg [⟨some 24, .mov (.t 6), none⟩,
              ⟨some 25, .mov (.t 5), none⟩,
              ⟨some 26, .bin .neq (.t 24) (.t 25), none⟩])
           (.cond (.t 26)
            (.seq (.reg [⟨some 2, .mov (.k (.bool false)), none⟩])
             (.ret))
            (.skip)))
          (.seq (.reg [⟨some 27, .mov (.t 0), none⟩,
              ⟨some 28, .call 27 [(.t 27)], none⟩,
              ⟨some 7, .alloc [(.int .i64 0), (.int .i64 0), (.int .i64 0), (.int .i64 0), (.sl .nil 0 [])], none⟩,
              ⟨none, .store 5 (.t 7) (.t 28), none⟩])
           (.seq (.seq (.reg [⟨some 29, .load 5 true (.t 7), none⟩,
                ⟨some 30, .load 5 true (.t 3), none⟩,
                ⟨some 31, .call 19 [(.t 29), (.t 30)], none⟩,
                ⟨some 32, .not (.t 31), none⟩])
             (.cond (.t 32)
              (.seq (.reg [⟨some 2, .mov (.k (.bool false)), none⟩])
               (.ret))
              (.skip)))
            (.seq (.reg [⟨some 6, .mov (.k (.int .i64 1)), none⟩])
             (.seq (.reg [⟨some 33, .load 5 true (.t 4), none⟩,
                 ⟨some 34, .mov (.t 6), none⟩,
                 ⟨some 35, .call 21 [(.t 33), (.t 34)], none⟩,
                 ⟨some 6, .mov (.t 35), none⟩])
              (.seq (.seq (.reg [⟨some 36, .mov (.t 6), none⟩,
                   ⟨some 37, .bin .lss (.t 36) (.k (.int .i64 0)), none⟩])
                (.cond (.t 37)
                 (.seq (.reg [⟨some 2, .mov (.k (.bool false)), none⟩])
                  (.ret))
                 (.skip)))
               (.seq (.seq (.reg [⟨some 38, .mov (.t 6), none⟩,
                    ⟨some 39, .mov (.t 5), none⟩,
                    ⟨some 40, .bin .neq (.t 38) (.t 39), none⟩])
                 (.cond (.t 40)
                  (.seq (.reg [⟨some 2, .mov (.k (.bool false)), none⟩])
                   (.ret))
                  (.skip)))
                (.seq (.reg [⟨some 2, .mov (.k (.bool true)), none⟩])
                 (.ret)))))))))))))))))⟩
theorem fok_laws_FnExactListFormula : FOk Try.prog 7 code_laws_FnExactListFormula := fok Try.func7 (by kernel_rfl)
set_option maxHeartbeats 4000000 in
set_option maxRecDepth 100000 in
theorem ok_lawListFormula (a : Int) : Ok Try.prog 7 [encInt a] (.bool true) := by
  refine Ok.of_cw fok_laws_FnExactListFormula (go_ok (tab_h ok_pList (tab_h ok_mark (tab_cons ok_sList (tab_cons ok_eqFm (tab_cons ok_held tab_nil))))) ?_)
  simp [code_laws_FnExactListFormula, List.replicate, r1, r2, mk1, mk2, v1, v2, fA, fin, done1, pList, listT, av_nil, av_any, av_row, FV.av_mk, boxF_nil, boxF_any, boxF_row, inF_nil, inF_any, inF_row, markS, markR, rowy, encF0, encF1, encF2, mkF1, mkF2, sizes_cons, sizes_nil, size_mk, heldS, heldF]
  simp only [foldF0, foldF1, foldF2, encFm_iff]
  simp [heldS, heldF, sizes_cons, sizes_nil, size_mk]
def code_laws_FnExactSharedFormula : F := ⟨36, [.tmp 0],
 .seq (.reg [⟨some 0, .mov (.k (.bool false)), none⟩])
 (.seq (.reg [⟨some 6, .call 28 [], none⟩,
     ⟨some 1, .alloc [(.int .i64 0), (.int .i64 0), (.int .i64 0), (.int .i64 0), (.sl .nil 0 [])], none⟩,
     ⟨none, .store 5 (.t 1) (.t 6), none⟩])
  (.seq (.reg [⟨some 7, .call 29 [], none⟩,
      ⟨some 2, .alloc [(.int .i64 0), (.int .i64 0), (.int .i64 0), (.int .i64 0), (.sl .nil 0 [])], none⟩,
      ⟨none, .store 5 (.t 2) (.t 7), none⟩])
   (.seq (.seq (.reg [⟨some 8, .load 5 true (.t 2), none⟩,
        ⟨some 9, .load 5 true (.t 1), none⟩,
        ⟨some 10, .call 19 [(.t 8), (.t 9)], none⟩,
        ⟨some 11, .not (.t 10), none⟩])
     (.cond (.t 11)
      (.seq (.reg [⟨some 0, .mov (.k (.bool false)), none⟩])
       (.ret))
      (.skip)))
    (.seq (.reg [⟨some 3, .mov (.k (.int .i64 1)), none⟩])
     (.seq (.reg [⟨some 12, .load 5 true (.t 2), none⟩,
         ⟨some 13, .mov (.t 3), none⟩,
         ⟨some 14, .call 20 [(.t 12), (.t 13)], none⟩,
         ⟨some 3, .mov (.t 14), none⟩])
      (.seq (.reg [⟨some 4, .mov (.k (.int .i64 1)), none⟩])
       (.seq (.reg [⟨some 15, .load 5 true (.t 2), none⟩,
           ⟨some 16, .mov (.t 4), none⟩,
           ⟨some 17, .call 21 [(.t 15), (.t 16)], none⟩,
           ⟨some 4, .mov (.t 17), none⟩])
        (.seq (.seq (.reg [⟨some 18, .mov (.t 4), none⟩,
             ⟨some 19, .bin .lss (.t 18) (.k (.int .i64 0)), none⟩])
          (.cond (.t 19)
           (.seq (.reg [⟨some 0, .mov (.k (.bool false)), none⟩])
            (.ret))
           (.skip)))
         (.seq (.seq (.reg [⟨some 20, .mov (.t 4), none⟩,
              ⟨some 21, .mov (.t 3), none⟩,
              ⟨some 22, .bin .neq (.t 20) (.t 21), none⟩])
           (.cond (.t 22)
            (.seq (.reg [⟨some 0, .mov (.k (.bool false)), none⟩])
             (.ret))
            (.skip)))
          (.seq (.reg [⟨some 23, .call 29 [], none⟩,
              ⟨some 5, .alloc [(.int .i64 0), (.int .i64 0), (.int .i64 0), (.int .i64 0), (.sl .nil 0 [])], none⟩,
              ⟨none, .store 5 (.t 5) (.t 23), none⟩])
           (.seq (.seq (.reg [⟨some 24, .load 5 true (.t 5), none⟩,
                ⟨some 25, .load 5 true (.t 1), none⟩,
                ⟨some 26, .call 19 [(.t 24), (.t 25)], none⟩,
                ⟨some 27, .not (.t 26), none⟩])
             (.cond (.t 27)
              (.seq (.reg [⟨some 0, .mov (.k (.bool false)), none⟩])
               (.ret))
              (.skip)))
            (.seq (.reg [⟨some 4, .mov (.k (.int .i64 1)), none⟩])
             (.seq (.reg [⟨some 28, .load 5 true (.t 2), none⟩,
                 ⟨some 29, .mov (.t 4), none⟩,
                 ⟨some 30, .call 21 [(.t 28), (.t 29)], none⟩,
                 ⟨some 4, .mov (.t 30), none⟩])
              (.seq (.seq (.reg [⟨some 31, .mov (.t 4), none⟩,
                   ⟨some 32, .bin .lss (.t 31) (.k (.int .i64 0)), none⟩])
                (.cond (.t 32)
                 (.seq (.reg [⟨some 0, .mov (.k (.bool false)), none⟩])
                  (.ret))
                 (.skip)))
               (.seq (.seq (.reg [⟨some 33, .mov (.t 4), none⟩,
                    ⟨some 34, .mov (.t 3), none⟩,
                    ⟨some 35, .bin .neq (.t 33) (.t 34), none⟩])
                 (.cond (.t 35)
                  (.seq (.reg [⟨some 0, .mov (.k (.bool false)), none⟩])
                   (.ret))
                  (.skip)))
                (.seq (.reg [⟨some 0, .mov (.k (.bool true)), none⟩])
                 (.ret)))))))))))))))))⟩
theorem fok_laws_FnExactSharedFormula : FOk Try.prog 8 code_laws_FnExactSharedFormula := fok Try.func8 (by kernel_rfl)
set_option maxHeartbeats 8000000 in
set_option maxRecDepth 100000 in
theorem ok_lawSharedFormula : Ok Try.prog 8 [] (.bool true) := by
  refine Ok.of_cw fok_laws_FnExactSharedFormula (go_ok (tab_h ok_pShared (tab_h ok_mark (tab_cons ok_sShared (tab_cons ok_eqFm (tab_cons ok_held tab_nil))))) ?_)
  simp (maxSteps := 1000000) [code_laws_FnExactSharedFormula, List.replicate, r1, r2, mk1, mk2, v1, v2, fA, fin, done1, pShared, sharedT, av_nil, av_any, av_row, FV.av_mk, boxF_nil, boxF_any, boxF_row, inF_nil, inF_any, inF_row, markS, markR, rowy, encF0, encF1, encF2, mkF1, mkF2, sizes_cons, sizes_nil, size_mk, heldS, heldF, needs1, isH]
  simp only [foldF0, foldF1, foldF2, encFm_iff]
  simp [heldS, heldF, sizes_cons, sizes_nil, size_mk]
end Go.Vm
