/- impl.PredicateFormula, laid in blocks of its own. No condition. -/
import Derived.Test.YtmakeoekklcbdaaTGT
set_option linter.unusedSimpArgs false
set_option linter.unusedVariables false
namespace Go.Vm
open Go.Proofs
def code_impl_PredicateFormula : F := ⟨53, [.cell 5 true 6],
 .seq (.reg [⟨some 4, .box (.t 1), none⟩,
    ⟨some 6, .alloc [(.int .i64 0), (.int .i64 0), (.int .i64 0), (.int .i64 0), (.sl .nil 0 [])], none⟩])
 (.seq (.reg [⟨some 9, .mov (.t 0), none⟩,
     ⟨some 10, .len (.t 9), none⟩,
     ⟨some 7, .mov (.t 10), none⟩])
  (.seq (.seq (.reg [⟨some 11, .mov (.t 0), none⟩,
       ⟨some 12, .load 3 true (.t 4), none⟩,
       ⟨some 13, .call 98 [(.t 11), (.t 12)], none⟩,
       ⟨some 14, .not (.t 13), none⟩,
       ⟨some 15, .mov (.t 14), none⟩,
       ⟨some 16, .mov (.t 2), some (15, false)⟩,
       ⟨some 17, .mov (.t 7), some (15, false)⟩,
       ⟨some 18, .bin .mul (.k (.int .i64 2)) (.t 17), some (15, false)⟩,
       ⟨some 19, .call 82 [(.t 16), (.k (.int .i64 0)), (.t 18)], some (15, false)⟩,
       ⟨some 20, .not (.t 19), some (15, false)⟩,
       ⟨some 21, .pick (.t 15) (.k (.bool true)) (.t 20), none⟩])
    (.cond (.t 21)
     (.seq (.reg [⟨some 22, .build [(.int .i64 0), (.int .i64 0), (.int .i64 0), (.int .i64 0), (.sl .nil 0 [])] [], none⟩,
         ⟨none, .store 5 (.t 6) (.t 22), none⟩])
      (.ret))
     (.skip)))
   (.seq (.dreg [false, false, false, false, false, false, false, false, false, false, false, false, true] [false, false, false, false, false, true, false, false, false, true, false, false, false] [⟨some 23, .faddr 0 (.t 4), none⟩,
       ⟨some 24, .load 1 false (.t 23), none⟩,
       ⟨some 25, .mov (.t 0), none⟩,
       ⟨some 26, .faddr 1 (.t 4), none⟩,
       ⟨some 27, .load 1 false (.t 26), none⟩,
       ⟨some 28, .call 97 [(.t 25), (.t 27)], none⟩,
       ⟨some 29, .mov (.t 0), none⟩,
       ⟨some 30, .faddr 2 (.t 4), none⟩,
       ⟨some 31, .load 1 false (.t 30), none⟩,
       ⟨some 32, .call 97 [(.t 29), (.t 31)], none⟩,
       ⟨some 33, .build [(.int .i64 0), (.int .i64 0), (.int .i64 0)] [(0, 1, (.t 24)), (1, 1, (.t 28)), (2, 1, (.t 32))], none⟩,
       ⟨some 8, .alloc [(.int .i64 0), (.int .i64 0), (.int .i64 0)], none⟩,
       ⟨none, .store 3 (.t 8) (.t 33), none⟩])
    (.seq (.block 0 (.seq (.reg [⟨some 35, .mov (.t 2), none⟩,
          ⟨some 36, .mov (.t 7), none⟩,
          ⟨some 37, .bin .lss (.t 35) (.t 36), none⟩,
          ⟨some 34, .mov (.t 37), none⟩])
       (.cond (.t 34)
        (.seq (.reg [⟨some 38, .load 3 true (.t 8), none⟩,
            ⟨some 39, .mov (.t 2), none⟩,
            ⟨some 40, .call 112 [(.t 38), (.t 39)], none⟩,
            ⟨none, .store 5 (.t 6) (.t 40), none⟩])
         (.ret))
        (.seq (.reg [⟨some 42, .mov (.t 2), none⟩,
            ⟨some 43, .mov (.t 7), none⟩,
            ⟨some 44, .bin .mul (.k (.int .i64 2)) (.t 43), none⟩,
            ⟨some 45, .bin .lss (.t 42) (.t 44), none⟩,
            ⟨some 41, .mov (.t 45), none⟩])
         (.cond (.t 41)
          (.seq (.reg [⟨some 46, .load 3 true (.t 8), none⟩,
              ⟨some 47, .mov (.t 2), none⟩,
              ⟨some 48, .mov (.t 7), none⟩,
              ⟨some 49, .bin .sub (.t 47) (.t 48), none⟩,
              ⟨some 50, .call 113 [(.t 46), (.t 49)], none⟩,
              ⟨none, .store 5 (.t 6) (.t 50), none⟩])
           (.ret))
          (.skip))))))
     (.seq (.reg [⟨some 51, .load 3 true (.t 8), none⟩,
         ⟨some 52, .call 114 [(.t 51)], none⟩,
         ⟨none, .store 5 (.t 6) (.t 52), none⟩])
      (.ret))))))⟩
theorem fok_impl_PredicateFormula : FOk Try.prog 43 code_impl_PredicateFormula := fok Try.func43 (by kernel_rfl)
set_option maxHeartbeats 8000000
set_option maxRecDepth 100000
theorem made_Pred (vars : List (List UInt8)) (s : Stmt) (k : Int) (hv : szVarsOk vars) : ∃ p, MadeP 43 [encL 1 encStr vars, encStmt s, .int .i64 k] (predF vars s k) p := by
  obtain ⟨kind, a, b⟩ := s
  have hlv := hv.1
  have w1 : IntKind.i64.wrap (2 * (vars.length : Int)) = 2 * vars.length := by rw [wrap_i64] <;> omega
  cases hs : stmtB vars ⟨kind, a, b⟩
  case false =>
    refine ⟨((⟨0, 0, 0, 0, .row 3 0 0 0⟩, [.cells [.int .i64 kind, .str a, .str b], .nrow, .cells [.int .i64 0, .int .i64 0, .int .i64 0, .int .i64 0, .slref 3 0 0 0], .nrow]) : FV × List Blk), OkH.of_cw' fok_impl_PredicateFormula (go_ok (tab_cons ok_pIsStmt (tab_cons ok_pIndexOf (tab_cons ok_within tab_nil))) ?_), ?_, ?_⟩
    · simp [code_impl_PredicateFormula, List.replicate, retH, hv, w1, hs, FV.av_mk, av_row, getHk, getH0, setHk, setH0, needs1, isH]
    · simp [ownB, ownV, ownVL]
    · simp only [predF, hs, if_true, if_false, reduceIte, Bool.false_eq_true, false_and, and_false, and_true, true_and]
      refine ⟨rfl, rfl, rfl, rfl, _, AIn.nil _ rfl⟩
  by_cases h1 : 0 ≤ k
  case neg =>
    refine ⟨((⟨0, 0, 0, 0, .row 3 0 0 0⟩, [.cells [.int .i64 kind, .str a, .str b], .nrow, .cells [.int .i64 0, .int .i64 0, .int .i64 0, .int .i64 0, .slref 3 0 0 0], .nrow]) : FV × List Blk), OkH.of_cw' fok_impl_PredicateFormula (go_ok (tab_cons ok_pIsStmt (tab_cons ok_pIndexOf (tab_cons ok_within tab_nil))) ?_), ?_, ?_⟩
    · simp [code_impl_PredicateFormula, List.replicate, retH, hv, w1, hs, h1, FV.av_mk, av_row, getHk, getH0, setHk, setH0, needs1, isH]
    · simp [ownB, ownV, ownVL]
    · simp only [predF, hs, h1, if_true, if_false, reduceIte, Bool.false_eq_true, false_and, and_false, and_true, true_and]
      refine ⟨rfl, rfl, rfl, rfl, _, AIn.nil _ rfl⟩
  by_cases h2 : k ≤ 2 * (vars.length : Int)
  case neg =>
    refine ⟨((⟨0, 0, 0, 0, .row 3 0 0 0⟩, [.cells [.int .i64 kind, .str a, .str b], .nrow, .cells [.int .i64 0, .int .i64 0, .int .i64 0, .int .i64 0, .slref 3 0 0 0], .nrow]) : FV × List Blk), OkH.of_cw' fok_impl_PredicateFormula (go_ok (tab_cons ok_pIsStmt (tab_cons ok_pIndexOf (tab_cons ok_within tab_nil))) ?_), ?_, ?_⟩
    · simp [code_impl_PredicateFormula, List.replicate, retH, hv, w1, hs, h1, h2, FV.av_mk, av_row, getHk, getH0, setHk, setH0, needs1, isH]
    · simp [ownB, ownV, ownVL]
    · simp only [predF, hs, h1, h2, if_true, if_false, reduceIte, Bool.false_eq_true, false_and, and_false, and_true, true_and]
      refine ⟨rfl, rfl, rfl, rfl, _, AIn.nil _ rfl⟩
  rw [show predF vars ⟨kind, a, b⟩ k = predT vars.length kind (ixS vars a) (ixS vars b) k from by simp [predF, hs, h1, h2]]
  by_cases c1 : k < (vars.length : Int)
  case pos =>
    have g1 : ¬ (vars.length : Int) ≤ k := by omega
    rw [show predT vars.length kind (ixS vars a) (ixS vars b) k = pOnT kind (ixS vars a) (ixS vars b) k from by simp [predT, c1, ]]
    obtain ⟨⟨⟨f1, f2, f3, f4, s⟩, N⟩, hk, hown, e1, e2, e3, e4, R, hA⟩ := made_On kind (ixS vars a) (ixS vars b) k
    simp only at e1 e2 e3 e4 hA hk hown
    have okN : CtN.Ok Try.prog ⟨112, Unit, fun _ => True, fun _ => [.agg [.int .i64 kind, .int .i64 (ixS vars a), .int .i64 (ixS vars b)], .int .i64 k], fun _ => FV.av ⟨f1, f2, f3, f4, s⟩, fun _ => N⟩ := ⟨fun _ _ => hk, fun _ _ => ownV_fv _, fun _ _ => hown⟩
    rcases s with _ | _ | ⟨m, o, l, t⟩
    · cases hA
    · refine ⟨(⟨f1, f2, f3, f4, .any⟩, [.cells [.int .i64 kind, .str a, .str b], .nrow, .cells [.int .i64 f1, .int .i64 f2, .int .i64 f3, .int .i64 f4, (.sl .any 0 [])], .cells [.int .i64 kind, .int .i64 (ixS vars a), .int .i64 (ixS vars b)]] ++ N.map (shB 4)), OkH.of_cw' fok_impl_PredicateFormula (go_ok (tab_h (CtN.hok okN) (tab_cons ok_pIsStmt (tab_cons ok_pIndexOf (tab_cons ok_within tab_nil)))) ?_), ?_, e1, e2, e3, e4, R.map (4 + ·), ?_⟩
      · simp [code_impl_PredicateFormula, List.replicate, retH, hs, hv, w1, h1, h2, c1, g1, FV.av_mk, av_any, av_row, getHk, getH0, setHk, setH0, needs1, isH]
      · intro k hk
        rcases List.mem_append.1 hk with h | h
        · exact (show ∀ k ∈ ([.cells [.int .i64 kind, .str a, .str b], .nrow, .cells [.int .i64 f1, .int .i64 f2, .int .i64 f3, .int .i64 f4, (.sl .any 0 [])], .cells [.int .i64 kind, .int .i64 (ixS vars a), .int .i64 (ixS vars b)]] : List Blk), ownB k = true by simp [ownB, ownV, ownVL]) k h
        · exact own_shB hown k h
      · simpa [PS.av] using hA.sh [.cells [.int .i64 kind, .str a, .str b], .nrow, .cells [.int .i64 f1, .int .i64 f2, .int .i64 f3, .int .i64 f4, (.sl .any 0 [])], .cells [.int .i64 kind, .int .i64 (ixS vars a), .int .i64 (ixS vars b)]]
    · refine ⟨(⟨f1, f2, f3, f4, .row (4 + m) o l t⟩, [.cells [.int .i64 kind, .str a, .str b], .nrow, .cells [.int .i64 f1, .int .i64 f2, .int .i64 f3, .int .i64 f4, .slref (4 + m) o l t], .cells [.int .i64 kind, .int .i64 (ixS vars a), .int .i64 (ixS vars b)]] ++ N.map (shB 4)), OkH.of_cw' fok_impl_PredicateFormula (go_ok (tab_h (CtN.hok okN) (tab_cons ok_pIsStmt (tab_cons ok_pIndexOf (tab_cons ok_within tab_nil)))) ?_), ?_, e1, e2, e3, e4, R.map (4 + ·), ?_⟩
      · simp [code_impl_PredicateFormula, List.replicate, retH, hs, hv, w1, h1, h2, c1, g1, FV.av_mk, av_any, av_row, getHk, getH0, setHk, setH0, needs1, isH]
      · intro k hk
        rcases List.mem_append.1 hk with h | h
        · exact (show ∀ k ∈ ([.cells [.int .i64 kind, .str a, .str b], .nrow, .cells [.int .i64 f1, .int .i64 f2, .int .i64 f3, .int .i64 f4, .slref (4 + m) o l t], .cells [.int .i64 kind, .int .i64 (ixS vars a), .int .i64 (ixS vars b)]] : List Blk), ownB k = true by simp [ownB, ownV, ownVL]) k h
        · exact own_shB hown k h
      · simpa [PS.av] using hA.sh [.cells [.int .i64 kind, .str a, .str b], .nrow, .cells [.int .i64 f1, .int .i64 f2, .int .i64 f3, .int .i64 f4, .slref (4 + m) o l t], .cells [.int .i64 kind, .int .i64 (ixS vars a), .int .i64 (ixS vars b)]]
  have g1 : (vars.length : Int) ≤ k := by omega
  by_cases c2 : k < 2 * (vars.length : Int)
  case pos =>
    have w2 : IntKind.i64.wrap (k - (vars.length : Int)) = k - vars.length := by rw [wrap_i64] <;> omega
    rw [show predT vars.length kind (ixS vars a) (ixS vars b) k = pFromT kind (ixS vars a) (ixS vars b) (k - vars.length) from by simp [predT, c1, c2, w2, ]]
    obtain ⟨⟨⟨f1, f2, f3, f4, s⟩, N⟩, hk, hown, e1, e2, e3, e4, R, hA⟩ := made_From kind (ixS vars a) (ixS vars b) (k - vars.length)
    simp only at e1 e2 e3 e4 hA hk hown
    have okN : CtN.Ok Try.prog ⟨113, Unit, fun _ => True, fun _ => [.agg [.int .i64 kind, .int .i64 (ixS vars a), .int .i64 (ixS vars b)], .int .i64 (k - vars.length)], fun _ => FV.av ⟨f1, f2, f3, f4, s⟩, fun _ => N⟩ := ⟨fun _ _ => hk, fun _ _ => ownV_fv _, fun _ _ => hown⟩
    rcases s with _ | _ | ⟨m, o, l, t⟩
    · cases hA
    · refine ⟨(⟨f1, f2, f3, f4, .any⟩, [.cells [.int .i64 kind, .str a, .str b], .nrow, .cells [.int .i64 f1, .int .i64 f2, .int .i64 f3, .int .i64 f4, (.sl .any 0 [])], .cells [.int .i64 kind, .int .i64 (ixS vars a), .int .i64 (ixS vars b)]] ++ N.map (shB 4)), OkH.of_cw' fok_impl_PredicateFormula (go_ok (tab_h (CtN.hok okN) (tab_cons ok_pIsStmt (tab_cons ok_pIndexOf (tab_cons ok_within tab_nil)))) ?_), ?_, e1, e2, e3, e4, R.map (4 + ·), ?_⟩
      · simp [code_impl_PredicateFormula, List.replicate, retH, hs, hv, w1, h1, h2, c1, c2, w2, g1, FV.av_mk, av_any, av_row, getHk, getH0, setHk, setH0, needs1, isH]
      · intro k hk
        rcases List.mem_append.1 hk with h | h
        · exact (show ∀ k ∈ ([.cells [.int .i64 kind, .str a, .str b], .nrow, .cells [.int .i64 f1, .int .i64 f2, .int .i64 f3, .int .i64 f4, (.sl .any 0 [])], .cells [.int .i64 kind, .int .i64 (ixS vars a), .int .i64 (ixS vars b)]] : List Blk), ownB k = true by simp [ownB, ownV, ownVL]) k h
        · exact own_shB hown k h
      · simpa [PS.av] using hA.sh [.cells [.int .i64 kind, .str a, .str b], .nrow, .cells [.int .i64 f1, .int .i64 f2, .int .i64 f3, .int .i64 f4, (.sl .any 0 [])], .cells [.int .i64 kind, .int .i64 (ixS vars a), .int .i64 (ixS vars b)]]
    · refine ⟨(⟨f1, f2, f3, f4, .row (4 + m) o l t⟩, [.cells [.int .i64 kind, .str a, .str b], .nrow, .cells [.int .i64 f1, .int .i64 f2, .int .i64 f3, .int .i64 f4, .slref (4 + m) o l t], .cells [.int .i64 kind, .int .i64 (ixS vars a), .int .i64 (ixS vars b)]] ++ N.map (shB 4)), OkH.of_cw' fok_impl_PredicateFormula (go_ok (tab_h (CtN.hok okN) (tab_cons ok_pIsStmt (tab_cons ok_pIndexOf (tab_cons ok_within tab_nil)))) ?_), ?_, e1, e2, e3, e4, R.map (4 + ·), ?_⟩
      · simp [code_impl_PredicateFormula, List.replicate, retH, hs, hv, w1, h1, h2, c1, c2, w2, g1, FV.av_mk, av_any, av_row, getHk, getH0, setHk, setH0, needs1, isH]
      · intro k hk
        rcases List.mem_append.1 hk with h | h
        · exact (show ∀ k ∈ ([.cells [.int .i64 kind, .str a, .str b], .nrow, .cells [.int .i64 f1, .int .i64 f2, .int .i64 f3, .int .i64 f4, .slref (4 + m) o l t], .cells [.int .i64 kind, .int .i64 (ixS vars a), .int .i64 (ixS vars b)]] : List Blk), ownB k = true by simp [ownB, ownV, ownVL]) k h
        · exact own_shB hown k h
      · simpa [PS.av] using hA.sh [.cells [.int .i64 kind, .str a, .str b], .nrow, .cells [.int .i64 f1, .int .i64 f2, .int .i64 f3, .int .i64 f4, .slref (4 + m) o l t], .cells [.int .i64 kind, .int .i64 (ixS vars a), .int .i64 (ixS vars b)]]
  have g2 : 2 * (vars.length : Int) ≤ k := by omega
  rw [show predT vars.length kind (ixS vars a) (ixS vars b) k = pSharedT kind (ixS vars a) (ixS vars b) from by simp [predT, c1, c2, ]]
  obtain ⟨⟨⟨f1, f2, f3, f4, s⟩, N⟩, hk, hown, e1, e2, e3, e4, R, hA⟩ := made_Shared kind (ixS vars a) (ixS vars b)
  simp only at e1 e2 e3 e4 hA hk hown
  have okN : CtN.Ok Try.prog ⟨114, Unit, fun _ => True, fun _ => [.agg [.int .i64 kind, .int .i64 (ixS vars a), .int .i64 (ixS vars b)]], fun _ => FV.av ⟨f1, f2, f3, f4, s⟩, fun _ => N⟩ := ⟨fun _ _ => hk, fun _ _ => ownV_fv _, fun _ _ => hown⟩
  rcases s with _ | _ | ⟨m, o, l, t⟩
  · cases hA
  · refine ⟨(⟨f1, f2, f3, f4, .any⟩, [.cells [.int .i64 kind, .str a, .str b], .nrow, .cells [.int .i64 f1, .int .i64 f2, .int .i64 f3, .int .i64 f4, (.sl .any 0 [])], .cells [.int .i64 kind, .int .i64 (ixS vars a), .int .i64 (ixS vars b)]] ++ N.map (shB 4)), OkH.of_cw' fok_impl_PredicateFormula (go_ok (tab_h (CtN.hok okN) (tab_cons ok_pIsStmt (tab_cons ok_pIndexOf (tab_cons ok_within tab_nil)))) ?_), ?_, e1, e2, e3, e4, R.map (4 + ·), ?_⟩
    · simp [code_impl_PredicateFormula, List.replicate, retH, hs, hv, w1, h1, h2, c1, c2, g1, g2, FV.av_mk, av_any, av_row, getHk, getH0, setHk, setH0, needs1, isH]
    · intro k hk
      rcases List.mem_append.1 hk with h | h
      · exact (show ∀ k ∈ ([.cells [.int .i64 kind, .str a, .str b], .nrow, .cells [.int .i64 f1, .int .i64 f2, .int .i64 f3, .int .i64 f4, (.sl .any 0 [])], .cells [.int .i64 kind, .int .i64 (ixS vars a), .int .i64 (ixS vars b)]] : List Blk), ownB k = true by simp [ownB, ownV, ownVL]) k h
      · exact own_shB hown k h
    · simpa [PS.av] using hA.sh [.cells [.int .i64 kind, .str a, .str b], .nrow, .cells [.int .i64 f1, .int .i64 f2, .int .i64 f3, .int .i64 f4, (.sl .any 0 [])], .cells [.int .i64 kind, .int .i64 (ixS vars a), .int .i64 (ixS vars b)]]
  · refine ⟨(⟨f1, f2, f3, f4, .row (4 + m) o l t⟩, [.cells [.int .i64 kind, .str a, .str b], .nrow, .cells [.int .i64 f1, .int .i64 f2, .int .i64 f3, .int .i64 f4, .slref (4 + m) o l t], .cells [.int .i64 kind, .int .i64 (ixS vars a), .int .i64 (ixS vars b)]] ++ N.map (shB 4)), OkH.of_cw' fok_impl_PredicateFormula (go_ok (tab_h (CtN.hok okN) (tab_cons ok_pIsStmt (tab_cons ok_pIndexOf (tab_cons ok_within tab_nil)))) ?_), ?_, e1, e2, e3, e4, R.map (4 + ·), ?_⟩
    · simp [code_impl_PredicateFormula, List.replicate, retH, hs, hv, w1, h1, h2, c1, c2, g1, g2, FV.av_mk, av_any, av_row, getHk, getH0, setHk, setH0, needs1, isH]
    · intro k hk
      rcases List.mem_append.1 hk with h | h
      · exact (show ∀ k ∈ ([.cells [.int .i64 kind, .str a, .str b], .nrow, .cells [.int .i64 f1, .int .i64 f2, .int .i64 f3, .int .i64 f4, .slref (4 + m) o l t], .cells [.int .i64 kind, .int .i64 (ixS vars a), .int .i64 (ixS vars b)]] : List Blk), ownB k = true by simp [ownB, ownV, ownVL]) k h
      · exact own_shB hown k h
    · simpa [PS.av] using hA.sh [.cells [.int .i64 kind, .str a, .str b], .nrow, .cells [.int .i64 f1, .int .i64 f2, .int .i64 f3, .int .i64 f4, .slref (4 + m) o l t], .cells [.int .i64 kind, .int .i64 (ixS vars a), .int .i64 (ixS vars b)]]
end Go.Vm
