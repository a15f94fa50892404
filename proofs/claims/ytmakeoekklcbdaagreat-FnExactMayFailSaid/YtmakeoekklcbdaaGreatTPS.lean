/- Passes: both. No condition. -/
import Derived.Test.YtmakeoekklcbdaaGreatTEH
import Derived.Test.YtmakeoekklcbdaaGreatTEK
import Derived.Test.YtmakeoekklcbdaaGreatTFP
import Derived.Test.YtmakeoekklcbdaaGreatTSU
import Derived.Test.YtmakeoekklcbdaaGreatTSS
set_option linter.unusedSimpArgs false
set_option linter.unusedVariables false
namespace Go.Vm
open Go.Proofs
def code_impl_pointsSome : F := ⟨6, [.cell 5 true 2],
 .seq (.reg [⟨some 2, .alloc [(.int .i64 0), (.int .i64 0), (.int .i64 0), (.int .i64 0), (.sl .nil 0 [])], none⟩])
 (.seq (.reg [⟨some 3, .mov (.t 0), none⟩,
     ⟨some 4, .call 56 [(.t 3), (.k (.int .i64 0))], none⟩,
     ⟨some 5, .call 54 [(.k (.int .i64 0)), (.t 4)], none⟩,
     ⟨none, .store 5 (.t 2) (.t 5), none⟩])
  (.ret))⟩
theorem fok_impl_pointsSome : FOk Tryz.prog 51 code_impl_pointsSome := fok Tryz.func51 (by kernel_rfl)
def code_impl_nullFormula : F := ⟨25, [.cell 5 true 4, .tmp 5],
 .seq (.reg [⟨some 3, .box (.t 1), none⟩,
    ⟨some 4, .alloc [(.int .i64 0), (.int .i64 0), (.int .i64 0), (.int .i64 0), (.sl .nil 0 [])], none⟩,
    ⟨some 5, .mov (.k (.bool false)), none⟩])
 (.seq (.seq (.reg [⟨some 6, .faddr 0 (.t 3), none⟩,
      ⟨some 7, .load 1 false (.t 6), none⟩])
   (.block 0 (.seq (.reg [⟨some 9, .bin .eql (.t 7) (.k (.int .i64 5)), none⟩,
        ⟨some 8, .mov (.t 9), none⟩])
     (.cond (.t 8)
      (.seq (.reg [⟨some 10, .mov (.t 0), none⟩,
          ⟨some 11, .faddr 2 (.t 3), none⟩,
          ⟨some 12, .load 1 false (.t 11), none⟩,
          ⟨some 13, .call 52 [(.t 10), (.t 12)], none⟩,
          ⟨some 14, .call 51 [(.t 13)], none⟩,
          ⟨none, .store 5 (.t 4) (.t 14), none⟩,
          ⟨some 5, .mov (.k (.bool true)), none⟩])
       (.ret))
      (.seq (.seq (.reg [⟨some 16, .bin .eql (.t 7) (.k (.int .i64 6)), none⟩,
           ⟨some 15, .mov (.t 16), none⟩])
        (.cond (.t 15)
         (.skip)
         (.seq (.reg [⟨some 17, .bin .eql (.t 7) (.k (.int .i64 7)), none⟩,
             ⟨some 15, .mov (.t 17), none⟩])
          (.cond (.t 15)
           (.skip)
           (.reg [⟨some 18, .bin .eql (.t 7) (.k (.int .i64 8)), none⟩,
              ⟨some 15, .mov (.t 18), none⟩])))))
       (.cond (.t 15)
        (.seq (.reg [⟨some 19, .mov (.t 0), none⟩,
            ⟨some 20, .faddr 1 (.t 3), none⟩,
            ⟨some 21, .load 1 false (.t 20), none⟩,
            ⟨some 22, .call 52 [(.t 19), (.t 21)], none⟩,
            ⟨some 23, .call 51 [(.t 22)], none⟩,
            ⟨none, .store 5 (.t 4) (.t 23), none⟩,
            ⟨some 5, .mov (.k (.bool true)), none⟩])
         (.ret))
        (.skip)))))))
  (.seq (.reg [⟨some 24, .build [(.int .i64 0), (.int .i64 0), (.int .i64 0), (.int .i64 0), (.sl .nil 0 [])] [], none⟩,
      ⟨none, .store 5 (.t 4) (.t 24), none⟩,
      ⟨some 5, .mov (.k (.bool false)), none⟩])
   (.ret)))⟩
theorem fok_impl_nullFormula : FOk Tryz.prog 29 code_impl_nullFormula := fok Tryz.func29 (by kernel_rfl)
def code_spec_l22Some : F := ⟨6, [.cell 5 true 2],
 .seq (.reg [⟨some 2, .alloc [(.int .i64 0), (.int .i64 0), (.int .i64 0), (.int .i64 0), (.sl .nil 0 [])], none⟩])
 (.seq (.reg [⟨some 3, .mov (.t 0), none⟩,
     ⟨some 4, .call 41 [(.t 3), (.k (.int .i64 0))], none⟩,
     ⟨some 5, .call 40 [(.k (.int .i64 0)), (.t 4)], none⟩,
     ⟨none, .store 5 (.t 2) (.t 5), none⟩])
  (.ret))⟩
theorem fok_spec_l22Some : FOk Tryz.prog 24 code_spec_l22Some := fok Tryz.func24 (by kernel_rfl)
def code_spec_l22Null : F := ⟨21, [.tmp 4],
 .seq (.reg [⟨some 3, .box (.t 1), none⟩,
    ⟨some 4, .mov (.k (.int .i64 0)), none⟩])
 (.seq (.seq (.reg [⟨some 5, .faddr 0 (.t 3), none⟩,
      ⟨some 6, .load 1 false (.t 5), none⟩])
   (.block 0 (.seq (.reg [⟨some 8, .bin .eql (.t 6) (.k (.int .i64 5)), none⟩,
        ⟨some 7, .mov (.t 8), none⟩])
     (.cond (.t 7)
      (.seq (.reg [⟨some 9, .mov (.t 0), none⟩,
          ⟨some 10, .faddr 2 (.t 3), none⟩,
          ⟨some 11, .load 1 false (.t 10), none⟩,
          ⟨some 12, .call 38 [(.t 9), (.t 11)], none⟩,
          ⟨some 4, .mov (.t 12), none⟩])
       (.ret))
      (.seq (.seq (.reg [⟨some 14, .bin .eql (.t 6) (.k (.int .i64 6)), none⟩,
           ⟨some 13, .mov (.t 14), none⟩])
        (.cond (.t 13)
         (.skip)
         (.seq (.reg [⟨some 15, .bin .eql (.t 6) (.k (.int .i64 7)), none⟩,
             ⟨some 13, .mov (.t 15), none⟩])
          (.cond (.t 13)
           (.skip)
           (.reg [⟨some 16, .bin .eql (.t 6) (.k (.int .i64 8)), none⟩,
              ⟨some 13, .mov (.t 16), none⟩])))))
       (.cond (.t 13)
        (.seq (.reg [⟨some 17, .mov (.t 0), none⟩,
            ⟨some 18, .faddr 1 (.t 3), none⟩,
            ⟨some 19, .load 1 false (.t 18), none⟩,
            ⟨some 20, .call 38 [(.t 17), (.t 19)], none⟩,
            ⟨some 4, .mov (.t 20), none⟩])
         (.ret))
        (.skip)))))))
  (.seq (.reg [⟨some 4, .mov (.k (.int .i64 (-1))), none⟩])
   (.ret)))⟩
theorem fok_spec_l22Null : FOk Tryz.prog 22 code_spec_l22Null := fok Tryz.func22 (by kernel_rfl)
def someF (k : Int) : Fm := .mk 11 0 0 0 [.mk 2 k 0 0 []]
def sameF (a b : Int) : Fm := .mk 12 0 0 0 [.mk 10 0 0 0 [.mk 9 0 0 0 [.mk 2 a 0 0 [], .mk 2 b 0 0 []], .mk 9 0 0 0 [.mk 8 0 0 0 [.mk 2 a 0 0 []], .mk 8 0 0 0 [.mk 2 b 0 0 []]]]]
@[simp] theorem someF_noPath (k : Int) : noPathF (someF k) = true := by simp [someF, noPathF, noPathS]
@[simp] theorem sameF_noPath (a b : Int) : noPathF (sameF a b) = true := by simp [sameF, noPathF, noPathS]
def nullB (k : Int) : Bool := decide (k = 5) || (decide (6 ≤ k) && decide (k ≤ 8))
def nullK (vars : List (List UInt8)) (s : Stmt) : Int := if s.kind = 5 then ixS vars s.b else if 6 ≤ s.kind ∧ s.kind ≤ 8 then ixS vars s.a else -1
@[simp] def ct_pointsSome : Ct := ⟨51, Int, fun _ => True, fun x => [.int .i64 x], fun x => encFm (someF x)⟩
theorem ok_pointsSome : ct_pointsSome.Ok Tryz.prog := by
  rintro k -
  change Int at k
  refine Ok.of_cw fok_impl_pointsSome (go_ok (tab_cons ok_onP (tab_cons ok_fmSomeP tab_nil)) ?_)
  simp [code_impl_pointsSome, List.replicate, someF, -encFm_mk]
  exact encFm_eq _
@[simp] def ct_l22Some : Ct := ⟨24, Int, fun _ => True, fun x => [.int .i64 x], fun x => encFm (someF x)⟩
theorem ok_l22Some : ct_l22Some.Ok Tryz.prog := by
  rintro k -
  change Int at k
  refine Ok.of_cw fok_spec_l22Some (go_ok (tab_cons ok_l14Var (tab_cons ok_l14Some tab_nil)) ?_)
  simp [code_spec_l22Some, List.replicate, someF, -encFm_mk, size_mk, sizes_cons, sizes_nil]
  exact encFm_eq _
@[simp] def ct_nullF : Ct := ⟨29, List (List UInt8) × Stmt, fun _ => True, fun x => [encL 1 encStr x.1, encStmt x.2], fun x => .tup [encFm (if nullB x.2.kind then someF (nullK x.1 x.2) else .mk 0 0 0 0 []), .bool (nullB x.2.kind)]⟩
set_option maxHeartbeats 2000000 in
theorem ok_nullF : ct_nullF.Ok Tryz.prog := by
  rintro ⟨vars, ⟨k, a, b⟩⟩ -
  refine Ok.of_cw fok_impl_nullFormula (go_ok (tab_cons ok_pIndexOf (tab_cons ok_pointsSome tab_nil)) ?_)
  by_cases h : 5 ≤ k ∧ k ≤ 8
  · obtain rfl | rfl | rfl | rfl : k = 5 ∨ k = 6 ∨ k = 7 ∨ k = 8 := by omega
    all_goals simp [code_impl_nullFormula, List.replicate, nullB, nullK, -encFm_mk]
    all_goals exact encFm_eq _
  · have n5 : ¬ k = 5 := by omega
    have n6 : ¬ k = 6 := by omega
    have n7 : ¬ k = 7 := by omega
    have n8 : ¬ k = 8 := by omega
    have hb : nullB k = false := by simp [nullB, n5]; omega
    simp [code_impl_nullFormula, List.replicate, n5, n6, n7, n8, hb]
@[simp] def ct_l22Null : Ct := ⟨22, List (List UInt8) × Stmt, fun _ => True, fun x => [encL 1 encStr x.1, encStmt x.2], fun x => .int .i64 (nullK x.1 x.2)⟩
set_option maxHeartbeats 2000000 in
theorem ok_l22Null : ct_l22Null.Ok Tryz.prog := by
  rintro ⟨vars, ⟨k, a, b⟩⟩ -
  refine Ok.of_cw fok_spec_l22Null (go_ok (tab_cons ok_sIndexOf tab_nil) ?_)
  by_cases h : 5 ≤ k ∧ k ≤ 8
  · obtain rfl | rfl | rfl | rfl : k = 5 ∨ k = 6 ∨ k = 7 ∨ k = 8 := by omega
    all_goals simp [code_spec_l22Null, List.replicate, nullK]
  · have n5 : ¬ k = 5 := by omega
    have n6 : ¬ k = 6 := by omega
    have n7 : ¬ k = 7 := by omega
    have n8 : ¬ k = 8 := by omega
    have hb : ¬ (6 ≤ k ∧ k ≤ 8) := by omega
    have hE : nullK vars ⟨k, a, b⟩ = -1 := by unfold nullK; rw [if_neg n5, if_neg hb]
    simp [code_spec_l22Null, List.replicate, n5, n6, n7, n8, hE]
theorem stmt_null {vars : List (List UInt8)} {k : Int} {a b : List UInt8} (h : stmtB vars ⟨k, a, b⟩ = true) (hk : nullB k = true) : 0 ≤ nullK vars ⟨k, a, b⟩ := by
  have hk2 : 5 ≤ k ∧ k ≤ 8 := by simp [nullB] at hk; omega
  simp only [stmtB, namesOkB, Bool.and_eq_true] at h
  obtain ⟨_, ⟨h1, h2⟩, h3⟩ := h
  obtain rfl | rfl | rfl | rfl : k = 5 ∨ k = 6 ∨ k = 7 ∨ k = 8 := by omega
  all_goals simp [namesN] at h2 h3
  all_goals simp [nullK]
  all_goals omega
theorem nullK_not {vars : List (List UInt8)} {k : Int} {a b : List UInt8} (hk : nullB k = false) : nullK vars ⟨k, a, b⟩ = -1 := by
  simp [nullB] at hk
  unfold nullK
  rw [if_neg (by simp; omega), if_neg (by simp; omega)]
/-- What a statement's test comes to. -/
noncomputable def passT (vars : List (List UInt8)) (s : Stmt) (x : Strc) : Int :=
  if stmtB vars s then
    if s.kind = 9 then notT3 (evalT x (someF (ixS vars s.a)) [])
    else if s.kind = 10 then evalT x (someF (ixS vars s.a)) []
    else if s.kind = 11 then evalT x (sameF (ixS vars s.a) (ixS vars s.b)) []
    else if s.kind = 12 then notT3 (evalT x (sameF (ixS vars s.a) (ixS vars s.b)) [])
    else if nullB s.kind then evalT x (someF (nullK vars s)) []
    else 2
  else 1
end Go.Vm
