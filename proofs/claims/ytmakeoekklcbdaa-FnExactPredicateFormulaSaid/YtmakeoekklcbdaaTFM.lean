/- Formulas: comparing, counting up and copying. No condition. -/
import Derived.Test.YtmakeoekklcbdaaTG
set_option linter.unusedSimpArgs false
set_option linter.unusedVariables false
namespace Go.Vm
open Go.Proofs
mutual
def Fm.size : Fm → Nat | .mk _ _ _ _ l => 1 + sizes l
def sizes : List Fm → Nat | [] => 0 | x :: xs => x.size + sizes xs
end
theorem size_eq (x : Fm) : x.size = 1 + sizes x.args := by cases x; simp [Fm.size]
theorem size_mem : ∀ {xs : List Fm} {i : Nat} (h : i < xs.length), xs[i].size ≤ sizes xs
  | x :: xs, 0, _ => by simp [sizes]
  | x :: xs, i + 1, h => by
    have := size_mem (xs := xs) (i := i) (by simpa using h)
    simp [sizes]; omega
theorem sizes_len : ∀ xs : List Fm, xs.length ≤ sizes xs
  | [] => by simp [sizes]
  | x :: xs => by have := sizes_len xs; have := size_eq x; simp [sizes]; omega
theorem sizes_drop : ∀ {xs : List Fm} {i : Nat} (h : i < xs.length), sizes (xs.drop i) = xs[i].size + sizes (xs.drop (i + 1))
  | x :: xs, 0, _ => by simp [sizes]
  | x :: xs, i + 1, h => by simpa using sizes_drop (xs := xs) (i := i) (by simpa using h)
noncomputable instance : DecidableEq Fm := fun _ _ => Classical.propDecidable _
def code_laws_eqFormulaS : F := ⟨27, [.tmp 4],
 .seq (.reg [⟨some 4, .mov (.k (.bool false)), none⟩])
 (.seq (.seq (.reg [⟨some 6, .mov (.t 0), none⟩,
      ⟨some 7, .len (.t 6), none⟩,
      ⟨some 8, .mov (.t 1), none⟩,
      ⟨some 9, .len (.t 8), none⟩,
      ⟨some 10, .bin .neq (.t 7) (.t 9), none⟩])
   (.cond (.t 10)
    (.seq (.reg [⟨some 4, .mov (.k (.bool false)), none⟩])
     (.ret))
    (.skip)))
  (.seq (.seq (.reg [⟨some 5, .mov (.k (.int .i64 0)), none⟩])
    (.block 0 (.loop (.seq (.seq (.reg [⟨some 11, .mov (.t 5), none⟩,
           ⟨some 12, .mov (.t 0), none⟩,
           ⟨some 13, .len (.t 12), none⟩,
           ⟨some 14, .bin .lss (.t 11) (.t 13), none⟩])
        (.cond (.t 14)
         (.skip)
         (.exit 0)))
       (.seq (.block 1 (.seq (.dreg [false, false, false, false, false, false, false, false, true, true] [false, false, false, false, false, false, false, false, true, false] [⟨some 17, .mov (.t 0), none⟩,
             ⟨some 18, .mov (.t 5), none⟩,
             ⟨some 19, .iaddr 5 (.t 17) (.t 18), none⟩,
             ⟨some 20, .load 5 true (.t 19), none⟩,
             ⟨some 21, .mov (.t 1), none⟩,
             ⟨some 22, .mov (.t 5), none⟩,
             ⟨some 23, .iaddr 5 (.t 21) (.t 22), none⟩,
             ⟨some 24, .load 5 true (.t 23), none⟩,
             ⟨some 25, .call 37 [(.t 20), (.t 24)], none⟩,
             ⟨some 26, .not (.t 25), none⟩])
          (.cond (.t 26)
           (.seq (.reg [⟨some 4, .mov (.k (.bool false)), none⟩])
            (.ret))
           (.skip))))
        (.reg [⟨some 15, .mov (.t 5), none⟩,
           ⟨some 16, .bin .add (.t 15) (.k (.int .i64 1)), none⟩,
           ⟨some 5, .mov (.t 16), none⟩]))))))
   (.seq (.reg [⟨some 4, .mov (.k (.bool true)), none⟩])
    (.ret))))⟩
theorem fok_laws_eqFormulaS : FOk Try.prog 104 code_laws_eqFormulaS := fok Try.func104 (by kernel_rfl)
def code_laws_eqFormula : F := ⟨31, [.tmp 4],
 .seq (.reg [⟨some 2, .box (.t 0), none⟩,
    ⟨some 3, .box (.t 1), none⟩,
    ⟨some 4, .mov (.k (.bool false)), none⟩])
 (.seq (.seq (.reg [⟨some 5, .faddr 0 (.t 2), none⟩,
      ⟨some 6, .load 1 false (.t 5), none⟩,
      ⟨some 7, .faddr 0 (.t 3), none⟩,
      ⟨some 8, .load 1 false (.t 7), none⟩,
      ⟨some 9, .bin .neq (.t 6) (.t 8), none⟩])
   (.cond (.t 9)
    (.seq (.reg [⟨some 4, .mov (.k (.bool false)), none⟩])
     (.ret))
    (.skip)))
  (.seq (.seq (.reg [⟨some 10, .faddr 1 (.t 2), none⟩,
       ⟨some 11, .load 1 false (.t 10), none⟩,
       ⟨some 12, .faddr 1 (.t 3), none⟩,
       ⟨some 13, .load 1 false (.t 12), none⟩,
       ⟨some 14, .bin .neq (.t 11) (.t 13), none⟩])
    (.cond (.t 14)
     (.seq (.reg [⟨some 4, .mov (.k (.bool false)), none⟩])
      (.ret))
     (.skip)))
   (.seq (.seq (.reg [⟨some 15, .faddr 2 (.t 2), none⟩,
        ⟨some 16, .load 1 false (.t 15), none⟩,
        ⟨some 17, .faddr 2 (.t 3), none⟩,
        ⟨some 18, .load 1 false (.t 17), none⟩,
        ⟨some 19, .bin .neq (.t 16) (.t 18), none⟩])
     (.cond (.t 19)
      (.seq (.reg [⟨some 4, .mov (.k (.bool false)), none⟩])
       (.ret))
      (.skip)))
    (.seq (.seq (.reg [⟨some 20, .faddr 3 (.t 2), none⟩,
         ⟨some 21, .load 1 false (.t 20), none⟩,
         ⟨some 22, .faddr 3 (.t 3), none⟩,
         ⟨some 23, .load 1 false (.t 22), none⟩,
         ⟨some 24, .bin .neq (.t 21) (.t 23), none⟩])
      (.cond (.t 24)
       (.seq (.reg [⟨some 4, .mov (.k (.bool false)), none⟩])
        (.ret))
       (.skip)))
     (.seq (.seq (.reg [⟨some 25, .faddr 4 (.t 2), none⟩,
          ⟨some 26, .load 1 false (.t 25), none⟩,
          ⟨some 27, .faddr 4 (.t 3), none⟩,
          ⟨some 28, .load 1 false (.t 27), none⟩,
          ⟨some 29, .call 104 [(.t 26), (.t 28)], none⟩,
          ⟨some 30, .not (.t 29), none⟩])
       (.cond (.t 30)
        (.seq (.reg [⟨some 4, .mov (.k (.bool false)), none⟩])
         (.ret))
        (.skip)))
      (.seq (.reg [⟨some 4, .mov (.k (.bool true)), none⟩])
       (.ret)))))))⟩
theorem fok_laws_eqFormula : FOk Try.prog 37 code_laws_eqFormula := fok Try.func37 (by kernel_rfl)
def code_laws_heldFormulaS : F := ⟨58, [.tmp 4],
 .seq (.reg [⟨some 4, .mov (.k (.int .i64 0)), none⟩])
 (.seq (.seq (.reg [⟨some 5, .mov (.k (.int .i64 0)), none⟩])
   (.block 0 (.loop (.seq (.seq (.reg [⟨some 6, .mov (.t 5), none⟩,
          ⟨some 7, .mov (.t 0), none⟩,
          ⟨some 8, .len (.t 7), none⟩,
          ⟨some 9, .bin .lss (.t 6) (.t 8), none⟩])
       (.cond (.t 9)
        (.skip)
        (.exit 0)))
      (.seq (.block 1 (.seq (.seq (.reg [⟨some 12, .mov (.t 0), none⟩,
             ⟨some 13, .mov (.t 5), none⟩,
             ⟨some 14, .iaddr 5 (.t 12) (.t 13), none⟩,
             ⟨some 15, .faddr 0 (.t 14), none⟩,
             ⟨some 16, .load 1 false (.t 15), none⟩,
             ⟨some 17, .mov (.t 1), none⟩,
             ⟨some 18, .bin .neq (.t 16) (.t 17), none⟩])
          (.cond (.t 18)
           (.seq (.reg [⟨some 4, .mov (.k (.int .i64 (-1))), none⟩])
            (.ret))
           (.skip)))
         (.seq (.reg [⟨some 19, .mov (.t 1), none⟩,
             ⟨some 20, .bin .add (.t 19) (.k (.int .i64 1)), none⟩,
             ⟨some 1, .mov (.t 20), none⟩])
          (.seq (.seq (.reg [⟨some 21, .mov (.t 0), none⟩,
               ⟨some 22, .mov (.t 5), none⟩,
               ⟨some 23, .iaddr 5 (.t 21) (.t 22), none⟩,
               ⟨some 24, .faddr 1 (.t 23), none⟩,
               ⟨some 25, .load 1 false (.t 24), none⟩,
               ⟨some 26, .mov (.t 1), none⟩,
               ⟨some 27, .bin .neq (.t 25) (.t 26), none⟩])
            (.cond (.t 27)
             (.seq (.reg [⟨some 4, .mov (.k (.int .i64 (-1))), none⟩])
              (.ret))
             (.skip)))
           (.seq (.reg [⟨some 28, .mov (.t 1), none⟩,
               ⟨some 29, .bin .add (.t 28) (.k (.int .i64 1)), none⟩,
               ⟨some 1, .mov (.t 29), none⟩])
            (.seq (.seq (.reg [⟨some 30, .mov (.t 0), none⟩,
                 ⟨some 31, .mov (.t 5), none⟩,
                 ⟨some 32, .iaddr 5 (.t 30) (.t 31), none⟩,
                 ⟨some 33, .faddr 2 (.t 32), none⟩,
                 ⟨some 34, .load 1 false (.t 33), none⟩,
                 ⟨some 35, .mov (.t 1), none⟩,
                 ⟨some 36, .bin .neq (.t 34) (.t 35), none⟩])
              (.cond (.t 36)
               (.seq (.reg [⟨some 4, .mov (.k (.int .i64 (-1))), none⟩])
                (.ret))
               (.skip)))
             (.seq (.reg [⟨some 37, .mov (.t 1), none⟩,
                 ⟨some 38, .bin .add (.t 37) (.k (.int .i64 1)), none⟩,
                 ⟨some 1, .mov (.t 38), none⟩])
              (.seq (.seq (.reg [⟨some 39, .mov (.t 0), none⟩,
                   ⟨some 40, .mov (.t 5), none⟩,
                   ⟨some 41, .iaddr 5 (.t 39) (.t 40), none⟩,
                   ⟨some 42, .faddr 3 (.t 41), none⟩,
                   ⟨some 43, .load 1 false (.t 42), none⟩,
                   ⟨some 44, .mov (.t 1), none⟩,
                   ⟨some 45, .bin .neq (.t 43) (.t 44), none⟩])
                (.cond (.t 45)
                 (.seq (.reg [⟨some 4, .mov (.k (.int .i64 (-1))), none⟩])
                  (.ret))
                 (.skip)))
               (.seq (.reg [⟨some 46, .mov (.t 1), none⟩,
                   ⟨some 47, .bin .add (.t 46) (.k (.int .i64 1)), none⟩,
                   ⟨some 1, .mov (.t 47), none⟩])
                (.seq (.reg [⟨some 48, .mov (.t 0), none⟩,
                    ⟨some 49, .mov (.t 5), none⟩,
                    ⟨some 50, .iaddr 5 (.t 48) (.t 49), none⟩,
                    ⟨some 51, .faddr 4 (.t 50), none⟩,
                    ⟨some 52, .load 1 false (.t 51), none⟩,
                    ⟨some 53, .mov (.t 1), none⟩,
                    ⟨some 54, .call 107 [(.t 52), (.t 53)], none⟩,
                    ⟨some 1, .mov (.t 54), none⟩])
                 (.seq (.reg [⟨some 55, .mov (.t 1), none⟩,
                     ⟨some 56, .bin .lss (.t 55) (.k (.int .i64 0)), none⟩])
                  (.cond (.t 56)
                   (.seq (.reg [⟨some 4, .mov (.k (.int .i64 (-1))), none⟩])
                    (.ret))
                   (.skip)))))))))))))
       (.reg [⟨some 10, .mov (.t 5), none⟩,
          ⟨some 11, .bin .add (.t 10) (.k (.int .i64 1)), none⟩,
          ⟨some 5, .mov (.t 11), none⟩]))))))
  (.seq (.reg [⟨some 57, .mov (.t 1), none⟩,
      ⟨some 4, .mov (.t 57), none⟩])
   (.ret)))⟩
theorem fok_laws_heldFormulaS : FOk Try.prog 107 code_laws_heldFormulaS := fok Try.func107 (by kernel_rfl)
def code_laws_heldFormula : F := ⟨12, [.tmp 4],
 .seq (.reg [⟨some 2, .box (.t 0), none⟩,
    ⟨some 4, .mov (.k (.int .i64 0)), none⟩])
 (.seq (.reg [⟨some 5, .faddr 4 (.t 2), none⟩,
     ⟨some 6, .load 1 false (.t 5), none⟩,
     ⟨some 7, .mov (.t 1), none⟩,
     ⟨some 8, .call 107 [(.t 6), (.t 7)], none⟩,
     ⟨some 1, .mov (.t 8), none⟩])
  (.seq (.seq (.reg [⟨some 9, .mov (.t 1), none⟩,
       ⟨some 10, .bin .lss (.t 9) (.k (.int .i64 0)), none⟩])
    (.cond (.t 10)
     (.seq (.reg [⟨some 4, .mov (.k (.int .i64 (-1))), none⟩])
      (.ret))
     (.skip)))
   (.seq (.reg [⟨some 11, .mov (.t 1), none⟩,
       ⟨some 4, .mov (.t 11), none⟩])
    (.ret))))⟩
theorem fok_laws_heldFormula : FOk Try.prog 41 code_laws_heldFormula := fok Try.func41 (by kernel_rfl)
def code_spec_l10Copy : F := ⟨33, [.cell 5 true 2],
 .seq (.reg [⟨some 1, .box (.t 0), none⟩,
    ⟨some 2, .alloc [(.int .i64 0), (.int .i64 0), (.int .i64 0), (.int .i64 0), (.sl .nil 0 [])], none⟩])
 (.seq (.reg [⟨some 5, .faddr 0 (.t 1), none⟩,
     ⟨some 6, .load 1 false (.t 5), none⟩,
     ⟨some 7, .faddr 1 (.t 1), none⟩,
     ⟨some 8, .load 1 false (.t 7), none⟩,
     ⟨some 9, .faddr 2 (.t 1), none⟩,
     ⟨some 10, .load 1 false (.t 9), none⟩,
     ⟨some 11, .faddr 3 (.t 1), none⟩,
     ⟨some 12, .load 1 false (.t 11), none⟩,
     ⟨some 13, .build [(.int .i64 0), (.int .i64 0), (.int .i64 0), (.int .i64 0), (.sl .nil 0 [])] [(0, 1, (.t 6)), (1, 1, (.t 8)), (2, 1, (.t 10)), (3, 1, (.t 12))], none⟩,
     ⟨some 3, .alloc [(.int .i64 0), (.int .i64 0), (.int .i64 0), (.int .i64 0), (.sl .nil 0 [])], none⟩,
     ⟨none, .store 5 (.t 3) (.t 13), none⟩])
  (.seq (.seq (.reg [⟨some 4, .mov (.k (.int .i64 0)), none⟩])
    (.block 0 (.loop (.seq (.seq (.reg [⟨some 14, .mov (.t 4), none⟩,
           ⟨some 15, .faddr 4 (.t 1), none⟩,
           ⟨some 16, .load 1 false (.t 15), none⟩,
           ⟨some 17, .len (.t 16), none⟩,
           ⟨some 18, .bin .lss (.t 14) (.t 17), none⟩])
        (.cond (.t 18)
         (.skip)
         (.exit 0)))
       (.seq (.block 1 (.dreg [false, false, false, false, false, false, false, false, false, true, true, true] [false, false, false, false, false, false, false, true, false, false, false, false] [⟨some 21, .faddr 4 (.t 3), none⟩,
            ⟨some 22, .load 1 false (.t 21), none⟩,
            ⟨some 23, .faddr 4 (.t 1), none⟩,
            ⟨some 24, .load 1 false (.t 23), none⟩,
            ⟨some 25, .mov (.t 4), none⟩,
            ⟨some 26, .iaddr 5 (.t 24) (.t 25), none⟩,
            ⟨some 27, .load 5 true (.t 26), none⟩,
            ⟨some 28, .call 171 [(.t 27)], none⟩,
            ⟨some 29, .bsl 57 5 1 (.agg [(.int .i64 0), (.int .i64 0), (.int .i64 0), (.int .i64 0), (.sl .nil 0 [])]) [(0, (.t 28))], none⟩,
            ⟨some 30, .append 57 5 56 (.t 22) (.t 29), none⟩,
            ⟨some 31, .faddr 4 (.t 3), none⟩,
            ⟨none, .store 1 (.t 31) (.t 30), none⟩]))
        (.reg [⟨some 19, .mov (.t 4), none⟩,
           ⟨some 20, .bin .add (.t 19) (.k (.int .i64 1)), none⟩,
           ⟨some 4, .mov (.t 20), none⟩]))))))
   (.seq (.reg [⟨some 32, .load 5 true (.t 3), none⟩,
       ⟨none, .store 5 (.t 2) (.t 32), none⟩])
    (.ret))))⟩
theorem fok_spec_l10Copy : FOk Try.prog 171 code_spec_l10Copy := fok Try.func171 (by kernel_rfl)
@[simp] noncomputable def ct_eqFmSn (n : Nat) : Ct := ⟨104, List Fm × List Fm, fun x => sizes x.1 ≤ n, fun x => [encL 5 encFm x.1, encL 5 encFm x.2], fun x => .bool (decide (x.1 = x.2))⟩
@[simp] noncomputable def ct_eqFmn (n : Nat) : Ct := ⟨37, Fm × Fm, fun x => x.1.size ≤ n, fun x => [encFm x.1, encFm x.2], fun x => .bool (decide (x.1 = x.2))⟩
theorem ok_eqFmSn {n : Nat} (ih : (ct_eqFmn n).Ok Try.prog) : (ct_eqFmSn n).Ok Try.prog := by
  rintro ⟨xs, ys⟩ hx
  change sizes xs ≤ n at hx
  refine Ok.lens fun hl => Ok.of_cw fok_laws_eqFormulaS (go_ok tab_nil ?_)
  have hl : lensOkL [encL 5 encFm xs, encL 5 encFm ys] := hl
  rw [lensOkL_cons, lensOk_encL] at hl
  have hl := hl.1.1
  simp [code_laws_eqFormulaS, List.replicate]
  refine ⟨fun h => ?_, fun h => ?_⟩
  · intro e; exact absurd (by rw [e]) h
  refine cw_round (fun (p : Nat) => ⟨slots 27 [(0, encL 5 encFm xs), (1, encL 5 encFm ys), (5, .int .i64 p)], []⟩)
    (fun p => p ≤ xs.length ∧ xs.take p = ys.take p) (fun p => xs.length - p) 0 ⟨by omega, by simp⟩ ?_ ?_
  · exact weak_seal 0 (by omega) (by simp) (by simp [List.replicate])
  · rintro N hN i ⟨hi, hn⟩
    have hw : i < xs.length → IntKind.i64.wrap ((i : Int) + 1) = ((i + 1 : Nat) : Int) := fun h => by rw [wrap_i64] <;> omega
    refine go_ok (tab_cons ih tab_nil) ?_
    by_cases g : i < xs.length
    · have g' : i < ys.length := by omega
      have hs := size_mem g
      have g2 : ¬ xs.length ≤ i := by omega
      simp [List.replicate, hw, g, g', g2]
      refine ⟨by omega, fun e => ?_, fun e => ?_⟩
      · intro k; subst k; exact e rfl
      · refine hN _ (i + 1) _ ⟨by omega, ?_⟩ (by omega) (weak_seal 0 (by omega) ?_ ?_)
        · rw [List.take_succ_eq_append_getElem g, List.take_succ_eq_append_getElem g', hn, e]
        · simp
        · simp [List.replicate]
    · have g2 : xs.length ≤ i := by omega
      simp [List.replicate, g, g2]
      rw [List.take_of_length_le (by omega), List.take_of_length_le (by omega)] at hn
      exact hn
theorem ok_eqFmn {n : Nat} (ih : (ct_eqFmSn n).Ok Try.prog) : (ct_eqFmn (n + 1)).Ok Try.prog := by
  rintro ⟨x, y⟩ hx
  change x.size ≤ n + 1 at hx
  rw [size_eq] at hx
  refine Ok.of_cw fok_laws_eqFormula (go_ok (tab_cons ih tab_nil) ?_)
  obtain ⟨a, b, c, d, l⟩ := x
  obtain ⟨a', b', c', d', l'⟩ := y
  simp at hx
  simp [code_laws_eqFormula, List.replicate]
  have : sizes l ≤ n := by omega
  grind
theorem ok_eqFms : ∀ n, (ct_eqFmn n).Ok Try.prog
  | 0 => by rintro ⟨x, y⟩ hx; have hx : x.size ≤ 0 := hx; rw [size_eq] at hx; omega
  | n + 1 => ok_eqFmn (ok_eqFmSn (ok_eqFms n))
@[simp] noncomputable def ct_eqFm : Ct := ⟨37, Fm × Fm, fun x => True, fun x => [encFm x.1, encFm x.2], fun x => .bool (decide (x.1 = x.2))⟩
theorem ok_eqFm : ct_eqFm.Ok Try.prog := fun x _ => ok_eqFms _ x (Nat.le_refl _)
mutual
def heldF : Fm → Int → Int
  | .mk a b c d l, k => if a = k then if b = k + 1 then if c = k + 2 then if d = k + 3 then heldS l (k + 4) else -1 else -1 else -1 else -1
def heldS : List Fm → Int → Int
  | [], k => k
  | x :: xs, k => if heldF x k < 0 then -1 else heldS xs (heldF x k)
end
mutual
theorem heldF_or : ∀ (x : Fm) (k : Int), heldF x k = -1 ∨ heldF x k = k + 4 * x.size
  | .mk a b c d l, k => by
    simp only [heldF, Fm.size]
    have := heldS_or l (k + 4)
    (repeat' split) <;> omega
theorem heldS_or : ∀ (xs : List Fm) (k : Int), heldS xs k = -1 ∨ heldS xs k = k + 4 * sizes xs
  | [], k => by simp [heldS, sizes]
  | x :: xs, k => by
    simp only [heldS, sizes]
    have h1 := heldF_or x k
    have h2 := heldS_or xs (heldF x k)
    split <;> omega
end
theorem heldF_eq (x : Fm) (k : Int) : heldF x k = if x.kind = k then if x.k = k + 1 then if x.u = k + 2 then if x.v = k + 3 then heldS x.args (k + 4) else -1 else -1 else -1 else -1 := by cases x; simp only [heldF, Fm.kind_mk, Fm.k_mk, Fm.u_mk, Fm.v_mk, Fm.args_mk]
theorem heldS_drop {xs : List Fm} {i : Nat} {k : Int} (h : i < xs.length) : heldS (xs.drop i) k = if heldF xs[i] k < 0 then -1 else heldS (xs.drop (i + 1)) (heldF xs[i] k) := by
  rw [List.drop_eq_getElem_cons h, heldS]
@[simp] def ct_heldSn (n : Nat) : Ct := ⟨107, List Fm × Int, fun x => sizes x.1 ≤ n ∧ 0 ≤ x.2 ∧ x.2 + 4 * sizes x.1 ≤ 1099511627776, fun x => [encL 5 encFm x.1, .int .i64 x.2], fun x => .int .i64 (heldS x.1 x.2)⟩
set_option maxHeartbeats 1000000 in
set_option maxRecDepth 100000 in
theorem ok_heldSn (n : Nat) (ih : ∀ m, m < n → (ct_heldSn m).Ok Try.prog) : (ct_heldSn n).Ok Try.prog := by
  rintro ⟨xs, k0⟩ ⟨hx, hk0, hk1⟩
  change sizes xs ≤ n at hx
  change 0 ≤ k0 at hk0
  change k0 + 4 * sizes xs ≤ 1099511627776 at hk1
  have hl := sizes_len xs
  refine Ok.of_cw fok_laws_heldFormulaS (go_ok tab_nil ?_)
  simp [code_laws_heldFormulaS, List.replicate]
  refine cw_round (fun (p : Nat × Int) => ⟨slots 58 [(0, encL 5 encFm xs), (1, .int .i64 p.2), (5, .int .i64 p.1)], []⟩)
    (fun p => p.1 ≤ xs.length ∧ 0 ≤ p.2 ∧ p.2 + 4 * sizes (xs.drop p.1) ≤ 1099511627776 ∧ heldS xs k0 = heldS (xs.drop p.1) p.2) (fun p => xs.length - p.1) (0, k0) ⟨by omega, hk0, hk1, by simp⟩ ?_ ?_
  · exact weak_seal 0 (by omega) (by simp) (by simp [List.replicate])
  · rintro N hN ⟨i, k⟩ ⟨hi, g1, g2, hs⟩
    change i ≤ xs.length at hi
    change 0 ≤ k at g1
    change k + 4 * sizes (xs.drop i) ≤ 1099511627776 at g2
    change heldS xs k0 = heldS (xs.drop i) k at hs
    have hw : IntKind.i64.wrap ((i : Int) + 1) = ((i + 1 : Nat) : Int) := by rw [wrap_i64] <;> omega
    by_cases g : i < xs.length
    · have g3 : ¬ xs.length ≤ i := by omega
      have hz := size_mem g
      rw [size_eq] at hz
      have hz2 := sizes_drop g
      rw [size_eq] at hz2
      rw [heldS_drop g] at hs
      have hF := heldF_or xs[i] k
      have hsz := size_eq xs[i]
      have hF2 := heldF_eq xs[i] k
      have w1 : IntKind.i64.wrap (k + 1) = k + 1 := by rw [wrap_i64] <;> omega
      have w2 : IntKind.i64.wrap (k + 1 + 1) = k + 2 := by rw [wrap_i64] <;> omega
      have w3 : IntKind.i64.wrap (k + 2 + 1) = k + 3 := by rw [wrap_i64] <;> omega
      have w4 : IntKind.i64.wrap (k + 3 + 1) = k + 4 := by rw [wrap_i64] <;> omega
      refine go_ok (tab_cons (ih (n - 1) (by omega)) tab_nil) ?_
      simp [List.replicate, hw, g, g3, w1, w2, w3, w4]
      refine ⟨fun e => ?_, fun e1 => ⟨fun e => ?_, fun e2 => ⟨fun e => ?_, fun e3 => ⟨fun e => ?_, fun e4 => ⟨by omega, by omega, by omega, fun e => ?_, fun e5 => ?_⟩⟩⟩⟩⟩
      · rw [hs, hF2, if_neg e]; rfl
      · rw [hs, hF2, if_pos e1, if_neg e]; rfl
      · rw [hs, hF2, if_pos e1, if_pos e2, if_neg e]; rfl
      · rw [hs, hF2, if_pos e1, if_pos e2, if_pos e3, if_neg e]; rfl
      · rw [hs, hF2, if_pos e1, if_pos e2, if_pos e3, if_pos e4, if_pos e]
      · rw [if_pos e1, if_pos e2, if_pos e3, if_pos e4] at hF2
        rw [hF2, if_neg (by omega)] at hs
        refine hN _ (i + 1, heldS xs[i].args (k + 4)) _ ⟨by simp; omega, e5, by simp; omega, hs⟩ (by simp; omega) (weak_seal 0 (by omega) ?_ ?_)
        · simp
        · simp [List.replicate]
    · have g3 : xs.length ≤ i := by omega
      refine go_ok tab_nil ?_
      simp [List.replicate, hw, g, g3]
      rw [hs, List.drop_of_length_le g3]
      rfl
theorem ok_helds (n : Nat) : (ct_heldSn n).Ok Try.prog := Nat.strongRecOn n fun n ih => ok_heldSn n ih
@[simp] def ct_held : Ct := ⟨41, Fm × Int, fun x => 0 ≤ x.2 ∧ x.2 + 4 * sizes x.1.args ≤ 1099511627776, fun x => [encFm x.1, .int .i64 x.2], fun x => .int .i64 (heldS x.1.args x.2)⟩
theorem ok_held : ct_held.Ok Try.prog := by
  rintro ⟨x, k⟩ ⟨h1, h2⟩
  obtain ⟨a, b, c, d, l⟩ := x
  change 0 ≤ k at h1
  change k + 4 * sizes l ≤ 1099511627776 at h2
  refine Ok.of_cw fok_laws_heldFormula (go_ok (tab_cons (ok_helds (sizes l)) tab_nil) ?_)
  have := heldS_or l k
  simp [code_laws_heldFormula, List.replicate, h1, h2]
  omega
end Go.Vm
