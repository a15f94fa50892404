/- Formulas: what the laws' size and copy functions answer. No condition. -/
import Derived.Test.YtmakeoekklcbdaaTFM
import Derived.Test.YtmakeoekklcbdaaTFC
set_option linter.unusedSimpArgs false
set_option linter.unusedVariables false
namespace Go.Vm
open Go.Proofs
def code_laws_szFormula : F := ⟨12, [.tmp 4],
 .seq (.reg [⟨some 2, .box (.t 0), none⟩,
    ⟨some 4, .mov (.k (.int .i64 0)), none⟩])
 (.seq (.reg [⟨some 5, .faddr 4 (.t 2), none⟩,
     ⟨some 6, .load 1 false (.t 5), none⟩,
     ⟨some 7, .mov (.t 1), none⟩,
     ⟨some 8, .call 115 [(.t 6), (.t 7)], none⟩,
     ⟨some 1, .mov (.t 8), none⟩])
  (.seq (.seq (.reg [⟨some 9, .mov (.t 1), none⟩,
       ⟨some 10, .bin .lss (.t 9) (.k (.int .i64 0)), none⟩])
    (.cond (.t 10)
     (.seq (.reg [⟨some 4, .mov (.k (.int .i64 (-1))), none⟩])
      (.ret))
     (.skip)))
   (.seq (.reg [⟨some 11, .mov (.t 1), none⟩,
       ⟨some 4, .mov (.t 11), none⟩])
    (.ret))))⟩
theorem fok_laws_szFormula : FOk Try.prog 44 code_laws_szFormula := fok Try.func44 (by kernel_rfl)
def code_laws_szFormulaS : F := ⟨27, [.tmp 4],
 .seq (.reg [⟨some 4, .mov (.k (.int .i64 0)), none⟩])
 (.seq (.reg [⟨some 6, .mov (.t 1), none⟩,
     ⟨some 7, .mov (.t 0), none⟩,
     ⟨some 8, .len (.t 7), none⟩,
     ⟨some 9, .bin .sub (.t 6) (.t 8), none⟩,
     ⟨some 1, .mov (.t 9), none⟩])
  (.seq (.seq (.reg [⟨some 10, .mov (.t 1), none⟩,
       ⟨some 11, .bin .lss (.t 10) (.k (.int .i64 0)), none⟩])
    (.cond (.t 11)
     (.seq (.reg [⟨some 4, .mov (.k (.int .i64 (-1))), none⟩])
      (.ret))
     (.skip)))
   (.seq (.seq (.reg [⟨some 5, .mov (.k (.int .i64 0)), none⟩])
     (.block 0 (.loop (.seq (.seq (.reg [⟨some 12, .mov (.t 5), none⟩,
            ⟨some 13, .mov (.t 0), none⟩,
            ⟨some 14, .len (.t 13), none⟩,
            ⟨some 15, .bin .lss (.t 12) (.t 14), none⟩])
         (.cond (.t 15)
          (.skip)
          (.exit 0)))
        (.seq (.block 1 (.seq (.reg [⟨some 18, .mov (.t 0), none⟩,
              ⟨some 19, .mov (.t 5), none⟩,
              ⟨some 20, .iaddr 5 (.t 18) (.t 19), none⟩,
              ⟨some 21, .load 5 true (.t 20), none⟩,
              ⟨some 22, .mov (.t 1), none⟩,
              ⟨some 23, .call 44 [(.t 21), (.t 22)], none⟩,
              ⟨some 1, .mov (.t 23), none⟩])
           (.seq (.reg [⟨some 24, .mov (.t 1), none⟩,
               ⟨some 25, .bin .lss (.t 24) (.k (.int .i64 0)), none⟩])
            (.cond (.t 25)
             (.seq (.reg [⟨some 4, .mov (.k (.int .i64 (-1))), none⟩])
              (.ret))
             (.skip)))))
         (.reg [⟨some 16, .mov (.t 5), none⟩,
            ⟨some 17, .bin .add (.t 16) (.k (.int .i64 1)), none⟩,
            ⟨some 5, .mov (.t 17), none⟩]))))))
    (.seq (.reg [⟨some 26, .mov (.t 1), none⟩,
        ⟨some 4, .mov (.t 26), none⟩])
     (.ret)))))⟩
theorem fok_laws_szFormulaS : FOk Try.prog 115 code_laws_szFormulaS := fok Try.func115 (by kernel_rfl)
def code_laws_toFormula : F := ⟨21, [.cell 5 true 2],
 .seq (.reg [⟨some 1, .box (.t 0), none⟩,
    ⟨some 2, .alloc [(.int .i64 0), (.int .i64 0), (.int .i64 0), (.int .i64 0), (.sl .nil 0 [])], none⟩])
 (.seq (.reg [⟨some 3, .alloc [(.int .i64 0), (.int .i64 0), (.int .i64 0), (.int .i64 0), (.sl .nil 0 [])], none⟩])
  (.seq (.reg [⟨some 4, .faddr 0 (.t 1), none⟩,
      ⟨some 5, .load 1 false (.t 4), none⟩,
      ⟨some 6, .faddr 0 (.t 3), none⟩,
      ⟨none, .store 1 (.t 6) (.t 5), none⟩])
   (.seq (.reg [⟨some 7, .faddr 1 (.t 1), none⟩,
       ⟨some 8, .load 1 false (.t 7), none⟩,
       ⟨some 9, .faddr 1 (.t 3), none⟩,
       ⟨none, .store 1 (.t 9) (.t 8), none⟩])
    (.seq (.reg [⟨some 10, .faddr 2 (.t 1), none⟩,
        ⟨some 11, .load 1 false (.t 10), none⟩,
        ⟨some 12, .faddr 2 (.t 3), none⟩,
        ⟨none, .store 1 (.t 12) (.t 11), none⟩])
     (.seq (.reg [⟨some 13, .faddr 3 (.t 1), none⟩,
         ⟨some 14, .load 1 false (.t 13), none⟩,
         ⟨some 15, .faddr 3 (.t 3), none⟩,
         ⟨none, .store 1 (.t 15) (.t 14), none⟩])
      (.seq (.reg [⟨some 16, .faddr 4 (.t 1), none⟩,
          ⟨some 17, .load 1 false (.t 16), none⟩,
          ⟨some 18, .call 117 [(.t 17)], none⟩,
          ⟨some 19, .faddr 4 (.t 3), none⟩,
          ⟨none, .store 1 (.t 19) (.t 18), none⟩])
       (.seq (.reg [⟨some 20, .load 5 true (.t 3), none⟩,
           ⟨none, .store 5 (.t 2) (.t 20), none⟩])
        (.ret))))))))⟩
theorem fok_laws_toFormula : FOk Try.prog 46 code_laws_toFormula := fok Try.func46 (by kernel_rfl)
def code_laws_toFormulaS : F := ⟨23, [.tmp 2],
 .seq (.reg [⟨some 2, .mov (.k (.sl .nil 0 [])), none⟩])
 (.seq (.reg [⟨some 5, .mov (.t 0), none⟩,
     ⟨some 6, .len (.t 5), none⟩,
     ⟨some 7, .mksl 57 5 56 (.agg [(.int .i64 0), (.int .i64 0), (.int .i64 0), (.int .i64 0), (.sl .nil 0 [])]) (.t 6) (.t 6), none⟩,
     ⟨some 3, .mov (.t 7), none⟩])
  (.seq (.seq (.reg [⟨some 4, .mov (.k (.int .i64 0)), none⟩])
    (.block 0 (.loop (.seq (.seq (.reg [⟨some 8, .mov (.t 4), none⟩,
           ⟨some 9, .mov (.t 0), none⟩,
           ⟨some 10, .len (.t 9), none⟩,
           ⟨some 11, .bin .lss (.t 8) (.t 10), none⟩])
        (.cond (.t 11)
         (.skip)
         (.exit 0)))
       (.seq (.block 1 (.reg [⟨some 14, .mov (.t 3), none⟩,
            ⟨some 15, .mov (.t 4), none⟩,
            ⟨some 16, .mov (.t 0), none⟩,
            ⟨some 17, .mov (.t 4), none⟩,
            ⟨some 18, .iaddr 5 (.t 16) (.t 17), none⟩,
            ⟨some 19, .load 5 true (.t 18), none⟩,
            ⟨some 20, .call 46 [(.t 19)], none⟩,
            ⟨some 21, .iaddr 5 (.t 14) (.t 15), none⟩,
            ⟨none, .store 5 (.t 21) (.t 20), none⟩]))
        (.reg [⟨some 12, .mov (.t 4), none⟩,
           ⟨some 13, .bin .add (.t 12) (.k (.int .i64 1)), none⟩,
           ⟨some 4, .mov (.t 13), none⟩]))))))
   (.seq (.reg [⟨some 22, .mov (.t 3), none⟩,
       ⟨some 2, .mov (.t 22), none⟩])
    (.ret))))⟩
theorem fok_laws_toFormulaS : FOk Try.prog 117 code_laws_toFormulaS := fok Try.func117 (by kernel_rfl)
@[simp] def ct_szFmSn (n : Nat) : Ct := ⟨115, List Fm × Int, fun x => sizes x.1 ≤ n ∧ 0 ≤ x.2 ∧ x.2 ≤ 1048576, fun x => [encL 5 encFm x.1, .int .i64 x.2], fun x => .int .i64 (left (sizes x.1) x.2)⟩
@[simp] def ct_szFmn (n : Nat) : Ct := ⟨44, Fm × Int, fun x => x.1.size ≤ n ∧ 0 ≤ x.2 ∧ x.2 ≤ 1048576, fun x => [encFm x.1, .int .i64 x.2], fun x => .int .i64 (left (sizes x.1.args) x.2)⟩
/-- What is left of a list's parts. -/
def below1 (xs : List Fm) : Nat := (xs.map fun x => sizes x.args).sum
theorem sizes_below : ∀ xs : List Fm, sizes xs = xs.length + below1 xs
  | [] => by simp [sizes, below1]
  | x :: xs => by
    have := sizes_below xs
    have h2 := size_eq x
    simp only [sizes, below1, List.map_cons, List.sum_cons, List.length_cons] at this ⊢
    omega
set_option maxHeartbeats 1000000 in
theorem ok_szFmSn {n : Nat} (ih : (ct_szFmn n).Ok Try.prog) : (ct_szFmSn n).Ok Try.prog := by
  rintro ⟨xs, l⟩ ⟨hn, h1, h2⟩
  change sizes xs ≤ n at hn
  change 0 ≤ l at h1
  change l ≤ 1048576 at h2
  have hb := sizes_below xs
  refine Ok.lens fun hl => Ok.of_cw fok_laws_szFormulaS (go_ok tab_nil ?_)
  have hl : lensOkL [encL 5 encFm xs, .int .i64 l] := hl
  rw [lensOkL_cons, lensOk_encL] at hl
  have hl := hl.1.1
  have hw : IntKind.i64.wrap (l - xs.length) = l - xs.length := by rw [wrap_i64] <;> omega
  simp [code_laws_szFormulaS, List.replicate, hw]
  refine ⟨fun h => left_neg (by omega), fun h => ?_⟩
  refine cw_round (fun (p : Nat × Int) => ⟨slots 27 [(0, encL 5 encFm xs), (1, .int .i64 p.2), (5, .int .i64 p.1)], []⟩)
    (fun p => p.1 ≤ xs.length ∧ 0 ≤ p.2 ∧ p.2 ≤ 1048576 ∧ left (sizes xs) l = left (below1 (xs.drop p.1)) p.2) (fun p => xs.length - p.1) (0, l - xs.length) ?_ ?_ ?_
  · refine ⟨by simp, by simp; omega, by simp; omega, ?_⟩
    simp only [List.drop_zero]
    rw [hb]
    exact left_add (by omega)
  · exact weak_seal 0 (by omega) (by simp) (by simp [List.replicate])
  · rintro N hN ⟨i, l'⟩ ⟨hi, g1, g2, hs⟩
    change i ≤ xs.length at hi
    change 0 ≤ l' at g1
    change l' ≤ 1048576 at g2
    change left (sizes xs) l = left (below1 (xs.drop i)) l' at hs
    have hw : IntKind.i64.wrap ((i : Int) + 1) = ((i + 1 : Nat) : Int) := by rw [wrap_i64] <;> omega
    refine go_ok (tab_cons ih tab_nil) ?_
    by_cases h : i < xs.length
    · have h2 : ¬ xs.length ≤ i := by omega
      have h3 : xs[i].size ≤ n := Nat.le_trans (size_mem h) hn
      unfold below1 at hs
      rw [sum_drop (fun x => sizes x.args) h] at hs
      simp [List.replicate, hw, h, h2, h3, g1, g2]
      refine ⟨fun k => ?_, fun k => ?_⟩
      · rw [hs, left_add_neg (left_lt0.1 k)]
      · have k := left_ge0.1 k
        rw [left_ge k]
        refine hN _ (i + 1, l' - sizes xs[i].args) _ ⟨by omega, ?_, ?_, ?_⟩ ?_ (weak_seal 0 (by omega) ?_ ?_)
        · simp; omega
        · simp; omega
        · rw [hs, left_add k]; rfl
        · simp; omega
        · simp
        · simp [List.replicate]
    · have e : i = xs.length := by omega
      subst e
      simp [List.drop_length, below1, left_zero g1] at hs
      simp [List.replicate, hw, hs]
theorem ok_szFmn {n : Nat} (ih : (ct_szFmSn n).Ok Try.prog) : (ct_szFmn (n + 1)).Ok Try.prog := by
  rintro ⟨x, l⟩ ⟨hn, h1, h2⟩
  change x.size ≤ n + 1 at hn
  change 0 ≤ l at h1
  change l ≤ 1048576 at h2
  rw [size_eq] at hn
  have h3 : sizes x.args ≤ n := by omega
  refine Ok.of_cw fok_laws_szFormula (go_ok (tab_cons ih tab_nil) ?_)
  simp [code_laws_szFormula, List.replicate, h1, h2, h3]
  intro h
  rw [left_lt0] at h
  exact left_neg h
theorem ok_szFms : ∀ n, (ct_szFmn n).Ok Try.prog
  | 0 => by rintro ⟨x, l⟩ ⟨h, _, _⟩; change x.size ≤ 0 at h; rw [size_eq] at h; omega
  | n + 1 => ok_szFmn (ok_szFmSn (ok_szFms n))
@[simp] def ct_szFm : Ct := ⟨44, Fm × Int, fun x => 0 ≤ x.2 ∧ x.2 ≤ 1048576, fun x => [encFm x.1, .int .i64 x.2], fun x => .int .i64 (left (sizes x.1.args) x.2)⟩
theorem ok_szFm : ct_szFm.Ok Try.prog := fun x h => ok_szFms x.1.size x ⟨Nat.le_refl _, h.1, h.2⟩
@[simp] def ct_toFmSn (n : Nat) : Ct := ⟨117, List Fm, fun xs => sizes xs ≤ n ∧ sizes xs ≤ 1048576, fun xs => [encL 5 encFm xs], fun xs => encL 5 encFm xs⟩
@[simp] def ct_toFmn (n : Nat) : Ct := ⟨46, Fm, fun x => x.size ≤ n ∧ sizes x.args ≤ 1048576, fun x => [encFm x], fun x => encFm x⟩
set_option maxHeartbeats 1000000 in
theorem ok_toFmSn {n : Nat} (ih : (ct_toFmn n).Ok Try.prog) : (ct_toFmSn n).Ok Try.prog := by
  rintro xs ⟨hn, hx⟩
  change List Fm at xs
  change sizes xs ≤ n at hn
  change sizes xs ≤ 1048576 at hx
  have hx1 := sizes_len xs
  have hx2 : ∀ i (h : i < xs.length), xs[i].size ≤ n ∧ sizes xs[i].args ≤ 1048576 := fun i h => by
    have := size_mem h
    have h2 := size_eq xs[i]
    omega
  refine Ok.of_cw fok_laws_toFormulaS (go_ok tab_nil ?_)
  simp [code_laws_toFormulaS, List.replicate]
  refine ⟨by omega, by omega, ?_⟩
  refine cw_round (fun (p : Nat × List Fm) => ⟨slots 23 [(0, encL 5 encFm xs), (3, .slref 0 0 p.2.length p.2.length), (4, .int .i64 p.1)], [.row true 57 5 (p.2.map encFm)]⟩)
    (fun p => p.1 ≤ xs.length ∧ p.2.length = xs.length ∧ p.2.take p.1 = xs.take p.1) (fun p => xs.length - p.1) (0, List.replicate xs.length (.mk 0 0 0 0 [])) (by simp) ?_ ?_
  · refine weak_seal 1 (by omega) ?_ ?_
    · simp
    · simp [List.replicate]
  · rintro N hN ⟨i, ys⟩ ⟨hi, hl, ht⟩
    simp only at hi hl ht
    have hw : IntKind.i64.wrap ((i : Int) + 1) = ((i + 1 : Nat) : Int) := by rw [wrap_i64] <;> omega
    refine go_ok (tab_cons ih tab_nil) ?_
    by_cases h : i < xs.length
    · have h' : i < ys.length := by omega
      have h2 : ¬ xs.length ≤ i := by omega
      have h3 := hx2 i h
      simp [List.replicate, hw, h, h', h2, h3]
      refine hN _ (i + 1, ys.set i xs[i]) _ ⟨by omega, by simp [hl], ?_⟩ ?_ (weak_seal 1 (by omega) ?_ ?_)
      · exact fill_take h hl ht
      · simp; omega
      · simp
      · simp [List.replicate]
    · simp [List.replicate, hw, h]
      have e : i = xs.length := by omega
      subst e
      rw [← List.take_length (l := xs), ← ht, ← hl, List.take_length]
      simp
theorem ok_toFmn {n : Nat} (ih : (ct_toFmSn n).Ok Try.prog) : (ct_toFmn (n + 1)).Ok Try.prog := by
  rintro ⟨a, b, c, d, l⟩ ⟨hn, hx⟩
  change (Fm.mk a b c d l).size ≤ n + 1 at hn
  change sizes l ≤ 1048576 at hx
  simp only [Fm.size] at hn
  have h3 : sizes l ≤ n := by omega
  refine Ok.of_cw fok_laws_toFormula (go_ok (tab_cons ih tab_nil) ?_)
  simp [code_laws_toFormula, List.replicate, h3, hx]
theorem ok_toFms : ∀ n, (ct_toFmn n).Ok Try.prog
  | 0 => by
    rintro x ⟨h, _⟩
    change Fm at x
    change x.size ≤ 0 at h
    rw [size_eq] at h; omega
  | n + 1 => ok_toFmn (ok_toFmSn (ok_toFms n))
@[simp] def ct_toFm : Ct := ⟨46, Fm, fun x => sizes x.args ≤ 1048576, fun x => [encFm x], fun x => encFm x⟩
theorem ok_toFm : ct_toFm.Ok Try.prog := fun x h => ok_toFms x.size x ⟨Nat.le_refl _, h⟩
end Go.Vm
