/- slices.Clone into a row of its own, and slices.Delete on the caller's row. No condition. -/
import Derived.Test.YtkclkieeapdeiaaTKC
import Derived.Test.YtkclkieeapdeiaaTSL
set_option linter.unusedSimpArgs false
set_option linter.unusedVariables false
namespace Go.Vm
open Go.Proofs
theorem OkH.any {P : Program} {f sz : Nat} {H H' : List Blk} {r : AV} (h1 : OkH P f [.sl .nil sz []] H r H') (h2 : OkH P f [.sl .non sz []] H r H') : OkH P f [.sl .any sz []] H r H' := by
  intro B w μ vs R hv
  have key : ∀ v, RepV B w H μ (.sl .any sz []) v → RepV B w H μ (.sl .nil sz []) v ∨ RepV B w H μ (.sl .non sz []) v := by
    rintro v ⟨r0, r⟩
    simp only [RepR0] at r
    cases r with
    | nilSl _ => exact .inl ⟨r0, .nilSl (by simp)⟩
    | slE _ hm => exact .inr ⟨r0, .slE (by simp) hm⟩
    | sl _ hn hc hm h => exact .inr ⟨r0, .sl (by simp) hn hc hm h⟩
  generalize hvs : vs.toList = l at *
  cases hv with
  | cons h t =>
    cases t
    rcases key _ h with h | h
    · exact h1 B w μ vs R (by rw [hvs]; exact .cons h .nil)
    · exact h2 B w μ vs R (by rw [hvs]; exact .cons h .nil)
def code_slices_Clone_int_int : F := ⟨8, [.tmp 2],
 .seq (.reg [⟨some 2, .mov (.k (.sl .nil 0 [])), none⟩])
 (.seq (.seq (.reg [⟨some 3, .mov (.t 0), none⟩,
      ⟨some 4, .isnil false (.t 3), none⟩])
   (.cond (.t 4)
    (.seq (.reg [⟨some 2, .mov (.k (.sl .nil 0 [])), none⟩])
     (.ret))
    (.skip)))
  (.seq (.reg [⟨some 5, .bsl 3 1 0 (.int .i64 0) [], none⟩,
      ⟨some 6, .mov (.t 0), none⟩,
      ⟨some 7, .append 3 1 8 (.t 5) (.t 6), none⟩,
      ⟨some 2, .mov (.t 7), none⟩])
   (.ret)))⟩
theorem fok_slices_Clone_int_int : FOk Try.prog 83 code_slices_Clone_int_int := fok Try.func83 (by kernel_rfl)
@[simp] def ct_CloneN : CtN := ⟨83, List Int, fun xs => xs.length ≤ 1048576, fun xs => [encL 1 encInt xs], fun xs => .slref 0 0 xs.length xs.length, fun xs => [.row true 3 1 (xs.map encInt)]⟩
theorem ok_CloneN : ct_CloneN.Ok Try.prog where
  ok := by
    intro xs hx
    change List Int at xs
    change xs.length ≤ 1048576 at hx
    have h4 : xs.length * 8 ≤ 140737488355328 := by omega
    cases xs with
    | nil =>
      refine OkH.any (sz := 0) ?_ ?_
      · refine OkH.of_cw fok_slices_Clone_int_int (go_ok tab_nil ?_)
        simp [code_slices_Clone_int_int, List.replicate]
        refine ⟨⟨[.undef, .undef, .slref 0 0 0 0, .undef, .undef, .undef, .undef, .undef], [.row true 3 1 []]⟩, (weak_nil 2 3 1 rfl rfl).trans (weak_less (by simp) (by simp)), ?_⟩
        simp [retH]
      · refine OkH.of_cw fok_slices_Clone_int_int (go_ok tab_nil ?_)
        simp [code_slices_Clone_int_int, List.replicate]
        refine ⟨_, Weak.refl _ _, ?_⟩
        simp [retH]
    | cons x xs =>
      refine OkH.of_cw fok_slices_Clone_int_int (go_ok tab_nil ?_)
      have hn : nilOf [] (encL 1 encInt (x :: xs)) = some false := rfl
      have h5 : (xs.length + 1) * 8 ≤ 140737488355328 := by simpa using h4
      simp [code_slices_Clone_int_int, List.replicate, -List.map_cons, -appRow, appRow_all, hn, h5]
      refine ⟨_, Weak.refl _ _, ?_⟩
      simp [retH, -List.map_cons]
  res := fun x _ => rfl
  new := fun x _ k hk => by
    have : k = .row true 3 1 (List.map encInt x) := by simpa using hk
    subst this
    exact ownVL_ints
theorem opsWp_take {P : Program} : ∀ (n : Nat) {os : List OpR} {K : St → Prop} {st : St}, opsWp P (os.take n) (opsWp P (os.drop n) K) st → opsWp P os K st
  | 0, os, K, st, h => h
  | n + 1, [], K, st, h => h
  | n + 1, o :: os, K, st, h => by
    simp only [List.take_succ_cons, List.drop_succ_cons] at h
    unfold opsWp at h ⊢
    have mo : ∀ st, opsWp P (os.take n) (opsWp P (os.drop n) K) st → opsWp P os K st := fun st => opsWp_take n
    cases hg : o.guard with
    | none =>
      simp only [hg] at h ⊢
      rcases h with ⟨v, H', h1, h2⟩ | ⟨e, sz, bytes, s, x, b, off, len, els, xs, h1, h2, h3, h4, h5, h6, h7, h8, h9⟩
      · exact .inl ⟨v, H', h1, mo _ h2⟩
      · exact .inr ⟨e, sz, bytes, s, x, b, off, len, els, xs, h1, h2, h3, h4, h5, h6, h7, mo _ h8, mo _ h9⟩
    | some p =>
      obtain ⟨t, want⟩ := p
      simp only [hg] at h ⊢
      split at h
      · exact ⟨fun e => by obtain ⟨v, H', h1, h2⟩ := h.1 e; exact ⟨v, H', h1, mo _ h2⟩, fun e => mo _ (h.2 e)⟩
      · exact mo _ h
      · exact h
theorem opsWp_evX {P : Program} {d sz : Nat} {x lo hi : Opd} {os : List OpR} {K : St → Prop} {t : List AV} {H : List Blk} {ow : Bool} {e2 : Nat} {els : List AV} {b off len tot x0 y0 : Nat} (hx : x.ev t = .slref b off len tot) (hb : H[b]? = some (.row ow e2 sz els)) (ht : els.length = tot)
    (hc : cutOf (tot - off) (some (lo.ev t)) (some (hi.ev t)) = some (x0, y0)) (hne : x0 < y0) (h : opsWp P os K ⟨t.set d (.slref b (off + x0) (y0 - x0) tot), H⟩) : opsWp P (⟨some d, .slice sz x (some lo) (some hi), none⟩ :: os) K ⟨t, H⟩ :=
  .inl ⟨_, _, .evX hx hb ht hc hne, h⟩
def code_slices_Delete_int_int : F := ⟨33, [.tmp 6],
 .seq (.reg [⟨some 6, .mov (.k (.sl .nil 0 [])), none⟩])
 (.seq (.reg [⟨some 8, .mov (.t 0), none⟩,
     ⟨some 9, .mov (.t 1), none⟩,
     ⟨some 10, .mov (.t 2), none⟩,
     ⟨some 11, .mov (.t 0), none⟩,
     ⟨some 12, .len (.t 11), none⟩,
     ⟨some 13, .chk3 (.t 8) (.t 9) (.t 10) (.t 12), none⟩])
  (.seq (.seq (.reg [⟨some 14, .mov (.t 1), none⟩,
       ⟨some 15, .mov (.t 2), none⟩,
       ⟨some 16, .bin .eql (.t 14) (.t 15), none⟩])
    (.cond (.t 16)
     (.seq (.reg [⟨some 17, .mov (.t 0), none⟩,
         ⟨some 6, .mov (.t 17), none⟩])
      (.ret))
     (.skip)))
   (.seq (.reg [⟨some 18, .mov (.t 0), none⟩,
       ⟨some 19, .len (.t 18), none⟩,
       ⟨some 7, .mov (.t 19), none⟩])
    (.seq (.dreg [false, false, false, false, false, false, true, true] [false, false, false, false, false, false, false, false] [⟨some 20, .mov (.t 0), none⟩,
        ⟨some 21, .mov (.t 1), none⟩,
        ⟨some 22, .slice 1 (.t 20) none (some (.t 21)), none⟩,
        ⟨some 23, .mov (.t 0), none⟩,
        ⟨some 24, .mov (.t 2), none⟩,
        ⟨some 25, .slice 1 (.t 23) (some (.t 24)) none, none⟩,
        ⟨some 26, .append 3 1 8 (.t 22) (.t 25), none⟩,
        ⟨some 0, .mov (.t 26), none⟩])
     (.seq (.reg [⟨some 27, .mov (.t 0), none⟩,
         ⟨some 28, .mov (.t 0), none⟩,
         ⟨some 29, .len (.t 28), none⟩,
         ⟨some 30, .mov (.t 7), none⟩,
         ⟨some 31, .slice 1 (.t 27) (some (.t 29)) (some (.t 30)), none⟩,
         ⟨none, .clear ((.int .i64 0)) (.t 31), none⟩])
      (.seq (.reg [⟨some 32, .mov (.t 0), none⟩,
          ⟨some 6, .mov (.t 32), none⟩])
       (.ret)))))))⟩
theorem fok_slices_Delete_int_int : FOk Try.prog 97 code_slices_Delete_int_int := fok Try.func97 (by kernel_rfl)
@[simp] def ct_Delete : CtH := ⟨97, Nat × Nat × List Int, fun x H => H[x.1]? = some (.row true 3 1 (x.2.2.map encInt)) ∧ x.2.1 < x.2.2.length ∧ x.2.2.length ≤ 1000, fun x => [.slref x.1 0 x.2.2.length x.2.2.length, .int .i64 x.2.1, .int .i64 ((x.2.1 : Int) + 1)],
  fun x _ => .slref x.1 0 (x.2.2.length - 1) x.2.2.length, fun x H => H.set x.1 (.row true 3 1 ((x.2.2.eraseIdx x.2.1 ++ [0]).map encInt))⟩
theorem ok_Delete : ct_Delete.Ok Try.prog := by
  rintro ⟨b, i, xs⟩ H ⟨h1, h2, h3⟩
  change H[b]? = some (.row true 3 1 (xs.map encInt)) at h1
  change i < xs.length at h2
  change xs.length ≤ 1000 at h3
  have hb : b < H.length := (List.getElem?_eq_some_iff.1 h1).1
  have hg : ∀ x, (H.set b x)[b]? = some x := fun x => by simp [hb]
  refine OkH.of_cw' fok_slices_Delete_int_int ?_
  simp only [code_slices_Delete_int_int, frame, List.length_cons, List.length_nil, List.replicate, Nat.reduceSub, Nat.reduceAdd, List.cons_append, List.nil_append]
  refine cw_seq (go_ok tab_nil ?_); simp
  refine cw_seq (go_ok tab_nil ?_); simp [List.replicate, h1]
  refine ⟨by omega, by omega, ?_⟩
  have w1 : ¬ ((i : Int) = (i : Int) + 1) := by omega
  refine cw_seq (go_ok tab_nil ?_); simp [List.replicate, w1]
  refine cw_seq (go_ok tab_nil ?_); simp [List.replicate, h1]
  have e1 : (i : Int) ≤ xs.length := by omega
  have e2 : (i : Int) + 1 ≤ xs.length := by omega
  have e3 : ((i : Int) + 1).toNat = i + 1 := by omega
  have e4 : i + (xs.length - (i + 1)) = xs.length - 1 := by omega
  have e5 : (i + 1) + (xs.length - (i + 1)) = xs.length := by omega
  have e6 : (xs.length - 1) * 8 ≤ 140737488355328 := by omega
  have e7 : xs.length - 1 ≤ xs.length := by omega
  have e8 : (0 : Int) ≤ (i : Int) + 1 := by omega
  have e9 : i ≤ xs.length := by omega
  refine cw_seq (go_ok tab_nil ?_); simp [List.replicate, h1, e1, e2, e3, e4, e5, e6, e7, e8, e9]
  have hz : xs.drop (xs.length - 1) = [xs[xs.length - 1]'(by omega)] := by
    rw [List.drop_eq_getElem_cons (by omega), List.drop_of_length_le (by omega)]
  have hrow : List.take i (List.map encInt xs) ++ (List.take (xs.length - (i + 1)) (List.drop (i + 1) (List.map encInt xs)) ++ List.drop (xs.length - 1) (List.map encInt xs)) = (xs.eraseIdx i).map encInt ++ [encInt (xs[xs.length - 1]'(by omega))] := by
    rw [List.eraseIdx_eq_take_drop_succ, ← List.map_drop, ← List.map_drop, hz, List.take_of_length_le (l := (xs.drop (i + 1)).map encInt) (by simp)]
    simp [List.map_take, List.map_drop]
  rw [hrow]
  have hyl : (xs.eraseIdx i).length = xs.length - 1 := by rw [List.length_eraseIdx]; simp [h2]
  generalize xs.eraseIdx i = ys at *
  generalize xs[xs.length - 1]'(by omega) = z at *
  have hcut : cutOf (xs.length - 0) (some (.int .i64 ((xs.length - 1 : Nat) : Int))) (some (.int .i64 (xs.length : Int))) = some (xs.length - 1, xs.length) := by
    have f1 : ((xs.length - 1 : Nat) : Int) ≤ xs.length := by omega
    simp [cutOf, hiOf, loOf, natOf, f1]
  have hn1 : 0 < xs.length := by omega
  have hl : (List.map encInt ys ++ [encInt z]).length = xs.length := by simp [hyl]; omega
  refine cw_seq (cw_reg (opsWp_take 4 (opsK_ok tab_nil ?_)))
  simp [List.replicate, hg, hyl, hn1]
  have u1 : xs.length - (xs.length - 1) = 1 := by omega
  have u2 : 0 + (xs.length - 1) = xs.length - 1 := by omega
  have u3 : xs.length - 1 + 1 = xs.length := by omega
  refine ⟨u3, opsWp_evX rfl (hg _) hl hcut (by omega) (opsK_ok tab_nil ?_)⟩
  have v1 : List.take (xs.length - 1) (List.map encInt ys ++ [AV.int .i64 z]) = List.map encInt ys := by
    rw [List.take_append_of_le_length (by simp [hyl]), List.take_of_length_le (by simp [hyl])]
  have v2 : List.drop xs.length (List.map encInt ys ++ [AV.int .i64 z]) = [] := List.drop_of_length_le (by simp [hyl]; omega)
  simp [List.replicate, hg, hyl, u1, u2, u3, v1, v2]
  refine ⟨_, hl.symm, rfl, Nat.le_of_eq hl.symm, ?_⟩
  rw [show List.map encInt ys ++ [encInt z] = List.map encInt ys ++ [AV.int .i64 z] from rfl, v1, v2]
  refine go_ok tab_nil ?_
  simp [retH]
end Go.Vm
