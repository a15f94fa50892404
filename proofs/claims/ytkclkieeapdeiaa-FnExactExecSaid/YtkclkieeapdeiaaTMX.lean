/- Strings that are marked; strings copied into a row of their own. No condition. -/
import Derived.Test.YtkclkieeapdeiaaTSS
import Derived.Test.YtkclkieeapdeiaaTMK
set_option linter.unusedSimpArgs false
set_option linter.unusedVariables false
namespace Go.Vm
open Go.Proofs
def code_laws_markText : F := ⟨20, [.tmp 2],
 .seq (.reg [⟨some 2, .mov (.k (.str [])), none⟩])
 (.seq (.seq (.reg [⟨some 4, .mov (.t 0), none⟩,
      ⟨some 5, .bin .leq (.t 4) (.k (.int .i64 0)), none⟩])
   (.cond (.t 5)
    (.seq (.reg [⟨some 2, .mov (.k (.str [109, 48])), none⟩])
     (.ret))
    (.skip)))
  (.seq (.reg [⟨some 3, .mov (.k (.str [])), none⟩])
   (.seq (.block 0 (.loop (.seq (.seq (.reg [⟨some 6, .mov (.t 0), none⟩,
           ⟨some 7, .bin .gtr (.t 6) (.k (.int .i64 0)), none⟩])
        (.cond (.t 7)
         (.skip)
         (.exit 0)))
       (.block 1 (.seq (.reg [⟨some 8, .mov (.t 0), none⟩,
            ⟨some 9, .bin .rem (.t 8) (.k (.int .i64 10)), none⟩,
            ⟨some 10, .bin .add (.k (.int .i64 48)) (.t 9), none⟩,
            ⟨some 11, .conv .u8 (.t 10), none⟩,
            ⟨some 12, .bsl 5 1 1 (.int .u8 0) [(0, (.t 11))], none⟩,
            ⟨some 13, .b2s (.t 12), none⟩,
            ⟨some 14, .mov (.t 3), none⟩,
            ⟨some 15, .bin .add (.t 13) (.t 14), none⟩,
            ⟨some 3, .mov (.t 15), none⟩])
         (.reg [⟨some 16, .mov (.t 0), none⟩,
            ⟨some 17, .bin .quo (.t 16) (.k (.int .i64 10)), none⟩,
            ⟨some 0, .mov (.t 17), none⟩]))))))
    (.seq (.reg [⟨some 18, .mov (.t 3), none⟩,
        ⟨some 19, .bin .add (.k (.str [109])) (.t 18), none⟩,
        ⟨some 2, .mov (.t 19), none⟩])
     (.ret)))))⟩
theorem fok_laws_markText : FOk Try.prog 68 code_laws_markText := fok Try.func68 (by kernel_rfl)
def code_laws_markStringS : F := ⟨20, [.tmp 4],
 .seq (.reg [⟨some 4, .mov (.k (.int .i64 0)), none⟩])
 (.seq (.seq (.reg [⟨some 5, .mov (.k (.int .i64 0)), none⟩])
   (.block 0 (.loop (.seq (.seq (.reg [⟨some 6, .mov (.t 5), none⟩,
          ⟨some 7, .mov (.t 0), none⟩,
          ⟨some 8, .len (.t 7), none⟩,
          ⟨some 9, .bin .lss (.t 6) (.t 8), none⟩])
       (.cond (.t 9)
        (.skip)
        (.exit 0)))
      (.seq (.block 1 (.seq (.reg [⟨some 12, .mov (.t 0), none⟩,
            ⟨some 13, .mov (.t 5), none⟩,
            ⟨some 14, .mov (.t 1), none⟩,
            ⟨some 15, .call 68 [(.t 14)], none⟩,
            ⟨some 16, .iaddr 1 (.t 12) (.t 13), none⟩,
            ⟨none, .store 1 (.t 16) (.t 15), none⟩])
         (.reg [⟨some 17, .mov (.t 1), none⟩,
            ⟨some 18, .bin .add (.t 17) (.k (.int .i64 1)), none⟩,
            ⟨some 1, .mov (.t 18), none⟩])))
       (.reg [⟨some 10, .mov (.t 5), none⟩,
          ⟨some 11, .bin .add (.t 10) (.k (.int .i64 1)), none⟩,
          ⟨some 5, .mov (.t 11), none⟩]))))))
  (.seq (.reg [⟨some 19, .mov (.t 1), none⟩,
      ⟨some 4, .mov (.t 19), none⟩])
   (.ret)))⟩
theorem fok_laws_markStringS : FOk Try.prog 25 code_laws_markStringS := fok Try.func25 (by kernel_rfl)
def digsTo : Nat → Nat → List UInt8 → List UInt8
  | 0, _, acc => acc
  | f + 1, n, acc => if n = 0 then acc else digsTo f (n / 10) (UInt8.ofNat (48 + n % 10) :: acc)
def markTxt (k : Int) : List UInt8 := if k ≤ 0 then [109, 48] else 109 :: digsTo (k.toNat + 1) k.toNat []
@[simp] def ct_markText : Ct := ⟨68, Int, fun k => k ≤ 1099511627776, fun k => [.int .i64 k], fun k => .str (markTxt k)⟩
set_option maxHeartbeats 1000000 in
theorem ok_markText : ct_markText.Ok Try.prog := by
  intro k hk
  change Int at k
  change k ≤ 1099511627776 at hk
  refine Ok.of_cw fok_laws_markText (go_ok tab_nil ?_)
  by_cases h0 : k ≤ 0
  · simp [code_laws_markText, List.replicate, h0, markTxt]
  · have hR : markTxt k = 109 :: digsTo (k.toNat + 1) k.toNat [] := by unfold markTxt; rw [if_neg h0]
    simp only [ct_markText]
    rw [hR]
    generalize hq : digsTo (k.toNat + 1) k.toNat [] = R
    simp [code_laws_markText, List.replicate, h0]
    refine cw_round (fun (p : Nat × Nat × List UInt8) => ⟨slots 20 [(0, .int .i64 p.2.1), (3, .str p.2.2)], []⟩)
      (fun p => p.2.1 < p.1 ∧ p.2.2.length + p.2.1 ≤ k.toNat ∧ digsTo p.1 p.2.1 p.2.2 = R) (fun p => p.2.1) (k.toNat + 1, k.toNat, []) ⟨by simp, by simp, hq⟩ ?_ ?_
    · refine weak_seal 0 (by omega) (by simp) ?_
      have : ((k.toNat : Nat) : Int) = k := by omega
      simp [List.replicate, this]
    · rintro N hN ⟨f, n, acc⟩ ⟨hf, hn, hd⟩
      change n < f at hf
      change acc.length + n ≤ k.toNat at hn
      change digsTo f n acc = _ at hd
      obtain ⟨f, rfl⟩ : ∃ g, f = g + 1 := ⟨f - 1, by omega⟩
      refine go_ok tab_nil ?_
      by_cases g : n = 0
      · subst g
        simp only [digsTo, if_true] at hd
        subst hd
        simp [List.replicate]
        omega
      · have g1 : 0 < n := by omega
        simp only [digsTo, if_neg g] at hd
        have e1 : (n : Int).tmod 10 = ((n % 10 : Nat) : Int) := by rw [Int.tmod_eq_emod_of_nonneg (by omega)]; omega
        have w2 : IntKind.i64.wrap (48 + (n : Int) % 10) = 48 + (n : Int) % 10 := by rw [wrap_i64] <;> omega
        have w3 : IntKind.u8.wrap (48 + (n : Int) % 10) = 48 + (n : Int) % 10 := by
          have : IntKind.u8.wrap (48 + (n : Int) % 10) = (48 + (n : Int) % 10) % 256 := rfl
          omega
        have w4 : IntKind.i64.wrap ((n : Int) / 10) = ((n / 10 : Nat) : Int) := by rw [wrap_i64] <;> omega
        have w5 : (48 + (n : Int) % 10).toNat = 48 + n % 10 := by omega
        have w6 : bytesOf [.int .u8 (48 + (n : Int) % 10)] = some [UInt8.ofNat (48 + n % 10)] := by simp only [bytesOf, w5, Option.map_some]
        simp [List.replicate, g, g1, e1, w2, w3, w4, w6]
        refine ⟨by omega, ?_⟩
        refine hN (f + 1, n, acc) (f, n / 10, UInt8.ofNat (48 + n % 10) :: acc) _ ⟨by simp; omega, by simp; omega, hd⟩ (by simp; omega) (weak_seal 0 (by omega) (by simp) ?_)
        simp [List.replicate]
/-- The texts that are laid in. -/
def markTs (k : Int) : Nat → List (List UInt8)
  | 0 => []
  | n + 1 => markTs k n ++ [markTxt (k + n)]
@[simp] theorem markTs_len (k : Int) : ∀ n, (markTs k n).length = n
  | 0 => rfl
  | n + 1 => by simp [markTs, markTs_len k n]
theorem set_sameS {H : List Blk} {b : Nat} {k : Blk} (h : H[b]? = some k) : H.set b k = H := by
  obtain ⟨hb, e⟩ := List.getElem?_eq_some_iff.1 h
  rw [← e]; exact List.set_getElem_self hb
@[simp] def ct_markSt (E : Nat) : CtH := ⟨25, Nat × List (List UInt8) × Int, fun x H => (0 ≤ x.2.2 ∧ x.2.2 ≤ 1048576) ∧ x.2.1.length ≤ 1048576 ∧ H[x.1]? = some (.row true E 1 (x.2.1.map encStr)),
  fun x => [.slref x.1 0 x.2.1.length x.2.1.length, .int .i64 x.2.2], fun x _ => .int .i64 (x.2.2 + x.2.1.length), fun x H => H.set x.1 (.row true E 1 ((markTs x.2.2 x.2.1.length).map encStr))⟩
set_option maxHeartbeats 1000000 in
theorem ok_markSt (E : Nat) : (ct_markSt E).Ok Try.prog := by
  rintro ⟨b, xs, k⟩ H ⟨⟨h1, h2⟩, h3, h4⟩
  change 0 ≤ k at h1
  change k ≤ 1048576 at h2
  change xs.length ≤ 1048576 at h3
  change H[b]? = some (.row true E 1 (xs.map encStr)) at h4
  have hb : b < H.length := (List.getElem?_eq_some_iff.1 h4).1
  refine OkH.of_cw' fok_laws_markStringS (go_ok tab_nil ?_)
  simp [code_laws_markStringS, List.replicate]
  refine cw_round (fun (p : Nat × List (List UInt8)) => ⟨slots 20 [(0, .slref b 0 xs.length xs.length), (1, .int .i64 (k + p.1)), (5, .int .i64 p.1)], H.set b (.row true E 1 (p.2.map encStr))⟩)
    (fun p => p.1 ≤ xs.length ∧ p.2.length = xs.length ∧ p.2.take p.1 = markTs k p.1) (fun p => xs.length - p.1) (0, xs) ⟨by simp, rfl, rfl⟩ ?_ ?_
  · simp only [set_sameS h4]
    exact weak_slots (by simp [List.replicate, less_undef, less_refl])
  · rintro N hN ⟨i, ys⟩ ⟨hi, hl, ht⟩
    change i ≤ xs.length at hi
    change ys.length = xs.length at hl
    change ys.take i = markTs k i at ht
    have hw : IntKind.i64.wrap ((i : Int) + 1) = ((i + 1 : Nat) : Int) := by rw [wrap_i64] <;> omega
    have hw2 : IntKind.i64.wrap (k + (i : Int) + 1) = k + ((i + 1 : Nat) : Int) := by rw [wrap_i64] <;> omega
    have hg : ∀ x, (H.set b x)[b]? = some x := fun x => by simp [hb]
    refine go_ok (tab_cons ok_markText tab_nil) ?_
    by_cases h : i < xs.length
    · have h' : i < ys.length := by omega
      have h2 : ¬ xs.length ≤ i := by omega
      have h5 : k + (i : Int) ≤ 1099511627776 := by omega
      simp [List.replicate, hw, hw2, h, h', h2, hg, hl, h5]
      refine hN _ (i + 1, ys.set i (markTxt (k + i))) _ ⟨by omega, by simp [hl], ?_⟩ ?_ ?_
      · rw [markTs, ← ht, List.take_succ_eq_append_getElem (by simp; omega), List.take_set_of_le (Nat.le_refl _)]
        simp
      · simp; omega
      · simp
        exact weak_slots (by simp [List.replicate, less_undef, less_refl])
    · have e : i = xs.length := by omega
      subst e
      rw [List.take_of_length_le (by omega)] at ht
      subst ht
      simp [List.replicate, hw, h, retH, hg]
@[simp] def ct_toStrsN : CtN := ⟨20, List (List UInt8), fun xs => xs.length ≤ 1048576, fun xs => [encL 1 encStr xs], fun xs => .slref 0 0 xs.length xs.length, fun xs => [.row true 9 1 (xs.map encStr)]⟩
set_option maxHeartbeats 1000000 in
theorem ok_toStrsN : ct_toStrsN.Ok Try.prog := by
  refine ⟨?_, fun _ _ => rfl, fun xs _ k hk => by
    change List (List UInt8) at xs
    simp only [ct_toStrsN, List.mem_singleton] at hk; subst hk; simp [ownB, ownVL_all, ownV]⟩
  intro xs hx
  change List (List UInt8) at xs
  change xs.length ≤ 1048576 at hx
  refine OkH.of_cw' fok_laws_toStringS (go_ok tab_nil ?_)
  simp [code_laws_toStringS, List.replicate]
  refine ⟨by omega, by omega, ?_⟩
  refine cw_round (fun (p : Nat × List (List UInt8)) => ⟨slots 22 [(0, encL 1 encStr xs), (3, .slref 0 0 p.2.length p.2.length), (4, .int .i64 p.1)], [.row true 9 1 (p.2.map encStr)]⟩)
    (fun p => p.1 ≤ xs.length ∧ p.2.length = xs.length ∧ p.2.take p.1 = xs.take p.1) (fun p => xs.length - p.1) (0, List.replicate xs.length []) (by simp) ?_ ?_
  · exact weak_seal 1 (by simp) (by simp) (by simp [List.replicate])
  · rintro N hN ⟨i, ys⟩ ⟨hi, hl, ht⟩
    simp only at hi hl ht
    have hw : IntKind.i64.wrap ((i : Int) + 1) = ((i + 1 : Nat) : Int) := by rw [wrap_i64] <;> omega
    refine go_ok tab_nil ?_
    by_cases h : i < xs.length
    · have h' : i < ys.length := by omega
      have h2 : ¬ xs.length ≤ i := by omega
      simp [List.replicate, hw, h, h', h2]
      refine hN _ (i + 1, ys.set i xs[i]) _ ⟨by omega, by simp [hl], ?_⟩ ?_ (weak_seal 1 (by simp) ?_ ?_)
      · exact fill_take h hl ht
      · simp; omega
      · simp
      · simp [List.replicate]
    · have e : i = xs.length := by omega
      subst e
      rw [List.take_length] at ht
      rw [List.take_of_length_le (by omega)] at ht
      subst ht
      simp [List.replicate, hw, h, retH]
end Go.Vm
