/- What the laws copy into rows of their own, mark and read again: numbers and heaps. No condition. -/
import Derived.Test.YtkclkieeapdeiaaTL2
import Derived.Test.YtkclkieeapdeiaaTU
import Derived.Test.YtkclkieeapdeiaaVme
set_option linter.unusedSimpArgs false
set_option linter.unusedVariables false
namespace Go.Vm
open Go.Proofs
@[simp] theorem map_encInt_inj (a b : List Int) : (List.map encInt a = List.map encInt b) = (a = b) := by
  apply propext
  constructor
  · intro h
    exact (List.map_inj_right (fun x y e => by simpa using e)).1 h
  · rintro rfl; rfl
/-- The marks from a number on. -/
def marks (k : Int) : Nat → List Int
  | 0 => []
  | n + 1 => k :: marks (k + 1) n
@[simp] theorem marks_len : ∀ (k : Int) (n : Nat), (marks k n).length = n
  | _, 0 => rfl
  | k, n + 1 => by simp [marks, marks_len (k + 1) n]
theorem marks_get : ∀ (k : Int) (n j : Nat), j < n → (marks k n)[j]? = some (k + j)
  | _, 0, j, h => by omega
  | k, n + 1, 0, _ => by simp [marks]
  | k, n + 1, j + 1, h => by
    simp only [marks, List.getElem?_cons_succ]
    rw [marks_get (k + 1) n j (by omega)]
    congr 1; omega
theorem marks_snoc : ∀ (k : Int) (n : Nat), marks k (n + 1) = marks k n ++ [k + n]
  | k, 0 => by simp [marks]
  | k, n + 1 => by
    rw [marks, marks_snoc (k + 1) n, marks]
    simp; omega
theorem set_same {α : Type} {l : List α} {b : Nat} {x : α} (h : l[b]? = some x) : l.set b x = l := by
  apply List.ext_getElem?
  intro j
  by_cases e : b = j
  · subst e; rw [List.getElem?_set_self (List.getElem?_eq_some_iff.1 h).1, h]
  · rw [List.getElem?_set_ne e]
theorem selfB_set {H : List Blk} {b : Nat} {k : Blk} (h : SelfB H) (hk : ∀ n H2, SlB n H2 k k) : SelfB (H.set b k) := by
  intro n hn H2
  rw [List.length_set] at hn
  exact (h n hn H2).set b (hk n H2)
theorem slB_ints {n E : Nat} {H2 : List Blk} {xs : List Int} : SlB n H2 (.row true E 1 (xs.map encInt)) (.row true E 1 (xs.map encInt)) := by
  simp
theorem weak_back {n0 : Nat} {H X : List Blk} {t t' : List AV} (hB : SelfB H) (hn : n0 ≤ H.length) (ht : All2 (SlV (H.length + 0) (H ++ X)) t t') : Weak n0 ⟨t, H ++ X⟩ ⟨t', H⟩ := by
  have := weak_sealH 0 (X' := []) hB hn (by simp) ht
  rwa [List.append_nil] at this
def code_laws_markIntS : F := ⟨19, [.tmp 4],
 .seq (.reg [⟨some 4, .mov (.k (.int .i64 0)), none⟩])
 (.seq (.seq (.reg [⟨some 5, .mov (.k (.int .i64 0)), none⟩])
   (.block 0 (.loop (.seq (.seq (.reg [⟨some 6, .mov (.t 5), none⟩,
          ⟨some 7, .mov (.t 0), none⟩,
          ⟨some 8, .len (.t 7), none⟩,
          ⟨some 9, .bin .lss (.t 6) (.t 8), none⟩])
       (.cond (.t 9)
        (.skip)
        (.exit 0)))
      (.seq (.block 1 (.seq (.reg [⟨some 12, .mov (.t 0), none⟩,
            ⟨some 13, .mov (.t 5), none⟩,
            ⟨some 14, .mov (.t 1), none⟩,
            ⟨some 15, .iaddr 1 (.t 12) (.t 13), none⟩,
            ⟨none, .store 1 (.t 15) (.t 14), none⟩])
         (.reg [⟨some 16, .mov (.t 1), none⟩,
            ⟨some 17, .bin .add (.t 16) (.k (.int .i64 1)), none⟩,
            ⟨some 1, .mov (.t 17), none⟩])))
       (.reg [⟨some 10, .mov (.t 5), none⟩,
          ⟨some 11, .bin .add (.t 10) (.k (.int .i64 1)), none⟩,
          ⟨some 5, .mov (.t 11), none⟩]))))))
  (.seq (.reg [⟨some 18, .mov (.t 1), none⟩,
      ⟨some 4, .mov (.t 18), none⟩])
   (.ret)))⟩
theorem fok_laws_markIntS : FOk Try.prog 69 code_laws_markIntS := fok Try.func69 (by kernel_rfl)
def code_laws_heldIntS : F := ⟨21, [.tmp 4],
 .seq (.reg [⟨some 4, .mov (.k (.int .i64 0)), none⟩])
 (.seq (.seq (.reg [⟨some 5, .mov (.k (.int .i64 0)), none⟩])
   (.block 0 (.loop (.seq (.seq (.reg [⟨some 6, .mov (.t 5), none⟩,
          ⟨some 7, .mov (.t 0), none⟩,
          ⟨some 8, .len (.t 7), none⟩,
          ⟨some 9, .bin .lss (.t 6) (.t 8), none⟩])
       (.cond (.t 9)
        (.skip)
        (.exit 0)))
      (.seq (.block 1 (.seq (.seq (.reg [⟨some 12, .mov (.t 0), none⟩,
             ⟨some 13, .mov (.t 5), none⟩,
             ⟨some 14, .iaddr 1 (.t 12) (.t 13), none⟩,
             ⟨some 15, .load 1 false (.t 14), none⟩,
             ⟨some 16, .mov (.t 1), none⟩,
             ⟨some 17, .bin .neq (.t 15) (.t 16), none⟩])
          (.cond (.t 17)
           (.seq (.reg [⟨some 4, .mov (.k (.int .i64 (-1))), none⟩])
            (.ret))
           (.skip)))
         (.reg [⟨some 18, .mov (.t 1), none⟩,
            ⟨some 19, .bin .add (.t 18) (.k (.int .i64 1)), none⟩,
            ⟨some 1, .mov (.t 19), none⟩])))
       (.reg [⟨some 10, .mov (.t 5), none⟩,
          ⟨some 11, .bin .add (.t 10) (.k (.int .i64 1)), none⟩,
          ⟨some 5, .mov (.t 11), none⟩]))))))
  (.seq (.reg [⟨some 20, .mov (.t 1), none⟩,
      ⟨some 4, .mov (.t 20), none⟩])
   (.ret)))⟩
theorem fok_laws_heldIntS : FOk Try.prog 70 code_laws_heldIntS := fok Try.func70 (by kernel_rfl)
def code_laws_markHeap : F := ⟨14, [.tmp 4],
 .seq (.reg [⟨some 2, .box (.t 0), none⟩,
    ⟨some 4, .mov (.k (.int .i64 0)), none⟩])
 (.seq (.reg [⟨some 5, .faddr 0 (.t 2), none⟩,
     ⟨some 6, .load 1 false (.t 5), none⟩,
     ⟨some 7, .mov (.t 1), none⟩,
     ⟨some 8, .call 69 [(.t 6), (.t 7)], none⟩,
     ⟨some 1, .mov (.t 8), none⟩])
  (.seq (.reg [⟨some 9, .faddr 1 (.t 2), none⟩,
      ⟨some 10, .load 1 false (.t 9), none⟩,
      ⟨some 11, .mov (.t 1), none⟩,
      ⟨some 12, .call 69 [(.t 10), (.t 11)], none⟩,
      ⟨some 1, .mov (.t 12), none⟩])
   (.seq (.reg [⟨some 13, .mov (.t 1), none⟩,
       ⟨some 4, .mov (.t 13), none⟩])
    (.ret))))⟩
theorem fok_laws_markHeap : FOk Try.prog 26 code_laws_markHeap := fok Try.func26 (by kernel_rfl)
def code_laws_heldHeap : F := ⟨18, [.tmp 4],
 .seq (.reg [⟨some 2, .box (.t 0), none⟩,
    ⟨some 4, .mov (.k (.int .i64 0)), none⟩])
 (.seq (.reg [⟨some 5, .faddr 0 (.t 2), none⟩,
     ⟨some 6, .load 1 false (.t 5), none⟩,
     ⟨some 7, .mov (.t 1), none⟩,
     ⟨some 8, .call 70 [(.t 6), (.t 7)], none⟩,
     ⟨some 1, .mov (.t 8), none⟩])
  (.seq (.seq (.reg [⟨some 9, .mov (.t 1), none⟩,
       ⟨some 10, .bin .lss (.t 9) (.k (.int .i64 0)), none⟩])
    (.cond (.t 10)
     (.seq (.reg [⟨some 4, .mov (.k (.int .i64 (-1))), none⟩])
      (.ret))
     (.skip)))
   (.seq (.reg [⟨some 11, .faddr 1 (.t 2), none⟩,
       ⟨some 12, .load 1 false (.t 11), none⟩,
       ⟨some 13, .mov (.t 1), none⟩,
       ⟨some 14, .call 70 [(.t 12), (.t 13)], none⟩,
       ⟨some 1, .mov (.t 14), none⟩])
    (.seq (.seq (.reg [⟨some 15, .mov (.t 1), none⟩,
         ⟨some 16, .bin .lss (.t 15) (.k (.int .i64 0)), none⟩])
      (.cond (.t 16)
       (.seq (.reg [⟨some 4, .mov (.k (.int .i64 (-1))), none⟩])
        (.ret))
       (.skip)))
     (.seq (.reg [⟨some 17, .mov (.t 1), none⟩,
         ⟨some 4, .mov (.t 17), none⟩])
      (.ret))))))⟩
theorem fok_laws_heldHeap : FOk Try.prog 27 code_laws_heldHeap := fok Try.func27 (by kernel_rfl)
@[simp] def ct_toIntN : CtN := ⟨66, List Int, fun xs => xs.length ≤ 1048576, fun xs => [encL 1 encInt xs], fun xs => .slref 0 0 xs.length xs.length, fun xs => [.row true 3 1 (xs.map encInt)]⟩
set_option maxHeartbeats 1000000 in
theorem ok_toIntN : ct_toIntN.Ok Try.prog := by
  refine ⟨?_, fun _ _ => rfl, fun xs _ k hk => by
    change List Int at xs
    simp only [ct_toIntN, List.mem_singleton] at hk; subst hk; simp [ownB]⟩
  intro xs hx
  change List Int at xs
  change xs.length ≤ 1048576 at hx
  refine OkH.of_cw' fok_laws_toIntS (go_ok tab_nil ?_)
  simp [code_laws_toIntS, List.replicate]
  refine ⟨by omega, by omega, ?_⟩
  refine cw_round (fun (p : Nat × List Int) => ⟨slots 22 [(0, encL 1 encInt xs), (3, .slref 0 0 p.2.length p.2.length), (4, .int .i64 p.1)], [.row true 3 1 (p.2.map encInt)]⟩)
    (fun p => p.1 ≤ xs.length ∧ p.2.length = xs.length ∧ p.2.take p.1 = xs.take p.1) (fun p => xs.length - p.1) (0, List.replicate xs.length 0) (by simp) ?_ ?_
  · exact weak_seal 1 (by simp) (by simp) (by simp [List.replicate])
  · rintro N hN ⟨i, ys⟩ ⟨hi, hl, ht⟩
    simp only at hi hl ht
    have hw : IntKind.i64.wrap ((i : Int) + 1) = ((i + 1 : Nat) : Int) := by rw [wrap_i64] <;> omega
    refine go_ok tab_nil ?_
    by_cases h : i < xs.length
    · have h' : i < ys.length := by omega
      have h2 : ¬ xs.length ≤ i := by omega
      simp [List.replicate, hw, h, h', h2]
      refine hN _ (i + 1, ys.set i xs[i]) _ ⟨by omega, by simp [hl], ?_⟩ ?_ (weak_seal 1 (by simp) ?_ ?_)
      · exact fill_take h hl ht
      · simp; omega
      · simp
      · simp [List.replicate]
    · have e : i = xs.length := by omega
      subst e
      rw [List.take_length] at ht
      rw [List.take_of_length_le (by omega)] at ht
      subst ht
      simp [List.replicate, hw, h, retH]
@[simp] def ct_markI (E : Nat) : CtH := ⟨69, Nat × List Int × Int, fun x H => (0 ≤ x.2.2 ∧ x.2.2 ≤ 1099511627776) ∧ x.2.1.length ≤ 1099511627776 ∧ H[x.1]? = some (.row true E 1 (x.2.1.map encInt)),
  fun x => [.slref x.1 0 x.2.1.length x.2.1.length, .int .i64 x.2.2], fun x _ => .int .i64 (x.2.2 + x.2.1.length), fun x H => H.set x.1 (.row true E 1 ((marks x.2.2 x.2.1.length).map encInt))⟩
set_option maxHeartbeats 1000000 in
theorem ok_markI (E : Nat) : (ct_markI E).Ok Try.prog := by
  rintro ⟨b, xs, k⟩ H ⟨⟨h1, h2⟩, h3, h4⟩
  change 0 ≤ k at h1
  change k ≤ 1099511627776 at h2
  change xs.length ≤ 1099511627776 at h3
  change H[b]? = some (.row true E 1 (xs.map encInt)) at h4
  have hb : b < H.length := (List.getElem?_eq_some_iff.1 h4).1
  refine OkH.of_cw' fok_laws_markIntS (go_ok tab_nil ?_)
  simp [code_laws_markIntS, List.replicate]
  refine cw_round (fun (p : Nat × List Int) => ⟨slots 19 [(0, .slref b 0 xs.length xs.length), (1, .int .i64 (k + p.1)), (5, .int .i64 p.1)], H.set b (.row true E 1 (p.2.map encInt))⟩)
    (fun p => p.1 ≤ xs.length ∧ p.2.length = xs.length ∧ p.2.take p.1 = marks k p.1) (fun p => xs.length - p.1) (0, xs) ⟨by simp, rfl, rfl⟩ ?_ ?_
  · simp only [set_same h4]
    exact weak_slots (by simp [List.replicate, less_undef, less_refl])
  · rintro N hN ⟨i, ys⟩ ⟨hi, hl, ht⟩
    change i ≤ xs.length at hi
    change ys.length = xs.length at hl
    change ys.take i = marks k i at ht
    have hw : IntKind.i64.wrap ((i : Int) + 1) = ((i + 1 : Nat) : Int) := by rw [wrap_i64] <;> omega
    have hw2 : IntKind.i64.wrap (k + (i : Int) + 1) = k + ((i + 1 : Nat) : Int) := by rw [wrap_i64] <;> omega
    have hg : ∀ x, (H.set b x)[b]? = some x := fun x => by simp [hb]
    refine go_ok tab_nil ?_
    by_cases h : i < xs.length
    · have h' : i < ys.length := by omega
      have h2 : ¬ xs.length ≤ i := by omega
      simp [List.replicate, hw, hw2, h, h', h2, hg, hl]
      refine hN _ (i + 1, ys.set i (k + i)) _ ⟨by omega, by simp [hl], ?_⟩ ?_ ?_
      · rw [marks_snoc, ← ht, List.take_succ_eq_append_getElem (by simp; omega), List.take_set_of_le (Nat.le_refl _)]
        simp
      · simp; omega
      · simp
        exact weak_slots (by simp [List.replicate, less_undef, less_refl])
    · have e : i = xs.length := by omega
      subst e
      rw [List.take_of_length_le (by omega)] at ht
      subst ht
      simp [List.replicate, hw, h, retH, hg]
@[simp] def ct_heldI : Ct := ⟨70, List Int × Int, fun x => (0 ≤ x.2 ∧ x.2 ≤ 1099511627776) ∧ x.1.length ≤ 1099511627776, fun x => [encL 1 encInt x.1, .int .i64 x.2], fun x => .int .i64 (if x.1 = marks x.2 x.1.length then x.2 + x.1.length else -1)⟩
set_option maxHeartbeats 1000000 in
theorem ok_heldI : ct_heldI.Ok Try.prog := by
  rintro ⟨xs, k⟩ ⟨⟨h1, h2⟩, h3⟩
  change 0 ≤ k at h1
  change k ≤ 1099511627776 at h2
  change xs.length ≤ 1099511627776 at h3
  refine Ok.of_cw fok_laws_heldIntS (go_ok tab_nil ?_)
  simp [code_laws_heldIntS, List.replicate]
  refine cw_round (fun (i : Nat) => ⟨slots 21 [(0, encL 1 encInt xs), (1, .int .i64 (k + i)), (5, .int .i64 i)], []⟩)
    (fun i => i ≤ xs.length ∧ xs.take i = marks k i) (fun i => xs.length - i) 0 ⟨by simp, rfl⟩ ?_ ?_
  · exact weak_seal 0 (by omega) (by simp) (by simp [List.replicate])
  · rintro N hN i ⟨hi, ht⟩
    have hw : IntKind.i64.wrap ((i : Int) + 1) = ((i + 1 : Nat) : Int) := by rw [wrap_i64] <;> omega
    have hw2 : IntKind.i64.wrap (k + (i : Int) + 1) = k + ((i + 1 : Nat) : Int) := by rw [wrap_i64] <;> omega
    refine go_ok tab_nil ?_
    by_cases h : i < xs.length
    · have h2 : ¬ xs.length ≤ i := by omega
      by_cases e : xs[i] = k + i
      · simp [List.replicate, hw, hw2, h, h2, e]
        refine hN _ (i + 1) _ ⟨by omega, ?_⟩ (by omega) (weak_seal 0 (by omega) ?_ ?_)
        · rw [marks_snoc, ← ht, List.take_succ_eq_append_getElem h, e]
        · simp
        · simp [List.replicate]
      · have hf : ¬ xs = marks k xs.length := by
          intro q
          have := marks_get k xs.length i h
          rw [← q, List.getElem?_eq_getElem h] at this
          exact e (by simpa using this)
        simp [List.replicate, hw, hw2, h, h2, e, hf]
    · have e : i = xs.length := by omega
      subst e
      rw [List.take_of_length_le (by omega)] at ht
      have ht' := ht.symm
      simp [List.replicate, hw, h, ht']
@[simp] def ct_markHp (E : Nat) : CtH := ⟨26, Nat × List Int × Nat × List Int × Int, fun x H => (0 ≤ x.2.2.2.2 ∧ x.2.2.2.2 ≤ 1048576) ∧ (x.2.1.length ≤ 1048576 ∧ x.2.2.2.1.length ≤ 1048576) ∧ x.1 ≠ x.2.2.1 ∧ H[x.1]? = some (.row true E 1 (x.2.1.map encInt)) ∧ H[x.2.2.1]? = some (.row true E 1 (x.2.2.2.1.map encInt)),
  fun x => [.agg [.slref x.1 0 x.2.1.length x.2.1.length, .slref x.2.2.1 0 x.2.2.2.1.length x.2.2.2.1.length], .int .i64 x.2.2.2.2], fun x _ => .int .i64 (x.2.2.2.2 + x.2.1.length + x.2.2.2.1.length),
  fun x H => (H.set x.1 (.row true E 1 ((marks x.2.2.2.2 x.2.1.length).map encInt))).set x.2.2.1 (.row true E 1 ((marks (x.2.2.2.2 + x.2.1.length) x.2.2.2.1.length).map encInt))⟩
set_option maxHeartbeats 1000000 in
theorem ok_markHp (E : Nat) : (ct_markHp E).Ok Try.prog := by
  rintro ⟨b, xs, c, ys, k⟩ H ⟨⟨h1, h2⟩, ⟨h3, h4⟩, hne, hb, hc⟩
  change 0 ≤ k at h1
  change k ≤ 1048576 at h2
  change xs.length ≤ 1048576 at h3
  change ys.length ≤ 1048576 at h4
  change b ≠ c at hne
  change H[b]? = some (.row true E 1 (xs.map encInt)) at hb
  change H[c]? = some (.row true E 1 (ys.map encInt)) at hc
  have hbl : b < H.length := (List.getElem?_eq_some_iff.1 hb).1
  have hcl : c < H.length := (List.getElem?_eq_some_iff.1 hc).1
  have hb' : ∀ L, (H ++ L)[b]? = some (.row true E 1 (xs.map encInt)) := fun L => by rw [List.getElem?_append_left hbl, hb]
  have hc' : ∀ x L, ((H ++ L).set b x)[c]? = some (.row true E 1 (ys.map encInt)) := fun x L => by rw [List.getElem?_set_ne hne, List.getElem?_append_left hcl, hc]
  have hs1 : ∀ x L, (H ++ L).set b x = H.set b x ++ L := fun x L => List.set_append_left _ _ hbl
  have hs2 : ∀ x y L, (H.set b x ++ L).set c y = (H.set b x).set c y ++ L := fun x y L => List.set_append_left _ _ (by simpa using hcl)
  have hc'' : ∀ x L, (H.set b x ++ L)[c]? = some (.row true E 1 (ys.map encInt)) := fun x L => by rw [← hs1, hc']
  have k1 : (xs.length : Int) ≤ 1099511627776 := by omega
  have k2 : xs.length ≤ 1099511627776 := by omega
  have k3 : ys.length ≤ 1099511627776 := by omega
  have k4 : k ≤ 1099511627776 := by omega
  have k5 : 0 ≤ k + xs.length := by omega
  have k6 : k + xs.length ≤ 1099511627776 := by omega
  have g0 : ∀ x, (H.set b x ++ [x])[H.length]? = some x := fun x => by rw [List.getElem?_append_right (by simp)]; simp
  have hls : ∀ x, (H.set b x).length = H.length := fun x => by simp
  refine OkH.of_self fun hB => OkH.of_cw fok_laws_markHeap (go_ok (tab_h (ok_markI E) tab_nil) ?_)
  simp [code_laws_markHeap, List.replicate, retH, getHk, getH0, setHk, setH0, hb', hc', hs1, hs2, hc'', h1, k2, k3, k4, k5, k6]
  refine ⟨xs, rfl, k2, rfl, ys, rfl, k5, k6, k3, rfl, ?_⟩
  refine ⟨⟨[.undef, .undef, .undef, .undef, .int .i64 (k + xs.length + ys.length), .undef, .undef, .undef, .undef, .undef, .undef, .undef, .undef, .undef], _⟩, weak_sealH 0 (X' := []) (selfB_set (selfB_set hB fun _ _ => slB_ints) fun _ _ => slB_ints) (by simp) (by simp) ?_, ?_⟩
  · simp
  · simp
@[simp] def ct_heldHp : Ct := ⟨27, Heap × Int, fun x => (0 ≤ x.2 ∧ x.2 ≤ 1048576) ∧ x.1.vars.length ≤ 1048576 ∧ x.1.next.length ≤ 1048576, fun x => [encHeap x.1, .int .i64 x.2],
  fun x => .int .i64 (if x.1.vars = marks x.2 x.1.vars.length then (if x.1.next = marks (x.2 + x.1.vars.length) x.1.next.length then x.2 + x.1.vars.length + x.1.next.length else -1) else -1)⟩
set_option maxHeartbeats 1000000 in
theorem ok_heldHp : ct_heldHp.Ok Try.prog := by
  rintro ⟨⟨xs, ys⟩, k⟩ ⟨⟨h1, h2⟩, h3, h4⟩
  change 0 ≤ k at h1
  change k ≤ 1048576 at h2
  change xs.length ≤ 1048576 at h3
  change ys.length ≤ 1048576 at h4
  have k2 : xs.length ≤ 1099511627776 := by omega
  have k3 : ys.length ≤ 1099511627776 := by omega
  have k4 : k ≤ 1099511627776 := by omega
  have k5 : 0 ≤ k + xs.length := by omega
  have k6 : k + xs.length ≤ 1099511627776 := by omega
  have k7 : ¬ (k + xs.length < 0) := by omega
  have k8 : ¬ (k + xs.length + ys.length < 0) := by omega
  refine Ok.of_cw fok_laws_heldHeap (go_ok (tab_cons ok_heldI tab_nil) ?_)
  by_cases e1 : xs = marks k xs.length
  · by_cases e2 : ys = marks (k + xs.length) ys.length
    · have e1' : (xs = marks k xs.length) = True := eq_true e1
      have e2' : (ys = marks (k + xs.length) ys.length) = True := eq_true e2
      simp only [ct_heldHp, e1', e2', if_true]
      simp [code_laws_heldHeap, List.replicate, h1, k2, k3, k4, k5, k6, k7, k8, e1', e2']
    · have e1' : (xs = marks k xs.length) = True := eq_true e1
      simp only [ct_heldHp, e1', e2, if_true, if_false]
      simp [code_laws_heldHeap, List.replicate, h1, k2, k3, k4, k5, k6, k7, k8, e1', e2]
  · simp only [ct_heldHp, e1, if_false]
    simp [code_laws_heldHeap, List.replicate, h1, k2, k3, k4, k5, k6, k7, k8, e1]
@[simp] def ct_toHeapN : CtN := ⟨22, Heap, fun x => szHeap x ≤ 1048576, fun x => [encHeap x], fun x => .agg [.slref 7 0 x.vars.length x.vars.length, .slref 8 0 x.next.length x.next.length],
  fun x => [.dead, .dead, .dead, .cells [.slref 7 0 x.vars.length x.vars.length, .slref 8 0 x.next.length x.next.length], .dead, .dead, .dead, .row true 3 1 (x.vars.map encInt), .row true 3 1 (x.next.map encInt)]⟩
set_option maxHeartbeats 1000000 in
theorem ok_toHeapN : ct_toHeapN.Ok Try.prog := by
  refine ⟨?_, fun _ _ => rfl, fun x _ k hk => by
    change Heap at x
    simp only [ct_toHeapN, List.mem_cons, List.not_mem_nil, or_false] at hk
    rcases hk with rfl | rfl | rfl | rfl | rfl | rfl | rfl | rfl | rfl <;> first | rfl | simp [ownB]⟩
  rintro ⟨vs, nx⟩ hx
  change vs.length + nx.length ≤ 1048576 at hx
  have h1 : vs.length ≤ 1048576 := by omega
  have h2 : nx.length ≤ 1048576 := by omega
  refine OkH.of_cw fok_laws_toHeap (go_ok (tab_h (CtN.hok ok_toIntN) tab_nil) ?_)
  simp [code_laws_toHeap, List.replicate, h1, h2]
  refine ⟨⟨[.undef, .undef, .pbox 3 0] ++ List.replicate 10 .undef, _⟩, weak_seal 9 (by omega) (H' := [.dead, .dead, .dead, .cells [.slref 7 0 vs.length vs.length, .slref 8 0 nx.length nx.length], .dead, .dead, .dead, .row true 3 1 (vs.map encInt), .row true 3 1 (nx.map encInt)]) ?_ ?_, ?_⟩
  · simp
  · simp [List.replicate]
  · simp [retH, List.replicate]
end Go.Vm
