/- What the laws copy into rows of their own, mark and read again: numbers and heaps. No condition. -/
import Derived.Test.YtekiceofgkcpfaaDoorTL2
import Derived.Test.YtekiceofgkcpfaaDoorTU
import Derived.Test.YtekiceofgkcpfaaDoorVme
set_option linter.unusedSimpArgs false
set_option linter.unusedVariables false
namespace Go.Vm
open Go.Proofs
@[simp] theorem map_encInt_inj (a b : List Int) : (List.map encInt a = List.map encInt b) = (a = b) := by
  apply propext
  constructor
  · intro h
    exact (List.map_inj_right (fun x y e => by simpa using e)).1 h
  · rintro rfl; rfl
/-- The marks from a number on. -/
def marks (k : Int) : Nat → List Int
  | 0 => []
  | n + 1 => k :: marks (k + 1) n
@[simp] theorem marks_len : ∀ (k : Int) (n : Nat), (marks k n).length = n
  | _, 0 => rfl
  | k, n + 1 => by simp [marks, marks_len (k + 1) n]
theorem marks_get : ∀ (k : Int) (n j : Nat), j < n → (marks k n)[j]? = some (k + j)
  | _, 0, j, h => by omega
  | k, n + 1, 0, _ => by simp [marks]
  | k, n + 1, j + 1, h => by
    simp only [marks, List.getElem?_cons_succ]
    rw [marks_get (k + 1) n j (by omega)]
    congr 1; omega
theorem marks_snoc : ∀ (k : Int) (n : Nat), marks k (n + 1) = marks k n ++ [k + n]
  | k, 0 => by simp [marks]
  | k, n + 1 => by
    rw [marks, marks_snoc (k + 1) n, marks]
    simp; omega
theorem set_same {α : Type} {l : List α} {b : Nat} {x : α} (h : l[b]? = some x) : l.set b x = l := by
  apply List.ext_getElem?
  intro j
  by_cases e : b = j
  · subst e; rw [List.getElem?_set_self (List.getElem?_eq_some_iff.1 h).1, h]
  · rw [List.getElem?_set_ne e]
theorem selfB_set {H : List Blk} {b : Nat} {k : Blk} (h : SelfB H) (hk : ∀ n H2, SlB n H2 k k) : SelfB (H.set b k) := by
  intro n hn H2
  rw [List.length_set] at hn
  exact (h n hn H2).set b (hk n H2)
theorem slB_ints {n E : Nat} {H2 : List Blk} {xs : List Int} : SlB n H2 (.row true E 1 (xs.map encInt)) (.row true E 1 (xs.map encInt)) := by
  simp
theorem weak_back {n0 : Nat} {H X : List Blk} {t t' : List AV} (hB : SelfB H) (hn : n0 ≤ H.length) (ht : All2 (SlV (H.length + 0) (H ++ X)) t t') : Weak n0 ⟨t, H ++ X⟩ ⟨t', H⟩ := by
  have := weak_sealH 0 (X' := []) hB hn (by simp) ht
  rwa [List.append_nil] at this
def code_laws_markIntS : F := ⟨19, [.tmp 4],
 .seq (.reg [⟨some 4, .mov (.k (.int .i64 0)), none⟩])
 (.seq (.seq (.reg [⟨some 5, .mov (.k (.int .i64 0)), none⟩])
   (.block 0 (.loop (.seq (.seq (.reg [⟨some 6, .mov (.t 5), none⟩,
          ⟨some 7, .mov (.t 0), none⟩,
          ⟨some 8, .len (.t 7), none⟩,
          ⟨some 9, .bin .lss (.t 6) (.t 8), none⟩])
       (.cond (.t 9)
        (.skip)
        (.exit 0)))
      (.seq (.block 1 (.seq (.reg [⟨some 12, .mov (.t 0), none⟩,
            ⟨some 13, .mov (.t 5), none⟩,
            ⟨some 14, .mov (.t 1), none⟩,
            ⟨some 15, .iaddr 1 (.t 12) (.t 13), none⟩,
            ⟨none, .store 1 (.t 15) (.t 14), none⟩])
         (.reg [⟨some 16, .mov (.t 1), none⟩,
            ⟨some 17, .bin .add (.t 16) (.k (.int .i64 1)), none⟩,
            ⟨some 1, .mov (.t 17), none⟩])))
       (.reg [⟨some 10, .mov (.t 5), none⟩,
          ⟨some 11, .bin .add (.t 10) (.k (.int .i64 1)), none⟩,
          ⟨some 5, .mov (.t 11), none⟩]))))))
  (.seq (.reg [⟨some 18, .mov (.t 1), none⟩,
      ⟨some 4, .mov (.t 18), none⟩])
   (.ret)))⟩
theorem fok_laws_markIntS : FOk Tryd.prog 46 code_laws_markIntS := fok Tryd.func46 (by kernel_rfl)
@[simp] def ct_toIntN : CtN := ⟨52, List Int, fun xs => xs.length ≤ 1048576, fun xs => [encL 1 encInt xs], fun xs => .slref 0 0 xs.length xs.length, fun xs => [.row true 3 1 (xs.map encInt)]⟩
set_option maxHeartbeats 1000000 in
theorem ok_toIntN : ct_toIntN.Ok Tryd.prog := by
  refine ⟨?_, fun _ _ => rfl, fun xs _ k hk => by
    change List Int at xs
    simp only [ct_toIntN, List.mem_singleton] at hk; subst hk; simp [ownB]⟩
  intro xs hx
  change List Int at xs
  change xs.length ≤ 1048576 at hx
  refine OkH.of_cw' fok_laws_toIntS (go_ok tab_nil ?_)
  simp [code_laws_toIntS, List.replicate]
  refine ⟨by omega, by omega, ?_⟩
  refine cw_round (fun (p : Nat × List Int) => ⟨slots 22 [(0, encL 1 encInt xs), (3, .slref 0 0 p.2.length p.2.length), (4, .int .i64 p.1)], [.row true 3 1 (p.2.map encInt)]⟩)
    (fun p => p.1 ≤ xs.length ∧ p.2.length = xs.length ∧ p.2.take p.1 = xs.take p.1) (fun p => xs.length - p.1) (0, List.replicate xs.length 0) (by simp) ?_ ?_
  · exact weak_seal 1 (by simp) (by simp) (by simp [List.replicate])
  · rintro N hN ⟨i, ys⟩ ⟨hi, hl, ht⟩
    simp only at hi hl ht
    have hw : IntKind.i64.wrap ((i : Int) + 1) = ((i + 1 : Nat) : Int) := by rw [wrap_i64] <;> omega
    refine go_ok tab_nil ?_
    by_cases h : i < xs.length
    · have h' : i < ys.length := by omega
      have h2 : ¬ xs.length ≤ i := by omega
      simp [List.replicate, hw, h, h', h2]
      refine hN _ (i + 1, ys.set i xs[i]) _ ⟨by omega, by simp [hl], ?_⟩ ?_ (weak_seal 1 (by simp) ?_ ?_)
      · exact fill_take h hl ht
      · simp; omega
      · simp
      · simp [List.replicate]
    · have e : i = xs.length := by omega
      subst e
      rw [List.take_length] at ht
      rw [List.take_of_length_le (by omega)] at ht
      subst ht
      simp [List.replicate, hw, h, retH]
@[simp] def ct_markI (E : Nat) : CtH := ⟨46, Nat × List Int × Int, fun x H => (0 ≤ x.2.2 ∧ x.2.2 ≤ 1099511627776) ∧ x.2.1.length ≤ 1099511627776 ∧ H[x.1]? = some (.row true E 1 (x.2.1.map encInt)),
  fun x => [.slref x.1 0 x.2.1.length x.2.1.length, .int .i64 x.2.2], fun x _ => .int .i64 (x.2.2 + x.2.1.length), fun x H => H.set x.1 (.row true E 1 ((marks x.2.2 x.2.1.length).map encInt))⟩
set_option maxHeartbeats 1000000 in
theorem ok_markI (E : Nat) : (ct_markI E).Ok Tryd.prog := by
  rintro ⟨b, xs, k⟩ H ⟨⟨h1, h2⟩, h3, h4⟩
  change 0 ≤ k at h1
  change k ≤ 1099511627776 at h2
  change xs.length ≤ 1099511627776 at h3
  change H[b]? = some (.row true E 1 (xs.map encInt)) at h4
  have hb : b < H.length := (List.getElem?_eq_some_iff.1 h4).1
  refine OkH.of_cw' fok_laws_markIntS (go_ok tab_nil ?_)
  simp [code_laws_markIntS, List.replicate]
  refine cw_round (fun (p : Nat × List Int) => ⟨slots 19 [(0, .slref b 0 xs.length xs.length), (1, .int .i64 (k + p.1)), (5, .int .i64 p.1)], H.set b (.row true E 1 (p.2.map encInt))⟩)
    (fun p => p.1 ≤ xs.length ∧ p.2.length = xs.length ∧ p.2.take p.1 = marks k p.1) (fun p => xs.length - p.1) (0, xs) ⟨by simp, rfl, rfl⟩ ?_ ?_
  · simp only [set_same h4]
    exact weak_slots (by simp [List.replicate, less_undef, less_refl])
  · rintro N hN ⟨i, ys⟩ ⟨hi, hl, ht⟩
    change i ≤ xs.length at hi
    change ys.length = xs.length at hl
    change ys.take i = marks k i at ht
    have hw : IntKind.i64.wrap ((i : Int) + 1) = ((i + 1 : Nat) : Int) := by rw [wrap_i64] <;> omega
    have hw2 : IntKind.i64.wrap (k + (i : Int) + 1) = k + ((i + 1 : Nat) : Int) := by rw [wrap_i64] <;> omega
    have hg : ∀ x, (H.set b x)[b]? = some x := fun x => by simp [hb]
    refine go_ok tab_nil ?_
    by_cases h : i < xs.length
    · have h' : i < ys.length := by omega
      have h2 : ¬ xs.length ≤ i := by omega
      simp [List.replicate, hw, hw2, h, h', h2, hg, hl]
      refine hN _ (i + 1, ys.set i (k + i)) _ ⟨by omega, by simp [hl], ?_⟩ ?_ ?_
      · rw [marks_snoc, ← ht, List.take_succ_eq_append_getElem (by simp; omega), List.take_set_of_le (Nat.le_refl _)]
        simp
      · simp; omega
      · simp
        exact weak_slots (by simp [List.replicate, less_undef, less_refl])
    · have e : i = xs.length := by omega
      subst e
      rw [List.take_of_length_le (by omega)] at ht
      subst ht
      simp [List.replicate, hw, h, retH, hg]
@[simp] def ct_toHeapN : CtN := ⟨19, Heap, fun x => szHeap x ≤ 1048576, fun x => [encHeap x], fun x => .agg [.slref 7 0 x.vars.length x.vars.length, .slref 8 0 x.next.length x.next.length],
  fun x => [.dead, .dead, .dead, .cells [.slref 7 0 x.vars.length x.vars.length, .slref 8 0 x.next.length x.next.length], .dead, .dead, .dead, .row true 3 1 (x.vars.map encInt), .row true 3 1 (x.next.map encInt)]⟩
set_option maxHeartbeats 1000000 in
theorem ok_toHeapN : ct_toHeapN.Ok Tryd.prog := by
  refine ⟨?_, fun _ _ => rfl, fun x _ k hk => by
    change Heap at x
    simp only [ct_toHeapN, List.mem_cons, List.not_mem_nil, or_false] at hk
    rcases hk with rfl | rfl | rfl | rfl | rfl | rfl | rfl | rfl | rfl <;> first | rfl | simp [ownB]⟩
  rintro ⟨vs, nx⟩ hx
  change vs.length + nx.length ≤ 1048576 at hx
  have h1 : vs.length ≤ 1048576 := by omega
  have h2 : nx.length ≤ 1048576 := by omega
  refine OkH.of_cw fok_laws_toHeap (go_ok (tab_h (CtN.hok ok_toIntN) tab_nil) ?_)
  simp [code_laws_toHeap, List.replicate, h1, h2]
  refine ⟨⟨[.undef, .undef, .pbox 3 0] ++ List.replicate 10 .undef, _⟩, weak_seal 9 (by omega) (H' := [.dead, .dead, .dead, .cells [.slref 7 0 vs.length vs.length, .slref 8 0 nx.length nx.length], .dead, .dead, .dead, .row true 3 1 (vs.map encInt), .row true 3 1 (nx.map encInt)]) ?_ ?_, ?_⟩
  · simp
  · simp [List.replicate]
  · simp [retH, List.replicate]
end Go.Vm
