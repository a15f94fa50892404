/- IsEmbedding, of both. No condition. -/
import Derived.Test.YtbncpckkmaaaiaaTEO
set_option linter.unusedSimpArgs false
set_option linter.unusedVariables false
namespace Go.Vm
open Go.Proofs
def code_impl_isOnto : F := ⟨17, [.tmp 4],
 .seq (.reg [⟨some 2, .box (.t 0), none⟩,
    ⟨some 4, .mov (.k (.bool false)), none⟩])
 (.seq (.seq (.reg [⟨some 6, .faddr 0 (.t 2), none⟩,
      ⟨some 7, .load 1 false (.t 6), none⟩,
      ⟨some 8, .len (.t 7), none⟩,
      ⟨some 9, .mov (.k (.int .i64 0)), none⟩])
   (.block 0 (.loop (.seq (.reg [⟨some 10, .bin .lss (.t 9) (.t 8), none⟩])
      (.seq (.cond (.t 10)
        (.skip)
        (.exit 0))
       (.seq (.block 1 (.seq (.reg [⟨some 11, .mov (.t 9), none⟩,
             ⟨some 5, .mov (.t 11), none⟩])
          (.seq (.reg [⟨some 12, .mov (.t 1), none⟩,
              ⟨some 13, .mov (.t 5), none⟩,
              ⟨some 14, .call 80 [(.t 12), (.t 13)], none⟩,
              ⟨some 15, .not (.t 14), none⟩])
           (.cond (.t 15)
            (.seq (.reg [⟨some 4, .mov (.k (.bool false)), none⟩])
             (.ret))
            (.skip)))))
        (.reg [⟨some 16, .bin .add (.t 9) (.k (.int .i64 1)), none⟩,
           ⟨some 9, .mov (.t 16), none⟩])))))))
  (.seq (.reg [⟨some 4, .mov (.k (.bool true)), none⟩])
   (.ret)))⟩
theorem fok_impl_isOnto : FOk Try.prog 66 code_impl_isOnto := fok Try.func66 (by kernel_rfl)
def code_spec_IsEmbedding : F := ⟨52, [.tmp 6],
 .seq (.reg [⟨some 3, .box (.t 0), none⟩,
    ⟨some 4, .box (.t 1), none⟩,
    ⟨some 6, .mov (.k (.bool false)), none⟩])
 (.seq (.seq (.reg [⟨some 9, .mov (.t 2), none⟩,
      ⟨some 10, .len (.t 9), none⟩,
      ⟨some 11, .faddr 0 (.t 3), none⟩,
      ⟨some 12, .load 1 false (.t 11), none⟩,
      ⟨some 13, .len (.t 12), none⟩,
      ⟨some 14, .bin .neq (.t 10) (.t 13), none⟩])
   (.cond (.t 14)
    (.seq (.reg [⟨some 6, .mov (.k (.bool false)), none⟩])
     (.ret))
    (.skip)))
  (.seq (.seq (.reg [⟨some 7, .mov (.k (.int .i64 0)), none⟩])
    (.block 0 (.loop (.seq (.seq (.reg [⟨some 15, .mov (.t 7), none⟩,
           ⟨some 16, .mov (.t 2), none⟩,
           ⟨some 17, .len (.t 16), none⟩,
           ⟨some 18, .bin .lss (.t 15) (.t 17), none⟩])
        (.cond (.t 18)
         (.skip)
         (.exit 0)))
       (.seq (.block 1 (.seq (.dreg [false, false, false, false, false, false, false, false, true, true, true, false, false, false, false, false, false, true, true, true] [⟨some 21, .mov (.t 2), none⟩,
             ⟨some 22, .mov (.t 7), none⟩,
             ⟨some 23, .iaddr 1 (.t 21) (.t 22), none⟩,
             ⟨some 24, .load 1 false (.t 23), none⟩,
             ⟨some 25, .faddr 0 (.t 4), none⟩,
             ⟨some 26, .load 1 false (.t 25), none⟩,
             ⟨some 27, .len (.t 26), none⟩,
             ⟨some 28, .bin .sub (.t 27) (.k (.int .i64 1)), none⟩,
             ⟨some 29, .call 61 [(.t 24), (.k (.int .i64 0)), (.t 28)], none⟩,
             ⟨some 30, .not (.t 29), none⟩,
             ⟨some 31, .mov (.t 30), none⟩,
             ⟨some 32, .load 2 true (.t 3), some (31, false)⟩,
             ⟨some 33, .load 2 true (.t 4), some (31, false)⟩,
             ⟨some 34, .mov (.t 2), some (31, false)⟩,
             ⟨some 35, .mov (.t 7), some (31, false)⟩,
             ⟨some 36, .bin .add (.t 35) (.k (.int .i64 1)), some (31, false)⟩,
             ⟨some 37, .slice 1 (.t 34) none (some (.t 36)), some (31, false)⟩,
             ⟨some 38, .call 62 [(.t 32), (.t 33), (.t 37)], some (31, false)⟩,
             ⟨some 39, .not (.t 38), some (31, false)⟩,
             ⟨some 40, .pick (.t 31) (.k (.bool true)) (.t 39), none⟩])
          (.cond (.t 40)
           (.seq (.reg [⟨some 6, .mov (.k (.bool false)), none⟩])
            (.ret))
           (.skip))))
        (.reg [⟨some 19, .mov (.t 7), none⟩,
           ⟨some 20, .bin .add (.t 19) (.k (.int .i64 1)), none⟩,
           ⟨some 7, .mov (.t 20), none⟩]))))))
   (.seq (.seq (.reg [⟨some 8, .mov (.k (.int .i64 0)), none⟩])
     (.block 2 (.loop (.seq (.seq (.reg [⟨some 41, .mov (.t 8), none⟩,
            ⟨some 42, .faddr 0 (.t 4), none⟩,
            ⟨some 43, .load 1 false (.t 42), none⟩,
            ⟨some 44, .len (.t 43), none⟩,
            ⟨some 45, .bin .lss (.t 41) (.t 44), none⟩])
         (.cond (.t 45)
          (.skip)
          (.exit 2)))
        (.seq (.block 3 (.seq (.reg [⟨some 48, .mov (.t 2), none⟩,
              ⟨some 49, .mov (.t 8), none⟩,
              ⟨some 50, .call 63 [(.t 48), (.t 49)], none⟩,
              ⟨some 51, .not (.t 50), none⟩])
           (.cond (.t 51)
            (.seq (.reg [⟨some 6, .mov (.k (.bool false)), none⟩])
             (.ret))
            (.skip))))
         (.reg [⟨some 46, .mov (.t 8), none⟩,
            ⟨some 47, .bin .add (.t 46) (.k (.int .i64 1)), none⟩,
            ⟨some 8, .mov (.t 47), none⟩]))))))
    (.seq (.reg [⟨some 6, .mov (.k (.bool true)), none⟩])
     (.ret)))))⟩
theorem fok_spec_IsEmbedding : FOk Try.prog 14 code_spec_IsEmbedding := fok Try.func14 (by kernel_rfl)
def code_impl_IsEmbedding : F := ⟨31, [.tmp 6],
 .seq (.reg [⟨some 3, .box (.t 0), none⟩,
    ⟨some 4, .box (.t 1), none⟩,
    ⟨some 6, .mov (.k (.bool false)), none⟩])
 (.seq (.seq (.reg [⟨some 8, .mov (.t 2), none⟩,
      ⟨some 9, .len (.t 8), none⟩,
      ⟨some 10, .faddr 0 (.t 3), none⟩,
      ⟨some 11, .load 1 false (.t 10), none⟩,
      ⟨some 12, .len (.t 11), none⟩,
      ⟨some 13, .bin .neq (.t 9) (.t 12), none⟩])
   (.cond (.t 13)
    (.seq (.reg [⟨some 6, .mov (.k (.bool false)), none⟩])
     (.ret))
    (.skip)))
  (.seq (.seq (.reg [⟨some 14, .mov (.t 2), none⟩,
       ⟨some 15, .len (.t 14), none⟩,
       ⟨some 16, .mov (.k (.int .i64 0)), none⟩])
    (.block 0 (.loop (.seq (.reg [⟨some 17, .bin .lss (.t 16) (.t 15), none⟩])
       (.seq (.cond (.t 17)
         (.skip)
         (.exit 0))
        (.seq (.block 1 (.seq (.reg [⟨some 18, .mov (.t 16), none⟩,
              ⟨some 7, .mov (.t 18), none⟩])
           (.seq (.dreg [false, false, false, false, false, false, true, true] [⟨some 19, .load 2 true (.t 3), none⟩,
               ⟨some 20, .load 2 true (.t 4), none⟩,
               ⟨some 21, .mov (.t 2), none⟩,
               ⟨some 22, .mov (.t 7), none⟩,
               ⟨some 23, .bin .add (.t 22) (.k (.int .i64 1)), none⟩,
               ⟨some 24, .slice 1 (.t 21) none (some (.t 23)), none⟩,
               ⟨some 25, .call 65 [(.t 19), (.t 20), (.t 24)], none⟩,
               ⟨some 26, .not (.t 25), none⟩])
            (.cond (.t 26)
             (.seq (.reg [⟨some 6, .mov (.k (.bool false)), none⟩])
              (.ret))
             (.skip)))))
         (.reg [⟨some 27, .bin .add (.t 16) (.k (.int .i64 1)), none⟩,
            ⟨some 16, .mov (.t 27), none⟩])))))))
   (.seq (.reg [⟨some 28, .load 2 true (.t 4), none⟩,
       ⟨some 29, .mov (.t 2), none⟩,
       ⟨some 30, .call 66 [(.t 28), (.t 29)], none⟩,
       ⟨some 6, .mov (.t 30), none⟩])
    (.ret))))⟩
theorem fok_impl_IsEmbedding : FOk Try.prog 17 code_impl_IsEmbedding := fok Try.func17 (by kernel_rfl)
/-- Is every node an element? -/
def ontoB (t : Strc) (to : List Int) : Bool := (List.range t.nodes.length).all fun j => decide ((j : Int) ∈ to)
theorem onto_bad {t : Strc} {to : List Int} {j : Nat} (h : j < t.nodes.length) (e : ¬ (j : Int) ∈ to) : ontoB t to = false := all_bad h (by simpa using e)
theorem onto_good {t : Strc} {to : List Int} (h : ∀ j, j < t.nodes.length → (j : Int) ∈ to) : ontoB t to = true := all_good fun j hj => by simpa using h j hj
@[simp] def ct_isOnto : Ct := ⟨66, Strc × List Int, fun x => szStrc x.1 ≤ 1048576, fun x => [encStrc x.1, encL 1 encInt x.2], fun x => .bool (ontoB x.1 x.2)⟩
theorem ok_isOnto : ct_isOnto.Ok Try.prog := by
  rintro ⟨t, to⟩ ht
  change szStrc t ≤ 1048576 at ht
  have htl := strc_le t
  refine Ok.of_cw fok_impl_isOnto (go_ok tab_nil ?_)
  simp [code_impl_isOnto, List.replicate]
  refine cw_round (fun (k : Nat) => ⟨slots 17 [(1, encL 1 encInt to), (8, .int .i64 t.nodes.length), (9, .int .i64 k)], []⟩)
    (fun k => k ≤ t.nodes.length ∧ ∀ j, j < k → (j : Int) ∈ to) (fun k => t.nodes.length - k) 0 ⟨by omega, fun j hj => absurd hj (by omega)⟩ ?_ ?_
  · exact weak_seal 0 (by omega) (by simp) (by simp [List.replicate])
  · rintro N hN k ⟨hk, hn⟩
    have hw : IntKind.i64.wrap ((k : Int) + 1) = ((k + 1 : Nat) : Int) := by rw [wrap_i64] <;> omega
    refine go_ok (tab_cons ok_ContainsI tab_nil) ?_
    by_cases g : k < t.nodes.length
    · have g2 : ¬ t.nodes.length ≤ k := by omega
      by_cases e : (k : Int) ∈ to
      · simp [List.replicate, hw, g, g2, e]
        refine hN _ (k + 1) _ ⟨by omega, fun j hj => ?_⟩ (by omega) (weak_seal 0 (by omega) ?_ ?_)
        · by_cases q : j = k
          · subst q; exact e
          · exact hn j (by omega)
        · simp
        · simp [List.replicate]
      · have hf := onto_bad g e
        simp [List.replicate, hw, g, g2, e, hf]
    · have hf := onto_good (fun j hj => hn j (by omega) : ∀ j, j < t.nodes.length → (j : Int) ∈ to)
      simp [List.replicate, g, hf]
/-- Do all the elements so far fit? -/
def fitsTo (s t : Strc) (to : List Int) (n : Nat) : Bool := (List.range n).all fun i => decide (inN t (to.getD i 0)) && fitsB s t to i
theorem embB_eq (s t : Strc) (to : List Int) : embB s t to = (decide (to.length = s.nodes.length) && fitsTo s t to to.length && ontoB t to) := rfl
theorem fitsTo_bad {s t : Strc} {to : List Int} {i n : Nat} (h : i < n) (e : (decide (inN t (to.getD i 0)) && fitsB s t to i) = false) : fitsTo s t to n = false := all_bad h e
theorem fitsTo_good {s t : Strc} {to : List Int} {n : Nat} (h : ∀ i, i < n → (decide (inN t (to.getD i 0)) && fitsB s t to i) = true) : fitsTo s t to n = true := all_good h
theorem all_congr {p q : Nat → Bool} {n : Nat} (h : ∀ j, j < n → p j = q j) : (List.range n).all p = (List.range n).all q := by
  rw [Bool.eq_iff_iff, List.all_eq_true, List.all_eq_true]
  constructor
  · intro k j hj; rw [← h j (by simpa using hj)]; exact k j hj
  · intro k j hj; rw [h j (by simpa using hj)]; exact k j hj
theorem getD_pre {a b : List Int} {j : Nat} (h : j < a.length) : (a ++ b).getD j 0 = a.getD j 0 := by
  simp [List.getD_eq_getElem?_getD, List.getElem?_append_left h]
theorem getD_take {a : List Int} {n j : Nat} (h : j < n) : (a.take n).getD j 0 = a.getD j 0 := by
  simp [List.getD_eq_getElem?_getD, List.getElem?_take, h]
theorem pairB_congr {s t : Strc} {a b : List Int} {i k : Nat} (h : ∀ j, j ≤ i → a.getD j 0 = b.getD j 0) (hk : k ≤ i) : pairB s t a i k = pairB s t b i k := by
  unfold pairB
  rw [h i (by omega), h k hk]
theorem fitsB_congr {s t : Strc} {a b : List Int} {i : Nat} (h : ∀ j, j ≤ i → a.getD j 0 = b.getD j 0) : fitsB s t a i = fitsB s t b i := by
  unfold fitsB
  rw [h i (by omega), all_congr fun k hk => pairB_congr h (by omega)]
theorem fitsB_take {s t : Strc} {to : List Int} {i : Nat} : fitsB s t (to.take (i + 1)) i = fitsB s t to i := fitsB_congr fun j hj => getD_take (by omega)
@[simp] def ct_sIsEmbedding : Ct := ⟨14, Strc × Strc × List Int, fun x => szStrc x.1 ≤ 1048576 ∧ szStrc x.2.1 ≤ 1048576, fun x => [encStrc x.1, encStrc x.2.1, encL 1 encInt x.2.2], fun x => .bool (embB x.1 x.2.1 x.2.2)⟩
set_option maxHeartbeats 4000000 in
set_option maxRecDepth 100000 in
theorem ok_sIsEmbedding : ct_sIsEmbedding.Ok Try.prog := by
  rintro ⟨s, t, to⟩ ⟨hs, ht⟩
  change szStrc s ≤ 1048576 at hs
  change szStrc t ≤ 1048576 at ht
  have hsl := strc_le s
  have htl := strc_le t
  refine Ok.of_cw fok_spec_IsEmbedding (go_ok tab_nil ?_)
  by_cases h0 : to.length = s.nodes.length
  case neg =>
    have h1 : ¬ ((to.length : Int) = s.nodes.length) := by omega
    simp [code_spec_IsEmbedding, List.replicate, h0, h1, embB_eq]
  have w0 : IntKind.i64.wrap ((t.nodes.length : Int) - 1) = (t.nodes.length : Int) - 1 := by rw [wrap_i64] <;> omega
  rw [show ct_sIsEmbedding.res (s, t, to) = .bool (fitsTo s t to to.length && ontoB t to) from by show AV.bool (embB s t to) = _; rw [embB_eq, decide_eq_true h0, Bool.true_and]]
  simp [code_spec_IsEmbedding, List.replicate, h0]
  refine cw_round (fun (k : Nat) => ⟨slots 52 [(2, encL 1 encInt to), (3, .pbox 0 0), (4, .pbox 1 0), (7, .int .i64 k)], [.cells [encL 4 encNode s.nodes, encL 1 encInt s.next], .cells [encL 4 encNode t.nodes, encL 1 encInt t.next]]⟩)
    (fun k => k ≤ to.length ∧ ∀ i, i < k → (decide (inN t (to.getD i 0)) && fitsB s t to i) = true) (fun k => to.length - k) 0 ⟨by omega, fun j hj => absurd hj (by omega)⟩ ?_ ?_
  · exact weak_seal 2 (by omega) (by simp) (by simp [List.replicate])
  · rintro N hN k ⟨hk, hn⟩
    have hw : IntKind.i64.wrap ((k : Int) + 1) = ((k + 1 : Nat) : Int) := by rw [wrap_i64] <;> omega
    by_cases g : k < to.length
    · have g2 : ¬ to.length ≤ k := by omega
      have ev : to.getD k 0 = to[k] := by simp [g]
      have g3 : k + 1 ≤ to.length := by omega
      have g4 : (k : Int) + 1 ≤ to.length := by omega
      have g5 : (0 : Int) ≤ (k : Int) + 1 := by omega
      have g6 : k < s.nodes.length := by omega
      have ht1 : ((k : Int) + 1).toNat = k + 1 := by omega
      refine go_ok (tab_cons ok_l1In (tab_cons ok_l16Fits tab_nil)) ?_
      by_cases hin : inN t to[k]
      · have hq := hin
        unfold inN at hq
        obtain ⟨q0, q1⟩ := hq
        have q2 : ¬ ((t.nodes.length : Int) - 1 < to[k]) := by omega
        have hall : allN t (to.take (k + 1)) (k + 1) := fun j hj => by
          rw [getD_take hj]
          by_cases q : j = k
          · subst q; rw [ev]; exact hin
          · have := hn j (by omega); simp only [Bool.and_eq_true, decide_eq_true_eq] at this; exact this.1
        have hft := fitsB_take (s := s) (t := t) (to := to) (i := k)
        cases e : fitsB s t to k
        · have hf := fitsTo_bad (s := s) (t := t) (to := to) g6 (by rw [e, Bool.and_false])
          simp (config := {maxSteps := 2000000}) [List.replicate, hw, g, g2, g3, g4, g5, g6, ht1, w0, q0, q1, q2, hs, ht, hf, hall, hft, e]
        · simp (config := {maxSteps := 2000000}) [List.replicate, hw, g, g2, g3, g4, g5, g6, ht1, w0, q0, q1, q2, hs, ht, hall, hft, e]
          refine hN _ (k + 1) _ ⟨by omega, fun j hj => ?_⟩ (by omega) (weak_seal 2 (by omega) ?_ ?_)
          · by_cases q : j = k
            · subst q; rw [ev, e]; simp [hin]
            · exact hn j (by omega)
          · simp
          · simp [List.replicate]
      · have hf := fitsTo_bad (s := s) (t := t) (to := to) g6 (by rw [ev]; simp [hin])
        by_cases q0 : 0 ≤ to[k]
        · have q1 : ¬ to[k] ≤ (t.nodes.length : Int) - 1 := fun h => hin ⟨q0, h⟩
          have q2 : ((t.nodes.length : Int) - 1 < to[k]) := by omega
          simp (config := {maxSteps := 2000000}) [List.replicate, hw, g, g2, w0, q0, q1, q2, hf]
        · simp (config := {maxSteps := 2000000}) [List.replicate, hw, g, g2, w0, q0, hf]
    · have e : k = to.length := by omega
      subst e
      have hf := fitsTo_good hn
      rw [h0] at hf
      have hlen : to.length ≤ 1048576 := by omega
      refine go_ok tab_nil ?_
      simp [List.replicate, hf]
      refine cw_round (fun (k : Nat) => ⟨slots 52 [(2, encL 1 encInt to), (4, .pbox 1 0), (8, .int .i64 k)], [.dead, .cells [encL 4 encNode t.nodes, encL 1 encInt t.next]]⟩)
        (fun k => k ≤ t.nodes.length ∧ ∀ j, j < k → (j : Int) ∈ to) (fun k => t.nodes.length - k) 0 ⟨by omega, fun j hj => absurd hj (by omega)⟩ ?_ ?_
      · exact weak_seal 2 (by omega) (by simp) (by simp [List.replicate])
      · rintro M hM k ⟨hk, hn⟩
        have hw : IntKind.i64.wrap ((k : Int) + 1) = ((k + 1 : Nat) : Int) := by rw [wrap_i64] <;> omega
        refine go_ok (tab_cons ok_l7Has tab_nil) ?_
        by_cases g : k < t.nodes.length
        · have g2 : ¬ t.nodes.length ≤ k := by omega
          by_cases e : (k : Int) ∈ to
          · simp [List.replicate, hw, g, g2, e, hlen]
            refine hM _ (k + 1) _ ⟨by omega, fun j hj => ?_⟩ (by omega) (weak_seal 2 (by omega) ?_ ?_)
            · by_cases q : j = k
              · subst q; exact e
              · exact hn j (by omega)
            · simp
            · simp [List.replicate]
          · have hf := onto_bad g e
            simp [List.replicate, hw, g, g2, e, hf, hlen]
        · have hf := onto_good (fun j hj => hn j (by omega) : ∀ j, j < t.nodes.length → (j : Int) ∈ to)
          have g2 : t.nodes.length ≤ k := by omega
          simp [List.replicate, g, g2, hf]
@[simp] def ct_pIsEmbedding : Ct := ⟨17, Strc × Strc × List Int, fun x => szStrc x.1 ≤ 1048576 ∧ szStrc x.2.1 ≤ 1048576, fun x => [encStrc x.1, encStrc x.2.1, encL 1 encInt x.2.2], fun x => .bool (embB x.1 x.2.1 x.2.2)⟩
set_option maxHeartbeats 4000000 in
set_option maxRecDepth 100000 in
theorem ok_pIsEmbedding : ct_pIsEmbedding.Ok Try.prog := by
  rintro ⟨s, t, to⟩ ⟨hs, ht⟩
  change szStrc s ≤ 1048576 at hs
  change szStrc t ≤ 1048576 at ht
  have hsl := strc_le s
  have htl := strc_le t
  refine Ok.of_cw fok_impl_IsEmbedding (go_ok (tab_cons ok_isOnto tab_nil) ?_)
  by_cases h0 : to.length = s.nodes.length
  case neg =>
    have h1 : ¬ ((to.length : Int) = s.nodes.length) := by omega
    simp [code_impl_IsEmbedding, List.replicate, h0, h1, embB_eq]
  rw [show ct_pIsEmbedding.res (s, t, to) = .bool (fitsTo s t to to.length && ontoB t to) from by show AV.bool (embB s t to) = _; rw [embB_eq, decide_eq_true h0, Bool.true_and]]
  simp [code_impl_IsEmbedding, List.replicate, h0]
  refine cw_round (fun (k : Nat) => ⟨slots 31 [(2, encL 1 encInt to), (3, .pbox 0 0), (4, .pbox 1 0), (15, .int .i64 to.length), (16, .int .i64 k)], [.cells [encL 4 encNode s.nodes, encL 1 encInt s.next], .cells [encL 4 encNode t.nodes, encL 1 encInt t.next]]⟩)
    (fun k => k ≤ to.length ∧ ∀ i, i < k → (decide (inN t (to.getD i 0)) && fitsB s t to i) = true) (fun k => to.length - k) 0 ⟨by omega, fun j hj => absurd hj (by omega)⟩ ?_ ?_
  · exact weak_seal 2 (by omega) (by simp) (by simp [List.replicate, h0])
  · rintro N hN k ⟨hk, hn⟩
    have hw : IntKind.i64.wrap ((k : Int) + 1) = ((k + 1 : Nat) : Int) := by rw [wrap_i64] <;> omega
    by_cases g : k < to.length
    · have g2 : ¬ to.length ≤ k := by omega
      have ev : to.getD k 0 = to[k] := by simp [g]
      have g3 : k + 1 ≤ to.length := by omega
      have g4 : (k : Int) + 1 ≤ to.length := by omega
      have g5 : (0 : Int) ≤ (k : Int) + 1 := by omega
      have g6 : k < s.nodes.length := by omega
      have ht1 : ((k : Int) + 1).toNat = k + 1 := by omega
      refine go_ok (tab_cons ok_fitsSoFar tab_nil) ?_
      have hall : allN t (to.take (k + 1)) k := fun j hj => by
        rw [getD_take (by omega)]
        have := hn j (by omega); simp only [Bool.and_eq_true, decide_eq_true_eq] at this; exact this.1
      have hft := fitsB_take (s := s) (t := t) (to := to) (i := k)
      have hgt : (to.take (k + 1)).getD k 0 = to[k] := by rw [getD_take (by omega), ev]
      simp only [List.getD_eq_getElem?_getD] at hgt
      cases e : (decide (inN t to[k]) && fitsB s t to k)
      · have hf := fitsTo_bad (s := s) (t := t) (to := to) g6 (by rw [ev]; exact e)
        by_cases e1 : inN t to[k]
        · have e2 : fitsB s t to k = false := by simpa [e1] using e
          simp (config := {maxSteps := 2000000}) [List.replicate, hw, g, g2, g3, g4, g5, g6, ht1, hs, ht, hf, hall, hft, hgt, e1, e2]
        · simp (config := {maxSteps := 2000000}) [List.replicate, hw, g, g2, g3, g4, g5, g6, ht1, hs, ht, hf, hall, hft, hgt, e1]
      · simp only [Bool.and_eq_true, decide_eq_true_eq] at e
        obtain ⟨e1, e2⟩ := e
        simp (config := {maxSteps := 2000000}) [List.replicate, hw, g, g2, g3, g4, g5, g6, ht1, hs, ht, hall, hft, hgt, e1, e2]
        refine hN _ (k + 1) _ ⟨by omega, fun j hj => ?_⟩ (by omega) (weak_seal 2 (by omega) ?_ ?_)
        · by_cases q : j = k
          · subst q; rw [ev, decide_eq_true e1, e2]; rfl
          · exact hn j (by omega)
        · simp
        · simp [List.replicate]
    · have e : k = to.length := by omega
      subst e
      have hf := fitsTo_good hn
      rw [h0] at hf
      refine go_ok (tab_cons ok_isOnto tab_nil) ?_
      simp [List.replicate, hf, ht]
def code_laws_FnExactIsEmbedding : F := ⟨61, [.tmp 6],
 .seq (.reg [⟨some 3, .box (.t 0), none⟩,
    ⟨some 4, .box (.t 1), none⟩,
    ⟨some 6, .mov (.k (.bool false)), none⟩])
 (.seq (.seq (.reg [⟨some 13, .mov (.t 2), none⟩,
      ⟨some 14, .len (.t 13), none⟩,
      ⟨some 15, .bin .gtr (.t 14) (.k (.int .i64 1048576)), none⟩])
   (.cond (.t 15)
    (.seq (.reg [⟨some 6, .mov (.k (.bool true)), none⟩])
     (.ret))
    (.skip)))
  (.seq (.reg [⟨some 7, .mov (.k (.int .i64 1048576)), none⟩])
   (.seq (.reg [⟨some 16, .load 2 true (.t 3), none⟩,
       ⟨some 17, .mov (.t 7), none⟩,
       ⟨some 18, .call 13 [(.t 16), (.t 17)], none⟩,
       ⟨some 7, .mov (.t 18), none⟩])
    (.seq (.seq (.reg [⟨some 19, .mov (.t 7), none⟩,
         ⟨some 20, .bin .lss (.t 19) (.k (.int .i64 0)), none⟩])
      (.cond (.t 20)
       (.seq (.reg [⟨some 6, .mov (.k (.bool true)), none⟩])
        (.ret))
       (.skip)))
     (.seq (.reg [⟨some 21, .load 2 true (.t 4), none⟩,
         ⟨some 22, .mov (.t 7), none⟩,
         ⟨some 23, .call 13 [(.t 21), (.t 22)], none⟩,
         ⟨some 7, .mov (.t 23), none⟩])
      (.seq (.seq (.reg [⟨some 24, .mov (.t 7), none⟩,
           ⟨some 25, .bin .lss (.t 24) (.k (.int .i64 0)), none⟩])
        (.cond (.t 25)
         (.seq (.reg [⟨some 6, .mov (.k (.bool true)), none⟩])
          (.ret))
         (.skip)))
       (.seq (.dreg [false, false, false, false, false, true, true, true] [⟨some 26, .load 2 true (.t 3), none⟩,
           ⟨some 27, .call 15 [(.t 26)], none⟩,
           ⟨some 28, .load 2 true (.t 4), none⟩,
           ⟨some 29, .call 15 [(.t 28)], none⟩,
           ⟨some 30, .mov (.t 2), none⟩,
           ⟨some 31, .call 16 [(.t 30)], none⟩,
           ⟨some 32, .call 14 [(.t 27), (.t 29), (.t 31)], none⟩,
           ⟨some 8, .mov (.t 32), none⟩])
        (.seq (.reg [⟨some 33, .load 2 true (.t 3), none⟩,
            ⟨some 34, .call 15 [(.t 33)], none⟩,
            ⟨some 9, .alloc [(.sl .nil 0 []), (.sl .nil 0 [])], none⟩,
            ⟨none, .store 2 (.t 9) (.t 34), none⟩])
         (.seq (.reg [⟨some 35, .load 2 true (.t 4), none⟩,
             ⟨some 36, .call 15 [(.t 35)], none⟩,
             ⟨some 10, .alloc [(.sl .nil 0 []), (.sl .nil 0 [])], none⟩,
             ⟨none, .store 2 (.t 10) (.t 36), none⟩])
          (.seq (.reg [⟨some 37, .mov (.t 2), none⟩,
              ⟨some 38, .call 16 [(.t 37)], none⟩,
              ⟨some 11, .mov (.t 38), none⟩])
           (.seq (.reg [⟨some 39, .load 2 true (.t 9), none⟩,
               ⟨some 40, .load 2 true (.t 10), none⟩,
               ⟨some 41, .mov (.t 11), none⟩,
               ⟨some 42, .call 17 [(.t 39), (.t 40), (.t 41)], none⟩,
               ⟨some 12, .mov (.t 42), none⟩])
            (.seq (.seq (.reg [⟨some 43, .mov (.t 12), none⟩,
                 ⟨some 44, .mov (.t 8), none⟩,
                 ⟨some 45, .beq true (.t 43) (.t 44), none⟩])
              (.cond (.t 45)
               (.seq (.reg [⟨some 6, .mov (.k (.bool false)), none⟩])
                (.ret))
               (.skip)))
             (.seq (.seq (.dreg [false, false, false, true, true] [⟨some 46, .load 2 true (.t 9), none⟩,
                  ⟨some 47, .load 2 true (.t 3), none⟩,
                  ⟨some 48, .call 15 [(.t 47)], none⟩,
                  ⟨some 49, .call 18 [(.t 46), (.t 48)], none⟩,
                  ⟨some 50, .not (.t 49), none⟩])
               (.cond (.t 50)
                (.seq (.reg [⟨some 6, .mov (.k (.bool false)), none⟩])
                 (.ret))
                (.skip)))
              (.seq (.seq (.dreg [false, false, false, true, true] [⟨some 51, .load 2 true (.t 10), none⟩,
                   ⟨some 52, .load 2 true (.t 4), none⟩,
                   ⟨some 53, .call 15 [(.t 52)], none⟩,
                   ⟨some 54, .call 18 [(.t 51), (.t 53)], none⟩,
                   ⟨some 55, .not (.t 54), none⟩])
                (.cond (.t 55)
                 (.seq (.reg [⟨some 6, .mov (.k (.bool false)), none⟩])
                  (.ret))
                 (.skip)))
               (.seq (.seq (.reg [⟨some 56, .mov (.t 11), none⟩,
                    ⟨some 57, .mov (.t 2), none⟩,
                    ⟨some 58, .call 16 [(.t 57)], none⟩,
                    ⟨some 59, .call 19 [(.t 56), (.t 58)], none⟩,
                    ⟨some 60, .not (.t 59), none⟩])
                 (.cond (.t 60)
                  (.seq (.reg [⟨some 6, .mov (.k (.bool false)), none⟩])
                   (.ret))
                  (.skip)))
                (.seq (.reg [⟨some 6, .mov (.k (.bool true)), none⟩])
                 (.ret)))))))))))))))))⟩
theorem fok_laws_FnExactIsEmbedding : FOk Try.prog 3 code_laws_FnExactIsEmbedding := fok Try.func3 (by kernel_rfl)
set_option maxHeartbeats 2000000 in
set_option maxRecDepth 100000 in
theorem ok_lawIsEmbedding (x y : Strc) (to : List Int) : Ok Try.prog 3 [encStrc x, encStrc y, encL 1 encInt to] (.bool true) := by
  by_cases h0 : to.length ≤ 1048576
  case neg =>
    have h0' : (1048576 : Int) < to.length := by omega
    refine Ok.of_cw fok_laws_FnExactIsEmbedding (go_ok tab_nil ?_)
    simp [code_laws_FnExactIsEmbedding, List.replicate, h0']
  have h0' : ¬ (1048576 : Int) < to.length := by omega
  have h0'' : (to.length : Int) ≤ 1048576 := by omega
  by_cases h1 : (szStrc x : Int) ≤ 1048576
  case neg =>
    refine Ok.of_cw fok_laws_FnExactIsEmbedding (go_ok (tab_cons ok_szStrc tab_nil) ?_)
    simp [code_laws_FnExactIsEmbedding, List.replicate, h0', h0'', left_neg (by omega : (1048576:Int) < szStrc x)]
  have l1 := left_ge h1
  by_cases h2 : (szStrc y : Int) ≤ 1048576 - szStrc x
  case neg =>
    refine Ok.of_cw fok_laws_FnExactIsEmbedding (go_ok (tab_cons ok_szStrc tab_nil) ?_)
    simp [code_laws_FnExactIsEmbedding, List.replicate, h0', h0'', l1, left_neg (by omega : (1048576:Int) - szStrc x < szStrc y)]
    omega
  have l2 := left_ge h2
  have hx : szStrc x ≤ 1048576 := by omega
  have hy : szStrc y ≤ 1048576 := by omega
  have a0 : (szStrc x : Int) ≤ 1048576 := by omega
  have a1 : (0 : Int) ≤ 1048576 - szStrc x := by omega
  refine Ok.of_cw fok_laws_FnExactIsEmbedding (go_ok (tab_cons ok_szStrc (tab_cons ok_toStrc (tab_cons ok_toIntS (tab_cons ok_sIsEmbedding (tab_cons ok_pIsEmbedding (tab_cons ok_eqStrc (tab_cons ok_eqIntS tab_nil))))))) ?_)
  simp (maxSteps := 1000000) [code_laws_FnExactIsEmbedding, List.replicate, h0, h0', h0'', l1, l2, hx, hy]
  omega
end Go.Vm
