/- Lists of heaps marked and held. No condition. -/
import Derived.Test.YtmakeoekklcbdaaTZC
set_option linter.unusedSimpArgs false
set_option linter.unusedVariables false
namespace Go.Vm
open Go.Proofs
def kF (v : Nat) (k0 : Int) : Nat → Int
  | 0 => k0
  | j + 1 => kF v k0 j + v + j
theorem kF_bound {v : Nat} {k0 : Int} (hv : v ≤ 4) : ∀ n, n ≤ 7 → k0 ≤ kF v k0 n ∧ kF v k0 n ≤ k0 + 11 * n
  | 0, _ => by simp [kF]
  | n + 1, h => by
    have := kF_bound (v := v) (k0 := k0) hv n (by omega)
    simp only [kF]
    omega
def mkH (v : Nat) (k0 : Int) (j : Nat) : Heap := ⟨marks (kF v k0 j) v, marks (kF v k0 j + v) j⟩
def mkHs (v : Nat) (k0 : Int) (n : Nat) : List Heap := (List.range n).map (mkH v k0)
theorem mkHs_len (v : Nat) (k0 : Int) (n : Nat) : (mkHs v k0 n).length = n := by simp [mkHs]
def code_laws_markHeapS : F := ⟨27, [.tmp 4],
 .seq (.reg [⟨some 4, .mov (.k (.int .i64 0)), none⟩])
 (.seq (.seq (.reg [⟨some 5, .mov (.k (.int .i64 0)), none⟩])
   (.block 0 (.loop (.seq (.seq (.reg [⟨some 6, .mov (.t 5), none⟩,
          ⟨some 7, .mov (.t 0), none⟩,
          ⟨some 8, .len (.t 7), none⟩,
          ⟨some 9, .bin .lss (.t 6) (.t 8), none⟩])
       (.cond (.t 9)
        (.skip)
        (.exit 0)))
      (.seq (.block 1 (.seq (.reg [⟨some 12, .mov (.t 0), none⟩,
            ⟨some 13, .mov (.t 5), none⟩,
            ⟨some 14, .iaddr 2 (.t 12) (.t 13), none⟩,
            ⟨some 15, .faddr 0 (.t 14), none⟩,
            ⟨some 16, .load 1 false (.t 15), none⟩,
            ⟨some 17, .mov (.t 1), none⟩,
            ⟨some 18, .call 73 [(.t 16), (.t 17)], none⟩,
            ⟨some 1, .mov (.t 18), none⟩])
         (.reg [⟨some 19, .mov (.t 0), none⟩,
            ⟨some 20, .mov (.t 5), none⟩,
            ⟨some 21, .iaddr 2 (.t 19) (.t 20), none⟩,
            ⟨some 22, .faddr 1 (.t 21), none⟩,
            ⟨some 23, .load 1 false (.t 22), none⟩,
            ⟨some 24, .mov (.t 1), none⟩,
            ⟨some 25, .call 73 [(.t 23), (.t 24)], none⟩,
            ⟨some 1, .mov (.t 25), none⟩])))
       (.reg [⟨some 10, .mov (.t 5), none⟩,
          ⟨some 11, .bin .add (.t 10) (.k (.int .i64 1)), none⟩,
          ⟨some 5, .mov (.t 11), none⟩]))))))
  (.seq (.reg [⟨some 26, .mov (.t 1), none⟩,
      ⟨some 4, .mov (.t 26), none⟩])
   (.ret)))⟩
theorem fok_laws_markHeapS : FOk Try.prog 29 code_laws_markHeapS := fok Try.func29 (by kernel_rfl)
def code_laws_heldHeapS : F := ⟨31, [.tmp 4],
 .seq (.reg [⟨some 4, .mov (.k (.int .i64 0)), none⟩])
 (.seq (.seq (.reg [⟨some 5, .mov (.k (.int .i64 0)), none⟩])
   (.block 0 (.loop (.seq (.seq (.reg [⟨some 6, .mov (.t 5), none⟩,
          ⟨some 7, .mov (.t 0), none⟩,
          ⟨some 8, .len (.t 7), none⟩,
          ⟨some 9, .bin .lss (.t 6) (.t 8), none⟩])
       (.cond (.t 9)
        (.skip)
        (.exit 0)))
      (.seq (.block 1 (.seq (.reg [⟨some 12, .mov (.t 0), none⟩,
            ⟨some 13, .mov (.t 5), none⟩,
            ⟨some 14, .iaddr 2 (.t 12) (.t 13), none⟩,
            ⟨some 15, .faddr 0 (.t 14), none⟩,
            ⟨some 16, .load 1 false (.t 15), none⟩,
            ⟨some 17, .mov (.t 1), none⟩,
            ⟨some 18, .call 74 [(.t 16), (.t 17)], none⟩,
            ⟨some 1, .mov (.t 18), none⟩])
         (.seq (.seq (.reg [⟨some 19, .mov (.t 1), none⟩,
              ⟨some 20, .bin .lss (.t 19) (.k (.int .i64 0)), none⟩])
           (.cond (.t 20)
            (.seq (.reg [⟨some 4, .mov (.k (.int .i64 (-1))), none⟩])
             (.ret))
            (.skip)))
          (.seq (.reg [⟨some 21, .mov (.t 0), none⟩,
              ⟨some 22, .mov (.t 5), none⟩,
              ⟨some 23, .iaddr 2 (.t 21) (.t 22), none⟩,
              ⟨some 24, .faddr 1 (.t 23), none⟩,
              ⟨some 25, .load 1 false (.t 24), none⟩,
              ⟨some 26, .mov (.t 1), none⟩,
              ⟨some 27, .call 74 [(.t 25), (.t 26)], none⟩,
              ⟨some 1, .mov (.t 27), none⟩])
           (.seq (.reg [⟨some 28, .mov (.t 1), none⟩,
               ⟨some 29, .bin .lss (.t 28) (.k (.int .i64 0)), none⟩])
            (.cond (.t 29)
             (.seq (.reg [⟨some 4, .mov (.k (.int .i64 (-1))), none⟩])
              (.ret))
             (.skip)))))))
       (.reg [⟨some 10, .mov (.t 5), none⟩,
          ⟨some 11, .bin .add (.t 10) (.k (.int .i64 1)), none⟩,
          ⟨some 5, .mov (.t 11), none⟩]))))))
  (.seq (.reg [⟨some 30, .mov (.t 1), none⟩,
      ⟨some 4, .mov (.t 30), none⟩])
   (.ret)))⟩
theorem fok_laws_heldHeapS : FOk Try.prog 30 code_laws_heldHeapS := fok Try.func30 (by kernel_rfl)
def rowI (xs : List Int) : Blk := .row true 3 1 (xs.map encInt)
def markF (v : Nat) (k0 : Int) : Nat → List Blk → List Blk
  | 0, H => H
  | i + 1, H => ((markF v k0 i H).set (1 + 11 * i + 9) (rowI (marks (kF v k0 i) v))).set (1 + 11 * i + 10) (rowI (marks (kF v k0 i + v) i))
theorem markF_len (v : Nat) (k0 : Int) : ∀ i H, (markF v k0 i H).length = H.length
  | 0, _ => rfl
  | i + 1, H => by simp [markF, markF_len v k0 i H]
theorem markF_get {v : Nat} {k0 : Int} {H : List Blk} : ∀ i, 1 + 11 * i ≤ H.length → (∀ j, j < i → (markF v k0 i H)[1 + 11 * j + 9]? = some (rowI (marks (kF v k0 j) v)) ∧ (markF v k0 i H)[1 + 11 * j + 10]? = some (rowI (marks (kF v k0 j + v) j))) ∧ ∀ q, (q = 0 ∨ 1 + 11 * i ≤ q) → (markF v k0 i H)[q]? = H[q]?
  | 0, _ => ⟨fun j h => absurd h (by omega), fun q _ => rfl⟩
  | i + 1, hl => by
    obtain ⟨h1, h2⟩ := markF_get (v := v) (k0 := k0) (H := H) i (by omega)
    have hlen := markF_len v k0 i H
    refine ⟨fun j hj => ?_, fun q hq => ?_⟩
    · by_cases e : j = i
      · subst e
        simp only [markF]
        rw [List.getElem?_set_ne (by omega), List.getElem?_set_self (by omega), List.getElem?_set_self (by simp; omega)]
        exact ⟨rfl, rfl⟩
      · obtain ⟨a, b⟩ := h1 j (by omega)
        simp only [markF]
        rw [List.getElem?_set_ne (by omega), List.getElem?_set_ne (by omega), List.getElem?_set_ne (by omega), List.getElem?_set_ne (by omega)]
        exact ⟨a, b⟩
    · simp only [markF]
      rw [List.getElem?_set_ne (by omega), List.getElem?_set_ne (by omega)]
      exact h2 q (by omega)
theorem laidH_get (v : Nat) : ∀ n i (h : i < (laidH v n).length), (laidH v n)[i] = hAt v (1 + 11 * i) i
  | 0, i, h => by simp [laidH] at h
  | n + 1, i, h => by
    have hn := laidH_len v n
    have h' : i < n + 1 := by simpa [laidH_len] using h
    by_cases e : i < n
    · simp only [laidH]
      rw [List.getElem_append_left (by omega)]
      exact laidH_get v n i (by omega)
    · have e : i = n := by omega
      subst e
      simp only [laidH]
      rw [List.getElem_append_right (by omega)]
      simp [hn]
@[simp] def ct_markHS : CtH := ⟨29, Nat × Nat × Int, fun x H => (0 ≤ x.2.2 ∧ x.2.2 ≤ 1000) ∧ (x.1 ≤ 4 ∧ x.2.1 ≤ 7) ∧ 1 + 11 * x.2.1 ≤ H.length ∧ H[0]? = some (.row true 28 2 (laidH x.1 x.2.1)) ∧ ∀ j, j < x.2.1 → (∃ us : List Int, us.length = x.1 ∧ H[1 + 11 * j + 9]? = some (rowI us)) ∧ ∃ ws : List Int, ws.length = j ∧ H[1 + 11 * j + 10]? = some (rowI ws),
  fun x => [.slref 0 0 x.2.1 x.2.1, .int .i64 x.2.2], fun x _ => .int .i64 (kF x.1 x.2.2 x.2.1), fun x H => markF x.1 x.2.2 x.2.1 H⟩
set_option maxHeartbeats 4000000 in
set_option maxRecDepth 100000 in
theorem ok_markHS : ct_markHS.Ok Try.prog := by
  rintro ⟨v, n, k0⟩ H ⟨⟨h1, h2⟩, ⟨h3, h4⟩, h5, h6, h7⟩
  change 0 ≤ k0 at h1
  change k0 ≤ 1000 at h2
  change v ≤ 4 at h3
  change n ≤ 7 at h4
  change 1 + 11 * n ≤ H.length at h5
  change H[0]? = some (.row true 28 2 (laidH v n)) at h6
  change ∀ j, j < n → (∃ us : List Int, us.length = v ∧ H[1 + 11 * j + 9]? = some (rowI us)) ∧ ∃ ws : List Int, ws.length = j ∧ H[1 + 11 * j + 10]? = some (rowI ws) at h7
  have hL := laidH_len v n
  refine OkH.of_cw' fok_laws_markHeapS (go_ok tab_nil ?_)
  simp [code_laws_markHeapS, List.replicate]
  refine cw_round (fun (i : Nat) => ⟨slots 27 [(0, .slref 0 0 n n), (1, .int .i64 (kF v k0 i)), (5, .int .i64 i)], markF v k0 i H⟩)
    (fun i => i ≤ n) (fun i => n - i) 0 (by omega) ?_ ?_
  · exact weak_slots (by simp [List.replicate, less_undef, less_refl, kF])
  rintro N hN i hi
  change i ≤ n at hi
  have hw : IntKind.i64.wrap ((i : Int) + 1) = ((i + 1 : Nat) : Int) := by rw [wrap_i64] <;> omega
  have hb := kF_bound (v := v) (k0 := k0) h3 i (by omega)
  obtain ⟨f1, f2⟩ := markF_get (v := v) (k0 := k0) (H := H) i (by omega)
  have hlen := markF_len v k0 i H
  have g0 := (f2 0 (.inl rfl)).trans h6
  by_cases g : i < n
  · have g2 : ¬ n ≤ i := by omega
    have gi : i < (laidH v n).length := by omega
    have he := laidH_get v n i gi
    simp only [hAt] at he
    obtain ⟨⟨us, u1, u2⟩, ws, w1, w2⟩ := h7 i g
    have gp := (f2 (1 + 11 * i + 9) (.inr (by omega))).trans u2
    have gq := (f2 (1 + 11 * i + 10) (.inr (by omega))).trans w2
    have k1 : 0 ≤ kF v k0 i := by omega
    have k2 : kF v k0 i ≤ 1099511627776 := by omega
    have k3 : 0 ≤ kF v k0 i + v := by omega
    have k4 : kF v k0 i + v ≤ 1099511627776 := by omega
    have hnext : markF v k0 (i + 1) H = ((markF v k0 i H).set (1 + 11 * i + 9) (rowI (marks (kF v k0 i) v))).set (1 + 11 * i + 10) (rowI (marks (kF v k0 i + v) i)) := rfl
    generalize markF v k0 i H = G at *
    refine cw_seq (go_ok tab_nil ?_); simp [List.replicate, g, g2, g0, hL]
    refine cw_seq (cw_block ?_)
    refine cw_seq (go_ok (tab_h (ok_markI 3) tab_nil) ?_); simp [List.replicate, g0, he, g, gi, hL, k1, k2]
    refine ⟨us, u1.symm, by omega, gp, ?_⟩
    simp only [u1]
    have g01 : (G.set (1 + 11 * i + 9) (rowI (marks (kF v k0 i) v)))[0]? = some (.row true 28 2 (laidH v n)) := by rw [List.getElem?_set_ne (by omega), g0]
    have gq1 : (G.set (1 + 11 * i + 9) (rowI (marks (kF v k0 i) v)))[1 + 11 * i + 10]? = some (rowI ws) := by rw [List.getElem?_set_ne (by omega), gq]
    change CW _ _ _ _ ⟨_, G.set (1 + 11 * i + 9) (rowI (marks (kF v k0 i) v))⟩
    generalize hG1 : G.set (1 + 11 * i + 9) (rowI (marks (kF v k0 i) v)) = G1 at *
    refine go_ok (tab_h (ok_markI 3) tab_nil) ?_
    simp [List.replicate, g01, he, g, gi, hL, k3, k4]
    refine ⟨ws, w1.symm, by omega, gq1, ?_⟩
    simp only [w1]
    refine go_ok tab_nil ?_
    simp [List.replicate, hw]
    refine hN i (i + 1) _ (by omega) (by omega) ?_
    rw [hnext]
    exact weak_slots (by simp [List.replicate, less_undef, less_refl, kF])
  · have e : i = n := by omega
    subst e
    refine go_ok tab_nil ?_
    simp [List.replicate, hw, retH, g0, hL]
theorem mkHs_get (v : Nat) (k0 : Int) (n i : Nat) (h : i < (mkHs v k0 n).length) : (mkHs v k0 n)[i] = mkH v k0 i := by simp [mkHs]
theorem marks_len2 (k : Int) (n : Nat) : (marks k n).length = n := by simp
@[simp] def ct_heldHS : Ct := ⟨30, Nat × Nat × Int, fun x => (0 ≤ x.2.2 ∧ x.2.2 ≤ 1000) ∧ x.1 ≤ 4 ∧ x.2.1 ≤ 7, fun x => [encL 2 encHeap (mkHs x.1 x.2.2 x.2.1), .int .i64 x.2.2], fun x => .int .i64 (kF x.1 x.2.2 x.2.1)⟩
set_option maxHeartbeats 4000000 in
set_option maxRecDepth 100000 in
theorem ok_heldHS : ct_heldHS.Ok Try.prog := by
  rintro ⟨v, n, k0⟩ ⟨⟨h1, h2⟩, h3, h4⟩
  change 0 ≤ k0 at h1
  change k0 ≤ 1000 at h2
  change v ≤ 4 at h3
  change n ≤ 7 at h4
  have hL := mkHs_len v k0 n
  have hge := mkHs_get v k0 n
  generalize hR : kF v k0 n = R
  simp only [ct_heldHS, hR]
  generalize mkHs v k0 n = hs at *
  refine Ok.of_cw fok_laws_heldHeapS (go_ok tab_nil ?_)
  simp [code_laws_heldHeapS, List.replicate]
  refine cw_round (fun (i : Nat) => ⟨slots 31 [(0, encL 2 encHeap hs), (1, .int .i64 (kF v k0 i)), (5, .int .i64 i)], []⟩)
    (fun i => i ≤ n) (fun i => n - i) 0 (by omega) ?_ ?_
  · exact weak_seal 0 (by simp) (by simp) (by simp [List.replicate, kF])
  rintro N hN i hi
  change i ≤ n at hi
  have hw : IntKind.i64.wrap ((i : Int) + 1) = ((i + 1 : Nat) : Int) := by rw [wrap_i64] <;> omega
  have hb := kF_bound (v := v) (k0 := k0) h3 i (by omega)
  by_cases g : i < n
  · have g2 : ¬ n ≤ i := by omega
    have gi : i < hs.length := by omega
    have he := hge i gi
    have k1 : 0 ≤ kF v k0 i := by omega
    have k2 : kF v k0 i ≤ 1099511627776 := by omega
    have k3 : 0 ≤ kF v k0 i + v := by omega
    have k4 : kF v k0 i + v ≤ 1099511627776 := by omega
    have k5 : ¬ kF v k0 i + v < 0 := by omega
    have k6 : ¬ kF v k0 i + v + i < 0 := by omega
    have k7 : 0 ≤ kF v k0 i + v + i := by omega
    have z1 : v ≤ 1099511627776 := by omega
    have z2 : i ≤ 1099511627776 := by omega
    have hz : (mkH v k0 i).vars = marks (kF v k0 i) v := rfl
    have hz2 : (mkH v k0 i).next = marks (kF v k0 i + v) i := rfl
    refine go_ok (tab_cons ok_heldI tab_nil) ?_
    simp [List.replicate, hw, g, g2, gi, hL, he, hz, hz2, k1, k2, k3, k4, k5, k6, k7, z1, z2]
    refine hN i (i + 1) _ (by omega) (by omega) (weak_seal 0 (by simp) (by simp) ?_)
    simp [List.replicate, kF]
  · have e : i = n := by omega
    subst e
    refine go_ok tab_nil ?_
    simp [List.replicate, hw, hL, hR]
end Go.Vm
