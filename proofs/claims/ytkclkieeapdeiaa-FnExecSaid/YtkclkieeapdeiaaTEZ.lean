/- spec.l8Without. No condition. -/
import Derived.Test.YtkclkieeapdeiaaTEX
import Derived.Test.YtkclkieeapdeiaaTWL
set_option linter.unusedSimpArgs false
set_option linter.unusedVariables false
namespace Go.Vm
open Go.Proofs
def code_spec_l1Bit : F := ⟨4, [.tmp 2],
 .seq (.reg [⟨some 2, .mov (.k (.int .i64 0)), none⟩])
 (.seq (.seq (.reg [⟨some 3, .mov (.t 0), none⟩])
   (.cond (.t 3)
    (.seq (.reg [⟨some 2, .mov (.k (.int .i64 1)), none⟩])
     (.ret))
    (.skip)))
  (.seq (.reg [⟨some 2, .mov (.k (.int .i64 0)), none⟩])
   (.ret)))⟩
theorem fok_spec_l1Bit : FOk Try.prog 103 code_spec_l1Bit := fok Try.func103 (by kernel_rfl)
def code_spec_l8Without : F := ⟨65, [.cell 2 true 4],
 .seq (.reg [⟨some 2, .box (.t 0), none⟩,
    ⟨some 4, .alloc [(.sl .nil 0 []), (.sl .nil 0 [])], none⟩])
 (.seq (.reg [⟨some 8, .build [(.sl .nil 0 []), (.sl .nil 0 [])] [], none⟩,
     ⟨some 5, .alloc [(.sl .nil 0 []), (.sl .nil 0 [])], none⟩,
     ⟨none, .store 2 (.t 5) (.t 8), none⟩])
  (.seq (.seq (.reg [⟨some 6, .mov (.k (.int .i64 0)), none⟩])
    (.block 0 (.loop (.seq (.seq (.reg [⟨some 9, .mov (.t 6), none⟩,
           ⟨some 10, .faddr 0 (.t 2), none⟩,
           ⟨some 11, .load 1 false (.t 10), none⟩,
           ⟨some 12, .len (.t 11), none⟩,
           ⟨some 13, .bin .lss (.t 9) (.t 12), none⟩])
        (.cond (.t 13)
         (.skip)
         (.exit 0)))
       (.seq (.block 1 (.dreg [false, false, false, false, false, false, false, false, false, false, false, false, false, false, false, false, false, true, true, true] [false, false, false, false, false, false, false, false, false, false, false, false, false, false, true, false, false, false, false, false] [⟨some 16, .faddr 0 (.t 5), none⟩,
            ⟨some 17, .load 1 false (.t 16), none⟩,
            ⟨some 18, .faddr 0 (.t 2), none⟩,
            ⟨some 19, .load 1 false (.t 18), none⟩,
            ⟨some 20, .mov (.t 6), none⟩,
            ⟨some 21, .iaddr 1 (.t 19) (.t 20), none⟩,
            ⟨some 22, .load 1 false (.t 21), none⟩,
            ⟨some 23, .faddr 0 (.t 2), none⟩,
            ⟨some 24, .load 1 false (.t 23), none⟩,
            ⟨some 25, .mov (.t 6), none⟩,
            ⟨some 26, .iaddr 1 (.t 24) (.t 25), none⟩,
            ⟨some 27, .load 1 false (.t 26), none⟩,
            ⟨some 28, .mov (.t 1), none⟩,
            ⟨some 29, .bin .gtr (.t 27) (.t 28), none⟩,
            ⟨some 30, .call 103 [(.t 29)], none⟩,
            ⟨some 31, .bin .sub (.t 22) (.t 30), none⟩,
            ⟨some 32, .bsl 3 1 1 (.int .i64 0) [(0, (.t 31))], none⟩,
            ⟨some 33, .append 3 1 8 (.t 17) (.t 32), none⟩,
            ⟨some 34, .faddr 0 (.t 5), none⟩,
            ⟨none, .store 1 (.t 34) (.t 33), none⟩]))
        (.reg [⟨some 14, .mov (.t 6), none⟩,
           ⟨some 15, .bin .add (.t 14) (.k (.int .i64 1)), none⟩,
           ⟨some 6, .mov (.t 15), none⟩]))))))
   (.seq (.seq (.reg [⟨some 7, .mov (.k (.int .i64 0)), none⟩])
     (.block 2 (.loop (.seq (.seq (.reg [⟨some 35, .mov (.t 7), none⟩,
            ⟨some 36, .faddr 1 (.t 2), none⟩,
            ⟨some 37, .load 1 false (.t 36), none⟩,
            ⟨some 38, .len (.t 37), none⟩,
            ⟨some 39, .bin .lss (.t 35) (.t 38), none⟩])
         (.cond (.t 39)
          (.skip)
          (.exit 2)))
        (.seq (.block 3 (.seq (.reg [⟨some 42, .mov (.t 7), none⟩,
              ⟨some 43, .mov (.t 1), none⟩,
              ⟨some 44, .bin .neq (.t 42) (.t 43), none⟩])
           (.cond (.t 44)
            (.dreg [false, false, false, false, false, false, false, false, false, false, false, false, false, false, false, false, false, true, true, true] [false, false, false, false, false, false, false, false, false, false, false, false, false, false, true, false, false, false, false, false] [⟨some 45, .faddr 1 (.t 5), none⟩,
               ⟨some 46, .load 1 false (.t 45), none⟩,
               ⟨some 47, .faddr 1 (.t 2), none⟩,
               ⟨some 48, .load 1 false (.t 47), none⟩,
               ⟨some 49, .mov (.t 7), none⟩,
               ⟨some 50, .iaddr 1 (.t 48) (.t 49), none⟩,
               ⟨some 51, .load 1 false (.t 50), none⟩,
               ⟨some 52, .faddr 1 (.t 2), none⟩,
               ⟨some 53, .load 1 false (.t 52), none⟩,
               ⟨some 54, .mov (.t 7), none⟩,
               ⟨some 55, .iaddr 1 (.t 53) (.t 54), none⟩,
               ⟨some 56, .load 1 false (.t 55), none⟩,
               ⟨some 57, .mov (.t 1), none⟩,
               ⟨some 58, .bin .gtr (.t 56) (.t 57), none⟩,
               ⟨some 59, .call 103 [(.t 58)], none⟩,
               ⟨some 60, .bin .sub (.t 51) (.t 59), none⟩,
               ⟨some 61, .bsl 3 1 1 (.int .i64 0) [(0, (.t 60))], none⟩,
               ⟨some 62, .append 3 1 8 (.t 46) (.t 61), none⟩,
               ⟨some 63, .faddr 1 (.t 5), none⟩,
               ⟨none, .store 1 (.t 63) (.t 62), none⟩])
            (.skip))))
         (.reg [⟨some 40, .mov (.t 7), none⟩,
            ⟨some 41, .bin .add (.t 40) (.k (.int .i64 1)), none⟩,
            ⟨some 7, .mov (.t 41), none⟩]))))))
    (.seq (.reg [⟨some 64, .load 2 true (.t 5), none⟩,
        ⟨none, .store 2 (.t 4) (.t 64), none⟩])
     (.ret)))))⟩
theorem fok_spec_l8Without : FOk Try.prog 100 code_spec_l8Without := fok Try.func100 (by kernel_rfl)
def bitI (b : Bool) : Int := if b = true then 1 else 0
@[simp] def ct_l1Bit : Ct := ⟨103, BB, fun _ => True, fun x => [.bool x.b], fun x => .int .i64 (bitI x.b)⟩
theorem ok_l1Bit : ct_l1Bit.Ok Try.prog := by
  rintro ⟨_ | _⟩ - <;> refine Ok.of_cw fok_spec_l1Bit (go_ok tab_nil ?_) <;> simp [code_spec_l1Bit, List.replicate, bitI]
theorem er_step {nx : List Int} {k c : Nat} (h : k < nx.length) (hc : k ≠ c) : (nx.take (k + 1)).eraseIdx c = (nx.take k).eraseIdx c ++ [nx[k]] := by
  rw [List.take_succ_eq_append_getElem h]
  have hl : (nx.take k).length = k := by simp; omega
  rcases Nat.lt_or_ge c k with h1 | h1
  · rw [List.eraseIdx_append_of_lt_length (by omega)]
  · rw [List.eraseIdx_of_length_le (by simp; omega), List.eraseIdx_of_length_le (by omega)]
theorem er_skip {nx : List Int} {k c : Nat} (h : k < nx.length) (hc : k = c) : (nx.take (k + 1)).eraseIdx c = (nx.take k).eraseIdx c := by
  subst hc
  rw [List.take_succ_eq_append_getElem h]
  have hl : (nx.take k).length = k := by simp; omega
  rw [List.eraseIdx_append_of_length_le (by omega), hl, Nat.sub_self, List.eraseIdx_of_length_le (l := nx.take k) (by omega)]
  simp
theorem dec_bit (c : Nat) (x : Int) : x - bitI (decide ((c : Int) < x)) = decC c x := by
  unfold decC bitI
  by_cases h : (c : Int) < x
  · simp [h]
  · simp [h]
structure W8 where
  h : Heap
  c : Nat
@[simp] def ct_sWithout : Ct := ⟨100, W8, fun x => (x.h.vars.length ≤ 4 ∧ x.h.next.length ≤ 6) ∧ (∀ y ∈ x.h.vars, -1 ≤ y ∧ y ≤ 1000) ∧ (∀ y ∈ x.h.next, -1 ≤ y ∧ y ≤ 1000), fun x => [encHeap x.h, .int .i64 x.c], fun x => encHeap ⟨x.h.vars.map (decC x.c), (x.h.next.eraseIdx x.c).map (decC x.c)⟩⟩
set_option maxHeartbeats 4000000 in
theorem ok_sWithout : ct_sWithout.Ok Try.prog := by
  rintro ⟨⟨vs, nx⟩, c⟩ ⟨⟨h1, h2⟩, h3, h4⟩
  change vs.length ≤ 4 at h1
  change nx.length ≤ 6 at h2
  change ∀ y ∈ vs, -1 ≤ y ∧ y ≤ 1000 at h3
  change ∀ y ∈ nx, -1 ≤ y ∧ y ≤ 1000 at h4
  simp only [ct_sWithout]
  have hT : TabOk Try.prog _ := tab_cons ok_l1Bit tab_nil
  refine Ok.of_cw fok_spec_l8Without (go_ok hT ?_)
  simp [code_spec_l8Without, List.replicate, encHeap_eq]
  refine cw_round (fun (p : Nat × List Int) => ⟨slots 65 [(1, .int .i64 c), (2, .pbox 0 0), (4, .pbox 3 0), (5, .pbox 6 0), (6, .int .i64 p.1)], [.cells [encL 1 encInt vs, encL 1 encInt nx], .nrow, .nrow, .cells [.slref 1 0 0 0, .slref 2 0 0 0], .dead, .dead, .cells [.slref 7 0 p.2.length p.2.length, .slref 8 0 0 0], .row true 3 1 (p.2.map encInt), .nrow]⟩)
    (fun p => p.1 ≤ vs.length ∧ p.2 = (vs.take p.1).map (decC c)) (fun p => vs.length - p.1) (0, []) ⟨by simp, by simp⟩ ?_ ?_
  · refine (weak_row 7 3 1 rfl).trans (weak_less ?_ ?_)
    · simp
    · simp [List.replicate]
  · rintro N hN ⟨i, ys⟩ ⟨hi, hy⟩
    change i ≤ vs.length at hi
    change ys = (vs.take i).map (decC c) at hy
    have hw : IntKind.i64.wrap ((i : Int) + 1) = ((i + 1 : Nat) : Int) := by rw [wrap_i64] <;> omega
    have hyl : ys.length = i := by rw [hy]; simp; omega
    have hb : (ys.length + 1) * 8 ≤ 140737488355328 := by omega
    by_cases g : i < vs.length
    · have g2 : ¬ vs.length ≤ i := by omega
      have hbn := h3 vs[i] (List.getElem_mem g)
      have hd := dec_bit c vs[i]
      have hd2 : IntKind.i64.wrap (vs[i] - bitI (decide ((c : Int) < vs[i]))) = decC c vs[i] := by
        rw [hd]; unfold decC; split <;> (rw [wrap_i64] <;> omega)
      have hts : (vs.take (i + 1)).map (decC c) = ys ++ [decC c vs[i]] := by rw [hy]; exact take_map2 _ g
      refine go_ok hT ?_
      simp [List.replicate, hw, g, g2, hb, app1, hd2]
      refine hN (i, ys) (i + 1, ys ++ [decC c vs[i]]) _ ⟨by simp; omega, hts.symm⟩ (by simp; omega) (weak_less ?_ ?_)
      · simp
      · simp [List.replicate]
    · have e : i = vs.length := by omega
      subst e
      rw [List.take_length] at hy
      subst hy
      refine go_ok hT ?_
      simp [List.replicate]
      have hAl : (vs.map (decC c)).length = vs.length := by simp
      have hA2 : List.map (encInt ∘ decC c) vs = List.map encInt (vs.map (decC c)) := by rw [List.map_map]
      generalize vs.map (decC c) = A at *
      refine cw_round (fun (p : Nat × List Int) => ⟨slots 65 [(1, .int .i64 c), (2, .pbox 0 0), (4, .pbox 3 0), (5, .pbox 6 0), (7, .int .i64 p.1)], [.cells [encL 1 encInt vs, encL 1 encInt nx], .nrow, .nrow, .cells [.slref 1 0 0 0, .slref 2 0 0 0], .dead, .dead, .cells [.slref 7 0 A.length A.length, .slref 8 0 p.2.length p.2.length], .row true 3 1 (A.map encInt), .row true 3 1 (p.2.map encInt)]⟩)
        (fun p => p.1 ≤ nx.length ∧ p.2 = ((nx.take p.1).eraseIdx c).map (decC c)) (fun p => nx.length - p.1) (0, []) ⟨by simp, by simp⟩ ?_ ?_
      · refine (weak_row 8 3 1 rfl).trans (weak_less ?_ ?_)
        · simp [hAl, hA2]
        · simp [List.replicate]
      · rintro M hM ⟨j, zs⟩ ⟨hj, hz⟩
        change j ≤ nx.length at hj
        change zs = ((nx.take j).eraseIdx c).map (decC c) at hz
        have hw : IntKind.i64.wrap ((j : Int) + 1) = ((j + 1 : Nat) : Int) := by rw [wrap_i64] <;> omega
        have hzl : zs.length ≤ j := by
          rw [hz, List.length_map]
          have := List.length_eraseIdx_le (nx.take j) c
          simp at this; omega
        have hb : (zs.length + 1) * 8 ≤ 140737488355328 := by omega
        by_cases k : j < nx.length
        · have k2 : ¬ nx.length ≤ j := by omega
          by_cases kc : j = c
          · have hs := er_skip k kc
            subst kc
            refine go_ok hT ?_
            simp [List.replicate, hw, k, k2]
            refine hM (j, zs) (j + 1, zs) _ ⟨by simp; omega, by simp only; rw [hs]; exact hz⟩ (by simp; omega) (weak_less ?_ ?_)
            · simp
            · simp [List.replicate]
          · have kc' : ¬ (j : Int) = c := by omega
            have hs : ((nx.take (j + 1)).eraseIdx c).map (decC c) = zs ++ [decC c nx[j]] := by rw [er_step k kc, hz]; simp
            have hbn := h4 nx[j] (List.getElem_mem k)
            have hd := dec_bit c nx[j]
            have hd2 : IntKind.i64.wrap (nx[j] - bitI (decide ((c : Int) < nx[j]))) = decC c nx[j] := by
              rw [hd]; unfold decC; split <;> (rw [wrap_i64] <;> omega)
            refine go_ok hT ?_
            simp [List.replicate, hw, k, k2, kc', hb, app1, hd2]
            refine hM (j, zs) (j + 1, zs ++ [decC c nx[j]]) _ ⟨by simp; omega, hs.symm⟩ (by simp; omega) (weak_less ?_ ?_)
            · simp
            · simp [List.replicate]
        · have e : j = nx.length := by omega
          subst e
          rw [List.take_length] at hz
          rw [← hz]
          refine go_ok hT ?_
          simp [List.replicate]
end Go.Vm
