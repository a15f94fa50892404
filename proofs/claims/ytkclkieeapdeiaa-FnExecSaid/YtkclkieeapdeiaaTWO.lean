/- (impl.Heap).without on two rows of the caller's. No condition. -/
import Derived.Test.YtkclkieeapdeiaaTDL
import Derived.Test.YtkclkieeapdeiaaTG
set_option linter.unusedSimpArgs false
set_option linter.unusedVariables false
namespace Go.Vm
open Go.Proofs
def decC (c : Nat) (x : Int) : Int := if (c : Int) < x then x - 1 else x
def decL (c : Nat) (ys : List Int) (p : Nat) : List Int := (ys.take p).map (decC c) ++ ys.drop p
theorem decL_len {c : Nat} {ys : List Int} {p : Nat} (h : p ≤ ys.length) : (decL c ys p).length = ys.length := by simp [decL]; omega
theorem decL_zero {c : Nat} {ys : List Int} : decL c ys 0 = ys := by simp [decL]
theorem decL_all {c : Nat} {ys : List Int} : decL c ys ys.length = ys.map (decC c) := by simp [decL]
theorem decL_get {c : Nat} {ys : List Int} {p : Nat} (h : p < ys.length) : (decL c ys p)[p]? = some ys[p] := by
  unfold decL
  rw [List.getElem?_append_right (by simp; omega)]
  simp only [List.length_map, List.length_take, List.getElem?_drop]
  rw [show p + (p - min p ys.length) = p by omega, List.getElem?_eq_getElem h]
theorem decL_set {c : Nat} {ys : List Int} {p : Nat} (h : p < ys.length) : (decL c ys p).set p (decC c ys[p]) = decL c ys (p + 1) := by
  apply List.ext_getElem?
  intro j
  have hl : (decL c ys p).length = ys.length := decL_len (by omega)
  by_cases e : j = p
  · subst e
    rw [List.getElem?_set_self (by omega)]
    unfold decL
    rw [List.getElem?_append_left (by simp; omega)]
    simp [h]
  · rw [List.getElem?_set_ne (fun e' => e e'.symm)]
    unfold decL
    rcases Nat.lt_or_ge j p with h1 | h1
    · rw [List.getElem?_append_left (by simp; omega), List.getElem?_append_left (by simp; omega)]
      simp [h1, show j < p + 1 by omega]
    · rw [List.getElem?_append_right (by simp; omega), List.getElem?_append_right (by simp; omega)]
      simp only [List.length_map, List.length_take, List.getElem?_drop]
      congr 1
      omega
theorem decL_same {c : Nat} {ys : List Int} {p : Nat} (h : p < ys.length) (e : decC c ys[p] = ys[p]) : decL c ys (p + 1) = decL c ys p := by
  rw [← decL_set h, e]
  apply List.ext_getElem?
  intro j
  by_cases e : j = p
  · subst e
    rw [List.getElem?_set_self (by rw [decL_len (by omega)]; exact h), decL_get h]
  · rw [List.getElem?_set_ne (fun e' => e e'.symm)]
def fst6 (x : Blk × Blk × Blk × Blk × Blk × Blk) (a b : Blk) : List Blk := [x.1, x.2.1, x.2.2.1, x.2.2.2.1, x.2.2.2.2.1, a, b, x.2.2.2.2.2]
theorem fst6_eq {x0 x1 x2 x3 x4 x5 a b : Blk} : fst6 (x0, x1, x2, x3, x4, x5) a b = [x0, x1, x2, x3, x4, a, b, x5] := rfl
def code_impl_Heap_without : F := ⟨45, [.cell 2 true 4],
 .seq (.reg [⟨some 2, .box (.t 0), none⟩,
    ⟨some 4, .alloc [(.sl .nil 0 []), (.sl .nil 0 [])], none⟩])
 (.seq (.reg [⟨some 9, .faddr 1 (.t 2), none⟩,
     ⟨some 10, .load 1 false (.t 9), none⟩,
     ⟨some 11, .mov (.t 1), none⟩,
     ⟨some 12, .mov (.t 1), none⟩,
     ⟨some 13, .bin .add (.t 12) (.k (.int .i64 1)), none⟩,
     ⟨some 14, .call 97 [(.t 10), (.t 11), (.t 13)], none⟩,
     ⟨some 15, .faddr 1 (.t 2), none⟩,
     ⟨none, .store 1 (.t 15) (.t 14), none⟩])
  (.seq (.seq (.reg [⟨some 16, .faddr 0 (.t 2), none⟩,
       ⟨some 17, .load 1 false (.t 16), none⟩,
       ⟨some 18, .faddr 1 (.t 2), none⟩,
       ⟨some 19, .load 1 false (.t 18), none⟩,
       ⟨some 20, .bsl 27 1 2 (.sl .nil 0 []) [(0, (.t 17)), (1, (.t 19))], none⟩,
       ⟨some 21, .len (.t 20), none⟩,
       ⟨some 22, .mov (.k (.int .i64 0)), none⟩])
    (.block 0 (.loop (.seq (.reg [⟨some 23, .bin .lss (.t 22) (.t 21), none⟩])
       (.seq (.cond (.t 23)
         (.skip)
         (.exit 0))
        (.seq (.block 1 (.seq (.reg [⟨some 24, .iaddr 1 (.t 20) (.t 22), none⟩,
              ⟨some 25, .load 1 false (.t 24), none⟩,
              ⟨some 6, .mov (.t 25), none⟩])
           (.seq (.reg [⟨some 26, .mov (.t 6), none⟩,
               ⟨some 27, .len (.t 26), none⟩,
               ⟨some 28, .mov (.k (.int .i64 0)), none⟩])
            (.block 2 (.loop (.seq (.reg [⟨some 29, .bin .lss (.t 28) (.t 27), none⟩])
               (.seq (.cond (.t 29)
                 (.skip)
                 (.exit 2))
                (.seq (.block 3 (.seq (.reg [⟨some 30, .mov (.t 28), none⟩,
                      ⟨some 31, .iaddr 1 (.t 26) (.t 28), none⟩,
                      ⟨some 32, .load 1 false (.t 31), none⟩,
                      ⟨some 7, .mov (.t 30), none⟩,
                      ⟨some 8, .mov (.t 32), none⟩])
                   (.seq (.reg [⟨some 33, .mov (.t 8), none⟩,
                       ⟨some 34, .mov (.t 1), none⟩,
                       ⟨some 35, .bin .gtr (.t 33) (.t 34), none⟩])
                    (.cond (.t 35)
                     (.reg [⟨some 36, .mov (.t 6), none⟩,
                        ⟨some 37, .mov (.t 7), none⟩,
                        ⟨some 38, .iaddr 1 (.t 36) (.t 37), none⟩,
                        ⟨some 39, .load 1 false (.t 38), none⟩,
                        ⟨some 40, .bin .sub (.t 39) (.k (.int .i64 1)), none⟩,
                        ⟨some 41, .iaddr 1 (.t 36) (.t 37), none⟩,
                        ⟨none, .store 1 (.t 41) (.t 40), none⟩])
                     (.skip)))))
                 (.reg [⟨some 42, .bin .add (.t 28) (.k (.int .i64 1)), none⟩,
                    ⟨some 28, .mov (.t 42), none⟩])))))))))
         (.reg [⟨some 43, .bin .add (.t 22) (.k (.int .i64 1)), none⟩,
            ⟨some 22, .mov (.t 43), none⟩])))))))
   (.seq (.reg [⟨some 44, .load 2 true (.t 2), none⟩,
       ⟨none, .store 2 (.t 4) (.t 44), none⟩])
    (.ret))))⟩
theorem fok_impl_Heap_without : FOk Try.prog 84 code_impl_Heap_without := fok Try.func84 (by kernel_rfl)
structure Wo where
  x : Blk × Blk × Blk × Blk × Blk × Blk
  vs : List Int
  nx : List Int
  c : Nat
@[simp] def ct_without : CtH := ⟨84, Wo, fun x H => H = fst6 x.x (.row true 3 1 (x.vs.map encInt)) (.row true 3 1 (x.nx.map encInt)) ∧ x.c < x.nx.length ∧ (x.vs.length ≤ 4 ∧ x.nx.length ≤ 6) ∧ (∀ y ∈ x.vs, -1 ≤ y ∧ y ≤ 1000) ∧ (∀ y ∈ x.nx, -1 ≤ y ∧ y ≤ 1000),
  fun x => [.agg [.slref 5 0 x.vs.length x.vs.length, .slref 6 0 x.nx.length x.nx.length], .int .i64 x.c],
  fun x _ => .agg [.slref 5 0 x.vs.length x.vs.length, .slref 6 0 (x.nx.length - 1) x.nx.length],
  fun x _ => fst6 x.x (.row true 3 1 ((x.vs.map (decC x.c)).map encInt)) (.row true 3 1 (((x.nx.eraseIdx x.c).map (decC x.c) ++ [0]).map encInt)) ++ [.dead, .dead, .dead, .cells [.slref 5 0 x.vs.length x.vs.length, .slref 6 0 (x.nx.length - 1) x.nx.length], .dead]⟩
set_option maxHeartbeats 4000000 in
theorem ok_without : ct_without.Ok Try.prog := by
  rintro ⟨⟨x0, x1, x2, x3, x4, x5⟩, vs, nx, c⟩ H ⟨rfl, h1, ⟨h2, h3⟩, h4, h5⟩
  change c < nx.length at h1
  change vs.length ≤ 4 at h2
  change nx.length ≤ 6 at h3
  change ∀ y ∈ vs, -1 ≤ y ∧ y ≤ 1000 at h4
  change ∀ y ∈ nx, -1 ≤ y ∧ y ≤ 1000 at h5
  have h5' : ∀ y ∈ nx.eraseIdx c, -1 ≤ y ∧ y ≤ 1000 := fun y hy => h5 y (List.mem_of_mem_eraseIdx hy)
  have hzl : (nx.eraseIdx c).length = nx.length - 1 := by rw [List.length_eraseIdx]; simp [h1]
  have hT : TabOk Try.prog _ := tab_h ok_Delete tab_nil
  simp only [ct_without, fst6_eq]
  have w1 : IntKind.i64.wrap ((c : Int) + 1) = (c : Int) + 1 := by rw [wrap_i64] <;> omega
  refine OkH.of_self fun hB => OkH.of_cw fok_impl_Heap_without ?_
  simp only [code_impl_Heap_without, frame, List.length_cons, List.length_nil, List.replicate, Nat.reduceSub, Nat.reduceAdd, List.cons_append, List.nil_append]
  refine cw_seq (go_ok hT ?_); simp [List.replicate]
  refine cw_seq (go_ok hT ?_); simp [List.replicate, w1]
  refine ⟨c, nx, rfl, rfl, rfl, h1, by omega, ?_⟩
  have hze : (List.map encInt (nx.eraseIdx c ++ [0])).length = nx.length := by simp [hzl]; omega
  generalize nx.eraseIdx c = zs at *
  have ez : nx.length - 1 = zs.length := hzl.symm
  have en : nx.length = zs.length + 1 := by omega
  simp only [en, Nat.add_sub_cancel] at *
  clear hB w1 h1 hze h5 ez en hzl
  have hz6 : zs.length ≤ 5 := by omega
  have hTn : TabOk Try.prog _ := tab_nil
  refine cw_seq (cw_seq (go_ok hTn ?_)); simp [List.replicate]
  refine cw_block ?_
  refine cw_round (fun (q : Nat) => ⟨slots 45 [(1, .int .i64 c), (2, .pbox 8 0), (4, .pbox 11 0), (20, .slref 12 0 2 2), (21, .int .i64 2), (22, .int .i64 q)], [x0, x1, x2, x3, x4, .row true 3 1 (if 0 < q then (vs.map (decC c)).map encInt else vs.map encInt), .row true 3 1 (if 1 < q then (zs.map (decC c)).map encInt ++ [.int .i64 0] else zs.map encInt ++ [.int .i64 0]), x5, .cells [.slref 5 0 vs.length vs.length, .slref 6 0 zs.length (zs.length + 1)], .nrow, .nrow, .cells [.slref 9 0 0 0, .slref 10 0 0 0], .row true 27 1 [.slref 5 0 vs.length vs.length, .slref 6 0 zs.length (zs.length + 1)]]⟩)
    (fun q => q ≤ 2) (fun q => 2 - q) 0 (Nat.zero_le _) ?_ ?_
  · exact weak_less (by simp) (by simp [List.replicate])
  rintro N hN q hq
  change q ≤ 2 at hq
  have hq3 : q = 0 ∨ q = 1 ∨ q = 2 := by omega
  rcases hq3 with rfl | rfl | rfl
  · refine go_ok hTn ?_; simp [List.replicate]
    refine cw_round (fun (p : Nat) => ⟨slots 45 [(1, .int .i64 c), (2, .pbox 8 0), (4, .pbox 11 0), (6, .slref 5 0 vs.length vs.length), (20, .slref 12 0 2 2), (21, .int .i64 2), (22, .int .i64 0), (26, .slref 5 0 vs.length vs.length), (27, .int .i64 vs.length), (28, .int .i64 p)], [x0, x1, x2, x3, x4, .row true 3 1 ((decL c vs p).map encInt), .row true 3 1 (zs.map encInt ++ [.int .i64 0]), x5, .cells [.slref 5 0 vs.length vs.length, .slref 6 0 zs.length (zs.length + 1)], .nrow, .nrow, .cells [.slref 9 0 0 0, .slref 10 0 0 0], .row true 27 1 [.slref 5 0 vs.length vs.length, .slref 6 0 zs.length (zs.length + 1)]]⟩)
      (fun p => p ≤ vs.length) (fun p => vs.length - p) 0 (Nat.zero_le _) ?_ ?_
    · exact weak_less (by simp [decL_zero]) (by simp [List.replicate])
    rintro M hM p hp
    change p ≤ vs.length at hp
    have hw : IntKind.i64.wrap ((p : Int) + 1) = ((p + 1 : Nat) : Int) := by rw [wrap_i64] <;> omega
    have hlen := decL_len (c := c) hp
    by_cases g : p < vs.length
    · have g2 : ¬ vs.length ≤ p := by omega
      have hget := decL_get (c := c) g
      have hgl : p < (decL c vs p).length := by omega
      have hge : (decL c vs p)[p] = vs[p] := by rw [List.getElem?_eq_getElem hgl] at hget; exact Option.some.inj hget
      have hb := h4 vs[p] (List.getElem_mem g)
      have hgm : (List.map encInt (decL c vs p))[p]? = some (.int .i64 vs[p]) := by
        first
          | (rw [List.getElem?_map, hget]; rfl)
          | (rw [List.getElem?_append_left (by rw [List.length_map]; omega), List.getElem?_map, hget]; rfl)
      by_cases k : (c : Int) < vs[p]
      · have hd : decC c vs[p] = vs[p] - 1 := if_pos k
        have hw2 : IntKind.i64.wrap (vs[p] - 1) = vs[p] - 1 := by rw [wrap_i64] <;> omega
        have hs : (List.map encInt (decL c vs p)).set p (.int .i64 (vs[p] - 1)) = List.map encInt (decL c vs (p + 1)) := by
          first
            | (rw [← decL_set g, hd, List.map_set]; rfl)
            | (rw [List.set_append_left _ _ (by rw [List.length_map]; omega), ← decL_set g, hd, List.map_set]; rfl)
        have hs2 : (List.map encInt (decL c vs p)).set p (.int .i64 (vs[p] - 1)) = List.map encInt (decL c vs (p + 1)) := by
          rw [← decL_set g, hd, List.map_set]; rfl
        refine go_ok hTn ?_
        simp [List.replicate, hw, g, g2, k, hlen, hgm, hget, hge, hgl, hw2, hs, hs2]
        refine hM p (p + 1) _ (by show p + 1 ≤ _; omega) (by omega) (weak_less ?_ ?_)
        · simp [hs, hs2]
        · simp [List.replicate]
      · have hd : decC c vs[p] = vs[p] := if_neg k
        have hs := decL_same g hd
        refine go_ok hTn ?_
        simp [List.replicate, hw, g, g2, k, hlen, hgm, hget, hge, hgl]
        refine hM p (p + 1) _ (by show p + 1 ≤ _; omega) (by omega) (weak_less ?_ ?_)
        · simp [hs]
        · simp [List.replicate]
    · have e : p = vs.length := by omega
      subst e
      refine go_ok hTn ?_
      simp [List.replicate]
      refine hN 0 1 _ (by show 1 ≤ 2; omega) (by omega) (weak_less ?_ ?_)
      · simp [decL_all]
      · simp [List.replicate]
  · refine go_ok hTn ?_; simp [List.replicate]
    refine cw_round (fun (p : Nat) => ⟨slots 45 [(1, .int .i64 c), (2, .pbox 8 0), (4, .pbox 11 0), (6, .slref 6 0 zs.length (zs.length + 1)), (20, .slref 12 0 2 2), (21, .int .i64 2), (22, .int .i64 1), (26, .slref 6 0 zs.length (zs.length + 1)), (27, .int .i64 zs.length), (28, .int .i64 p)], [x0, x1, x2, x3, x4, .row true 3 1 ((vs.map (decC c)).map encInt), .row true 3 1 ((decL c zs p).map encInt ++ [.int .i64 0]), x5, .cells [.slref 5 0 vs.length vs.length, .slref 6 0 zs.length (zs.length + 1)], .nrow, .nrow, .cells [.slref 9 0 0 0, .slref 10 0 0 0], .row true 27 1 [.slref 5 0 vs.length vs.length, .slref 6 0 zs.length (zs.length + 1)]]⟩)
      (fun p => p ≤ zs.length) (fun p => zs.length - p) 0 (Nat.zero_le _) ?_ ?_
    · exact weak_less (by simp [decL_zero]) (by simp [List.replicate])
    rintro M hM p hp
    change p ≤ zs.length at hp
    have hw : IntKind.i64.wrap ((p : Int) + 1) = ((p + 1 : Nat) : Int) := by rw [wrap_i64] <;> omega
    have hlen := decL_len (c := c) hp
    by_cases g : p < zs.length
    · have g2 : ¬ zs.length ≤ p := by omega
      have hget := decL_get (c := c) g
      have hgl : p < (decL c zs p).length := by omega
      have hge : (decL c zs p)[p] = zs[p] := by rw [List.getElem?_eq_getElem hgl] at hget; exact Option.some.inj hget
      have hb := h5' zs[p] (List.getElem_mem g)
      have hgm : (List.map encInt (decL c zs p) ++ [AV.int .i64 0])[p]? = some (.int .i64 zs[p]) := by
        first
          | (rw [List.getElem?_map, hget]; rfl)
          | (rw [List.getElem?_append_left (by rw [List.length_map]; omega), List.getElem?_map, hget]; rfl)
      by_cases k : (c : Int) < zs[p]
      · have hd : decC c zs[p] = zs[p] - 1 := if_pos k
        have hw2 : IntKind.i64.wrap (zs[p] - 1) = zs[p] - 1 := by rw [wrap_i64] <;> omega
        have hs : (List.map encInt (decL c zs p) ++ [AV.int .i64 0]).set p (.int .i64 (zs[p] - 1)) = List.map encInt (decL c zs (p + 1)) ++ [AV.int .i64 0] := by
          first
            | (rw [← decL_set g, hd, List.map_set]; rfl)
            | (rw [List.set_append_left _ _ (by rw [List.length_map]; omega), ← decL_set g, hd, List.map_set]; rfl)
        have hs2 : (List.map encInt (decL c zs p)).set p (.int .i64 (zs[p] - 1)) = List.map encInt (decL c zs (p + 1)) := by
          rw [← decL_set g, hd, List.map_set]; rfl
        refine go_ok hTn ?_
        simp [List.replicate, hw, g, g2, k, hlen, hgm, hget, hge, hgl, hw2, hs, hs2, show p < zs.length + 1 by omega]
        refine hM p (p + 1) _ (by show p + 1 ≤ _; omega) (by omega) (weak_less ?_ ?_)
        · simp [hs, hs2]
        · simp [List.replicate]
      · have hd : decC c zs[p] = zs[p] := if_neg k
        have hs := decL_same g hd
        refine go_ok hTn ?_
        simp [List.replicate, hw, g, g2, k, hlen, hgm, hget, hge, hgl, show p < zs.length + 1 by omega]
        refine hM p (p + 1) _ (by show p + 1 ≤ _; omega) (by omega) (weak_less ?_ ?_)
        · simp [hs]
        · simp [List.replicate]
    · have e : p = zs.length := by omega
      subst e
      refine go_ok hTn ?_
      simp [List.replicate]
      refine hN 1 2 _ (by show 2 ≤ 2; omega) (by omega) (weak_less ?_ ?_)
      · simp [decL_all]
      · simp [List.replicate]
  · refine go_ok hTn ?_; simp [List.replicate]
    refine go_ok hTn ?_; simp [List.replicate]
    refine ⟨⟨slots 45 [(4, .pbox 11 0)], _⟩, weak_less (H' := [x0, x1, x2, x3, x4, .row true 3 1 ((vs.map (decC c)).map encInt), .row true 3 1 ((zs.map (decC c)).map encInt ++ [.int .i64 0]), x5, .dead, .dead, .dead, .cells [.slref 5 0 vs.length vs.length, .slref 6 0 zs.length (zs.length + 1)], .dead]) (by simp) (by simp [List.replicate]), ?_⟩
    simp [retH, List.replicate]
end Go.Vm
