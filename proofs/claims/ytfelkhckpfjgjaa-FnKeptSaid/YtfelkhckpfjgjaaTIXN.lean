/- spec.StructureOf in blocks of its own. No condition. -/
import Derived.Test.YtfelkhckpfjgjaaTSV
import Derived.Test.YtfelkhckpfjgjaaTMT
import Derived.Test.YtfelkhckpfjgjaaTG
import Derived.Test.YtfelkhckpfjgjaaTNX
set_option linter.unusedSimpArgs false
set_option linter.unusedVariables false
namespace Go.Vm
open Go.Proofs
set_option maxHeartbeats 8000000 in
set_option maxRecDepth 100000 in
theorem ok_sStructH (vs nx : List Int) (hx : szHeap ⟨vs, nx⟩ ≤ 1048576) (hf : fitS ⟨vs, nx⟩ = true) :
    OkH Try.prog 46 [encHeap ⟨vs, nx⟩] [] (.agg [.slref 7 0 nx.length nx.length, .slref 8 0 (nextsT nx nx.length).length (nextsT nx nx.length).length]) (soH vs nx) := by
  have hx' : szHeap ⟨vs, nx⟩ ≤ 1048576 := hx
  change vs.length + nx.length ≤ 1048576 at hx
  refine OkH.of_cw fok_spec_StructureOf (go_ok (tab_cons ok_l7Cells (tab_cons ok_l1In tab_nil)) ?_)
  unfold fitS at hf
  simp only [Bool.and_eq_true, decide_eq_true_eq] at hf
  obtain ⟨⟨hc, h1⟩, h2, h3⟩ := hf
  have h1' : ¬ (10 < (nx.length : Int)) := by omega
  have h1n : ¬ (10 < nx.length) := by omega
  have h1i : (nx.length : Int) ≤ 10 := by omega
  have h4i : ¬ ((vs.length : Int) < 1) := by omega
  have h5i : ¬ ((4 : Int) < vs.length) := by omega
  have h2' : (1 : Int) ≤ vs.length := by omega
  have h3' : (vs.length : Int) ≤ 4 := by omega
  have h3n : ¬ (4 < vs.length) := by omega
  have h2n : ¬ (vs.length < 1) := by omega
  have hnx : nx.length ≤ 1048576 := by omega
  simp [code_spec_StructureOf, List.replicate, hx', hc, h1, h1', h1n, h2, h3, h2', h3', h3n, h2n, h1i, h4i, h5i]
  refine cw_round (fun (p : Nat × List Int) => ⟨slots 101 [(1, .pbox 0 0), (2, .pbox 3 0), (3, .int .i64 nx.length), (4, .pbox 6 0), (5, .int .i64 p.1)], .cells [encL 1 encInt vs, encL 1 encInt nx] :: .nrow :: .nrow :: .cells [.slref 1 0 0 0, .slref 2 0 0 0] :: .dead :: .dead :: .cells [.slref 7 0 p.1 p.1, .slref 8 0 p.2.length p.2.length] :: .row true 61 4 (soE vs nx p.1) :: .row true 3 1 (p.2.map encInt) :: soX vs nx p.1⟩)
    (fun p => p.1 ≤ nx.length ∧ p.2 = nextsT nx p.1) (fun p => nx.length - p.1) (0, []) ⟨by simp, rfl⟩ ?_ ?_
  · refine (weak_row 7 61 4 rfl).trans ((weak_row 8 3 1 rfl).trans (weak_less ?_ ?_))
    · simp [soE, soX]
    · simp [List.replicate]
  rintro N hN ⟨i, xs⟩ ⟨hi, hxs⟩
  change i ≤ nx.length at hi
  change xs = nextsT nx i at hxs
  have hw : IntKind.i64.wrap ((i : Int) + 1) = ((i + 1 : Nat) : Int) := by rw [wrap_i64] <;> omega
  have hel := soE_len vs nx i
  have hXl := soX_len vs nx i
  have hXs : soX vs nx (i + 1) = soX vs nx i ++ [.dead, .dead, .dead, .row true 3 1 ((vs.map (varT i)).map encInt), .row true 3 1 ((vs.map (reachT nx i)).map encInt), .dead] := rfl
  have hEs : soE vs nx (i + 1) = soE vs nx i ++ [.agg [.slref ((soX vs nx i).length + 12) 0 vs.length vs.length, .slref ((soX vs nx i).length + 13) 0 vs.length vs.length, .int .i64 (sharT nx i), .int .i64 0]] := by
    simp [soE, aggN, nodeT, soP, soQ, hXl]
  have hxl : xs.length = i * nx.length := by rw [hxs, nextsT_len]
  have hxl2 : xs.length ≤ 100 := by rw [hxl]; exact Nat.le_trans (Nat.mul_le_mul hi (Nat.le_refl _)) (Nat.mul_le_mul h1 h1)
  by_cases g : i < nx.length
  case neg =>
    have e : i = nx.length := by omega
    subst e
    subst hxs
    refine go_ok tab_nil ?_
    simp [List.replicate]
    refine ⟨⟨slots 101 [(2, .pbox 3 0)], soH vs nx⟩, weak_less ?_ ?_, ?_⟩
    · simp [soH]
    · simp [List.replicate]
    · simp [retH, soH, List.replicate]
  have g2 : ¬ nx.length ≤ i := by omega
  have hb1 : ((soE vs nx i).length + 1) * 64 ≤ 140737488355328 := by omega
  generalize hX : soX vs nx i = X at *
  generalize hE : soE vs nx i = els at *
  refine go_ok (tab_cons ok_sPositions (tab_cons ok_l3Of tab_nil)) ?_
  simp [List.replicate, hw, g, g2, hnx, hel, -List.length_map]
  rw [show trI (decide ((1 : Int) < (pos nx (i : Int)).length)) = sharT nx i from by unfold sharT; congr 1; simp; omega]
  refine cw_round (fun (p : Nat × List Int × List Int) => ⟨slots 101 [(1, .pbox 0 0), (2, .pbox 3 0), (3, .int .i64 nx.length), (4, .pbox 6 0), (5, .int .i64 i), (6, .pbox (X.length + 11) 0), (7, .int .i64 p.1)], .cells [encL 1 encInt vs, encL 1 encInt nx] :: .nrow :: .nrow :: .cells [.slref 1 0 0 0, .slref 2 0 0 0] :: .dead :: .dead :: .cells [.slref 7 0 i i, .slref 8 0 xs.length xs.length] :: .row true 61 4 els :: .row true 3 1 (xs.map encInt) :: (X ++ [.dead, .dead, .cells [.slref (X.length + 12) 0 p.2.1.length p.2.1.length, .slref (X.length + 13) 0 p.2.2.length p.2.2.length, .int .i64 (sharT nx i), .int .i64 0], .row true 3 1 (p.2.1.map encInt), .row true 3 1 (p.2.2.map encInt)])⟩)
    (fun p => p.1 ≤ vs.length ∧ p.2.1 = (vs.take p.1).map (varT i) ∧ p.2.2 = (vs.take p.1).map (reachT nx i)) (fun p => vs.length - p.1) (0, [], []) ⟨by simp, by simp, by simp⟩ ?_ ?_
  · refine (weak_row (X.length + 12) 3 1 (by simp [get9'])).trans ((weak_row (X.length + 13) 3 1 (by simp [get9', set9'])).trans (weak_less ?_ ?_))
    · simp [set9']
    · simp [List.replicate]
  rintro M hM ⟨k, qs, rs⟩ ⟨hk, has, hrs⟩
  change k ≤ vs.length at hk
  change qs = (vs.take k).map (varT i) at has
  change rs = (vs.take k).map (reachT nx i) at hrs
  have hwk : IntKind.i64.wrap ((k : Int) + 1) = ((k + 1 : Nat) : Int) := by rw [wrap_i64] <;> omega
  have hal : qs.length = k := by rw [has]; simp; omega
  have hrl : rs.length = k := by rw [hrs]; simp; omega
  have hba : (qs.length + 1) * 8 ≤ 140737488355328 := by omega
  have hbr : (rs.length + 1) * 8 ≤ 140737488355328 := by omega
  by_cases gk : k < vs.length
  · have gk2 : ¬ vs.length ≤ k := by omega
    have hta : (vs.take (k + 1)).map (varT i) = qs ++ [trI (decide (vs[k] = (i : Int)))] := by rw [has]; exact take_map2 _ gk
    have htr : (vs.take (k + 1)).map (reachT nx i) = rs ++ [trI (decide ((i : Int) ∈ followed nx vs[k]))] := by rw [hrs]; exact take_map2 _ gk
    have hfl : (followed nx vs[k]).length ≤ 1048576 := by have := goodC_len (followed_good nx vs[k]); omega
    refine go_ok (tab_cons ok_l3Of (tab_cons ok_sFollowed (tab_cons ok_l7Has tab_nil))) ?_
    simp [List.replicate, hwk, gk, gk2, hba, hbr, app1, hnx, hfl, get9', set9']
    refine hM (k, qs, rs) (k + 1, qs ++ [trI (decide (vs[k] = (i : Int)))], rs ++ [trI (decide ((i : Int) ∈ followed nx vs[k]))]) _ ⟨by simp; omega, hta.symm, htr.symm⟩ (by simp; omega) (weak_less ?_ ?_)
    · simp
    · simp [List.replicate]
  have e : k = vs.length := by omega
  subst e
  rw [List.take_length] at has hrs
  refine go_ok tab_nil ?_
  have htk : List.take i els = els := List.take_of_length_le (by omega)
  have hb1' : (i + 1) * 64 ≤ 140737488355328 := by omega
  simp [List.replicate, hb1', htk, app1, hel, hal, hrl, get9', set9']
  refine cw_round (fun (p : Nat × List Int) => ⟨slots 101 [(1, .pbox 0 0), (2, .pbox 3 0), (3, .int .i64 nx.length), (4, .pbox 6 0), (5, .int .i64 i), (8, .int .i64 p.1)], .cells [encL 1 encInt vs, encL 1 encInt nx] :: .nrow :: .nrow :: .cells [.slref 1 0 0 0, .slref 2 0 0 0] :: .dead :: .dead :: .cells [.slref 7 0 (i + 1) (i + 1), .slref 8 0 p.2.length p.2.length] :: .row true 61 4 (els ++ [.agg [.slref (X.length + 12) 0 vs.length vs.length, .slref (X.length + 13) 0 vs.length vs.length, .int .i64 (sharT nx i), .int .i64 0]]) :: .row true 3 1 (p.2.map encInt) :: (X ++ [.dead, .dead, .dead, .row true 3 1 (qs.map encInt), .row true 3 1 (rs.map encInt), .dead])⟩)
    (fun p => p.1 ≤ nx.length ∧ p.2 = xs ++ rowT nx i p.1) (fun p => nx.length - p.1) (0, xs) ⟨by simp, by simp [rowT]⟩ ?_ ?_
  · refine weak_less ?_ ?_
    · simp
    · simp [List.replicate]
  rintro R hR ⟨d, ws⟩ ⟨hd, hws⟩
  change d ≤ nx.length at hd
  change ws = xs ++ rowT nx i d at hws
  have hwd : IntKind.i64.wrap ((d : Int) + 1) = ((d + 1 : Nat) : Int) := by rw [wrap_i64] <;> omega
  have hwl : ws.length = xs.length + d := by rw [hws, List.length_append, rowT_len]
  have hbw : (ws.length + 1) * 8 ≤ 140737488355328 := by omega
  by_cases gd : d < nx.length
  · have gd2 : ¬ nx.length ≤ d := by omega
    have htw : xs ++ rowT nx i (d + 1) = ws ++ [trI (decide (nx[i] = (d : Int)))] := by
      rw [hws, rowT_succ, List.append_assoc, nextT]
      simp [List.getD_eq_getElem?_getD, g]
    refine go_ok (tab_cons ok_l3Of tab_nil) ?_
    simp [List.replicate, hwd, gd, gd2, hbw, app1, g]
    refine hR (d, ws) (d + 1, ws ++ [trI (decide (nx[i] = (d : Int)))]) _ ⟨by simp; omega, htw.symm⟩ (by simp; omega) (weak_less ?_ ?_)
    · simp
    · simp [List.replicate]
  · have e : d = nx.length := by omega
    subst e
    refine go_ok tab_nil ?_
    simp [List.replicate, hw]
    subst has hrs
    refine hN (i, xs) (i + 1, ws) _ ⟨by simp; omega, ?_⟩ (by simp; omega) (weak_less ?_ ?_)
    · simp only [nextsT_succ, hws, hxs]
    · simp [hXs, hEs]
    · simp [List.replicate]
set_option maxHeartbeats 8000000 in
set_option maxRecDepth 100000 in
theorem ok_sStructU (vs nx : List Int) (hx : szHeap ⟨vs, nx⟩ ≤ 1048576) (hf : fitS ⟨vs, nx⟩ = false) :
    OkH Try.prog 46 [encHeap ⟨vs, nx⟩] [] (.agg [.slref 4 0 0 0, .slref 5 0 0 0]) soU := by
  have hx' : szHeap ⟨vs, nx⟩ ≤ 1048576 := hx
  change vs.length + nx.length ≤ 1048576 at hx
  refine OkH.of_cw fok_spec_StructureOf (go_ok (tab_cons ok_l7Cells (tab_cons ok_l1In tab_nil)) ?_)
  have fin : ∀ {st : St}, st.t = slots 101 [(2, .pbox 3 0)] → st.h = soU → retH [.cell 2 true 2] (.agg [.slref 4 0 0 0, .slref 5 0 0 0]) soU .ret st := by
    rintro ⟨t, h⟩ rfl rfl
    simp [retH, soU, List.replicate]
  have wk : ∀ {t : List AV} {a : Blk}, All2 LessS t (slots 101 [(2, .pbox 3 0)]) → Weak 0 ⟨t, [a, .nrow, .nrow, .cells [.slref 4 0 0 0, .slref 5 0 0 0], .nrow, .nrow]⟩ ⟨slots 101 [(2, .pbox 3 0)], soU⟩ := by
    intro t a ht
    refine (weak_row 4 61 4 rfl).trans ((weak_row 5 3 1 rfl).trans (weak_less ?_ ht))
    simp [soU]
  unfold fitS at hf
  cases hc : cellsB ⟨vs, nx⟩
  · simp [code_spec_StructureOf, List.replicate, hx', hc]
    intros
    refine ⟨_, wk ?_, fin rfl rfl⟩
    simp [List.replicate]
  · by_cases h1 : nx.length ≤ 10
    · have h1' : ¬ (10 < (nx.length : Int)) := by omega
      have h1n : ¬ (10 < nx.length) := by omega
      have h2 : ¬ ((1 : Int) ≤ vs.length ∧ (vs.length : Int) ≤ 4) := by
        intro h
        simp only [hc, h1, Bool.true_and, decide_true, Bool.and_eq_false_iff, decide_eq_false_iff_not] at hf
        omega
      by_cases h3 : (1 : Int) ≤ vs.length
      · have h4 : ¬ ((vs.length : Int) ≤ 4) := fun h => h2 ⟨h3, h⟩
        simp [code_spec_StructureOf, List.replicate, hx', hc, h1, h1', h1n, h3, h4]
        intros
        refine ⟨_, wk ?_, fin rfl rfl⟩
        simp [List.replicate]
      · simp [code_spec_StructureOf, List.replicate, hx', hc, h1, h1', h1n, h3]
        intros
        refine ⟨_, wk ?_, fin rfl rfl⟩
        simp [List.replicate]
    · have h1' : (10 < (nx.length : Int)) := by omega
      have h1n : (10 < nx.length) := by omega
      have h1i : ¬ ((nx.length : Int) ≤ 10) := by omega
      simp [code_spec_StructureOf, List.replicate, hx', hc, h1, h1', h1n, h1i]
      intros
      refine ⟨_, wk ?_, fin rfl rfl⟩
      simp [List.replicate]
theorem made_sStrc (x : Heap) (hx : szHeap x ≤ 1048576) : ∃ (a c : Nat) (els : List AV) (p q : Nat → Nat) (N : List Blk),
    OkH Try.prog 46 [encHeap x] [] (.agg [.slref a 0 (strcOf x).nodes.length (strcOf x).nodes.length, .slref c 0 (strcOf x).next.length (strcOf x).next.length]) N ∧ (∀ k ∈ N, ownB k = true) ∧
    N[a]? = some (.row true 61 4 els) ∧ NIx N els (strcOf x).nodes p q ∧ N[c]? = some (.row true 3 1 ((strcOf x).next.map encInt)) ∧ ¬ NIx.own (strcOf x).nodes.length p q c := by
  obtain ⟨vs, nx⟩ := x
  cases hf : fitS ⟨vs, nx⟩
  · have hr : strcOf ⟨vs, nx⟩ = ⟨[], []⟩ := by simp [strcOf, hf]
    rw [hr]
    exact ⟨4, 5, [], fun i => i, fun i => i, soU, ok_sStructU vs nx hx hf, by simp [soU, ownB, ownVL, ownV], rfl, ⟨rfl, by simp, by simp, by simp, by simp, by simp, by simp⟩, rfl, by simp [NIx.own]⟩
  · have hr : strcOf ⟨vs, nx⟩ = ⟨nodesT vs nx nx.length, nextsT nx nx.length⟩ := by simp [strcOf, hf]
    rw [hr]
    have hnl := nodesT_len vs nx nx.length
    have hget : ∀ i y, (nodesT vs nx nx.length)[i]? = some y → i < nx.length ∧ y = nodeT vs nx i := by
      intro i y hy
      have hi := (List.getElem?_eq_some_iff.1 hy).1
      rw [hnl] at hi
      refine ⟨hi, ?_⟩
      simp [nodesT, hi] at hy
      exact hy.symm
    have hX : ∀ j, (soH vs nx)[j + 9]? = (soX vs nx nx.length)[j]? := fun j => rfl
    have ok := ok_sStructH vs nx hx hf
    refine ⟨7, 8, soE vs nx nx.length, soP, soQ, soH vs nx, by simpa only [hnl] using ok, ?_, rfl, ⟨by rw [soE_len, hnl], fun i y hy => ?_, fun i y hy => ?_, fun i y hy => ?_, fun i j _ _ e => by unfold soP at e; omega, fun i j _ _ e => by unfold soQ at e; omega, fun i j _ _ e => by unfold soP soQ at e; omega⟩, rfl, ?_⟩
    · intro k hk
      simp only [soH, List.mem_cons] at hk
      rcases hk with rfl | rfl | rfl | rfl | rfl | rfl | rfl | rfl | rfl | hk
      · rfl
      · rfl
      · rfl
      · rfl
      · rfl
      · rfl
      · rfl
      · rw [ownB, ownVL_all, List.all_eq_true]; exact soE_own vs nx nx.length
      · simp [ownB]
      · exact soX_own vs nx nx.length k hk
    · obtain ⟨hi, rfl⟩ := hget i y hy
      rw [soE_get vs nx hi]; rfl
    · obtain ⟨hi, rfl⟩ := hget i y hy
      rw [show soP i = (6 * i + 3) + 9 from rfl, hX, soX_get vs nx hi 3 (by omega)]; rfl
    · obtain ⟨hi, rfl⟩ := hget i y hy
      rw [show soQ i = (6 * i + 4) + 9 from rfl, hX, soX_get vs nx hi 4 (by omega)]; rfl
    · rintro ⟨i, _, e | e⟩
      · unfold soP at e; omega
      · unfold soQ at e; omega
end Go.Vm
namespace Go.Vm
open Go.Proofs
end Go.Vm
