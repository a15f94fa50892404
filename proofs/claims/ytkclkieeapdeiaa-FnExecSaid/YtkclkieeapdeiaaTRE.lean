/- The reference's CanonHeap in blocks of its own, on cells. No condition. -/
import Derived.Test.YtkclkieeapdeiaaTCH
import Derived.Test.YtkclkieeapdeiaaTWL
set_option linter.unusedSimpArgs false
set_option linter.unusedVariables false
namespace Go.Vm
open Go.Proofs
@[simp] def ct_sCanonN : CtN := ⟨57, Heap, fun x => szHeap x ≤ 1048576 ∧ cellsB x = true, fun x => [encHeap x], fun x => .agg [.slref 7 0 (canonH x).vars.length (canonH x).vars.length, .slref 8 0 (canonH x).next.length (canonH x).next.length],
  fun x => [.dead, .dead, .dead, .cells [.slref 7 0 (canonH x).vars.length (canonH x).vars.length, .slref 8 0 (canonH x).next.length (canonH x).next.length], .dead, .dead, .dead, .row true 3 1 ((canonH x).vars.map encInt), .row true 3 1 ((canonH x).next.map encInt)]⟩
set_option maxHeartbeats 2000000 in
theorem ok_sCanonH (x : Heap) (hx : szHeap x ≤ 1048576) (hc : cellsB x = true) : OkH Try.prog 57 [encHeap x] [] (ct_sCanonN.res x) (ct_sCanonN.new x) := by
  obtain ⟨vs, nx⟩ := x
  have hx' : szHeap ⟨vs, nx⟩ ≤ 1048576 := hx
  change vs.length + nx.length ≤ 1048576 at hx
  simp only [ct_sCanonN]
  refine OkH.of_cw fok_spec_CanonHeap (go_ok (tab_cons ok_l7Cells (tab_cons ok_l7Order tab_nil)) ?_)
  have hg := met_good ⟨vs, nx⟩
  have hgl := goodC_len hg
  generalize hm : met ⟨vs, nx⟩ = order at *
  have hr : canonH ⟨vs, nx⟩ = ⟨vs.map (nameT order), order.map (nextN order nx)⟩ := by simp only [canonH, hc, hm, if_true]; rfl
  change goodC nx.length order at hg
  change order.length ≤ nx.length at hgl
  have hol : order.length ≤ 1048576 := by omega
  simp only [hr]
  generalize hA : vs.map (nameT order) = A
  generalize hZ : order.map (nextN order nx) = Z
  simp [code_spec_CanonHeap, List.replicate, hx', hc, hm, -List.map_map]
  refine cw_round (fun (p : Nat × List Int) => ⟨slots 55 [(1, .pbox 0 0), (2, .pbox 3 0), (3, encL 1 encInt order), (4, .pbox 6 0), (5, .int .i64 p.1)], [.cells [encL 1 encInt vs, encL 1 encInt nx], .nrow, .nrow, .cells [.slref 1 0 0 0, .slref 2 0 0 0], .dead, .dead, .cells [.slref 7 0 p.2.length p.2.length, .slref 8 0 0 0], .row true 3 1 (p.2.map encInt), .nrow]⟩)
    (fun p => p.1 ≤ vs.length ∧ p.2 = (vs.take p.1).map (nameT order)) (fun p => vs.length - p.1) (0, []) ⟨by simp, by simp⟩ ?_ ?_
  · refine (weak_row 7 3 1 rfl).trans (weak_seal 9 (by simp) ?_ ?_)
    · simp
    · simp [List.replicate]
  · rintro N hN ⟨i, ys⟩ ⟨hi, hy⟩
    change i ≤ vs.length at hi
    change ys = (vs.take i).map (nameT order) at hy
    have hw : IntKind.i64.wrap ((i : Int) + 1) = ((i + 1 : Nat) : Int) := by rw [wrap_i64] <;> omega
    have hyl : ys.length = i := by rw [hy]; simp; omega
    have hb : (ys.length + 1) * 8 ≤ 140737488355328 := by omega
    by_cases g : i < vs.length
    · have g2 : ¬ vs.length ≤ i := by omega
      have hts : (vs.take (i + 1)).map (nameT order) = ys ++ [nameT order vs[i]] := by rw [hy]; exact take_map2 _ g
      refine go_ok (tab_cons ok_l7New tab_nil) ?_
      simp [List.replicate, hw, g, g2, hb, app1, hol]
      refine hN (i, ys) (i + 1, ys ++ [nameT order vs[i]]) _ ⟨by simp; omega, hts.symm⟩ (by simp; omega) (weak_seal 9 (by simp) ?_ ?_)
      · simp
      · simp [List.replicate]
    · have e : i = vs.length := by omega
      subst e
      rw [List.take_length, hA] at hy
      subst hy
      refine go_ok tab_nil ?_
      simp [List.replicate]
      refine cw_round (fun (p : Nat × List Int) => ⟨slots 55 [(1, .pbox 0 0), (2, .pbox 3 0), (3, encL 1 encInt order), (4, .pbox 6 0), (6, .int .i64 p.1)], [.cells [encL 1 encInt vs, encL 1 encInt nx], .nrow, .nrow, .cells [.slref 1 0 0 0, .slref 2 0 0 0], .dead, .dead, .cells [.slref 7 0 ys.length ys.length, .slref 8 0 p.2.length p.2.length], .row true 3 1 (ys.map encInt), .row true 3 1 (p.2.map encInt)]⟩)
        (fun p => p.1 ≤ order.length ∧ p.2 = (order.take p.1).map (nextN order nx)) (fun p => order.length - p.1) (0, []) ⟨by simp, by simp⟩ ?_ ?_
      · refine (weak_row 8 3 1 rfl).trans (weak_seal 9 (by simp) ?_ ?_)
        · simp
        · simp [List.replicate]
      · rintro M hM ⟨j, zs⟩ ⟨hj, hz⟩
        change j ≤ order.length at hj
        change zs = (order.take j).map (nextN order nx) at hz
        have hw : IntKind.i64.wrap ((j : Int) + 1) = ((j + 1 : Nat) : Int) := by rw [wrap_i64] <;> omega
        have hzl : zs.length = j := by rw [hz]; simp; omega
        have hb : (zs.length + 1) * 8 ≤ 140737488355328 := by omega
        by_cases k : j < order.length
        · have k2 : ¬ order.length ≤ j := by omega
          have hcell := hg.2 order[j] (List.getElem_mem k)
          obtain ⟨c0, c1⟩ := hcell
          have c2 : order[j].toNat < nx.length := by omega
          have hnx : nextN order nx order[j] = nameT order nx[order[j].toNat] := by simp [nextN, c2]
          have hts : (order.take (j + 1)).map (nextN order nx) = zs ++ [nameT order nx[order[j].toNat]] := by rw [hz, ← hnx]; exact take_map2 _ k
          refine go_ok (tab_cons ok_l7New tab_nil) ?_
          simp [List.replicate, hw, k, k2, hb, app1, hol, c0, c1, c2]
          refine hM (j, zs) (j + 1, zs ++ [nameT order nx[order[j].toNat]]) _ ⟨by simp; omega, hts.symm⟩ (by simp; omega) (weak_seal 9 (by simp) ?_ ?_)
          · simp
          · simp [List.replicate]
        · have e : j = order.length := by omega
          subst e
          rw [List.take_length, hZ] at hz
          subst hz
          refine go_ok tab_nil ?_
          simp [List.replicate]
          refine ⟨⟨slots 55 [(2, .pbox 3 0)], _⟩, weak_less (H' := [.dead, .dead, .dead, .cells [.slref 7 0 ys.length ys.length, .slref 8 0 zs.length zs.length], .dead, .dead, .dead, .row true 3 1 (ys.map encInt), .row true 3 1 (zs.map encInt)]) ?_ ?_, ?_⟩
          · simp
          · simp [List.replicate]
          · simp [retH, List.replicate]
theorem ok_sCanonN : ct_sCanonN.Ok Try.prog :=
  ⟨fun x hx => ok_sCanonH x hx.1 hx.2, fun _ _ => rfl, fun x _ k hk => by
    simp only [ct_sCanonN, List.mem_cons, List.not_mem_nil, or_false] at hk
    rcases hk with rfl | rfl | rfl | rfl | rfl | rfl | rfl | rfl | rfl <;> first | rfl | simp [ownB]⟩
end Go.Vm
