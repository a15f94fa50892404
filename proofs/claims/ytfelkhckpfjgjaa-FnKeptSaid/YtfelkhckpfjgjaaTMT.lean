/- The structure of a heap, the reference. No condition. -/
import Derived.Test.YtfelkhckpfjgjaaTSO
import Derived.Test.YtfelkhckpfjgjaaTMS
set_option linter.unusedSimpArgs false
set_option linter.unusedVariables false
namespace Go.Vm
open Go.Proofs
def code_spec_StructureOf : F := ⟨101,[.cell 2 true 2],.seq (.reg [⟨some 1,.box (.t 0),none⟩,⟨some 2,.alloc [(.sl .nil 0 []),(.sl .nil 0 [])],none⟩]) (.seq (.reg [⟨some 9,.faddr 1 (.t 1),none⟩,⟨some 10,.load 1 false (.t 9),none⟩,⟨some 11,.len (.t 10),none⟩,⟨some 3,.mov (.t 11),none⟩]) (.seq (.seq (.reg [⟨some 12,.load 2 true (.t 1),none⟩,⟨some 13,.call 93 [.t 12],none⟩,⟨some 14,.not (.t 13),none⟩,⟨some 15,.mov (.t 14),none⟩,⟨some 16,.mov (.t 3),some (15,false)⟩,⟨some 17,.bin .gtr (.t 16) (.k (.int .i64 10)),some (15,false)⟩,⟨some 18,.pick (.t 15) (.k (.bool true)) (.t 17),none⟩,⟨some 19,.mov (.t 18),none⟩,⟨some 20,.faddr 0 (.t 1),some (19,false)⟩,⟨some 21,.load 1 false (.t 20),some (19,false)⟩,⟨some 22,.len (.t 21),some (19,false)⟩,⟨some 23,.call 48 [.t 22,(.k (.int .i64 1)),(.k (.int .i64 4))],some (19,false)⟩,⟨some 24,.not (.t 23),some (19,false)⟩,⟨some 25,.pick (.t 19) (.k (.bool true)) (.t 24),none⟩]) (.cond (.t 25) (.seq (.reg [⟨some 26,.build [(.sl .nil 0 []),(.sl .nil 0 [])] [],none⟩,⟨none,.store 2 (.t 2) (.t 26),none⟩]) (.ret)) (.skip))) (.seq (.reg [⟨some 27,.build [(.sl .nil 0 []),(.sl .nil 0 [])] [],none⟩,⟨some 4,.alloc [(.sl .nil 0 []),(.sl .nil 0 [])],none⟩,⟨none,.store 2 (.t 4) (.t 27),none⟩]) (.seq (.seq (.reg [⟨some 5,.mov (.k (.int .i64 0)),none⟩]) (.block 0 (.loop (.seq (.seq (.reg [⟨some 28,.mov (.t 5),none⟩,⟨some 29,.mov (.t 3),none⟩,⟨some 30,.bin .lss (.t 28) (.t 29),none⟩]) (.cond (.t 30) (.skip) (.exit 0))) (.seq (.block 1 (.seq (.reg [⟨some 33,.faddr 1 (.t 1),none⟩,⟨some 34,.load 1 false (.t 33),none⟩,⟨some 35,.mov (.t 5),none⟩,⟨some 36,.call 95 [.t 34,.t 35],none⟩,⟨some 37,.len (.t 36),none⟩,⟨some 38,.bin .gtr (.t 37) (.k (.int .i64 1)),none⟩,⟨some 39,.call 94 [.t 38],none⟩,⟨some 40,.build [(.sl .nil 0 []),(.sl .nil 0 []),(.int .i64 0),(.int .i64 0)] [(2,1,.t 39)],none⟩,⟨some 6,.alloc [(.sl .nil 0 []),(.sl .nil 0 []),(.int .i64 0),(.int .i64 0)],none⟩,⟨none,.store 4 (.t 6) (.t 40),none⟩]) (.seq (.seq (.reg [⟨some 7,.mov (.k (.int .i64 0)),none⟩]) (.block 2 (.loop (.seq (.seq (.reg [⟨some 41,.mov (.t 7),none⟩,⟨some 42,.faddr 0 (.t 1),none⟩,⟨some 43,.load 1 false (.t 42),none⟩,⟨some 44,.len (.t 43),none⟩,⟨some 45,.bin .lss (.t 41) (.t 44),none⟩]) (.cond (.t 45) (.skip) (.exit 2))) (.seq (.block 3 (.seq (.dreg [false,false,false,false,false,false,false,false,false,false,false,true,true,true] [false,false,false,false,false,false,false,false,false,true,false,false,false,false] [⟨some 48,.faddr 0 (.t 6),none⟩,⟨some 49,.load 1 false (.t 48),none⟩,⟨some 50,.faddr 0 (.t 1),none⟩,⟨some 51,.load 1 false (.t 50),none⟩,⟨some 52,.mov (.t 7),none⟩,⟨some 53,.iaddr 1 (.t 51) (.t 52),none⟩,⟨some 54,.load 1 false (.t 53),none⟩,⟨some 55,.mov (.t 5),none⟩,⟨some 56,.bin .eql (.t 54) (.t 55),none⟩,⟨some 57,.call 94 [.t 56],none⟩,⟨some 58,.bsl 3 1 1 (.int .i64 0) [(0,.t 57)],none⟩,⟨some 59,.append 3 1 8 (.t 49) (.t 58),none⟩,⟨some 60,.faddr 0 (.t 6),none⟩,⟨none,.store 1 (.t 60) (.t 59),none⟩]) (.dreg [false,false,false,false,false,false,false,false,false,false,false,false,false,true,true,true] [false,false,false,false,false,false,false,false,true,false,true,true,false,false,false,false] [⟨some 61,.faddr 1 (.t 6),none⟩,⟨some 62,.load 1 false (.t 61),none⟩,⟨some 63,.load 2 true (.t 1),none⟩,⟨some 64,.faddr 0 (.t 1),none⟩,⟨some 65,.load 1 false (.t 64),none⟩,⟨some 66,.mov (.t 7),none⟩,⟨some 67,.iaddr 1 (.t 65) (.t 66),none⟩,⟨some 68,.load 1 false (.t 67),none⟩,⟨some 69,.call 96 [.t 63,.t 68],none⟩,⟨some 70,.mov (.t 5),none⟩,⟨some 71,.call 50 [.t 69,.t 70],none⟩,⟨some 72,.call 94 [.t 71],none⟩,⟨some 73,.bsl 3 1 1 (.int .i64 0) [(0,.t 72)],none⟩,⟨some 74,.append 3 1 8 (.t 62) (.t 73),none⟩,⟨some 75,.faddr 1 (.t 6),none⟩,⟨none,.store 1 (.t 75) (.t 74),none⟩]))) (.reg [⟨some 46,.mov (.t 7),none⟩,⟨some 47,.bin .add (.t 46) (.k (.int .i64 1)),none⟩,⟨some 7,.mov (.t 47),none⟩])))))) (.seq (.reg [⟨some 76,.faddr 0 (.t 4),none⟩,⟨some 77,.load 1 false (.t 76),none⟩,⟨some 78,.load 4 true (.t 6),none⟩,⟨some 79,.bsl 61 4 1 (.agg [(.sl .nil 0 []),(.sl .nil 0 []),(.int .i64 0),(.int .i64 0)]) [(0,.t 78)],none⟩,⟨some 80,.append 61 4 64 (.t 77) (.t 79),none⟩,⟨some 81,.faddr 0 (.t 4),none⟩,⟨none,.store 1 (.t 81) (.t 80),none⟩]) (.seq (.reg [⟨some 8,.mov (.k (.int .i64 0)),none⟩]) (.block 4 (.loop (.seq (.seq (.reg [⟨some 82,.mov (.t 8),none⟩,⟨some 83,.mov (.t 3),none⟩,⟨some 84,.bin .lss (.t 82) (.t 83),none⟩]) (.cond (.t 84) (.skip) (.exit 4))) (.seq (.block 5 (.dreg [false,false,false,false,false,false,false,false,false,false,false,true,true,true] [false,false,false,false,false,false,false,false,false,true,false,false,false,false] [⟨some 87,.faddr 1 (.t 4),none⟩,⟨some 88,.load 1 false (.t 87),none⟩,⟨some 89,.faddr 1 (.t 1),none⟩,⟨some 90,.load 1 false (.t 89),none⟩,⟨some 91,.mov (.t 5),none⟩,⟨some 92,.iaddr 1 (.t 90) (.t 91),none⟩,⟨some 93,.load 1 false (.t 92),none⟩,⟨some 94,.mov (.t 8),none⟩,⟨some 95,.bin .eql (.t 93) (.t 94),none⟩,⟨some 96,.call 94 [.t 95],none⟩,⟨some 97,.bsl 3 1 1 (.int .i64 0) [(0,.t 96)],none⟩,⟨some 98,.append 3 1 8 (.t 88) (.t 97),none⟩,⟨some 99,.faddr 1 (.t 4),none⟩,⟨none,.store 1 (.t 99) (.t 98),none⟩])) (.reg [⟨some 85,.mov (.t 8),none⟩,⟨some 86,.bin .add (.t 85) (.k (.int .i64 1)),none⟩,⟨some 8,.mov (.t 86),none⟩])))))))))) (.reg [⟨some 31,.mov (.t 5),none⟩,⟨some 32,.bin .add (.t 31) (.k (.int .i64 1)),none⟩,⟨some 5,.mov (.t 32),none⟩])))))) (.seq (.reg [⟨some 100,.load 2 true (.t 4),none⟩,⟨none,.store 2 (.t 2) (.t 100),none⟩]) (.ret))))))⟩
theorem fok_spec_StructureOf : FOk Try.prog 46 code_spec_StructureOf := fok Try.func46 (by kernel_rfl)
@[simp] def ct_sStructureOf : Ct := ⟨46, Heap, fun x => szHeap x ≤ 1048576, fun x => [encHeap x], fun x => encStrc (strcOf x)⟩
set_option maxHeartbeats 8000000 in
set_option maxRecDepth 100000 in
theorem ok_sStructureOf : ct_sStructureOf.Ok Try.prog := by
  rintro ⟨vs, nx⟩ hx
  have hx' : szHeap ⟨vs, nx⟩ ≤ 1048576 := hx
  change vs.length + nx.length ≤ 1048576 at hx
  refine Ok.of_cw fok_spec_StructureOf (go_ok (tab_cons ok_l7Cells (tab_cons ok_l1In tab_nil)) ?_)
  cases hf : fitS ⟨vs, nx⟩
  case false =>
    have hr : strcOf ⟨vs, nx⟩ = ⟨[], []⟩ := by simp [strcOf, hf]
    unfold fitS at hf
    cases hc : cellsB ⟨vs, nx⟩
    · simp [code_spec_StructureOf, List.replicate, hx', hc, hr]
    · by_cases h1 : nx.length ≤ 10
      · have h1' : ¬ (10 < (nx.length : Int)) := by omega
        have h1n : ¬ (10 < nx.length) := by omega
        have h2 : ¬ ((1 : Int) ≤ vs.length ∧ (vs.length : Int) ≤ 4) := by
          intro h
          simp only [hc, h1, Bool.true_and, decide_true, Bool.and_eq_false_iff, decide_eq_false_iff_not] at hf
          omega
        by_cases h3 : (1 : Int) ≤ vs.length
        · have h4 : ¬ ((vs.length : Int) ≤ 4) := fun h => h2 ⟨h3, h⟩
          simp [code_spec_StructureOf, List.replicate, hx', hc, hr, h1, h1', h1n, h3, h4]
        · simp [code_spec_StructureOf, List.replicate, hx', hc, hr, h1, h1', h1n, h3]
      · have h1' : (10 < (nx.length : Int)) := by omega
        have h1n : (10 < nx.length) := by omega
        have h1i : ¬ ((nx.length : Int) ≤ 10) := by omega
        simp [code_spec_StructureOf, List.replicate, hx', hc, hr, h1, h1', h1n, h1i]
  have hr : strcOf ⟨vs, nx⟩ = ⟨nodesT vs nx nx.length, nextsT nx nx.length⟩ := by simp [strcOf, hf]
  unfold fitS at hf
  simp only [Bool.and_eq_true, decide_eq_true_eq] at hf
  obtain ⟨⟨hc, h1⟩, h2, h3⟩ := hf
  have h1' : ¬ (10 < (nx.length : Int)) := by omega
  have h1n : ¬ (10 < nx.length) := by omega
  have h1i : (nx.length : Int) ≤ 10 := by omega
  have h4i : ¬ ((vs.length : Int) < 1) := by omega
  have h5i : ¬ ((4 : Int) < vs.length) := by omega
  have h2' : (1 : Int) ≤ vs.length := by omega
  have h3' : (vs.length : Int) ≤ 4 := by omega
  have h3n : ¬ (4 < vs.length) := by omega
  have h2n : ¬ (vs.length < 1) := by omega
  have hnx : nx.length ≤ 1048576 := by omega
  simp [code_spec_StructureOf, List.replicate, hx', hc, hr, h1, h1', h1n, h2, h3, h2', h3', h3n, h2n, h1i, h4i, h5i]
  refine cw_round (fun (p : Nat × List Node × List Int) => ⟨slots 101 [(1, .pbox 0 0), (2, .pbox 3 0), (3, .int .i64 nx.length), (4, .pbox 6 0), (5, .int .i64 p.1)], [.cells [encL 1 encInt vs, encL 1 encInt nx], .nrow, .nrow, .cells [.slref 1 0 0 0, .slref 2 0 0 0], .dead, .dead, .cells [.slref 7 0 p.2.1.length p.2.1.length, .slref 8 0 p.2.2.length p.2.2.length], .row true 61 4 (p.2.1.map encNode), .row true 3 1 (p.2.2.map encInt)]⟩)
    (fun p => p.1 ≤ nx.length ∧ p.2.1 = nodesT vs nx p.1 ∧ p.2.2 = nextsT nx p.1) (fun p => nx.length - p.1) (0, [], []) ⟨by simp, rfl, rfl⟩ ?_ ?_
  · refine (weak_row 7 61 4 rfl).trans ((weak_row 8 3 1 rfl).trans (weak_seal 9 (by simp) ?_ ?_))
    · simp
    · simp [List.replicate]
  · rintro N hN ⟨i, ns, xs⟩ ⟨hi, hns, hxs⟩
    change i ≤ nx.length at hi
    change ns = nodesT vs nx i at hns
    change xs = nextsT nx i at hxs
    have hw : IntKind.i64.wrap ((i : Int) + 1) = ((i + 1 : Nat) : Int) := by rw [wrap_i64] <;> omega
    have hnl : ns.length = i := by rw [hns, nodesT_len]
    have hxl : xs.length = i * nx.length := by rw [hxs, nextsT_len]
    have hxl2 : xs.length ≤ 100 := by rw [hxl]; exact Nat.le_trans (Nat.mul_le_mul hi (Nat.le_refl _)) (Nat.mul_le_mul h1 h1)
    by_cases g : i < nx.length
    case neg =>
      have e : i = nx.length := by omega
      subst e
      subst hns hxs
      refine go_ok tab_nil ?_
      simp [List.replicate]
    have g2 : ¬ nx.length ≤ i := by omega
    have hb1 : (ns.length + 1) * 64 ≤ 140737488355328 := by omega
    refine go_ok (tab_cons ok_sPositions (tab_cons ok_l3Of tab_nil)) ?_
    simp [List.replicate, hw, g, g2, hnx, -List.length_map]
    rw [show trI (decide ((1 : Int) < (pos nx (i : Int)).length)) = sharT nx i from by unfold sharT; congr 1; simp; omega]
    refine cw_round (fun (p : Nat × List Int × List Int) => ⟨slots 101 [(1, .pbox 0 0), (2, .pbox 3 0), (3, .int .i64 nx.length), (4, .pbox 6 0), (5, .int .i64 i), (6, .pbox 11 0), (7, .int .i64 p.1)], [.cells [encL 1 encInt vs, encL 1 encInt nx], .nrow, .nrow, .cells [.slref 1 0 0 0, .slref 2 0 0 0], .dead, .dead, .cells [.slref 7 0 ns.length ns.length, .slref 8 0 xs.length xs.length], .row true 61 4 (ns.map encNode), .row true 3 1 (xs.map encInt), .dead, .dead, .cells [.slref 12 0 p.2.1.length p.2.1.length, .slref 13 0 p.2.2.length p.2.2.length, .int .i64 (sharT nx i), .int .i64 0], .row true 3 1 (p.2.1.map encInt), .row true 3 1 (p.2.2.map encInt)]⟩)
      (fun p => p.1 ≤ vs.length ∧ p.2.1 = (vs.take p.1).map (varT i) ∧ p.2.2 = (vs.take p.1).map (reachT nx i)) (fun p => vs.length - p.1) (0, [], []) ⟨by simp, by simp, by simp⟩ ?_ ?_
    · refine (weak_row 12 3 1 rfl).trans ((weak_row 13 3 1 rfl).trans (weak_seal 14 (by simp) ?_ ?_))
      · simp
      · simp [List.replicate]
    · rintro M hM ⟨k, qs, rs⟩ ⟨hk, has, hrs⟩
      change k ≤ vs.length at hk
      change qs = (vs.take k).map (varT i) at has
      change rs = (vs.take k).map (reachT nx i) at hrs
      have hwk : IntKind.i64.wrap ((k : Int) + 1) = ((k + 1 : Nat) : Int) := by rw [wrap_i64] <;> omega
      have hal : qs.length = k := by rw [has]; simp; omega
      have hrl : rs.length = k := by rw [hrs]; simp; omega
      have hba : (qs.length + 1) * 8 ≤ 140737488355328 := by omega
      have hbr : (rs.length + 1) * 8 ≤ 140737488355328 := by omega
      by_cases gk : k < vs.length
      · have gk2 : ¬ vs.length ≤ k := by omega
        have hta : (vs.take (k + 1)).map (varT i) = qs ++ [trI (decide (vs[k] = (i : Int)))] := by rw [has]; exact take_map2 _ gk
        have htr : (vs.take (k + 1)).map (reachT nx i) = rs ++ [trI (decide ((i : Int) ∈ followed nx vs[k]))] := by rw [hrs]; exact take_map2 _ gk
        have hfl : (followed nx vs[k]).length ≤ 1048576 := by have := goodC_len (followed_good nx vs[k]); omega
        refine go_ok (tab_cons ok_l3Of (tab_cons ok_sFollowed (tab_cons ok_l7Has tab_nil))) ?_
        simp [List.replicate, hwk, gk, gk2, hba, hbr, app1, hnx, hfl]
        refine hM (k, qs, rs) (k + 1, qs ++ [trI (decide (vs[k] = (i : Int)))], rs ++ [trI (decide ((i : Int) ∈ followed nx vs[k]))]) _ ⟨by simp; omega, hta.symm, htr.symm⟩ (by simp; omega) (weak_seal 14 (by simp) ?_ ?_)
        · simp
        · simp [List.replicate]
      · have e : k = vs.length := by omega
        subst e
        rw [List.take_length] at has hrs
        refine go_ok tab_nil ?_
        simp [List.replicate, hb1, app1]
        have hnode : nodeT vs nx i = ⟨qs, rs, sharT nx i, 0⟩ := by rw [has, hrs]; rfl
        refine cw_round (fun (p : Nat × List Int) => ⟨slots 101 [(1, .pbox 0 0), (2, .pbox 3 0), (3, .int .i64 nx.length), (4, .pbox 6 0), (5, .int .i64 i), (8, .int .i64 p.1)], [.cells [encL 1 encInt vs, encL 1 encInt nx], .nrow, .nrow, .cells [.slref 1 0 0 0, .slref 2 0 0 0], .dead, .dead, .cells [.slref 7 0 (ns ++ [Node.mk qs rs (sharT nx i) 0]).length (ns ++ [Node.mk qs rs (sharT nx i) 0]).length, .slref 8 0 p.2.length p.2.length], .row true 61 4 ((ns ++ [Node.mk qs rs (sharT nx i) 0]).map encNode), .row true 3 1 (p.2.map encInt)]⟩)
          (fun p => p.1 ≤ nx.length ∧ p.2 = xs ++ rowT nx i p.1) (fun p => nx.length - p.1) (0, xs) ⟨by simp, by simp [rowT]⟩ ?_ ?_
        · refine weak_seal 9 (by simp) ?_ ?_
          · simp
            refine All2.append (all2_self fun y hy => ?_) (.cons ?_ .nil)
            · obtain ⟨z, _, rfl⟩ := List.mem_map.1 hy
              exact slE_node z
            · show All2 _ _ _
              simp
              trace_state
          · simp [List.replicate]
        · rintro R hR ⟨d, ws⟩ ⟨hd, hws⟩
          change d ≤ nx.length at hd
          change ws = xs ++ rowT nx i d at hws
          have hwd : IntKind.i64.wrap ((d : Int) + 1) = ((d + 1 : Nat) : Int) := by rw [wrap_i64] <;> omega
          have hwl : ws.length = xs.length + d := by rw [hws, List.length_append, rowT_len]
          have hbw : (ws.length + 1) * 8 ≤ 140737488355328 := by omega
          by_cases gd : d < nx.length
          · have gd2 : ¬ nx.length ≤ d := by omega
            have htw : xs ++ rowT nx i (d + 1) = ws ++ [trI (decide (nx[i] = (d : Int)))] := by
              rw [hws, rowT_succ, List.append_assoc, nextT]
              simp [List.getD_eq_getElem?_getD, g]
            refine go_ok (tab_cons ok_l3Of tab_nil) ?_
            simp [List.replicate, hwd, gd, gd2, hbw, app1, g]
            refine hR (d, ws) (d + 1, ws ++ [trI (decide (nx[i] = (d : Int)))]) _ ⟨by simp; omega, htw.symm⟩ (by simp; omega) (weak_seal 9 (by simp) ?_ ?_)
            · simp
            · simp [List.replicate]
          · have e : d = nx.length := by omega
            subst e
            refine go_ok tab_nil ?_
            simp [List.replicate, hw]
            refine hN (i, ns, xs) (i + 1, ns ++ [Node.mk qs rs (sharT nx i) 0], ws) _ ⟨by simp; omega, ?_, ?_⟩ (by simp; omega) (weak_seal 9 (by simp) ?_ ?_)
            · simp only [nodesT_succ, hns, hnode]
            · simp only [nextsT_succ, hws, hxs]
            · simp
            · simp [List.replicate]
end Go.Vm
namespace Go.Vm
open Go.Proofs
end Go.Vm
