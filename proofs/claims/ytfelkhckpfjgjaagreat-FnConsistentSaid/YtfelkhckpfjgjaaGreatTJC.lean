/- What reachability and sharing are defined to be: both. No condition. -/
import Derived.Test.YtfelkhckpfjgjaaGreatTEH
import Derived.Test.YtfelkhckpfjgjaaGreatTRX
import Derived.Test.YtfelkhckpfjgjaaGreatTRZ
import Derived.Test.YtfelkhckpfjgjaaGreatTFP
import Derived.Test.YtfelkhckpfjgjaaGreatTJB
import Derived.Test.YtfelkhckpfjgjaaGreatTJA
set_option linter.unusedSimpArgs false
set_option linter.unusedVariables false
namespace Go.Vm
open Go.Proofs
def code_impl_agrees : F := ⟨25,[.tmp 4],.seq (.reg [⟨some 4,.mov (.k (.int .i64 0)),none⟩]) (.seq (.seq (.reg [⟨some 5,.mov (.t 0),none⟩,⟨some 6,.call 101 [.t 5],none⟩,⟨some 7,.not (.t 6),none⟩,⟨some 8,.mov (.t 7),none⟩,⟨some 9,.mov (.t 1),some (8,false)⟩,⟨some 10,.call 101 [.t 9],some (8,false)⟩,⟨some 11,.not (.t 10),some (8,false)⟩,⟨some 12,.pick (.t 8) (.k (.bool true)) (.t 11),none⟩,⟨some 13,.mov (.t 12),none⟩,⟨some 14,.mov (.t 0),some (13,false)⟩,⟨some 15,.bin .eql (.t 14) (.k (.int .i64 1)),some (13,false)⟩,⟨some 16,.pick (.t 13) (.k (.bool true)) (.t 15),none⟩,⟨some 17,.mov (.t 16),none⟩,⟨some 18,.mov (.t 1),some (17,false)⟩,⟨some 19,.bin .eql (.t 18) (.k (.int .i64 1)),some (17,false)⟩,⟨some 20,.pick (.t 17) (.k (.bool true)) (.t 19),none⟩]) (.cond (.t 20) (.seq (.reg [⟨some 4,.mov (.k (.int .i64 1)),none⟩]) (.ret)) (.skip))) (.seq (.reg [⟨some 21,.mov (.t 0),none⟩,⟨some 22,.mov (.t 1),none⟩,⟨some 23,.bin .eql (.t 21) (.t 22),none⟩,⟨some 24,.call 36 [.t 23],none⟩,⟨some 4,.mov (.t 24),none⟩]) (.ret)))⟩
theorem fok_impl_agrees : FOk Tryz.prog 89 code_impl_agrees := fok Tryz.func89 (by kernel_rfl)
def code_spec_l15Same : F := ⟨25,[.tmp 4],.seq (.reg [⟨some 4,.mov (.k (.int .i64 0)),none⟩]) (.seq (.seq (.reg [⟨some 5,.mov (.t 0),none⟩,⟨some 6,.call 107 [.t 5],none⟩,⟨some 7,.not (.t 6),none⟩,⟨some 8,.mov (.t 7),none⟩,⟨some 9,.mov (.t 1),some (8,false)⟩,⟨some 10,.call 107 [.t 9],some (8,false)⟩,⟨some 11,.not (.t 10),some (8,false)⟩,⟨some 12,.pick (.t 8) (.k (.bool true)) (.t 11),none⟩,⟨some 13,.mov (.t 12),none⟩,⟨some 14,.mov (.t 0),some (13,false)⟩,⟨some 15,.bin .eql (.t 14) (.k (.int .i64 1)),some (13,false)⟩,⟨some 16,.pick (.t 13) (.k (.bool true)) (.t 15),none⟩,⟨some 17,.mov (.t 16),none⟩,⟨some 18,.mov (.t 1),some (17,false)⟩,⟨some 19,.bin .eql (.t 18) (.k (.int .i64 1)),some (17,false)⟩,⟨some 20,.pick (.t 17) (.k (.bool true)) (.t 19),none⟩]) (.cond (.t 20) (.seq (.reg [⟨some 4,.mov (.k (.int .i64 1)),none⟩]) (.ret)) (.skip))) (.seq (.reg [⟨some 21,.mov (.t 0),none⟩,⟨some 22,.mov (.t 1),none⟩,⟨some 23,.bin .eql (.t 21) (.t 22),none⟩,⟨some 24,.call 60 [.t 23],none⟩,⟨some 4,.mov (.t 24),none⟩]) (.ret)))⟩
theorem fok_spec_l15Same : FOk Tryz.prog 77 code_spec_l15Same := fok Tryz.func77 (by kernel_rfl)
def code_impl_MeetsDefinitions : F := ⟨47,[.tmp 2],.seq (.reg [⟨some 1,.box (.t 0),none⟩,⟨some 2,.mov (.k (.int .i64 0)),none⟩]) (.seq (.reg [⟨some 3,.mov (.k (.int .i64 2)),none⟩]) (.seq (.seq (.reg [⟨some 8,.faddr 0 (.t 1),none⟩,⟨some 9,.load 1 false (.t 8),none⟩,⟨some 10,.len (.t 9),none⟩,⟨some 11,.mov (.k (.int .i64 0)),none⟩]) (.block 0 (.loop (.seq (.reg [⟨some 12,.bin .lss (.t 11) (.t 10),none⟩]) (.seq (.cond (.t 12) (.skip) (.exit 0)) (.seq (.block 1 (.seq (.reg [⟨some 13,.mov (.t 11),none⟩,⟨some 14,.iaddr 4 (.t 9) (.t 11),none⟩,⟨some 15,.load 4 true (.t 14),none⟩,⟨some 5,.alloc [(.sl .nil 0 []),(.sl .nil 0 []),(.int .i64 0),(.int .i64 0)],none⟩,⟨some 4,.mov (.t 13),none⟩,⟨none,.store 4 (.t 5) (.t 15),none⟩]) (.seq (.seq (.reg [⟨some 16,.faddr 1 (.t 5),none⟩,⟨some 17,.load 1 false (.t 16),none⟩,⟨some 18,.len (.t 17),none⟩,⟨some 19,.mov (.k (.int .i64 0)),none⟩]) (.block 2 (.loop (.seq (.reg [⟨some 20,.bin .lss (.t 19) (.t 18),none⟩]) (.seq (.cond (.t 20) (.skip) (.exit 2)) (.seq (.block 3 (.seq (.reg [⟨some 21,.mov (.t 19),none⟩,⟨some 22,.iaddr 1 (.t 17) (.t 19),none⟩,⟨some 23,.load 1 false (.t 22),none⟩,⟨some 6,.mov (.t 21),none⟩,⟨some 7,.mov (.t 23),none⟩]) (.dreg [false,false,false,false,false,false,false,false,false,true,true] [false,false,false,false,true,false,false,true,true,true,false] [⟨some 24,.mov (.t 3),none⟩,⟨some 25,.mov (.t 7),none⟩,⟨some 26,.load 2 true (.t 1),none⟩,⟨some 27,.mov (.t 6),none⟩,⟨some 28,.call 16 [.t 27],none⟩,⟨some 29,.mov (.t 4),none⟩,⟨some 30,.bsl 3 1 1 (.int .i64 0) [(0,.t 29)],none⟩,⟨some 31,.call 90 [.t 26,.t 28,.t 30],none⟩,⟨some 32,.call 89 [.t 25,.t 31],none⟩,⟨some 33,.call 88 [.t 24,.t 32],none⟩,⟨some 3,.mov (.t 33),none⟩]))) (.reg [⟨some 34,.bin .add (.t 19) (.k (.int .i64 1)),none⟩,⟨some 19,.mov (.t 34),none⟩]))))))) (.dreg [false,false,false,false,false,false,false,false,false,true,true] [false,false,false,false,true,false,false,true,true,true,false] [⟨some 35,.mov (.t 3),none⟩,⟨some 36,.faddr 2 (.t 5),none⟩,⟨some 37,.load 1 false (.t 36),none⟩,⟨some 38,.load 2 true (.t 1),none⟩,⟨some 39,.call 18 [],none⟩,⟨some 40,.mov (.t 4),none⟩,⟨some 41,.bsl 3 1 1 (.int .i64 0) [(0,.t 40)],none⟩,⟨some 42,.call 90 [.t 38,.t 39,.t 41],none⟩,⟨some 43,.call 89 [.t 37,.t 42],none⟩,⟨some 44,.call 88 [.t 35,.t 43],none⟩,⟨some 3,.mov (.t 44),none⟩])))) (.reg [⟨some 45,.bin .add (.t 11) (.k (.int .i64 1)),none⟩,⟨some 11,.mov (.t 45),none⟩]))))))) (.seq (.reg [⟨some 46,.mov (.t 3),none⟩,⟨some 2,.mov (.t 46),none⟩]) (.ret))))⟩
theorem fok_impl_MeetsDefinitions : FOk Tryz.prog 30 code_impl_MeetsDefinitions := fok Tryz.func30 (by kernel_rfl)
def code_spec_MeetsDefinitions : F := ⟨57,[.tmp 2],.seq (.reg [⟨some 1,.box (.t 0),none⟩,⟨some 2,.mov (.k (.int .i64 0)),none⟩]) (.seq (.reg [⟨some 3,.mov (.k (.int .i64 2)),none⟩]) (.seq (.seq (.reg [⟨some 4,.mov (.k (.int .i64 0)),none⟩]) (.block 0 (.loop (.seq (.seq (.reg [⟨some 6,.mov (.t 4),none⟩,⟨some 7,.faddr 0 (.t 1),none⟩,⟨some 8,.load 1 false (.t 7),none⟩,⟨some 9,.len (.t 8),none⟩,⟨some 10,.bin .lss (.t 6) (.t 9),none⟩]) (.cond (.t 10) (.skip) (.exit 0))) (.seq (.block 1 (.seq (.seq (.reg [⟨some 5,.mov (.k (.int .i64 0)),none⟩]) (.block 2 (.loop (.seq (.seq (.reg [⟨some 13,.mov (.t 5),none⟩,⟨some 14,.faddr 0 (.t 1),none⟩,⟨some 15,.load 1 false (.t 14),none⟩,⟨some 16,.mov (.t 4),none⟩,⟨some 17,.iaddr 4 (.t 15) (.t 16),none⟩,⟨some 18,.faddr 1 (.t 17),none⟩,⟨some 19,.load 1 false (.t 18),none⟩,⟨some 20,.len (.t 19),none⟩,⟨some 21,.bin .lss (.t 13) (.t 20),none⟩]) (.cond (.t 21) (.skip) (.exit 2))) (.seq (.block 3 (.dreg [false,false,false,false,false,false,false,false,false,false,false,false,false,false,false,false,false,true,true] [false,false,false,false,false,false,false,false,false,false,false,false,true,false,false,true,true,true,false] [⟨some 24,.mov (.t 3),none⟩,⟨some 25,.faddr 0 (.t 1),none⟩,⟨some 26,.load 1 false (.t 25),none⟩,⟨some 27,.mov (.t 4),none⟩,⟨some 28,.iaddr 4 (.t 26) (.t 27),none⟩,⟨some 29,.faddr 1 (.t 28),none⟩,⟨some 30,.load 1 false (.t 29),none⟩,⟨some 31,.mov (.t 5),none⟩,⟨some 32,.iaddr 1 (.t 30) (.t 31),none⟩,⟨some 33,.load 1 false (.t 32),none⟩,⟨some 34,.load 2 true (.t 1),none⟩,⟨some 35,.mov (.t 5),none⟩,⟨some 36,.call 17 [.t 35],none⟩,⟨some 37,.mov (.t 4),none⟩,⟨some 38,.bsl 3 1 1 (.int .i64 0) [(0,.t 37)],none⟩,⟨some 39,.call 78 [.t 34,.t 36,.t 38],none⟩,⟨some 40,.call 77 [.t 33,.t 39],none⟩,⟨some 41,.call 76 [.t 24,.t 40],none⟩,⟨some 3,.mov (.t 41),none⟩])) (.reg [⟨some 22,.mov (.t 5),none⟩,⟨some 23,.bin .add (.t 22) (.k (.int .i64 1)),none⟩,⟨some 5,.mov (.t 23),none⟩])))))) (.dreg [false,false,false,false,false,false,false,false,false,false,false,false,false,true,true] [false,false,false,false,false,false,false,false,true,false,false,true,true,true,false] [⟨some 42,.mov (.t 3),none⟩,⟨some 43,.faddr 0 (.t 1),none⟩,⟨some 44,.load 1 false (.t 43),none⟩,⟨some 45,.mov (.t 4),none⟩,⟨some 46,.iaddr 4 (.t 44) (.t 45),none⟩,⟨some 47,.faddr 2 (.t 46),none⟩,⟨some 48,.load 1 false (.t 47),none⟩,⟨some 49,.load 2 true (.t 1),none⟩,⟨some 50,.call 19 [],none⟩,⟨some 51,.mov (.t 4),none⟩,⟨some 52,.bsl 3 1 1 (.int .i64 0) [(0,.t 51)],none⟩,⟨some 53,.call 78 [.t 49,.t 50,.t 52],none⟩,⟨some 54,.call 77 [.t 48,.t 53],none⟩,⟨some 55,.call 76 [.t 42,.t 54],none⟩,⟨some 3,.mov (.t 55),none⟩]))) (.reg [⟨some 11,.mov (.t 4),none⟩,⟨some 12,.bin .add (.t 11) (.k (.int .i64 1)),none⟩,⟨some 4,.mov (.t 12),none⟩])))))) (.seq (.reg [⟨some 56,.mov (.t 3),none⟩,⟨some 2,.mov (.t 56),none⟩]) (.ret))))⟩
theorem fok_spec_MeetsDefinitions : FOk Tryz.prog 21 code_spec_MeetsDefinitions := fok Tryz.func21 (by kernel_rfl)
theorem ok_pEvalT : (ct_pEval truthS).Ok Tryz.prog := ok_pEval (fun x h => ok_pPathT x ⟨trivial, h.2⟩)
theorem ok_sEvalT : (ct_sEval truthS).Ok Tryz.prog := ok_sEval ok_sPathT
def agreeT (a b : Int) : Int := if isTruth a = true ∧ isTruth b = true ∧ a ≠ 1 ∧ b ≠ 1 then (if a = b then 2 else 0) else 1
@[simp] def ct_agrees : Ct := ⟨89, Int × Int, fun _ => True, fun x => [.int .i64 x.1, .int .i64 x.2], fun x => .int .i64 (agreeT x.1 x.2)⟩
theorem ok_agrees : ct_agrees.Ok Tryz.prog := by
  rintro ⟨a, b⟩ -
  refine Ok.of_cw fok_impl_agrees (go_ok (tab_cons ok_pIsTruth (tab_cons ok_truthOf tab_nil)) ?_)
  cases ha : isTruth a
  · simp [code_impl_agrees, List.replicate, agreeT, ha]
  cases hb : isTruth b
  · simp [code_impl_agrees, List.replicate, agreeT, ha, hb]
  by_cases a1 : a = 1
  · simp [code_impl_agrees, List.replicate, agreeT, ha, hb, a1]
  by_cases b1 : b = 1
  · simp [code_impl_agrees, List.replicate, agreeT, ha, hb, a1, b1]
  by_cases e : a = b
  · subst e
    simp [code_impl_agrees, List.replicate, agreeT, ha, hb, a1, b1, bb_ex, trI]
  · simp [code_impl_agrees, List.replicate, agreeT, ha, hb, a1, b1, e, bb_ex, trI]
@[simp] def ct_l15Same : Ct := ⟨77, Int × Int, fun _ => True, fun x => [.int .i64 x.1, .int .i64 x.2], fun x => .int .i64 (agreeT x.1 x.2)⟩
theorem ok_l15Same : ct_l15Same.Ok Tryz.prog := by
  rintro ⟨a, b⟩ -
  refine Ok.of_cw fok_spec_l15Same (go_ok (tab_cons ok_sIsTruth (tab_cons ok_l3Of tab_nil)) ?_)
  cases ha : isTruth a
  · simp [code_spec_l15Same, List.replicate, agreeT, ha]
  cases hb : isTruth b
  · simp [code_spec_l15Same, List.replicate, agreeT, ha, hb]
  by_cases a1 : a = 1
  · simp [code_spec_l15Same, List.replicate, agreeT, ha, hb, a1]
  by_cases b1 : b = 1
  · simp [code_spec_l15Same, List.replicate, agreeT, ha, hb, a1, b1]
  by_cases e : a = b
  · subst e
    simp [code_spec_l15Same, List.replicate, agreeT, ha, hb, a1, b1, bb_ex, trI]
  · simp [code_spec_l15Same, List.replicate, agreeT, ha, hb, a1, b1, e, bb_ex, trI]
noncomputable def reachM (s : Strc) (i : Nat) (out : Int) (k : Nat) : Int := (List.range k).foldl (fun o j => andT o (agreeT ((nodeI s i).reach.getD j 0) (evalT s (reachFm j) [(i : Int)]))) out
noncomputable def nodeM (s : Strc) (out : Int) (i : Nat) : Int := andT (reachM s i out (nodeI s i).reach.length) (agreeT (nodeI s i).shared (evalT s sharedFm [(i : Int)]))
noncomputable def meetsTo (s : Strc) (p : Nat) : Int := (List.range p).foldl (nodeM s) 2
noncomputable def meetsT (s : Strc) : Int := meetsTo s s.nodes.length
theorem reachM_succ (s : Strc) (i : Nat) (out : Int) (k : Nat) : reachM s i out (k + 1) = andT (reachM s i out k) (agreeT ((nodeI s i).reach.getD k 0) (evalT s (reachFm k) [(i : Int)])) := by
  unfold reachM; rw [List.range_succ, List.foldl_append]; rfl
theorem meetsTo_succ (s : Strc) (p : Nat) : meetsTo s (p + 1) = nodeM s (meetsTo s p) p := by
  unfold meetsTo; rw [List.range_succ, List.foldl_append]; rfl
theorem nodeI_nat {s : Strc} {i : Nat} (h : i < s.nodes.length) : nodeI s (i : Int) = s.nodes[i] := by simp [nodeI, List.getD_eq_getElem?_getD, h]
@[simp] noncomputable def ct_pMeets : Ct := ⟨30, Strc, fun x => szStrc x ≤ 1048576 ∧ truthS x, fun x => [encStrc x], fun x => .int .i64 (meetsT x)⟩
set_option maxHeartbeats 8000000 in
set_option maxRecDepth 100000 in
theorem ok_pMeets : ct_pMeets.Ok Tryz.prog := by
  rintro s ⟨hs, ht⟩
  change Strc at s
  change szStrc s ≤ 1048576 at hs
  change truthS s at ht
  have hs2 := strc_le s
  have hT : TabOk Tryz.prog _ := tab_cons ok_pReachP (tab_cons ok_pSharedP (tab_cons ok_pEvalT (tab_cons ok_agrees (tab_cons ok_pAndOf tab_nil))))
  refine Ok.of_cw fok_impl_MeetsDefinitions ?_
  simp only [code_impl_MeetsDefinitions, frame, List.length_cons, List.length_nil, List.replicate, Nat.reduceSub, Nat.reduceAdd, List.cons_append, List.nil_append]
  refine cw_seq (go_ok hT ?_)
  simp
  refine cw_seq (go_ok hT ?_)
  simp
  refine cw_seq (go_ok hT ?_)
  simp
  refine cw_round (fun (p : Nat) => ⟨slots 47 [(1, .pbox 0 0), (3, .int .i64 (meetsTo s p)), (9, encL 4 encNode s.nodes), (10, .int .i64 s.nodes.length), (11, .int .i64 p)], [.cells [encL 4 encNode s.nodes, encL 1 encInt s.next]]⟩)
    (fun p => p ≤ s.nodes.length) (fun p => s.nodes.length - p) 0 (by simp) ?_ ?_
  · exact weak_seal 1 (by simp) (by simp) (by simp [List.replicate, meetsTo])
  rintro N hN i hi
  have hw : IntKind.i64.wrap ((i : Int) + 1) = ((i + 1 : Nat) : Int) := by rw [wrap_i64] <;> omega
  refine go_ok hT ?_
  by_cases g : i < s.nodes.length
  case neg =>
    have e : i = s.nodes.length := by omega
    subst e
    simp [List.replicate]
    refine go_ok hT ?_
    simp [meetsT]
  have g2 : ¬ s.nodes.length ≤ i := by omega
  have hnd := node_le (x := s) (n := s.nodes[i]) (List.getElem_mem g)
  have hno := nodeI_nat g
  have hM := meetsTo_succ s i
  have hM2 : nodeM s (meetsTo s i) i = andT (reachM s i (meetsTo s i) s.nodes[i].reach.length) (agreeT s.nodes[i].shared (evalT s sharedFm [(i : Int)])) := by unfold nodeM; rw [hno]
  rw [hM2] at hM
  generalize hx : s.nodes[i] = x at *
  simp [List.replicate, g, g2, hx]
  refine cw_round (fun (p : Nat) => ⟨slots 47 [(1, .pbox 0 0), (3, .int .i64 (reachM s i (meetsTo s i) p)), (4, .int .i64 i), (5, .pbox 3 0), (9, encL 4 encNode s.nodes), (10, .int .i64 s.nodes.length), (11, .int .i64 i), (17, encL 1 encInt x.reach), (18, .int .i64 x.reach.length), (19, .int .i64 p)], [.cells [encL 4 encNode s.nodes, encL 1 encInt s.next], .dead, .dead, .cells [encL 1 encInt x.vars, encL 1 encInt x.reach, .int .i64 x.shared, .int .i64 x.many]]⟩)
    (fun p => p ≤ x.reach.length) (fun p => x.reach.length - p) 0 (by simp) ?_ ?_
  · refine weak_seal 4 (by simp) (by simp) (by simp [List.replicate, reachM])
  rintro N2 hN2 k hk
  have hwk : IntKind.i64.wrap ((k : Int) + 1) = ((k + 1 : Nat) : Int) := by rw [wrap_i64] <;> omega
  refine go_ok hT ?_
  by_cases gk : k < x.reach.length
  · have gk2 : ¬ x.reach.length ≤ k := by omega
    have hr := reachM_succ s i (meetsTo s i) k
    rw [hno, show x.reach.getD k 0 = x.reach[k] by simp [List.getD_eq_getElem?_getD, gk]] at hr
    simp [List.replicate, hwk, gk, gk2, hs, ht, -encFm_mk]
    refine ⟨[(i : Int)], rfl, by simp, ?_⟩
    refine hN2 k (k + 1) _ (by omega) (by omega) (weak_seal 4 (by simp) ?_ ?_)
    · simp
    · simp [List.replicate, hr]
  · have e : k = x.reach.length := by omega
    subst e
    simp [List.replicate, hw, hs, ht, -encFm_mk]
    refine ⟨[(i : Int)], rfl, by simp, ?_⟩
    refine hN i (i + 1) _ (by omega) (by omega) (weak_seal 1 (by simp) ?_ ?_)
    · simp
    · simp [List.replicate, hM]
@[simp] noncomputable def ct_sMeets : Ct := ⟨21, Strc, fun x => szStrc x ≤ 1048576 ∧ truthS x, fun x => [encStrc x], fun x => .int .i64 (meetsT x)⟩
set_option maxHeartbeats 8000000 in
set_option maxRecDepth 100000 in
theorem ok_sMeets : ct_sMeets.Ok Tryz.prog := by
  rintro s ⟨hs, ht⟩
  change Strc at s
  change szStrc s ≤ 1048576 at hs
  change truthS s at ht
  have hs2 := strc_le s
  have hT : TabOk Tryz.prog _ := tab_cons ok_sReach (tab_cons ok_sShared (tab_cons ok_sEvalT (tab_cons ok_l15Same (tab_cons ok_sAndOf tab_nil))))
  refine Ok.of_cw fok_spec_MeetsDefinitions ?_
  simp only [code_spec_MeetsDefinitions, frame, List.length_cons, List.length_nil, List.replicate, Nat.reduceSub, Nat.reduceAdd, List.cons_append, List.nil_append]
  refine cw_seq (go_ok hT ?_)
  simp
  refine cw_seq (go_ok hT ?_)
  simp
  refine cw_seq (go_ok hT ?_)
  simp
  refine cw_round (fun (p : Nat) => ⟨slots 57 [(1, .pbox 0 0), (3, .int .i64 (meetsTo s p)), (4, .int .i64 p)], [.cells [encL 4 encNode s.nodes, encL 1 encInt s.next]]⟩)
    (fun p => p ≤ s.nodes.length) (fun p => s.nodes.length - p) 0 (by simp) ?_ ?_
  · exact weak_seal 1 (by simp) (by simp) (by simp [List.replicate, meetsTo])
  rintro N hN i hi
  have hw : IntKind.i64.wrap ((i : Int) + 1) = ((i + 1 : Nat) : Int) := by rw [wrap_i64] <;> omega
  refine go_ok hT ?_
  by_cases g : i < s.nodes.length
  case neg =>
    have e : i = s.nodes.length := by omega
    subst e
    simp [List.replicate]
    refine go_ok hT ?_
    simp [meetsT]
  have g2 : ¬ s.nodes.length ≤ i := by omega
  have hnd := node_le (x := s) (n := s.nodes[i]) (List.getElem_mem g)
  have hno := nodeI_nat g
  have hM := meetsTo_succ s i
  have hM2 : nodeM s (meetsTo s i) i = andT (reachM s i (meetsTo s i) s.nodes[i].reach.length) (agreeT s.nodes[i].shared (evalT s sharedFm [(i : Int)])) := by unfold nodeM; rw [hno]
  rw [hM2] at hM
  generalize hx : s.nodes[i] = x at *
  simp [List.replicate, g, g2]
  refine cw_round (fun (p : Nat) => ⟨slots 57 [(1, .pbox 0 0), (3, .int .i64 (reachM s i (meetsTo s i) p)), (4, .int .i64 i), (5, .int .i64 p)], [.cells [encL 4 encNode s.nodes, encL 1 encInt s.next]]⟩)
    (fun p => p ≤ x.reach.length) (fun p => x.reach.length - p) 0 (by simp) ?_ ?_
  · refine weak_seal 1 (by simp) (by simp) (by simp [List.replicate, reachM])
  rintro N2 hN2 k hk
  have hwk : IntKind.i64.wrap ((k : Int) + 1) = ((k + 1 : Nat) : Int) := by rw [wrap_i64] <;> omega
  refine go_ok hT ?_
  by_cases gk : k < x.reach.length
  · have gk2 : ¬ x.reach.length ≤ k := by omega
    have hr := reachM_succ s i (meetsTo s i) k
    rw [hno, show x.reach.getD k 0 = x.reach[k] by simp [List.getD_eq_getElem?_getD, gk]] at hr
    simp [List.replicate, g, hx, hwk, gk, gk2, hs, ht, -encFm_mk]
    refine ⟨[(i : Int)], rfl, by simp, ?_⟩
    refine hN2 k (k + 1) _ (by omega) (by omega) (weak_seal 1 (by simp) ?_ ?_)
    · simp
    · simp [List.replicate, hr]
  · have e : k = x.reach.length := by omega
    subst e
    simp [List.replicate, g, hx, hw, hs, ht, -encFm_mk]
    refine ⟨[(i : Int)], rfl, by simp, ?_⟩
    refine hN i (i + 1) _ (by omega) (by omega) (weak_seal 1 (by simp) ?_ ?_)
    · simp
    · simp [List.replicate, hM]
end Go.Vm
namespace Go.Vm
open Go.Proofs
theorem nexts_get (nx : List Int) : ∀ {m x y : Nat}, x < m → y < nx.length → (nextsT nx m)[x * nx.length + y]? = some (nextT nx x y)
  | m + 1, x, y, hx, hy => by
    rw [nextsT_succ]
    by_cases e : x = m
    · subst e
      rw [List.getElem?_append_right (by rw [nextsT_len]; omega), nextsT_len, show x * nx.length + y - x * nx.length = y by omega]
      simp [rowT, hy]
    · have hlt : x * nx.length + y < m * nx.length := by
        have h1 : (x + 1) * nx.length ≤ m * nx.length := Nat.mul_le_mul (by omega) (Nat.le_refl _)
        rw [Nat.add_mul] at h1; omega
      rw [List.getElem?_append_left (by rw [nextsT_len]; exact hlt)]
      exact nexts_get nx (by omega) hy
theorem nextOf_strc (vs nx : List Int) {x y : Nat} (hx : x < nx.length) (hy : y < nx.length) : nextOf ⟨nodesT vs nx nx.length, nextsT nx nx.length⟩ x y = nextT nx x y := by
  unfold nextOf inN
  simp only [nodesT_len, nextsT_len]
  rw [if_pos (by refine ⟨⟨by omega, by omega⟩, ⟨by omega, by omega⟩, by simp⟩)]
  rw [show ((x : Int) * (nx.length : Int) + (y : Int)).toNat = x * nx.length + y by rw [show (x : Int) * (nx.length : Int) + (y : Int) = ((x * nx.length + y : Nat) : Int) by simp]; exact Int.toNat_natCast _]
  rw [List.getD_eq_getElem?_getD, nexts_get nx hx hy]; rfl
theorem trI_ge (b : Bool) {v : Int} (h1 : 1 ≤ v) (h2 : v ≤ 2) : v ≤ trI b ↔ b = true := by cases b <;> simp [trI] <;> omega
def stepC (nx : List Int) (x y : Nat) : Prop := x < nx.length ∧ y < nx.length ∧ nx.getD x 0 = (y : Int)
theorem edge_strc (vs nx : List Int) {v : Int} (h1 : 1 ≤ v) (h2 : v ≤ 2) (x y : Nat) : edgeG ⟨nodesT vs nx nx.length, nextsT nx nx.length⟩ v x y ↔ stepC nx x y := by
  unfold edgeG stepC
  simp only [nodesT_len]
  constructor
  · rintro ⟨a, b, c⟩
    rw [nextOf_strc vs nx a b] at c
    exact ⟨a, b, by simpa using (trI_ge _ h1 h2).1 c⟩
  · rintro ⟨a, b, c⟩
    refine ⟨a, b, ?_⟩
    rw [nextOf_strc vs nx a b]
    exact (trI_ge _ h1 h2).2 (by simpa using c)
theorem Rch.imp {e e' : Nat → Nat → Prop} (h : ∀ x y, e x y → e' x y) {i j : Nat} (r : Rch e i j) : Rch e' i j := by
  induction r with
  | one g => exact .one (h _ _ g)
  | more _ g ih => exact .more ih (h _ _ g)
theorem follow_rch {nx : List Int} (hcl : closedC nx) {j i : Nat} (hj : j < nx.length) : (i : Int) ∈ followed nx j ↔ i = j ∨ Rch (stepC nx) j i := by
  have hjc : inC nx.length (j : Int) := ⟨by omega, by omega⟩
  constructor
  · intro h
    have := followed_in (nx := nx) (S := fun x => ∃ k : Nat, x = k ∧ k < nx.length ∧ (k = j ∨ Rch (stepC nx) j k)) (fun x hx => by
      obtain ⟨k, rfl, hk, _⟩ := hx
      exact ⟨by omega, by omega⟩) (fun x hx => by
      obtain ⟨k, rfl, hk, hr⟩ := hx
      have e : ((k : Int)).toNat = k := by omega
      rw [e]
      rcases closed_get hcl (c := (k : Int)) ⟨by omega, by omega⟩ with h | h
      · rw [e] at h; exact .inl h
      · rw [e] at h
        obtain ⟨m, hm⟩ : ∃ m : Nat, nx.getD k 0 = m := ⟨(nx.getD k 0).toNat, by unfold inC at h; omega⟩
        have hml : m < nx.length := by unfold inC at h; omega
        refine .inr ⟨m, hm, hml, .inr ?_⟩
        rcases hr with rfl | hr
        · exact .one ⟨hk, hml, hm⟩
        · exact .more hr ⟨hk, hml, hm⟩) (c := (j : Int)) (.inr ⟨j, rfl, hj, .inl rfl⟩) _ h
    obtain ⟨k, hk, _, hr⟩ := this
    have : i = k := by omega
    subst this; exact hr
  · rintro (rfl | h)
    · exact followed_self hcl hjc
    · have step : ∀ {x y : Nat}, (x : Int) ∈ followed nx j → stepC nx x y → (y : Int) ∈ followed nx j := fun {x y} hx hs => by
        have := followed_closed hcl (.inr hjc) _ hx
        rw [show ((x : Int)).toNat = x by omega, hs.2.2] at this
        exact this.resolve_left (by omega)
      induction h with
      | one g => exact step (followed_self hcl hjc) g
      | more _ g ih => exact step ih g
theorem path_strc {vs nx : List Int} (hcl : closedC nx) {j i : Nat} (hj : j < nx.length) (hi : i < nx.length) : pathT ⟨nodesT vs nx nx.length, nextsT nx nx.length⟩ j i = trI (decide ((i : Int) ∈ followed nx j)) := by
  have hr : ∀ v : Int, 1 ≤ v → v ≤ 2 → (rchB ⟨nodesT vs nx nx.length, nextsT nx nx.length⟩ v j i = true ↔ Rch (stepC nx) j i) := fun v h1 h2 => by
    rw [rchB_iff]
    exact ⟨Rch.imp fun x y h => (edge_strc vs nx h1 h2 x y).1 h, Rch.imp fun x y h => (edge_strc vs nx h1 h2 x y).2 h⟩
  have hs : sameT ⟨nodesT vs nx nx.length, nextsT nx nx.length⟩ j = 2 := by
    unfold sameT
    simp [List.getD_eq_getElem?_getD, nodesT, hj, nodeT]
  have hf := follow_rch hcl (i := i) hj
  unfold pathT
  rw [if_pos (by unfold inN; simp only [nodesT_len]; omega)]
  simp only [Int.toNat_natCast, hs]
  by_cases g : Rch (stepC nx) j i
  · rw [if_pos ((hr 2 (by omega) (by omega)).2 g), decide_eq_true (hf.2 (.inr g))]; rfl
  · rw [if_neg fun h => g ((hr 2 (by omega) (by omega)).1 h)]
    by_cases e : i = j
    · subst e
      rw [if_pos (by simp), decide_eq_true (hf.2 (.inl rfl))]; rfl
    · rw [if_neg fun h => e (by omega), if_neg fun h => g ((hr 1 (by omega) (by omega)).1 h), if_neg (by omega), decide_eq_false fun h => (hf.1 h).elim e g]; rfl
theorem knownT_trI (b : Bool) : knownT (trI b) = trI b := knownT_of (isTruth_trI b)
theorem and_trI (a b : Bool) : andT (trI a) (trI b) = trI (a && b) := by cases a <;> cases b <;> rfl
theorem not_trI (a : Bool) : notT3 (trI a) = trI (!a) := by cases a <;> rfl
theorem over_trI {n : Nat} {f : Nat → Bool} : overT false n (fun j => trI (f j)) = trI ((List.range n).any f) := by
  cases h : (List.range n).any f
  · rw [List.any_eq_false] at h
    refine over_zero fun j hj => ?_
    have := h j (by simpa using hj)
    simp only [Bool.not_eq_true] at this
    rw [this]; rfl
  · rw [List.any_eq_true] at h
    obtain ⟨j, hj, hj2⟩ := h
    exact (over_two fun j _ => isTruth_trI _).2 ⟨j, by simpa using hj, by rw [hj2]; rfl⟩
theorem agree_trI (b : Bool) : agreeT (trI b) (trI b) = 2 := by cases b <;> rfl
theorem two_pos {xs : List Int} {n : Int} (h : 1 < (pos xs n).length) : ∃ i j : Nat, i < xs.length ∧ j < xs.length ∧ i ≠ j ∧ xs.getD i 0 = n ∧ xs.getD j 0 = n := by
  unfold pos at h
  rw [List.length_map] at h
  have hnd : ((List.range xs.length).filter fun i => xs.getD i 0 == n).Nodup := List.Pairwise.filter _ List.nodup_range
  have hm : ∀ i ∈ (List.range xs.length).filter (fun i => xs.getD i 0 == n), i < xs.length ∧ xs.getD i 0 = n := fun i hi => by
    rw [List.mem_filter] at hi
    exact ⟨by simpa using hi.1, by simpa using hi.2⟩
  generalize (List.range xs.length).filter (fun i => xs.getD i 0 == n) = L at *
  match L, h, hnd, hm with
  | a :: b :: R, _, hnd, hm =>
    have ha := hm a (by simp)
    have hb := hm b (by simp)
    refine ⟨a, b, ha.1, hb.1, fun e => ?_, ha.2, hb.2⟩
    subst e
    simp at hnd
theorem reach_strc {vs nx : List Int} (hcl : closedC nx) (hv : ∀ v ∈ vs, v = -1 ∨ inC nx.length v) {i k : Nat} (hi : i < nx.length) (hk : k < vs.length) :
    evalT ⟨nodesT vs nx nx.length, nextsT nx nx.length⟩ (reachFm k) [(i : Int)] = reachT nx i vs[k] := by
  have e := eval_reach (s := ⟨nodesT vs nx nx.length, nextsT nx nx.length⟩) (i := i) (by simpa [nodesT_len] using hi) k
  rw [e]
  simp only [nodesT_len]
  rw [overT_congr (g := fun j => trI (decide (vs[k] = (j : Int)) && decide ((i : Int) ∈ followed nx j))) fun j hj => ?_]
  · rw [over_trI]
    unfold reachT
    congr 1
    rw [Bool.eq_iff_iff, List.any_eq_true]
    simp only [List.mem_range, Bool.and_eq_true, decide_eq_true_eq]
    constructor
    · rintro ⟨j, hj, e1, e2⟩
      rw [e1]; exact e2
    · intro h
      rcases hv _ (List.getElem_mem hk) with e1 | e1
      · rw [e1, followed_neg] at h; cases h
      · exact ⟨(vs[k]).toNat, by unfold inC at e1; omega, by unfold inC at e1; omega, by rw [show (((vs[k]).toNat : Nat) : Int) = vs[k] by unfold inC at e1; omega]; exact h⟩
  · rw [path_strc hcl hj hi, knownT_trI]
    have e2 : at1 (nodeI ⟨nodesT vs nx nx.length, nextsT nx nx.length⟩ (j : Int)).vars (k : Int) = trI (decide (vs[k] = (j : Int))) := by
      rw [nodeI_nat (by simpa [nodesT_len] using hj)]
      unfold at1
      simp [nodesT, nodeT, varT, hk]
    rw [e2, knownT_trI, and_trI]
theorem shared_strc {vs nx : List Int} {i : Nat} (hi : i < nx.length) : evalT ⟨nodesT vs nx nx.length, nextsT nx nx.length⟩ sharedFm [(i : Int)] = sharT nx i := by
  have e := eval_shared (s := ⟨nodesT vs nx nx.length, nextsT nx nx.length⟩) (i := i) (by simpa [nodesT_len] using hi)
  rw [e]
  simp only [nodesT_len]
  rw [overT_congr (g := fun j => trI ((List.range nx.length).any fun l => (decide (nx.getD j 0 = (i : Int)) && decide (nx.getD l 0 = (i : Int))) && !decide (j = l))) fun j hj => ?_]
  · rw [over_trI]
    unfold sharT
    congr 1
    rw [Bool.eq_iff_iff, List.any_eq_true]
    simp only [List.mem_range, Bool.and_eq_true, decide_eq_true_eq, List.any_eq_true, Bool.not_eq_true', decide_eq_false_iff_not]
    constructor
    · rintro ⟨j, hj, l, hl, ⟨e1, e2⟩, ne⟩
      exact pos_two hj hl ne e1 e2
    · intro h
      obtain ⟨j, l, hj, hl, ne, e1, e2⟩ := two_pos h
      exact ⟨j, hj, l, hl, ⟨e1, e2⟩, ne⟩
  · rw [← over_trI]
    refine overT_congr fun l hl => ?_
    rw [nextOf_strc vs nx hj hi, nextOf_strc vs nx hl hi]
    have hs : sameT ⟨nodesT vs nx nx.length, nextsT nx nx.length⟩ j = 2 := by
      unfold sameT
      simp [List.getD_eq_getElem?_getD, nodesT, hj, nodeT]
    rw [hs]
    have e1 : (if (j : Int) = (l : Int) then (2 : Int) else 0) = trI (decide (j = l)) := by
      by_cases g : j = l
      · subst g; simp [trI]
      · rw [if_neg (by omega), decide_eq_false g]; rfl
    rw [e1, knownT_trI, not_trI]
    unfold nextT
    rw [knownT_trI, knownT_trI, and_trI, and_trI]
theorem meets_strc {vs nx : List Int} (hcl : closedC nx) (hv : ∀ v ∈ vs, v = -1 ∨ inC nx.length v) : meetsT ⟨nodesT vs nx nx.length, nextsT nx nx.length⟩ = 2 := by
  have key : ∀ p, p ≤ nx.length → meetsTo ⟨nodesT vs nx nx.length, nextsT nx nx.length⟩ p = 2 := by
    intro p
    induction p with
    | zero => intro _; rfl
    | succ p ih =>
      intro hp
      rw [meetsTo_succ, ih (by omega)]
      have hn : nodeI ⟨nodesT vs nx nx.length, nextsT nx nx.length⟩ (p : Int) = nodeT vs nx p := by
        rw [nodeI_nat (by rw [nodesT_len]; omega)]
        simp [nodesT]
      have hrk : ∀ k, k ≤ vs.length → reachM ⟨nodesT vs nx nx.length, nextsT nx nx.length⟩ p 2 k = 2 := by
        intro k
        induction k with
        | zero => intro _; rfl
        | succ k ihk =>
          intro hk
          rw [reachM_succ, ihk (by omega), reach_strc hcl hv (by omega) (by omega), hn]
          have : (nodeT vs nx p).reach.getD k 0 = reachT nx p vs[k] := by simp [nodeT, List.getD_eq_getElem?_getD, show k < vs.length by omega]
          rw [this]
          unfold reachT
          rw [agree_trI]; rfl
      unfold nodeM
      rw [hn, shared_strc (by omega)]
      have : (nodeT vs nx p).reach.length = vs.length := by simp [nodeT]
      rw [this, hrk _ (Nat.le_refl _)]
      show andT 2 (agreeT (sharT nx p) (sharT nx p)) = 2
      unfold sharT
      rw [agree_trI]; rfl
  unfold meetsT
  simp only [nodesT_len]
  exact key _ (Nat.le_refl _)
end Go.Vm
