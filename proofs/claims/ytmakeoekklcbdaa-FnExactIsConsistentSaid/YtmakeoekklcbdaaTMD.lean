/- What reachability and sharing are defined to be: both. No condition. -/
import Derived.Test.YtmakeoekklcbdaaTEH
import Derived.Test.YtmakeoekklcbdaaTEK
import Derived.Test.YtmakeoekklcbdaaTRY
import Derived.Test.YtmakeoekklcbdaaTRZ
import Derived.Test.YtmakeoekklcbdaaTFP
set_option linter.unusedSimpArgs false
set_option linter.unusedVariables false
namespace Go.Vm
open Go.Proofs
def code_impl_agrees : F := ⟨25, [.tmp 4],
 .seq (.reg [⟨some 4, .mov (.k (.int .i64 0)), none⟩])
 (.seq (.seq (.reg [⟨some 5, .mov (.t 0), none⟩,
      ⟨some 6, .call 157 [(.t 5)], none⟩,
      ⟨some 7, .not (.t 6), none⟩,
      ⟨some 8, .mov (.t 7), none⟩,
      ⟨some 9, .mov (.t 1), some (8, false)⟩,
      ⟨some 10, .call 157 [(.t 9)], some (8, false)⟩,
      ⟨some 11, .not (.t 10), some (8, false)⟩,
      ⟨some 12, .pick (.t 8) (.k (.bool true)) (.t 11), none⟩,
      ⟨some 13, .mov (.t 12), none⟩,
      ⟨some 14, .mov (.t 0), some (13, false)⟩,
      ⟨some 15, .bin .eql (.t 14) (.k (.int .i64 1)), some (13, false)⟩,
      ⟨some 16, .pick (.t 13) (.k (.bool true)) (.t 15), none⟩,
      ⟨some 17, .mov (.t 16), none⟩,
      ⟨some 18, .mov (.t 1), some (17, false)⟩,
      ⟨some 19, .bin .eql (.t 18) (.k (.int .i64 1)), some (17, false)⟩,
      ⟨some 20, .pick (.t 17) (.k (.bool true)) (.t 19), none⟩])
   (.cond (.t 20)
    (.seq (.reg [⟨some 4, .mov (.k (.int .i64 1)), none⟩])
     (.ret))
    (.skip)))
  (.seq (.reg [⟨some 21, .mov (.t 0), none⟩,
      ⟨some 22, .mov (.t 1), none⟩,
      ⟨some 23, .bin .eql (.t 21) (.t 22), none⟩,
      ⟨some 24, .call 83 [(.t 23)], none⟩,
      ⟨some 4, .mov (.t 24), none⟩])
   (.ret)))⟩
theorem fok_impl_agrees : FOk Try.prog 199 code_impl_agrees := fok Try.func199 (by kernel_rfl)
def code_spec_l15Same : F := ⟨25, [.tmp 4],
 .seq (.reg [⟨some 4, .mov (.k (.int .i64 0)), none⟩])
 (.seq (.seq (.reg [⟨some 5, .mov (.t 0), none⟩,
      ⟨some 6, .call 149 [(.t 5)], none⟩,
      ⟨some 7, .not (.t 6), none⟩,
      ⟨some 8, .mov (.t 7), none⟩,
      ⟨some 9, .mov (.t 1), some (8, false)⟩,
      ⟨some 10, .call 149 [(.t 9)], some (8, false)⟩,
      ⟨some 11, .not (.t 10), some (8, false)⟩,
      ⟨some 12, .pick (.t 8) (.k (.bool true)) (.t 11), none⟩,
      ⟨some 13, .mov (.t 12), none⟩,
      ⟨some 14, .mov (.t 0), some (13, false)⟩,
      ⟨some 15, .bin .eql (.t 14) (.k (.int .i64 1)), some (13, false)⟩,
      ⟨some 16, .pick (.t 13) (.k (.bool true)) (.t 15), none⟩,
      ⟨some 17, .mov (.t 16), none⟩,
      ⟨some 18, .mov (.t 1), some (17, false)⟩,
      ⟨some 19, .bin .eql (.t 18) (.k (.int .i64 1)), some (17, false)⟩,
      ⟨some 20, .pick (.t 17) (.k (.bool true)) (.t 19), none⟩])
   (.cond (.t 20)
    (.seq (.reg [⟨some 4, .mov (.k (.int .i64 1)), none⟩])
     (.ret))
    (.skip)))
  (.seq (.reg [⟨some 21, .mov (.t 0), none⟩,
      ⟨some 22, .mov (.t 1), none⟩,
      ⟨some 23, .bin .eql (.t 21) (.t 22), none⟩,
      ⟨some 24, .call 77 [(.t 23)], none⟩,
      ⟨some 4, .mov (.t 24), none⟩])
   (.ret)))⟩
theorem fok_spec_l15Same : FOk Try.prog 194 code_spec_l15Same := fok Try.func194 (by kernel_rfl)
def code_impl_MeetsDefinitions : F := ⟨47, [.tmp 2],
 .seq (.reg [⟨some 1, .box (.t 0), none⟩,
    ⟨some 2, .mov (.k (.int .i64 0)), none⟩])
 (.seq (.reg [⟨some 3, .mov (.k (.int .i64 2)), none⟩])
  (.seq (.seq (.reg [⟨some 8, .faddr 0 (.t 1), none⟩,
       ⟨some 9, .load 1 false (.t 8), none⟩,
       ⟨some 10, .len (.t 9), none⟩,
       ⟨some 11, .mov (.k (.int .i64 0)), none⟩])
    (.block 0 (.loop (.seq (.reg [⟨some 12, .bin .lss (.t 11) (.t 10), none⟩])
       (.seq (.cond (.t 12)
         (.skip)
         (.exit 0))
        (.seq (.block 1 (.seq (.reg [⟨some 13, .mov (.t 11), none⟩,
              ⟨some 14, .iaddr 4 (.t 9) (.t 11), none⟩,
              ⟨some 15, .load 4 true (.t 14), none⟩,
              ⟨some 5, .alloc [(.sl .nil 0 []), (.sl .nil 0 []), (.int .i64 0), (.int .i64 0)], none⟩,
              ⟨some 4, .mov (.t 13), none⟩,
              ⟨none, .store 4 (.t 5) (.t 15), none⟩])
           (.seq (.seq (.reg [⟨some 16, .faddr 1 (.t 5), none⟩,
                ⟨some 17, .load 1 false (.t 16), none⟩,
                ⟨some 18, .len (.t 17), none⟩,
                ⟨some 19, .mov (.k (.int .i64 0)), none⟩])
             (.block 2 (.loop (.seq (.reg [⟨some 20, .bin .lss (.t 19) (.t 18), none⟩])
                (.seq (.cond (.t 20)
                  (.skip)
                  (.exit 2))
                 (.seq (.block 3 (.seq (.reg [⟨some 21, .mov (.t 19), none⟩,
                       ⟨some 22, .iaddr 1 (.t 17) (.t 19), none⟩,
                       ⟨some 23, .load 1 false (.t 22), none⟩,
                       ⟨some 6, .mov (.t 21), none⟩,
                       ⟨some 7, .mov (.t 23), none⟩])
                    (.dreg [false, false, false, false, false, false, false, false, false, true, true] [⟨some 24, .mov (.t 3), none⟩,
                       ⟨some 25, .mov (.t 7), none⟩,
                       ⟨some 26, .load 2 true (.t 1), none⟩,
                       ⟨some 27, .mov (.t 6), none⟩,
                       ⟨some 28, .call 200 [(.t 27)], none⟩,
                       ⟨some 29, .mov (.t 4), none⟩,
                       ⟨some 30, .bsl 3 1 1 (.int .i64 0) [(0, (.t 29))], none⟩,
                       ⟨some 31, .call 190 [(.t 26), (.t 28), (.t 30)], none⟩,
                       ⟨some 32, .call 199 [(.t 25), (.t 31)], none⟩,
                       ⟨some 33, .call 198 [(.t 24), (.t 32)], none⟩,
                       ⟨some 3, .mov (.t 33), none⟩])))
                  (.reg [⟨some 34, .bin .add (.t 19) (.k (.int .i64 1)), none⟩,
                     ⟨some 19, .mov (.t 34), none⟩])))))))
            (.dreg [false, false, false, false, false, false, false, false, false, true, true] [⟨some 35, .mov (.t 3), none⟩,
               ⟨some 36, .faddr 2 (.t 5), none⟩,
               ⟨some 37, .load 1 false (.t 36), none⟩,
               ⟨some 38, .load 2 true (.t 1), none⟩,
               ⟨some 39, .call 201 [], none⟩,
               ⟨some 40, .mov (.t 4), none⟩,
               ⟨some 41, .bsl 3 1 1 (.int .i64 0) [(0, (.t 40))], none⟩,
               ⟨some 42, .call 190 [(.t 38), (.t 39), (.t 41)], none⟩,
               ⟨some 43, .call 199 [(.t 37), (.t 42)], none⟩,
               ⟨some 44, .call 198 [(.t 35), (.t 43)], none⟩,
               ⟨some 3, .mov (.t 44), none⟩]))))
         (.reg [⟨some 45, .bin .add (.t 11) (.k (.int .i64 1)), none⟩,
            ⟨some 11, .mov (.t 45), none⟩])))))))
   (.seq (.reg [⟨some 46, .mov (.t 3), none⟩,
       ⟨some 2, .mov (.t 46), none⟩])
    (.ret))))⟩
theorem fok_impl_MeetsDefinitions : FOk Try.prog 125 code_impl_MeetsDefinitions := fok Try.func125 (by kernel_rfl)
def code_spec_MeetsDefinitions : F := ⟨57, [.tmp 2],
 .seq (.reg [⟨some 1, .box (.t 0), none⟩,
    ⟨some 2, .mov (.k (.int .i64 0)), none⟩])
 (.seq (.reg [⟨some 3, .mov (.k (.int .i64 2)), none⟩])
  (.seq (.seq (.reg [⟨some 4, .mov (.k (.int .i64 0)), none⟩])
    (.block 0 (.loop (.seq (.seq (.reg [⟨some 6, .mov (.t 4), none⟩,
           ⟨some 7, .faddr 0 (.t 1), none⟩,
           ⟨some 8, .load 1 false (.t 7), none⟩,
           ⟨some 9, .len (.t 8), none⟩,
           ⟨some 10, .bin .lss (.t 6) (.t 9), none⟩])
        (.cond (.t 10)
         (.skip)
         (.exit 0)))
       (.seq (.block 1 (.seq (.seq (.reg [⟨some 5, .mov (.k (.int .i64 0)), none⟩])
           (.block 2 (.loop (.seq (.seq (.reg [⟨some 13, .mov (.t 5), none⟩,
                  ⟨some 14, .faddr 0 (.t 1), none⟩,
                  ⟨some 15, .load 1 false (.t 14), none⟩,
                  ⟨some 16, .mov (.t 4), none⟩,
                  ⟨some 17, .iaddr 4 (.t 15) (.t 16), none⟩,
                  ⟨some 18, .faddr 1 (.t 17), none⟩,
                  ⟨some 19, .load 1 false (.t 18), none⟩,
                  ⟨some 20, .len (.t 19), none⟩,
                  ⟨some 21, .bin .lss (.t 13) (.t 20), none⟩])
               (.cond (.t 21)
                (.skip)
                (.exit 2)))
              (.seq (.block 3 (.dreg [false, false, false, false, false, false, false, false, false, false, false, false, false, false, false, false, false, true, true] [⟨some 24, .mov (.t 3), none⟩,
                   ⟨some 25, .faddr 0 (.t 1), none⟩,
                   ⟨some 26, .load 1 false (.t 25), none⟩,
                   ⟨some 27, .mov (.t 4), none⟩,
                   ⟨some 28, .iaddr 4 (.t 26) (.t 27), none⟩,
                   ⟨some 29, .faddr 1 (.t 28), none⟩,
                   ⟨some 30, .load 1 false (.t 29), none⟩,
                   ⟨some 31, .mov (.t 5), none⟩,
                   ⟨some 32, .iaddr 1 (.t 30) (.t 31), none⟩,
                   ⟨some 33, .load 1 false (.t 32), none⟩,
                   ⟨some 34, .load 2 true (.t 1), none⟩,
                   ⟨some 35, .mov (.t 5), none⟩,
                   ⟨some 36, .call 195 [(.t 35)], none⟩,
                   ⟨some 37, .mov (.t 4), none⟩,
                   ⟨some 38, .bsl 3 1 1 (.int .i64 0) [(0, (.t 37))], none⟩,
                   ⟨some 39, .call 189 [(.t 34), (.t 36), (.t 38)], none⟩,
                   ⟨some 40, .call 194 [(.t 33), (.t 39)], none⟩,
                   ⟨some 41, .call 193 [(.t 24), (.t 40)], none⟩,
                   ⟨some 3, .mov (.t 41), none⟩]))
               (.reg [⟨some 22, .mov (.t 5), none⟩,
                  ⟨some 23, .bin .add (.t 22) (.k (.int .i64 1)), none⟩,
                  ⟨some 5, .mov (.t 23), none⟩]))))))
          (.dreg [false, false, false, false, false, false, false, false, false, false, false, false, false, true, true] [⟨some 42, .mov (.t 3), none⟩,
             ⟨some 43, .faddr 0 (.t 1), none⟩,
             ⟨some 44, .load 1 false (.t 43), none⟩,
             ⟨some 45, .mov (.t 4), none⟩,
             ⟨some 46, .iaddr 4 (.t 44) (.t 45), none⟩,
             ⟨some 47, .faddr 2 (.t 46), none⟩,
             ⟨some 48, .load 1 false (.t 47), none⟩,
             ⟨some 49, .load 2 true (.t 1), none⟩,
             ⟨some 50, .call 196 [], none⟩,
             ⟨some 51, .mov (.t 4), none⟩,
             ⟨some 52, .bsl 3 1 1 (.int .i64 0) [(0, (.t 51))], none⟩,
             ⟨some 53, .call 189 [(.t 49), (.t 50), (.t 52)], none⟩,
             ⟨some 54, .call 194 [(.t 48), (.t 53)], none⟩,
             ⟨some 55, .call 193 [(.t 42), (.t 54)], none⟩,
             ⟨some 3, .mov (.t 55), none⟩])))
        (.reg [⟨some 11, .mov (.t 4), none⟩,
           ⟨some 12, .bin .add (.t 11) (.k (.int .i64 1)), none⟩,
           ⟨some 4, .mov (.t 12), none⟩]))))))
   (.seq (.reg [⟨some 56, .mov (.t 3), none⟩,
       ⟨some 2, .mov (.t 56), none⟩])
    (.ret))))⟩
theorem fok_spec_MeetsDefinitions : FOk Try.prog 121 code_spec_MeetsDefinitions := fok Try.func121 (by kernel_rfl)
theorem ok_pEvalT : (ct_pEval truthS).Ok Try.prog := ok_pEval (fun x h => ok_pPathT x ⟨trivial, h.2⟩)
theorem ok_sEvalT : (ct_sEval truthS).Ok Try.prog := ok_sEval ok_sPathT
def agreeT (a b : Int) : Int := if isTruth a = true ∧ isTruth b = true ∧ a ≠ 1 ∧ b ≠ 1 then (if a = b then 2 else 0) else 1
@[simp] def ct_agrees : Ct := ⟨199, Int × Int, fun _ => True, fun x => [.int .i64 x.1, .int .i64 x.2], fun x => .int .i64 (agreeT x.1 x.2)⟩
theorem ok_agrees : ct_agrees.Ok Try.prog := by
  rintro ⟨a, b⟩ -
  refine Ok.of_cw fok_impl_agrees (go_ok (tab_cons ok_pIsTruth (tab_cons ok_truthOf tab_nil)) ?_)
  cases ha : isTruth a
  · simp [code_impl_agrees, List.replicate, agreeT, ha]
  cases hb : isTruth b
  · simp [code_impl_agrees, List.replicate, agreeT, ha, hb]
  by_cases a1 : a = 1
  · simp [code_impl_agrees, List.replicate, agreeT, ha, hb, a1]
  by_cases b1 : b = 1
  · simp [code_impl_agrees, List.replicate, agreeT, ha, hb, a1, b1]
  by_cases e : a = b
  · subst e
    simp [code_impl_agrees, List.replicate, agreeT, ha, hb, a1, b1, bb_ex, trI]
  · simp [code_impl_agrees, List.replicate, agreeT, ha, hb, a1, b1, e, bb_ex, trI]
@[simp] def ct_l15Same : Ct := ⟨194, Int × Int, fun _ => True, fun x => [.int .i64 x.1, .int .i64 x.2], fun x => .int .i64 (agreeT x.1 x.2)⟩
theorem ok_l15Same : ct_l15Same.Ok Try.prog := by
  rintro ⟨a, b⟩ -
  refine Ok.of_cw fok_spec_l15Same (go_ok (tab_cons ok_sIsTruth (tab_cons ok_l3Of tab_nil)) ?_)
  cases ha : isTruth a
  · simp [code_spec_l15Same, List.replicate, agreeT, ha]
  cases hb : isTruth b
  · simp [code_spec_l15Same, List.replicate, agreeT, ha, hb]
  by_cases a1 : a = 1
  · simp [code_spec_l15Same, List.replicate, agreeT, ha, hb, a1]
  by_cases b1 : b = 1
  · simp [code_spec_l15Same, List.replicate, agreeT, ha, hb, a1, b1]
  by_cases e : a = b
  · subst e
    simp [code_spec_l15Same, List.replicate, agreeT, ha, hb, a1, b1, bb_ex, trI]
  · simp [code_spec_l15Same, List.replicate, agreeT, ha, hb, a1, b1, e, bb_ex, trI]
/-- The value behind some of a node's reach values. -/
noncomputable def reachM (s : Strc) (i : Nat) (out : Int) (k : Nat) : Int := (List.range k).foldl (fun o j => andT o (agreeT ((nodeI s i).reach.getD j 0) (evalT s (reachFm j) [(i : Int)]))) out
noncomputable def nodeM (s : Strc) (out : Int) (i : Nat) : Int := andT (reachM s i out (nodeI s i).reach.length) (agreeT (nodeI s i).shared (evalT s sharedFm [(i : Int)]))
noncomputable def meetsTo (s : Strc) (p : Nat) : Int := (List.range p).foldl (nodeM s) 2
noncomputable def meetsT (s : Strc) : Int := meetsTo s s.nodes.length
theorem reachM_succ (s : Strc) (i : Nat) (out : Int) (k : Nat) : reachM s i out (k + 1) = andT (reachM s i out k) (agreeT ((nodeI s i).reach.getD k 0) (evalT s (reachFm k) [(i : Int)])) := by
  unfold reachM; rw [List.range_succ, List.foldl_append]; rfl
theorem meetsTo_succ (s : Strc) (p : Nat) : meetsTo s (p + 1) = nodeM s (meetsTo s p) p := by
  unfold meetsTo; rw [List.range_succ, List.foldl_append]; rfl
theorem nodeI_nat {s : Strc} {i : Nat} (h : i < s.nodes.length) : nodeI s (i : Int) = s.nodes[i] := by simp [nodeI, List.getD_eq_getElem?_getD, h]
@[simp] noncomputable def ct_pMeets : Ct := ⟨125, Strc, fun x => szStrc x ≤ 1048576 ∧ truthS x, fun x => [encStrc x], fun x => .int .i64 (meetsT x)⟩
set_option maxHeartbeats 8000000 in
set_option maxRecDepth 100000 in
theorem ok_pMeets : ct_pMeets.Ok Try.prog := by
  rintro s ⟨hs, ht⟩
  change Strc at s
  change szStrc s ≤ 1048576 at hs
  change truthS s at ht
  have hs2 := strc_le s
  have hT : TabOk Try.prog _ := tab_cons ok_pReachP (tab_cons ok_pSharedP (tab_cons ok_pEvalT (tab_cons ok_agrees (tab_cons ok_pAndOf tab_nil))))
  refine Ok.of_cw fok_impl_MeetsDefinitions ?_
  simp only [code_impl_MeetsDefinitions, frame, List.length_cons, List.length_nil, List.replicate, Nat.reduceSub, Nat.reduceAdd, List.cons_append, List.nil_append]
  refine cw_seq (go_ok hT ?_)
  simp
  refine cw_seq (go_ok hT ?_)
  simp
  refine cw_seq (go_ok hT ?_)
  simp
  refine cw_round (fun (p : Nat) => ⟨slots 47 [(1, .pbox 0 0), (3, .int .i64 (meetsTo s p)), (9, encL 4 encNode s.nodes), (10, .int .i64 s.nodes.length), (11, .int .i64 p)], [.cells [encL 4 encNode s.nodes, encL 1 encInt s.next]]⟩)
    (fun p => p ≤ s.nodes.length) (fun p => s.nodes.length - p) 0 (by simp) ?_ ?_
  · exact weak_seal 1 (by simp) (by simp) (by simp [List.replicate, meetsTo])
  rintro N hN i hi
  have hw : IntKind.i64.wrap ((i : Int) + 1) = ((i + 1 : Nat) : Int) := by rw [wrap_i64] <;> omega
  refine go_ok hT ?_
  by_cases g : i < s.nodes.length
  case neg =>
    have e : i = s.nodes.length := by omega
    subst e
    simp [List.replicate]
    refine go_ok hT ?_
    simp [meetsT]
  have g2 : ¬ s.nodes.length ≤ i := by omega
  have hnd := node_le (x := s) (n := s.nodes[i]) (List.getElem_mem g)
  have hno := nodeI_nat g
  have hM := meetsTo_succ s i
  have hM2 : nodeM s (meetsTo s i) i = andT (reachM s i (meetsTo s i) s.nodes[i].reach.length) (agreeT s.nodes[i].shared (evalT s sharedFm [(i : Int)])) := by unfold nodeM; rw [hno]
  rw [hM2] at hM
  generalize hx : s.nodes[i] = x at *
  simp [List.replicate, g, g2, hx]
  refine cw_round (fun (p : Nat) => ⟨slots 47 [(1, .pbox 0 0), (3, .int .i64 (reachM s i (meetsTo s i) p)), (4, .int .i64 i), (5, .pbox 3 0), (9, encL 4 encNode s.nodes), (10, .int .i64 s.nodes.length), (11, .int .i64 i), (17, encL 1 encInt x.reach), (18, .int .i64 x.reach.length), (19, .int .i64 p)], [.cells [encL 4 encNode s.nodes, encL 1 encInt s.next], .dead, .dead, .cells [encL 1 encInt x.vars, encL 1 encInt x.reach, .int .i64 x.shared, .int .i64 x.many]]⟩)
    (fun p => p ≤ x.reach.length) (fun p => x.reach.length - p) 0 (by simp) ?_ ?_
  · refine weak_seal 4 (by simp) (by simp) (by simp [List.replicate, reachM])
  rintro N2 hN2 k hk
  have hwk : IntKind.i64.wrap ((k : Int) + 1) = ((k + 1 : Nat) : Int) := by rw [wrap_i64] <;> omega
  refine go_ok hT ?_
  by_cases gk : k < x.reach.length
  · have gk2 : ¬ x.reach.length ≤ k := by omega
    have hr := reachM_succ s i (meetsTo s i) k
    rw [hno, show x.reach.getD k 0 = x.reach[k] by simp [List.getD_eq_getElem?_getD, gk]] at hr
    simp [List.replicate, hwk, gk, gk2, hs, ht, -encFm_mk]
    refine ⟨[(i : Int)], rfl, by simp, ?_⟩
    refine hN2 k (k + 1) _ (by omega) (by omega) (weak_seal 4 (by simp) ?_ ?_)
    · simp
    · simp [List.replicate, hr]
  · have e : k = x.reach.length := by omega
    subst e
    simp [List.replicate, hw, hs, ht, -encFm_mk]
    refine ⟨[(i : Int)], rfl, by simp, ?_⟩
    refine hN i (i + 1) _ (by omega) (by omega) (weak_seal 1 (by simp) ?_ ?_)
    · simp
    · simp [List.replicate, hM]
@[simp] noncomputable def ct_sMeets : Ct := ⟨121, Strc, fun x => szStrc x ≤ 1048576 ∧ truthS x, fun x => [encStrc x], fun x => .int .i64 (meetsT x)⟩
set_option maxHeartbeats 8000000 in
set_option maxRecDepth 100000 in
theorem ok_sMeets : ct_sMeets.Ok Try.prog := by
  rintro s ⟨hs, ht⟩
  change Strc at s
  change szStrc s ≤ 1048576 at hs
  change truthS s at ht
  have hs2 := strc_le s
  have hT : TabOk Try.prog _ := tab_cons ok_sReach (tab_cons ok_sShared (tab_cons ok_sEvalT (tab_cons ok_l15Same (tab_cons ok_sAndOf tab_nil))))
  refine Ok.of_cw fok_spec_MeetsDefinitions ?_
  simp only [code_spec_MeetsDefinitions, frame, List.length_cons, List.length_nil, List.replicate, Nat.reduceSub, Nat.reduceAdd, List.cons_append, List.nil_append]
  refine cw_seq (go_ok hT ?_)
  simp
  refine cw_seq (go_ok hT ?_)
  simp
  refine cw_seq (go_ok hT ?_)
  simp
  refine cw_round (fun (p : Nat) => ⟨slots 57 [(1, .pbox 0 0), (3, .int .i64 (meetsTo s p)), (4, .int .i64 p)], [.cells [encL 4 encNode s.nodes, encL 1 encInt s.next]]⟩)
    (fun p => p ≤ s.nodes.length) (fun p => s.nodes.length - p) 0 (by simp) ?_ ?_
  · exact weak_seal 1 (by simp) (by simp) (by simp [List.replicate, meetsTo])
  rintro N hN i hi
  have hw : IntKind.i64.wrap ((i : Int) + 1) = ((i + 1 : Nat) : Int) := by rw [wrap_i64] <;> omega
  refine go_ok hT ?_
  by_cases g : i < s.nodes.length
  case neg =>
    have e : i = s.nodes.length := by omega
    subst e
    simp [List.replicate]
    refine go_ok hT ?_
    simp [meetsT]
  have g2 : ¬ s.nodes.length ≤ i := by omega
  have hnd := node_le (x := s) (n := s.nodes[i]) (List.getElem_mem g)
  have hno := nodeI_nat g
  have hM := meetsTo_succ s i
  have hM2 : nodeM s (meetsTo s i) i = andT (reachM s i (meetsTo s i) s.nodes[i].reach.length) (agreeT s.nodes[i].shared (evalT s sharedFm [(i : Int)])) := by unfold nodeM; rw [hno]
  rw [hM2] at hM
  generalize hx : s.nodes[i] = x at *
  simp [List.replicate, g, g2]
  refine cw_round (fun (p : Nat) => ⟨slots 57 [(1, .pbox 0 0), (3, .int .i64 (reachM s i (meetsTo s i) p)), (4, .int .i64 i), (5, .int .i64 p)], [.cells [encL 4 encNode s.nodes, encL 1 encInt s.next]]⟩)
    (fun p => p ≤ x.reach.length) (fun p => x.reach.length - p) 0 (by simp) ?_ ?_
  · refine weak_seal 1 (by simp) (by simp) (by simp [List.replicate, reachM])
  rintro N2 hN2 k hk
  have hwk : IntKind.i64.wrap ((k : Int) + 1) = ((k + 1 : Nat) : Int) := by rw [wrap_i64] <;> omega
  refine go_ok hT ?_
  by_cases gk : k < x.reach.length
  · have gk2 : ¬ x.reach.length ≤ k := by omega
    have hr := reachM_succ s i (meetsTo s i) k
    rw [hno, show x.reach.getD k 0 = x.reach[k] by simp [List.getD_eq_getElem?_getD, gk]] at hr
    simp [List.replicate, g, hx, hwk, gk, gk2, hs, ht, -encFm_mk]
    refine ⟨[(i : Int)], rfl, by simp, ?_⟩
    refine hN2 k (k + 1) _ (by omega) (by omega) (weak_seal 1 (by simp) ?_ ?_)
    · simp
    · simp [List.replicate, hr]
  · have e : k = x.reach.length := by omega
    subst e
    simp [List.replicate, g, hx, hw, hs, ht, -encFm_mk]
    refine ⟨[(i : Int)], rfl, by simp, ?_⟩
    refine hN i (i + 1) _ (by omega) (by omega) (weak_seal 1 (by simp) ?_ ?_)
    · simp
    · simp [List.replicate, hM]
end Go.Vm
