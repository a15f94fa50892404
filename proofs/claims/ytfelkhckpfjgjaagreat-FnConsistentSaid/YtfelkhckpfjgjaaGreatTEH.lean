/- Formulas evaluated by the program. No condition. -/
import Derived.Test.YtfelkhckpfjgjaaGreatTJB
set_option linter.unusedSimpArgs false
set_option linter.unusedVariables false
namespace Go.Vm
open Go.Proofs
def copyR (H : List Blk) (K : AV → List Blk → Prop) (b off n tot : Nat) (xs : List AV) : Option Blk → Prop
  | some (.row true e2 1 els) => els.length = tot ∧ off + n ≤ tot ∧ K (.int .i64 (Min.min xs.length n : Nat)) (H.set b (.row true e2 1 (els.take off ++ xs.take n ++ els.drop (off + Min.min xs.length n))))
  | _ => False
def copyK (H : List Blk) (K : AV → List Blk → Prop) (v : AV) (xs : List AV) : Prop := match v with
  | .slref b off n tot => copyR H K b off n tot xs H[b]?
  | _ => False
theorem copyK_stepK {P : Go.Program} {T : Tab} {t : List AV} {H : List Blk} {d s : Opd} {K : AV → List Blk → Prop} : stepK P T t H (.copy d s) K = ∃ xs, elsOf H 1 (s.ev t) = some xs ∧ copyK H K (d.ev t) xs := by
  simp only [stepK, O.eval]
  cases hs : elsOf H 1 (s.ev t) with
  | none => cases d.ev t <;> simp [evK]
  | some xs =>
    cases d.ev t with
    | slref b off n tot =>
      simp only [copyK, copyR, Option.some.injEq, exists_eq_left']
      cases hb : H[b]? with
      | none => simp [evK]
      | some k =>
        cases k with
        | row ow e sz els =>
          cases ow with
          | false => simp [evK]
          | true =>
            by_cases h1 : sz = 1
            · subst h1
              simp only
              by_cases g : els.length = tot ∧ off + n ≤ tot
              · rw [if_pos g]; simp [evK, g.1, g.2]
              · rw [if_neg g]
                simp only [evK, false_iff, eq_iff_iff]
                rintro ⟨a, b, _⟩; exact g ⟨a, b⟩
            · split <;> simp_all [evK]
        | _ => simp [evK]
    | _ => simp [copyK, evK]
@[simp] theorem copyK_some {H : List Blk} {K : AV → List Blk → Prop} {b off n tot : Nat} {xs : List AV} : copyK H K (.slref b off n tot) xs = copyR H K b off n tot xs H[b]? := (rfl)
@[simp] theorem copyR_some {H : List Blk} {K : AV → List Blk → Prop} {b off n tot e2 : Nat} {xs els : List AV} : copyR H K b off n tot xs (some (.row true e2 1 els)) = (els.length = tot ∧ off + n ≤ tot ∧ K (.int .i64 (Min.min xs.length n : Nat)) (H.set b (.row true e2 1 (els.take off ++ xs.take n ++ els.drop (off + Min.min xs.length n))))) := (rfl)
def code_impl_evalPlain : F := ⟨79,[.tmp 8],.seq (.reg [⟨some 4,.box (.t 0),none⟩,⟨some 5,.box (.t 1),none⟩,⟨some 8,.mov (.k (.int .i64 0)),none⟩]) (.seq (.seq (.reg [⟨some 9,.faddr 0 (.t 5),none⟩,⟨some 10,.load 1 false (.t 9),none⟩,⟨some 11,.call 134 [.t 10],none⟩,⟨some 12,.mov (.t 11),none⟩,⟨some 13,.mov (.t 2),some (12,true)⟩,⟨some 14,.bin .lss (.t 13) (.k (.int .i64 0)),some (12,true)⟩,⟨some 15,.pick (.t 12) (.t 14) (.k (.bool false)),none⟩,⟨some 16,.mov (.t 15),none⟩,⟨some 17,.faddr 0 (.t 5),some (16,false)⟩,⟨some 18,.load 1 false (.t 17),some (16,false)⟩,⟨some 19,.call 135 [.t 18],some (16,false)⟩,⟨some 20,.mov (.t 19),some (16,false)⟩,⟨some 21,.mov (.t 3),some (20,true)⟩,⟨some 22,.bin .lss (.t 21) (.k (.int .i64 0)),some (20,true)⟩,⟨some 23,.pick (.t 20) (.t 22) (.k (.bool false)),some (16,false)⟩,⟨some 24,.pick (.t 16) (.k (.bool true)) (.t 23),none⟩]) (.cond (.t 24) (.seq (.reg [⟨some 8,.mov (.k (.int .i64 1)),none⟩]) (.ret)) (.skip))) (.seq (.seq (.reg [⟨some 25,.faddr 0 (.t 5),none⟩,⟨some 26,.load 1 false (.t 25),none⟩]) (.block 0 (.seq (.reg [⟨some 28,.bin .eql (.t 26) (.k (.int .i64 1)),none⟩,⟨some 27,.mov (.t 28),none⟩]) (.cond (.t 27) (.seq (.reg [⟨some 8,.mov (.k (.int .i64 2)),none⟩]) (.ret)) (.seq (.reg [⟨some 30,.bin .eql (.t 26) (.k (.int .i64 2)),none⟩,⟨some 29,.mov (.t 30),none⟩]) (.cond (.t 29) (.seq (.dreg [false,false,false,false,false,false,false,false,true,true] [false,false,false,false,false,false,false,false,true,false] [⟨some 31,.faddr 0 (.t 4),none⟩,⟨some 32,.load 1 false (.t 31),none⟩,⟨some 33,.mov (.t 2),none⟩,⟨some 34,.iaddr 4 (.t 32) (.t 33),none⟩,⟨some 35,.faddr 0 (.t 34),none⟩,⟨some 36,.load 1 false (.t 35),none⟩,⟨some 37,.faddr 1 (.t 5),none⟩,⟨some 38,.load 1 false (.t 37),none⟩,⟨some 39,.call 136 [.t 36,.t 38],none⟩,⟨some 8,.mov (.t 39),none⟩]) (.ret)) (.seq (.reg [⟨some 41,.bin .eql (.t 26) (.k (.int .i64 3)),none⟩,⟨some 40,.mov (.t 41),none⟩]) (.cond (.t 40) (.seq (.dreg [false,false,false,false,false,false,false,false,true,true] [false,false,false,false,false,false,false,false,true,false] [⟨some 42,.faddr 0 (.t 4),none⟩,⟨some 43,.load 1 false (.t 42),none⟩,⟨some 44,.mov (.t 2),none⟩,⟨some 45,.iaddr 4 (.t 43) (.t 44),none⟩,⟨some 46,.faddr 1 (.t 45),none⟩,⟨some 47,.load 1 false (.t 46),none⟩,⟨some 48,.faddr 1 (.t 5),none⟩,⟨some 49,.load 1 false (.t 48),none⟩,⟨some 50,.call 136 [.t 47,.t 49],none⟩,⟨some 8,.mov (.t 50),none⟩]) (.ret)) (.seq (.reg [⟨some 52,.bin .eql (.t 26) (.k (.int .i64 4)),none⟩,⟨some 51,.mov (.t 52),none⟩]) (.cond (.t 51) (.seq (.reg [⟨some 53,.faddr 0 (.t 4),none⟩,⟨some 54,.load 1 false (.t 53),none⟩,⟨some 55,.mov (.t 2),none⟩,⟨some 56,.iaddr 4 (.t 54) (.t 55),none⟩,⟨some 57,.faddr 2 (.t 56),none⟩,⟨some 58,.load 1 false (.t 57),none⟩,⟨some 59,.call 137 [.t 58],none⟩,⟨some 8,.mov (.t 59),none⟩]) (.ret)) (.seq (.reg [⟨some 61,.bin .eql (.t 26) (.k (.int .i64 5)),none⟩,⟨some 60,.mov (.t 61),none⟩]) (.cond (.t 60) (.seq (.reg [⟨some 62,.load 2 true (.t 4),none⟩,⟨some 63,.mov (.t 2),none⟩,⟨some 64,.mov (.t 3),none⟩,⟨some 65,.call 79 [.t 62,.t 63,.t 64],none⟩,⟨some 66,.call 137 [.t 65],none⟩,⟨some 8,.mov (.t 66),none⟩]) (.ret)) (.seq (.reg [⟨some 68,.bin .eql (.t 26) (.k (.int .i64 6)),none⟩,⟨some 67,.mov (.t 68),none⟩]) (.cond (.t 67) (.seq (.seq (.reg [⟨some 69,.mov (.t 2),none⟩,⟨some 70,.mov (.t 3),none⟩,⟨some 71,.bin .neq (.t 69) (.t 70),none⟩]) (.cond (.t 71) (.seq (.reg [⟨some 8,.mov (.k (.int .i64 0)),none⟩]) (.ret)) (.skip))) (.seq (.reg [⟨some 72,.load 2 true (.t 4),none⟩,⟨some 73,.mov (.t 2),none⟩,⟨some 74,.call 138 [.t 72,.t 73],none⟩,⟨some 8,.mov (.t 74),none⟩]) (.ret))) (.skip))))))))))))))) (.seq (.reg [⟨some 75,.load 2 true (.t 4),none⟩,⟨some 76,.mov (.t 2),none⟩,⟨some 77,.mov (.t 3),none⟩,⟨some 78,.call 139 [.t 75,.t 76,.t 77],none⟩,⟨some 8,.mov (.t 78),none⟩]) (.ret))))⟩
theorem fok_impl_evalPlain : FOk Tryz.prog 126 code_impl_evalPlain := fok Tryz.func126 (by kernel_rfl)
@[simp] noncomputable def ct_pPathR (R : Strc → Prop) : Ct := ⟨139, Strc × Int × Int, fun x => R x.1 ∧ szStrc x.1 ≤ 1048576, fun x => [encStrc x.1, .int .i64 x.2.1, .int .i64 x.2.2], fun x => .int .i64 (pathT x.1 x.2.1 x.2.2)⟩
@[simp] noncomputable def ct_evalPlain (R : Strc → Prop) : Ct := ⟨126, Strc × Fm × Int × Int, fun x => szStrc x.1 ≤ 1048576 ∧ (1 ≤ x.2.1.kind ∧ x.2.1.kind ≤ 7) ∧ (x.2.2.1 = -1 ∨ inN x.1 x.2.2.1) ∧ (x.2.2.2 = -1 ∨ inN x.1 x.2.2.2) ∧ (R x.1 ∨ x.2.1.kind ≠ 7),
  fun x => [encStrc x.1, encFm x.2.1, .int .i64 x.2.2.1, .int .i64 x.2.2.2], fun x => .int .i64 (plainT x.1 x.2.1 x.2.2.1 x.2.2.2)⟩
set_option maxHeartbeats 2000000 in
set_option maxRecDepth 100000 in
theorem ok_evalPlain {R : Strc → Prop} (hP : (ct_pPathR R).Ok Tryz.prog) : (ct_evalPlain R).Ok Tryz.prog := by
  rintro ⟨s, ⟨kind, k, u, v, args⟩, i, j⟩ ⟨hs, hk, hi, hj, hR⟩
  change szStrc s ≤ 1048576 at hs
  change 1 ≤ kind ∧ kind ≤ 7 at hk
  change i = -1 ∨ inN s i at hi
  change j = -1 ∨ inN s j at hj
  change R s ∨ kind ≠ 7 at hR
  have hT : TabOk Tryz.prog _ := tab_cons ok_usesU (tab_cons ok_usesV (tab_cons ok_element (tab_cons ok_known (tab_cons ok_pNextOf (tab_cons ok_sameNode (tab_cons hP tab_nil))))))
  have hI : inN s i → 0 ≤ i ∧ ¬ i < 0 ∧ i < s.nodes.length ∧ i.toNat < s.nodes.length := fun h => by unfold inN at h; omega
  have hJ : inN s j → ¬ j < 0 := fun h => by unfold inN at h; omega
  have hv : inN s i → (nodeI s i).vars.length ≤ 1048576 ∧ (nodeI s i).reach.length ≤ 1048576 := fun h => by
    have h1 := node_le (x := s) (n := nodeI s i) (by rw [nodeI_get (hI h).2.2.2]; exact List.getElem_mem _)
    omega
  rcases hi with rfl | hi
  · obtain rfl | rfl | rfl | rfl | rfl | rfl | rfl : kind = 1 ∨ kind = 2 ∨ kind = 3 ∨ kind = 4 ∨ kind = 5 ∨ kind = 6 ∨ kind = 7 := by omega
    all_goals (refine Ok.of_cw fok_impl_evalPlain ?_; simp only [code_impl_evalPlain, frame, List.length_cons, List.length_nil, List.replicate, Nat.reduceSub, Nat.reduceAdd, List.cons_append, List.nil_append]; refine cw_seq (go_ok hT ?_); simp; refine cw_seq (go_ok hT ?_); simp [useU, useV, plainT, oneT, twoT, knownT, isTruth]; try (refine cw_seq (go_ok hT ?_); simp [plainT, oneT, twoT, knownT, isTruth]; try (refine go_ok hT ?_; simp [plainT, oneT, twoT, knownT, isTruth])))
  · obtain ⟨i0, i1, i2, i3⟩ := hI hi
    obtain ⟨v1, v2⟩ := hv hi
    have e := nodeI_get i3
    rw [e] at v1 v2
    by_cases hk4 : kind ≤ 4
    · obtain rfl | rfl | rfl | rfl : kind = 1 ∨ kind = 2 ∨ kind = 3 ∨ kind = 4 := by omega
      all_goals (refine Ok.of_cw fok_impl_evalPlain ?_; simp only [code_impl_evalPlain, frame, List.length_cons, List.length_nil, List.replicate, Nat.reduceSub, Nat.reduceAdd, List.cons_append, List.nil_append]; refine cw_seq (go_ok hT ?_); simp; refine cw_seq (go_ok hT ?_); simp [useU, useV, plainT, oneT, i0, i1, i2, i3, e, v1, v2]; try (refine cw_seq (go_ok hT ?_); simp [plainT, oneT, i0, i1, i2, i3, e, v1, v2]; try (refine go_ok hT ?_; simp [plainT, oneT, i0, i1, i2, i3, e, v1, v2])))
    · rcases hj with rfl | hj
      · obtain rfl | rfl | rfl : kind = 5 ∨ kind = 6 ∨ kind = 7 := by omega
        all_goals (refine Ok.of_cw fok_impl_evalPlain ?_; simp only [code_impl_evalPlain, frame, List.length_cons, List.length_nil, List.replicate, Nat.reduceSub, Nat.reduceAdd, List.cons_append, List.nil_append]; refine cw_seq (go_ok hT ?_); simp; refine cw_seq (go_ok hT ?_); simp [useU, useV, plainT, twoT, knownT, isTruth, i0, i1, i2, i3]; try (refine cw_seq (go_ok hT ?_); simp [plainT, twoT, knownT, isTruth, i0, i1, i2, i3]; try (refine go_ok hT ?_; simp [plainT, twoT, knownT, isTruth, i0, i1, i2, i3])))
      · have j1 := hJ hj
        have ks : knownT (sameT s i) = sameT s i := knownT_of (by unfold sameT; split <;> simp [isTruth])
        have kp : knownT (pathT s i j) = pathT s i j := knownT_of (pathT_truth _ _ _)
        have k0 : knownT 0 = 0 := by simp [knownT, isTruth]
        obtain rfl | rfl | rfl : kind = 5 ∨ kind = 6 ∨ kind = 7 := by omega
        · (refine Ok.of_cw fok_impl_evalPlain ?_; simp only [code_impl_evalPlain, frame, List.length_cons, List.length_nil, List.replicate, Nat.reduceSub, Nat.reduceAdd, List.cons_append, List.nil_append]; refine cw_seq (go_ok hT ?_); simp; refine cw_seq (go_ok hT ?_); simp [useU, useV, plainT, twoT, i0, i1, i2, i3, j1, hs]; try (refine cw_seq (go_ok hT ?_); simp [plainT, twoT, i0, i1, i2, i3, j1, hs]; try (refine go_ok hT ?_; simp [plainT, twoT, i0, i1, i2, i3, j1, hs])))
        · by_cases hij : i = j
          · subst hij
            (refine Ok.of_cw fok_impl_evalPlain ?_; simp only [code_impl_evalPlain, frame, List.length_cons, List.length_nil, List.replicate, Nat.reduceSub, Nat.reduceAdd, List.cons_append, List.nil_append]; refine cw_seq (go_ok hT ?_); simp; refine cw_seq (go_ok hT ?_); simp [useU, useV, plainT, twoT, i0, i1, i2, i3, j1, hs, ks, hi]; try (refine cw_seq (go_ok hT ?_); simp [plainT, twoT, i0, i1, i2, i3, j1, hs, ks, hi]; try (refine go_ok hT ?_; simp [plainT, twoT, i0, i1, i2, i3, j1, hs, ks, hi])))
          · (refine Ok.of_cw fok_impl_evalPlain ?_; simp only [code_impl_evalPlain, frame, List.length_cons, List.length_nil, List.replicate, Nat.reduceSub, Nat.reduceAdd, List.cons_append, List.nil_append]; refine cw_seq (go_ok hT ?_); simp; refine cw_seq (go_ok hT ?_); simp [useU, useV, plainT, twoT, i0, i1, i2, i3, j1, hs, hij, k0]; try (refine cw_seq (go_ok hT ?_); simp [plainT, twoT, i0, i1, i2, i3, j1, hs, hij, k0]; try (refine go_ok hT ?_; simp [plainT, twoT, i0, i1, i2, i3, j1, hs, hij, k0])))
        · have hRs : R s := by rcases hR with h | h; exact h; exact absurd rfl h
          (refine Ok.of_cw fok_impl_evalPlain ?_; simp only [code_impl_evalPlain, frame, List.length_cons, List.length_nil, List.replicate, Nat.reduceSub, Nat.reduceAdd, List.cons_append, List.nil_append]; refine cw_seq (go_ok hT ?_); simp; refine cw_seq (go_ok hT ?_); simp [useU, useV, plainT, twoT, i0, i1, i2, i3, j1, hs, kp, hRs]; try (refine cw_seq (go_ok hT ?_); simp [plainT, twoT, i0, i1, i2, i3, j1, hs, kp, hRs]; try (refine go_ok hT ?_; simp [plainT, twoT, i0, i1, i2, i3, j1, hs, kp, hRs])))
end Go.Vm
namespace Go.Vm
open Go.Proofs
theorem mset (l : List Int) (k : Nat) (v : Int) : (l.map encInt).set k (.int .i64 v) = (l.set k v).map encInt := by rw [List.map_set]; rfl
def code_impl_EvalFormula : F := ⟨121,[.tmp 6],.seq (.reg [⟨some 3,.box (.t 0),none⟩,⟨some 4,.box (.t 1),none⟩,⟨some 6,.mov (.k (.int .i64 0)),none⟩]) (.seq (.seq (.dreg [false,false,false,false,false,false,true,true,true,true,true,true,true,true,true,true,true,true] [false,false,true,false,false,false,false,false,false,false,true,false,false,false,true,false,false,false] [⟨some 11,.faddr 0 (.t 4),none⟩,⟨some 12,.load 1 false (.t 11),none⟩,⟨some 13,.call 123 [.t 12],none⟩,⟨some 14,.faddr 4 (.t 4),none⟩,⟨some 15,.load 1 false (.t 14),none⟩,⟨some 16,.len (.t 15),none⟩,⟨some 17,.bin .neq (.t 13) (.t 16),none⟩,⟨some 18,.mov (.t 17),none⟩,⟨some 19,.faddr 0 (.t 4),some (18,false)⟩,⟨some 20,.load 1 false (.t 19),some (18,false)⟩,⟨some 21,.call 124 [.t 20],some (18,false)⟩,⟨some 22,.mov (.t 21),some (18,false)⟩,⟨some 23,.faddr 2 (.t 4),some (22,true)⟩,⟨some 24,.load 1 false (.t 23),some (22,true)⟩,⟨some 25,.call 35 [.t 24,(.k (.int .i64 0)),(.k (.int .i64 3))],some (22,true)⟩,⟨some 26,.not (.t 25),some (22,true)⟩,⟨some 27,.pick (.t 22) (.t 26) (.k (.bool false)),some (18,false)⟩,⟨some 28,.pick (.t 18) (.k (.bool true)) (.t 27),none⟩]) (.cond (.t 28) (.seq (.reg [⟨some 6,.mov (.k (.int .i64 1)),none⟩]) (.ret)) (.skip))) (.seq (.seq (.reg [⟨some 29,.faddr 0 (.t 4),none⟩,⟨some 30,.load 1 false (.t 29),none⟩]) (.block 0 (.seq (.reg [⟨some 32,.bin .eql (.t 30) (.k (.int .i64 8)),none⟩,⟨some 31,.mov (.t 32),none⟩]) (.cond (.t 31) (.seq (.dreg [false,false,false,false,false,false,true,true,true] [false,false,false,false,false,false,true,true,false] [⟨some 33,.load 2 true (.t 3),none⟩,⟨some 34,.faddr 4 (.t 4),none⟩,⟨some 35,.load 1 false (.t 34),none⟩,⟨some 36,.iaddr 5 (.t 35) (.k (.int .i64 0)),none⟩,⟨some 37,.load 5 true (.t 36),none⟩,⟨some 38,.mov (.t 2),none⟩,⟨some 39,.call 90 [.t 33,.t 37,.t 38],none⟩,⟨some 40,.call 125 [.t 39],none⟩,⟨some 6,.mov (.t 40),none⟩]) (.ret)) (.seq (.reg [⟨some 42,.bin .eql (.t 30) (.k (.int .i64 9)),none⟩,⟨some 41,.mov (.t 42),none⟩]) (.cond (.t 41) (.seq (.dreg [false,false,false,false,false,false,false,false,false,false,false,false,false,true,true,true] [false,false,false,false,false,false,true,false,false,false,false,false,false,true,true,false] [⟨some 43,.load 2 true (.t 3),none⟩,⟨some 44,.faddr 4 (.t 4),none⟩,⟨some 45,.load 1 false (.t 44),none⟩,⟨some 46,.iaddr 5 (.t 45) (.k (.int .i64 0)),none⟩,⟨some 47,.load 5 true (.t 46),none⟩,⟨some 48,.mov (.t 2),none⟩,⟨some 49,.call 90 [.t 43,.t 47,.t 48],none⟩,⟨some 50,.load 2 true (.t 3),none⟩,⟨some 51,.faddr 4 (.t 4),none⟩,⟨some 52,.load 1 false (.t 51),none⟩,⟨some 53,.iaddr 5 (.t 52) (.k (.int .i64 1)),none⟩,⟨some 54,.load 5 true (.t 53),none⟩,⟨some 55,.mov (.t 2),none⟩,⟨some 56,.call 90 [.t 50,.t 54,.t 55],none⟩,⟨some 57,.call 88 [.t 49,.t 56],none⟩,⟨some 6,.mov (.t 57),none⟩]) (.ret)) (.seq (.reg [⟨some 59,.bin .eql (.t 30) (.k (.int .i64 10)),none⟩,⟨some 58,.mov (.t 59),none⟩]) (.cond (.t 58) (.seq (.dreg [false,false,false,false,false,false,false,false,false,false,false,false,false,true,true,true] [false,false,false,false,false,false,true,false,false,false,false,false,false,true,true,false] [⟨some 60,.load 2 true (.t 3),none⟩,⟨some 61,.faddr 4 (.t 4),none⟩,⟨some 62,.load 1 false (.t 61),none⟩,⟨some 63,.iaddr 5 (.t 62) (.k (.int .i64 0)),none⟩,⟨some 64,.load 5 true (.t 63),none⟩,⟨some 65,.mov (.t 2),none⟩,⟨some 66,.call 90 [.t 60,.t 64,.t 65],none⟩,⟨some 67,.load 2 true (.t 3),none⟩,⟨some 68,.faddr 4 (.t 4),none⟩,⟨some 69,.load 1 false (.t 68),none⟩,⟨some 70,.iaddr 5 (.t 69) (.k (.int .i64 1)),none⟩,⟨some 71,.load 5 true (.t 70),none⟩,⟨some 72,.mov (.t 2),none⟩,⟨some 73,.call 90 [.t 67,.t 71,.t 72],none⟩,⟨some 74,.call 80 [.t 66,.t 73],none⟩,⟨some 6,.mov (.t 74),none⟩]) (.ret)) (.seq (.seq (.reg [⟨some 76,.bin .eql (.t 30) (.k (.int .i64 11)),none⟩,⟨some 75,.mov (.t 76),none⟩]) (.cond (.t 75) (.skip) (.reg [⟨some 77,.bin .eql (.t 30) (.k (.int .i64 12)),none⟩,⟨some 75,.mov (.t 77),none⟩]))) (.cond (.t 75) (.seq (.reg [⟨some 78,.bsl 3 1 4 (.int .i64 0) [(0,(.k (.int .i64 (-1)))),(1,(.k (.int .i64 (-1)))),(2,(.k (.int .i64 (-1)))),(3,(.k (.int .i64 (-1))))],none⟩,⟨some 7,.mov (.t 78),none⟩]) (.seq (.reg [⟨some 79,.mov (.t 7),none⟩,⟨some 80,.mov (.t 2),none⟩,⟨some 81,.copy (.t 79) (.t 80),none⟩]) (.seq (.reg [⟨some 8,.mov (.k (.int .i64 0)),none⟩,⟨some 9,.mov (.k (.fn 80 [])),none⟩]) (.seq (.seq (.reg [⟨some 82,.faddr 0 (.t 4),none⟩,⟨some 83,.load 1 false (.t 82),none⟩,⟨some 84,.bin .eql (.t 83) (.k (.int .i64 12)),none⟩]) (.cond (.t 84) (.reg [⟨some 8,.mov (.k (.int .i64 2)),none⟩,⟨some 9,.mov (.k (.fn 88 [])),none⟩]) (.skip))) (.seq (.seq (.reg [⟨some 85,.faddr 0 (.t 3),none⟩,⟨some 86,.load 1 false (.t 85),none⟩,⟨some 87,.len (.t 86),none⟩,⟨some 88,.mov (.k (.int .i64 0)),none⟩]) (.block 1 (.loop (.seq (.reg [⟨some 89,.bin .lss (.t 88) (.t 87),none⟩]) (.seq (.cond (.t 89) (.skip) (.exit 1)) (.seq (.block 2 (.seq (.reg [⟨some 90,.mov (.t 88),none⟩,⟨some 10,.mov (.t 90),none⟩]) (.seq (.reg [⟨some 91,.mov (.t 7),none⟩,⟨some 92,.faddr 2 (.t 4),none⟩,⟨some 93,.load 1 false (.t 92),none⟩,⟨some 94,.mov (.t 10),none⟩,⟨some 95,.iaddr 1 (.t 91) (.t 93),none⟩,⟨none,.store 1 (.t 95) (.t 94),none⟩]) (.dreg [false,false,false,false,false,false,false,false,false,true,true] [false,false,false,false,false,false,false,false,true,true,false] [⟨some 96,.mov (.t 9),none⟩,⟨some 97,.mov (.t 8),none⟩,⟨some 98,.load 2 true (.t 3),none⟩,⟨some 99,.faddr 4 (.t 4),none⟩,⟨some 100,.load 1 false (.t 99),none⟩,⟨some 101,.iaddr 5 (.t 100) (.k (.int .i64 0)),none⟩,⟨some 102,.load 5 true (.t 101),none⟩,⟨some 103,.mov (.t 7),none⟩,⟨some 104,.call 90 [.t 98,.t 102,.t 103],none⟩,⟨some 105,.callv (.t 96) [.t 97,.t 104],none⟩,⟨some 8,.mov (.t 105),none⟩])))) (.reg [⟨some 106,.bin .add (.t 88) (.k (.int .i64 1)),none⟩,⟨some 88,.mov (.t 106),none⟩]))))))) (.seq (.reg [⟨some 107,.mov (.t 8),none⟩,⟨some 6,.mov (.t 107),none⟩]) (.ret))))))) (.skip))))))))))) (.seq (.dreg [false,false,false,false,false,false,false,false,false,false,false,false,true,true] [false,false,false,false,false,false,true,false,false,false,false,true,true,false] [⟨some 108,.load 2 true (.t 3),none⟩,⟨some 109,.load 5 true (.t 4),none⟩,⟨some 110,.load 2 true (.t 3),none⟩,⟨some 111,.mov (.t 2),none⟩,⟨some 112,.faddr 2 (.t 4),none⟩,⟨some 113,.load 1 false (.t 112),none⟩,⟨some 114,.call 127 [.t 110,.t 111,.t 113],none⟩,⟨some 115,.load 2 true (.t 3),none⟩,⟨some 116,.mov (.t 2),none⟩,⟨some 117,.faddr 3 (.t 4),none⟩,⟨some 118,.load 1 false (.t 117),none⟩,⟨some 119,.call 127 [.t 115,.t 116,.t 118],none⟩,⟨some 120,.call 126 [.t 108,.t 109,.t 114,.t 119],none⟩,⟨some 6,.mov (.t 120),none⟩]) (.ret))))⟩
theorem fok_impl_EvalFormula : FOk Tryz.prog 90 code_impl_EvalFormula := fok Tryz.func90 (by kernel_rfl)
@[simp] noncomputable def ct_pEvalN (R : Strc → Prop) (n : Nat) : Ct := ⟨90, Strc × Fm × List Int, fun x => szStrc x.1 ≤ 1048576 ∧ x.2.2.length ≤ 1048576 ∧ x.2.1.size ≤ n ∧ (R x.1 ∨ noPathF x.2.1 = true),
  fun x => [encStrc x.1, encFm x.2.1, encL 1 encInt x.2.2], fun x => .int .i64 (evalN x.1 n x.2.1 x.2.2)⟩
set_option maxHeartbeats 8000000 in
set_option maxRecDepth 100000 in
theorem ok_pEvalN {R : Strc → Prop} (hP : (ct_pPathR R).Ok Tryz.prog) : ∀ n, (ct_pEvalN R n).Ok Tryz.prog
  | 0 => by rintro ⟨s, f, nodes⟩ ⟨_, _, h, _⟩; change f.size ≤ 0 at h; rw [size_eq] at h; omega
  | n + 1 => by
    have ih := ok_pEvalN hP n
    rintro ⟨s, ⟨kind, k, u, v, args⟩, nodes⟩ ⟨hs, hl, hz, hR⟩
    change szStrc s ≤ 1048576 at hs
    change nodes.length ≤ 1048576 at hl
    change (Fm.mk kind k u v args).size ≤ n + 1 at hz
    change R s ∨ noPathF (.mk kind k u v args) = true at hR
    have hs2 := strc_le s
    simp only [Fm.size] at hz
    simp only [noPathF, Bool.and_eq_true, decide_eq_true_eq] at hR
    have hT : TabOk Tryz.prog _ := tab_cons ok_pArityOf (tab_cons ok_isBinder (tab_cons ok_within (tab_cons ok_pNotOf (tab_cons ok_pAndOf (tab_cons ok_pOrOf (tab_cons ok_place (tab_cons (ok_evalPlain hP) (tab_cons ih tab_nil))))))))
    refine Ok.of_cw fok_impl_EvalFormula ?_
    simp only [code_impl_EvalFormula, frame, List.length_cons, List.length_nil, List.replicate, Nat.reduceSub, Nat.reduceAdd, List.cons_append, List.nil_append]
    refine cw_seq (go_ok hT ?_)
    simp
    refine cw_seq (go_ok hT ?_)
    have hN1 := nodeOf_or s nodes u
    have hN2 := nodeOf_or s nodes v
    by_cases har : arity kind = (args.length : Int)
    case neg => simp [evalN, har]
    rcases arity_cases har with ⟨k1, k7, ha⟩ | ⟨rfl, ha⟩ | ⟨rfl, ha⟩ | ⟨rfl, ha⟩ | ⟨rfl, ha⟩ | ⟨rfl, ha⟩
    · have ha0 : args = [] := List.eq_nil_of_length_eq_zero ha
      subst ha0
      have hR2 : R s ∨ kind ≠ 7 := hR.imp id (·.1)
      have n8 : ¬ kind = 8 := by omega
      have n9 : ¬ kind = 9 := by omega
      have n10 : ¬ kind = 10 := by omega
      have n11 : ¬ kind = 11 := by omega
      have n12 : ¬ kind = 12 := by omega
      have hE : evalN s (n + 1) (.mk kind k u v []) nodes = plainT s (.mk kind k u v []) (nodeOf s nodes u) (nodeOf s nodes v) := by simp [evalN, har, n8, n9, n10, n11, n12]
      rw [hE]
      have har' : arity kind = 0 := by simpa using har
      simp [har', binder, n11, n12]
      refine cw_seq (go_ok hT ?_)
      simp [n8, n9, n10, n11, n12]
      refine go_ok hT ?_
      simp [hs, hl, hN1, hN2, encFm_agg0, k1, k7]
      simpa using hR2
    · obtain ⟨x, rfl⟩ := List.length_eq_one_iff.1 ha
      simp only [sizes] at hz
      have hx : x.size ≤ n := by omega
      have hRx : R s ∨ noPathF x = true := hR.imp id (fun h => by have := h.2; simp only [noPathS, Bool.and_eq_true] at this; exact this.1)
      simp [har, binder]
      refine cw_seq (go_ok hT ?_)
      simp [evalN, har, hs, hl, fget, hx, hRx]
    · obtain ⟨x, y, rfl⟩ := two_of ha
      simp only [sizes] at hz
      have hx : x.size ≤ n := by omega
      have hy : y.size ≤ n := by omega
      have hRx : R s ∨ noPathF x = true := hR.imp id (fun h => by have := h.2; simp only [noPathS, Bool.and_eq_true] at this; exact this.1)
      have hRy : R s ∨ noPathF y = true := hR.imp id (fun h => by have := h.2; simp only [noPathS, Bool.and_eq_true] at this; exact this.2.1)
      simp [har, binder]
      refine cw_seq (go_ok hT ?_)
      simp [evalN, har, hs, hl, fget, hx, hy, hRx, hRy]
    · obtain ⟨x, y, rfl⟩ := two_of ha
      simp only [sizes] at hz
      have hx : x.size ≤ n := by omega
      have hy : y.size ≤ n := by omega
      have hRx : R s ∨ noPathF x = true := hR.imp id (fun h => by have := h.2; simp only [noPathS, Bool.and_eq_true] at this; exact this.1)
      have hRy : R s ∨ noPathF y = true := hR.imp id (fun h => by have := h.2; simp only [noPathS, Bool.and_eq_true] at this; exact this.2.1)
      simp [har, binder]
      refine cw_seq (go_ok hT ?_)
      simp [evalN, har, hs, hl, fget, hx, hy, hRx, hRy]
    · obtain ⟨x, rfl⟩ := List.length_eq_one_iff.1 ha
      simp only [sizes] at hz
      have hx : x.size ≤ n := by omega
      have hRx : R s ∨ noPathF x = true := hR.imp id (fun h => by have := h.2; simp only [noPathS, Bool.and_eq_true] at this; exact this.1)
      have hc : callable Tryz.prog 80 = true := by kernel_rfl
      by_cases u0 : 0 ≤ u
      case neg => simp [evalN, har, binder, u0]
      by_cases u3 : u ≤ 3
      case neg =>
        have u3' : 3 < u := by omega
        simp [evalN, har, binder, u0, u3, u3']
      have hu4 : u.toNat < 4 := by omega
      have hu5 : u < 4 := by omega
      have u3' : ¬ 3 < u := by omega
      have hE : evalN s (n + 1) (.mk 11 k u v [x]) nodes = overT false s.nodes.length (fun i => evalN s n x ((pad4 nodes).set u.toNat (i : Nat))) := by
        simp [evalN, har, u0, u3, fget]
      rw [hE]
      simp [har, binder, u0, u3, u3']
      refine cw_seq (go_ok hT ?_)
      simp [copyK_stepK]
      rw [← pad4_map]
      refine cw_round (fun (p : Nat × List Int) => ⟨slots 121 [(3, .pbox 0 0), (4, .pbox 1 0), (7, .slref 2 0 4 4), (8, .int .i64 (overT false p.1 (fun i => evalN s n x ((pad4 nodes).set u.toNat (i : Nat))))), (9, .fn 80 []), (87, .int .i64 s.nodes.length), (88, .int .i64 p.1)], [.cells [encL 4 encNode s.nodes, encL 1 encInt s.next], .cells [.int .i64 11, .int .i64 k, .int .i64 u, .int .i64 v, encL 5 encFm [x]], .row true 3 1 (p.2.map encInt)]⟩)
        (fun p => p.1 ≤ s.nodes.length ∧ p.2.length = 4 ∧ ∀ a, p.2.set u.toNat a = (pad4 nodes).set u.toNat a) (fun p => s.nodes.length - p.1) (0, pad4 nodes) ⟨by simp, by simp, fun _ => rfl⟩ ?_ ?_
      · refine weak_seal 3 (by simp) ?_ ?_
        · simp
        · simp [List.replicate, overT_zero]
      · rintro N hN ⟨i, l⟩ ⟨hi, hl4, hset⟩
        change i ≤ s.nodes.length at hi
        change l.length = 4 at hl4
        have hw : IntKind.i64.wrap ((i : Int) + 1) = ((i + 1 : Nat) : Int) := by rw [wrap_i64] <;> omega
        have ht : ∀ a, List.take 4 (List.map encInt (l.set u.toNat a)) = List.map encInt (l.set u.toNat a) := fun a => List.take_of_length_le (by simp [hl4])
        refine go_ok hT ?_
        by_cases g : i < s.nodes.length
        · have g2 : ¬ s.nodes.length ≤ i := by omega
          simp [List.replicate, hw, g, g2, hc, hu4, hu5, u0, hl4, hs, hx, hRx, mset, ht, -List.map_set]
          refine hN (i, l) (i + 1, (pad4 nodes).set u.toNat (i : Nat)) _ ⟨by simp; omega, by simp, by simp⟩ (by simp; omega) (weak_seal 3 (by simp) ?_ ?_)
          · have h1 := hset (i : Int)
            simp [mset, -List.map_set, ← h1]
          · have h1 := hset (i : Int)
            simp [List.replicate, overT_succ, overOp, ← h1]
        · have e : i = s.nodes.length := by omega
          subst e
          simp [List.replicate]
    · obtain ⟨x, rfl⟩ := List.length_eq_one_iff.1 ha
      simp only [sizes] at hz
      have hx : x.size ≤ n := by omega
      have hRx : R s ∨ noPathF x = true := hR.imp id (fun h => by have := h.2; simp only [noPathS, Bool.and_eq_true] at this; exact this.1)
      have hc : callable Tryz.prog 88 = true := by kernel_rfl
      by_cases u0 : 0 ≤ u
      case neg => simp [evalN, har, binder, u0]
      by_cases u3 : u ≤ 3
      case neg =>
        have u3' : 3 < u := by omega
        simp [evalN, har, binder, u0, u3, u3']
      have hu4 : u.toNat < 4 := by omega
      have hu5 : u < 4 := by omega
      have u3' : ¬ 3 < u := by omega
      have hE : evalN s (n + 1) (.mk 12 k u v [x]) nodes = overT true s.nodes.length (fun i => evalN s n x ((pad4 nodes).set u.toNat (i : Nat))) := by
        simp [evalN, har, u0, u3, fget]
      rw [hE]
      simp [har, binder, u0, u3, u3']
      refine cw_seq (go_ok hT ?_)
      simp [copyK_stepK]
      rw [← pad4_map]
      refine cw_round (fun (p : Nat × List Int) => ⟨slots 121 [(3, .pbox 0 0), (4, .pbox 1 0), (7, .slref 2 0 4 4), (8, .int .i64 (overT true p.1 (fun i => evalN s n x ((pad4 nodes).set u.toNat (i : Nat))))), (9, .fn 88 []), (87, .int .i64 s.nodes.length), (88, .int .i64 p.1)], [.cells [encL 4 encNode s.nodes, encL 1 encInt s.next], .cells [.int .i64 12, .int .i64 k, .int .i64 u, .int .i64 v, encL 5 encFm [x]], .row true 3 1 (p.2.map encInt)]⟩)
        (fun p => p.1 ≤ s.nodes.length ∧ p.2.length = 4 ∧ ∀ a, p.2.set u.toNat a = (pad4 nodes).set u.toNat a) (fun p => s.nodes.length - p.1) (0, pad4 nodes) ⟨by simp, by simp, fun _ => rfl⟩ ?_ ?_
      · refine weak_seal 3 (by simp) ?_ ?_
        · simp
        · simp [List.replicate, overT_zero]
      · rintro N hN ⟨i, l⟩ ⟨hi, hl4, hset⟩
        change i ≤ s.nodes.length at hi
        change l.length = 4 at hl4
        have hw : IntKind.i64.wrap ((i : Int) + 1) = ((i + 1 : Nat) : Int) := by rw [wrap_i64] <;> omega
        have ht : ∀ a, List.take 4 (List.map encInt (l.set u.toNat a)) = List.map encInt (l.set u.toNat a) := fun a => List.take_of_length_le (by simp [hl4])
        refine go_ok hT ?_
        by_cases g : i < s.nodes.length
        · have g2 : ¬ s.nodes.length ≤ i := by omega
          simp [List.replicate, hw, g, g2, hc, hu4, hu5, u0, hl4, hs, hx, hRx, mset, ht, -List.map_set]
          refine hN (i, l) (i + 1, (pad4 nodes).set u.toNat (i : Nat)) _ ⟨by simp; omega, by simp, by simp⟩ (by simp; omega) (weak_seal 3 (by simp) ?_ ?_)
          · have h1 := hset (i : Int)
            simp [mset, -List.map_set, ← h1]
          · have h1 := hset (i : Int)
            simp [List.replicate, overT_succ, overOp, ← h1]
        · have e : i = s.nodes.length := by omega
          subst e
          simp [List.replicate]
@[simp] noncomputable def ct_pEval (R : Strc → Prop) : Ct := ⟨90, Strc × Fm × List Int, fun x => szStrc x.1 ≤ 1048576 ∧ x.2.2.length ≤ 1048576 ∧ (R x.1 ∨ noPathF x.2.1 = true),
  fun x => [encStrc x.1, encFm x.2.1, encL 1 encInt x.2.2], fun x => .int .i64 (evalT x.1 x.2.1 x.2.2)⟩
theorem ok_pEval {R : Strc → Prop} (hP : (ct_pPathR R).Ok Tryz.prog) : (ct_pEval R).Ok Tryz.prog := fun x h => ok_pEvalN hP x.2.1.size x ⟨h.1, h.2.1, Nat.le_refl _, h.2.2⟩
end Go.Vm
