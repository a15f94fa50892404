/- Formulas evaluated by the program. No condition. -/
import Derived.Test.YtmakeoekklcbdaaTEF
set_option linter.unusedSimpArgs false
set_option linter.unusedVariables false
namespace Go.Vm
open Go.Proofs
/-! ### copies -/
def copyR (H : List Blk) (K : AV → List Blk → Prop) (b off n tot : Nat) (xs : List AV) : Option Blk → Prop
  | some (.row true e2 1 els) => els.length = tot ∧ off + n ≤ tot ∧ K (.int .i64 (Min.min xs.length n : Nat)) (H.set b (.row true e2 1 (els.take off ++ xs.take n ++ els.drop (off + Min.min xs.length n))))
  | _ => False
def copyK (H : List Blk) (K : AV → List Blk → Prop) (v : AV) (xs : List AV) : Prop := match v with
  | .slref b off n tot => copyR H K b off n tot xs H[b]?
  | _ => False
theorem copyK_stepK {P : Go.Program} {T : Tab} {t : List AV} {H : List Blk} {d s : Opd} {K : AV → List Blk → Prop} : stepK P T t H (.copy d s) K = ∃ xs, elsOf H 1 (s.ev t) = some xs ∧ copyK H K (d.ev t) xs := by
  simp only [stepK, O.eval]
  cases hs : elsOf H 1 (s.ev t) with
  | none => cases d.ev t <;> simp [evK]
  | some xs =>
    cases d.ev t with
    | slref b off n tot =>
      simp only [copyK, copyR, Option.some.injEq, exists_eq_left']
      cases hb : H[b]? with
      | none => simp [evK]
      | some k =>
        cases k with
        | row ow e sz els =>
          cases ow with
          | false => simp [evK]
          | true =>
            by_cases h1 : sz = 1
            · subst h1
              simp only
              by_cases g : els.length = tot ∧ off + n ≤ tot
              · rw [if_pos g]; simp [evK, g.1, g.2]
              · rw [if_neg g]
                simp only [evK, false_iff, eq_iff_iff]
                rintro ⟨a, b, _⟩; exact g ⟨a, b⟩
            · split <;> simp_all [evK]
        | _ => simp [evK]
    | _ => simp [copyK, evK]
@[simp] theorem copyK_some {H : List Blk} {K : AV → List Blk → Prop} {b off n tot : Nat} {xs : List AV} : copyK H K (.slref b off n tot) xs = copyR H K b off n tot xs H[b]? := (rfl)
@[simp] theorem copyR_some {H : List Blk} {K : AV → List Blk → Prop} {b off n tot e2 : Nat} {xs els : List AV} : copyR H K b off n tot xs (some (.row true e2 1 els)) = (els.length = tot ∧ off + n ≤ tot ∧ K (.int .i64 (Min.min xs.length n : Nat)) (H.set b (.row true e2 1 (els.take off ++ xs.take n ++ els.drop (off + Min.min xs.length n))))) := (rfl)
def code_impl_evalPlain : F := ⟨79, [.tmp 8],
 .seq (.reg [⟨some 4, .box (.t 0), none⟩,
    ⟨some 5, .box (.t 1), none⟩,
    ⟨some 8, .mov (.k (.int .i64 0)), none⟩])
 (.seq (.seq (.reg [⟨some 9, .faddr 0 (.t 5), none⟩,
      ⟨some 10, .load 1 false (.t 9), none⟩,
      ⟨some 11, .call 226 [(.t 10)], none⟩,
      ⟨some 12, .mov (.t 11), none⟩,
      ⟨some 13, .mov (.t 2), some (12, true)⟩,
      ⟨some 14, .bin .lss (.t 13) (.k (.int .i64 0)), some (12, true)⟩,
      ⟨some 15, .pick (.t 12) (.t 14) (.k (.bool false)), none⟩,
      ⟨some 16, .mov (.t 15), none⟩,
      ⟨some 17, .faddr 0 (.t 5), some (16, false)⟩,
      ⟨some 18, .load 1 false (.t 17), some (16, false)⟩,
      ⟨some 19, .call 227 [(.t 18)], some (16, false)⟩,
      ⟨some 20, .mov (.t 19), some (16, false)⟩,
      ⟨some 21, .mov (.t 3), some (20, true)⟩,
      ⟨some 22, .bin .lss (.t 21) (.k (.int .i64 0)), some (20, true)⟩,
      ⟨some 23, .pick (.t 20) (.t 22) (.k (.bool false)), some (16, false)⟩,
      ⟨some 24, .pick (.t 16) (.k (.bool true)) (.t 23), none⟩])
   (.cond (.t 24)
    (.seq (.reg [⟨some 8, .mov (.k (.int .i64 1)), none⟩])
     (.ret))
    (.skip)))
  (.seq (.seq (.reg [⟨some 25, .faddr 0 (.t 5), none⟩,
       ⟨some 26, .load 1 false (.t 25), none⟩])
    (.block 0 (.seq (.reg [⟨some 28, .bin .eql (.t 26) (.k (.int .i64 1)), none⟩,
         ⟨some 27, .mov (.t 28), none⟩])
      (.cond (.t 27)
       (.seq (.reg [⟨some 8, .mov (.k (.int .i64 2)), none⟩])
        (.ret))
       (.seq (.reg [⟨some 30, .bin .eql (.t 26) (.k (.int .i64 2)), none⟩,
           ⟨some 29, .mov (.t 30), none⟩])
        (.cond (.t 29)
         (.seq (.dreg [false, false, false, false, false, false, false, false, true, true] [⟨some 31, .faddr 0 (.t 4), none⟩,
             ⟨some 32, .load 1 false (.t 31), none⟩,
             ⟨some 33, .mov (.t 2), none⟩,
             ⟨some 34, .iaddr 4 (.t 32) (.t 33), none⟩,
             ⟨some 35, .faddr 0 (.t 34), none⟩,
             ⟨some 36, .load 1 false (.t 35), none⟩,
             ⟨some 37, .faddr 1 (.t 5), none⟩,
             ⟨some 38, .load 1 false (.t 37), none⟩,
             ⟨some 39, .call 228 [(.t 36), (.t 38)], none⟩,
             ⟨some 8, .mov (.t 39), none⟩])
          (.ret))
         (.seq (.reg [⟨some 41, .bin .eql (.t 26) (.k (.int .i64 3)), none⟩,
             ⟨some 40, .mov (.t 41), none⟩])
          (.cond (.t 40)
           (.seq (.dreg [false, false, false, false, false, false, false, false, true, true] [⟨some 42, .faddr 0 (.t 4), none⟩,
               ⟨some 43, .load 1 false (.t 42), none⟩,
               ⟨some 44, .mov (.t 2), none⟩,
               ⟨some 45, .iaddr 4 (.t 43) (.t 44), none⟩,
               ⟨some 46, .faddr 1 (.t 45), none⟩,
               ⟨some 47, .load 1 false (.t 46), none⟩,
               ⟨some 48, .faddr 1 (.t 5), none⟩,
               ⟨some 49, .load 1 false (.t 48), none⟩,
               ⟨some 50, .call 228 [(.t 47), (.t 49)], none⟩,
               ⟨some 8, .mov (.t 50), none⟩])
            (.ret))
           (.seq (.reg [⟨some 52, .bin .eql (.t 26) (.k (.int .i64 4)), none⟩,
               ⟨some 51, .mov (.t 52), none⟩])
            (.cond (.t 51)
             (.seq (.reg [⟨some 53, .faddr 0 (.t 4), none⟩,
                 ⟨some 54, .load 1 false (.t 53), none⟩,
                 ⟨some 55, .mov (.t 2), none⟩,
                 ⟨some 56, .iaddr 4 (.t 54) (.t 55), none⟩,
                 ⟨some 57, .faddr 2 (.t 56), none⟩,
                 ⟨some 58, .load 1 false (.t 57), none⟩,
                 ⟨some 59, .call 229 [(.t 58)], none⟩,
                 ⟨some 8, .mov (.t 59), none⟩])
              (.ret))
             (.seq (.reg [⟨some 61, .bin .eql (.t 26) (.k (.int .i64 5)), none⟩,
                 ⟨some 60, .mov (.t 61), none⟩])
              (.cond (.t 60)
               (.seq (.reg [⟨some 62, .load 2 true (.t 4), none⟩,
                   ⟨some 63, .mov (.t 2), none⟩,
                   ⟨some 64, .mov (.t 3), none⟩,
                   ⟨some 65, .call 122 [(.t 62), (.t 63), (.t 64)], none⟩,
                   ⟨some 66, .call 229 [(.t 65)], none⟩,
                   ⟨some 8, .mov (.t 66), none⟩])
                (.ret))
               (.seq (.reg [⟨some 68, .bin .eql (.t 26) (.k (.int .i64 6)), none⟩,
                   ⟨some 67, .mov (.t 68), none⟩])
                (.cond (.t 67)
                 (.seq (.seq (.reg [⟨some 69, .mov (.t 2), none⟩,
                      ⟨some 70, .mov (.t 3), none⟩,
                      ⟨some 71, .bin .neq (.t 69) (.t 70), none⟩])
                   (.cond (.t 71)
                    (.seq (.reg [⟨some 8, .mov (.k (.int .i64 0)), none⟩])
                     (.ret))
                    (.skip)))
                  (.seq (.reg [⟨some 72, .load 2 true (.t 4), none⟩,
                      ⟨some 73, .mov (.t 2), none⟩,
                      ⟨some 74, .call 230 [(.t 72), (.t 73)], none⟩,
                      ⟨some 8, .mov (.t 74), none⟩])
                   (.ret)))
                 (.skip)))))))))))))))
   (.seq (.reg [⟨some 75, .load 2 true (.t 4), none⟩,
       ⟨some 76, .mov (.t 2), none⟩,
       ⟨some 77, .mov (.t 3), none⟩,
       ⟨some 78, .call 231 [(.t 75), (.t 76), (.t 77)], none⟩,
       ⟨some 8, .mov (.t 78), none⟩])
    (.ret))))⟩
theorem fok_impl_evalPlain : FOk Try.prog 219 code_impl_evalPlain := fok Try.func219 (by kernel_rfl)
@[simp] noncomputable def ct_pPathR (R : Strc → Prop) : Ct := ⟨231, Strc × Int × Int, fun x => R x.1 ∧ szStrc x.1 ≤ 1048576, fun x => [encStrc x.1, .int .i64 x.2.1, .int .i64 x.2.2], fun x => .int .i64 (pathT x.1 x.2.1 x.2.2)⟩
@[simp] noncomputable def ct_evalPlain (R : Strc → Prop) : Ct := ⟨219, Strc × Fm × Int × Int, fun x => szStrc x.1 ≤ 1048576 ∧ (1 ≤ x.2.1.kind ∧ x.2.1.kind ≤ 7) ∧ (x.2.2.1 = -1 ∨ inN x.1 x.2.2.1) ∧ (x.2.2.2 = -1 ∨ inN x.1 x.2.2.2) ∧ (R x.1 ∨ x.2.1.kind ≠ 7),
  fun x => [encStrc x.1, encFm x.2.1, .int .i64 x.2.2.1, .int .i64 x.2.2.2], fun x => .int .i64 (plainT x.1 x.2.1 x.2.2.1 x.2.2.2)⟩
set_option maxHeartbeats 2000000 in
set_option maxRecDepth 100000 in
theorem ok_evalPlain {R : Strc → Prop} (hP : (ct_pPathR R).Ok Try.prog) : (ct_evalPlain R).Ok Try.prog := by
  rintro ⟨s, ⟨kind, k, u, v, args⟩, i, j⟩ ⟨hs, hk, hi, hj, hR⟩
  change szStrc s ≤ 1048576 at hs
  change 1 ≤ kind ∧ kind ≤ 7 at hk
  change i = -1 ∨ inN s i at hi
  change j = -1 ∨ inN s j at hj
  change R s ∨ kind ≠ 7 at hR
  have hT : TabOk Try.prog _ := tab_cons ok_usesU (tab_cons ok_usesV (tab_cons ok_element (tab_cons ok_known (tab_cons ok_pNextOf (tab_cons ok_sameNode (tab_cons hP tab_nil))))))
  have hI : inN s i → 0 ≤ i ∧ ¬ i < 0 ∧ i < s.nodes.length ∧ i.toNat < s.nodes.length := fun h => by unfold inN at h; omega
  have hJ : inN s j → ¬ j < 0 := fun h => by unfold inN at h; omega
  have hv : inN s i → (nodeI s i).vars.length ≤ 1048576 ∧ (nodeI s i).reach.length ≤ 1048576 := fun h => by
    have h1 := node_le (x := s) (n := nodeI s i) (by rw [nodeI_get (hI h).2.2.2]; exact List.getElem_mem _)
    omega
  rcases hi with rfl | hi
  · obtain rfl | rfl | rfl | rfl | rfl | rfl | rfl : kind = 1 ∨ kind = 2 ∨ kind = 3 ∨ kind = 4 ∨ kind = 5 ∨ kind = 6 ∨ kind = 7 := by omega
    all_goals (refine Ok.of_cw fok_impl_evalPlain ?_; simp only [code_impl_evalPlain, frame, List.length_cons, List.length_nil, List.replicate, Nat.reduceSub, Nat.reduceAdd, List.cons_append, List.nil_append]; refine cw_seq (go_ok hT ?_); simp; refine cw_seq (go_ok hT ?_); simp [useU, useV, plainT, oneT, twoT, knownT, isTruth]; try (refine cw_seq (go_ok hT ?_); simp [plainT, oneT, twoT, knownT, isTruth]; try (refine go_ok hT ?_; simp [plainT, oneT, twoT, knownT, isTruth])))
  · obtain ⟨i0, i1, i2, i3⟩ := hI hi
    obtain ⟨v1, v2⟩ := hv hi
    have e := nodeI_get i3
    rw [e] at v1 v2
    by_cases hk4 : kind ≤ 4
    · obtain rfl | rfl | rfl | rfl : kind = 1 ∨ kind = 2 ∨ kind = 3 ∨ kind = 4 := by omega
      all_goals (refine Ok.of_cw fok_impl_evalPlain ?_; simp only [code_impl_evalPlain, frame, List.length_cons, List.length_nil, List.replicate, Nat.reduceSub, Nat.reduceAdd, List.cons_append, List.nil_append]; refine cw_seq (go_ok hT ?_); simp; refine cw_seq (go_ok hT ?_); simp [useU, useV, plainT, oneT, i0, i1, i2, i3, e, v1, v2]; try (refine cw_seq (go_ok hT ?_); simp [plainT, oneT, i0, i1, i2, i3, e, v1, v2]; try (refine go_ok hT ?_; simp [plainT, oneT, i0, i1, i2, i3, e, v1, v2])))
    · rcases hj with rfl | hj
      · obtain rfl | rfl | rfl : kind = 5 ∨ kind = 6 ∨ kind = 7 := by omega
        all_goals (refine Ok.of_cw fok_impl_evalPlain ?_; simp only [code_impl_evalPlain, frame, List.length_cons, List.length_nil, List.replicate, Nat.reduceSub, Nat.reduceAdd, List.cons_append, List.nil_append]; refine cw_seq (go_ok hT ?_); simp; refine cw_seq (go_ok hT ?_); simp [useU, useV, plainT, twoT, knownT, isTruth, i0, i1, i2, i3]; try (refine cw_seq (go_ok hT ?_); simp [plainT, twoT, knownT, isTruth, i0, i1, i2, i3]; try (refine go_ok hT ?_; simp [plainT, twoT, knownT, isTruth, i0, i1, i2, i3])))
      · have j1 := hJ hj
        have ks : knownT (sameT s i) = sameT s i := knownT_of (by unfold sameT; split <;> simp [isTruth])
        have kp : knownT (pathT s i j) = pathT s i j := knownT_of (pathT_truth _ _ _)
        have k0 : knownT 0 = 0 := by simp [knownT, isTruth]
        obtain rfl | rfl | rfl : kind = 5 ∨ kind = 6 ∨ kind = 7 := by omega
        · (refine Ok.of_cw fok_impl_evalPlain ?_; simp only [code_impl_evalPlain, frame, List.length_cons, List.length_nil, List.replicate, Nat.reduceSub, Nat.reduceAdd, List.cons_append, List.nil_append]; refine cw_seq (go_ok hT ?_); simp; refine cw_seq (go_ok hT ?_); simp [useU, useV, plainT, twoT, i0, i1, i2, i3, j1, hs]; try (refine cw_seq (go_ok hT ?_); simp [plainT, twoT, i0, i1, i2, i3, j1, hs]; try (refine go_ok hT ?_; simp [plainT, twoT, i0, i1, i2, i3, j1, hs])))
        · by_cases hij : i = j
          · subst hij
            (refine Ok.of_cw fok_impl_evalPlain ?_; simp only [code_impl_evalPlain, frame, List.length_cons, List.length_nil, List.replicate, Nat.reduceSub, Nat.reduceAdd, List.cons_append, List.nil_append]; refine cw_seq (go_ok hT ?_); simp; refine cw_seq (go_ok hT ?_); simp [useU, useV, plainT, twoT, i0, i1, i2, i3, j1, hs, ks, hi]; try (refine cw_seq (go_ok hT ?_); simp [plainT, twoT, i0, i1, i2, i3, j1, hs, ks, hi]; try (refine go_ok hT ?_; simp [plainT, twoT, i0, i1, i2, i3, j1, hs, ks, hi])))
          · (refine Ok.of_cw fok_impl_evalPlain ?_; simp only [code_impl_evalPlain, frame, List.length_cons, List.length_nil, List.replicate, Nat.reduceSub, Nat.reduceAdd, List.cons_append, List.nil_append]; refine cw_seq (go_ok hT ?_); simp; refine cw_seq (go_ok hT ?_); simp [useU, useV, plainT, twoT, i0, i1, i2, i3, j1, hs, hij, k0]; try (refine cw_seq (go_ok hT ?_); simp [plainT, twoT, i0, i1, i2, i3, j1, hs, hij, k0]; try (refine go_ok hT ?_; simp [plainT, twoT, i0, i1, i2, i3, j1, hs, hij, k0])))
        · have hRs : R s := by rcases hR with h | h; exact h; exact absurd rfl h
          (refine Ok.of_cw fok_impl_evalPlain ?_; simp only [code_impl_evalPlain, frame, List.length_cons, List.length_nil, List.replicate, Nat.reduceSub, Nat.reduceAdd, List.cons_append, List.nil_append]; refine cw_seq (go_ok hT ?_); simp; refine cw_seq (go_ok hT ?_); simp [useU, useV, plainT, twoT, i0, i1, i2, i3, j1, hs, kp, hRs]; try (refine cw_seq (go_ok hT ?_); simp [plainT, twoT, i0, i1, i2, i3, j1, hs, kp, hRs]; try (refine go_ok hT ?_; simp [plainT, twoT, i0, i1, i2, i3, j1, hs, kp, hRs])))
end Go.Vm
