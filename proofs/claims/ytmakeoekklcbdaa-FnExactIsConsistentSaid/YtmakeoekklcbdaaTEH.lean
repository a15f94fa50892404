/- Formulas evaluated by the program: all formulas. No condition. -/
import Derived.Test.YtmakeoekklcbdaaTEG
set_option linter.unusedSimpArgs false
set_option linter.unusedVariables false
namespace Go.Vm
open Go.Proofs
theorem mset (l : List Int) (k : Nat) (v : Int) : (l.map encInt).set k (.int .i64 v) = (l.set k v).map encInt := by rw [List.map_set]; rfl
def code_impl_EvalFormula : F := ⟨121, [.tmp 6],
 .seq (.reg [⟨some 3, .box (.t 0), none⟩,
    ⟨some 4, .box (.t 1), none⟩,
    ⟨some 6, .mov (.k (.int .i64 0)), none⟩])
 (.seq (.seq (.dreg [false, false, false, false, false, false, true, true, true, true, true, true, true, true, true, true, true, true] [⟨some 11, .faddr 0 (.t 4), none⟩,
      ⟨some 12, .load 1 false (.t 11), none⟩,
      ⟨some 13, .call 217 [(.t 12)], none⟩,
      ⟨some 14, .faddr 4 (.t 4), none⟩,
      ⟨some 15, .load 1 false (.t 14), none⟩,
      ⟨some 16, .len (.t 15), none⟩,
      ⟨some 17, .bin .neq (.t 13) (.t 16), none⟩,
      ⟨some 18, .mov (.t 17), none⟩,
      ⟨some 19, .faddr 0 (.t 4), some (18, false)⟩,
      ⟨some 20, .load 1 false (.t 19), some (18, false)⟩,
      ⟨some 21, .call 218 [(.t 20)], some (18, false)⟩,
      ⟨some 22, .mov (.t 21), some (18, false)⟩,
      ⟨some 23, .faddr 2 (.t 4), some (22, true)⟩,
      ⟨some 24, .load 1 false (.t 23), some (22, true)⟩,
      ⟨some 25, .call 82 [(.t 24), (.k (.int .i64 0)), (.k (.int .i64 3))], some (22, true)⟩,
      ⟨some 26, .not (.t 25), some (22, true)⟩,
      ⟨some 27, .pick (.t 22) (.t 26) (.k (.bool false)), some (18, false)⟩,
      ⟨some 28, .pick (.t 18) (.k (.bool true)) (.t 27), none⟩])
   (.cond (.t 28)
    (.seq (.reg [⟨some 6, .mov (.k (.int .i64 1)), none⟩])
     (.ret))
    (.skip)))
  (.seq (.seq (.reg [⟨some 29, .faddr 0 (.t 4), none⟩,
       ⟨some 30, .load 1 false (.t 29), none⟩])
    (.block 0 (.seq (.reg [⟨some 32, .bin .eql (.t 30) (.k (.int .i64 8)), none⟩,
         ⟨some 31, .mov (.t 32), none⟩])
      (.cond (.t 31)
       (.seq (.dreg [false, false, false, false, false, false, true, true, true] [⟨some 33, .load 2 true (.t 3), none⟩,
           ⟨some 34, .faddr 4 (.t 4), none⟩,
           ⟨some 35, .load 1 false (.t 34), none⟩,
           ⟨some 36, .iaddr 5 (.t 35) (.k (.int .i64 0)), none⟩,
           ⟨some 37, .load 5 true (.t 36), none⟩,
           ⟨some 38, .mov (.t 2), none⟩,
           ⟨some 39, .call 190 [(.t 33), (.t 37), (.t 38)], none⟩,
           ⟨some 40, .call 130 [(.t 39)], none⟩,
           ⟨some 6, .mov (.t 40), none⟩])
        (.ret))
       (.seq (.reg [⟨some 42, .bin .eql (.t 30) (.k (.int .i64 9)), none⟩,
           ⟨some 41, .mov (.t 42), none⟩])
        (.cond (.t 41)
         (.seq (.dreg [false, false, false, false, false, false, false, false, false, false, false, false, false, true, true, true] [⟨some 43, .load 2 true (.t 3), none⟩,
             ⟨some 44, .faddr 4 (.t 4), none⟩,
             ⟨some 45, .load 1 false (.t 44), none⟩,
             ⟨some 46, .iaddr 5 (.t 45) (.k (.int .i64 0)), none⟩,
             ⟨some 47, .load 5 true (.t 46), none⟩,
             ⟨some 48, .mov (.t 2), none⟩,
             ⟨some 49, .call 190 [(.t 43), (.t 47), (.t 48)], none⟩,
             ⟨some 50, .load 2 true (.t 3), none⟩,
             ⟨some 51, .faddr 4 (.t 4), none⟩,
             ⟨some 52, .load 1 false (.t 51), none⟩,
             ⟨some 53, .iaddr 5 (.t 52) (.k (.int .i64 1)), none⟩,
             ⟨some 54, .load 5 true (.t 53), none⟩,
             ⟨some 55, .mov (.t 2), none⟩,
             ⟨some 56, .call 190 [(.t 50), (.t 54), (.t 55)], none⟩,
             ⟨some 57, .call 198 [(.t 49), (.t 56)], none⟩,
             ⟨some 6, .mov (.t 57), none⟩])
          (.ret))
         (.seq (.reg [⟨some 59, .bin .eql (.t 30) (.k (.int .i64 10)), none⟩,
             ⟨some 58, .mov (.t 59), none⟩])
          (.cond (.t 58)
           (.seq (.dreg [false, false, false, false, false, false, false, false, false, false, false, false, false, true, true, true] [⟨some 60, .load 2 true (.t 3), none⟩,
               ⟨some 61, .faddr 4 (.t 4), none⟩,
               ⟨some 62, .load 1 false (.t 61), none⟩,
               ⟨some 63, .iaddr 5 (.t 62) (.k (.int .i64 0)), none⟩,
               ⟨some 64, .load 5 true (.t 63), none⟩,
               ⟨some 65, .mov (.t 2), none⟩,
               ⟨some 66, .call 190 [(.t 60), (.t 64), (.t 65)], none⟩,
               ⟨some 67, .load 2 true (.t 3), none⟩,
               ⟨some 68, .faddr 4 (.t 4), none⟩,
               ⟨some 69, .load 1 false (.t 68), none⟩,
               ⟨some 70, .iaddr 5 (.t 69) (.k (.int .i64 1)), none⟩,
               ⟨some 71, .load 5 true (.t 70), none⟩,
               ⟨some 72, .mov (.t 2), none⟩,
               ⟨some 73, .call 190 [(.t 67), (.t 71), (.t 72)], none⟩,
               ⟨some 74, .call 123 [(.t 66), (.t 73)], none⟩,
               ⟨some 6, .mov (.t 74), none⟩])
            (.ret))
           (.seq (.seq (.reg [⟨some 76, .bin .eql (.t 30) (.k (.int .i64 11)), none⟩,
                ⟨some 75, .mov (.t 76), none⟩])
             (.cond (.t 75)
              (.skip)
              (.reg [⟨some 77, .bin .eql (.t 30) (.k (.int .i64 12)), none⟩,
                 ⟨some 75, .mov (.t 77), none⟩])))
            (.cond (.t 75)
             (.seq (.reg [⟨some 78, .bsl 3 1 4 (.int .i64 0) [(0, (.k (.int .i64 (-1)))), (1, (.k (.int .i64 (-1)))), (2, (.k (.int .i64 (-1)))), (3, (.k (.int .i64 (-1))))], none⟩,
                 ⟨some 7, .mov (.t 78), none⟩])
              (.seq (.reg [⟨some 79, .mov (.t 7), none⟩,
                  ⟨some 80, .mov (.t 2), none⟩,
                  ⟨some 81, .copy (.t 79) (.t 80), none⟩])
               (.seq (.reg [⟨some 8, .mov (.k (.int .i64 0)), none⟩,
                   ⟨some 9, .mov (.k (.fn 123 [])), none⟩])
                (.seq (.seq (.reg [⟨some 82, .faddr 0 (.t 4), none⟩,
                     ⟨some 83, .load 1 false (.t 82), none⟩,
                     ⟨some 84, .bin .eql (.t 83) (.k (.int .i64 12)), none⟩])
                  (.cond (.t 84)
                   (.reg [⟨some 8, .mov (.k (.int .i64 2)), none⟩,
                      ⟨some 9, .mov (.k (.fn 198 [])), none⟩])
                   (.skip)))
                 (.seq (.seq (.reg [⟨some 85, .faddr 0 (.t 3), none⟩,
                      ⟨some 86, .load 1 false (.t 85), none⟩,
                      ⟨some 87, .len (.t 86), none⟩,
                      ⟨some 88, .mov (.k (.int .i64 0)), none⟩])
                   (.block 1 (.loop (.seq (.reg [⟨some 89, .bin .lss (.t 88) (.t 87), none⟩])
                      (.seq (.cond (.t 89)
                        (.skip)
                        (.exit 1))
                       (.seq (.block 2 (.seq (.reg [⟨some 90, .mov (.t 88), none⟩,
                             ⟨some 10, .mov (.t 90), none⟩])
                          (.seq (.reg [⟨some 91, .mov (.t 7), none⟩,
                              ⟨some 92, .faddr 2 (.t 4), none⟩,
                              ⟨some 93, .load 1 false (.t 92), none⟩,
                              ⟨some 94, .mov (.t 10), none⟩,
                              ⟨some 95, .iaddr 1 (.t 91) (.t 93), none⟩,
                              ⟨none, .store 1 (.t 95) (.t 94), none⟩])
                           (.dreg [false, false, false, false, false, false, false, false, false, true, true] [⟨some 96, .mov (.t 9), none⟩,
                              ⟨some 97, .mov (.t 8), none⟩,
                              ⟨some 98, .load 2 true (.t 3), none⟩,
                              ⟨some 99, .faddr 4 (.t 4), none⟩,
                              ⟨some 100, .load 1 false (.t 99), none⟩,
                              ⟨some 101, .iaddr 5 (.t 100) (.k (.int .i64 0)), none⟩,
                              ⟨some 102, .load 5 true (.t 101), none⟩,
                              ⟨some 103, .mov (.t 7), none⟩,
                              ⟨some 104, .call 190 [(.t 98), (.t 102), (.t 103)], none⟩,
                              ⟨some 105, .callv (.t 96) [(.t 97), (.t 104)], none⟩,
                              ⟨some 8, .mov (.t 105), none⟩]))))
                        (.reg [⟨some 106, .bin .add (.t 88) (.k (.int .i64 1)), none⟩,
                           ⟨some 88, .mov (.t 106), none⟩])))))))
                  (.seq (.reg [⟨some 107, .mov (.t 8), none⟩,
                      ⟨some 6, .mov (.t 107), none⟩])
                   (.ret)))))))
             (.skip)))))))))))
   (.seq (.dreg [false, false, false, false, false, false, false, false, false, false, false, false, true, true] [⟨some 108, .load 2 true (.t 3), none⟩,
       ⟨some 109, .load 5 true (.t 4), none⟩,
       ⟨some 110, .load 2 true (.t 3), none⟩,
       ⟨some 111, .mov (.t 2), none⟩,
       ⟨some 112, .faddr 2 (.t 4), none⟩,
       ⟨some 113, .load 1 false (.t 112), none⟩,
       ⟨some 114, .call 220 [(.t 110), (.t 111), (.t 113)], none⟩,
       ⟨some 115, .load 2 true (.t 3), none⟩,
       ⟨some 116, .mov (.t 2), none⟩,
       ⟨some 117, .faddr 3 (.t 4), none⟩,
       ⟨some 118, .load 1 false (.t 117), none⟩,
       ⟨some 119, .call 220 [(.t 115), (.t 116), (.t 118)], none⟩,
       ⟨some 120, .call 219 [(.t 108), (.t 109), (.t 114), (.t 119)], none⟩,
       ⟨some 6, .mov (.t 120), none⟩])
    (.ret))))⟩
theorem fok_impl_EvalFormula : FOk Try.prog 190 code_impl_EvalFormula := fok Try.func190 (by kernel_rfl)
def code_impl_HoldsIn : F := ⟨8, [.tmp 4],
 .seq (.reg [⟨some 2, .box (.t 0), none⟩,
    ⟨some 3, .box (.t 1), none⟩,
    ⟨some 4, .mov (.k (.int .i64 0)), none⟩])
 (.seq (.reg [⟨some 5, .load 2 true (.t 2), none⟩,
     ⟨some 6, .load 5 true (.t 3), none⟩,
     ⟨some 7, .call 190 [(.t 5), (.t 6), (.k (.sl .nil 0 []))], none⟩,
     ⟨some 4, .mov (.t 7), none⟩])
  (.ret))⟩
theorem fok_impl_HoldsIn : FOk Try.prog 118 code_impl_HoldsIn := fok Try.func118 (by kernel_rfl)
@[simp] noncomputable def ct_pEvalN (R : Strc → Prop) (n : Nat) : Ct := ⟨190, Strc × Fm × List Int, fun x => szStrc x.1 ≤ 1048576 ∧ x.2.2.length ≤ 1048576 ∧ x.2.1.size ≤ n ∧ (R x.1 ∨ noPathF x.2.1 = true),
  fun x => [encStrc x.1, encFm x.2.1, encL 1 encInt x.2.2], fun x => .int .i64 (evalN x.1 n x.2.1 x.2.2)⟩
set_option maxHeartbeats 8000000 in
set_option maxRecDepth 100000 in
theorem ok_pEvalN {R : Strc → Prop} (hP : (ct_pPathR R).Ok Try.prog) : ∀ n, (ct_pEvalN R n).Ok Try.prog
  | 0 => by rintro ⟨s, f, nodes⟩ ⟨_, _, h, _⟩; change f.size ≤ 0 at h; rw [size_eq] at h; omega
  | n + 1 => by
    have ih := ok_pEvalN hP n
    rintro ⟨s, ⟨kind, k, u, v, args⟩, nodes⟩ ⟨hs, hl, hz, hR⟩
    change szStrc s ≤ 1048576 at hs
    change nodes.length ≤ 1048576 at hl
    change (Fm.mk kind k u v args).size ≤ n + 1 at hz
    change R s ∨ noPathF (.mk kind k u v args) = true at hR
    have hs2 := strc_le s
    simp only [Fm.size] at hz
    simp only [noPathF, Bool.and_eq_true, decide_eq_true_eq] at hR
    have hT : TabOk Try.prog _ := tab_cons ok_pArityOf (tab_cons ok_isBinder (tab_cons ok_within (tab_cons ok_pNotOf (tab_cons ok_pAndOf (tab_cons ok_pOrOf (tab_cons ok_place (tab_cons (ok_evalPlain hP) (tab_cons ih tab_nil))))))))
    refine Ok.of_cw fok_impl_EvalFormula ?_
    simp only [code_impl_EvalFormula, frame, List.length_cons, List.length_nil, List.replicate, Nat.reduceSub, Nat.reduceAdd, List.cons_append, List.nil_append]
    refine cw_seq (go_ok hT ?_)
    simp
    refine cw_seq (go_ok hT ?_)
    have hN1 := nodeOf_or s nodes u
    have hN2 := nodeOf_or s nodes v
    by_cases har : arity kind = (args.length : Int)
    case neg => simp [evalN, har]
    rcases arity_cases har with ⟨k1, k7, ha⟩ | ⟨rfl, ha⟩ | ⟨rfl, ha⟩ | ⟨rfl, ha⟩ | ⟨rfl, ha⟩ | ⟨rfl, ha⟩
    · have ha0 : args = [] := List.eq_nil_of_length_eq_zero ha
      subst ha0
      have hR2 : R s ∨ kind ≠ 7 := hR.imp id (·.1)
      have n8 : ¬ kind = 8 := by omega
      have n9 : ¬ kind = 9 := by omega
      have n10 : ¬ kind = 10 := by omega
      have n11 : ¬ kind = 11 := by omega
      have n12 : ¬ kind = 12 := by omega
      have hE : evalN s (n + 1) (.mk kind k u v []) nodes = plainT s (.mk kind k u v []) (nodeOf s nodes u) (nodeOf s nodes v) := by simp [evalN, har, n8, n9, n10, n11, n12]
      rw [hE]
      have har' : arity kind = 0 := by simpa using har
      simp [har', binder, n11, n12]
      refine cw_seq (go_ok hT ?_)
      simp [n8, n9, n10, n11, n12]
      refine go_ok hT ?_
      simp [hs, hl, hN1, hN2, encFm_agg0, k1, k7]
      simpa using hR2
    · obtain ⟨x, rfl⟩ := List.length_eq_one_iff.1 ha
      simp only [sizes] at hz
      have hx : x.size ≤ n := by omega
      have hRx : R s ∨ noPathF x = true := hR.imp id (fun h => by have := h.2; simp only [noPathS, Bool.and_eq_true] at this; exact this.1)
      simp [har, binder]
      refine cw_seq (go_ok hT ?_)
      simp [evalN, har, hs, hl, fget, hx, hRx]
    · obtain ⟨x, y, rfl⟩ := two_of ha
      simp only [sizes] at hz
      have hx : x.size ≤ n := by omega
      have hy : y.size ≤ n := by omega
      have hRx : R s ∨ noPathF x = true := hR.imp id (fun h => by have := h.2; simp only [noPathS, Bool.and_eq_true] at this; exact this.1)
      have hRy : R s ∨ noPathF y = true := hR.imp id (fun h => by have := h.2; simp only [noPathS, Bool.and_eq_true] at this; exact this.2.1)
      simp [har, binder]
      refine cw_seq (go_ok hT ?_)
      simp [evalN, har, hs, hl, fget, hx, hy, hRx, hRy]
    · obtain ⟨x, y, rfl⟩ := two_of ha
      simp only [sizes] at hz
      have hx : x.size ≤ n := by omega
      have hy : y.size ≤ n := by omega
      have hRx : R s ∨ noPathF x = true := hR.imp id (fun h => by have := h.2; simp only [noPathS, Bool.and_eq_true] at this; exact this.1)
      have hRy : R s ∨ noPathF y = true := hR.imp id (fun h => by have := h.2; simp only [noPathS, Bool.and_eq_true] at this; exact this.2.1)
      simp [har, binder]
      refine cw_seq (go_ok hT ?_)
      simp [evalN, har, hs, hl, fget, hx, hy, hRx, hRy]
    · obtain ⟨x, rfl⟩ := List.length_eq_one_iff.1 ha
      simp only [sizes] at hz
      have hx : x.size ≤ n := by omega
      have hRx : R s ∨ noPathF x = true := hR.imp id (fun h => by have := h.2; simp only [noPathS, Bool.and_eq_true] at this; exact this.1)
      have hc : callable Try.prog 123 = true := by kernel_rfl
      by_cases u0 : 0 ≤ u
      case neg => simp [evalN, har, binder, u0]
      by_cases u3 : u ≤ 3
      case neg =>
        have u3' : 3 < u := by omega
        simp [evalN, har, binder, u0, u3, u3']
      have hu4 : u.toNat < 4 := by omega
      have hu5 : u < 4 := by omega
      have u3' : ¬ 3 < u := by omega
      have hE : evalN s (n + 1) (.mk 11 k u v [x]) nodes = overT false s.nodes.length (fun i => evalN s n x ((pad4 nodes).set u.toNat (i : Nat))) := by
        simp [evalN, har, u0, u3, fget]
      rw [hE]
      simp [har, binder, u0, u3, u3']
      refine cw_seq (go_ok hT ?_)
      simp [copyK_stepK]
      rw [← pad4_map]
      refine cw_round (fun (p : Nat × List Int) => ⟨slots 121 [(3, .pbox 0 0), (4, .pbox 1 0), (7, .slref 2 0 4 4), (8, .int .i64 (overT false p.1 (fun i => evalN s n x ((pad4 nodes).set u.toNat (i : Nat))))), (9, .fn 123 []), (87, .int .i64 s.nodes.length), (88, .int .i64 p.1)], [.cells [encL 4 encNode s.nodes, encL 1 encInt s.next], .cells [.int .i64 11, .int .i64 k, .int .i64 u, .int .i64 v, encL 5 encFm [x]], .row true 3 1 (p.2.map encInt)]⟩)
        (fun p => p.1 ≤ s.nodes.length ∧ p.2.length = 4 ∧ ∀ a, p.2.set u.toNat a = (pad4 nodes).set u.toNat a) (fun p => s.nodes.length - p.1) (0, pad4 nodes) ⟨by simp, by simp, fun _ => rfl⟩ ?_ ?_
      · refine weak_seal 3 (by simp) ?_ ?_
        · simp
        · simp [List.replicate, overT_zero]
      · rintro N hN ⟨i, l⟩ ⟨hi, hl4, hset⟩
        change i ≤ s.nodes.length at hi
        change l.length = 4 at hl4
        have hw : IntKind.i64.wrap ((i : Int) + 1) = ((i + 1 : Nat) : Int) := by rw [wrap_i64] <;> omega
        have ht : ∀ a, List.take 4 (List.map encInt (l.set u.toNat a)) = List.map encInt (l.set u.toNat a) := fun a => List.take_of_length_le (by simp [hl4])
        refine go_ok hT ?_
        by_cases g : i < s.nodes.length
        · have g2 : ¬ s.nodes.length ≤ i := by omega
          simp [List.replicate, hw, g, g2, hc, hu4, hu5, u0, hl4, hs, hx, hRx, mset, ht, -List.map_set]
          refine hN (i, l) (i + 1, (pad4 nodes).set u.toNat (i : Nat)) _ ⟨by simp; omega, by simp, by simp⟩ (by simp; omega) (weak_seal 3 (by simp) ?_ ?_)
          · have h1 := hset (i : Int)
            simp [mset, -List.map_set, ← h1]
          · have h1 := hset (i : Int)
            simp [List.replicate, overT_succ, overOp, ← h1]
        · have e : i = s.nodes.length := by omega
          subst e
          simp [List.replicate]
    · obtain ⟨x, rfl⟩ := List.length_eq_one_iff.1 ha
      simp only [sizes] at hz
      have hx : x.size ≤ n := by omega
      have hRx : R s ∨ noPathF x = true := hR.imp id (fun h => by have := h.2; simp only [noPathS, Bool.and_eq_true] at this; exact this.1)
      have hc : callable Try.prog 198 = true := by kernel_rfl
      by_cases u0 : 0 ≤ u
      case neg => simp [evalN, har, binder, u0]
      by_cases u3 : u ≤ 3
      case neg =>
        have u3' : 3 < u := by omega
        simp [evalN, har, binder, u0, u3, u3']
      have hu4 : u.toNat < 4 := by omega
      have hu5 : u < 4 := by omega
      have u3' : ¬ 3 < u := by omega
      have hE : evalN s (n + 1) (.mk 12 k u v [x]) nodes = overT true s.nodes.length (fun i => evalN s n x ((pad4 nodes).set u.toNat (i : Nat))) := by
        simp [evalN, har, u0, u3, fget]
      rw [hE]
      simp [har, binder, u0, u3, u3']
      refine cw_seq (go_ok hT ?_)
      simp [copyK_stepK]
      rw [← pad4_map]
      refine cw_round (fun (p : Nat × List Int) => ⟨slots 121 [(3, .pbox 0 0), (4, .pbox 1 0), (7, .slref 2 0 4 4), (8, .int .i64 (overT true p.1 (fun i => evalN s n x ((pad4 nodes).set u.toNat (i : Nat))))), (9, .fn 198 []), (87, .int .i64 s.nodes.length), (88, .int .i64 p.1)], [.cells [encL 4 encNode s.nodes, encL 1 encInt s.next], .cells [.int .i64 12, .int .i64 k, .int .i64 u, .int .i64 v, encL 5 encFm [x]], .row true 3 1 (p.2.map encInt)]⟩)
        (fun p => p.1 ≤ s.nodes.length ∧ p.2.length = 4 ∧ ∀ a, p.2.set u.toNat a = (pad4 nodes).set u.toNat a) (fun p => s.nodes.length - p.1) (0, pad4 nodes) ⟨by simp, by simp, fun _ => rfl⟩ ?_ ?_
      · refine weak_seal 3 (by simp) ?_ ?_
        · simp
        · simp [List.replicate, overT_zero]
      · rintro N hN ⟨i, l⟩ ⟨hi, hl4, hset⟩
        change i ≤ s.nodes.length at hi
        change l.length = 4 at hl4
        have hw : IntKind.i64.wrap ((i : Int) + 1) = ((i + 1 : Nat) : Int) := by rw [wrap_i64] <;> omega
        have ht : ∀ a, List.take 4 (List.map encInt (l.set u.toNat a)) = List.map encInt (l.set u.toNat a) := fun a => List.take_of_length_le (by simp [hl4])
        refine go_ok hT ?_
        by_cases g : i < s.nodes.length
        · have g2 : ¬ s.nodes.length ≤ i := by omega
          simp [List.replicate, hw, g, g2, hc, hu4, hu5, u0, hl4, hs, hx, hRx, mset, ht, -List.map_set]
          refine hN (i, l) (i + 1, (pad4 nodes).set u.toNat (i : Nat)) _ ⟨by simp; omega, by simp, by simp⟩ (by simp; omega) (weak_seal 3 (by simp) ?_ ?_)
          · have h1 := hset (i : Int)
            simp [mset, -List.map_set, ← h1]
          · have h1 := hset (i : Int)
            simp [List.replicate, overT_succ, overOp, ← h1]
        · have e : i = s.nodes.length := by omega
          subst e
          simp [List.replicate]
@[simp] noncomputable def ct_pEval (R : Strc → Prop) : Ct := ⟨190, Strc × Fm × List Int, fun x => szStrc x.1 ≤ 1048576 ∧ x.2.2.length ≤ 1048576 ∧ (R x.1 ∨ noPathF x.2.1 = true),
  fun x => [encStrc x.1, encFm x.2.1, encL 1 encInt x.2.2], fun x => .int .i64 (evalT x.1 x.2.1 x.2.2)⟩
theorem ok_pEval {R : Strc → Prop} (hP : (ct_pPathR R).Ok Try.prog) : (ct_pEval R).Ok Try.prog := fun x h => ok_pEvalN hP x.2.1.size x ⟨h.1, h.2.1, Nat.le_refl _, h.2.2⟩
@[simp] noncomputable def ct_pHolds (R : Strc → Prop) : Ct := ⟨118, Strc × Fm, fun x => szStrc x.1 ≤ 1048576 ∧ (R x.1 ∨ noPathF x.2 = true),
  fun x => [encStrc x.1, encFm x.2], fun x => .int .i64 (evalT x.1 x.2 [])⟩
theorem ok_pHolds {R : Strc → Prop} (hP : (ct_pPathR R).Ok Try.prog) : (ct_pHolds R).Ok Try.prog := by
  rintro ⟨s, f⟩ ⟨hs, hR⟩
  change szStrc s ≤ 1048576 at hs
  change R s ∨ noPathF f = true at hR
  refine Ok.of_cw fok_impl_HoldsIn (go_ok (tab_cons (ok_pEval hP) tab_nil) ?_)
  simp [code_impl_HoldsIn, List.replicate, hs, hR]
/-- Without paths. -/
theorem ok_noPath : (ct_pPathR (fun _ => False)).Ok Try.prog := fun _ h => h.1.elim
end Go.Vm
