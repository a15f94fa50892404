/- Consistency: the reference. No condition. -/
import Derived.Test.YtmakeoekklcbdaaTMC
set_option linter.unusedSimpArgs false
set_option linter.unusedVariables false
namespace Go.Vm
open Go.Proofs
def code_spec_l15Single : F := ⟨56, [.tmp 4],
 .seq (.reg [⟨some 3, .box (.t 1), none⟩,
    ⟨some 4, .mov (.k (.bool false)), none⟩])
 (.seq (.reg [⟨some 10, .faddr 0 (.t 3), none⟩,
     ⟨some 11, .load 1 false (.t 10), none⟩,
     ⟨some 12, .len (.t 11), none⟩,
     ⟨some 5, .mov (.t 12), none⟩])
  (.seq (.seq (.reg [⟨some 6, .mov (.k (.int .i64 0)), none⟩])
    (.block 0 (.loop (.seq (.seq (.reg [⟨some 13, .mov (.t 6), none⟩,
           ⟨some 14, .mov (.t 0), none⟩,
           ⟨some 15, .bin .lss (.t 13) (.t 14), none⟩])
        (.cond (.t 15)
         (.skip)
         (.exit 0)))
       (.seq (.block 1 (.seq (.reg [⟨some 7, .mov (.k (.int .i64 0)), none⟩])
          (.seq (.seq (.reg [⟨some 8, .mov (.k (.int .i64 0)), none⟩])
            (.block 2 (.loop (.seq (.seq (.reg [⟨some 18, .mov (.t 8), none⟩,
                   ⟨some 19, .mov (.t 5), none⟩,
                   ⟨some 20, .bin .lss (.t 18) (.t 19), none⟩])
                (.cond (.t 20)
                 (.skip)
                 (.exit 2)))
               (.seq (.block 3 (.reg [⟨some 23, .mov (.t 7), none⟩,
                    ⟨some 24, .faddr 0 (.t 3), none⟩,
                    ⟨some 25, .load 1 false (.t 24), none⟩,
                    ⟨some 26, .mov (.t 8), none⟩,
                    ⟨some 27, .iaddr 4 (.t 25) (.t 26), none⟩,
                    ⟨some 28, .faddr 0 (.t 27), none⟩,
                    ⟨some 29, .load 1 false (.t 28), none⟩,
                    ⟨some 30, .mov (.t 6), none⟩,
                    ⟨some 31, .iaddr 1 (.t 29) (.t 30), none⟩,
                    ⟨some 32, .load 1 false (.t 31), none⟩,
                    ⟨some 33, .bin .eql (.t 32) (.k (.int .i64 2)), none⟩,
                    ⟨some 34, .call 167 [(.t 33)], none⟩,
                    ⟨some 35, .bin .add (.t 23) (.t 34), none⟩,
                    ⟨some 7, .mov (.t 35), none⟩]))
                (.reg [⟨some 21, .mov (.t 8), none⟩,
                   ⟨some 22, .bin .add (.t 21) (.k (.int .i64 1)), none⟩,
                   ⟨some 8, .mov (.t 22), none⟩]))))))
           (.seq (.reg [⟨some 36, .mov (.t 7), none⟩,
               ⟨some 37, .bin .gtr (.t 36) (.k (.int .i64 1)), none⟩])
            (.cond (.t 37)
             (.seq (.reg [⟨some 4, .mov (.k (.bool false)), none⟩])
              (.ret))
             (.skip))))))
        (.reg [⟨some 16, .mov (.t 6), none⟩,
           ⟨some 17, .bin .add (.t 16) (.k (.int .i64 1)), none⟩,
           ⟨some 6, .mov (.t 17), none⟩]))))))
   (.seq (.seq (.reg [⟨some 9, .mov (.k (.int .i64 0)), none⟩])
     (.block 4 (.loop (.seq (.seq (.reg [⟨some 38, .mov (.t 9), none⟩,
            ⟨some 39, .mov (.t 5), none⟩,
            ⟨some 40, .bin .lss (.t 38) (.t 39), none⟩])
         (.cond (.t 40)
          (.skip)
          (.exit 4)))
        (.seq (.block 5 (.seq (.reg [⟨some 43, .faddr 1 (.t 3), none⟩,
              ⟨some 44, .load 1 false (.t 43), none⟩,
              ⟨some 45, .mov (.t 9), none⟩,
              ⟨some 46, .mov (.t 5), none⟩,
              ⟨some 47, .bin .mul (.t 45) (.t 46), none⟩,
              ⟨some 48, .mov (.t 9), none⟩,
              ⟨some 49, .bin .add (.t 48) (.k (.int .i64 1)), none⟩,
              ⟨some 50, .mov (.t 5), none⟩,
              ⟨some 51, .bin .mul (.t 49) (.t 50), none⟩,
              ⟨some 52, .slice 1 (.t 44) (some (.t 47)) (some (.t 51)), none⟩,
              ⟨some 53, .call 78 [(.t 52), (.k (.int .i64 2))], none⟩,
              ⟨some 54, .len (.t 53), none⟩,
              ⟨some 55, .bin .gtr (.t 54) (.k (.int .i64 1)), none⟩])
           (.cond (.t 55)
            (.seq (.reg [⟨some 4, .mov (.k (.bool false)), none⟩])
             (.ret))
            (.skip))))
         (.reg [⟨some 41, .mov (.t 9), none⟩,
            ⟨some 42, .bin .add (.t 41) (.k (.int .i64 1)), none⟩,
            ⟨some 9, .mov (.t 42), none⟩]))))))
    (.seq (.reg [⟨some 4, .mov (.k (.bool true)), none⟩])
     (.ret)))))⟩
theorem fok_spec_l15Single : FOk Try.prog 119 code_spec_l15Single := fok Try.func119 (by kernel_rfl)
def code_spec_l15Cycle : F := ⟨31, [.tmp 2],
 .seq (.reg [⟨some 1, .box (.t 0), none⟩,
    ⟨some 2, .mov (.k (.bool false)), none⟩])
 (.seq (.seq (.reg [⟨some 3, .mov (.k (.int .i64 0)), none⟩])
   (.block 0 (.loop (.seq (.seq (.reg [⟨some 5, .mov (.t 3), none⟩,
          ⟨some 6, .faddr 0 (.t 1), none⟩,
          ⟨some 7, .load 1 false (.t 6), none⟩,
          ⟨some 8, .len (.t 7), none⟩,
          ⟨some 9, .bin .lss (.t 5) (.t 8), none⟩])
       (.cond (.t 9)
        (.skip)
        (.exit 0)))
      (.seq (.block 1 (.seq (.reg [⟨some 4, .mov (.k (.int .i64 0)), none⟩])
         (.block 2 (.loop (.seq (.seq (.reg [⟨some 12, .mov (.t 4), none⟩,
                ⟨some 13, .faddr 0 (.t 1), none⟩,
                ⟨some 14, .load 1 false (.t 13), none⟩,
                ⟨some 15, .len (.t 14), none⟩,
                ⟨some 16, .bin .lss (.t 12) (.t 15), none⟩])
             (.cond (.t 16)
              (.skip)
              (.exit 2)))
            (.seq (.block 3 (.seq (.reg [⟨some 19, .load 2 true (.t 1), none⟩,
                  ⟨some 20, .mov (.t 3), none⟩,
                  ⟨some 21, .mov (.t 4), none⟩,
                  ⟨some 22, .call 191 [(.t 19), (.t 20), (.t 21)], none⟩,
                  ⟨some 23, .bin .eql (.t 22) (.k (.int .i64 2)), none⟩,
                  ⟨some 24, .mov (.t 23), none⟩,
                  ⟨some 25, .load 2 true (.t 1), some (24, true)⟩,
                  ⟨some 26, .mov (.t 4), some (24, true)⟩,
                  ⟨some 27, .mov (.t 3), some (24, true)⟩,
                  ⟨some 28, .call 192 [(.t 25), (.t 26), (.t 27)], some (24, true)⟩,
                  ⟨some 29, .bin .eql (.t 28) (.k (.int .i64 2)), some (24, true)⟩,
                  ⟨some 30, .pick (.t 24) (.t 29) (.k (.bool false)), none⟩])
               (.cond (.t 30)
                (.seq (.reg [⟨some 2, .mov (.k (.bool true)), none⟩])
                 (.ret))
                (.skip))))
             (.reg [⟨some 17, .mov (.t 4), none⟩,
                ⟨some 18, .bin .add (.t 17) (.k (.int .i64 1)), none⟩,
                ⟨some 4, .mov (.t 18), none⟩])))))))
       (.reg [⟨some 10, .mov (.t 3), none⟩,
          ⟨some 11, .bin .add (.t 10) (.k (.int .i64 1)), none⟩,
          ⟨some 3, .mov (.t 11), none⟩]))))))
  (.seq (.reg [⟨some 2, .mov (.k (.bool false)), none⟩])
   (.ret)))⟩
theorem fok_spec_l15Cycle : FOk Try.prog 120 code_spec_l15Cycle := fok Try.func120 (by kernel_rfl)
def code_spec_IsConsistent : F := ⟨45, [.tmp 4],
 .seq (.reg [⟨some 3, .box (.t 1), none⟩,
    ⟨some 4, .mov (.k (.bool false)), none⟩])
 (.seq (.seq (.reg [⟨some 6, .mov (.t 0), none⟩,
      ⟨some 7, .load 2 true (.t 3), none⟩,
      ⟨some 8, .call 56 [(.t 6), (.t 7)], none⟩,
      ⟨some 9, .not (.t 8), none⟩,
      ⟨some 10, .mov (.t 9), none⟩,
      ⟨some 11, .load 2 true (.t 3), some (10, false)⟩,
      ⟨some 12, .call 57 [(.t 11)], some (10, false)⟩,
      ⟨some 13, .not (.t 12), some (10, false)⟩,
      ⟨some 14, .pick (.t 10) (.k (.bool true)) (.t 13), none⟩,
      ⟨some 15, .mov (.t 14), none⟩,
      ⟨some 16, .mov (.t 0), some (15, false)⟩,
      ⟨some 17, .load 2 true (.t 3), some (15, false)⟩,
      ⟨some 18, .call 119 [(.t 16), (.t 17)], some (15, false)⟩,
      ⟨some 19, .not (.t 18), some (15, false)⟩,
      ⟨some 20, .pick (.t 15) (.k (.bool true)) (.t 19), none⟩,
      ⟨some 21, .mov (.t 20), none⟩,
      ⟨some 22, .load 2 true (.t 3), some (21, false)⟩,
      ⟨some 23, .call 120 [(.t 22)], some (21, false)⟩,
      ⟨some 24, .pick (.t 21) (.k (.bool true)) (.t 23), none⟩,
      ⟨some 25, .mov (.t 24), none⟩,
      ⟨some 26, .load 2 true (.t 3), some (25, false)⟩,
      ⟨some 27, .call 121 [(.t 26)], some (25, false)⟩,
      ⟨some 28, .bin .neq (.t 27) (.k (.int .i64 2)), some (25, false)⟩,
      ⟨some 29, .pick (.t 25) (.k (.bool true)) (.t 28), none⟩])
   (.cond (.t 29)
    (.seq (.reg [⟨some 4, .mov (.k (.bool false)), none⟩])
     (.ret))
    (.skip)))
  (.seq (.seq (.reg [⟨some 5, .mov (.k (.int .i64 0)), none⟩])
    (.block 0 (.loop (.seq (.seq (.reg [⟨some 30, .mov (.t 5), none⟩,
           ⟨some 31, .faddr 0 (.t 3), none⟩,
           ⟨some 32, .load 1 false (.t 31), none⟩,
           ⟨some 33, .len (.t 32), none⟩,
           ⟨some 34, .bin .lss (.t 30) (.t 33), none⟩])
        (.cond (.t 34)
         (.skip)
         (.exit 0)))
       (.seq (.block 1 (.seq (.reg [⟨some 37, .faddr 0 (.t 3), none⟩,
             ⟨some 38, .load 1 false (.t 37), none⟩,
             ⟨some 39, .mov (.t 5), none⟩,
             ⟨some 40, .iaddr 4 (.t 38) (.t 39), none⟩,
             ⟨some 41, .faddr 1 (.t 40), none⟩,
             ⟨some 42, .load 1 false (.t 41), none⟩,
             ⟨some 43, .call 79 [(.t 42), (.k (.int .i64 2))], none⟩,
             ⟨some 44, .not (.t 43), none⟩])
          (.cond (.t 44)
           (.seq (.reg [⟨some 4, .mov (.k (.bool false)), none⟩])
            (.ret))
           (.skip))))
        (.reg [⟨some 35, .mov (.t 5), none⟩,
           ⟨some 36, .bin .add (.t 35) (.k (.int .i64 1)), none⟩,
           ⟨some 5, .mov (.t 36), none⟩]))))))
   (.seq (.reg [⟨some 4, .mov (.k (.bool true)), none⟩])
    (.ret))))⟩
theorem fok_spec_IsConsistent : FOk Try.prog 48 code_spec_IsConsistent := fok Try.func48 (by kernel_rfl)
noncomputable def allR (s : Strc) : Bool := (List.range s.nodes.length).all fun i => decide (rowN s i s.nodes.length ≤ 1)
noncomputable def cycB (s : Strc) : Bool := (List.range s.nodes.length).any fun i => rchB s 2 i i
def allH (s : Strc) : Bool := (List.range s.nodes.length).all fun i => decide (2 ∈ (nodeI s (i : Nat)).reach)
theorem allI_split (s : Strc) : allI s = (allR s && (!cycB s && allH s)) := by
  unfold allI allR cycB allH okI
  rw [Bool.eq_iff_iff]
  simp only [Bool.and_eq_true, List.all_eq_true, Bool.not_eq_true', List.any_eq_false, Bool.not_eq_true]
  constructor
  · intro h
    exact ⟨fun i hi => (h i hi).1, fun i hi => (h i hi).2.2, fun i hi => (h i hi).2.1⟩
  · rintro ⟨h1, h2, h3⟩ i hi
    exact ⟨h1 i hi, h3 i hi, h2 i hi⟩
/-- The first step of a way. -/
theorem rch_first {e : Nat → Nat → Prop} {i y : Nat} (h : Rch e i y) : e i y ∨ ∃ j, e i j ∧ Rch e j y := by
  induction h with
  | one h => exact .inl h
  | more _ g ih =>
    rcases ih with h | ⟨j, h1, h2⟩
    · exact .inr ⟨_, h, .one g⟩
    · exact .inr ⟨j, h1, .more h2 g⟩
theorem rch_cons {e : Nat → Nat → Prop} {i j y : Nat} (h : e i j) (g : Rch e j y) : Rch e i y := by
  induction g with
  | one g => exact .more (.one h) g
  | more _ g ih => exact .more ih g
def rowCut (s : Strc) (i : Nat) : List Int := (s.next.take ((i + 1) * s.nodes.length)).drop (i * s.nodes.length)
theorem rowCut_pos {v : Nat} {s : Strc} (h : Fine v s) {i : Nat} (hi : i < s.nodes.length) : (pos (rowCut s i) 2).length = rowN s i s.nodes.length := by
  have hnl : s.next.length = s.nodes.length * s.nodes.length := by have := h.nl; exact_mod_cast this
  have hle : (i + 1) * s.nodes.length ≤ s.next.length := by rw [hnl]; exact Nat.mul_le_mul_right _ hi
  have he : (i + 1) * s.nodes.length = i * s.nodes.length + s.nodes.length := by rw [Nat.add_mul, Nat.one_mul]
  have hl : (rowCut s i).length = s.nodes.length := by unfold rowCut; rw [List.length_drop, List.length_take, Nat.min_eq_left hle]; omega
  unfold pos rowN
  rw [List.length_map, hl, ← List.countP_eq_length_filter]
  refine List.countP_congr fun j hj => ?_
  have hj : j < s.nodes.length := by simpa using hj
  have hg : (rowCut s i).getD j 0 = nextOf s (i : Nat) (j : Nat) := by
    unfold nextOf
    have h1 : inN s (i : Int) := ⟨by omega, by omega⟩
    have h2 : inN s (j : Int) := ⟨by omega, by omega⟩
    rw [if_pos ⟨h1, h2, h.nl⟩]
    have e2 : ((i : Int) * s.nodes.length + j).toNat = i * s.nodes.length + j := by
      have : ((i : Int) * s.nodes.length + j) = ((i * s.nodes.length + j : Nat) : Int) := by simp
      rw [this, Int.toNat_natCast]
    rw [e2]
    unfold rowCut
    rw [List.getD_eq_getElem?_getD, List.getElem?_drop, List.getElem?_take, if_pos (by omega), ← List.getD_eq_getElem?_getD]
  rw [hg]
  simp
@[simp] noncomputable def ct_l15Single : Ct := ⟨119, Nat × Strc, fun x => szStrc x.2 ≤ 1048576 ∧ Fine x.1 x.2, fun x => [.int .i64 x.1, encStrc x.2], fun x => .bool (allC x.1 x.2 && allR x.2)⟩
set_option maxHeartbeats 8000000 in
set_option maxRecDepth 100000 in
theorem ok_l15Single : ct_l15Single.Ok Try.prog := by
  rintro ⟨v, s⟩ ⟨hs, hF⟩
  change szStrc s ≤ 1048576 at hs
  change Fine v s at hF
  have hs2 := strc_le s
  have hv4 := hF.v4
  have hn10 := hF.n10
  have hT : TabOk Try.prog _ := tab_cons ok_l1Bit (tab_cons ok_sPositions tab_nil)
  refine Ok.of_cw fok_spec_l15Single ?_
  simp only [code_spec_l15Single, frame, List.length_cons, List.length_nil, List.replicate, Nat.reduceSub, Nat.reduceAdd, List.cons_append, List.nil_append]
  refine cw_seq (go_ok hT ?_)
  simp
  refine cw_seq (go_ok hT ?_)
  simp
  refine cw_cut_weak (α := Unit) (fun _ => ⟨slots 56 [(3, .pbox 0 0), (5, .int .i64 s.nodes.length)], [.cells [encL 4 encNode s.nodes, encL 1 encInt s.next]]⟩) (fun _ => allC v s = true) (go_ok hT ?_) ?_
  · simp
    refine cw_round (fun (k : Nat) => ⟨slots 56 [(0, .int .i64 v), (3, .pbox 0 0), (5, .int .i64 s.nodes.length), (6, .int .i64 k)], [.cells [encL 4 encNode s.nodes, encL 1 encInt s.next]]⟩)
      (fun k => k ≤ v ∧ ∀ j, j < k → colN s j s.nodes.length ≤ 1) (fun k => v - k) 0 ⟨by simp, fun j hj => by omega⟩ ?_ ?_
    · exact weak_seal 1 (by simp) (by simp) (by simp [List.replicate])
    rintro N hN k ⟨hk, hc⟩
    have hwk : IntKind.i64.wrap ((k : Int) + 1) = ((k + 1 : Nat) : Int) := by rw [wrap_i64] <;> omega
    refine go_ok hT ?_
    by_cases gk : k < v
    case neg =>
      have e : k = v := by omega
      subst e
      simp [List.replicate]
      refine ⟨all_true fun j hj => by simpa using hc j hj, weak_seal 1 (by simp) ?_ ?_⟩
      · simp
      · simp [List.replicate]
    have gk2 : ¬ v ≤ k := by omega
    simp [List.replicate, gk, gk2]
    refine cw_round (fun (i : Nat) => ⟨slots 56 [(0, .int .i64 v), (3, .pbox 0 0), (5, .int .i64 s.nodes.length), (6, .int .i64 k), (7, .int .i64 (colN s k i)), (8, .int .i64 i)], [.cells [encL 4 encNode s.nodes, encL 1 encInt s.next]]⟩)
      (fun i => i ≤ s.nodes.length) (fun i => s.nodes.length - i) 0 (by simp) ?_ ?_
    · exact weak_seal 1 (by simp) (by simp) (by simp [List.replicate, colN])
    rintro N2 hN2 i hi
    have hwi : IntKind.i64.wrap ((i : Int) + 1) = ((i + 1 : Nat) : Int) := by rw [wrap_i64] <;> omega
    refine go_ok hT ?_
    by_cases gi : i < s.nodes.length
    · have gi2 : ¬ s.nodes.length ≤ i := by omega
      have hvl := hF.vl s.nodes[i] (List.getElem_mem gi)
      have hsc := colN_succ (s := s) (k := k) gi
      have hcl := colN_le s k i
      generalize hx : s.nodes[i] = x at *
      have hkx : k < x.vars.length := by omega
      have hgd : x.vars.getD k 0 = x.vars[k] := by simp [List.getD_eq_getElem?_getD, hkx]
      rw [hgd] at hsc
      have hw0 : IntKind.i64.wrap ((colN s k i : Int)) = (colN s k i : Int) := by rw [wrap_i64] <;> omega
      have hw1 : IntKind.i64.wrap ((colN s k i : Int) + 1) = ((colN s k i + 1 : Nat) : Int) := by rw [wrap_i64] <;> omega
      by_cases hval : x.vars[k] = 2
      · simp [hval] at hsc
        simp [List.replicate, hwi, gi, gi2, hx, hkx, hval, hw1, bb_ex]
        refine hN2 i (i + 1) _ (by omega) (by omega) (weak_seal 1 (by simp) ?_ ?_)
        · simp
        · simp [List.replicate, hsc]
      · simp [hval] at hsc
        simp [List.replicate, hwi, gi, gi2, hx, hkx, hval, hw0, bb_ex]
        refine hN2 i (i + 1) _ (by omega) (by omega) (weak_seal 1 (by simp) ?_ ?_)
        · simp
        · simp [List.replicate, hsc]
    · have e : i = s.nodes.length := by omega
      subst e
      by_cases hck : colN s k s.nodes.length ≤ 1
      · have hck2 : ¬ 1 < colN s k s.nodes.length := by omega
        have hck3 : ¬ (1 : Int) < (colN s k s.nodes.length : Int) := by omega
        simp [List.replicate, hck, hck2, hck3, hwk]
        refine hN k (k + 1) _ ⟨by omega, fun j hj => ?_⟩ (by omega) (weak_seal 1 (by simp) ?_ ?_)
        · by_cases e : j = k
          · subst e; exact hck
          · exact hc j (by omega)
        · simp
        · simp [List.replicate]
      · have hck2 : 1 < colN s k s.nodes.length := by omega
        have hck3 : (1 : Int) < (colN s k s.nodes.length : Int) := by omega
        have hf : allC v s = false := all_false gk (by simp; omega)
        simp [List.replicate, hck, hck2, hck3, hf]
  intro _ hAC
  change CW _ _ _ (retP _ (.bool (allC v s && allR s))) _
  rw [hAC, Bool.true_and]
  have hnl : s.next.length = s.nodes.length * s.nodes.length := by have := hF.nl; exact_mod_cast this
  refine cw_seq (go_ok hT ?_)
  simp [List.replicate]
  refine cw_round (fun (i : Nat) => ⟨slots 56 [(3, .pbox 0 0), (5, .int .i64 s.nodes.length), (9, .int .i64 i)], [.cells [encL 4 encNode s.nodes, encL 1 encInt s.next]]⟩)
    (fun i => i ≤ s.nodes.length ∧ ∀ j, j < i → rowN s j s.nodes.length ≤ 1) (fun i => s.nodes.length - i) 0 ⟨by simp, fun j hj => by omega⟩ ?_ ?_
  · exact weak_seal 1 (by simp) (by simp) (by simp [List.replicate])
  rintro N hN i ⟨hi, hc⟩
  have hwi : IntKind.i64.wrap ((i : Int) + 1) = ((i + 1 : Nat) : Int) := by rw [wrap_i64] <;> omega
  refine go_ok hT ?_
  by_cases gi : i < s.nodes.length
  case neg =>
    have e : i = s.nodes.length := by omega
    subst e
    have hA : allR s = true := all_true fun j hj => by simpa using hc j hj
    simp [List.replicate]
    refine go_ok hT ?_
    simp [hA]
  have gi2 : ¬ s.nodes.length ≤ i := by omega
  have hm1 : i * s.nodes.length ≤ 10 * 10 := Nat.mul_le_mul (by omega) (by omega)
  have hm2 : (i + 1) * s.nodes.length ≤ s.next.length := by rw [hnl]; exact Nat.mul_le_mul_right _ gi
  have hm3 : (i + 1) * s.nodes.length = i * s.nodes.length + s.nodes.length := by rw [Nat.add_mul, Nat.one_mul]
  have w1 : IntKind.i64.wrap ((i : Int) * (s.nodes.length : Int)) = ((i * s.nodes.length : Nat) : Int) := by
    rw [show (i : Int) * (s.nodes.length : Int) = ((i * s.nodes.length : Nat) : Int) by push_cast; rfl, wrap_i64] <;> omega
  have w2 : IntKind.i64.wrap (((i : Int) + 1) * (s.nodes.length : Int)) = (((i + 1) * s.nodes.length : Nat) : Int) := by
    rw [show ((i : Int) + 1) * (s.nodes.length : Int) = (((i + 1) * s.nodes.length : Nat) : Int) by push_cast; rfl, wrap_i64] <;> omega
  have hrc := rowCut_pos hF gi
  unfold rowCut at hrc
  generalize ha : i * s.nodes.length = a at *
  generalize hb : (i + 1) * s.nodes.length = b at *
  have b1 : a ≤ b := by omega
  have b2 : b ≤ s.next.length := hm2
  have hcl : ((s.next.take b).drop a).length ≤ 1048576 := by simp; omega
  by_cases hr : rowN s i s.nodes.length ≤ 1
  · have hr3 : ¬ (1 : Int) < (rowN s i s.nodes.length : Int) := by omega
    have hr2 : ¬ 1 < rowN s i s.nodes.length := by omega
    have hr4 : (rowN s i s.nodes.length : Int) ≤ 1 := by omega
    simp [List.replicate, hwi, w1, w2, gi, gi2, b1, b2, -List.length_drop, hcl, hrc, hr2, hr3, hr4]
    refine hN i (i + 1) _ ⟨by omega, fun j hj => ?_⟩ (by omega) (weak_seal 1 (by simp) ?_ ?_)
    · by_cases e : j = i
      · subst e; exact hr
      · exact hc j (by omega)
    · simp
    · simp [List.replicate]
  · have hr3 : (1 : Int) < (rowN s i s.nodes.length : Int) := by omega
    have hr2 : 1 < rowN s i s.nodes.length := by omega
    have hr4 : ¬ (rowN s i s.nodes.length : Int) ≤ 1 := by omega
    have hf : allR s = false := all_false gi (by simp; omega)
    simp [List.replicate, hwi, w1, w2, gi, gi2, b1, b2, -List.length_drop, hcl, hrc, hr2, hr3, hr4, hf]
end Go.Vm
