/- Formulas evaluated by the reference: all formulas. No condition. -/
import Derived.Test.YtfelkhckpfjgjaaTEI
set_option linter.unusedSimpArgs false
set_option linter.unusedVariables false
namespace Go.Vm
open Go.Proofs
def code_spec_l13Over : F := ⟨73,[.tmp 6],.seq (.reg [⟨some 3,.box (.t 0),none⟩,⟨some 4,.box (.t 1),none⟩,⟨some 6,.mov (.k (.int .i64 0)),none⟩]) (.seq (.reg [⟨some 12,.bsl 3 1 4 (.int .i64 0) [(0,(.k (.int .i64 (-1)))),(1,(.k (.int .i64 (-1)))),(2,(.k (.int .i64 (-1)))),(3,(.k (.int .i64 (-1))))],none⟩,⟨some 7,.mov (.t 12),none⟩]) (.seq (.seq (.reg [⟨some 8,.mov (.k (.int .i64 0)),none⟩]) (.block 0 (.loop (.seq (.seq (.reg [⟨some 13,.mov (.t 8),none⟩,⟨some 14,.bin .lss (.t 13) (.k (.int .i64 4)),none⟩,⟨some 15,.mov (.t 14),none⟩,⟨some 16,.mov (.t 8),some (15,true)⟩,⟨some 17,.mov (.t 2),some (15,true)⟩,⟨some 18,.len (.t 17),some (15,true)⟩,⟨some 19,.bin .lss (.t 16) (.t 18),some (15,true)⟩,⟨some 20,.pick (.t 15) (.t 19) (.k (.bool false)),none⟩]) (.cond (.t 20) (.skip) (.exit 0))) (.seq (.block 1 (.reg [⟨some 23,.mov (.t 7),none⟩,⟨some 24,.mov (.t 8),none⟩,⟨some 25,.mov (.t 2),none⟩,⟨some 26,.mov (.t 8),none⟩,⟨some 27,.iaddr 1 (.t 25) (.t 26),none⟩,⟨some 28,.load 1 false (.t 27),none⟩,⟨some 29,.iaddr 1 (.t 23) (.t 24),none⟩,⟨none,.store 1 (.t 29) (.t 28),none⟩])) (.reg [⟨some 21,.mov (.t 8),none⟩,⟨some 22,.bin .add (.t 21) (.k (.int .i64 1)),none⟩,⟨some 8,.mov (.t 22),none⟩])))))) (.seq (.seq (.reg [⟨some 30,.faddr 2 (.t 4),none⟩,⟨some 31,.load 1 false (.t 30),none⟩,⟨some 32,.call 48 [.t 31,(.k (.int .i64 0)),(.k (.int .i64 3))],none⟩,⟨some 33,.not (.t 32),none⟩]) (.cond (.t 33) (.seq (.reg [⟨some 6,.mov (.k (.int .i64 1)),none⟩]) (.ret)) (.skip))) (.seq (.reg [⟨some 34,.faddr 0 (.t 4),none⟩,⟨some 35,.load 1 false (.t 34),none⟩,⟨some 36,.bin .eql (.t 35) (.k (.int .i64 12)),none⟩,⟨some 37,.call 94 [.t 36],none⟩,⟨some 9,.mov (.t 37),none⟩]) (.seq (.seq (.reg [⟨some 10,.mov (.k (.int .i64 0)),none⟩]) (.block 2 (.loop (.seq (.seq (.reg [⟨some 38,.mov (.t 10),none⟩,⟨some 39,.faddr 0 (.t 3),none⟩,⟨some 40,.load 1 false (.t 39),none⟩,⟨some 41,.len (.t 40),none⟩,⟨some 42,.bin .lss (.t 38) (.t 41),none⟩]) (.cond (.t 42) (.skip) (.exit 2))) (.seq (.block 3 (.seq (.reg [⟨some 45,.mov (.t 7),none⟩,⟨some 46,.faddr 2 (.t 4),none⟩,⟨some 47,.load 1 false (.t 46),none⟩,⟨some 48,.mov (.t 10),none⟩,⟨some 49,.iaddr 1 (.t 45) (.t 47),none⟩,⟨none,.store 1 (.t 49) (.t 48),none⟩]) (.seq (.dreg [false,false,false,false,false,false,true,true] [false,false,false,false,false,false,true,false] [⟨some 50,.load 2 true (.t 3),none⟩,⟨some 51,.faddr 4 (.t 4),none⟩,⟨some 52,.load 1 false (.t 51),none⟩,⟨some 53,.iaddr 5 (.t 52) (.k (.int .i64 0)),none⟩,⟨some 54,.load 5 true (.t 53),none⟩,⟨some 55,.mov (.t 7),none⟩,⟨some 56,.call 25 [.t 50,.t 54,.t 55],none⟩,⟨some 11,.mov (.t 56),none⟩]) (.seq (.seq (.reg [⟨some 57,.faddr 0 (.t 4),none⟩,⟨some 58,.load 1 false (.t 57),none⟩,⟨some 59,.bin .eql (.t 58) (.k (.int .i64 12)),none⟩]) (.cond (.t 59) (.reg [⟨some 60,.mov (.t 9),none⟩,⟨some 61,.mov (.t 11),none⟩,⟨some 62,.call 80 [.t 60,.t 61],none⟩,⟨some 9,.mov (.t 62),none⟩]) (.reg [⟨some 63,.mov (.t 9),none⟩,⟨some 64,.mov (.t 11),none⟩,⟨some 65,.call 81 [.t 63,.t 64],none⟩,⟨some 9,.mov (.t 65),none⟩]))) (.seq (.reg [⟨some 66,.mov (.t 9),none⟩,⟨some 67,.faddr 0 (.t 4),none⟩,⟨some 68,.load 1 false (.t 67),none⟩,⟨some 69,.bin .eql (.t 68) (.k (.int .i64 11)),none⟩,⟨some 70,.call 94 [.t 69],none⟩,⟨some 71,.bin .eql (.t 66) (.t 70),none⟩]) (.cond (.t 71) (.exit 2) (.skip))))))) (.reg [⟨some 43,.mov (.t 10),none⟩,⟨some 44,.bin .add (.t 43) (.k (.int .i64 1)),none⟩,⟨some 10,.mov (.t 44),none⟩])))))) (.seq (.reg [⟨some 72,.mov (.t 9),none⟩,⟨some 6,.mov (.t 72),none⟩]) (.ret)))))))⟩
theorem fok_spec_l13Over : FOk Try.prog 78 code_spec_l13Over := fok Try.func78 (by kernel_rfl)
theorem bb_ex {p : BB → Prop} {c : Bool} : (∃ x : BB, x.b = c ∧ p x) = p ⟨c⟩ := propext ⟨fun ⟨x, h, g⟩ => by cases x; cases h; exact g, fun h => ⟨⟨c⟩, rfl, h⟩⟩
theorem msetS (l : List Int) (k : Nat) (v : Int) : (l.map encInt).set k (.int .i64 v) = (l.set k v).map encInt := by rw [List.map_set]; rfl
@[simp] noncomputable def ct_sEvalN (R : Strc → Prop) (n : Nat) : Ct := ⟨25, Strc × Fm × List Int, fun x => szStrc x.1 ≤ 1048576 ∧ x.2.2.length ≤ 1048576 ∧ x.2.1.size ≤ n ∧ (R x.1 ∨ noPathF x.2.1 = true),
  fun x => [encStrc x.1, encFm x.2.1, encL 1 encInt x.2.2], fun x => .int .i64 (evalN x.1 n x.2.1 x.2.2)⟩
@[simp] noncomputable def ct_sOverN (R : Strc → Prop) (n : Nat) : Ct := ⟨78, Strc × Fm × List Int, fun x => szStrc x.1 ≤ 1048576 ∧ x.2.2.length ≤ 1048576 ∧ x.2.1.size ≤ n + 1 ∧ (R x.1 ∨ noPathF x.2.1 = true) ∧ (x.2.1.kind = 11 ∨ x.2.1.kind = 12) ∧ x.2.1.args.length = 1,
  fun x => [encStrc x.1, encFm x.2.1, encL 1 encInt x.2.2], fun x => .int .i64 (evalN x.1 (n + 1) x.2.1 x.2.2)⟩
def padTo (l : List Int) (k : Nat) : List Int := l.take k ++ [-1, -1, -1, -1].drop k
theorem padTo_len {l : List Int} {k : Nat} (h : k ≤ l.length) (h4 : k ≤ 4) : (padTo l k).length = 4 := by
  unfold padTo
  simp only [List.length_append, List.length_take, List.length_drop, List.length_cons, List.length_nil]
  omega
theorem padTo_succ {l : List Int} {k : Nat} (h : k < l.length) (h4 : k < 4) : (padTo l k).set k l[k] = padTo l (k + 1) := by
  unfold padTo
  rw [List.set_append_right _ _ (by simp; omega), List.take_succ_eq_append_getElem h, List.append_assoc]
  congr 1
  rw [List.length_take, Nat.min_eq_left (by omega), Nat.sub_self]
  obtain rfl | rfl | rfl | rfl : k = 0 ∨ k = 1 ∨ k = 2 ∨ k = 3 := by omega
  all_goals simp
theorem padTo_end {l : List Int} {k : Nat} (h : k ≤ l.length) (h4 : k ≤ 4) (he : ¬ (k < 4 ∧ k < l.length)) : padTo l k = pad4 l := by
  unfold padTo pad4
  by_cases g : l.length ≤ 4
  · have : k = l.length := by omega
    subst this
    rw [List.take_of_length_le (Nat.le_refl _), List.take_of_length_le g, Nat.min_eq_left g]
  · have : k = 4 := by omega
    subst this
    rw [Nat.min_eq_right (by omega)]
set_option maxHeartbeats 8000000 in
set_option maxRecDepth 100000 in
theorem ok_sOverN {R : Strc → Prop} {n : Nat} (ih : (ct_sEvalN R n).Ok Try.prog) : (ct_sOverN R n).Ok Try.prog := by
  rintro ⟨s, ⟨kind, k, u, v, args⟩, nodes⟩ ⟨hs, hl, hz, hR, hk, ha⟩
  change szStrc s ≤ 1048576 at hs
  change nodes.length ≤ 1048576 at hl
  change (Fm.mk kind k u v args).size ≤ n + 1 at hz
  change R s ∨ noPathF (.mk kind k u v args) = true at hR
  change kind = 11 ∨ kind = 12 at hk
  change args.length = 1 at ha
  have hs2 := strc_le s
  simp only [Fm.size] at hz
  simp only [noPathF, Bool.and_eq_true, decide_eq_true_eq] at hR
  obtain ⟨x, rfl⟩ := List.length_eq_one_iff.1 ha
  simp only [sizes] at hz
  have hx : x.size ≤ n := by omega
  have hRx : R s ∨ noPathF x = true := hR.imp id (fun h => by have := h.2; simp only [noPathS, Bool.and_eq_true] at this; exact this.1)
  have hT : TabOk Try.prog _ := tab_cons ok_l1In (tab_cons ok_l3Of (tab_cons ok_sAndOf (tab_cons ok_sOrOf (tab_cons ih tab_nil))))
  refine Ok.of_cw fok_spec_l13Over ?_
  simp only [code_spec_l13Over, frame, List.length_cons, List.length_nil, List.replicate, Nat.reduceSub, Nat.reduceAdd, List.cons_append, List.nil_append]
  refine cw_seq (go_ok hT ?_)
  simp
  refine cw_seq (go_ok hT ?_)
  simp
  refine cw_cut_weak (α := Unit) (fun _ => ⟨slots 73 [(3, .pbox 0 0), (4, .pbox 1 0), (7, .slref 2 0 4 4)], [.cells [encL 4 encNode s.nodes, encL 1 encInt s.next], .cells [.int .i64 kind, .int .i64 k, .int .i64 u, .int .i64 v, encL 5 encFm [x]], .row true 3 1 ((pad4 nodes).map encInt)]⟩) (fun _ => True) (go_ok hT ?_) ?_
  · simp
    refine cw_round (fun (p : Nat) => ⟨slots 73 [(2, encL 1 encInt nodes), (3, .pbox 0 0), (4, .pbox 1 0), (7, .slref 2 0 4 4), (8, .int .i64 p)], [.cells [encL 4 encNode s.nodes, encL 1 encInt s.next], .cells [.int .i64 kind, .int .i64 k, .int .i64 u, .int .i64 v, encL 5 encFm [x]], .row true 3 1 ((padTo nodes p).map encInt)]⟩)
      (fun p => p ≤ 4 ∧ p ≤ nodes.length) (fun p => 4 - p) 0 ⟨by simp, by simp⟩ ?_ ?_
    · refine weak_seal 3 (by simp) ?_ ?_
      · simp [padTo]
      · simp [List.replicate]
    rintro N hN q ⟨hq4, hql⟩
    have hwq : IntKind.i64.wrap ((q : Int) + 1) = ((q + 1 : Nat) : Int) := by rw [wrap_i64] <;> omega
    have hpl := padTo_len hql hq4
    refine go_ok hT ?_
    by_cases g4 : q < 4
    · by_cases gl : q < nodes.length
      · have g4' : (q : Int) < 4 := by omega
        have gl' : ¬ nodes.length ≤ q := by omega
        have hps := padTo_succ gl g4
        simp [List.replicate, hwq, g4, gl, gl', g4', hpl, msetS, -List.map_set]
        refine hN q (q + 1) _ ⟨by omega, by omega⟩ (by omega) (weak_seal 3 (by simp) ?_ ?_)
        · simp [hps]
        · simp [List.replicate]
      · have g4' : (q : Int) < 4 := by omega
        have gl' : nodes.length ≤ q := by omega
        rw [padTo_end hql hq4 (by omega)]
        simp [List.replicate, g4, gl, gl', g4']
        refine weak_seal 3 (by simp) ?_ ?_
        · simp
        · simp [List.replicate]
    · have g4' : ¬ (q : Int) < 4 := by omega
      rw [padTo_end hql hq4 (by omega)]
      simp [List.replicate, g4, g4']
      refine weak_seal 3 (by simp) ?_ ?_
      · simp
      · simp [List.replicate]
  intro _ _
  refine cw_seq (go_ok hT ?_)
  have har : arity kind = 1 := by rcases hk with rfl | rfl <;> simp [arity]
  by_cases u0 : 0 ≤ u
  case neg =>
    have hE : evalN s (n + 1) (.mk kind k u v [x]) nodes = 1 := by rcases hk with rfl | rfl <;> simp [evalN, arity, u0]
    simp [List.replicate, hE, u0]
  by_cases u3 : u ≤ 3
  case neg =>
    have u3' : 3 < u := by omega
    have hE : evalN s (n + 1) (.mk kind k u v [x]) nodes = 1 := by rcases hk with rfl | rfl <;> simp [evalN, arity, u0, u3]
    simp [List.replicate, hE, u0, u3, u3']
  have hu4 : u.toNat < 4 := by omega
  have hu5 : u < 4 := by omega
  have u3' : ¬ 3 < u := by omega
  have hE : evalN s (n + 1) (.mk kind k u v [x]) nodes = overT (decide (kind = 12)) s.nodes.length (fun i => evalN s n x ((pad4 nodes).set u.toNat (i : Nat))) := by
    rcases hk with rfl | rfl <;> simp [evalN, arity, u0, u3, fget]
  change go _ _ _ _ (thenS _ (retP _ (.int .i64 (evalN s (n + 1) (.mk kind k u v [x]) nodes)))) _
  rw [hE]
  have hgt : ∀ i, isTruth ((fun i : Nat => evalN s n x ((pad4 nodes).set u.toNat (i : Nat))) i) = true := fun i => evalN_truth _ _ _ _
  simp [List.replicate, u0, u3, u3']
  rcases hk with rfl | rfl
  · refine cw_seq (go_ok hT ?_)
    simp [bb_ex, trI]
    refine cw_seq (go_ok hT ?_)
    simp
    refine cw_round (fun (p : Nat × List Int) => ⟨slots 73 [(3, .pbox 0 0), (4, .pbox 1 0), (7, .slref 2 0 4 4), (9, .int .i64 (overT false p.1 (fun i => evalN s n x ((pad4 nodes).set u.toNat (i : Nat))))), (10, .int .i64 p.1)], [.cells [encL 4 encNode s.nodes, encL 1 encInt s.next], .cells [.int .i64 11, .int .i64 k, .int .i64 u, .int .i64 v, encL 5 encFm [x]], .row true 3 1 (p.2.map encInt)]⟩)
        (fun p => p.1 ≤ s.nodes.length ∧ p.2.length = 4 ∧ ∀ a, p.2.set u.toNat a = (pad4 nodes).set u.toNat a) (fun p => s.nodes.length - p.1) (0, pad4 nodes) ⟨by simp, by simp, fun _ => rfl⟩ ?_ ?_
    · refine weak_seal 3 (by simp) ?_ ?_
      · simp
      · simp [List.replicate, overT_zero]
    · rintro N hN ⟨i, l⟩ ⟨hi, hl4, hset⟩
      change i ≤ s.nodes.length at hi
      change l.length = 4 at hl4
      have hw : IntKind.i64.wrap ((i : Int) + 1) = ((i + 1 : Nat) : Int) := by rw [wrap_i64] <;> omega
      have ht : ∀ a, List.take 4 (List.map encInt (l.set u.toNat a)) = List.map encInt (l.set u.toNat a) := fun a => List.take_of_length_le (by simp [hl4])
      have ht2 : List.take 4 (List.map encInt ((pad4 nodes).set u.toNat (i : Nat))) = List.map encInt ((pad4 nodes).set u.toNat (i : Nat)) := List.take_of_length_le (by simp)
      have h1 := hset (i : Int)
      have h2 : orT (overT false i (fun i => evalN s n x ((pad4 nodes).set u.toNat (i : Nat)))) (evalN s n x ((pad4 nodes).set u.toNat (i : Nat))) = overT false (i + 1) (fun i => evalN s n x ((pad4 nodes).set u.toNat (i : Nat))) := by rw [overT_succ]; rfl
      refine go_ok hT ?_
      by_cases g : i < s.nodes.length
      · have g2 : ¬ s.nodes.length ≤ i := by omega
        by_cases hb : overT false (i + 1) (fun i => evalN s n x ((pad4 nodes).set u.toNat (i : Nat))) = 2
        · have he := overT_stop false hgt (m := i + 1) (by simpa using hb) (s.nodes.length - (i + 1))
          rw [show i + 1 + (s.nodes.length - (i + 1)) = s.nodes.length by omega] at he
          simp only [Bool.false_eq_true, if_false] at he
          simp [List.replicate, hw, g, g2, hu4, hu5, u0, hl4, hs, hx, hRx, msetS, ht, ht2, -List.map_set, h1, h2, hb, bb_ex, trI]
          refine go_ok hT ?_
          simp [he]
        · simp [List.replicate, hw, g, g2, hu4, hu5, u0, hl4, hs, hx, hRx, msetS, ht, ht2, -List.map_set, h1, h2, hb, bb_ex, trI]
          refine hN (i, l) (i + 1, (pad4 nodes).set u.toNat (i : Nat)) _ ⟨by simp; omega, by simp, by simp⟩ (by simp; omega) (weak_seal 3 (by simp) ?_ ?_)
          · simp
          · simp [List.replicate]
      · have e : i = s.nodes.length := by omega
        subst e
        simp [List.replicate]
        refine go_ok hT ?_
        simp
  · refine cw_seq (go_ok hT ?_)
    simp [bb_ex, trI]
    refine cw_seq (go_ok hT ?_)
    simp
    refine cw_round (fun (p : Nat × List Int) => ⟨slots 73 [(3, .pbox 0 0), (4, .pbox 1 0), (7, .slref 2 0 4 4), (9, .int .i64 (overT true p.1 (fun i => evalN s n x ((pad4 nodes).set u.toNat (i : Nat))))), (10, .int .i64 p.1)], [.cells [encL 4 encNode s.nodes, encL 1 encInt s.next], .cells [.int .i64 12, .int .i64 k, .int .i64 u, .int .i64 v, encL 5 encFm [x]], .row true 3 1 (p.2.map encInt)]⟩)
        (fun p => p.1 ≤ s.nodes.length ∧ p.2.length = 4 ∧ ∀ a, p.2.set u.toNat a = (pad4 nodes).set u.toNat a) (fun p => s.nodes.length - p.1) (0, pad4 nodes) ⟨by simp, by simp, fun _ => rfl⟩ ?_ ?_
    · refine weak_seal 3 (by simp) ?_ ?_
      · simp
      · simp [List.replicate, overT_zero]
    · rintro N hN ⟨i, l⟩ ⟨hi, hl4, hset⟩
      change i ≤ s.nodes.length at hi
      change l.length = 4 at hl4
      have hw : IntKind.i64.wrap ((i : Int) + 1) = ((i + 1 : Nat) : Int) := by rw [wrap_i64] <;> omega
      have ht : ∀ a, List.take 4 (List.map encInt (l.set u.toNat a)) = List.map encInt (l.set u.toNat a) := fun a => List.take_of_length_le (by simp [hl4])
      have ht2 : List.take 4 (List.map encInt ((pad4 nodes).set u.toNat (i : Nat))) = List.map encInt ((pad4 nodes).set u.toNat (i : Nat)) := List.take_of_length_le (by simp)
      have h1 := hset (i : Int)
      have h2 : andT (overT true i (fun i => evalN s n x ((pad4 nodes).set u.toNat (i : Nat)))) (evalN s n x ((pad4 nodes).set u.toNat (i : Nat))) = overT true (i + 1) (fun i => evalN s n x ((pad4 nodes).set u.toNat (i : Nat))) := by rw [overT_succ]; rfl
      refine go_ok hT ?_
      by_cases g : i < s.nodes.length
      · have g2 : ¬ s.nodes.length ≤ i := by omega
        by_cases hb : overT true (i + 1) (fun i => evalN s n x ((pad4 nodes).set u.toNat (i : Nat))) = 0
        · have he := overT_stop true hgt (m := i + 1) (by simpa using hb) (s.nodes.length - (i + 1))
          rw [show i + 1 + (s.nodes.length - (i + 1)) = s.nodes.length by omega] at he
          simp only [if_true] at he
          simp [List.replicate, hw, g, g2, hu4, hu5, u0, hl4, hs, hx, hRx, msetS, ht, ht2, -List.map_set, h1, h2, hb, bb_ex, trI]
          refine go_ok hT ?_
          simp [he]
        · simp [List.replicate, hw, g, g2, hu4, hu5, u0, hl4, hs, hx, hRx, msetS, ht, ht2, -List.map_set, h1, h2, hb, bb_ex, trI]
          refine hN (i, l) (i + 1, (pad4 nodes).set u.toNat (i : Nat)) _ ⟨by simp; omega, by simp, by simp⟩ (by simp; omega) (weak_seal 3 (by simp) ?_ ?_)
          · simp
          · simp [List.replicate]
      · have e : i = s.nodes.length := by omega
        subst e
        simp [List.replicate]
        refine go_ok hT ?_
        simp
end Go.Vm
namespace Go.Vm
open Go.Proofs
def code_spec_l13Row : F := ⟨77,[.tmp 4],.seq (.reg [⟨some 2,.box (.t 0),none⟩,⟨some 4,.mov (.k (.sl .nil 0 [])),none⟩]) (.seq (.reg [⟨some 11,.faddr 0 (.t 2),none⟩,⟨some 12,.load 1 false (.t 11),none⟩,⟨some 13,.len (.t 12),none⟩,⟨some 5,.mov (.t 13),none⟩]) (.seq (.reg [⟨some 14,.bsl 3 1 0 (.int .i64 0) [],none⟩,⟨some 6,.mov (.t 14),none⟩]) (.seq (.seq (.reg [⟨some 7,.mov (.k (.int .i64 0)),none⟩]) (.block 0 (.loop (.seq (.seq (.reg [⟨some 15,.mov (.t 7),none⟩,⟨some 16,.mov (.t 5),none⟩,⟨some 17,.bin .lss (.t 15) (.t 16),none⟩]) (.cond (.t 17) (.skip) (.exit 0))) (.seq (.block 1 (.reg [⟨some 20,.mov (.t 6),none⟩,⟨some 21,.load 2 true (.t 2),none⟩,⟨some 22,.mov (.t 1),none⟩,⟨some 23,.mov (.t 7),none⟩,⟨some 24,.call 99 [.t 21,.t 22,.t 23],none⟩,⟨some 25,.bsl 3 1 1 (.int .i64 0) [(0,.t 24)],none⟩,⟨some 26,.append 3 1 8 (.t 20) (.t 25),none⟩,⟨some 6,.mov (.t 26),none⟩])) (.reg [⟨some 18,.mov (.t 7),none⟩,⟨some 19,.bin .add (.t 18) (.k (.int .i64 1)),none⟩,⟨some 7,.mov (.t 19),none⟩])))))) (.seq (.seq (.reg [⟨some 8,.mov (.k (.int .i64 0)),none⟩]) (.block 2 (.loop (.seq (.seq (.reg [⟨some 27,.mov (.t 8),none⟩,⟨some 28,.mov (.t 5),none⟩,⟨some 29,.bin .lss (.t 27) (.t 28),none⟩]) (.cond (.t 29) (.skip) (.exit 2))) (.seq (.block 3 (.seq (.reg [⟨some 9,.mov (.k (.int .i64 0)),none⟩]) (.block 4 (.loop (.seq (.seq (.reg [⟨some 32,.mov (.t 9),none⟩,⟨some 33,.mov (.t 5),none⟩,⟨some 34,.bin .lss (.t 32) (.t 33),none⟩]) (.cond (.t 34) (.skip) (.exit 4))) (.seq (.block 5 (.seq (.reg [⟨some 10,.mov (.k (.int .i64 0)),none⟩]) (.block 6 (.loop (.seq (.seq (.reg [⟨some 37,.mov (.t 10),none⟩,⟨some 38,.mov (.t 5),none⟩,⟨some 39,.bin .lss (.t 37) (.t 38),none⟩]) (.cond (.t 39) (.skip) (.exit 6))) (.seq (.block 7 (.dreg [false,false,false,false,false,false,false,false,false,false,false,false,false,false,false,false,true,true] [false,false,false,false,false,false,false,false,false,false,false,false,false,true,true,true,false,false] [⟨some 42,.mov (.t 6),none⟩,⟨some 43,.mov (.t 10),none⟩,⟨some 44,.mov (.t 6),none⟩,⟨some 45,.mov (.t 10),none⟩,⟨some 46,.iaddr 1 (.t 44) (.t 45),none⟩,⟨some 47,.load 1 false (.t 46),none⟩,⟨some 48,.mov (.t 6),none⟩,⟨some 49,.mov (.t 9),none⟩,⟨some 50,.iaddr 1 (.t 48) (.t 49),none⟩,⟨some 51,.load 1 false (.t 50),none⟩,⟨some 52,.load 2 true (.t 2),none⟩,⟨some 53,.mov (.t 9),none⟩,⟨some 54,.mov (.t 10),none⟩,⟨some 55,.call 99 [.t 52,.t 53,.t 54],none⟩,⟨some 56,.call 113 [.t 51,.t 55],none⟩,⟨some 57,.call 63 [.t 47,.t 56],none⟩,⟨some 58,.iaddr 1 (.t 42) (.t 43),none⟩,⟨none,.store 1 (.t 58) (.t 57),none⟩])) (.reg [⟨some 40,.mov (.t 10),none⟩,⟨some 41,.bin .add (.t 40) (.k (.int .i64 1)),none⟩,⟨some 10,.mov (.t 41),none⟩]))))))) (.reg [⟨some 35,.mov (.t 9),none⟩,⟨some 36,.bin .add (.t 35) (.k (.int .i64 1)),none⟩,⟨some 9,.mov (.t 36),none⟩]))))))) (.reg [⟨some 30,.mov (.t 8),none⟩,⟨some 31,.bin .add (.t 30) (.k (.int .i64 1)),none⟩,⟨some 8,.mov (.t 31),none⟩])))))) (.seq (.dreg [false,false,false,false,false,false,false,false,false,false,false,false,false,false,false,false,true,true] [false,false,false,false,false,false,false,false,false,false,false,false,false,true,false,true,false,false] [⟨some 59,.mov (.t 6),none⟩,⟨some 60,.mov (.t 1),none⟩,⟨some 61,.mov (.t 6),none⟩,⟨some 62,.mov (.t 1),none⟩,⟨some 63,.iaddr 1 (.t 61) (.t 62),none⟩,⟨some 64,.load 1 false (.t 63),none⟩,⟨some 65,.faddr 0 (.t 2),none⟩,⟨some 66,.load 1 false (.t 65),none⟩,⟨some 67,.mov (.t 1),none⟩,⟨some 68,.iaddr 4 (.t 66) (.t 67),none⟩,⟨some 69,.faddr 3 (.t 68),none⟩,⟨some 70,.load 1 false (.t 69),none⟩,⟨some 71,.bin .neq (.t 70) (.k (.int .i64 0)),none⟩,⟨some 72,.call 64 [.t 71],none⟩,⟨some 73,.bin .sub (.k (.int .i64 2)) (.t 72),none⟩,⟨some 74,.call 63 [.t 64,.t 73],none⟩,⟨some 75,.iaddr 1 (.t 59) (.t 60),none⟩,⟨none,.store 1 (.t 75) (.t 74),none⟩]) (.seq (.reg [⟨some 76,.mov (.t 6),none⟩,⟨some 4,.mov (.t 76),none⟩]) (.ret)))))))⟩
theorem fok_spec_l13Row : FOk Try.prog 85 code_spec_l13Row := fok Try.func85 (by kernel_rfl)
def code_spec_PathOf : F := ⟨29,[.tmp 6],.seq (.reg [⟨some 3,.box (.t 0),none⟩,⟨some 6,.mov (.k (.int .i64 0)),none⟩]) (.seq (.reg [⟨some 8,.faddr 0 (.t 3),none⟩,⟨some 9,.load 1 false (.t 8),none⟩,⟨some 10,.len (.t 9),none⟩,⟨some 7,.mov (.t 10),none⟩]) (.seq (.seq (.reg [⟨some 11,.mov (.t 1),none⟩,⟨some 12,.mov (.t 7),none⟩,⟨some 13,.bin .sub (.t 12) (.k (.int .i64 1)),none⟩,⟨some 14,.call 48 [.t 11,(.k (.int .i64 0)),.t 13],none⟩,⟨some 15,.not (.t 14),none⟩,⟨some 16,.mov (.t 15),none⟩,⟨some 17,.mov (.t 2),some (16,false)⟩,⟨some 18,.mov (.t 7),some (16,false)⟩,⟨some 19,.bin .sub (.t 18) (.k (.int .i64 1)),some (16,false)⟩,⟨some 20,.call 48 [.t 17,(.k (.int .i64 0)),.t 19],some (16,false)⟩,⟨some 21,.not (.t 20),some (16,false)⟩,⟨some 22,.pick (.t 16) (.k (.bool true)) (.t 21),none⟩]) (.cond (.t 22) (.seq (.reg [⟨some 6,.mov (.k (.int .i64 1)),none⟩]) (.ret)) (.skip))) (.seq (.reg [⟨some 23,.load 2 true (.t 3),none⟩,⟨some 24,.mov (.t 1),none⟩,⟨some 25,.call 85 [.t 23,.t 24],none⟩,⟨some 26,.mov (.t 2),none⟩,⟨some 27,.iaddr 1 (.t 25) (.t 26),none⟩,⟨some 28,.load 1 false (.t 27),none⟩,⟨some 6,.mov (.t 28),none⟩]) (.ret))))⟩
theorem fok_spec_PathOf : FOk Try.prog 29 code_spec_PathOf := fok Try.func29 (by kernel_rfl)
def code_spec_l1Bit : F := ⟨4,[.tmp 2],.seq (.reg [⟨some 2,.mov (.k (.int .i64 0)),none⟩]) (.seq (.seq (.reg [⟨some 3,.mov (.t 0),none⟩]) (.cond (.t 3) (.seq (.reg [⟨some 2,.mov (.k (.int .i64 1)),none⟩]) (.ret)) (.skip))) (.seq (.reg [⟨some 2,.mov (.k (.int .i64 0)),none⟩]) (.ret)))⟩
theorem fok_spec_l1Bit : FOk Try.prog 64 code_spec_l1Bit := fok Try.func64 (by kernel_rfl)
@[simp] def ct_l1Bit : Ct := ⟨64, BB, fun _ => True, fun x => [.bool x.b], fun x => .int .i64 (if x.b then 1 else 0)⟩
theorem ok_l1Bit : ct_l1Bit.Ok Try.prog := by
  rintro ⟨b⟩ -
  refine Ok.of_cw fok_spec_l1Bit (go_ok tab_nil ?_)
  cases b <;> simp [code_spec_l1Bit, List.replicate]
theorem upd1_get {s : Strc} {a b : Nat} {l : List Int} (ha : a < l.length) (hb : b < l.length) : l.set b (if l[b] ≤ (if l[a] ≤ nextOf s a b then l[a] else nextOf s a b) then (if l[a] ≤ nextOf s a b then l[a] else nextOf s a b) else l[b]) = upd1 s a b l := by
  unfold upd1 mx mn
  simp [List.getD_eq_getElem?_getD, ha, hb]
@[simp] def ct_l13Row : Ct := ⟨85, Strc × Int, fun x => szStrc x.1 ≤ 1048576 ∧ inN x.1 x.2, fun x => [encStrc x.1, .int .i64 x.2], fun x => encL 1 encInt (rowP x.1 x.2.toNat)⟩
set_option maxHeartbeats 8000000 in
set_option maxRecDepth 100000 in
theorem ok_l13Row : ct_l13Row.Ok Try.prog := by
  rintro ⟨s, i⟩ ⟨hs, hi⟩
  change szStrc s ≤ 1048576 at hs
  change inN s i at hi
  have hs2 := strc_le s
  have hi' := hi
  unfold inN at hi'
  have hin : i.toNat < s.nodes.length := by omega
  have hil : i < s.nodes.length := by omega
  have hci : ((i.toNat : Nat) : Int) = i := by omega
  have hT : TabOk Try.prog _ := tab_cons ok_sNextOf (tab_cons ok_l1Min (tab_cons ok_l1Max (tab_cons ok_l1Bit tab_nil)))
  refine Ok.of_cw fok_spec_l13Row ?_
  simp only [code_spec_l13Row, frame, List.length_cons, List.length_nil, List.replicate, Nat.reduceSub, Nat.reduceAdd, List.cons_append, List.nil_append]
  refine cw_seq (go_ok hT ?_)
  simp
  refine cw_seq (go_ok hT ?_)
  simp
  refine cw_seq (go_ok hT ?_)
  simp
  refine cw_cut_weak (α := Unit) (fun _ => ⟨slots 77 [(1, .int .i64 i), (2, .pbox 0 0), (5, .int .i64 s.nodes.length), (6, .slref 1 0 s.nodes.length s.nodes.length)], [.cells [encL 4 encNode s.nodes, encL 1 encInt s.next], .row true 3 1 ((best0 s i.toNat s.nodes.length).map encInt)]⟩) (fun _ => True) (go_ok hT ?_) ?_
  · simp
    refine cw_round (fun (p : Nat) => ⟨slots 77 [(1, .int .i64 i), (2, .pbox 0 0), (5, .int .i64 s.nodes.length), (6, .slref 1 0 p p), (7, .int .i64 p)], [.cells [encL 4 encNode s.nodes, encL 1 encInt s.next], .row true 3 1 ((best0 s i.toNat p).map encInt)]⟩)
      (fun p => p ≤ s.nodes.length) (fun p => s.nodes.length - p) 0 (by simp) ?_ ?_
    · exact weak_seal 2 (by simp) (by simp [best0]) (by simp [List.replicate])
    rintro N hN b hb
    have hw : IntKind.i64.wrap ((b : Int) + 1) = ((b + 1 : Nat) : Int) := by rw [wrap_i64] <;> omega
    have hby : (b + 1) * 8 ≤ 140737488355328 := by omega
    refine go_ok hT ?_
    by_cases g : b < s.nodes.length
    · have g2 : ¬ s.nodes.length ≤ b := by omega
      simp [List.replicate, hw, g, g2, hs, hby, app1]
      refine hN b (b + 1) _ (by omega) (by omega) (weak_seal 2 (by simp) ?_ ?_)
      · have htk : List.take b (List.map encInt (best0 s i.toNat b)) = List.map encInt (best0 s i.toNat b) := List.take_of_length_le (by simp)
        simp [best0_succ, hci, htk]
      · simp [List.replicate]
    · have e : b = s.nodes.length := by omega
      subst e
      simp [List.replicate]
      exact weak_seal 2 (by simp) (by simp) (by simp [List.replicate])
  intro _ _
  refine cw_cut_weak (α := Unit) (fun _ => ⟨slots 77 [(1, .int .i64 i), (2, .pbox 0 0), (5, .int .i64 s.nodes.length), (6, .slref 1 0 s.nodes.length s.nodes.length)], [.cells [encL 4 encNode s.nodes, encL 1 encInt s.next], .row true 3 1 ((rowT0 s i.toNat).map encInt)]⟩) (fun _ => True) (go_ok hT ?_) ?_
  · simp [List.replicate]
    refine cw_round (fun (p : Nat) => ⟨slots 77 [(1, .int .i64 i), (2, .pbox 0 0), (5, .int .i64 s.nodes.length), (6, .slref 1 0 s.nodes.length s.nodes.length), (8, .int .i64 p)], [.cells [encL 4 encNode s.nodes, encL 1 encInt s.next], .row true 3 1 ((rounds s p (best0 s i.toNat s.nodes.length)).map encInt)]⟩)
      (fun p => p ≤ s.nodes.length) (fun p => s.nodes.length - p) 0 (by simp) ?_ ?_
    · exact weak_seal 2 (by simp) (by simp [rounds]) (by simp [List.replicate])
    rintro N hN r hr
    have hwr : IntKind.i64.wrap ((r : Int) + 1) = ((r + 1 : Nat) : Int) := by rw [wrap_i64] <;> omega
    refine go_ok hT ?_
    by_cases gr : r < s.nodes.length
    case neg =>
      have e : r = s.nodes.length := by omega
      subst e
      simp [List.replicate]
      exact weak_seal 2 (by simp) (by simp [rowT0]) (by simp [List.replicate])
    have gr2 : ¬ s.nodes.length ≤ r := by omega
    generalize hB : rounds s r (best0 s i.toNat s.nodes.length) = B1
    have hBl : B1.length = s.nodes.length := by rw [← hB]; simp
    simp [List.replicate, gr, gr2]
    refine cw_round (fun (p : Nat) => ⟨slots 77 [(1, .int .i64 i), (2, .pbox 0 0), (5, .int .i64 s.nodes.length), (6, .slref 1 0 s.nodes.length s.nodes.length), (8, .int .i64 r), (9, .int .i64 p)], [.cells [encL 4 encNode s.nodes, encL 1 encInt s.next], .row true 3 1 ((updA s p B1).map encInt)]⟩)
      (fun p => p ≤ s.nodes.length) (fun p => s.nodes.length - p) 0 (by simp) ?_ ?_
    · exact weak_seal 2 (by simp) (by simp [updA]) (by simp [List.replicate])
    rintro N2 hN2 a ha
    have hwa : IntKind.i64.wrap ((a : Int) + 1) = ((a + 1 : Nat) : Int) := by rw [wrap_i64] <;> omega
    refine go_ok hT ?_
    by_cases ga : a < s.nodes.length
    case neg =>
      have e : a = s.nodes.length := by omega
      subst e
      simp [List.replicate, hwr]
      refine hN r (r + 1) _ (by omega) (by omega) (weak_seal 2 (by simp) ?_ ?_)
      · simp [rounds, hB]
      · simp [List.replicate]
    have ga2 : ¬ s.nodes.length ≤ a := by omega
    generalize hC : updA s a B1 = B2
    have hCl : B2.length = s.nodes.length := by rw [← hC]; simp [hBl]
    simp [List.replicate, ga, ga2]
    refine cw_round (fun (p : Nat) => ⟨slots 77 [(1, .int .i64 i), (2, .pbox 0 0), (5, .int .i64 s.nodes.length), (6, .slref 1 0 s.nodes.length s.nodes.length), (8, .int .i64 r), (9, .int .i64 a), (10, .int .i64 p)], [.cells [encL 4 encNode s.nodes, encL 1 encInt s.next], .row true 3 1 ((updB s a p B2).map encInt)]⟩)
      (fun p => p ≤ s.nodes.length) (fun p => s.nodes.length - p) 0 (by simp) ?_ ?_
    · exact weak_seal 2 (by simp) (by simp [updB]) (by simp [List.replicate])
    rintro N3 hN3 b hb
    have hwb : IntKind.i64.wrap ((b : Int) + 1) = ((b + 1 : Nat) : Int) := by rw [wrap_i64] <;> omega
    refine go_ok hT ?_
    by_cases gb : b < s.nodes.length
    case neg =>
      have e : b = s.nodes.length := by omega
      subst e
      simp [List.replicate, hwa]
      refine hN2 a (a + 1) _ (by omega) (by omega) (weak_seal 2 (by simp) ?_ ?_)
      · simp [updA, hC]
      · simp [List.replicate]
    have gb2 : ¬ s.nodes.length ≤ b := by omega
    generalize hD : updB s a b B2 = B3
    have hDl : B3.length = s.nodes.length := by rw [← hD]; simp [hCl]
    have hu := upd1_get (s := s) (a := a) (b := b) (l := B3) (by omega) (by omega)
    have gb3 : b < B3.length := by omega
    have ga3 : a < B3.length := by omega
    simp [List.replicate, gb, gb2, ga, hDl, gb3, ga3, hwb, hs, msetS, -List.map_set]
    refine hN3 b (b + 1) _ (by omega) (by omega) (weak_seal 2 (by simp) ?_ ?_)
    · simp [updB, hD, ← hu]
    · simp [List.replicate]
  intro _ _
  generalize hB : rowT0 s i.toNat = B1
  have hBl : B1.length = s.nodes.length := by rw [← hB]; simp
  have hBi : i.toNat < B1.length := by omega
  have hR : rowP s i.toNat = B1.set i.toNat (if B1[i.toNat] ≤ sameT s i then sameT s i else B1[i.toNat]) := by
    unfold rowP mx
    rw [hB, hci]
    simp [List.getD_eq_getElem?_getD, hBi]
  change CW _ _ _ (retP _ (encL 1 encInt (rowP s i.toNat))) _
  rw [hR]
  have e : sameT s i = if (s.nodes[i.toNat]).many = 0 then 2 else 1 := by unfold sameT; simp [List.getD_eq_getElem?_getD, hin]
  have htk : ∀ v, List.take s.nodes.length (List.map encInt (B1.set i.toNat v)) = List.map encInt (B1.set i.toNat v) := fun v => List.take_of_length_le (by simp [hBl])
  refine cw_seq (go_ok hT ?_)
  by_cases hm : (s.nodes[i.toNat]).many = 0
  · rw [if_pos hm] at e
    simp [List.replicate, hi'.1, hil, hin, hBl, hBi, hm, bb_ex, e, msetS, -List.map_set]
    refine go_ok hT ?_
    simp [msetS, -List.map_set, hBl, htk]
  · rw [if_neg hm] at e
    simp [List.replicate, hi'.1, hil, hin, hBl, hBi, hm, bb_ex, e, msetS, -List.map_set]
    refine go_ok hT ?_
    simp [msetS, -List.map_set, hBl, htk]
theorem ok_sPathT : (ct_sPathR truthS).Ok Try.prog := by
  rintro ⟨s, i, j⟩ ⟨ht, hs⟩
  change truthS s at ht
  change szStrc s ≤ 1048576 at hs
  have hs2 := strc_le s
  have hT : TabOk Try.prog _ := tab_cons ok_l1In (tab_cons ok_l13Row tab_nil)
  refine Ok.of_cw fok_spec_PathOf (go_ok hT ?_)
  have w0 : IntKind.i64.wrap ((s.nodes.length : Int) - 1) = (s.nodes.length : Int) - 1 := by rw [wrap_i64] <;> omega
  by_cases c1 : inN s i
  case neg =>
    have c1' := c1
    unfold inN at c1'
    by_cases c0 : 0 ≤ i
    · have c2 : ¬ i ≤ (s.nodes.length : Int) - 1 := fun h => c1' ⟨c0, h⟩
      simp [code_spec_PathOf, List.replicate, w0, pathT, c1, c0, c2]
    · simp [code_spec_PathOf, List.replicate, w0, pathT, c1, c0]
  by_cases c2 : inN s j
  case neg =>
    have c1' := c1
    have c2' := c2
    unfold inN at c1' c2'
    have e1 : ¬ ((s.nodes.length : Int) - 1 < i) := by omega
    by_cases c0 : 0 ≤ j
    · have c3 : ¬ j ≤ (s.nodes.length : Int) - 1 := fun h => c2' ⟨c0, h⟩
      simp [code_spec_PathOf, List.replicate, w0, pathT, c2, c1'.1, c1'.2, c0, c3, e1]
    · simp [code_spec_PathOf, List.replicate, w0, pathT, c2, c1'.1, c1'.2, c0, e1]
  have hp := rowP_path ht c1 c2
  have c1' := c1
  have c2' := c2
  unfold inN at c1' c2'
  have e1 : ¬ ((s.nodes.length : Int) - 1 < i) := by omega
  have e2 : ¬ ((s.nodes.length : Int) - 1 < j) := by omega
  have hjn : j.toNat < s.nodes.length := by omega
  have hjl : j < s.nodes.length := by omega
  have hg : (rowP s i.toNat)[j.toNat]'(by simpa using hjn) = pathT s i j := by rw [← hp]; simp [List.getD_eq_getElem?_getD, hjn]
  simp [code_spec_PathOf, List.replicate, w0, c1, c1'.1, c1'.2, c2'.1, c2'.2, e1, e2, hs, hjn, hjl, hg]
end Go.Vm
