/- Formulas evaluated by the reference: what has no parts. No condition. -/
import Derived.Test.YtfelkhckpfjgjaaGreatTJB
set_option linter.unusedSimpArgs false
set_option linter.unusedVariables false
namespace Go.Vm
open Go.Proofs
def code_spec_l13One : F := ⟨42,[.tmp 6],.seq (.reg [⟨some 3,.box (.t 0),none⟩,⟨some 4,.box (.t 1),none⟩,⟨some 6,.mov (.k (.int .i64 0)),none⟩]) (.seq (.block 0 (.seq (.reg [⟨some 8,.mov (.t 2),none⟩,⟨some 9,.bin .lss (.t 8) (.k (.int .i64 0)),none⟩,⟨some 7,.mov (.t 9),none⟩]) (.cond (.t 7) (.seq (.reg [⟨some 6,.mov (.k (.int .i64 1)),none⟩]) (.ret)) (.seq (.reg [⟨some 11,.faddr 0 (.t 4),none⟩,⟨some 12,.load 1 false (.t 11),none⟩,⟨some 13,.bin .eql (.t 12) (.k (.int .i64 2)),none⟩,⟨some 10,.mov (.t 13),none⟩]) (.cond (.t 10) (.seq (.dreg [false,false,false,false,false,false,false,false,true,true] [false,false,false,false,false,false,false,false,true,false] [⟨some 14,.faddr 0 (.t 3),none⟩,⟨some 15,.load 1 false (.t 14),none⟩,⟨some 16,.mov (.t 2),none⟩,⟨some 17,.iaddr 4 (.t 15) (.t 16),none⟩,⟨some 18,.faddr 0 (.t 17),none⟩,⟨some 19,.load 1 false (.t 18),none⟩,⟨some 20,.faddr 1 (.t 4),none⟩,⟨some 21,.load 1 false (.t 20),none⟩,⟨some 22,.call 87 [.t 19,.t 21],none⟩,⟨some 6,.mov (.t 22),none⟩]) (.ret)) (.seq (.reg [⟨some 24,.faddr 0 (.t 4),none⟩,⟨some 25,.load 1 false (.t 24),none⟩,⟨some 26,.bin .eql (.t 25) (.k (.int .i64 3)),none⟩,⟨some 23,.mov (.t 26),none⟩]) (.cond (.t 23) (.seq (.dreg [false,false,false,false,false,false,false,false,true,true] [false,false,false,false,false,false,false,false,true,false] [⟨some 27,.faddr 0 (.t 3),none⟩,⟨some 28,.load 1 false (.t 27),none⟩,⟨some 29,.mov (.t 2),none⟩,⟨some 30,.iaddr 4 (.t 28) (.t 29),none⟩,⟨some 31,.faddr 1 (.t 30),none⟩,⟨some 32,.load 1 false (.t 31),none⟩,⟨some 33,.faddr 1 (.t 4),none⟩,⟨some 34,.load 1 false (.t 33),none⟩,⟨some 35,.call 87 [.t 32,.t 34],none⟩,⟨some 6,.mov (.t 35),none⟩]) (.ret)) (.skip)))))))) (.seq (.reg [⟨some 36,.faddr 0 (.t 3),none⟩,⟨some 37,.load 1 false (.t 36),none⟩,⟨some 38,.mov (.t 2),none⟩,⟨some 39,.iaddr 4 (.t 37) (.t 38),none⟩,⟨some 40,.faddr 2 (.t 39),none⟩,⟨some 41,.load 1 false (.t 40),none⟩,⟨some 6,.mov (.t 41),none⟩]) (.ret)))⟩
theorem fok_spec_l13One : FOk Tryz.prog 114 code_spec_l13One := fok Tryz.func114 (by kernel_rfl)
def code_spec_l13Two : F := ⟨44,[.tmp 8],.seq (.reg [⟨some 4,.box (.t 0),none⟩,⟨some 5,.box (.t 1),none⟩,⟨some 8,.mov (.k (.int .i64 0)),none⟩]) (.seq (.block 0 (.seq (.reg [⟨some 10,.mov (.t 2),none⟩,⟨some 11,.bin .lss (.t 10) (.k (.int .i64 0)),none⟩,⟨some 12,.mov (.t 11),none⟩,⟨some 13,.mov (.t 3),some (12,false)⟩,⟨some 14,.bin .lss (.t 13) (.k (.int .i64 0)),some (12,false)⟩,⟨some 15,.pick (.t 12) (.k (.bool true)) (.t 14),none⟩,⟨some 9,.mov (.t 15),none⟩]) (.cond (.t 9) (.seq (.reg [⟨some 8,.mov (.k (.int .i64 1)),none⟩]) (.ret)) (.seq (.reg [⟨some 17,.faddr 0 (.t 5),none⟩,⟨some 18,.load 1 false (.t 17),none⟩,⟨some 19,.bin .eql (.t 18) (.k (.int .i64 5)),none⟩,⟨some 16,.mov (.t 19),none⟩]) (.cond (.t 16) (.seq (.reg [⟨some 20,.load 2 true (.t 4),none⟩,⟨some 21,.mov (.t 2),none⟩,⟨some 22,.mov (.t 3),none⟩,⟨some 23,.call 121 [.t 20,.t 21,.t 22],none⟩,⟨some 8,.mov (.t 23),none⟩]) (.ret)) (.seq (.reg [⟨some 25,.faddr 0 (.t 5),none⟩,⟨some 26,.load 1 false (.t 25),none⟩,⟨some 27,.bin .eql (.t 26) (.k (.int .i64 7)),none⟩,⟨some 24,.mov (.t 27),none⟩]) (.cond (.t 24) (.seq (.reg [⟨some 28,.load 2 true (.t 4),none⟩,⟨some 29,.mov (.t 2),none⟩,⟨some 30,.mov (.t 3),none⟩,⟨some 31,.call 122 [.t 28,.t 29,.t 30],none⟩,⟨some 8,.mov (.t 31),none⟩]) (.ret)) (.seq (.reg [⟨some 33,.mov (.t 2),none⟩,⟨some 34,.mov (.t 3),none⟩,⟨some 35,.bin .neq (.t 33) (.t 34),none⟩,⟨some 32,.mov (.t 35),none⟩]) (.cond (.t 32) (.seq (.reg [⟨some 8,.mov (.k (.int .i64 0)),none⟩]) (.ret)) (.seq (.reg [⟨some 37,.faddr 0 (.t 4),none⟩,⟨some 38,.load 1 false (.t 37),none⟩,⟨some 39,.mov (.t 2),none⟩,⟨some 40,.iaddr 4 (.t 38) (.t 39),none⟩,⟨some 41,.faddr 3 (.t 40),none⟩,⟨some 42,.load 1 false (.t 41),none⟩,⟨some 43,.bin .eql (.t 42) (.k (.int .i64 0)),none⟩,⟨some 36,.mov (.t 43),none⟩]) (.cond (.t 36) (.seq (.reg [⟨some 8,.mov (.k (.int .i64 2)),none⟩]) (.ret)) (.skip)))))))))))) (.seq (.reg [⟨some 8,.mov (.k (.int .i64 1)),none⟩]) (.ret)))⟩
theorem fok_spec_l13Two : FOk Tryz.prog 116 code_spec_l13Two := fok Tryz.func116 (by kernel_rfl)
@[simp] noncomputable def ct_sPathR (R : Strc → Prop) : Ct := ⟨122, Strc × Int × Int, fun x => R x.1 ∧ szStrc x.1 ≤ 1048576, fun x => [encStrc x.1, .int .i64 x.2.1, .int .i64 x.2.2], fun x => .int .i64 (pathT x.1 x.2.1 x.2.2)⟩
@[simp] def ct_l13One : Ct := ⟨114, Strc × Fm × Int, fun x => szStrc x.1 ≤ 1048576 ∧ (2 ≤ x.2.1.kind ∧ x.2.1.kind ≤ 4) ∧ (x.2.2 = -1 ∨ inN x.1 x.2.2),
  fun x => [encStrc x.1, encFm x.2.1, .int .i64 x.2.2], fun x => .int .i64 (oneT x.1 x.2.1 x.2.2)⟩
set_option maxHeartbeats 2000000 in
set_option maxRecDepth 100000 in
theorem ok_l13One : ct_l13One.Ok Tryz.prog := by
  rintro ⟨s, ⟨kind, k, u, v, args⟩, i⟩ ⟨hs, hk, hi⟩
  change szStrc s ≤ 1048576 at hs
  change 2 ≤ kind ∧ kind ≤ 4 at hk
  change i = -1 ∨ inN s i at hi
  have hT : TabOk Tryz.prog _ := tab_cons ok_l13At tab_nil
  have hI : inN s i → 0 ≤ i ∧ ¬ i < 0 ∧ i < s.nodes.length ∧ i.toNat < s.nodes.length := fun h => by unfold inN at h; omega
  have hv : inN s i → (nodeI s i).vars.length ≤ 1048576 ∧ (nodeI s i).reach.length ≤ 1048576 := fun h => by
    have h1 := node_le (x := s) (n := nodeI s i) (by rw [nodeI_get (hI h).2.2.2]; exact List.getElem_mem _)
    omega
  refine Ok.of_cw fok_spec_l13One ?_
  simp only [code_spec_l13One, frame, List.length_cons, List.length_nil, List.replicate, Nat.reduceSub, Nat.reduceAdd, List.cons_append, List.nil_append]
  refine cw_seq (go_ok hT ?_)
  simp
  refine cw_seq (go_ok hT ?_)
  rcases hi with rfl | hi
  · simp [oneT]
  · obtain ⟨i0, i1, i2, i3⟩ := hI hi
    obtain ⟨v1, v2⟩ := hv hi
    have e := nodeI_get i3
    rw [e] at v1 v2
    obtain rfl | rfl | rfl : kind = 2 ∨ kind = 3 ∨ kind = 4 := by omega
    · simp [oneT, i0, i1, i2, i3, e, v1, v2]
    · simp [oneT, i0, i1, i2, i3, e, v1, v2]
    · simp [oneT, i0, i1, i2, i3, e, v1, v2]
      refine go_ok hT ?_
      simp [i0, i1, i2, i3, e, v1, v2]
@[simp] noncomputable def ct_l13Two (R : Strc → Prop) : Ct := ⟨116, Strc × Fm × Int × Int, fun x => szStrc x.1 ≤ 1048576 ∧ (5 ≤ x.2.1.kind ∧ x.2.1.kind ≤ 7) ∧ (x.2.2.1 = -1 ∨ inN x.1 x.2.2.1) ∧ (x.2.2.2 = -1 ∨ inN x.1 x.2.2.2) ∧ (R x.1 ∨ x.2.1.kind ≠ 7),
  fun x => [encStrc x.1, encFm x.2.1, .int .i64 x.2.2.1, .int .i64 x.2.2.2], fun x => .int .i64 (twoT x.1 x.2.1 x.2.2.1 x.2.2.2)⟩
set_option maxHeartbeats 2000000 in
set_option maxRecDepth 100000 in
theorem ok_l13Two {R : Strc → Prop} (hP : (ct_sPathR R).Ok Tryz.prog) : (ct_l13Two R).Ok Tryz.prog := by
  rintro ⟨s, ⟨kind, k, u, v, args⟩, i, j⟩ ⟨hs, hk, hi, hj, hR⟩
  change szStrc s ≤ 1048576 at hs
  change 5 ≤ kind ∧ kind ≤ 7 at hk
  change i = -1 ∨ inN s i at hi
  change j = -1 ∨ inN s j at hj
  change R s ∨ kind ≠ 7 at hR
  have hT : TabOk Tryz.prog _ := tab_cons ok_sNextOf (tab_cons hP tab_nil)
  have hI : inN s i → 0 ≤ i ∧ ¬ i < 0 ∧ i < s.nodes.length ∧ i.toNat < s.nodes.length := fun h => by unfold inN at h; omega
  have hJ : inN s j → ¬ j < 0 := fun h => by unfold inN at h; omega
  refine Ok.of_cw fok_spec_l13Two ?_
  simp only [code_spec_l13Two, frame, List.length_cons, List.length_nil, List.replicate, Nat.reduceSub, Nat.reduceAdd, List.cons_append, List.nil_append]
  refine cw_seq (go_ok hT ?_)
  simp
  refine cw_seq (go_ok hT ?_)
  rcases hi with rfl | hi
  · simp [twoT]
  · obtain ⟨i0, i1, i2, i3⟩ := hI hi
    rcases hj with rfl | hj
    · simp [twoT, i1]
    · have j1 := hJ hj
      obtain rfl | rfl | rfl : kind = 5 ∨ kind = 6 ∨ kind = 7 := by omega
      · simp [twoT, i1, j1, hs]
      · by_cases hij : i = j
        · subst hij
          have e : sameT s i = if (s.nodes[i.toNat]).many = 0 then 2 else 1 := by unfold sameT; simp [List.getD_eq_getElem?_getD, i3]
          by_cases hm : (s.nodes[i.toNat]).many = 0
          · simp [twoT, i0, i1, i2, i3, e, hm]
          · simp [twoT, i0, i1, i2, i3, e, hm]
            refine go_ok hT ?_
            simp
        · simp [twoT, i1, j1, hij]
      · have hRs : R s := by rcases hR with h | h; exact h; exact absurd rfl h
        simp [twoT, i1, j1, hs, hRs]
end Go.Vm
namespace Go.Vm
open Go.Proofs
def code_spec_l13Over : F := ⟨73,[.tmp 6],.seq (.reg [⟨some 3,.box (.t 0),none⟩,⟨some 4,.box (.t 1),none⟩,⟨some 6,.mov (.k (.int .i64 0)),none⟩]) (.seq (.reg [⟨some 12,.bsl 3 1 4 (.int .i64 0) [(0,(.k (.int .i64 (-1)))),(1,(.k (.int .i64 (-1)))),(2,(.k (.int .i64 (-1)))),(3,(.k (.int .i64 (-1))))],none⟩,⟨some 7,.mov (.t 12),none⟩]) (.seq (.seq (.reg [⟨some 8,.mov (.k (.int .i64 0)),none⟩]) (.block 0 (.loop (.seq (.seq (.reg [⟨some 13,.mov (.t 8),none⟩,⟨some 14,.bin .lss (.t 13) (.k (.int .i64 4)),none⟩,⟨some 15,.mov (.t 14),none⟩,⟨some 16,.mov (.t 8),some (15,true)⟩,⟨some 17,.mov (.t 2),some (15,true)⟩,⟨some 18,.len (.t 17),some (15,true)⟩,⟨some 19,.bin .lss (.t 16) (.t 18),some (15,true)⟩,⟨some 20,.pick (.t 15) (.t 19) (.k (.bool false)),none⟩]) (.cond (.t 20) (.skip) (.exit 0))) (.seq (.block 1 (.reg [⟨some 23,.mov (.t 7),none⟩,⟨some 24,.mov (.t 8),none⟩,⟨some 25,.mov (.t 2),none⟩,⟨some 26,.mov (.t 8),none⟩,⟨some 27,.iaddr 1 (.t 25) (.t 26),none⟩,⟨some 28,.load 1 false (.t 27),none⟩,⟨some 29,.iaddr 1 (.t 23) (.t 24),none⟩,⟨none,.store 1 (.t 29) (.t 28),none⟩])) (.reg [⟨some 21,.mov (.t 8),none⟩,⟨some 22,.bin .add (.t 21) (.k (.int .i64 1)),none⟩,⟨some 8,.mov (.t 22),none⟩])))))) (.seq (.seq (.reg [⟨some 30,.faddr 2 (.t 4),none⟩,⟨some 31,.load 1 false (.t 30),none⟩,⟨some 32,.call 59 [.t 31,(.k (.int .i64 0)),(.k (.int .i64 3))],none⟩,⟨some 33,.not (.t 32),none⟩]) (.cond (.t 33) (.seq (.reg [⟨some 6,.mov (.k (.int .i64 1)),none⟩]) (.ret)) (.skip))) (.seq (.reg [⟨some 34,.faddr 0 (.t 4),none⟩,⟨some 35,.load 1 false (.t 34),none⟩,⟨some 36,.bin .eql (.t 35) (.k (.int .i64 12)),none⟩,⟨some 37,.call 60 [.t 36],none⟩,⟨some 9,.mov (.t 37),none⟩]) (.seq (.seq (.reg [⟨some 10,.mov (.k (.int .i64 0)),none⟩]) (.block 2 (.loop (.seq (.seq (.reg [⟨some 38,.mov (.t 10),none⟩,⟨some 39,.faddr 0 (.t 3),none⟩,⟨some 40,.load 1 false (.t 39),none⟩,⟨some 41,.len (.t 40),none⟩,⟨some 42,.bin .lss (.t 38) (.t 41),none⟩]) (.cond (.t 42) (.skip) (.exit 2))) (.seq (.block 3 (.seq (.reg [⟨some 45,.mov (.t 7),none⟩,⟨some 46,.faddr 2 (.t 4),none⟩,⟨some 47,.load 1 false (.t 46),none⟩,⟨some 48,.mov (.t 10),none⟩,⟨some 49,.iaddr 1 (.t 45) (.t 47),none⟩,⟨none,.store 1 (.t 49) (.t 48),none⟩]) (.seq (.dreg [false,false,false,false,false,false,true,true] [false,false,false,false,false,false,true,false] [⟨some 50,.load 2 true (.t 3),none⟩,⟨some 51,.faddr 4 (.t 4),none⟩,⟨some 52,.load 1 false (.t 51),none⟩,⟨some 53,.iaddr 5 (.t 52) (.k (.int .i64 0)),none⟩,⟨some 54,.load 5 true (.t 53),none⟩,⟨some 55,.mov (.t 7),none⟩,⟨some 56,.call 78 [.t 50,.t 54,.t 55],none⟩,⟨some 11,.mov (.t 56),none⟩]) (.seq (.seq (.reg [⟨some 57,.faddr 0 (.t 4),none⟩,⟨some 58,.load 1 false (.t 57),none⟩,⟨some 59,.bin .eql (.t 58) (.k (.int .i64 12)),none⟩]) (.cond (.t 59) (.reg [⟨some 60,.mov (.t 9),none⟩,⟨some 61,.mov (.t 11),none⟩,⟨some 62,.call 76 [.t 60,.t 61],none⟩,⟨some 9,.mov (.t 62),none⟩]) (.reg [⟨some 63,.mov (.t 9),none⟩,⟨some 64,.mov (.t 11),none⟩,⟨some 65,.call 119 [.t 63,.t 64],none⟩,⟨some 9,.mov (.t 65),none⟩]))) (.seq (.reg [⟨some 66,.mov (.t 9),none⟩,⟨some 67,.faddr 0 (.t 4),none⟩,⟨some 68,.load 1 false (.t 67),none⟩,⟨some 69,.bin .eql (.t 68) (.k (.int .i64 11)),none⟩,⟨some 70,.call 60 [.t 69],none⟩,⟨some 71,.bin .eql (.t 66) (.t 70),none⟩]) (.cond (.t 71) (.exit 2) (.skip))))))) (.reg [⟨some 43,.mov (.t 10),none⟩,⟨some 44,.bin .add (.t 43) (.k (.int .i64 1)),none⟩,⟨some 10,.mov (.t 44),none⟩])))))) (.seq (.reg [⟨some 72,.mov (.t 9),none⟩,⟨some 6,.mov (.t 72),none⟩]) (.ret)))))))⟩
theorem fok_spec_l13Over : FOk Tryz.prog 117 code_spec_l13Over := fok Tryz.func117 (by kernel_rfl)
theorem bb_ex {p : BB → Prop} {c : Bool} : (∃ x : BB, x.b = c ∧ p x) = p ⟨c⟩ := propext ⟨fun ⟨x, h, g⟩ => by cases x; cases h; exact g, fun h => ⟨⟨c⟩, rfl, h⟩⟩
theorem msetS (l : List Int) (k : Nat) (v : Int) : (l.map encInt).set k (.int .i64 v) = (l.set k v).map encInt := by rw [List.map_set]; rfl
@[simp] noncomputable def ct_sEvalN (R : Strc → Prop) (n : Nat) : Ct := ⟨78, Strc × Fm × List Int, fun x => szStrc x.1 ≤ 1048576 ∧ x.2.2.length ≤ 1048576 ∧ x.2.1.size ≤ n ∧ (R x.1 ∨ noPathF x.2.1 = true),
  fun x => [encStrc x.1, encFm x.2.1, encL 1 encInt x.2.2], fun x => .int .i64 (evalN x.1 n x.2.1 x.2.2)⟩
@[simp] noncomputable def ct_sOverN (R : Strc → Prop) (n : Nat) : Ct := ⟨117, Strc × Fm × List Int, fun x => szStrc x.1 ≤ 1048576 ∧ x.2.2.length ≤ 1048576 ∧ x.2.1.size ≤ n + 1 ∧ (R x.1 ∨ noPathF x.2.1 = true) ∧ (x.2.1.kind = 11 ∨ x.2.1.kind = 12) ∧ x.2.1.args.length = 1,
  fun x => [encStrc x.1, encFm x.2.1, encL 1 encInt x.2.2], fun x => .int .i64 (evalN x.1 (n + 1) x.2.1 x.2.2)⟩
def padTo (l : List Int) (k : Nat) : List Int := l.take k ++ [-1, -1, -1, -1].drop k
theorem padTo_len {l : List Int} {k : Nat} (h : k ≤ l.length) (h4 : k ≤ 4) : (padTo l k).length = 4 := by
  unfold padTo
  simp only [List.length_append, List.length_take, List.length_drop, List.length_cons, List.length_nil]
  omega
theorem padTo_succ {l : List Int} {k : Nat} (h : k < l.length) (h4 : k < 4) : (padTo l k).set k l[k] = padTo l (k + 1) := by
  unfold padTo
  rw [List.set_append_right _ _ (by simp; omega), List.take_succ_eq_append_getElem h, List.append_assoc]
  congr 1
  rw [List.length_take, Nat.min_eq_left (by omega), Nat.sub_self]
  obtain rfl | rfl | rfl | rfl : k = 0 ∨ k = 1 ∨ k = 2 ∨ k = 3 := by omega
  all_goals simp
theorem padTo_end {l : List Int} {k : Nat} (h : k ≤ l.length) (h4 : k ≤ 4) (he : ¬ (k < 4 ∧ k < l.length)) : padTo l k = pad4 l := by
  unfold padTo pad4
  by_cases g : l.length ≤ 4
  · have : k = l.length := by omega
    subst this
    rw [List.take_of_length_le (Nat.le_refl _), List.take_of_length_le g, Nat.min_eq_left g]
  · have : k = 4 := by omega
    subst this
    rw [Nat.min_eq_right (by omega)]
set_option maxHeartbeats 8000000 in
set_option maxRecDepth 100000 in
theorem ok_sOverN {R : Strc → Prop} {n : Nat} (ih : (ct_sEvalN R n).Ok Tryz.prog) : (ct_sOverN R n).Ok Tryz.prog := by
  rintro ⟨s, ⟨kind, k, u, v, args⟩, nodes⟩ ⟨hs, hl, hz, hR, hk, ha⟩
  change szStrc s ≤ 1048576 at hs
  change nodes.length ≤ 1048576 at hl
  change (Fm.mk kind k u v args).size ≤ n + 1 at hz
  change R s ∨ noPathF (.mk kind k u v args) = true at hR
  change kind = 11 ∨ kind = 12 at hk
  change args.length = 1 at ha
  have hs2 := strc_le s
  simp only [Fm.size] at hz
  simp only [noPathF, Bool.and_eq_true, decide_eq_true_eq] at hR
  obtain ⟨x, rfl⟩ := List.length_eq_one_iff.1 ha
  simp only [sizes] at hz
  have hx : x.size ≤ n := by omega
  have hRx : R s ∨ noPathF x = true := hR.imp id (fun h => by have := h.2; simp only [noPathS, Bool.and_eq_true] at this; exact this.1)
  have hT : TabOk Tryz.prog _ := tab_cons ok_l1In (tab_cons ok_l3Of (tab_cons ok_sAndOf (tab_cons ok_sOrOf (tab_cons ih tab_nil))))
  refine Ok.of_cw fok_spec_l13Over ?_
  simp only [code_spec_l13Over, frame, List.length_cons, List.length_nil, List.replicate, Nat.reduceSub, Nat.reduceAdd, List.cons_append, List.nil_append]
  refine cw_seq (go_ok hT ?_)
  simp
  refine cw_seq (go_ok hT ?_)
  simp
  refine cw_cut_weak (α := Unit) (fun _ => ⟨slots 73 [(3, .pbox 0 0), (4, .pbox 1 0), (7, .slref 2 0 4 4)], [.cells [encL 4 encNode s.nodes, encL 1 encInt s.next], .cells [.int .i64 kind, .int .i64 k, .int .i64 u, .int .i64 v, encL 5 encFm [x]], .row true 3 1 ((pad4 nodes).map encInt)]⟩) (fun _ => True) (go_ok hT ?_) ?_
  · simp
    refine cw_round (fun (p : Nat) => ⟨slots 73 [(2, encL 1 encInt nodes), (3, .pbox 0 0), (4, .pbox 1 0), (7, .slref 2 0 4 4), (8, .int .i64 p)], [.cells [encL 4 encNode s.nodes, encL 1 encInt s.next], .cells [.int .i64 kind, .int .i64 k, .int .i64 u, .int .i64 v, encL 5 encFm [x]], .row true 3 1 ((padTo nodes p).map encInt)]⟩)
      (fun p => p ≤ 4 ∧ p ≤ nodes.length) (fun p => 4 - p) 0 ⟨by simp, by simp⟩ ?_ ?_
    · refine weak_seal 3 (by simp) ?_ ?_
      · simp [padTo]
      · simp [List.replicate]
    rintro N hN q ⟨hq4, hql⟩
    have hwq : IntKind.i64.wrap ((q : Int) + 1) = ((q + 1 : Nat) : Int) := by rw [wrap_i64] <;> omega
    have hpl := padTo_len hql hq4
    refine go_ok hT ?_
    by_cases g4 : q < 4
    · by_cases gl : q < nodes.length
      · have g4' : (q : Int) < 4 := by omega
        have gl' : ¬ nodes.length ≤ q := by omega
        have hps := padTo_succ gl g4
        simp [List.replicate, hwq, g4, gl, gl', g4', hpl, msetS, -List.map_set]
        refine hN q (q + 1) _ ⟨by omega, by omega⟩ (by omega) (weak_seal 3 (by simp) ?_ ?_)
        · simp [hps]
        · simp [List.replicate]
      · have g4' : (q : Int) < 4 := by omega
        have gl' : nodes.length ≤ q := by omega
        rw [padTo_end hql hq4 (by omega)]
        simp [List.replicate, g4, gl, gl', g4']
        refine weak_seal 3 (by simp) ?_ ?_
        · simp
        · simp [List.replicate]
    · have g4' : ¬ (q : Int) < 4 := by omega
      rw [padTo_end hql hq4 (by omega)]
      simp [List.replicate, g4, g4']
      refine weak_seal 3 (by simp) ?_ ?_
      · simp
      · simp [List.replicate]
  intro _ _
  refine cw_seq (go_ok hT ?_)
  have har : arity kind = 1 := by rcases hk with rfl | rfl <;> simp [arity]
  by_cases u0 : 0 ≤ u
  case neg =>
    have hE : evalN s (n + 1) (.mk kind k u v [x]) nodes = 1 := by rcases hk with rfl | rfl <;> simp [evalN, arity, u0]
    simp [List.replicate, hE, u0]
  by_cases u3 : u ≤ 3
  case neg =>
    have u3' : 3 < u := by omega
    have hE : evalN s (n + 1) (.mk kind k u v [x]) nodes = 1 := by rcases hk with rfl | rfl <;> simp [evalN, arity, u0, u3]
    simp [List.replicate, hE, u0, u3, u3']
  have hu4 : u.toNat < 4 := by omega
  have hu5 : u < 4 := by omega
  have u3' : ¬ 3 < u := by omega
  have hE : evalN s (n + 1) (.mk kind k u v [x]) nodes = overT (decide (kind = 12)) s.nodes.length (fun i => evalN s n x ((pad4 nodes).set u.toNat (i : Nat))) := by
    rcases hk with rfl | rfl <;> simp [evalN, arity, u0, u3, fget]
  change go _ _ _ _ (thenS _ (retP _ (.int .i64 (evalN s (n + 1) (.mk kind k u v [x]) nodes)))) _
  rw [hE]
  have hgt : ∀ i, isTruth ((fun i : Nat => evalN s n x ((pad4 nodes).set u.toNat (i : Nat))) i) = true := fun i => evalN_truth _ _ _ _
  simp [List.replicate, u0, u3, u3']
  rcases hk with rfl | rfl
  · refine cw_seq (go_ok hT ?_)
    simp [bb_ex, trI]
    refine cw_seq (go_ok hT ?_)
    simp
    refine cw_round (fun (p : Nat × List Int) => ⟨slots 73 [(3, .pbox 0 0), (4, .pbox 1 0), (7, .slref 2 0 4 4), (9, .int .i64 (overT false p.1 (fun i => evalN s n x ((pad4 nodes).set u.toNat (i : Nat))))), (10, .int .i64 p.1)], [.cells [encL 4 encNode s.nodes, encL 1 encInt s.next], .cells [.int .i64 11, .int .i64 k, .int .i64 u, .int .i64 v, encL 5 encFm [x]], .row true 3 1 (p.2.map encInt)]⟩)
        (fun p => p.1 ≤ s.nodes.length ∧ p.2.length = 4 ∧ ∀ a, p.2.set u.toNat a = (pad4 nodes).set u.toNat a) (fun p => s.nodes.length - p.1) (0, pad4 nodes) ⟨by simp, by simp, fun _ => rfl⟩ ?_ ?_
    · refine weak_seal 3 (by simp) ?_ ?_
      · simp
      · simp [List.replicate, overT_zero]
    · rintro N hN ⟨i, l⟩ ⟨hi, hl4, hset⟩
      change i ≤ s.nodes.length at hi
      change l.length = 4 at hl4
      have hw : IntKind.i64.wrap ((i : Int) + 1) = ((i + 1 : Nat) : Int) := by rw [wrap_i64] <;> omega
      have ht : ∀ a, List.take 4 (List.map encInt (l.set u.toNat a)) = List.map encInt (l.set u.toNat a) := fun a => List.take_of_length_le (by simp [hl4])
      have ht2 : List.take 4 (List.map encInt ((pad4 nodes).set u.toNat (i : Nat))) = List.map encInt ((pad4 nodes).set u.toNat (i : Nat)) := List.take_of_length_le (by simp)
      have h1 := hset (i : Int)
      have h2 : orT (overT false i (fun i => evalN s n x ((pad4 nodes).set u.toNat (i : Nat)))) (evalN s n x ((pad4 nodes).set u.toNat (i : Nat))) = overT false (i + 1) (fun i => evalN s n x ((pad4 nodes).set u.toNat (i : Nat))) := by rw [overT_succ]; rfl
      refine go_ok hT ?_
      by_cases g : i < s.nodes.length
      · have g2 : ¬ s.nodes.length ≤ i := by omega
        by_cases hb : overT false (i + 1) (fun i => evalN s n x ((pad4 nodes).set u.toNat (i : Nat))) = 2
        · have he := overT_stop false hgt (m := i + 1) (by simpa using hb) (s.nodes.length - (i + 1))
          rw [show i + 1 + (s.nodes.length - (i + 1)) = s.nodes.length by omega] at he
          simp only [Bool.false_eq_true, if_false] at he
          simp [List.replicate, hw, g, g2, hu4, hu5, u0, hl4, hs, hx, hRx, msetS, ht, ht2, -List.map_set, h1, h2, hb, bb_ex, trI]
          refine go_ok hT ?_
          simp [he]
        · simp [List.replicate, hw, g, g2, hu4, hu5, u0, hl4, hs, hx, hRx, msetS, ht, ht2, -List.map_set, h1, h2, hb, bb_ex, trI]
          refine hN (i, l) (i + 1, (pad4 nodes).set u.toNat (i : Nat)) _ ⟨by simp; omega, by simp, by simp⟩ (by simp; omega) (weak_seal 3 (by simp) ?_ ?_)
          · simp
          · simp [List.replicate]
      · have e : i = s.nodes.length := by omega
        subst e
        simp [List.replicate]
        refine go_ok hT ?_
        simp
  · refine cw_seq (go_ok hT ?_)
    simp [bb_ex, trI]
    refine cw_seq (go_ok hT ?_)
    simp
    refine cw_round (fun (p : Nat × List Int) => ⟨slots 73 [(3, .pbox 0 0), (4, .pbox 1 0), (7, .slref 2 0 4 4), (9, .int .i64 (overT true p.1 (fun i => evalN s n x ((pad4 nodes).set u.toNat (i : Nat))))), (10, .int .i64 p.1)], [.cells [encL 4 encNode s.nodes, encL 1 encInt s.next], .cells [.int .i64 12, .int .i64 k, .int .i64 u, .int .i64 v, encL 5 encFm [x]], .row true 3 1 (p.2.map encInt)]⟩)
        (fun p => p.1 ≤ s.nodes.length ∧ p.2.length = 4 ∧ ∀ a, p.2.set u.toNat a = (pad4 nodes).set u.toNat a) (fun p => s.nodes.length - p.1) (0, pad4 nodes) ⟨by simp, by simp, fun _ => rfl⟩ ?_ ?_
    · refine weak_seal 3 (by simp) ?_ ?_
      · simp
      · simp [List.replicate, overT_zero]
    · rintro N hN ⟨i, l⟩ ⟨hi, hl4, hset⟩
      change i ≤ s.nodes.length at hi
      change l.length = 4 at hl4
      have hw : IntKind.i64.wrap ((i : Int) + 1) = ((i + 1 : Nat) : Int) := by rw [wrap_i64] <;> omega
      have ht : ∀ a, List.take 4 (List.map encInt (l.set u.toNat a)) = List.map encInt (l.set u.toNat a) := fun a => List.take_of_length_le (by simp [hl4])
      have ht2 : List.take 4 (List.map encInt ((pad4 nodes).set u.toNat (i : Nat))) = List.map encInt ((pad4 nodes).set u.toNat (i : Nat)) := List.take_of_length_le (by simp)
      have h1 := hset (i : Int)
      have h2 : andT (overT true i (fun i => evalN s n x ((pad4 nodes).set u.toNat (i : Nat)))) (evalN s n x ((pad4 nodes).set u.toNat (i : Nat))) = overT true (i + 1) (fun i => evalN s n x ((pad4 nodes).set u.toNat (i : Nat))) := by rw [overT_succ]; rfl
      refine go_ok hT ?_
      by_cases g : i < s.nodes.length
      · have g2 : ¬ s.nodes.length ≤ i := by omega
        by_cases hb : overT true (i + 1) (fun i => evalN s n x ((pad4 nodes).set u.toNat (i : Nat))) = 0
        · have he := overT_stop true hgt (m := i + 1) (by simpa using hb) (s.nodes.length - (i + 1))
          rw [show i + 1 + (s.nodes.length - (i + 1)) = s.nodes.length by omega] at he
          simp only [if_true] at he
          simp [List.replicate, hw, g, g2, hu4, hu5, u0, hl4, hs, hx, hRx, msetS, ht, ht2, -List.map_set, h1, h2, hb, bb_ex, trI]
          refine go_ok hT ?_
          simp [he]
        · simp [List.replicate, hw, g, g2, hu4, hu5, u0, hl4, hs, hx, hRx, msetS, ht, ht2, -List.map_set, h1, h2, hb, bb_ex, trI]
          refine hN (i, l) (i + 1, (pad4 nodes).set u.toNat (i : Nat)) _ ⟨by simp; omega, by simp, by simp⟩ (by simp; omega) (weak_seal 3 (by simp) ?_ ?_)
          · simp
          · simp [List.replicate]
      · have e : i = s.nodes.length := by omega
        subst e
        simp [List.replicate]
        refine go_ok hT ?_
        simp
end Go.Vm
