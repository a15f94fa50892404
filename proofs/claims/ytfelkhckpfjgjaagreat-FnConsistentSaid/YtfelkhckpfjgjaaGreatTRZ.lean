/- Reaching in a structure, and paths: the program. No condition. -/
import Derived.Test.YtfelkhckpfjgjaaGreatTRX
import Derived.Test.YtfelkhckpfjgjaaGreatTEH
import Derived.Test.YtfelkhckpfjgjaaGreatTEJ
set_option linter.unusedSimpArgs false
set_option linter.unusedVariables false
namespace Go.Vm
open Go.Proofs
def code_impl_reaches : F := ⟨56,[.tmp 8],.seq (.reg [⟨some 4,.box (.t 0),none⟩,⟨some 8,.mov (.k (.bool false)),none⟩]) (.seq (.reg [⟨some 13,.faddr 0 (.t 4),none⟩,⟨some 14,.load 1 false (.t 13),none⟩,⟨some 15,.len (.t 14),none⟩,⟨some 16,.mksl 4 1 1 (.bool false) (.t 15) (.t 15),none⟩,⟨some 17,.mov (.t 1),none⟩,⟨some 18,.bsl 3 1 1 (.int .i64 0) [(0,.t 17)],none⟩,⟨some 9,.mov (.t 16),none⟩,⟨some 10,.mov (.t 18),none⟩]) (.seq (.block 0 (.loop (.seq (.seq (.reg [⟨some 19,.mov (.t 10),none⟩,⟨some 20,.len (.t 19),none⟩,⟨some 21,.bin .gtr (.t 20) (.k (.int .i64 0)),none⟩]) (.cond (.t 21) (.skip) (.exit 0))) (.block 1 (.seq (.reg [⟨some 22,.mov (.t 10),none⟩,⟨some 23,.iaddr 1 (.t 22) (.k (.int .i64 0)),none⟩,⟨some 24,.load 1 false (.t 23),none⟩,⟨some 11,.mov (.t 24),none⟩]) (.seq (.reg [⟨some 25,.mov (.t 10),none⟩,⟨some 26,.slice 1 (.t 25) (some (.k (.int .i64 1))) none,none⟩,⟨some 10,.mov (.t 26),none⟩]) (.seq (.reg [⟨some 27,.faddr 0 (.t 4),none⟩,⟨some 28,.load 1 false (.t 27),none⟩,⟨some 29,.len (.t 28),none⟩,⟨some 30,.mov (.k (.int .i64 0)),none⟩]) (.block 2 (.loop (.seq (.reg [⟨some 31,.bin .lss (.t 30) (.t 29),none⟩]) (.seq (.cond (.t 31) (.skip) (.exit 2)) (.seq (.block 3 (.seq (.reg [⟨some 32,.mov (.t 30),none⟩,⟨some 12,.mov (.t 32),none⟩]) (.seq (.seq (.reg [⟨some 33,.mov (.t 9),none⟩,⟨some 34,.mov (.t 12),none⟩,⟨some 35,.iaddr 1 (.t 33) (.t 34),none⟩,⟨some 36,.load 1 false (.t 35),none⟩,⟨some 37,.mov (.t 36),none⟩,⟨some 38,.load 2 true (.t 4),some (37,false)⟩,⟨some 39,.mov (.t 11),some (37,false)⟩,⟨some 40,.mov (.t 12),some (37,false)⟩,⟨some 41,.call 79 [.t 38,.t 39,.t 40],some (37,false)⟩,⟨some 42,.mov (.t 3),some (37,false)⟩,⟨some 43,.bin .lss (.t 41) (.t 42),some (37,false)⟩,⟨some 44,.pick (.t 37) (.k (.bool true)) (.t 43),none⟩]) (.cond (.t 44) (.exit 3) (.skip))) (.seq (.seq (.reg [⟨some 45,.mov (.t 12),none⟩,⟨some 46,.mov (.t 2),none⟩,⟨some 47,.bin .eql (.t 45) (.t 46),none⟩]) (.cond (.t 47) (.seq (.reg [⟨some 8,.mov (.k (.bool true)),none⟩]) (.ret)) (.skip))) (.seq (.reg [⟨some 48,.mov (.t 9),none⟩,⟨some 49,.mov (.t 12),none⟩,⟨some 50,.iaddr 1 (.t 48) (.t 49),none⟩,⟨none,.store 1 (.t 50) (.k (.bool true)),none⟩]) (.reg [⟨some 51,.mov (.t 10),none⟩,⟨some 52,.mov (.t 12),none⟩,⟨some 53,.bsl 3 1 1 (.int .i64 0) [(0,.t 52)],none⟩,⟨some 54,.append 3 1 8 (.t 51) (.t 53),none⟩,⟨some 10,.mov (.t 54),none⟩])))))) (.reg [⟨some 55,.bin .add (.t 30) (.k (.int .i64 1)),none⟩,⟨some 30,.mov (.t 55),none⟩]))))))))))))) (.seq (.reg [⟨some 8,.mov (.k (.bool false)),none⟩]) (.ret))))⟩
theorem fok_impl_reaches : FOk Tryz.prog 81 code_impl_reaches := fok Tryz.func81 (by kernel_rfl)
def code_impl_PathOf : F := ⟨37,[.tmp 6],.seq (.reg [⟨some 3,.box (.t 0),none⟩,⟨some 6,.mov (.k (.int .i64 0)),none⟩]) (.seq (.seq (.reg [⟨some 9,.load 2 true (.t 3),none⟩,⟨some 10,.mov (.t 1),none⟩,⟨some 11,.call 85 [.t 9,.t 10],none⟩,⟨some 12,.not (.t 11),none⟩,⟨some 13,.mov (.t 12),none⟩,⟨some 14,.load 2 true (.t 3),some (13,false)⟩,⟨some 15,.mov (.t 2),some (13,false)⟩,⟨some 16,.call 85 [.t 14,.t 15],some (13,false)⟩,⟨some 17,.not (.t 16),some (13,false)⟩,⟨some 18,.pick (.t 13) (.k (.bool true)) (.t 17),none⟩]) (.cond (.t 18) (.seq (.reg [⟨some 6,.mov (.k (.int .i64 1)),none⟩]) (.ret)) (.skip))) (.seq (.reg [⟨some 7,.mov (.k (.int .i64 0)),none⟩]) (.seq (.seq (.reg [⟨some 19,.mov (.t 1),none⟩,⟨some 20,.mov (.t 2),none⟩,⟨some 21,.bin .eql (.t 19) (.t 20),none⟩]) (.cond (.t 21) (.reg [⟨some 22,.load 2 true (.t 3),none⟩,⟨some 23,.mov (.t 1),none⟩,⟨some 24,.call 138 [.t 22,.t 23],none⟩,⟨some 7,.mov (.t 24),none⟩]) (.skip))) (.seq (.seq (.reg [⟨some 8,.mov (.k (.int .i64 2)),none⟩]) (.block 0 (.loop (.seq (.seq (.reg [⟨some 25,.mov (.t 8),none⟩,⟨some 26,.mov (.t 7),none⟩,⟨some 27,.bin .gtr (.t 25) (.t 26),none⟩]) (.cond (.t 27) (.skip) (.exit 0))) (.seq (.block 1 (.seq (.reg [⟨some 30,.load 2 true (.t 3),none⟩,⟨some 31,.mov (.t 1),none⟩,⟨some 32,.mov (.t 2),none⟩,⟨some 33,.mov (.t 8),none⟩,⟨some 34,.call 81 [.t 30,.t 31,.t 32,.t 33],none⟩]) (.cond (.t 34) (.seq (.reg [⟨some 35,.mov (.t 8),none⟩,⟨some 6,.mov (.t 35),none⟩]) (.ret)) (.skip)))) (.reg [⟨some 28,.mov (.t 8),none⟩,⟨some 29,.bin .sub (.t 28) (.k (.int .i64 1)),none⟩,⟨some 8,.mov (.t 29),none⟩])))))) (.seq (.reg [⟨some 36,.mov (.t 7),none⟩,⟨some 6,.mov (.t 36),none⟩]) (.ret))))))⟩
theorem fok_impl_PathOf : FOk Tryz.prog 139 code_impl_PathOf := fok Tryz.func139 (by kernel_rfl)
def HH (eb eq : Nat) (s : Strc) (seen : List Bool) (m : Nat) (els : List Int) : List Blk :=
  .cells [encL 4 encNode s.nodes, encL 1 encInt s.next] :: .row true eb 1 (seen.map AV.bool) :: (List.replicate m .dead ++ [.row true eq 1 (els.map encInt)])
section
variable {eb eq m : Nat} {s : Strc} {seen : List Bool} {els : List Int}
theorem HH_0 : (HH eb eq s seen m els)[0]? = some (.cells [encL 4 encNode s.nodes, encL 1 encInt s.next]) := rfl
theorem HH_1 : (HH eb eq s seen m els)[1]? = some (.row true eb 1 (seen.map AV.bool)) := rfl
theorem HH_q : (HH eb eq s seen m els)[m + 2]? = some (.row true eq 1 (els.map encInt)) := by
  unfold HH
  rw [List.getElem?_cons_succ, List.getElem?_cons_succ, List.getElem?_append_right (by simp)]
  simp
theorem HH_len : (HH eb eq s seen m els).length = m + 3 := by simp [HH]
theorem HH_set (l : List Bool) : (HH eb eq s seen m els).set 1 (.row true eb 1 (l.map AV.bool)) = HH eb eq s l m els := rfl
theorem HH_app (l : List Int) : (HH eb eq s seen m els).set (m + 2) .dead ++ [.row true eq 1 (l.map encInt)] = HH eb eq s seen (m + 1) l := by
  unfold HH
  simp only [List.set_cons_succ, List.cons_append]
  rw [List.set_append_right _ _ (by simp)]
  simp [List.replicate_succ']
end
@[simp] noncomputable def ct_reaches : Ct := ⟨81, Strc × Int × Int × Int, fun x => szStrc x.1 ≤ 1048576 ∧ inN x.1 x.2.1 ∧ inN x.1 x.2.2.1, fun x => [encStrc x.1, .int .i64 x.2.1, .int .i64 x.2.2.1, .int .i64 x.2.2.2], fun x => .bool (rchB x.1 x.2.2.2 x.2.1.toNat x.2.2.1.toNat)⟩
set_option maxHeartbeats 8000000 in
set_option maxRecDepth 100000 in
theorem ok_reaches : ct_reaches.Ok Tryz.prog := by
  rintro ⟨s, i, j, v⟩ ⟨hs, hi, hj⟩
  change szStrc s ≤ 1048576 at hs
  change inN s i at hi
  change inN s j at hj
  have hs2 := strc_le s
  have hi' := hi
  have hj' := hj
  unfold inN at hi' hj'
  have hin : i.toNat < s.nodes.length := by omega
  have hci : ((i.toNat : Nat) : Int) = i := by omega
  have hcj : ((j.toNat : Nat) : Int) = j := by omega
  have hT : TabOk Tryz.prog _ := tab_cons ok_pNextOf tab_nil
  refine Ok.of_cw fok_impl_reaches ?_
  simp only [code_impl_reaches, frame, List.length_cons, List.length_nil, List.replicate, Nat.reduceSub, Nat.reduceAdd, List.cons_append, List.nil_append]
  refine cw_seq (go_ok hT ?_)
  simp
  refine cw_seq (go_ok hT ?_)
  simp
  refine ⟨by omega, ?_⟩
  refine cw_seq (go_ok hT ?_)
  simp
  refine cw_round (fun (p : List Bool × Nat × List Int × Nat × Nat) => ⟨slots 56 [(2, .int .i64 j), (3, .int .i64 v), (4, .pbox 0 0), (8, .bool false), (9, .slref 1 0 s.nodes.length s.nodes.length), (10, .slref (p.2.1 + 2) p.2.2.2.1 p.2.2.2.2 p.2.2.1.length)], HH 4 3 s p.1 p.2.1 p.2.2.1⟩)
    (fun p => BInv s v i.toNat j.toNat p.1 (p.2.2.1.drop p.2.2.2.1) ∧ p.2.2.2.1 + p.2.2.2.2 = p.2.2.1.length ∧ p.2.2.1.length + p.1.count false ≤ s.nodes.length + 1) (fun p => 2 * p.1.count false + p.2.2.2.2) (List.replicate s.nodes.length false, 0, [i], 0, 1) ⟨by have := BInv.start (s := s) (v := v) (j := j.toNat) hin; rw [hci] at this; exact this, rfl, by simp; omega⟩ ?_ ?_
  · have hH : HH 4 3 s (List.replicate s.nodes.length false) 0 [i] = [.cells [encL 4 encNode s.nodes, encL 1 encInt s.next], .row true 4 1 (List.replicate s.nodes.length (.bool false)), .row true 3 1 [.int .i64 i]] := by simp [HH]
    simp only [hH]
    refine weak_slots ?_
    simp [List.replicate, Less]
  rintro N hN ⟨seen, m, els, off, len⟩ ⟨hB, hol, hel⟩
  change BInv s v i.toNat j.toNat seen (els.drop off) at hB
  change off + len = els.length at hol
  change els.length + seen.count false ≤ s.nodes.length + 1 at hel
  by_cases hl0 : len = 0
  · subst hl0
    rw [List.drop_of_length_le (by omega)] at hB
    have hr := hB.fin hin
    refine cw_seq (go_ok hT ?_)
    simp [HH_q, hol]
    refine go_ok hT ?_
    simp [hr]
  obtain ⟨l, rfl⟩ : ∃ l, len = l + 1 := ⟨len - 1, by omega⟩
  have hoff : off < els.length := by omega
  have hle : off ≤ els.length := by omega
  have hp : (0 : Int) < (l : Int) + 1 := by omega
  have hp2 : ¬ ((l : Int) + 1 ≤ 0) := by omega
  refine cw_seq (go_ok hT ?_)
  simp [HH_q, hol, hp, hp2]
  refine cw_block ?_
  refine cw_seq (go_ok hT ?_)
  simp [HH_q, hoff, hol]
  refine cw_seq (go_ok hT ?_)
  simp [HH_q]
  refine ⟨by omega, ?_⟩
  refine cw_seq (go_ok hT ?_)
  simp [HH_0]
  refine cw_block ?_
  obtain ⟨x, hxe⟩ : ∃ x : Nat, els[off] = (x : Int) := by
    obtain ⟨a, e, _⟩ := hB.qs els[off] (by rw [List.drop_eq_getElem_cons hoff]; exact List.mem_cons_self)
    exact ⟨a, e⟩
  rw [hxe]
  have hI0 : IInv s v i.toNat j.toNat x 0 seen (els.drop (off + 1)) := BInv.pop (by rw [← hxe, ← List.drop_eq_getElem_cons hoff]; exact hB)
  refine cw_round (fun (p : List Bool × Nat × List Int × Nat × Nat × Nat) => ⟨slots 56 [(2, .int .i64 j), (3, .int .i64 v), (4, .pbox 0 0), (8, .bool false), (9, .slref 1 0 s.nodes.length s.nodes.length), (10, .slref (p.2.1 + 2) p.2.2.2.1 p.2.2.2.2.1 p.2.2.1.length), (11, .int .i64 x), (29, .int .i64 s.nodes.length), (30, .int .i64 p.2.2.2.2.2)], HH 4 3 s p.1 p.2.1 p.2.2.1⟩)
    (fun p => IInv s v i.toNat j.toNat x p.2.2.2.2.2 p.1 (p.2.2.1.drop p.2.2.2.1) ∧ p.2.2.2.1 + p.2.2.2.2.1 = p.2.2.1.length ∧ p.2.2.1.length + p.1.count false ≤ s.nodes.length + 1 ∧ 2 * p.1.count false + p.2.2.2.2.1 ≤ 2 * seen.count false + l ∧ p.2.2.2.2.2 ≤ s.nodes.length) (fun p => s.nodes.length - p.2.2.2.2.2) (seen, m, els, off + 1, l, 0) ⟨hI0, by simp; omega, hel, by simp, by simp⟩ ?_ ?_
  · refine weak_slots ?_
    simp [List.replicate, Less]
  rintro N2 hN2 ⟨seen2, m2, els2, off2, len2, k⟩ ⟨hI, hol2, hel2, hM, hk⟩
  change IInv s v i.toNat j.toNat x k seen2 (els2.drop off2) at hI
  change off2 + len2 = els2.length at hol2
  change els2.length + seen2.count false ≤ s.nodes.length + 1 at hel2
  change 2 * seen2.count false + len2 ≤ 2 * seen.count false + l at hM
  change k ≤ s.nodes.length at hk
  have hw : IntKind.i64.wrap ((k : Int) + 1) = ((k + 1 : Nat) : Int) := by rw [wrap_i64] <;> omega
  have hlen2 := hI.len
  refine cw_seq (go_ok hT ?_)
  by_cases g : k < s.nodes.length
  case neg =>
    have g2 : s.nodes.length ≤ k := by omega
    simp [g, g2]
    refine go_ok hT ?_
    simp
    refine hN (seen, m, els, off, l + 1) (seen2, m2, els2, off2, len2) _ ⟨hI.done g2, hol2, hel2⟩ (by simp; omega) (weak_slots ?_)
    simp [List.replicate, Less]
  have g2 : ¬ s.nodes.length ≤ k := by omega
  have hks : k < seen2.length := by omega
  simp [g, g2]
  refine cw_seq (go_ok hT ?_)
  simp
  have next : IInv s v i.toNat j.toNat x (k + 1) seen2 (els2.drop off2) → ∀ t : List AV, All2 Less t (slots 56 [(2, .int .i64 j), (3, .int .i64 v), (4, .pbox 0 0), (8, .bool false), (9, .slref 1 0 s.nodes.length s.nodes.length), (10, .slref (m2 + 2) off2 len2 els2.length), (11, .int .i64 x), (29, .int .i64 s.nodes.length), (30, .int .i64 ((k + 1 : Nat) : Int))]) →
      N2 (seen2, m2, els2, off2, len2, k) ⟨t, HH 4 3 s seen2 m2 els2⟩ := fun hI2 t ht =>
    hN2 (seen2, m2, els2, off2, len2, k) (seen2, m2, els2, off2, len2, k + 1) _ ⟨hI2, hol2, hel2, hM, by simp; omega⟩ (by simp; omega) (weak_slots ht)
  refine cw_seq (cw_block ?_)
  refine cw_seq (go_ok hT ?_)
  simp
  refine cw_seq (go_ok hT ?_)
  have hsk0 : seen2[k]? = some seen2[k] := List.getElem?_eq_getElem hks
  cases hsk : seen2[k]
  case true =>
    have hsk2 : seen2[k]? = some true := by rw [hsk0, hsk]
    simp [HH_1, hlen2, g, hsk, hsk2]
    refine go_ok hT ?_
    simp [hw]
    exact next (hI.skip (.inl hsk2)) _ (by simp [List.replicate, Less])
  have hsk2 : seen2[k]? = some false := by rw [hsk0, hsk]
  by_cases he : nextOf s x k < v
  · have hen : ¬ v ≤ nextOf s x k := by omega
    simp [HH_1, HH_0, hlen2, g, hsk, hsk2, hs, he, hen]
    refine go_ok hT ?_
    simp [hw]
    exact next (hI.skip (.inr fun e => by have := e.2.2; omega)) _ (by simp [List.replicate, Less])
  have hedge : edgeG s v x k := ⟨hI.hx.1, g, by omega⟩
  have he2 : v ≤ nextOf s x k := by omega
  simp [HH_1, HH_0, hlen2, g, hsk, hsk2, hs, he, he2]
  refine cw_seq (go_ok hT ?_)
  by_cases hkj : (k : Int) = j
  · have hr : rchB s v i.toNat j.toNat = true := by
      rw [rchB_iff]
      have := hI.reach hedge
      rwa [show k = j.toNat by omega] at this
    simp [hkj, hr]
  simp [hkj]
  refine cw_seq (go_ok hT ?_)
  simp [HH_1, hlen2, g, hsk, hsk2]
  have hset : (HH 4 3 s seen2 m2 els2).set 1 (.row true 4 1 ((List.map AV.bool seen2).set k (.bool true))) = HH 4 3 s (seen2.set k true) m2 els2 := by
    have hm : (List.map AV.bool seen2).set k (.bool true) = (seen2.set k true).map AV.bool := by rw [List.map_set]
    rw [hm]; exact HH_set _
  rw [hset]
  have hnj : k ≠ j.toNat := by omega
  have hI3 := hI.push hedge hnj
  have hc3 := count_push hks hsk
  have hdr1 : (els2 ++ [(k : Int)]).drop off2 = els2.drop off2 ++ [(k : Int)] := List.drop_append_of_le_length (by omega)
  have hw8 : (els2.length + 1) * 8 ≤ 140737488355328 := by omega
  have after : ∀ (off3 : Nat) (els3 : List Int), els3.drop off3 = els2.drop off2 ++ [(k : Int)] → off3 + (len2 + 1) = els3.length → els3.length ≤ els2.length + 1 → ∀ t : List AV, All2 Less t (slots 56 [(2, .int .i64 j), (3, .int .i64 v), (4, .pbox 0 0), (8, .bool false), (9, .slref 1 0 s.nodes.length s.nodes.length), (10, .slref (m2 + 1 + 2) off3 (len2 + 1) els3.length), (11, .int .i64 x), (29, .int .i64 s.nodes.length), (30, .int .i64 ((k + 1 : Nat) : Int))]) →
      N2 (seen2, m2, els2, off2, len2, k) ⟨t, HH 4 3 s (seen2.set k true) (m2 + 1) els3⟩ := by
    intro off3 els3 hd ho hl t ht
    refine hN2 (seen2, m2, els2, off2, len2, k) (seen2.set k true, m2 + 1, els3, off3, len2 + 1, k + 1) _ ⟨by rw [hd]; exact hI3, ho, by simp; omega, by simp; omega, by simp; omega⟩ (by simp; omega) (weak_slots ht)
  refine cw_weak (weak_slots (t' := slots 56 [(2, .int .i64 j), (3, .int .i64 v), (4, .pbox 0 0), (8, .bool false), (9, .slref 1 0 s.nodes.length s.nodes.length), (10, .slref (m2 + 2) off2 len2 els2.length), (11, .int .i64 x), (12, .int .i64 k), (29, .int .i64 s.nodes.length), (30, .int .i64 k)]) (by simp [List.replicate, Less])) ?_
  simp [slots, List.replicate]
  refine cw_reg ?_
  refine .inl ⟨_, _, .ev rfl, ?_⟩
  refine .inl ⟨_, _, .ev rfl, ?_⟩
  refine .inl ⟨.sl .any 1 [.int .i64 k], _, .evZ (v := .slref (HH 4 3 s (seen2.set k true) m2 els2).length 0 1 1) (H' := HH 4 3 s (seen2.set k true) m2 els2 ++ [.row true 3 1 [.int .i64 k]]) ?_ ?_ ?_, ?_⟩
  · rfl
  · simp
  · simp [lend, lendC, lendEls, newer, Vm.mksl]
  refine .inr ⟨3, 1, 8, .t 51, .t 53, m2 + 2, off2, len2, els2.map encInt, [.int .i64 k], rfl, ?_, HH_q, ?_, ?_, ?_, ?_, ?_, ?_⟩
  · rw [List.length_map]; rfl
  · simpa using hol2
  · rfl
  · simp
  · simpa using hw8
  · have hh : (HH 4 3 s (seen2.set k true) m2 els2).set (m2 + 2) .dead ++ [.row true 3 1 (els2.map encInt ++ [.int .i64 k])] = HH 4 3 s (seen2.set k true) (m2 + 1) (els2 ++ [(k : Int)]) := by
      have hm2 : els2.map encInt ++ [AV.int .i64 k] = (els2 ++ [(k : Int)]).map encInt := by rw [List.map_append]; rfl
      rw [hm2]; exact HH_app _
    refine .inl ⟨_, _, .ev rfl, ?_⟩
    simp only [inB_normal, thenS_normal]
    rw [hh]
    refine go_ok hT ?_
    simp [hw, HH_len]
    exact after off2 (els2 ++ [(k : Int)]) hdr1 (by simp; omega) (by simp) _ (by simp [List.replicate, Less])
  · have hh : (HH 4 3 s (seen2.set k true) m2 els2).set (m2 + 2) .dead ++ [.row true 3 1 ((els2.map encInt).drop off2 ++ [.int .i64 k])] = HH 4 3 s (seen2.set k true) (m2 + 1) (els2.drop off2 ++ [(k : Int)]) := by
      have hm2 : (els2.map encInt).drop off2 ++ [AV.int .i64 k] = (els2.drop off2 ++ [(k : Int)]).map encInt := by rw [List.map_append, List.map_drop]; rfl
      rw [hm2]; exact HH_app _
    have hl3 : els2.length - off2 = len2 := by omega
    refine .inl ⟨_, _, .ev rfl, ?_⟩
    simp only [inB_normal, thenS_normal]
    rw [hh]
    refine go_ok hT ?_
    simp [hw, HH_len, hl3]
    exact after 0 (els2.drop off2 ++ [(k : Int)]) (by simp) (by simp <;> omega) (by simp <;> omega) _ (by simp [List.replicate, Less, hl3])
set_option maxHeartbeats 4000000 in
set_option maxRecDepth 100000 in
theorem ok_pPathT : (ct_pPathR fun _ => True).Ok Tryz.prog := by
  rintro ⟨s, i, j⟩ ⟨-, hs⟩
  change szStrc s ≤ 1048576 at hs
  have hT : TabOk Tryz.prog _ := tab_cons ok_isNode (tab_cons ok_sameNode (tab_cons ok_reaches tab_nil))
  refine Ok.of_cw fok_impl_PathOf ?_
  simp only [code_impl_PathOf, frame, List.length_cons, List.length_nil, List.replicate, Nat.reduceSub, Nat.reduceAdd, List.cons_append, List.nil_append]
  refine cw_seq (go_ok hT ?_)
  simp
  refine cw_seq (go_ok hT ?_)
  by_cases c1 : inN s i
  case neg =>
    have c1' := c1
    unfold inN at c1'
    by_cases c0 : 0 ≤ i
    · have c2 : ¬ i ≤ (s.nodes.length : Int) - 1 := fun h => c1' ⟨c0, h⟩
      simp [pathT, c1, c0, c2]
    · simp [pathT, c1, c0]
  by_cases c2 : inN s j
  case neg =>
    have c1' := c1
    have c2' := c2
    unfold inN at c1' c2'
    by_cases c0 : 0 ≤ j
    · have c3 : ¬ j ≤ (s.nodes.length : Int) - 1 := fun h => c2' ⟨c0, h⟩
      simp [pathT, c2, c1'.1, c1'.2, c0, c3]
    · simp [pathT, c2, c1'.1, c1'.2, c0]
  have c1' := c1
  have c2' := c2
  unfold inN at c1' c2'
  have e1 : ¬ ((s.nodes.length : Int) - 1 < i) := by omega
  have e2 : ¬ ((s.nodes.length : Int) - 1 < j) := by omega
  simp [c1'.1, c1'.2, c2'.1, c2'.2, e1, e2]
  refine cw_seq (go_ok hT ?_)
  simp
  have hP : pathT s i j = if rchB s 2 i.toNat j.toNat = true then 2 else if i = j ∧ sameT s i = 2 then 2 else if rchB s 1 i.toNat j.toNat = true then 1 else if i = j then 1 else 0 := by unfold pathT; rw [if_pos ⟨c1, c2⟩]
  refine cw_cut_weak (α := Unit) (fun _ => ⟨slots 37 [(1, .int .i64 i), (2, .int .i64 j), (3, .pbox 0 0), (7, .int .i64 (if i = j then sameT s i else 0))], [.cells [encL 4 encNode s.nodes, encL 1 encInt s.next]]⟩) (fun _ => True) (go_ok hT ?_) ?_
  · by_cases e : i = j
    · subst e
      simp [c1]
      refine weak_seal 1 (by simp) (by simp) (by simp [List.replicate])
    · simp [e]
      refine weak_seal 1 (by simp) (by simp) (by simp [List.replicate])
  intro _ _
  generalize hb : (if i = j then sameT s i else 0) = best
  have hbest : (i = j ∧ best = sameT s i) ∨ (i ≠ j ∧ best = 0) := by
    by_cases e : i = j
    · rw [if_pos e] at hb; exact .inl ⟨e, hb.symm⟩
    · rw [if_neg e] at hb; exact .inr ⟨e, hb.symm⟩
  have hsame : sameT s i = 2 ∨ sameT s i = 1 := by unfold sameT; split <;> simp
  change CW _ _ _ (retP _ (.int .i64 (pathT s i j))) _
  rw [hP]
  refine cw_seq (go_ok hT ?_)
  simp [List.replicate]
  refine cw_round (fun (p : Nat) => ⟨slots 37 [(1, .int .i64 i), (2, .int .i64 j), (3, .pbox 0 0), (7, .int .i64 best), (8, .int .i64 (2 - (p : Int)))], [.cells [encL 4 encNode s.nodes, encL 1 encInt s.next]]⟩)
    (fun p => p ≤ 2 ∧ (1 ≤ p → best < 2 ∧ rchB s 2 i.toNat j.toNat = false) ∧ (2 ≤ p → best < 1 ∧ rchB s 1 i.toNat j.toNat = false)) (fun p => 2 - p) 0 ⟨by omega, by omega, by omega⟩ ?_ ?_
  · exact weak_seal 1 (by simp) (by simp) (by simp [List.replicate])
  rintro N hN p ⟨hp, h1, h2⟩
  obtain rfl | rfl | rfl : p = 0 ∨ p = 1 ∨ p = 2 := by omega
  · refine go_ok hT ?_
    by_cases hb2 : best < 2
    · cases hr : rchB s 2 i.toNat j.toNat
      · simp [List.replicate, hb2, hs, c1, c2, hr]
        refine hN 0 1 _ ⟨by omega, fun _ => ⟨hb2, hr⟩, by omega⟩ (by omega) (weak_seal 1 (by simp) (by simp) ?_)
        simp [List.replicate]
      · simp [List.replicate, hb2, hs, c1, c2, hr]
    · have hb3 : ¬ best < 2 := hb2
      have hb4 : best = 2 ∧ i = j ∧ sameT s i = 2 := by omega
      obtain ⟨rfl, rfl, h5⟩ := hb4
      simp [List.replicate]
      refine go_ok hT ?_
      simp [h5]
  · obtain ⟨q1, q2⟩ := h1 (by omega)
    refine go_ok hT ?_
    by_cases hb2 : best < 1
    · have hne : i ≠ j := by omega
      cases hr : rchB s 1 i.toNat j.toNat
      · simp [List.replicate, hb2, hs, c1, c2, hr]
        refine hN 1 2 _ ⟨by omega, fun _ => ⟨q1, q2⟩, fun _ => ⟨hb2, hr⟩⟩ (by omega) (weak_seal 1 (by simp) (by simp) ?_)
        simp [List.replicate]
      · simp [List.replicate, hb2, hs, c1, c2, hr, q2, hne]
    · have hb4 : best = 1 ∧ i = j ∧ sameT s i = 1 := by omega
      obtain ⟨rfl, rfl, h5⟩ := hb4
      simp [List.replicate]
      refine go_ok hT ?_
      simp [h5, q2]
  · obtain ⟨q1, q2⟩ := h1 (by omega)
    obtain ⟨q3, q4⟩ := h2 (by omega)
    have hne : i ≠ j := by omega
    have hb0 : best = 0 := by omega
    subst hb0
    refine go_ok hT ?_
    simp [List.replicate]
    refine go_ok hT ?_
    simp [q2, q4, hne]
end Go.Vm
namespace Go.Vm
open Go.Proofs
def code_spec_l13Row : F := ⟨77,[.tmp 4],.seq (.reg [⟨some 2,.box (.t 0),none⟩,⟨some 4,.mov (.k (.sl .nil 0 [])),none⟩]) (.seq (.reg [⟨some 11,.faddr 0 (.t 2),none⟩,⟨some 12,.load 1 false (.t 11),none⟩,⟨some 13,.len (.t 12),none⟩,⟨some 5,.mov (.t 13),none⟩]) (.seq (.reg [⟨some 14,.bsl 3 1 0 (.int .i64 0) [],none⟩,⟨some 6,.mov (.t 14),none⟩]) (.seq (.seq (.reg [⟨some 7,.mov (.k (.int .i64 0)),none⟩]) (.block 0 (.loop (.seq (.seq (.reg [⟨some 15,.mov (.t 7),none⟩,⟨some 16,.mov (.t 5),none⟩,⟨some 17,.bin .lss (.t 15) (.t 16),none⟩]) (.cond (.t 17) (.skip) (.exit 0))) (.seq (.block 1 (.reg [⟨some 20,.mov (.t 6),none⟩,⟨some 21,.load 2 true (.t 2),none⟩,⟨some 22,.mov (.t 1),none⟩,⟨some 23,.mov (.t 7),none⟩,⟨some 24,.call 121 [.t 21,.t 22,.t 23],none⟩,⟨some 25,.bsl 3 1 1 (.int .i64 0) [(0,.t 24)],none⟩,⟨some 26,.append 3 1 8 (.t 20) (.t 25),none⟩,⟨some 6,.mov (.t 26),none⟩])) (.reg [⟨some 18,.mov (.t 7),none⟩,⟨some 19,.bin .add (.t 18) (.k (.int .i64 1)),none⟩,⟨some 7,.mov (.t 19),none⟩])))))) (.seq (.seq (.reg [⟨some 8,.mov (.k (.int .i64 0)),none⟩]) (.block 2 (.loop (.seq (.seq (.reg [⟨some 27,.mov (.t 8),none⟩,⟨some 28,.mov (.t 5),none⟩,⟨some 29,.bin .lss (.t 27) (.t 28),none⟩]) (.cond (.t 29) (.skip) (.exit 2))) (.seq (.block 3 (.seq (.reg [⟨some 9,.mov (.k (.int .i64 0)),none⟩]) (.block 4 (.loop (.seq (.seq (.reg [⟨some 32,.mov (.t 9),none⟩,⟨some 33,.mov (.t 5),none⟩,⟨some 34,.bin .lss (.t 32) (.t 33),none⟩]) (.cond (.t 34) (.skip) (.exit 4))) (.seq (.block 5 (.seq (.reg [⟨some 10,.mov (.k (.int .i64 0)),none⟩]) (.block 6 (.loop (.seq (.seq (.reg [⟨some 37,.mov (.t 10),none⟩,⟨some 38,.mov (.t 5),none⟩,⟨some 39,.bin .lss (.t 37) (.t 38),none⟩]) (.cond (.t 39) (.skip) (.exit 6))) (.seq (.block 7 (.dreg [false,false,false,false,false,false,false,false,false,false,false,false,false,false,false,false,true,true] [false,false,false,false,false,false,false,false,false,false,false,false,false,true,true,true,false,false] [⟨some 42,.mov (.t 6),none⟩,⟨some 43,.mov (.t 10),none⟩,⟨some 44,.mov (.t 6),none⟩,⟨some 45,.mov (.t 10),none⟩,⟨some 46,.iaddr 1 (.t 44) (.t 45),none⟩,⟨some 47,.load 1 false (.t 46),none⟩,⟨some 48,.mov (.t 6),none⟩,⟨some 49,.mov (.t 9),none⟩,⟨some 50,.iaddr 1 (.t 48) (.t 49),none⟩,⟨some 51,.load 1 false (.t 50),none⟩,⟨some 52,.load 2 true (.t 2),none⟩,⟨some 53,.mov (.t 9),none⟩,⟨some 54,.mov (.t 10),none⟩,⟨some 55,.call 121 [.t 52,.t 53,.t 54],none⟩,⟨some 56,.call 111 [.t 51,.t 55],none⟩,⟨some 57,.call 132 [.t 47,.t 56],none⟩,⟨some 58,.iaddr 1 (.t 42) (.t 43),none⟩,⟨none,.store 1 (.t 58) (.t 57),none⟩])) (.reg [⟨some 40,.mov (.t 10),none⟩,⟨some 41,.bin .add (.t 40) (.k (.int .i64 1)),none⟩,⟨some 10,.mov (.t 41),none⟩]))))))) (.reg [⟨some 35,.mov (.t 9),none⟩,⟨some 36,.bin .add (.t 35) (.k (.int .i64 1)),none⟩,⟨some 9,.mov (.t 36),none⟩]))))))) (.reg [⟨some 30,.mov (.t 8),none⟩,⟨some 31,.bin .add (.t 30) (.k (.int .i64 1)),none⟩,⟨some 8,.mov (.t 31),none⟩])))))) (.seq (.dreg [false,false,false,false,false,false,false,false,false,false,false,false,false,false,false,false,true,true] [false,false,false,false,false,false,false,false,false,false,false,false,false,true,false,true,false,false] [⟨some 59,.mov (.t 6),none⟩,⟨some 60,.mov (.t 1),none⟩,⟨some 61,.mov (.t 6),none⟩,⟨some 62,.mov (.t 1),none⟩,⟨some 63,.iaddr 1 (.t 61) (.t 62),none⟩,⟨some 64,.load 1 false (.t 63),none⟩,⟨some 65,.faddr 0 (.t 2),none⟩,⟨some 66,.load 1 false (.t 65),none⟩,⟨some 67,.mov (.t 1),none⟩,⟨some 68,.iaddr 4 (.t 66) (.t 67),none⟩,⟨some 69,.faddr 3 (.t 68),none⟩,⟨some 70,.load 1 false (.t 69),none⟩,⟨some 71,.bin .neq (.t 70) (.k (.int .i64 0)),none⟩,⟨some 72,.call 120 [.t 71],none⟩,⟨some 73,.bin .sub (.k (.int .i64 2)) (.t 72),none⟩,⟨some 74,.call 132 [.t 64,.t 73],none⟩,⟨some 75,.iaddr 1 (.t 59) (.t 60),none⟩,⟨none,.store 1 (.t 75) (.t 74),none⟩]) (.seq (.reg [⟨some 76,.mov (.t 6),none⟩,⟨some 4,.mov (.t 76),none⟩]) (.ret)))))))⟩
theorem fok_spec_l13Row : FOk Tryz.prog 133 code_spec_l13Row := fok Tryz.func133 (by kernel_rfl)
def code_spec_PathOf : F := ⟨29,[.tmp 6],.seq (.reg [⟨some 3,.box (.t 0),none⟩,⟨some 6,.mov (.k (.int .i64 0)),none⟩]) (.seq (.reg [⟨some 8,.faddr 0 (.t 3),none⟩,⟨some 9,.load 1 false (.t 8),none⟩,⟨some 10,.len (.t 9),none⟩,⟨some 7,.mov (.t 10),none⟩]) (.seq (.seq (.reg [⟨some 11,.mov (.t 1),none⟩,⟨some 12,.mov (.t 7),none⟩,⟨some 13,.bin .sub (.t 12) (.k (.int .i64 1)),none⟩,⟨some 14,.call 59 [.t 11,(.k (.int .i64 0)),.t 13],none⟩,⟨some 15,.not (.t 14),none⟩,⟨some 16,.mov (.t 15),none⟩,⟨some 17,.mov (.t 2),some (16,false)⟩,⟨some 18,.mov (.t 7),some (16,false)⟩,⟨some 19,.bin .sub (.t 18) (.k (.int .i64 1)),some (16,false)⟩,⟨some 20,.call 59 [.t 17,(.k (.int .i64 0)),.t 19],some (16,false)⟩,⟨some 21,.not (.t 20),some (16,false)⟩,⟨some 22,.pick (.t 16) (.k (.bool true)) (.t 21),none⟩]) (.cond (.t 22) (.seq (.reg [⟨some 6,.mov (.k (.int .i64 1)),none⟩]) (.ret)) (.skip))) (.seq (.reg [⟨some 23,.load 2 true (.t 3),none⟩,⟨some 24,.mov (.t 1),none⟩,⟨some 25,.call 133 [.t 23,.t 24],none⟩,⟨some 26,.mov (.t 2),none⟩,⟨some 27,.iaddr 1 (.t 25) (.t 26),none⟩,⟨some 28,.load 1 false (.t 27),none⟩,⟨some 6,.mov (.t 28),none⟩]) (.ret))))⟩
theorem fok_spec_PathOf : FOk Tryz.prog 122 code_spec_PathOf := fok Tryz.func122 (by kernel_rfl)
def code_spec_l1Bit : F := ⟨4,[.tmp 2],.seq (.reg [⟨some 2,.mov (.k (.int .i64 0)),none⟩]) (.seq (.seq (.reg [⟨some 3,.mov (.t 0),none⟩]) (.cond (.t 3) (.seq (.reg [⟨some 2,.mov (.k (.int .i64 1)),none⟩]) (.ret)) (.skip))) (.seq (.reg [⟨some 2,.mov (.k (.int .i64 0)),none⟩]) (.ret)))⟩
theorem fok_spec_l1Bit : FOk Tryz.prog 120 code_spec_l1Bit := fok Tryz.func120 (by kernel_rfl)
@[simp] def ct_l1Bit : Ct := ⟨120, BB, fun _ => True, fun x => [.bool x.b], fun x => .int .i64 (if x.b then 1 else 0)⟩
theorem ok_l1Bit : ct_l1Bit.Ok Tryz.prog := by
  rintro ⟨b⟩ -
  refine Ok.of_cw fok_spec_l1Bit (go_ok tab_nil ?_)
  cases b <;> simp [code_spec_l1Bit, List.replicate]
theorem upd1_get {s : Strc} {a b : Nat} {l : List Int} (ha : a < l.length) (hb : b < l.length) : l.set b (if l[b] ≤ (if l[a] ≤ nextOf s a b then l[a] else nextOf s a b) then (if l[a] ≤ nextOf s a b then l[a] else nextOf s a b) else l[b]) = upd1 s a b l := by
  unfold upd1 mx mn
  simp [List.getD_eq_getElem?_getD, ha, hb]
@[simp] def ct_l13Row : Ct := ⟨133, Strc × Int, fun x => szStrc x.1 ≤ 1048576 ∧ inN x.1 x.2, fun x => [encStrc x.1, .int .i64 x.2], fun x => encL 1 encInt (rowP x.1 x.2.toNat)⟩
set_option maxHeartbeats 8000000 in
set_option maxRecDepth 100000 in
theorem ok_l13Row : ct_l13Row.Ok Tryz.prog := by
  rintro ⟨s, i⟩ ⟨hs, hi⟩
  change szStrc s ≤ 1048576 at hs
  change inN s i at hi
  have hs2 := strc_le s
  have hi' := hi
  unfold inN at hi'
  have hin : i.toNat < s.nodes.length := by omega
  have hil : i < s.nodes.length := by omega
  have hci : ((i.toNat : Nat) : Int) = i := by omega
  have hT : TabOk Tryz.prog _ := tab_cons ok_sNextOf (tab_cons ok_l1Min (tab_cons ok_l1Max (tab_cons ok_l1Bit tab_nil)))
  refine Ok.of_cw fok_spec_l13Row ?_
  simp only [code_spec_l13Row, frame, List.length_cons, List.length_nil, List.replicate, Nat.reduceSub, Nat.reduceAdd, List.cons_append, List.nil_append]
  refine cw_seq (go_ok hT ?_)
  simp
  refine cw_seq (go_ok hT ?_)
  simp
  refine cw_seq (go_ok hT ?_)
  simp
  refine cw_cut_weak (α := Unit) (fun _ => ⟨slots 77 [(1, .int .i64 i), (2, .pbox 0 0), (5, .int .i64 s.nodes.length), (6, .slref 1 0 s.nodes.length s.nodes.length)], [.cells [encL 4 encNode s.nodes, encL 1 encInt s.next], .row true 3 1 ((best0 s i.toNat s.nodes.length).map encInt)]⟩) (fun _ => True) (go_ok hT ?_) ?_
  · simp
    refine cw_round (fun (p : Nat) => ⟨slots 77 [(1, .int .i64 i), (2, .pbox 0 0), (5, .int .i64 s.nodes.length), (6, .slref 1 0 p p), (7, .int .i64 p)], [.cells [encL 4 encNode s.nodes, encL 1 encInt s.next], .row true 3 1 ((best0 s i.toNat p).map encInt)]⟩)
      (fun p => p ≤ s.nodes.length) (fun p => s.nodes.length - p) 0 (by simp) ?_ ?_
    · exact weak_seal 2 (by simp) (by simp [best0]) (by simp [List.replicate])
    rintro N hN b hb
    have hw : IntKind.i64.wrap ((b : Int) + 1) = ((b + 1 : Nat) : Int) := by rw [wrap_i64] <;> omega
    have hby : (b + 1) * 8 ≤ 140737488355328 := by omega
    refine go_ok hT ?_
    by_cases g : b < s.nodes.length
    · have g2 : ¬ s.nodes.length ≤ b := by omega
      simp [List.replicate, hw, g, g2, hs, hby, app1]
      refine hN b (b + 1) _ (by omega) (by omega) (weak_seal 2 (by simp) ?_ ?_)
      · have htk : List.take b (List.map encInt (best0 s i.toNat b)) = List.map encInt (best0 s i.toNat b) := List.take_of_length_le (by simp)
        simp [best0_succ, hci, htk]
      · simp [List.replicate]
    · have e : b = s.nodes.length := by omega
      subst e
      simp [List.replicate]
      exact weak_seal 2 (by simp) (by simp) (by simp [List.replicate])
  intro _ _
  refine cw_cut_weak (α := Unit) (fun _ => ⟨slots 77 [(1, .int .i64 i), (2, .pbox 0 0), (5, .int .i64 s.nodes.length), (6, .slref 1 0 s.nodes.length s.nodes.length)], [.cells [encL 4 encNode s.nodes, encL 1 encInt s.next], .row true 3 1 ((rowT0 s i.toNat).map encInt)]⟩) (fun _ => True) (go_ok hT ?_) ?_
  · simp [List.replicate]
    refine cw_round (fun (p : Nat) => ⟨slots 77 [(1, .int .i64 i), (2, .pbox 0 0), (5, .int .i64 s.nodes.length), (6, .slref 1 0 s.nodes.length s.nodes.length), (8, .int .i64 p)], [.cells [encL 4 encNode s.nodes, encL 1 encInt s.next], .row true 3 1 ((rounds s p (best0 s i.toNat s.nodes.length)).map encInt)]⟩)
      (fun p => p ≤ s.nodes.length) (fun p => s.nodes.length - p) 0 (by simp) ?_ ?_
    · exact weak_seal 2 (by simp) (by simp [rounds]) (by simp [List.replicate])
    rintro N hN r hr
    have hwr : IntKind.i64.wrap ((r : Int) + 1) = ((r + 1 : Nat) : Int) := by rw [wrap_i64] <;> omega
    refine go_ok hT ?_
    by_cases gr : r < s.nodes.length
    case neg =>
      have e : r = s.nodes.length := by omega
      subst e
      simp [List.replicate]
      exact weak_seal 2 (by simp) (by simp [rowT0]) (by simp [List.replicate])
    have gr2 : ¬ s.nodes.length ≤ r := by omega
    generalize hB : rounds s r (best0 s i.toNat s.nodes.length) = B1
    have hBl : B1.length = s.nodes.length := by rw [← hB]; simp
    simp [List.replicate, gr, gr2]
    refine cw_round (fun (p : Nat) => ⟨slots 77 [(1, .int .i64 i), (2, .pbox 0 0), (5, .int .i64 s.nodes.length), (6, .slref 1 0 s.nodes.length s.nodes.length), (8, .int .i64 r), (9, .int .i64 p)], [.cells [encL 4 encNode s.nodes, encL 1 encInt s.next], .row true 3 1 ((updA s p B1).map encInt)]⟩)
      (fun p => p ≤ s.nodes.length) (fun p => s.nodes.length - p) 0 (by simp) ?_ ?_
    · exact weak_seal 2 (by simp) (by simp [updA]) (by simp [List.replicate])
    rintro N2 hN2 a ha
    have hwa : IntKind.i64.wrap ((a : Int) + 1) = ((a + 1 : Nat) : Int) := by rw [wrap_i64] <;> omega
    refine go_ok hT ?_
    by_cases ga : a < s.nodes.length
    case neg =>
      have e : a = s.nodes.length := by omega
      subst e
      simp [List.replicate, hwr]
      refine hN r (r + 1) _ (by omega) (by omega) (weak_seal 2 (by simp) ?_ ?_)
      · simp [rounds, hB]
      · simp [List.replicate]
    have ga2 : ¬ s.nodes.length ≤ a := by omega
    generalize hC : updA s a B1 = B2
    have hCl : B2.length = s.nodes.length := by rw [← hC]; simp [hBl]
    simp [List.replicate, ga, ga2]
    refine cw_round (fun (p : Nat) => ⟨slots 77 [(1, .int .i64 i), (2, .pbox 0 0), (5, .int .i64 s.nodes.length), (6, .slref 1 0 s.nodes.length s.nodes.length), (8, .int .i64 r), (9, .int .i64 a), (10, .int .i64 p)], [.cells [encL 4 encNode s.nodes, encL 1 encInt s.next], .row true 3 1 ((updB s a p B2).map encInt)]⟩)
      (fun p => p ≤ s.nodes.length) (fun p => s.nodes.length - p) 0 (by simp) ?_ ?_
    · exact weak_seal 2 (by simp) (by simp [updB]) (by simp [List.replicate])
    rintro N3 hN3 b hb
    have hwb : IntKind.i64.wrap ((b : Int) + 1) = ((b + 1 : Nat) : Int) := by rw [wrap_i64] <;> omega
    refine go_ok hT ?_
    by_cases gb : b < s.nodes.length
    case neg =>
      have e : b = s.nodes.length := by omega
      subst e
      simp [List.replicate, hwa]
      refine hN2 a (a + 1) _ (by omega) (by omega) (weak_seal 2 (by simp) ?_ ?_)
      · simp [updA, hC]
      · simp [List.replicate]
    have gb2 : ¬ s.nodes.length ≤ b := by omega
    generalize hD : updB s a b B2 = B3
    have hDl : B3.length = s.nodes.length := by rw [← hD]; simp [hCl]
    have hu := upd1_get (s := s) (a := a) (b := b) (l := B3) (by omega) (by omega)
    have gb3 : b < B3.length := by omega
    have ga3 : a < B3.length := by omega
    simp [List.replicate, gb, gb2, ga, hDl, gb3, ga3, hwb, hs, msetS, -List.map_set]
    refine hN3 b (b + 1) _ (by omega) (by omega) (weak_seal 2 (by simp) ?_ ?_)
    · simp [updB, hD, ← hu]
    · simp [List.replicate]
  intro _ _
  generalize hB : rowT0 s i.toNat = B1
  have hBl : B1.length = s.nodes.length := by rw [← hB]; simp
  have hBi : i.toNat < B1.length := by omega
  have hR : rowP s i.toNat = B1.set i.toNat (if B1[i.toNat] ≤ sameT s i then sameT s i else B1[i.toNat]) := by
    unfold rowP mx
    rw [hB, hci]
    simp [List.getD_eq_getElem?_getD, hBi]
  change CW _ _ _ (retP _ (encL 1 encInt (rowP s i.toNat))) _
  rw [hR]
  have e : sameT s i = if (s.nodes[i.toNat]).many = 0 then 2 else 1 := by unfold sameT; simp [List.getD_eq_getElem?_getD, hin]
  have htk : ∀ v, List.take s.nodes.length (List.map encInt (B1.set i.toNat v)) = List.map encInt (B1.set i.toNat v) := fun v => List.take_of_length_le (by simp [hBl])
  refine cw_seq (go_ok hT ?_)
  by_cases hm : (s.nodes[i.toNat]).many = 0
  · rw [if_pos hm] at e
    simp [List.replicate, hi'.1, hil, hin, hBl, hBi, hm, bb_ex, e, msetS, -List.map_set]
    refine go_ok hT ?_
    simp [msetS, -List.map_set, hBl, htk]
  · rw [if_neg hm] at e
    simp [List.replicate, hi'.1, hil, hin, hBl, hBi, hm, bb_ex, e, msetS, -List.map_set]
    refine go_ok hT ?_
    simp [msetS, -List.map_set, hBl, htk]
theorem ok_sPathT : (ct_sPathR truthS).Ok Tryz.prog := by
  rintro ⟨s, i, j⟩ ⟨ht, hs⟩
  change truthS s at ht
  change szStrc s ≤ 1048576 at hs
  have hs2 := strc_le s
  have hT : TabOk Tryz.prog _ := tab_cons ok_l1In (tab_cons ok_l13Row tab_nil)
  refine Ok.of_cw fok_spec_PathOf (go_ok hT ?_)
  have w0 : IntKind.i64.wrap ((s.nodes.length : Int) - 1) = (s.nodes.length : Int) - 1 := by rw [wrap_i64] <;> omega
  by_cases c1 : inN s i
  case neg =>
    have c1' := c1
    unfold inN at c1'
    by_cases c0 : 0 ≤ i
    · have c2 : ¬ i ≤ (s.nodes.length : Int) - 1 := fun h => c1' ⟨c0, h⟩
      simp [code_spec_PathOf, List.replicate, w0, pathT, c1, c0, c2]
    · simp [code_spec_PathOf, List.replicate, w0, pathT, c1, c0]
  by_cases c2 : inN s j
  case neg =>
    have c1' := c1
    have c2' := c2
    unfold inN at c1' c2'
    have e1 : ¬ ((s.nodes.length : Int) - 1 < i) := by omega
    by_cases c0 : 0 ≤ j
    · have c3 : ¬ j ≤ (s.nodes.length : Int) - 1 := fun h => c2' ⟨c0, h⟩
      simp [code_spec_PathOf, List.replicate, w0, pathT, c2, c1'.1, c1'.2, c0, c3, e1]
    · simp [code_spec_PathOf, List.replicate, w0, pathT, c2, c1'.1, c1'.2, c0, e1]
  have hp := rowP_path ht c1 c2
  have c1' := c1
  have c2' := c2
  unfold inN at c1' c2'
  have e1 : ¬ ((s.nodes.length : Int) - 1 < i) := by omega
  have e2 : ¬ ((s.nodes.length : Int) - 1 < j) := by omega
  have hjn : j.toNat < s.nodes.length := by omega
  have hjl : j < s.nodes.length := by omega
  have hg : (rowP s i.toNat)[j.toNat]'(by simpa using hjn) = pathT s i j := by rw [← hp]; simp [List.getD_eq_getElem?_getD, hjn]
  simp [code_spec_PathOf, List.replicate, w0, c1, c1'.1, c1'.2, c2'.1, c2'.2, e1, e2, hs, hjn, hjl, hg]
end Go.Vm
