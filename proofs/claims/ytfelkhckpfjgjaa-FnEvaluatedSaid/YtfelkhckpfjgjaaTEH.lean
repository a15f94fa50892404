/- Reaching in a structure, and paths: the program. No condition. -/
import Derived.Test.YtfelkhckpfjgjaaTEI
import Derived.Test.YtfelkhckpfjgjaaTEG
set_option linter.unusedSimpArgs false
set_option linter.unusedVariables false
namespace Go.Vm
open Go.Proofs
def code_impl_reaches : F := ⟨56,[.tmp 8],.seq (.reg [⟨some 4,.box (.t 0),none⟩,⟨some 8,.mov (.k (.bool false)),none⟩]) (.seq (.reg [⟨some 13,.faddr 0 (.t 4),none⟩,⟨some 14,.load 1 false (.t 13),none⟩,⟨some 15,.len (.t 14),none⟩,⟨some 16,.mksl 4 1 1 (.bool false) (.t 15) (.t 15),none⟩,⟨some 17,.mov (.t 1),none⟩,⟨some 18,.bsl 3 1 1 (.int .i64 0) [(0,.t 17)],none⟩,⟨some 9,.mov (.t 16),none⟩,⟨some 10,.mov (.t 18),none⟩]) (.seq (.block 0 (.loop (.seq (.seq (.reg [⟨some 19,.mov (.t 10),none⟩,⟨some 20,.len (.t 19),none⟩,⟨some 21,.bin .gtr (.t 20) (.k (.int .i64 0)),none⟩]) (.cond (.t 21) (.skip) (.exit 0))) (.block 1 (.seq (.reg [⟨some 22,.mov (.t 10),none⟩,⟨some 23,.iaddr 1 (.t 22) (.k (.int .i64 0)),none⟩,⟨some 24,.load 1 false (.t 23),none⟩,⟨some 11,.mov (.t 24),none⟩]) (.seq (.reg [⟨some 25,.mov (.t 10),none⟩,⟨some 26,.slice 1 (.t 25) (some (.k (.int .i64 1))) none,none⟩,⟨some 10,.mov (.t 26),none⟩]) (.seq (.reg [⟨some 27,.faddr 0 (.t 4),none⟩,⟨some 28,.load 1 false (.t 27),none⟩,⟨some 29,.len (.t 28),none⟩,⟨some 30,.mov (.k (.int .i64 0)),none⟩]) (.block 2 (.loop (.seq (.reg [⟨some 31,.bin .lss (.t 30) (.t 29),none⟩]) (.seq (.cond (.t 31) (.skip) (.exit 2)) (.seq (.block 3 (.seq (.reg [⟨some 32,.mov (.t 30),none⟩,⟨some 12,.mov (.t 32),none⟩]) (.seq (.seq (.reg [⟨some 33,.mov (.t 9),none⟩,⟨some 34,.mov (.t 12),none⟩,⟨some 35,.iaddr 1 (.t 33) (.t 34),none⟩,⟨some 36,.load 1 false (.t 35),none⟩,⟨some 37,.mov (.t 36),none⟩,⟨some 38,.load 2 true (.t 4),some (37,false)⟩,⟨some 39,.mov (.t 11),some (37,false)⟩,⟨some 40,.mov (.t 12),some (37,false)⟩,⟨some 41,.call 34 [.t 38,.t 39,.t 40],some (37,false)⟩,⟨some 42,.mov (.t 3),some (37,false)⟩,⟨some 43,.bin .lss (.t 41) (.t 42),some (37,false)⟩,⟨some 44,.pick (.t 37) (.k (.bool true)) (.t 43),none⟩]) (.cond (.t 44) (.exit 3) (.skip))) (.seq (.seq (.reg [⟨some 45,.mov (.t 12),none⟩,⟨some 46,.mov (.t 2),none⟩,⟨some 47,.bin .eql (.t 45) (.t 46),none⟩]) (.cond (.t 47) (.seq (.reg [⟨some 8,.mov (.k (.bool true)),none⟩]) (.ret)) (.skip))) (.seq (.reg [⟨some 48,.mov (.t 9),none⟩,⟨some 49,.mov (.t 12),none⟩,⟨some 50,.iaddr 1 (.t 48) (.t 49),none⟩,⟨none,.store 1 (.t 50) (.k (.bool true)),none⟩]) (.reg [⟨some 51,.mov (.t 10),none⟩,⟨some 52,.mov (.t 12),none⟩,⟨some 53,.bsl 3 1 1 (.int .i64 0) [(0,.t 52)],none⟩,⟨some 54,.append 3 1 8 (.t 51) (.t 53),none⟩,⟨some 10,.mov (.t 54),none⟩])))))) (.reg [⟨some 55,.bin .add (.t 30) (.k (.int .i64 1)),none⟩,⟨some 30,.mov (.t 55),none⟩]))))))))))))) (.seq (.reg [⟨some 8,.mov (.k (.bool false)),none⟩]) (.ret))))⟩
theorem fok_impl_reaches : FOk Try.prog 84 code_impl_reaches := fok Try.func84 (by kernel_rfl)
def code_impl_PathOf : F := ⟨37,[.tmp 6],.seq (.reg [⟨some 3,.box (.t 0),none⟩,⟨some 6,.mov (.k (.int .i64 0)),none⟩]) (.seq (.seq (.reg [⟨some 9,.load 2 true (.t 3),none⟩,⟨some 10,.mov (.t 1),none⟩,⟨some 11,.call 82 [.t 9,.t 10],none⟩,⟨some 12,.not (.t 11),none⟩,⟨some 13,.mov (.t 12),none⟩,⟨some 14,.load 2 true (.t 3),some (13,false)⟩,⟨some 15,.mov (.t 2),some (13,false)⟩,⟨some 16,.call 82 [.t 14,.t 15],some (13,false)⟩,⟨some 17,.not (.t 16),some (13,false)⟩,⟨some 18,.pick (.t 13) (.k (.bool true)) (.t 17),none⟩]) (.cond (.t 18) (.seq (.reg [⟨some 6,.mov (.k (.int .i64 1)),none⟩]) (.ret)) (.skip))) (.seq (.reg [⟨some 7,.mov (.k (.int .i64 0)),none⟩]) (.seq (.seq (.reg [⟨some 19,.mov (.t 1),none⟩,⟨some 20,.mov (.t 2),none⟩,⟨some 21,.bin .eql (.t 19) (.t 20),none⟩]) (.cond (.t 21) (.reg [⟨some 22,.load 2 true (.t 3),none⟩,⟨some 23,.mov (.t 1),none⟩,⟨some 24,.call 83 [.t 22,.t 23],none⟩,⟨some 7,.mov (.t 24),none⟩]) (.skip))) (.seq (.seq (.reg [⟨some 8,.mov (.k (.int .i64 2)),none⟩]) (.block 0 (.loop (.seq (.seq (.reg [⟨some 25,.mov (.t 8),none⟩,⟨some 26,.mov (.t 7),none⟩,⟨some 27,.bin .gtr (.t 25) (.t 26),none⟩]) (.cond (.t 27) (.skip) (.exit 0))) (.seq (.block 1 (.seq (.reg [⟨some 30,.load 2 true (.t 3),none⟩,⟨some 31,.mov (.t 1),none⟩,⟨some 32,.mov (.t 2),none⟩,⟨some 33,.mov (.t 8),none⟩,⟨some 34,.call 84 [.t 30,.t 31,.t 32,.t 33],none⟩]) (.cond (.t 34) (.seq (.reg [⟨some 35,.mov (.t 8),none⟩,⟨some 6,.mov (.t 35),none⟩]) (.ret)) (.skip)))) (.reg [⟨some 28,.mov (.t 8),none⟩,⟨some 29,.bin .sub (.t 28) (.k (.int .i64 1)),none⟩,⟨some 8,.mov (.t 29),none⟩])))))) (.seq (.reg [⟨some 36,.mov (.t 7),none⟩,⟨some 6,.mov (.t 36),none⟩]) (.ret))))))⟩
theorem fok_impl_PathOf : FOk Try.prog 28 code_impl_PathOf := fok Try.func28 (by kernel_rfl)
def HH (eb eq : Nat) (s : Strc) (seen : List Bool) (m : Nat) (els : List Int) : List Blk :=
  .cells [encL 4 encNode s.nodes, encL 1 encInt s.next] :: .row true eb 1 (seen.map AV.bool) :: (List.replicate m .dead ++ [.row true eq 1 (els.map encInt)])
section
variable {eb eq m : Nat} {s : Strc} {seen : List Bool} {els : List Int}
theorem HH_0 : (HH eb eq s seen m els)[0]? = some (.cells [encL 4 encNode s.nodes, encL 1 encInt s.next]) := rfl
theorem HH_1 : (HH eb eq s seen m els)[1]? = some (.row true eb 1 (seen.map AV.bool)) := rfl
theorem HH_q : (HH eb eq s seen m els)[m + 2]? = some (.row true eq 1 (els.map encInt)) := by
  unfold HH
  rw [List.getElem?_cons_succ, List.getElem?_cons_succ, List.getElem?_append_right (by simp)]
  simp
theorem HH_len : (HH eb eq s seen m els).length = m + 3 := by simp [HH]
theorem HH_set (l : List Bool) : (HH eb eq s seen m els).set 1 (.row true eb 1 (l.map AV.bool)) = HH eb eq s l m els := rfl
theorem HH_app (l : List Int) : (HH eb eq s seen m els).set (m + 2) .dead ++ [.row true eq 1 (l.map encInt)] = HH eb eq s seen (m + 1) l := by
  unfold HH
  simp only [List.set_cons_succ, List.cons_append]
  rw [List.set_append_right _ _ (by simp)]
  simp [List.replicate_succ']
end
@[simp] noncomputable def ct_reaches : Ct := ⟨84, Strc × Int × Int × Int, fun x => szStrc x.1 ≤ 1048576 ∧ inN x.1 x.2.1 ∧ inN x.1 x.2.2.1, fun x => [encStrc x.1, .int .i64 x.2.1, .int .i64 x.2.2.1, .int .i64 x.2.2.2], fun x => .bool (rchB x.1 x.2.2.2 x.2.1.toNat x.2.2.1.toNat)⟩
set_option maxHeartbeats 8000000 in
set_option maxRecDepth 100000 in
theorem ok_reaches : ct_reaches.Ok Try.prog := by
  rintro ⟨s, i, j, v⟩ ⟨hs, hi, hj⟩
  change szStrc s ≤ 1048576 at hs
  change inN s i at hi
  change inN s j at hj
  have hs2 := strc_le s
  have hi' := hi
  have hj' := hj
  unfold inN at hi' hj'
  have hin : i.toNat < s.nodes.length := by omega
  have hci : ((i.toNat : Nat) : Int) = i := by omega
  have hcj : ((j.toNat : Nat) : Int) = j := by omega
  have hT : TabOk Try.prog _ := tab_cons ok_pNextOf tab_nil
  refine Ok.of_cw fok_impl_reaches ?_
  simp only [code_impl_reaches, frame, List.length_cons, List.length_nil, List.replicate, Nat.reduceSub, Nat.reduceAdd, List.cons_append, List.nil_append]
  refine cw_seq (go_ok hT ?_)
  simp
  refine cw_seq (go_ok hT ?_)
  simp
  refine ⟨by omega, ?_⟩
  refine cw_seq (go_ok hT ?_)
  simp
  refine cw_round (fun (p : List Bool × Nat × List Int × Nat × Nat) => ⟨slots 56 [(2, .int .i64 j), (3, .int .i64 v), (4, .pbox 0 0), (8, .bool false), (9, .slref 1 0 s.nodes.length s.nodes.length), (10, .slref (p.2.1 + 2) p.2.2.2.1 p.2.2.2.2 p.2.2.1.length)], HH 4 3 s p.1 p.2.1 p.2.2.1⟩)
    (fun p => BInv s v i.toNat j.toNat p.1 (p.2.2.1.drop p.2.2.2.1) ∧ p.2.2.2.1 + p.2.2.2.2 = p.2.2.1.length ∧ p.2.2.1.length + p.1.count false ≤ s.nodes.length + 1) (fun p => 2 * p.1.count false + p.2.2.2.2) (List.replicate s.nodes.length false, 0, [i], 0, 1) ⟨by have := BInv.start (s := s) (v := v) (j := j.toNat) hin; rw [hci] at this; exact this, rfl, by simp; omega⟩ ?_ ?_
  · have hH : HH 4 3 s (List.replicate s.nodes.length false) 0 [i] = [.cells [encL 4 encNode s.nodes, encL 1 encInt s.next], .row true 4 1 (List.replicate s.nodes.length (.bool false)), .row true 3 1 [.int .i64 i]] := by simp [HH]
    simp only [hH]
    refine weak_slots ?_
    simp [List.replicate, Less]
  rintro N hN ⟨seen, m, els, off, len⟩ ⟨hB, hol, hel⟩
  change BInv s v i.toNat j.toNat seen (els.drop off) at hB
  change off + len = els.length at hol
  change els.length + seen.count false ≤ s.nodes.length + 1 at hel
  by_cases hl0 : len = 0
  · subst hl0
    rw [List.drop_of_length_le (by omega)] at hB
    have hr := hB.fin hin
    refine cw_seq (go_ok hT ?_)
    simp [HH_q, hol]
    refine go_ok hT ?_
    simp [hr]
  obtain ⟨l, rfl⟩ : ∃ l, len = l + 1 := ⟨len - 1, by omega⟩
  have hoff : off < els.length := by omega
  have hle : off ≤ els.length := by omega
  have hp : (0 : Int) < (l : Int) + 1 := by omega
  have hp2 : ¬ ((l : Int) + 1 ≤ 0) := by omega
  refine cw_seq (go_ok hT ?_)
  simp [HH_q, hol, hp, hp2]
  refine cw_block ?_
  refine cw_seq (go_ok hT ?_)
  simp [HH_q, hoff, hol]
  refine cw_seq (go_ok hT ?_)
  simp [HH_q]
  refine ⟨by omega, ?_⟩
  refine cw_seq (go_ok hT ?_)
  simp [HH_0]
  refine cw_block ?_
  obtain ⟨x, hxe⟩ : ∃ x : Nat, els[off] = (x : Int) := by
    obtain ⟨a, e, _⟩ := hB.qs els[off] (by rw [List.drop_eq_getElem_cons hoff]; exact List.mem_cons_self)
    exact ⟨a, e⟩
  rw [hxe]
  have hI0 : IInv s v i.toNat j.toNat x 0 seen (els.drop (off + 1)) := BInv.pop (by rw [← hxe, ← List.drop_eq_getElem_cons hoff]; exact hB)
  refine cw_round (fun (p : List Bool × Nat × List Int × Nat × Nat × Nat) => ⟨slots 56 [(2, .int .i64 j), (3, .int .i64 v), (4, .pbox 0 0), (8, .bool false), (9, .slref 1 0 s.nodes.length s.nodes.length), (10, .slref (p.2.1 + 2) p.2.2.2.1 p.2.2.2.2.1 p.2.2.1.length), (11, .int .i64 x), (29, .int .i64 s.nodes.length), (30, .int .i64 p.2.2.2.2.2)], HH 4 3 s p.1 p.2.1 p.2.2.1⟩)
    (fun p => IInv s v i.toNat j.toNat x p.2.2.2.2.2 p.1 (p.2.2.1.drop p.2.2.2.1) ∧ p.2.2.2.1 + p.2.2.2.2.1 = p.2.2.1.length ∧ p.2.2.1.length + p.1.count false ≤ s.nodes.length + 1 ∧ 2 * p.1.count false + p.2.2.2.2.1 ≤ 2 * seen.count false + l ∧ p.2.2.2.2.2 ≤ s.nodes.length) (fun p => s.nodes.length - p.2.2.2.2.2) (seen, m, els, off + 1, l, 0) ⟨hI0, by simp; omega, hel, by simp, by simp⟩ ?_ ?_
  · refine weak_slots ?_
    simp [List.replicate, Less]
  rintro N2 hN2 ⟨seen2, m2, els2, off2, len2, k⟩ ⟨hI, hol2, hel2, hM, hk⟩
  change IInv s v i.toNat j.toNat x k seen2 (els2.drop off2) at hI
  change off2 + len2 = els2.length at hol2
  change els2.length + seen2.count false ≤ s.nodes.length + 1 at hel2
  change 2 * seen2.count false + len2 ≤ 2 * seen.count false + l at hM
  change k ≤ s.nodes.length at hk
  have hw : IntKind.i64.wrap ((k : Int) + 1) = ((k + 1 : Nat) : Int) := by rw [wrap_i64] <;> omega
  have hlen2 := hI.len
  refine cw_seq (go_ok hT ?_)
  by_cases g : k < s.nodes.length
  case neg =>
    have g2 : s.nodes.length ≤ k := by omega
    simp [g, g2]
    refine go_ok hT ?_
    simp
    refine hN (seen, m, els, off, l + 1) (seen2, m2, els2, off2, len2) _ ⟨hI.done g2, hol2, hel2⟩ (by simp; omega) (weak_slots ?_)
    simp [List.replicate, Less]
  have g2 : ¬ s.nodes.length ≤ k := by omega
  have hks : k < seen2.length := by omega
  simp [g, g2]
  refine cw_seq (go_ok hT ?_)
  simp
  have next : IInv s v i.toNat j.toNat x (k + 1) seen2 (els2.drop off2) → ∀ t : List AV, All2 Less t (slots 56 [(2, .int .i64 j), (3, .int .i64 v), (4, .pbox 0 0), (8, .bool false), (9, .slref 1 0 s.nodes.length s.nodes.length), (10, .slref (m2 + 2) off2 len2 els2.length), (11, .int .i64 x), (29, .int .i64 s.nodes.length), (30, .int .i64 ((k + 1 : Nat) : Int))]) →
      N2 (seen2, m2, els2, off2, len2, k) ⟨t, HH 4 3 s seen2 m2 els2⟩ := fun hI2 t ht =>
    hN2 (seen2, m2, els2, off2, len2, k) (seen2, m2, els2, off2, len2, k + 1) _ ⟨hI2, hol2, hel2, hM, by simp; omega⟩ (by simp; omega) (weak_slots ht)
  refine cw_seq (cw_block ?_)
  refine cw_seq (go_ok hT ?_)
  simp
  refine cw_seq (go_ok hT ?_)
  have hsk0 : seen2[k]? = some seen2[k] := List.getElem?_eq_getElem hks
  cases hsk : seen2[k]
  case true =>
    have hsk2 : seen2[k]? = some true := by rw [hsk0, hsk]
    simp [HH_1, hlen2, g, hsk, hsk2]
    refine go_ok hT ?_
    simp [hw]
    exact next (hI.skip (.inl hsk2)) _ (by simp [List.replicate, Less])
  have hsk2 : seen2[k]? = some false := by rw [hsk0, hsk]
  by_cases he : nextOf s x k < v
  · have hen : ¬ v ≤ nextOf s x k := by omega
    simp [HH_1, HH_0, hlen2, g, hsk, hsk2, hs, he, hen]
    refine go_ok hT ?_
    simp [hw]
    exact next (hI.skip (.inr fun e => by have := e.2.2; omega)) _ (by simp [List.replicate, Less])
  have hedge : edgeG s v x k := ⟨hI.hx.1, g, by omega⟩
  have he2 : v ≤ nextOf s x k := by omega
  simp [HH_1, HH_0, hlen2, g, hsk, hsk2, hs, he, he2]
  refine cw_seq (go_ok hT ?_)
  by_cases hkj : (k : Int) = j
  · have hr : rchB s v i.toNat j.toNat = true := by
      rw [rchB_iff]
      have := hI.reach hedge
      rwa [show k = j.toNat by omega] at this
    simp [hkj, hr]
  simp [hkj]
  refine cw_seq (go_ok hT ?_)
  simp [HH_1, hlen2, g, hsk, hsk2]
  have hset : (HH 4 3 s seen2 m2 els2).set 1 (.row true 4 1 ((List.map AV.bool seen2).set k (.bool true))) = HH 4 3 s (seen2.set k true) m2 els2 := by
    have hm : (List.map AV.bool seen2).set k (.bool true) = (seen2.set k true).map AV.bool := by rw [List.map_set]
    rw [hm]; exact HH_set _
  rw [hset]
  have hnj : k ≠ j.toNat := by omega
  have hI3 := hI.push hedge hnj
  have hc3 := count_push hks hsk
  have hdr1 : (els2 ++ [(k : Int)]).drop off2 = els2.drop off2 ++ [(k : Int)] := List.drop_append_of_le_length (by omega)
  have hw8 : (els2.length + 1) * 8 ≤ 140737488355328 := by omega
  have after : ∀ (off3 : Nat) (els3 : List Int), els3.drop off3 = els2.drop off2 ++ [(k : Int)] → off3 + (len2 + 1) = els3.length → els3.length ≤ els2.length + 1 → ∀ t : List AV, All2 Less t (slots 56 [(2, .int .i64 j), (3, .int .i64 v), (4, .pbox 0 0), (8, .bool false), (9, .slref 1 0 s.nodes.length s.nodes.length), (10, .slref (m2 + 1 + 2) off3 (len2 + 1) els3.length), (11, .int .i64 x), (29, .int .i64 s.nodes.length), (30, .int .i64 ((k + 1 : Nat) : Int))]) →
      N2 (seen2, m2, els2, off2, len2, k) ⟨t, HH 4 3 s (seen2.set k true) (m2 + 1) els3⟩ := by
    intro off3 els3 hd ho hl t ht
    refine hN2 (seen2, m2, els2, off2, len2, k) (seen2.set k true, m2 + 1, els3, off3, len2 + 1, k + 1) _ ⟨by rw [hd]; exact hI3, ho, by simp; omega, by simp; omega, by simp; omega⟩ (by simp; omega) (weak_slots ht)
  refine cw_weak (weak_slots (t' := slots 56 [(2, .int .i64 j), (3, .int .i64 v), (4, .pbox 0 0), (8, .bool false), (9, .slref 1 0 s.nodes.length s.nodes.length), (10, .slref (m2 + 2) off2 len2 els2.length), (11, .int .i64 x), (12, .int .i64 k), (29, .int .i64 s.nodes.length), (30, .int .i64 k)]) (by simp [List.replicate, Less])) ?_
  simp [slots, List.replicate]
  refine cw_reg ?_
  refine .inl ⟨_, _, .ev rfl, ?_⟩
  refine .inl ⟨_, _, .ev rfl, ?_⟩
  refine .inl ⟨.sl .any 1 [.int .i64 k], _, .evZ (v := .slref (HH 4 3 s (seen2.set k true) m2 els2).length 0 1 1) (H' := HH 4 3 s (seen2.set k true) m2 els2 ++ [.row true 3 1 [.int .i64 k]]) ?_ ?_ ?_, ?_⟩
  · rfl
  · simp
  · simp [lend, lendC, lendEls, newer, Vm.mksl]
  refine .inr ⟨3, 1, 8, .t 51, .t 53, m2 + 2, off2, len2, els2.map encInt, [.int .i64 k], rfl, ?_, HH_q, ?_, ?_, ?_, ?_, ?_, ?_⟩
  · rw [List.length_map]; rfl
  · simpa using hol2
  · rfl
  · simp
  · simpa using hw8
  · have hh : (HH 4 3 s (seen2.set k true) m2 els2).set (m2 + 2) .dead ++ [.row true 3 1 (els2.map encInt ++ [.int .i64 k])] = HH 4 3 s (seen2.set k true) (m2 + 1) (els2 ++ [(k : Int)]) := by
      have hm2 : els2.map encInt ++ [AV.int .i64 k] = (els2 ++ [(k : Int)]).map encInt := by rw [List.map_append]; rfl
      rw [hm2]; exact HH_app _
    refine .inl ⟨_, _, .ev rfl, ?_⟩
    simp only [inB_normal, thenS_normal]
    rw [hh]
    refine go_ok hT ?_
    simp [hw, HH_len]
    exact after off2 (els2 ++ [(k : Int)]) hdr1 (by simp; omega) (by simp) _ (by simp [List.replicate, Less])
  · have hh : (HH 4 3 s (seen2.set k true) m2 els2).set (m2 + 2) .dead ++ [.row true 3 1 ((els2.map encInt).drop off2 ++ [.int .i64 k])] = HH 4 3 s (seen2.set k true) (m2 + 1) (els2.drop off2 ++ [(k : Int)]) := by
      have hm2 : (els2.map encInt).drop off2 ++ [AV.int .i64 k] = (els2.drop off2 ++ [(k : Int)]).map encInt := by rw [List.map_append, List.map_drop]; rfl
      rw [hm2]; exact HH_app _
    have hl3 : els2.length - off2 = len2 := by omega
    refine .inl ⟨_, _, .ev rfl, ?_⟩
    simp only [inB_normal, thenS_normal]
    rw [hh]
    refine go_ok hT ?_
    simp [hw, HH_len, hl3]
    exact after 0 (els2.drop off2 ++ [(k : Int)]) (by simp) (by simp <;> omega) (by simp <;> omega) _ (by simp [List.replicate, Less, hl3])
set_option maxHeartbeats 4000000 in
set_option maxRecDepth 100000 in
theorem ok_pPathT : (ct_pPathR fun _ => True).Ok Try.prog := by
  rintro ⟨s, i, j⟩ ⟨-, hs⟩
  change szStrc s ≤ 1048576 at hs
  have hT : TabOk Try.prog _ := tab_cons ok_isNode (tab_cons ok_sameNode (tab_cons ok_reaches tab_nil))
  refine Ok.of_cw fok_impl_PathOf ?_
  simp only [code_impl_PathOf, frame, List.length_cons, List.length_nil, List.replicate, Nat.reduceSub, Nat.reduceAdd, List.cons_append, List.nil_append]
  refine cw_seq (go_ok hT ?_)
  simp
  refine cw_seq (go_ok hT ?_)
  by_cases c1 : inN s i
  case neg =>
    have c1' := c1
    unfold inN at c1'
    by_cases c0 : 0 ≤ i
    · have c2 : ¬ i ≤ (s.nodes.length : Int) - 1 := fun h => c1' ⟨c0, h⟩
      simp [pathT, c1, c0, c2]
    · simp [pathT, c1, c0]
  by_cases c2 : inN s j
  case neg =>
    have c1' := c1
    have c2' := c2
    unfold inN at c1' c2'
    by_cases c0 : 0 ≤ j
    · have c3 : ¬ j ≤ (s.nodes.length : Int) - 1 := fun h => c2' ⟨c0, h⟩
      simp [pathT, c2, c1'.1, c1'.2, c0, c3]
    · simp [pathT, c2, c1'.1, c1'.2, c0]
  have c1' := c1
  have c2' := c2
  unfold inN at c1' c2'
  have e1 : ¬ ((s.nodes.length : Int) - 1 < i) := by omega
  have e2 : ¬ ((s.nodes.length : Int) - 1 < j) := by omega
  simp [c1'.1, c1'.2, c2'.1, c2'.2, e1, e2]
  refine cw_seq (go_ok hT ?_)
  simp
  have hP : pathT s i j = if rchB s 2 i.toNat j.toNat = true then 2 else if i = j ∧ sameT s i = 2 then 2 else if rchB s 1 i.toNat j.toNat = true then 1 else if i = j then 1 else 0 := by unfold pathT; rw [if_pos ⟨c1, c2⟩]
  refine cw_cut_weak (α := Unit) (fun _ => ⟨slots 37 [(1, .int .i64 i), (2, .int .i64 j), (3, .pbox 0 0), (7, .int .i64 (if i = j then sameT s i else 0))], [.cells [encL 4 encNode s.nodes, encL 1 encInt s.next]]⟩) (fun _ => True) (go_ok hT ?_) ?_
  · by_cases e : i = j
    · subst e
      simp [c1]
      refine weak_seal 1 (by simp) (by simp) (by simp [List.replicate])
    · simp [e]
      refine weak_seal 1 (by simp) (by simp) (by simp [List.replicate])
  intro _ _
  generalize hb : (if i = j then sameT s i else 0) = best
  have hbest : (i = j ∧ best = sameT s i) ∨ (i ≠ j ∧ best = 0) := by
    by_cases e : i = j
    · rw [if_pos e] at hb; exact .inl ⟨e, hb.symm⟩
    · rw [if_neg e] at hb; exact .inr ⟨e, hb.symm⟩
  have hsame : sameT s i = 2 ∨ sameT s i = 1 := by unfold sameT; split <;> simp
  change CW _ _ _ (retP _ (.int .i64 (pathT s i j))) _
  rw [hP]
  refine cw_seq (go_ok hT ?_)
  simp [List.replicate]
  refine cw_round (fun (p : Nat) => ⟨slots 37 [(1, .int .i64 i), (2, .int .i64 j), (3, .pbox 0 0), (7, .int .i64 best), (8, .int .i64 (2 - (p : Int)))], [.cells [encL 4 encNode s.nodes, encL 1 encInt s.next]]⟩)
    (fun p => p ≤ 2 ∧ (1 ≤ p → best < 2 ∧ rchB s 2 i.toNat j.toNat = false) ∧ (2 ≤ p → best < 1 ∧ rchB s 1 i.toNat j.toNat = false)) (fun p => 2 - p) 0 ⟨by omega, by omega, by omega⟩ ?_ ?_
  · exact weak_seal 1 (by simp) (by simp) (by simp [List.replicate])
  rintro N hN p ⟨hp, h1, h2⟩
  obtain rfl | rfl | rfl : p = 0 ∨ p = 1 ∨ p = 2 := by omega
  · refine go_ok hT ?_
    by_cases hb2 : best < 2
    · cases hr : rchB s 2 i.toNat j.toNat
      · simp [List.replicate, hb2, hs, c1, c2, hr]
        refine hN 0 1 _ ⟨by omega, fun _ => ⟨hb2, hr⟩, by omega⟩ (by omega) (weak_seal 1 (by simp) (by simp) ?_)
        simp [List.replicate]
      · simp [List.replicate, hb2, hs, c1, c2, hr]
    · have hb3 : ¬ best < 2 := hb2
      have hb4 : best = 2 ∧ i = j ∧ sameT s i = 2 := by omega
      obtain ⟨rfl, rfl, h5⟩ := hb4
      simp [List.replicate]
      refine go_ok hT ?_
      simp [h5]
  · obtain ⟨q1, q2⟩ := h1 (by omega)
    refine go_ok hT ?_
    by_cases hb2 : best < 1
    · have hne : i ≠ j := by omega
      cases hr : rchB s 1 i.toNat j.toNat
      · simp [List.replicate, hb2, hs, c1, c2, hr]
        refine hN 1 2 _ ⟨by omega, fun _ => ⟨q1, q2⟩, fun _ => ⟨hb2, hr⟩⟩ (by omega) (weak_seal 1 (by simp) (by simp) ?_)
        simp [List.replicate]
      · simp [List.replicate, hb2, hs, c1, c2, hr, q2, hne]
    · have hb4 : best = 1 ∧ i = j ∧ sameT s i = 1 := by omega
      obtain ⟨rfl, rfl, h5⟩ := hb4
      simp [List.replicate]
      refine go_ok hT ?_
      simp [h5, q2]
  · obtain ⟨q1, q2⟩ := h1 (by omega)
    obtain ⟨q3, q4⟩ := h2 (by omega)
    have hne : i ≠ j := by omega
    have hb0 : best = 0 := by omega
    subst hb0
    refine go_ok hT ?_
    simp [List.replicate]
    refine go_ok hT ?_
    simp [q2, q4, hne]
end Go.Vm
namespace Go.Vm
open Go.Proofs
theorem mset (l : List Int) (k : Nat) (v : Int) : (l.map encInt).set k (.int .i64 v) = (l.set k v).map encInt := by rw [List.map_set]; rfl
def code_impl_EvalFormula : F := ⟨121,[.tmp 6],.seq (.reg [⟨some 3,.box (.t 0),none⟩,⟨some 4,.box (.t 1),none⟩,⟨some 6,.mov (.k (.int .i64 0)),none⟩]) (.seq (.seq (.dreg [false,false,false,false,false,false,true,true,true,true,true,true,true,true,true,true,true,true] [false,false,true,false,false,false,false,false,false,false,true,false,false,false,true,false,false,false] [⟨some 11,.faddr 0 (.t 4),none⟩,⟨some 12,.load 1 false (.t 11),none⟩,⟨some 13,.call 66 [.t 12],none⟩,⟨some 14,.faddr 4 (.t 4),none⟩,⟨some 15,.load 1 false (.t 14),none⟩,⟨some 16,.len (.t 15),none⟩,⟨some 17,.bin .neq (.t 13) (.t 16),none⟩,⟨some 18,.mov (.t 17),none⟩,⟨some 19,.faddr 0 (.t 4),some (18,false)⟩,⟨some 20,.load 1 false (.t 19),some (18,false)⟩,⟨some 21,.call 67 [.t 20],some (18,false)⟩,⟨some 22,.mov (.t 21),some (18,false)⟩,⟨some 23,.faddr 2 (.t 4),some (22,true)⟩,⟨some 24,.load 1 false (.t 23),some (22,true)⟩,⟨some 25,.call 68 [.t 24,(.k (.int .i64 0)),(.k (.int .i64 3))],some (22,true)⟩,⟨some 26,.not (.t 25),some (22,true)⟩,⟨some 27,.pick (.t 22) (.t 26) (.k (.bool false)),some (18,false)⟩,⟨some 28,.pick (.t 18) (.k (.bool true)) (.t 27),none⟩]) (.cond (.t 28) (.seq (.reg [⟨some 6,.mov (.k (.int .i64 1)),none⟩]) (.ret)) (.skip))) (.seq (.seq (.reg [⟨some 29,.faddr 0 (.t 4),none⟩,⟨some 30,.load 1 false (.t 29),none⟩]) (.block 0 (.seq (.reg [⟨some 32,.bin .eql (.t 30) (.k (.int .i64 8)),none⟩,⟨some 31,.mov (.t 32),none⟩]) (.cond (.t 31) (.seq (.dreg [false,false,false,false,false,false,true,true,true] [false,false,false,false,false,false,true,true,false] [⟨some 33,.load 2 true (.t 3),none⟩,⟨some 34,.faddr 4 (.t 4),none⟩,⟨some 35,.load 1 false (.t 34),none⟩,⟨some 36,.iaddr 5 (.t 35) (.k (.int .i64 0)),none⟩,⟨some 37,.load 5 true (.t 36),none⟩,⟨some 38,.mov (.t 2),none⟩,⟨some 39,.call 24 [.t 33,.t 37,.t 38],none⟩,⟨some 40,.call 69 [.t 39],none⟩,⟨some 6,.mov (.t 40),none⟩]) (.ret)) (.seq (.reg [⟨some 42,.bin .eql (.t 30) (.k (.int .i64 9)),none⟩,⟨some 41,.mov (.t 42),none⟩]) (.cond (.t 41) (.seq (.dreg [false,false,false,false,false,false,false,false,false,false,false,false,false,true,true,true] [false,false,false,false,false,false,true,false,false,false,false,false,false,true,true,false] [⟨some 43,.load 2 true (.t 3),none⟩,⟨some 44,.faddr 4 (.t 4),none⟩,⟨some 45,.load 1 false (.t 44),none⟩,⟨some 46,.iaddr 5 (.t 45) (.k (.int .i64 0)),none⟩,⟨some 47,.load 5 true (.t 46),none⟩,⟨some 48,.mov (.t 2),none⟩,⟨some 49,.call 24 [.t 43,.t 47,.t 48],none⟩,⟨some 50,.load 2 true (.t 3),none⟩,⟨some 51,.faddr 4 (.t 4),none⟩,⟨some 52,.load 1 false (.t 51),none⟩,⟨some 53,.iaddr 5 (.t 52) (.k (.int .i64 1)),none⟩,⟨some 54,.load 5 true (.t 53),none⟩,⟨some 55,.mov (.t 2),none⟩,⟨some 56,.call 24 [.t 50,.t 54,.t 55],none⟩,⟨some 57,.call 33 [.t 49,.t 56],none⟩,⟨some 6,.mov (.t 57),none⟩]) (.ret)) (.seq (.reg [⟨some 59,.bin .eql (.t 30) (.k (.int .i64 10)),none⟩,⟨some 58,.mov (.t 59),none⟩]) (.cond (.t 58) (.seq (.dreg [false,false,false,false,false,false,false,false,false,false,false,false,false,true,true,true] [false,false,false,false,false,false,true,false,false,false,false,false,false,true,true,false] [⟨some 60,.load 2 true (.t 3),none⟩,⟨some 61,.faddr 4 (.t 4),none⟩,⟨some 62,.load 1 false (.t 61),none⟩,⟨some 63,.iaddr 5 (.t 62) (.k (.int .i64 0)),none⟩,⟨some 64,.load 5 true (.t 63),none⟩,⟨some 65,.mov (.t 2),none⟩,⟨some 66,.call 24 [.t 60,.t 64,.t 65],none⟩,⟨some 67,.load 2 true (.t 3),none⟩,⟨some 68,.faddr 4 (.t 4),none⟩,⟨some 69,.load 1 false (.t 68),none⟩,⟨some 70,.iaddr 5 (.t 69) (.k (.int .i64 1)),none⟩,⟨some 71,.load 5 true (.t 70),none⟩,⟨some 72,.mov (.t 2),none⟩,⟨some 73,.call 24 [.t 67,.t 71,.t 72],none⟩,⟨some 74,.call 70 [.t 66,.t 73],none⟩,⟨some 6,.mov (.t 74),none⟩]) (.ret)) (.seq (.seq (.reg [⟨some 76,.bin .eql (.t 30) (.k (.int .i64 11)),none⟩,⟨some 75,.mov (.t 76),none⟩]) (.cond (.t 75) (.skip) (.reg [⟨some 77,.bin .eql (.t 30) (.k (.int .i64 12)),none⟩,⟨some 75,.mov (.t 77),none⟩]))) (.cond (.t 75) (.seq (.reg [⟨some 78,.bsl 3 1 4 (.int .i64 0) [(0,(.k (.int .i64 (-1)))),(1,(.k (.int .i64 (-1)))),(2,(.k (.int .i64 (-1)))),(3,(.k (.int .i64 (-1))))],none⟩,⟨some 7,.mov (.t 78),none⟩]) (.seq (.reg [⟨some 79,.mov (.t 7),none⟩,⟨some 80,.mov (.t 2),none⟩,⟨some 81,.copy (.t 79) (.t 80),none⟩]) (.seq (.reg [⟨some 8,.mov (.k (.int .i64 0)),none⟩,⟨some 9,.mov (.k (.fn 70 [])),none⟩]) (.seq (.seq (.reg [⟨some 82,.faddr 0 (.t 4),none⟩,⟨some 83,.load 1 false (.t 82),none⟩,⟨some 84,.bin .eql (.t 83) (.k (.int .i64 12)),none⟩]) (.cond (.t 84) (.reg [⟨some 8,.mov (.k (.int .i64 2)),none⟩,⟨some 9,.mov (.k (.fn 33 [])),none⟩]) (.skip))) (.seq (.seq (.reg [⟨some 85,.faddr 0 (.t 3),none⟩,⟨some 86,.load 1 false (.t 85),none⟩,⟨some 87,.len (.t 86),none⟩,⟨some 88,.mov (.k (.int .i64 0)),none⟩]) (.block 1 (.loop (.seq (.reg [⟨some 89,.bin .lss (.t 88) (.t 87),none⟩]) (.seq (.cond (.t 89) (.skip) (.exit 1)) (.seq (.block 2 (.seq (.reg [⟨some 90,.mov (.t 88),none⟩,⟨some 10,.mov (.t 90),none⟩]) (.seq (.reg [⟨some 91,.mov (.t 7),none⟩,⟨some 92,.faddr 2 (.t 4),none⟩,⟨some 93,.load 1 false (.t 92),none⟩,⟨some 94,.mov (.t 10),none⟩,⟨some 95,.iaddr 1 (.t 91) (.t 93),none⟩,⟨none,.store 1 (.t 95) (.t 94),none⟩]) (.dreg [false,false,false,false,false,false,false,false,false,true,true] [false,false,false,false,false,false,false,false,true,true,false] [⟨some 96,.mov (.t 9),none⟩,⟨some 97,.mov (.t 8),none⟩,⟨some 98,.load 2 true (.t 3),none⟩,⟨some 99,.faddr 4 (.t 4),none⟩,⟨some 100,.load 1 false (.t 99),none⟩,⟨some 101,.iaddr 5 (.t 100) (.k (.int .i64 0)),none⟩,⟨some 102,.load 5 true (.t 101),none⟩,⟨some 103,.mov (.t 7),none⟩,⟨some 104,.call 24 [.t 98,.t 102,.t 103],none⟩,⟨some 105,.callv (.t 96) [.t 97,.t 104],none⟩,⟨some 8,.mov (.t 105),none⟩])))) (.reg [⟨some 106,.bin .add (.t 88) (.k (.int .i64 1)),none⟩,⟨some 88,.mov (.t 106),none⟩]))))))) (.seq (.reg [⟨some 107,.mov (.t 8),none⟩,⟨some 6,.mov (.t 107),none⟩]) (.ret))))))) (.skip))))))))))) (.seq (.dreg [false,false,false,false,false,false,false,false,false,false,false,false,true,true] [false,false,false,false,false,false,true,false,false,false,false,true,true,false] [⟨some 108,.load 2 true (.t 3),none⟩,⟨some 109,.load 5 true (.t 4),none⟩,⟨some 110,.load 2 true (.t 3),none⟩,⟨some 111,.mov (.t 2),none⟩,⟨some 112,.faddr 2 (.t 4),none⟩,⟨some 113,.load 1 false (.t 112),none⟩,⟨some 114,.call 72 [.t 110,.t 111,.t 113],none⟩,⟨some 115,.load 2 true (.t 3),none⟩,⟨some 116,.mov (.t 2),none⟩,⟨some 117,.faddr 3 (.t 4),none⟩,⟨some 118,.load 1 false (.t 117),none⟩,⟨some 119,.call 72 [.t 115,.t 116,.t 118],none⟩,⟨some 120,.call 71 [.t 108,.t 109,.t 114,.t 119],none⟩,⟨some 6,.mov (.t 120),none⟩]) (.ret))))⟩
theorem fok_impl_EvalFormula : FOk Try.prog 24 code_impl_EvalFormula := fok Try.func24 (by kernel_rfl)
def code_impl_HoldsIn : F := ⟨8,[.tmp 4],.seq (.reg [⟨some 2,.box (.t 0),none⟩,⟨some 3,.box (.t 1),none⟩,⟨some 4,.mov (.k (.int .i64 0)),none⟩]) (.seq (.reg [⟨some 5,.load 2 true (.t 2),none⟩,⟨some 6,.load 5 true (.t 3),none⟩,⟨some 7,.call 24 [.t 5,.t 6,(.k (.sl .nil 0 []))],none⟩,⟨some 4,.mov (.t 7),none⟩]) (.ret))⟩
theorem fok_impl_HoldsIn : FOk Try.prog 26 code_impl_HoldsIn := fok Try.func26 (by kernel_rfl)
@[simp] noncomputable def ct_pEvalN (R : Strc → Prop) (n : Nat) : Ct := ⟨24, Strc × Fm × List Int, fun x => szStrc x.1 ≤ 1048576 ∧ x.2.2.length ≤ 1048576 ∧ x.2.1.size ≤ n ∧ (R x.1 ∨ noPathF x.2.1 = true),
  fun x => [encStrc x.1, encFm x.2.1, encL 1 encInt x.2.2], fun x => .int .i64 (evalN x.1 n x.2.1 x.2.2)⟩
set_option maxHeartbeats 8000000 in
set_option maxRecDepth 100000 in
theorem ok_pEvalN {R : Strc → Prop} (hP : (ct_pPathR R).Ok Try.prog) : ∀ n, (ct_pEvalN R n).Ok Try.prog
  | 0 => by rintro ⟨s, f, nodes⟩ ⟨_, _, h, _⟩; change f.size ≤ 0 at h; rw [size_eq] at h; omega
  | n + 1 => by
    have ih := ok_pEvalN hP n
    rintro ⟨s, ⟨kind, k, u, v, args⟩, nodes⟩ ⟨hs, hl, hz, hR⟩
    change szStrc s ≤ 1048576 at hs
    change nodes.length ≤ 1048576 at hl
    change (Fm.mk kind k u v args).size ≤ n + 1 at hz
    change R s ∨ noPathF (.mk kind k u v args) = true at hR
    have hs2 := strc_le s
    simp only [Fm.size] at hz
    simp only [noPathF, Bool.and_eq_true, decide_eq_true_eq] at hR
    have hT : TabOk Try.prog _ := tab_cons ok_pArityOf (tab_cons ok_isBinder (tab_cons ok_within (tab_cons ok_pNotOf (tab_cons ok_pAndOf (tab_cons ok_pOrOf (tab_cons ok_place (tab_cons (ok_evalPlain hP) (tab_cons ih tab_nil))))))))
    refine Ok.of_cw fok_impl_EvalFormula ?_
    simp only [code_impl_EvalFormula, frame, List.length_cons, List.length_nil, List.replicate, Nat.reduceSub, Nat.reduceAdd, List.cons_append, List.nil_append]
    refine cw_seq (go_ok hT ?_)
    simp
    refine cw_seq (go_ok hT ?_)
    have hN1 := nodeOf_or s nodes u
    have hN2 := nodeOf_or s nodes v
    by_cases har : arity kind = (args.length : Int)
    case neg => simp [evalN, har]
    rcases arity_cases har with ⟨k1, k7, ha⟩ | ⟨rfl, ha⟩ | ⟨rfl, ha⟩ | ⟨rfl, ha⟩ | ⟨rfl, ha⟩ | ⟨rfl, ha⟩
    · have ha0 : args = [] := List.eq_nil_of_length_eq_zero ha
      subst ha0
      have hR2 : R s ∨ kind ≠ 7 := hR.imp id (·.1)
      have n8 : ¬ kind = 8 := by omega
      have n9 : ¬ kind = 9 := by omega
      have n10 : ¬ kind = 10 := by omega
      have n11 : ¬ kind = 11 := by omega
      have n12 : ¬ kind = 12 := by omega
      have hE : evalN s (n + 1) (.mk kind k u v []) nodes = plainT s (.mk kind k u v []) (nodeOf s nodes u) (nodeOf s nodes v) := by simp [evalN, har, n8, n9, n10, n11, n12]
      rw [hE]
      have har' : arity kind = 0 := by simpa using har
      simp [har', binder, n11, n12]
      refine cw_seq (go_ok hT ?_)
      simp [n8, n9, n10, n11, n12]
      refine go_ok hT ?_
      simp [hs, hl, hN1, hN2, encFm_agg0, k1, k7]
      simpa using hR2
    · obtain ⟨x, rfl⟩ := List.length_eq_one_iff.1 ha
      simp only [sizes] at hz
      have hx : x.size ≤ n := by omega
      have hRx : R s ∨ noPathF x = true := hR.imp id (fun h => by have := h.2; simp only [noPathS, Bool.and_eq_true] at this; exact this.1)
      simp [har, binder]
      refine cw_seq (go_ok hT ?_)
      simp [evalN, har, hs, hl, fget, hx, hRx]
    · obtain ⟨x, y, rfl⟩ := two_of ha
      simp only [sizes] at hz
      have hx : x.size ≤ n := by omega
      have hy : y.size ≤ n := by omega
      have hRx : R s ∨ noPathF x = true := hR.imp id (fun h => by have := h.2; simp only [noPathS, Bool.and_eq_true] at this; exact this.1)
      have hRy : R s ∨ noPathF y = true := hR.imp id (fun h => by have := h.2; simp only [noPathS, Bool.and_eq_true] at this; exact this.2.1)
      simp [har, binder]
      refine cw_seq (go_ok hT ?_)
      simp [evalN, har, hs, hl, fget, hx, hy, hRx, hRy]
    · obtain ⟨x, y, rfl⟩ := two_of ha
      simp only [sizes] at hz
      have hx : x.size ≤ n := by omega
      have hy : y.size ≤ n := by omega
      have hRx : R s ∨ noPathF x = true := hR.imp id (fun h => by have := h.2; simp only [noPathS, Bool.and_eq_true] at this; exact this.1)
      have hRy : R s ∨ noPathF y = true := hR.imp id (fun h => by have := h.2; simp only [noPathS, Bool.and_eq_true] at this; exact this.2.1)
      simp [har, binder]
      refine cw_seq (go_ok hT ?_)
      simp [evalN, har, hs, hl, fget, hx, hy, hRx, hRy]
    · obtain ⟨x, rfl⟩ := List.length_eq_one_iff.1 ha
      simp only [sizes] at hz
      have hx : x.size ≤ n := by omega
      have hRx : R s ∨ noPathF x = true := hR.imp id (fun h => by have := h.2; simp only [noPathS, Bool.and_eq_true] at this; exact this.1)
      have hc : callable Try.prog 70 = true := by kernel_rfl
      by_cases u0 : 0 ≤ u
      case neg => simp [evalN, har, binder, u0]
      by_cases u3 : u ≤ 3
      case neg =>
        have u3' : 3 < u := by omega
        simp [evalN, har, binder, u0, u3, u3']
      have hu4 : u.toNat < 4 := by omega
      have hu5 : u < 4 := by omega
      have u3' : ¬ 3 < u := by omega
      have hE : evalN s (n + 1) (.mk 11 k u v [x]) nodes = overT false s.nodes.length (fun i => evalN s n x ((pad4 nodes).set u.toNat (i : Nat))) := by
        simp [evalN, har, u0, u3, fget]
      rw [hE]
      simp [har, binder, u0, u3, u3']
      refine cw_seq (go_ok hT ?_)
      simp [copyK_stepK]
      rw [← pad4_map]
      refine cw_round (fun (p : Nat × List Int) => ⟨slots 121 [(3, .pbox 0 0), (4, .pbox 1 0), (7, .slref 2 0 4 4), (8, .int .i64 (overT false p.1 (fun i => evalN s n x ((pad4 nodes).set u.toNat (i : Nat))))), (9, .fn 70 []), (87, .int .i64 s.nodes.length), (88, .int .i64 p.1)], [.cells [encL 4 encNode s.nodes, encL 1 encInt s.next], .cells [.int .i64 11, .int .i64 k, .int .i64 u, .int .i64 v, encL 5 encFm [x]], .row true 3 1 (p.2.map encInt)]⟩)
        (fun p => p.1 ≤ s.nodes.length ∧ p.2.length = 4 ∧ ∀ a, p.2.set u.toNat a = (pad4 nodes).set u.toNat a) (fun p => s.nodes.length - p.1) (0, pad4 nodes) ⟨by simp, by simp, fun _ => rfl⟩ ?_ ?_
      · refine weak_seal 3 (by simp) ?_ ?_
        · simp
        · simp [List.replicate, overT_zero]
      · rintro N hN ⟨i, l⟩ ⟨hi, hl4, hset⟩
        change i ≤ s.nodes.length at hi
        change l.length = 4 at hl4
        have hw : IntKind.i64.wrap ((i : Int) + 1) = ((i + 1 : Nat) : Int) := by rw [wrap_i64] <;> omega
        have ht : ∀ a, List.take 4 (List.map encInt (l.set u.toNat a)) = List.map encInt (l.set u.toNat a) := fun a => List.take_of_length_le (by simp [hl4])
        refine go_ok hT ?_
        by_cases g : i < s.nodes.length
        · have g2 : ¬ s.nodes.length ≤ i := by omega
          simp [List.replicate, hw, g, g2, hc, hu4, hu5, u0, hl4, hs, hx, hRx, mset, ht, -List.map_set]
          refine hN (i, l) (i + 1, (pad4 nodes).set u.toNat (i : Nat)) _ ⟨by simp; omega, by simp, by simp⟩ (by simp; omega) (weak_seal 3 (by simp) ?_ ?_)
          · have h1 := hset (i : Int)
            simp [mset, -List.map_set, ← h1]
          · have h1 := hset (i : Int)
            simp [List.replicate, overT_succ, overOp, ← h1]
        · have e : i = s.nodes.length := by omega
          subst e
          simp [List.replicate]
    · obtain ⟨x, rfl⟩ := List.length_eq_one_iff.1 ha
      simp only [sizes] at hz
      have hx : x.size ≤ n := by omega
      have hRx : R s ∨ noPathF x = true := hR.imp id (fun h => by have := h.2; simp only [noPathS, Bool.and_eq_true] at this; exact this.1)
      have hc : callable Try.prog 33 = true := by kernel_rfl
      by_cases u0 : 0 ≤ u
      case neg => simp [evalN, har, binder, u0]
      by_cases u3 : u ≤ 3
      case neg =>
        have u3' : 3 < u := by omega
        simp [evalN, har, binder, u0, u3, u3']
      have hu4 : u.toNat < 4 := by omega
      have hu5 : u < 4 := by omega
      have u3' : ¬ 3 < u := by omega
      have hE : evalN s (n + 1) (.mk 12 k u v [x]) nodes = overT true s.nodes.length (fun i => evalN s n x ((pad4 nodes).set u.toNat (i : Nat))) := by
        simp [evalN, har, u0, u3, fget]
      rw [hE]
      simp [har, binder, u0, u3, u3']
      refine cw_seq (go_ok hT ?_)
      simp [copyK_stepK]
      rw [← pad4_map]
      refine cw_round (fun (p : Nat × List Int) => ⟨slots 121 [(3, .pbox 0 0), (4, .pbox 1 0), (7, .slref 2 0 4 4), (8, .int .i64 (overT true p.1 (fun i => evalN s n x ((pad4 nodes).set u.toNat (i : Nat))))), (9, .fn 33 []), (87, .int .i64 s.nodes.length), (88, .int .i64 p.1)], [.cells [encL 4 encNode s.nodes, encL 1 encInt s.next], .cells [.int .i64 12, .int .i64 k, .int .i64 u, .int .i64 v, encL 5 encFm [x]], .row true 3 1 (p.2.map encInt)]⟩)
        (fun p => p.1 ≤ s.nodes.length ∧ p.2.length = 4 ∧ ∀ a, p.2.set u.toNat a = (pad4 nodes).set u.toNat a) (fun p => s.nodes.length - p.1) (0, pad4 nodes) ⟨by simp, by simp, fun _ => rfl⟩ ?_ ?_
      · refine weak_seal 3 (by simp) ?_ ?_
        · simp
        · simp [List.replicate, overT_zero]
      · rintro N hN ⟨i, l⟩ ⟨hi, hl4, hset⟩
        change i ≤ s.nodes.length at hi
        change l.length = 4 at hl4
        have hw : IntKind.i64.wrap ((i : Int) + 1) = ((i + 1 : Nat) : Int) := by rw [wrap_i64] <;> omega
        have ht : ∀ a, List.take 4 (List.map encInt (l.set u.toNat a)) = List.map encInt (l.set u.toNat a) := fun a => List.take_of_length_le (by simp [hl4])
        refine go_ok hT ?_
        by_cases g : i < s.nodes.length
        · have g2 : ¬ s.nodes.length ≤ i := by omega
          simp [List.replicate, hw, g, g2, hc, hu4, hu5, u0, hl4, hs, hx, hRx, mset, ht, -List.map_set]
          refine hN (i, l) (i + 1, (pad4 nodes).set u.toNat (i : Nat)) _ ⟨by simp; omega, by simp, by simp⟩ (by simp; omega) (weak_seal 3 (by simp) ?_ ?_)
          · have h1 := hset (i : Int)
            simp [mset, -List.map_set, ← h1]
          · have h1 := hset (i : Int)
            simp [List.replicate, overT_succ, overOp, ← h1]
        · have e : i = s.nodes.length := by omega
          subst e
          simp [List.replicate]
@[simp] noncomputable def ct_pEval (R : Strc → Prop) : Ct := ⟨24, Strc × Fm × List Int, fun x => szStrc x.1 ≤ 1048576 ∧ x.2.2.length ≤ 1048576 ∧ (R x.1 ∨ noPathF x.2.1 = true),
  fun x => [encStrc x.1, encFm x.2.1, encL 1 encInt x.2.2], fun x => .int .i64 (evalT x.1 x.2.1 x.2.2)⟩
theorem ok_pEval {R : Strc → Prop} (hP : (ct_pPathR R).Ok Try.prog) : (ct_pEval R).Ok Try.prog := fun x h => ok_pEvalN hP x.2.1.size x ⟨h.1, h.2.1, Nat.le_refl _, h.2.2⟩
@[simp] noncomputable def ct_pHolds (R : Strc → Prop) : Ct := ⟨26, Strc × Fm, fun x => szStrc x.1 ≤ 1048576 ∧ (R x.1 ∨ noPathF x.2 = true),
  fun x => [encStrc x.1, encFm x.2], fun x => .int .i64 (evalT x.1 x.2 [])⟩
theorem ok_pHolds {R : Strc → Prop} (hP : (ct_pPathR R).Ok Try.prog) : (ct_pHolds R).Ok Try.prog := by
  rintro ⟨s, f⟩ ⟨hs, hR⟩
  change szStrc s ≤ 1048576 at hs
  change R s ∨ noPathF f = true at hR
  refine Ok.of_cw fok_impl_HoldsIn (go_ok (tab_cons (ok_pEval hP) tab_nil) ?_)
  simp [code_impl_HoldsIn, List.replicate, hs, hR]
end Go.Vm
