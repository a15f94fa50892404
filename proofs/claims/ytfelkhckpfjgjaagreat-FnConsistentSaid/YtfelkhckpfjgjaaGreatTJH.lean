/- HeapOf of the reference. No condition. -/
import Derived.Test.YtfelkhckpfjgjaaGreatTDL
import Derived.Test.YtfelkhckpfjgjaaGreatTPT
import Derived.Test.YtfelkhckpfjgjaaGreatTJG
import Derived.Test.YtfelkhckpfjgjaaGreatTBG
import Derived.Test.YtfelkhckpfjgjaaGreatTCI
set_option linter.unusedSimpArgs false
set_option linter.unusedVariables false
namespace Go.Vm
open Go.Proofs
theorem canon_len2 (h : Heap) : (canonH h).vars.length ≤ h.vars.length ∧ (canonH h).next.length ≤ h.next.length := by
  unfold canonH
  split
  · have := goodC_len (met_good h)
    simp [this]
  · simp
@[simp] def ct_sHeapOf : Ct := ⟨10, Int × Strc, fun x => szStrc x.2 ≤ 1048576, fun x => [.int .i64 x.1, encStrc x.2], fun x => .tup [encHeap (heapOfT x.1 x.2), .bool (heapOfB x.1 x.2)]⟩
set_option maxHeartbeats 8000000 in
set_option maxRecDepth 100000 in
theorem ok_sHeapOf : ct_sHeapOf.Ok Tryz.prog := by
  rintro ⟨v, ⟨ns, nx⟩⟩ hx
  have hx' : szStrc ⟨ns, nx⟩ ≤ 1048576 := hx
  have hsl := strc_le ⟨ns, nx⟩
  simp only at hsl
  have hT : TabOk Tryz.prog _ := tab_cons ok_sIsStructure (tab_cons ok_spec_IsDefinite (tab_cons ok_sCanon (tab_cons ok_sIsHeap tab_nil)))
  refine Ok.of_cw fok_spec_HeapOf ?_
  simp only [code_spec_HeapOf, frame, List.length_cons, List.length_nil, List.replicate, Nat.reduceSub, Nat.reduceAdd, List.cons_append, List.nil_append]
  refine cw_seq (go_ok hT ?_); simp [List.replicate]
  cases c1 : structB v ⟨ns, nx⟩
  case false =>
    have hf : heapOfB v ⟨ns, nx⟩ = false := by simp [heapOfB, c1]
    have hr : heapOfT v ⟨ns, nx⟩ = ⟨[], []⟩ := by simp [heapOfT, hf]
    refine cw_seq (go_ok hT ?_); simp [List.replicate, hx', c1, hf, hr]
  cases c2 : isDef ⟨ns, nx⟩
  case false =>
    have hf : heapOfB v ⟨ns, nx⟩ = false := by simp [heapOfB, c2]
    have hr : heapOfT v ⟨ns, nx⟩ = ⟨[], []⟩ := by simp [heapOfT, hf]
    refine cw_seq (go_ok hT ?_); simp [List.replicate, hx', c1, c2, hf, hr]
  obtain ⟨⟨v1, v2⟩, n1, n2, n3⟩ := struct_len c1
  simp only at n1 n2 n3
  obtain ⟨w, rfl⟩ : ∃ w : Nat, v = (w : Int) := ⟨v.toNat, by omega⟩
  refine cw_seq (go_ok hT ?_); simp [List.replicate, hx', c1, c2]
  refine cw_seq (go_ok hT ?_); simp [List.replicate]
  refine cw_seq (go_ok hT ?_); simp [List.replicate]
  refine cw_seq (go_ok hT ?_)
  simp [List.replicate]
  refine cw_round (fun (p : Nat × List Int) => ⟨slots 93 [(0, .int .i64 (w : Int)), (3, .pbox 0 0), (4, .pbox 3 0), (6, .int .i64 ns.length), (7, .pbox 6 0), (8, .int .i64 p.1)], [.cells [encL 4 encNode ns, encL 1 encInt nx], .nrow, .nrow, .cells [.slref 1 0 0 0, .slref 2 0 0 0], .dead, .dead, .cells [.slref 7 0 p.2.length p.2.length, .slref 8 0 0 0], .row true 3 1 (p.2.map encInt), .nrow]⟩)
    (fun p => p.1 ≤ w ∧ p.2 = hvarsT ns p.1) (fun p => w - p.1) (0, []) ⟨by simp, rfl⟩ ?_ ?_
  · refine (weak_row 7 3 1 rfl).trans (weak_seal 9 (by simp) ?_ ?_)
    · simp
    · simp [List.replicate]
  rintro N hN ⟨k, ys⟩ ⟨hk, hys⟩
  change k ≤ w at hk
  change ys = hvarsT ns k at hys
  have hyl : ys.length = k := by rw [hys]; simp [hvarsT]
  have hwk : IntKind.i64.wrap ((k : Int) + 1) = ((k + 1 : Nat) : Int) := by rw [wrap_i64] <;> omega
  have hby : (ys.length + 1) * 8 ≤ 140737488355328 := by omega
  by_cases g : k < w
  · have g2 : ¬ w ≤ k := by omega
    refine cw_seq (go_ok tab_nil ?_); simp [List.replicate, g, g2]
    refine cw_seq (cw_block ?_)
    refine cw_seq (go_ok tab_nil ?_); simp [List.replicate]
    refine cw_seq (go_ok tab_nil ?_); simp [List.replicate]
    refine cw_round (fun (p : Nat × List Int) => ⟨slots 93 [(0, .int .i64 (w : Int)), (3, .pbox 0 0), (4, .pbox 3 0), (6, .int .i64 ns.length), (7, .pbox 6 0), (8, .int .i64 k), (9, .slref 9 0 p.2.length p.2.length), (10, .int .i64 p.1)], [.cells [encL 4 encNode ns, encL 1 encInt nx], .nrow, .nrow, .cells [.slref 1 0 0 0, .slref 2 0 0 0], .dead, .dead, .cells [.slref 7 0 ys.length ys.length, .slref 8 0 0 0], .row true 3 1 (ys.map encInt), .nrow, .row true 3 1 (p.2.map encInt)]⟩)
      (fun p => p.1 ≤ ns.length ∧ p.2 = (ns.take p.1).map fun x => x.vars.getD k 0) (fun p => ns.length - p.1) (0, []) ⟨by simp, by simp⟩ ?_ ?_
    · refine weak_seal 10 (by simp) ?_ ?_
      · simp
      · simp [List.replicate]
    rintro M hM ⟨i, cs⟩ ⟨hi, hcs⟩
    change i ≤ ns.length at hi
    change cs = (ns.take i).map (fun x => x.vars.getD k 0) at hcs
    have hcl : cs.length = i := by rw [hcs]; simp; omega
    have hwi : IntKind.i64.wrap ((i : Int) + 1) = ((i + 1 : Nat) : Int) := by rw [wrap_i64] <;> omega
    have hbc : (cs.length + 1) * 8 ≤ 140737488355328 := by omega
    by_cases gi : i < ns.length
    · have gi2 : ¬ ns.length ≤ i := by omega
      have hv := n3 ns[i] (List.getElem_mem gi)
      have hkv : k < ns[i].vars.length := by omega
      have ht : (ns.take (i + 1)).map (fun x => x.vars.getD k 0) = cs ++ [ns[i].vars[k]] := by
        rw [hcs, take_map2 _ gi]; simp [hkv]
      refine go_ok tab_nil ?_
      simp [List.replicate, hwi, gi, gi2, hkv, hbc, app1]
      refine hM (i, cs) (i + 1, cs ++ [ns[i].vars[k]]) _ ⟨by simp; omega, ht.symm⟩ (by simp; omega) (weak_seal 10 (by simp) ?_ ?_)
      · simp
      · simp [List.replicate]
    · have e : i = ns.length := by omega
      subst e
      rw [List.take_length] at hcs
      have hcs' : cs = colT ns k := hcs
      have hc2 : cs.length ≤ 1048576 := by omega
      have ht : hvarsT ns (k + 1) = ys ++ [firstT cs] := by rw [hvarsT_succ, hys, hcs']
      refine go_ok tab_nil ?_
      simp [List.replicate]
      refine go_ok (tab_cons ok_l14First tab_nil) ?_
      simp [List.replicate, hc2, hby, app1]
      refine go_ok tab_nil ?_
      simp [List.replicate, hwk]
      refine hN (k, ys) (k + 1, ys ++ [firstT cs]) _ ⟨by simp; omega, ht.symm⟩ (by simp; omega) (weak_seal 9 (by simp) ?_ ?_)
      · simp
      · simp [List.replicate]
  · have e : k = w := by omega
    subst e
    refine go_ok tab_nil ?_
    simp [List.replicate]
    refine cw_seq (go_ok hT ?_)
    simp [List.replicate]
    refine cw_round (fun (p : Nat × List Int) => ⟨slots 93 [(0, .int .i64 (k : Int)), (3, .pbox 0 0), (4, .pbox 3 0), (6, .int .i64 ns.length), (7, .pbox 6 0), (11, .int .i64 p.1)], [.cells [encL 4 encNode ns, encL 1 encInt nx], .nrow, .nrow, .cells [.slref 1 0 0 0, .slref 2 0 0 0], .dead, .dead, .cells [.slref 7 0 ys.length ys.length, .slref 8 0 p.2.length p.2.length], .row true 3 1 (ys.map encInt), .row true 3 1 (p.2.map encInt)]⟩)
      (fun p => p.1 ≤ ns.length ∧ p.2 = hnextT nx ns.length p.1) (fun p => ns.length - p.1) (0, []) ⟨by simp, rfl⟩ ?_ ?_
    · refine (weak_row 8 3 1 rfl).trans (weak_seal 9 (by simp) ?_ ?_)
      · simp
      · simp [List.replicate]
    rintro M hM ⟨i, zs⟩ ⟨hi, hzs⟩
    change i ≤ ns.length at hi
    change zs = hnextT nx ns.length i at hzs
    have hzl : zs.length = i := by rw [hzs]; simp [hnextT]
    have hwi : IntKind.i64.wrap ((i : Int) + 1) = ((i + 1 : Nat) : Int) := by rw [wrap_i64] <;> omega
    have hbz : (zs.length + 1) * 8 ≤ 140737488355328 := by omega
    by_cases gi : i < ns.length
    · have gi2 : ¬ ns.length ≤ i := by omega
      have b1 : i * ns.length ≤ (i + 1) * ns.length := Nat.mul_le_mul (by omega) (Nat.le_refl _)
      have b2 : (i + 1) * ns.length ≤ nx.length := by rw [n2]; exact Nat.mul_le_mul (by omega) (Nat.le_refl _)
      have b3 : nx.length ≤ 100 := by rw [n2]; exact Nat.mul_le_mul n1 n1
      have w1 : IntKind.i64.wrap ((i : Int) * (ns.length : Int)) = ((i * ns.length : Nat) : Int) := by
        rw [show (i : Int) * (ns.length : Int) = ((i * ns.length : Nat) : Int) by push_cast; rfl, wrap_i64] <;> omega
      have w2 : IntKind.i64.wrap (((i : Int) + 1) * (ns.length : Int)) = (((i + 1) * ns.length : Nat) : Int) := by
        rw [show ((i : Int) + 1) * (ns.length : Int) = (((i + 1) * ns.length : Nat) : Int) by push_cast; rfl, wrap_i64] <;> omega
      have ht : hnextT nx ns.length (i + 1) = zs ++ [firstT (cutT nx ns.length i)] := by rw [hnextT_succ, hzs]
      unfold cutT at ht
      generalize hA : i * ns.length = a at *
      generalize hB : (i + 1) * ns.length = b at *
      have hcl : ((nx.take b).drop a).length ≤ 1048576 := by simp; omega
      refine go_ok (tab_cons ok_l14First tab_nil) ?_
      simp [List.replicate, hwi, w1, w2, gi, gi2, b1, b2, hbz, app1, -List.length_drop, hcl]
      refine hM (i, zs) (i + 1, zs ++ [firstT ((nx.take b).drop a)]) _ ⟨by simp; omega, ht.symm⟩ (by simp; omega) (weak_seal 9 (by simp) ?_ ?_)
      · simp
      · simp [List.replicate]
    · have e : i = ns.length := by omega
      subst e
      have hR : heapOfC (k : Int) ⟨ns, nx⟩ = canonH ⟨ys, zs⟩ := by rw [hys, hzs]; simp [heapOfC]
      have hsz : szHeap ⟨ys, zs⟩ ≤ 1048576 := by simp only [szHeap]; omega
      have hcl := canon_len2 ⟨ys, zs⟩
      have hsz2 : szHeap (canonH ⟨ys, zs⟩) ≤ 1048576 := by simp only [szHeap] at hsz ⊢; simp only at hcl; omega
      refine go_ok tab_nil ?_
      simp [List.replicate]
      refine cw_seq (go_ok hT ?_); simp [List.replicate, hsz, Blk.freeze, Blk.frozen]
      generalize hC : canonH ⟨ys, zs⟩ = C at *
      cases c3 : isHeapB k C
      case false =>
        have hf : heapOfB k ⟨ns, nx⟩ = false := by simp [heapOfB, hR, c3]
        have hr : heapOfT k ⟨ns, nx⟩ = ⟨[], []⟩ := by simp [heapOfT, hf]
        refine cw_seq (go_ok hT ?_); simp [List.replicate, hsz2, c3, hf, hr]
      by_cases c4 : C.next.length = ns.length
      · have c4' : (C.next.length : Int) = ns.length := by omega
        have hf : heapOfB k ⟨ns, nx⟩ = true := by simp [heapOfB, hR, c1, c2, c3, c4]
        have hr : heapOfT k ⟨ns, nx⟩ = C := by simp [heapOfT, hf, hR]
        refine cw_seq (go_ok hT ?_); simp [List.replicate, hsz2, c3, c4, c4']
        refine go_ok hT ?_; simp [List.replicate, hf, hr]
        rfl
      · have c4' : ¬ (C.next.length : Int) = ns.length := by omega
        have hf : heapOfB k ⟨ns, nx⟩ = false := by simp [heapOfB, hR, c4']
        have hr : heapOfT k ⟨ns, nx⟩ = ⟨[], []⟩ := by simp [heapOfT, hf]
        refine cw_seq (go_ok hT ?_); simp [List.replicate, hsz2, c3, c4, c4', hf, hr]
end Go.Vm
namespace Go.Vm
open Go.Proofs
theorem setN_sz {s : Strc} {f : Node → Node} (hf : ∀ y, szNode (f y) = szNode y) (i : Nat) : szStrc (setN s i f) = szStrc s := by
  unfold setN
  split
  · rename_i h
    have e2 : ∀ t : Strc, szStrc t = (t.nodes.length + (t.nodes.map szNode).sum) + t.next.length := fun _ => rfl
    rw [e2, e2]
    have : ((s.nodes.set i (f s.nodes[i])).map szNode) = s.nodes.map szNode := by
      rw [List.map_set, hf]
      apply List.ext_getElem
      · simp
      · intro j h1 h2
        rw [List.getElem_set]
        split
        · rename_i e; subst e; simp
        · rfl
    simp only [List.length_set]
    rw [this]
  · rfl
theorem drawHO_sz (bs : List UInt8) : szStrc (drawHO bs) ≤ 1048576 := by
  unfold drawHO
  split
  · exact strcOf_szK _
  · exact (bent12_sz _).1
theorem drawCS_sz (bs : List UInt8) : szStrc (drawCS bs) ≤ 1048576 := by
  have h := drawHO_sz bs
  unfold drawCS
  split
  · exact h
  split
  · split
    · rw [setN_sz fun y => by simp [szNode]]; exact h
    split
    · rw [setN_sz fun y => by simp [szNode]]; exact h
    · have e2 : ∀ t : Strc, szStrc t = (t.nodes.length + (t.nodes.map szNode).sum) + t.next.length := fun _ => rfl
      rw [e2] at h ⊢
      simpa using h
  · exact h
def code_laws_FnConsistent : F := ⟨104,[.tmp 2],.seq (.reg [⟨some 2,.mov (.k (.bool false)),none⟩]) (.seq (.seq (.reg [⟨some 14,.mov (.t 0),none⟩,⟨some 15,.call 5 [.t 14],none⟩]) (.cond (.t 15) (.seq (.reg [⟨some 2,.mov (.k (.bool true)),none⟩]) (.ret)) (.skip))) (.seq (.reg [⟨some 17,.mov (.t 0),none⟩,⟨some 18,.call 22 [.t 17],none⟩,⟨some 16,.mov (.t 18),none⟩,⟨some 19,.extr (.t 16) 0,none⟩,⟨some 20,.extr (.t 16) 1,none⟩,⟨some 4,.alloc [(.sl .nil 0 []),(.sl .nil 0 [])],none⟩,⟨some 3,.mov (.t 19),none⟩,⟨none,.store 2 (.t 4) (.t 20),none⟩]) (.seq (.reg [⟨some 22,.mov (.t 0),none⟩,⟨some 23,.call 23 [.t 22],none⟩,⟨some 21,.mov (.t 23),none⟩,⟨some 24,.extr (.t 21) 0,none⟩,⟨some 25,.extr (.t 21) 1,none⟩,⟨some 26,.extr (.t 21) 2,none⟩,⟨some 5,.alloc [(.sl .nil 0 []),(.sl .nil 0 [])],none⟩,⟨none,.store 2 (.t 5) (.t 24),none⟩,⟨some 6,.mov (.t 25),none⟩,⟨some 7,.mov (.t 26),none⟩]) (.seq (.reg [⟨some 27,.mov (.t 0),none⟩,⟨some 28,.call 24 [.t 27],none⟩,⟨some 8,.alloc [(.sl .nil 0 []),(.sl .nil 0 [])],none⟩,⟨none,.store 2 (.t 8) (.t 28),none⟩]) (.seq (.reg [⟨some 29,.mov (.t 0),none⟩,⟨some 30,.call 25 [.t 29],none⟩,⟨some 9,.alloc [(.sl .nil 0 []),(.sl .nil 0 [])],none⟩,⟨none,.store 2 (.t 9) (.t 30),none⟩]) (.seq (.reg [⟨some 31,.mov (.t 3),none⟩,⟨some 32,.load 2 true (.t 4),none⟩,⟨some 33,.call 26 [.t 31,.t 32],none⟩,⟨some 10,.mov (.t 33),none⟩]) (.seq (.seq (.dreg [false,false,false,false,true,true,false,false,false,false,false,false,false,true,true,true,true,false,false,false,true,true,true,true,false,false,false,true,true,true] [false,false,false,true,false,false,false,false,false,true,false,false,false,true,false,false,false,false,true,false,true,false,false,false,false,true,false,true,false,false] [⟨some 34,.mov (.t 10),none⟩,⟨some 35,.mov (.t 3),none⟩,⟨some 36,.load 2 true (.t 4),none⟩,⟨some 37,.call 27 [.t 35,.t 36],none⟩,⟨some 38,.beq true (.t 34) (.t 37),none⟩,⟨some 39,.mov (.t 38),none⟩,⟨some 40,.load 2 true (.t 5),some (39,false)⟩,⟨some 41,.mov (.t 6),some (39,false)⟩,⟨some 42,.mov (.t 7),some (39,false)⟩,⟨some 43,.call 28 [.t 40,.t 41,.t 42],some (39,false)⟩,⟨some 44,.load 2 true (.t 5),some (39,false)⟩,⟨some 45,.mov (.t 6),some (39,false)⟩,⟨some 46,.mov (.t 7),some (39,false)⟩,⟨some 47,.call 29 [.t 44,.t 45,.t 46],some (39,false)⟩,⟨some 48,.bin .neq (.t 43) (.t 47),some (39,false)⟩,⟨some 49,.pick (.t 39) (.k (.bool true)) (.t 48),none⟩,⟨some 50,.mov (.t 49),none⟩,⟨some 51,.load 2 true (.t 8),some (50,false)⟩,⟨some 52,.call 30 [.t 51],some (50,false)⟩,⟨some 53,.load 2 true (.t 8),some (50,false)⟩,⟨some 54,.call 21 [.t 53],some (50,false)⟩,⟨some 55,.bin .neq (.t 52) (.t 54),some (50,false)⟩,⟨some 56,.pick (.t 50) (.k (.bool true)) (.t 55),none⟩,⟨some 57,.mov (.t 56),none⟩,⟨some 58,.load 2 true (.t 9),some (57,false)⟩,⟨some 59,.call 31 [.t 58],some (57,false)⟩,⟨some 60,.load 2 true (.t 9),some (57,false)⟩,⟨some 61,.call 32 [.t 60],some (57,false)⟩,⟨some 62,.bin .neq (.t 59) (.t 61),some (57,false)⟩,⟨some 63,.pick (.t 57) (.k (.bool true)) (.t 62),none⟩]) (.cond (.t 63) (.seq (.reg [⟨some 2,.mov (.k (.bool false)),none⟩]) (.ret)) (.skip))) (.seq (.reg [⟨some 65,.mov (.t 3),none⟩,⟨some 66,.load 2 true (.t 4),none⟩,⟨some 67,.call 10 [.t 65,.t 66],none⟩,⟨some 64,.mov (.t 67),none⟩,⟨some 68,.extr (.t 64) 0,none⟩,⟨some 69,.extr (.t 64) 1,none⟩,⟨some 11,.alloc [(.sl .nil 0 []),(.sl .nil 0 [])],none⟩,⟨none,.store 2 (.t 11) (.t 68),none⟩,⟨some 12,.mov (.t 69),none⟩]) (.seq (.seq (.reg [⟨some 70,.mov (.t 10),none⟩,⟨some 71,.mov (.t 70),none⟩,⟨some 72,.mov (.t 12),some (71,true)⟩,⟨some 73,.not (.t 72),some (71,true)⟩,⟨some 74,.pick (.t 71) (.t 73) (.k (.bool false)),none⟩,⟨some 75,.mov (.t 74),none⟩,⟨some 76,.faddr 0 (.t 4),some (75,true)⟩,⟨some 77,.load 1 false (.t 76),some (75,true)⟩,⟨some 78,.len (.t 77),some (75,true)⟩,⟨some 79,.bin .leq (.t 78) (.k (.int .i64 6)),some (75,true)⟩,⟨some 80,.pick (.t 75) (.t 79) (.k (.bool false)),none⟩]) (.cond (.t 80) (.seq (.reg [⟨some 2,.mov (.k (.bool false)),none⟩]) (.ret)) (.skip))) (.seq (.reg [⟨some 81,.mov (.t 0),none⟩,⟨some 82,.call 6 [.t 81],none⟩,⟨some 13,.alloc [(.sl .nil 0 []),(.sl .nil 0 [])],none⟩,⟨none,.store 2 (.t 13) (.t 82),none⟩]) (.seq (.reg [⟨some 83,.mov (.t 10),none⟩,⟨some 84,.not (.t 83),none⟩,⟨some 85,.mov (.t 84),none⟩,⟨some 86,.mov (.t 12),some (85,false)⟩,⟨some 87,.not (.t 86),some (85,false)⟩,⟨some 88,.pick (.t 85) (.k (.bool true)) (.t 87),none⟩,⟨some 89,.mov (.t 88),none⟩,⟨some 90,.mov (.t 3),some (89,false)⟩,⟨some 91,.load 2 true (.t 11),some (89,false)⟩,⟨some 92,.call 20 [.t 90,.t 91],some (89,false)⟩,⟨some 93,.pick (.t 89) (.k (.bool true)) (.t 92),none⟩,⟨some 94,.mov (.t 93),none⟩,⟨some 95,.load 2 true (.t 13),some (94,true)⟩,⟨some 96,.call 20 [(.k (.int .i64 3)),.t 95],some (94,true)⟩,⟨some 97,.not (.t 96),some (94,true)⟩,⟨some 98,.mov (.t 97),some (94,true)⟩,⟨some 99,.load 2 true (.t 13),some (98,false)⟩,⟨some 100,.call 13 [.t 99],some (98,false)⟩,⟨some 101,.call 26 [(.k (.int .i64 3)),.t 100],some (98,false)⟩,⟨some 102,.pick (.t 98) (.k (.bool true)) (.t 101),some (94,true)⟩,⟨some 103,.pick (.t 94) (.t 102) (.k (.bool false)),none⟩,⟨some 2,.mov (.t 103),none⟩]) (.ret))))))))))))⟩
theorem fok_laws_FnConsistent : FOk Tryz.prog 4 code_laws_FnConsistent := fok Tryz.func4 (by kernel_rfl)
set_option maxHeartbeats 8000000 in
set_option maxRecDepth 100000 in
theorem ok_lawConsistent (bs : List UInt8) : Ok Tryz.prog 4 [encL 1 encU bs] (.bool true) := by
  by_cases hbs : bs.length ≤ 1048576
  case neg =>
    have hb2 : 1048576 < bs.length := by omega
    refine Ok.of_cw fok_laws_FnConsistent (go_ok (tab_cons ok_bigK tab_nil) ?_)
    simp [code_laws_FnConsistent, List.replicate, hb2]
  have hb2 : ¬ 1048576 < bs.length := by omega
  have hT : TabOk Tryz.prog _ := tab_cons ok_bigK (tab_cons ok_DrawIsConsistent (tab_cons ok_DrawPredicateAt (tab_cons ok_DrawMeetsDefinitions (tab_cons ok_DrawCountPredicates (tab_cons ok_DrawStructureOf (tab_cons ok_pIsCons (tab_cons ok_sIsCons (tab_cons ok_impl_PredicateAt (tab_cons ok_spec_PredicateAt (tab_cons ok_pMeets (tab_cons ok_sMeets (tab_cons ok_impl_Count (tab_cons ok_spec_Count (tab_cons ok_sHeapOf (tab_cons ok_sIsHeap (tab_cons ok_sStructureOf tab_nil))))))))))))))))
  obtain ⟨b1, b2, -⟩ := bent_len (cur0 bs)
  have l1 : (drawCan bs).2.vars.length = 3 := b1
  have l2 : (drawCan bs).2.next.length ≤ 6 := b2
  have z1 : szHeap (drawCan bs).2 ≤ 1048576 := by change (drawCan bs).2.vars.length + (drawCan bs).2.next.length ≤ _; omega
  have z2 := drawCS_sz bs
  have z3 : szStrc (drawB2 bs) ≤ 1048576 := (bent12_sz _).1
  have z4 : truthS (drawB2 bs) := bent12_truth _
  have z5 := strcOf_szK (drawCan bs).2
  have z6 : isHeapB 3 (drawCan bs).2 = true → consB 3 (strcOf (drawCan bs).2) = true := by
    have := cons_heap (h := (drawCan bs).2)
    rw [l1] at this
    exact this
  have z7 : consB 3 (drawCS bs) = true → heapOfB 3 (drawCS bs) = false → ¬ (drawCS bs).nodes.length ≤ 6 := fun h1 h2 h3 => by
    rw [heapOf_cons h1 h3] at h2; cases h2
  have z8 : heapOfB 3 (drawCS bs) = true → isHeapB 3 (heapOfT 3 (drawCS bs)) = true := fun h => by
    have h2 := h
    unfold heapOfB at h2
    simp only [Bool.and_eq_true] at h2
    unfold heapOfT
    rw [if_pos h]
    exact h2.2.1
  have z9 : heapOfB 3 (drawCS bs) = true → szHeap (heapOfT 3 (drawCS bs)) ≤ 1048576 := fun h => by
    obtain ⟨e1, e2, e3, e4, -, -⟩ := heap_bounds (z8 h)
    have : szHeap (heapOfT 3 (drawCS bs)) = (heapOfT 3 (drawCS bs)).vars.length + (heapOfT 3 (drawCS bs)).next.length := rfl
    omega
  refine Ok.of_cw fok_laws_FnConsistent ?_
  simp only [code_laws_FnConsistent, frame, List.length_cons, List.length_nil, List.replicate, Nat.reduceSub, Nat.reduceAdd, List.cons_append, List.nil_append]
  refine cw_seq (go_ok hT ?_); simp [List.replicate]
  refine cw_seq (go_ok hT ?_); simp [List.replicate, hbs, hb2]
  refine cw_seq (go_ok hT ?_); simp [List.replicate, hbs]
  refine cw_seq (go_ok hT ?_); simp [List.replicate, hbs]
  refine cw_seq (go_ok hT ?_); simp [List.replicate, hbs]
  refine cw_seq (go_ok hT ?_); simp [List.replicate, hbs]
  generalize drawCS bs = x at *
  generalize drawB2 bs = y at *
  generalize drawP1 bs = p1 at *
  generalize drawP2 bs = p2 at *
  refine cw_seq (go_ok hT ?_); simp [List.replicate, z2]
  refine cw_seq (cw_seq (go_ok hT ?_)); simp (maxSteps := 4000000) [List.replicate, z2, z3, z4]
  refine go_ok hT ?_; simp [List.replicate]
  refine cw_seq (go_ok hT ?_); simp [List.replicate, z2]
  have hg : szHeap (heapOfT 3 x) ≤ 1048576 := by
    cases hf : heapOfB 3 x
    · unfold heapOfT; rw [if_neg (by simp [hf])]; decide
    · exact z9 hf
  have fin : ∀ b : Bool, (consB 3 x = false ∨ heapOfB 3 x = false ∨ isHeapB 3 (heapOfT 3 x) = true) → (!consB 3 x || !heapOfB 3 x || isHeapB 3 (heapOfT 3 x)) = true := fun b h => by
    rcases h with h | h | h <;> rw [h] <;> simp
  have st : (consB 3 x && !heapOfB 3 x && decide ((x.nodes.length : Int) ≤ 6)) = false := by
    cases h1 : consB 3 x
    · simp
    cases h2 : heapOfB 3 x
    · have := z7 h1 h2
      simp
      omega
    · simp
  have f1 : consB 3 x = true → heapOfB 3 x = true → isHeapB 3 (heapOfT 3 x) = true := fun _ h => z8 h
  clear z7 z8 z9 fin
  generalize heapOfT 3 x = w at *
  cases hc : consB 3 x
  · refine cw_seq (cw_seq (go_ok hT ?_)); simp [List.replicate, hc]
    refine go_ok hT ?_; simp [List.replicate]
    refine cw_seq (go_ok hT ?_); simp [List.replicate, hbs]
    cases hh : isHeapB 3 (drawCan bs).2
    · refine cw_seq (go_ok hT ?_); simp (maxSteps := 4000000) [List.replicate, z1, hh, hc]
      refine go_ok hT ?_; simp [List.replicate]
    · have := z6 hh
      refine cw_seq (go_ok hT ?_); simp (maxSteps := 4000000) [List.replicate, z1, z5, hh, hc, this]
      refine go_ok hT ?_; simp [List.replicate]
  · cases hf : heapOfB 3 x
    · have hn : ¬ (x.nodes.length : Int) ≤ 6 := by simpa [hc, hf] using st
      refine cw_seq (cw_seq (go_ok hT ?_)); simp [List.replicate, hc, hf, hn]
      refine go_ok hT ?_; simp [List.replicate]
      refine cw_seq (go_ok hT ?_); simp [List.replicate, hbs]
      cases hh : isHeapB 3 (drawCan bs).2
      · refine cw_seq (go_ok hT ?_); simp (maxSteps := 4000000) [List.replicate, z1, hh, hc, hf]
        refine go_ok hT ?_; simp [List.replicate]
      · have := z6 hh
        refine cw_seq (go_ok hT ?_); simp (maxSteps := 4000000) [List.replicate, z1, z5, hh, hc, hf, this]
        refine go_ok hT ?_; simp [List.replicate]
    · have f2 := f1 hc hf
      refine cw_seq (cw_seq (go_ok hT ?_)); simp [List.replicate, hc, hf]
      refine go_ok hT ?_; simp [List.replicate]
      refine cw_seq (go_ok hT ?_); simp [List.replicate, hbs]
      cases hh : isHeapB 3 (drawCan bs).2
      · refine cw_seq (go_ok hT ?_); simp (maxSteps := 4000000) [List.replicate, z1, hg, hh, hc, hf, f2]
        refine go_ok hT ?_; simp [List.replicate]
      · have := z6 hh
        refine cw_seq (go_ok hT ?_); simp (maxSteps := 4000000) [List.replicate, z1, z5, hg, hh, hc, hf, f2, this]
        refine go_ok hT ?_; simp [List.replicate]
end Go.Vm
