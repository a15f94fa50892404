/- HeapOf of the reference. No condition. -/
import Derived.Test.YtfelkhckpfjgjaaGreatTDL
set_option linter.unusedSimpArgs false
set_option linter.unusedVariables false
namespace Go.Vm
open Go.Proofs
theorem canon_len2 (h : Heap) : (canonH h).vars.length ≤ h.vars.length ∧ (canonH h).next.length ≤ h.next.length := by
  unfold canonH
  split
  · have := goodC_len (met_good h)
    simp [this]
  · simp
@[simp] def ct_sHeapOf : Ct := ⟨10, Int × Strc, fun x => szStrc x.2 ≤ 1048576, fun x => [.int .i64 x.1, encStrc x.2], fun x => .tup [encHeap (heapOfT x.1 x.2), .bool (heapOfB x.1 x.2)]⟩
set_option maxHeartbeats 8000000 in
set_option maxRecDepth 100000 in
theorem ok_sHeapOf : ct_sHeapOf.Ok Tryz.prog := by
  rintro ⟨v, ⟨ns, nx⟩⟩ hx
  have hx' : szStrc ⟨ns, nx⟩ ≤ 1048576 := hx
  have hsl := strc_le ⟨ns, nx⟩
  simp only at hsl
  have hT : TabOk Tryz.prog _ := tab_cons ok_sIsStructure (tab_cons ok_spec_IsDefinite (tab_cons ok_sCanon (tab_cons ok_sIsHeap tab_nil)))
  refine Ok.of_cw fok_spec_HeapOf ?_
  simp only [code_spec_HeapOf, frame, List.length_cons, List.length_nil, List.replicate, Nat.reduceSub, Nat.reduceAdd, List.cons_append, List.nil_append]
  refine cw_seq (go_ok hT ?_); simp [List.replicate]
  cases c1 : structB v ⟨ns, nx⟩
  case false =>
    have hf : heapOfB v ⟨ns, nx⟩ = false := by simp [heapOfB, c1]
    have hr : heapOfT v ⟨ns, nx⟩ = ⟨[], []⟩ := by simp [heapOfT, hf]
    refine cw_seq (go_ok hT ?_); simp [List.replicate, hx', c1, hf, hr]
  cases c2 : isDef ⟨ns, nx⟩
  case false =>
    have hf : heapOfB v ⟨ns, nx⟩ = false := by simp [heapOfB, c2]
    have hr : heapOfT v ⟨ns, nx⟩ = ⟨[], []⟩ := by simp [heapOfT, hf]
    refine cw_seq (go_ok hT ?_); simp [List.replicate, hx', c1, c2, hf, hr]
  obtain ⟨⟨v1, v2⟩, n1, n2, n3⟩ := struct_len c1
  simp only at n1 n2 n3
  obtain ⟨w, rfl⟩ : ∃ w : Nat, v = (w : Int) := ⟨v.toNat, by omega⟩
  refine cw_seq (go_ok hT ?_); simp [List.replicate, hx', c1, c2]
  refine cw_seq (go_ok hT ?_); simp [List.replicate]
  refine cw_seq (go_ok hT ?_); simp [List.replicate]
  refine cw_seq (go_ok hT ?_)
  simp [List.replicate]
  refine cw_round (fun (p : Nat × List Int) => ⟨slots 93 [(0, .int .i64 (w : Int)), (3, .pbox 0 0), (4, .pbox 3 0), (6, .int .i64 ns.length), (7, .pbox 6 0), (8, .int .i64 p.1)], [.cells [encL 4 encNode ns, encL 1 encInt nx], .nrow, .nrow, .cells [.slref 1 0 0 0, .slref 2 0 0 0], .dead, .dead, .cells [.slref 7 0 p.2.length p.2.length, .slref 8 0 0 0], .row true 3 1 (p.2.map encInt), .nrow]⟩)
    (fun p => p.1 ≤ w ∧ p.2 = hvarsT ns p.1) (fun p => w - p.1) (0, []) ⟨by simp, rfl⟩ ?_ ?_
  · refine (weak_row 7 3 1 rfl).trans (weak_seal 9 (by simp) ?_ ?_)
    · simp
    · simp [List.replicate]
  rintro N hN ⟨k, ys⟩ ⟨hk, hys⟩
  change k ≤ w at hk
  change ys = hvarsT ns k at hys
  have hyl : ys.length = k := by rw [hys]; simp [hvarsT]
  have hwk : IntKind.i64.wrap ((k : Int) + 1) = ((k + 1 : Nat) : Int) := by rw [wrap_i64] <;> omega
  have hby : (ys.length + 1) * 8 ≤ 140737488355328 := by omega
  by_cases g : k < w
  · have g2 : ¬ w ≤ k := by omega
    refine cw_seq (go_ok tab_nil ?_); simp [List.replicate, g, g2]
    refine cw_seq (cw_block ?_)
    refine cw_seq (go_ok tab_nil ?_); simp [List.replicate]
    refine cw_seq (go_ok tab_nil ?_); simp [List.replicate]
    refine cw_round (fun (p : Nat × List Int) => ⟨slots 93 [(0, .int .i64 (w : Int)), (3, .pbox 0 0), (4, .pbox 3 0), (6, .int .i64 ns.length), (7, .pbox 6 0), (8, .int .i64 k), (9, .slref 9 0 p.2.length p.2.length), (10, .int .i64 p.1)], [.cells [encL 4 encNode ns, encL 1 encInt nx], .nrow, .nrow, .cells [.slref 1 0 0 0, .slref 2 0 0 0], .dead, .dead, .cells [.slref 7 0 ys.length ys.length, .slref 8 0 0 0], .row true 3 1 (ys.map encInt), .nrow, .row true 3 1 (p.2.map encInt)]⟩)
      (fun p => p.1 ≤ ns.length ∧ p.2 = (ns.take p.1).map fun x => x.vars.getD k 0) (fun p => ns.length - p.1) (0, []) ⟨by simp, by simp⟩ ?_ ?_
    · refine weak_seal 10 (by simp) ?_ ?_
      · simp
      · simp [List.replicate]
    rintro M hM ⟨i, cs⟩ ⟨hi, hcs⟩
    change i ≤ ns.length at hi
    change cs = (ns.take i).map (fun x => x.vars.getD k 0) at hcs
    have hcl : cs.length = i := by rw [hcs]; simp; omega
    have hwi : IntKind.i64.wrap ((i : Int) + 1) = ((i + 1 : Nat) : Int) := by rw [wrap_i64] <;> omega
    have hbc : (cs.length + 1) * 8 ≤ 140737488355328 := by omega
    by_cases gi : i < ns.length
    · have gi2 : ¬ ns.length ≤ i := by omega
      have hv := n3 ns[i] (List.getElem_mem gi)
      have hkv : k < ns[i].vars.length := by omega
      have ht : (ns.take (i + 1)).map (fun x => x.vars.getD k 0) = cs ++ [ns[i].vars[k]] := by
        rw [hcs, take_map2 _ gi]; simp [hkv]
      refine go_ok tab_nil ?_
      simp [List.replicate, hwi, gi, gi2, hkv, hbc, app1]
      refine hM (i, cs) (i + 1, cs ++ [ns[i].vars[k]]) _ ⟨by simp; omega, ht.symm⟩ (by simp; omega) (weak_seal 10 (by simp) ?_ ?_)
      · simp
      · simp [List.replicate]
    · have e : i = ns.length := by omega
      subst e
      rw [List.take_length] at hcs
      have hcs' : cs = colT ns k := hcs
      have hc2 : cs.length ≤ 1048576 := by omega
      have ht : hvarsT ns (k + 1) = ys ++ [firstT cs] := by rw [hvarsT_succ, hys, hcs']
      refine go_ok tab_nil ?_
      simp [List.replicate]
      refine go_ok (tab_cons ok_l14First tab_nil) ?_
      simp [List.replicate, hc2, hby, app1]
      refine go_ok tab_nil ?_
      simp [List.replicate, hwk]
      refine hN (k, ys) (k + 1, ys ++ [firstT cs]) _ ⟨by simp; omega, ht.symm⟩ (by simp; omega) (weak_seal 9 (by simp) ?_ ?_)
      · simp
      · simp [List.replicate]
  · have e : k = w := by omega
    subst e
    refine go_ok tab_nil ?_
    simp [List.replicate]
    refine cw_seq (go_ok hT ?_)
    simp [List.replicate]
    refine cw_round (fun (p : Nat × List Int) => ⟨slots 93 [(0, .int .i64 (k : Int)), (3, .pbox 0 0), (4, .pbox 3 0), (6, .int .i64 ns.length), (7, .pbox 6 0), (11, .int .i64 p.1)], [.cells [encL 4 encNode ns, encL 1 encInt nx], .nrow, .nrow, .cells [.slref 1 0 0 0, .slref 2 0 0 0], .dead, .dead, .cells [.slref 7 0 ys.length ys.length, .slref 8 0 p.2.length p.2.length], .row true 3 1 (ys.map encInt), .row true 3 1 (p.2.map encInt)]⟩)
      (fun p => p.1 ≤ ns.length ∧ p.2 = hnextT nx ns.length p.1) (fun p => ns.length - p.1) (0, []) ⟨by simp, rfl⟩ ?_ ?_
    · refine (weak_row 8 3 1 rfl).trans (weak_seal 9 (by simp) ?_ ?_)
      · simp
      · simp [List.replicate]
    rintro M hM ⟨i, zs⟩ ⟨hi, hzs⟩
    change i ≤ ns.length at hi
    change zs = hnextT nx ns.length i at hzs
    have hzl : zs.length = i := by rw [hzs]; simp [hnextT]
    have hwi : IntKind.i64.wrap ((i : Int) + 1) = ((i + 1 : Nat) : Int) := by rw [wrap_i64] <;> omega
    have hbz : (zs.length + 1) * 8 ≤ 140737488355328 := by omega
    by_cases gi : i < ns.length
    · have gi2 : ¬ ns.length ≤ i := by omega
      have b1 : i * ns.length ≤ (i + 1) * ns.length := Nat.mul_le_mul (by omega) (Nat.le_refl _)
      have b2 : (i + 1) * ns.length ≤ nx.length := by rw [n2]; exact Nat.mul_le_mul (by omega) (Nat.le_refl _)
      have b3 : nx.length ≤ 100 := by rw [n2]; exact Nat.mul_le_mul n1 n1
      have w1 : IntKind.i64.wrap ((i : Int) * (ns.length : Int)) = ((i * ns.length : Nat) : Int) := by
        rw [show (i : Int) * (ns.length : Int) = ((i * ns.length : Nat) : Int) by push_cast; rfl, wrap_i64] <;> omega
      have w2 : IntKind.i64.wrap (((i : Int) + 1) * (ns.length : Int)) = (((i + 1) * ns.length : Nat) : Int) := by
        rw [show ((i : Int) + 1) * (ns.length : Int) = (((i + 1) * ns.length : Nat) : Int) by push_cast; rfl, wrap_i64] <;> omega
      have ht : hnextT nx ns.length (i + 1) = zs ++ [firstT (cutT nx ns.length i)] := by rw [hnextT_succ, hzs]
      unfold cutT at ht
      generalize hA : i * ns.length = a at *
      generalize hB : (i + 1) * ns.length = b at *
      have hcl : ((nx.take b).drop a).length ≤ 1048576 := by simp; omega
      refine go_ok (tab_cons ok_l14First tab_nil) ?_
      simp [List.replicate, hwi, w1, w2, gi, gi2, b1, b2, hbz, app1, -List.length_drop, hcl]
      refine hM (i, zs) (i + 1, zs ++ [firstT ((nx.take b).drop a)]) _ ⟨by simp; omega, ht.symm⟩ (by simp; omega) (weak_seal 9 (by simp) ?_ ?_)
      · simp
      · simp [List.replicate]
    · have e : i = ns.length := by omega
      subst e
      have hR : heapOfC (k : Int) ⟨ns, nx⟩ = canonH ⟨ys, zs⟩ := by rw [hys, hzs]; simp [heapOfC]
      have hsz : szHeap ⟨ys, zs⟩ ≤ 1048576 := by simp only [szHeap]; omega
      have hcl := canon_len2 ⟨ys, zs⟩
      have hsz2 : szHeap (canonH ⟨ys, zs⟩) ≤ 1048576 := by simp only [szHeap] at hsz ⊢; simp only at hcl; omega
      refine go_ok tab_nil ?_
      simp [List.replicate]
      refine cw_seq (go_ok hT ?_); simp [List.replicate, hsz, Blk.freeze, Blk.frozen]
      generalize hC : canonH ⟨ys, zs⟩ = C at *
      cases c3 : isHeapB k C
      case false =>
        have hf : heapOfB k ⟨ns, nx⟩ = false := by simp [heapOfB, hR, c3]
        have hr : heapOfT k ⟨ns, nx⟩ = ⟨[], []⟩ := by simp [heapOfT, hf]
        refine cw_seq (go_ok hT ?_); simp [List.replicate, hsz2, c3, hf, hr]
      by_cases c4 : C.next.length = ns.length
      · have c4' : (C.next.length : Int) = ns.length := by omega
        have hf : heapOfB k ⟨ns, nx⟩ = true := by simp [heapOfB, hR, c1, c2, c3, c4]
        have hr : heapOfT k ⟨ns, nx⟩ = C := by simp [heapOfT, hf, hR]
        refine cw_seq (go_ok hT ?_); simp [List.replicate, hsz2, c3, c4, c4']
        refine go_ok hT ?_; simp [List.replicate, hf, hr]
        rfl
      · have c4' : ¬ (C.next.length : Int) = ns.length := by omega
        have hf : heapOfB k ⟨ns, nx⟩ = false := by simp [heapOfB, hR, c4']
        have hr : heapOfT k ⟨ns, nx⟩ = ⟨[], []⟩ := by simp [heapOfT, hf]
        refine cw_seq (go_ok hT ?_); simp [List.replicate, hsz2, c3, c4, c4', hf, hr]
end Go.Vm

namespace Go.Vm
open Go.Proofs
/-- Where the result lies. -/
def hofA (v : Int) (s : Strc) : Nat := if (structB v s && isDef s) = true then (if cellsB ⟨hvarsT s.nodes v.toNat, hnextT s.next s.nodes.length s.nodes.length⟩ = true then (if heapOfB v s = true then 18 else 20) else 15) else 4
def hofR (v : Int) (s : Strc) : AV := .tup [.agg [.slref (hofA v s) 0 (heapOfT v s).vars.length (heapOfT v s).vars.length, .slref (hofA v s + 1) 0 (heapOfT v s).next.length (heapOfT v s).next.length], .bool (heapOfB v s)]
def hofN (v : Int) (s : Strc) : List Blk := [.dead, .dead, .dead, .cells [.slref (hofA v s) 0 (heapOfT v s).vars.length (heapOfT v s).vars.length, .slref (hofA v s + 1) 0 (heapOfT v s).next.length (heapOfT v s).next.length]] ++ List.replicate (hofA v s - 4) .dead ++ [.row true 3 1 ((heapOfT v s).vars.map encInt), .row true 3 1 ((heapOfT v s).next.map encInt)]
theorem firstT_col (ns : List Node) (k : Nat) : firstT (colT ns k) = findI (fun x : Node => (2 : Int) == x.vars.getD k 0) ns := findI_map
set_option maxHeartbeats 8000000 in
set_option maxRecDepth 100000 in
theorem ok_pHeapOfH (v : Int) (s : Strc) (hx : szStrc s ≤ 1048576) : OkH Tryz.prog 9 [.int .i64 v, encStrc s] [] (hofR v s) (hofN v s) := by
  obtain ⟨ns, nx⟩ := s
  have hsl := strc_le ⟨ns, nx⟩
  simp only at hsl
  have hc0 : callable Tryz.prog 47 = true := by kernel_rfl
  have hT : TabOk Tryz.prog _ := tab_h (CtN.hok ok_pCanon) (tab_cons ok_pIsStructure (tab_cons ok_impl_IsDefinite (tab_cons ok_pIsHeap tab_nil)))
  refine OkH.of_cw fok_impl_HeapOf ?_
  simp only [code_impl_HeapOf, frame, List.length_cons, List.length_nil, List.replicate, Nat.reduceSub, Nat.reduceAdd, List.cons_append, List.nil_append]
  refine cw_seq (go_ok hT ?_); simp [List.replicate]
  cases c0 : (structB v ⟨ns, nx⟩ && isDef ⟨ns, nx⟩)
  case false =>
    have hf : heapOfB v ⟨ns, nx⟩ = false := by simp [heapOfB, c0]
    have hr : heapOfT v ⟨ns, nx⟩ = ⟨[], []⟩ := by simp [heapOfT, hf]
    have hA : hofA v ⟨ns, nx⟩ = 4 := by simp only [hofA, c0]; rfl
    have hR : hofR v ⟨ns, nx⟩ = .tup [.agg [.slref 4 0 0 0, .slref 5 0 0 0], .bool false] := by simp [hofR, hA, hr, hf]
    have hN : hofN v ⟨ns, nx⟩ = [.dead, .dead, .dead, .cells [.slref 4 0 0 0, .slref 5 0 0 0], .row true 3 1 [], .row true 3 1 []] := by simp [hofN, hA, hr]
    rw [hR, hN]
    cases c1 : structB v ⟨ns, nx⟩
    · refine cw_seq (go_ok hT ?_); simp [List.replicate, hx, c1]
      refine ⟨⟨[.undef, .undef, .undef, .undef, .pbox 3 0, .bool false] ++ List.replicate 72 .undef, _⟩, (weak_row 4 3 1 rfl).trans ((weak_row 5 3 1 rfl).trans (weak_seal 6 (by omega) (H' := [.dead, .dead, .dead, .cells [.slref 4 0 0 0, .slref 5 0 0 0], .row true 3 1 [], .row true 3 1 []]) ?_ ?_)), ?_⟩
      · simp
      · simp [List.replicate]
      · simp [retH, List.replicate]
    · have c2 : isDef ⟨ns, nx⟩ = false := by simpa [c1] using c0
      refine cw_seq (go_ok hT ?_); simp [List.replicate, hx, c1, c2]
      refine ⟨⟨[.undef, .undef, .undef, .undef, .pbox 3 0, .bool false] ++ List.replicate 72 .undef, _⟩, (weak_row 4 3 1 rfl).trans ((weak_row 5 3 1 rfl).trans (weak_seal 6 (by omega) (H' := [.dead, .dead, .dead, .cells [.slref 4 0 0 0, .slref 5 0 0 0], .row true 3 1 [], .row true 3 1 []]) ?_ ?_)), ?_⟩
      · simp
      · simp [List.replicate]
      · simp [retH, List.replicate]
  have c00 := c0
  simp only [Bool.and_eq_true] at c00
  obtain ⟨c1, c2⟩ := c00
  obtain ⟨⟨v1, v2⟩, n1, n2, n3⟩ := struct_len c1
  simp only at n1 n2 n3
  obtain ⟨w, rfl⟩ : ∃ w : Nat, v = (w : Int) := ⟨v.toNat, by omega⟩
  refine cw_seq (go_ok hT ?_); simp [List.replicate, hx, c1, c2]
  refine cw_seq (go_ok hT ?_); simp [List.replicate]
  refine cw_seq (go_ok hT ?_); simp [List.replicate]
  refine cw_round (fun (p : Nat × List Int) => ⟨slots 78 [(0, .int .i64 (w : Int)), (3, .pbox 0 0), (4, .pbox 3 0), (6, .pbox 6 0), (20, .int .i64 (w : Int)), (21, .int .i64 p.1)], [.cells [encL 4 encNode ns, encL 1 encInt nx], .nrow, .nrow, .cells [.slref 1 0 0 0, .slref 2 0 0 0], .dead, .dead, .cells [.slref 7 0 p.2.length p.2.length, .slref 8 0 0 0], .row true 3 1 (p.2.map encInt), .nrow]⟩)
    (fun p => p.1 ≤ w ∧ p.2 = hvarsT ns p.1) (fun p => w - p.1) (0, []) ⟨by simp, rfl⟩ ?_ ?_
  · refine (weak_row 7 3 1 rfl).trans (weak_seal 9 (by simp) ?_ ?_)
    · simp
    · simp [List.replicate]
  rintro N hN ⟨k, ys⟩ ⟨hk, hys⟩
  change k ≤ w at hk
  change ys = hvarsT ns k at hys
  have hyl : ys.length = k := by rw [hys]; simp [hvarsT]
  have hwk : IntKind.i64.wrap ((k : Int) + 1) = ((k + 1 : Nat) : Int) := by rw [wrap_i64] <;> omega
  have hby : (ys.length + 1) * 8 ≤ 140737488355328 := by omega
  by_cases g : k < w
  · have g2 : ¬ w ≤ k := by omega
    have ht : hvarsT ns (k + 1) = ys ++ [findI (fun x : Node => (2 : Int) == x.vars.getD k 0) ns] := by rw [hvarsT_succ, hys, firstT_col]
    refine go_ok (tab_cons ok_IndexFuncN tab_nil) ?_
    simp [List.replicate, g, g2, hc0, capOk, AV.isFn]
    simp only [List.getD_eq_getElem?_getD] at ht
    refine ⟨fun x => (2 : Int) == (x.vars[k]?).getD 0, fun a ha => by
      have h9 := ok_HeapOf1 (a, k) (by have := n3 a ha; change k < a.vars.length; omega)
      simp only [ct_HeapOf1, List.getD_eq_getElem?_getD] at h9
      exact h9, ?_⟩
    simp [List.replicate, hby, app1, hwk]
    refine hN (k, ys) (k + 1, ys ++ [findI (fun x : Node => (2 : Int) == (x.vars[k]?).getD 0) ns]) _ ⟨by simp; omega, ht.symm⟩ (by simp; omega) (weak_seal 9 (by simp) ?_ ?_)
    · simp
    · simp [List.replicate]
  · have e : k = w := by omega
    subst e
    refine go_ok tab_nil ?_
    simp [List.replicate]
    refine cw_seq (go_ok hT ?_)
    simp [List.replicate]
    refine cw_round (fun (p : Nat × List Int) => ⟨slots 78 [(0, .int .i64 (k : Int)), (3, .pbox 0 0), (4, .pbox 3 0), (6, .pbox 6 0), (36, .int .i64 ns.length), (37, .int .i64 p.1)], [.cells [encL 4 encNode ns, encL 1 encInt nx], .nrow, .nrow, .cells [.slref 1 0 0 0, .slref 2 0 0 0], .dead, .dead, .cells [.slref 7 0 ys.length ys.length, .slref 8 0 p.2.length p.2.length], .row true 3 1 (ys.map encInt), .row true 3 1 (p.2.map encInt)]⟩)
      (fun p => p.1 ≤ ns.length ∧ p.2 = hnextT nx ns.length p.1) (fun p => ns.length - p.1) (0, []) ⟨by simp, rfl⟩ ?_ ?_
    · refine (weak_row 8 3 1 rfl).trans (weak_seal 9 (by simp) ?_ ?_)
      · simp
      · simp [List.replicate]
    rintro M hM ⟨i, zs⟩ ⟨hi, hzs⟩
    change i ≤ ns.length at hi
    change zs = hnextT nx ns.length i at hzs
    have hzl : zs.length = i := by rw [hzs]; simp [hnextT]
    have hwi : IntKind.i64.wrap ((i : Int) + 1) = ((i + 1 : Nat) : Int) := by rw [wrap_i64] <;> omega
    have hbz : (zs.length + 1) * 8 ≤ 140737488355328 := by omega
    by_cases gi : i < ns.length
    · have gi2 : ¬ ns.length ≤ i := by omega
      have b1 : i * ns.length ≤ (i + 1) * ns.length := Nat.mul_le_mul (by omega) (Nat.le_refl _)
      have b2 : (i + 1) * ns.length ≤ nx.length := by rw [n2]; exact Nat.mul_le_mul (by omega) (Nat.le_refl _)
      have b3 : nx.length ≤ 100 := by rw [n2]; exact Nat.mul_le_mul n1 n1
      have w1 : IntKind.i64.wrap ((i : Int) * (ns.length : Int)) = ((i * ns.length : Nat) : Int) := by
        rw [show (i : Int) * (ns.length : Int) = ((i * ns.length : Nat) : Int) by push_cast; rfl, wrap_i64] <;> omega
      have w2 : IntKind.i64.wrap (((i : Int) + 1) * (ns.length : Int)) = (((i + 1) * ns.length : Nat) : Int) := by
        rw [show ((i : Int) + 1) * (ns.length : Int) = (((i + 1) * ns.length : Nat) : Int) by push_cast; rfl, wrap_i64] <;> omega
      have ht : hnextT nx ns.length (i + 1) = zs ++ [firstT (cutT nx ns.length i)] := by rw [hnextT_succ, hzs]
      unfold cutT firstT at ht
      generalize hA : i * ns.length = a at *
      generalize hB : (i + 1) * ns.length = b at *
      refine go_ok (tab_cons ok_IndexI tab_nil) ?_
      simp [List.replicate, hwi, w1, w2, gi, gi2, b1, b2, hbz, app1]
      refine hM (i, zs) (i + 1, zs ++ [findI (fun a => (2 : Int) == a) ((nx.take b).drop a)]) _ ⟨by simp; omega, ht.symm⟩ (by simp; omega) (weak_seal 9 (by simp) ?_ ?_)
      · simp
      · simp [List.replicate]
    · have e : i = ns.length := by omega
      subst e
      have hR0 : heapOfC (k : Int) ⟨ns, nx⟩ = canonH ⟨ys, zs⟩ := by rw [hys, hzs]; simp [heapOfC]
      have hsz : szHeap ⟨ys, zs⟩ ≤ 1048576 := by simp only [szHeap]; omega
      have hcl := canon_len2 ⟨ys, zs⟩
      have hsz2 : szHeap (canonH ⟨ys, zs⟩) ≤ 1048576 := by simp only [szHeap] at hsz ⊢; simp only at hcl; omega
      have hcc : cellsB ⟨hvarsT ns (k : Int).toNat, hnextT nx ns.length ns.length⟩ = cellsB ⟨ys, zs⟩ := by rw [hys, hzs]; simp
      refine go_ok tab_nil ?_
      simp [List.replicate]
      cases c5 : cellsB ⟨ys, zs⟩
      case false =>
        have hC0 : canonH ⟨ys, zs⟩ = ⟨[], []⟩ := by simp [canonH, c5]
        have hNc : isHeapB k ⟨[], []⟩ = false := by
          unfold isHeapB
          have : ¬ ((([] : List Int).length : Int) = (k : Int)) := by simp; omega
          simp [this]
          omega
        have hCR : canonR ⟨ys, zs⟩ = .agg [.slref 4 0 0 0, .slref 5 0 0 0] := by simp [canonR, c5]
        have hCN : canonN ⟨ys, zs⟩ = [.dead, .dead, .dead, .cells [.slref 4 0 0 0, .slref 5 0 0 0], .row true 3 1 [], .row true 3 1 []] := by simp [canonN, c5]
        have hf : heapOfB k ⟨ns, nx⟩ = false := by simp [heapOfB, hR0, hC0, hNc]
        have hr : heapOfT k ⟨ns, nx⟩ = ⟨[], []⟩ := by simp [heapOfT, hf]
        have hA : hofA k ⟨ns, nx⟩ = 15 := by simp only [hofA, c0, hcc, c5]; rfl
        have hR : hofR k ⟨ns, nx⟩ = .tup [.agg [.slref 15 0 0 0, .slref 16 0 0 0], .bool false] := by simp [hofR, hA, hr, hf]
        have hN' : hofN k ⟨ns, nx⟩ = [.dead, .dead, .dead, .cells [.slref 15 0 0 0, .slref 16 0 0 0], .dead, .dead, .dead, .dead, .dead, .dead, .dead, .dead, .dead, .dead, .dead, .row true 3 1 [], .row true 3 1 []] := by simp [hofN, hA, hr, List.replicate]
        rw [hR, hN']
        refine cw_seq (go_ok hT ?_); simp [List.replicate, hsz, hCR, hCN]
        have hz0 : szHeap ⟨[], []⟩ ≤ 1048576 := by simp [szHeap]
        refine cw_seq (go_ok hT ?_); simp [List.replicate, hz0, hNc]
        refine ⟨⟨[], []⟩, rfl, hz0, ?_⟩
        simp [hNc]
        refine ⟨⟨[.undef, .undef, .undef, .undef, .pbox 3 0, .bool false] ++ List.replicate 72 .undef, _⟩, (weak_row 15 3 1 rfl).trans ((weak_row 16 3 1 rfl).trans (weak_seal 17 (by omega) (H' := [.dead, .dead, .dead, .cells [.slref 15 0 0 0, .slref 16 0 0 0], .dead, .dead, .dead, .dead, .dead, .dead, .dead, .dead, .dead, .dead, .dead, .row true 3 1 [], .row true 3 1 []]) ?_ ?_)), ?_⟩
        · simp
        · simp [List.replicate]
        · simp [retH, List.replicate]
      have hCR : canonR ⟨ys, zs⟩ = .agg [.slref 9 0 (canonH ⟨ys, zs⟩).vars.length (canonH ⟨ys, zs⟩).vars.length, .slref 10 0 (canonH ⟨ys, zs⟩).next.length (canonH ⟨ys, zs⟩).next.length] := by simp only [canonR, c5, if_true]
      have hCN : canonN ⟨ys, zs⟩ = [.dead, .dead, .dead, .cells [.slref 9 0 (canonH ⟨ys, zs⟩).vars.length (canonH ⟨ys, zs⟩).vars.length, .slref 10 0 (canonH ⟨ys, zs⟩).next.length (canonH ⟨ys, zs⟩).next.length], .dead, .dead, .dead, .dead, .dead, .row true 3 1 ((canonH ⟨ys, zs⟩).vars.map encInt), .row true 3 1 ((canonH ⟨ys, zs⟩).next.map encInt)] := by simp only [canonN, c5, if_true]
      generalize hC : canonH ⟨ys, zs⟩ = C at *
      refine cw_seq (go_ok hT ?_); simp [List.replicate, hsz, hCR, hCN]
      have bad : heapOfB k ⟨ns, nx⟩ = false → hofR k ⟨ns, nx⟩ = .tup [.agg [.slref 20 0 0 0, .slref 21 0 0 0], .bool false] ∧ hofN k ⟨ns, nx⟩ = [.dead, .dead, .dead, .cells [.slref 20 0 0 0, .slref 21 0 0 0], .dead, .dead, .dead, .dead, .dead, .dead, .dead, .dead, .dead, .dead, .dead, .dead, .dead, .dead, .dead, .dead, .row true 3 1 [], .row true 3 1 []] := fun hf => by
        have hr : heapOfT k ⟨ns, nx⟩ = ⟨[], []⟩ := by simp [heapOfT, hf]
        have hA : hofA k ⟨ns, nx⟩ = 20 := by simp only [hofA, c0, hcc, c5, hf]; rfl
        exact ⟨by simp [hofR, hA, hr, hf], by simp [hofN, hA, hr, List.replicate]⟩
      cases c3 : isHeapB k C
      case false =>
        have hf : heapOfB k ⟨ns, nx⟩ = false := by simp [heapOfB, hR0, c3]
        obtain ⟨e1, e2⟩ := bad hf
        rw [e1, e2]
        refine cw_seq (go_ok hT ?_); simp [List.replicate, hsz2, c3]
        refine ⟨⟨[.undef, .undef, .undef, .undef, .pbox 3 0, .bool false] ++ List.replicate 72 .undef, _⟩, (weak_row 20 3 1 rfl).trans ((weak_row 21 3 1 rfl).trans (weak_seal 22 (by omega) (H' := [.dead, .dead, .dead, .cells [.slref 20 0 0 0, .slref 21 0 0 0], .dead, .dead, .dead, .dead, .dead, .dead, .dead, .dead, .dead, .dead, .dead, .dead, .dead, .dead, .dead, .dead, .row true 3 1 [], .row true 3 1 []]) ?_ ?_)), ?_⟩
        · simp
        · simp [List.replicate]
        · simp [retH, List.replicate]
      by_cases c4 : C.next.length = ns.length
      · have c4' : (C.next.length : Int) = ns.length := by omega
        have hf : heapOfB k ⟨ns, nx⟩ = true := by simp [heapOfB, hR0, c1, c2, c3, c4]
        have hr : heapOfT k ⟨ns, nx⟩ = C := by simp [heapOfT, hf, hR0]
        have hA : hofA k ⟨ns, nx⟩ = 18 := by simp only [hofA, c0, hcc, c5, hf]; rfl
        have e1 : hofR k ⟨ns, nx⟩ = .tup [.agg [.slref 18 0 C.vars.length C.vars.length, .slref 19 0 C.next.length C.next.length], .bool true] := by simp [hofR, hA, hr, hf]
        have e2 : hofN k ⟨ns, nx⟩ = [.dead, .dead, .dead, .cells [.slref 18 0 C.vars.length C.vars.length, .slref 19 0 C.next.length C.next.length], .dead, .dead, .dead, .dead, .dead, .dead, .dead, .dead, .dead, .dead, .dead, .dead, .dead, .dead, .row true 3 1 (C.vars.map encInt), .row true 3 1 (C.next.map encInt)] := by simp [hofN, hA, hr, List.replicate]
        rw [e1, e2]
        refine cw_seq (go_ok hT ?_); simp [List.replicate, hsz2, c3, c4']
        refine go_ok hT ?_; simp [List.replicate]
        refine ⟨⟨[.undef, .undef, .undef, .undef, .pbox 3 0, .bool true] ++ List.replicate 72 .undef, _⟩, weak_seal 20 (by omega) (H' := [.dead, .dead, .dead, .cells [.slref 18 0 C.vars.length C.vars.length, .slref 19 0 C.next.length C.next.length], .dead, .dead, .dead, .dead, .dead, .dead, .dead, .dead, .dead, .dead, .dead, .dead, .dead, .dead, .row true 3 1 (C.vars.map encInt), .row true 3 1 (C.next.map encInt)]) ?_ ?_, ?_⟩
        · simp
        · simp [List.replicate]
        · simp [retH, List.replicate]
      · have c4' : ¬ (C.next.length : Int) = ns.length := by omega
        have hf : heapOfB k ⟨ns, nx⟩ = false := by simp [heapOfB, hR0, c4']
        obtain ⟨e1, e2⟩ := bad hf
        rw [e1, e2]
        refine cw_seq (go_ok hT ?_); simp [List.replicate, hsz2, c3, c4']
        refine ⟨⟨[.undef, .undef, .undef, .undef, .pbox 3 0, .bool false] ++ List.replicate 72 .undef, _⟩, (weak_row 20 3 1 rfl).trans ((weak_row 21 3 1 rfl).trans (weak_seal 22 (by omega) (H' := [.dead, .dead, .dead, .cells [.slref 20 0 0 0, .slref 21 0 0 0], .dead, .dead, .dead, .dead, .dead, .dead, .dead, .dead, .dead, .dead, .dead, .dead, .dead, .dead, .dead, .dead, .row true 3 1 [], .row true 3 1 []]) ?_ ?_)), ?_⟩
        · simp
        · simp [List.replicate]
        · simp [retH, List.replicate]
@[simp] def ct_pHeapOf : CtN := ⟨9, Int × Strc, fun x => szStrc x.2 ≤ 1048576, fun x => [.int .i64 x.1, encStrc x.2], fun x => hofR x.1 x.2, fun x => hofN x.1 x.2⟩
theorem ok_pHeapOf : ct_pHeapOf.Ok Tryz.prog := by
  refine ⟨fun x hx => ok_pHeapOfH x.1 x.2 hx, fun _ _ => rfl, fun x _ k hk => ?_⟩
  simp only [ct_pHeapOf, hofN, List.mem_append, List.mem_cons, List.not_mem_nil, or_false, List.mem_replicate] at hk
  rcases hk with ((rfl | rfl | rfl | rfl) | ⟨-, rfl⟩) | rfl | rfl <;> first | rfl | simp [ownB]
end Go.Vm
