/- The reference's CanonHeap in blocks of its own, on cells. No condition. -/
import Derived.Test.YtfelkhckpfjgjaaTCS
import Derived.Test.YtfelkhckpfjgjaaTKC
import Derived.Test.YtfelkhckpfjgjaaTRD
set_option linter.unusedSimpArgs false
set_option linter.unusedVariables false
namespace Go.Vm
open Go.Proofs
@[simp] def ct_sCanonN : CtN := ⟨92, Heap, fun x => szHeap x ≤ 1048576 ∧ cellsB x = true, fun x => [encHeap x], fun x => .agg [.slref 7 0 (canonH x).vars.length (canonH x).vars.length, .slref 8 0 (canonH x).next.length (canonH x).next.length],
  fun x => [.dead, .dead, .dead, .cells [.slref 7 0 (canonH x).vars.length (canonH x).vars.length, .slref 8 0 (canonH x).next.length (canonH x).next.length], .dead, .dead, .dead, .row true 3 1 ((canonH x).vars.map encInt), .row true 3 1 ((canonH x).next.map encInt)]⟩
set_option maxHeartbeats 2000000 in
theorem ok_sCanonH (x : Heap) (hx : szHeap x ≤ 1048576) (hc : cellsB x = true) : OkH Try.prog 92 [encHeap x] [] (ct_sCanonN.res x) (ct_sCanonN.new x) := by
  obtain ⟨vs, nx⟩ := x
  have hx' : szHeap ⟨vs, nx⟩ ≤ 1048576 := hx
  change vs.length + nx.length ≤ 1048576 at hx
  simp only [ct_sCanonN]
  refine OkH.of_cw fok_spec_CanonHeap (go_ok (tab_cons ok_l7Cells (tab_cons ok_l7Order tab_nil)) ?_)
  have hg := met_good ⟨vs, nx⟩
  have hgl := goodC_len hg
  generalize hm : met ⟨vs, nx⟩ = order at *
  have hr : canonH ⟨vs, nx⟩ = ⟨vs.map (nameT order), order.map (nextN order nx)⟩ := by simp only [canonH, hc, hm, if_true]; rfl
  change goodC nx.length order at hg
  change order.length ≤ nx.length at hgl
  have hol : order.length ≤ 1048576 := by omega
  simp only [hr]
  generalize hA : vs.map (nameT order) = A
  generalize hZ : order.map (nextN order nx) = Z
  simp [code_spec_CanonHeap, List.replicate, hx', hc, hm, -List.map_map]
  refine cw_round (fun (p : Nat × List Int) => ⟨slots 55 [(1, .pbox 0 0), (2, .pbox 3 0), (3, encL 1 encInt order), (4, .pbox 6 0), (5, .int .i64 p.1)], [.cells [encL 1 encInt vs, encL 1 encInt nx], .nrow, .nrow, .cells [.slref 1 0 0 0, .slref 2 0 0 0], .dead, .dead, .cells [.slref 7 0 p.2.length p.2.length, .slref 8 0 0 0], .row true 3 1 (p.2.map encInt), .nrow]⟩)
    (fun p => p.1 ≤ vs.length ∧ p.2 = (vs.take p.1).map (nameT order)) (fun p => vs.length - p.1) (0, []) ⟨by simp, by simp⟩ ?_ ?_
  · refine (weak_row 7 3 1 rfl).trans (weak_seal 9 (by simp) ?_ ?_)
    · simp
    · simp [List.replicate]
  · rintro N hN ⟨i, ys⟩ ⟨hi, hy⟩
    change i ≤ vs.length at hi
    change ys = (vs.take i).map (nameT order) at hy
    have hw : IntKind.i64.wrap ((i : Int) + 1) = ((i + 1 : Nat) : Int) := by rw [wrap_i64] <;> omega
    have hyl : ys.length = i := by rw [hy]; simp; omega
    have hb : (ys.length + 1) * 8 ≤ 140737488355328 := by omega
    by_cases g : i < vs.length
    · have g2 : ¬ vs.length ≤ i := by omega
      have hts : (vs.take (i + 1)).map (nameT order) = ys ++ [nameT order vs[i]] := by rw [hy]; exact take_map2 _ g
      refine go_ok (tab_cons ok_l7New tab_nil) ?_
      simp [List.replicate, hw, g, g2, hb, app1, hol]
      refine hN (i, ys) (i + 1, ys ++ [nameT order vs[i]]) _ ⟨by simp; omega, hts.symm⟩ (by simp; omega) (weak_seal 9 (by simp) ?_ ?_)
      · simp
      · simp [List.replicate]
    · have e : i = vs.length := by omega
      subst e
      rw [List.take_length, hA] at hy
      subst hy
      refine go_ok tab_nil ?_
      simp [List.replicate]
      refine cw_round (fun (p : Nat × List Int) => ⟨slots 55 [(1, .pbox 0 0), (2, .pbox 3 0), (3, encL 1 encInt order), (4, .pbox 6 0), (6, .int .i64 p.1)], [.cells [encL 1 encInt vs, encL 1 encInt nx], .nrow, .nrow, .cells [.slref 1 0 0 0, .slref 2 0 0 0], .dead, .dead, .cells [.slref 7 0 ys.length ys.length, .slref 8 0 p.2.length p.2.length], .row true 3 1 (ys.map encInt), .row true 3 1 (p.2.map encInt)]⟩)
        (fun p => p.1 ≤ order.length ∧ p.2 = (order.take p.1).map (nextN order nx)) (fun p => order.length - p.1) (0, []) ⟨by simp, by simp⟩ ?_ ?_
      · refine (weak_row 8 3 1 rfl).trans (weak_seal 9 (by simp) ?_ ?_)
        · simp
        · simp [List.replicate]
      · rintro M hM ⟨j, zs⟩ ⟨hj, hz⟩
        change j ≤ order.length at hj
        change zs = (order.take j).map (nextN order nx) at hz
        have hw : IntKind.i64.wrap ((j : Int) + 1) = ((j + 1 : Nat) : Int) := by rw [wrap_i64] <;> omega
        have hzl : zs.length = j := by rw [hz]; simp; omega
        have hb : (zs.length + 1) * 8 ≤ 140737488355328 := by omega
        by_cases k : j < order.length
        · have k2 : ¬ order.length ≤ j := by omega
          have hcell := hg.2 order[j] (List.getElem_mem k)
          obtain ⟨c0, c1⟩ := hcell
          have c2 : order[j].toNat < nx.length := by omega
          have hnx : nextN order nx order[j] = nameT order nx[order[j].toNat] := by simp [nextN, c2]
          have hts : (order.take (j + 1)).map (nextN order nx) = zs ++ [nameT order nx[order[j].toNat]] := by rw [hz, ← hnx]; exact take_map2 _ k
          refine go_ok (tab_cons ok_l7New tab_nil) ?_
          simp [List.replicate, hw, k, k2, hb, app1, hol, c0, c1, c2]
          refine hM (j, zs) (j + 1, zs ++ [nameT order nx[order[j].toNat]]) _ ⟨by simp; omega, hts.symm⟩ (by simp; omega) (weak_seal 9 (by simp) ?_ ?_)
          · simp
          · simp [List.replicate]
        · have e : j = order.length := by omega
          subst e
          rw [List.take_length, hZ] at hz
          subst hz
          refine go_ok tab_nil ?_
          simp [List.replicate]
          refine ⟨⟨slots 55 [(2, .pbox 3 0)], _⟩, weak_less (H' := [.dead, .dead, .dead, .cells [.slref 7 0 ys.length ys.length, .slref 8 0 zs.length zs.length], .dead, .dead, .dead, .row true 3 1 (ys.map encInt), .row true 3 1 (zs.map encInt)]) ?_ ?_, ?_⟩
          · simp
          · simp [List.replicate]
          · simp [retH, List.replicate]
theorem ok_sCanonN : ct_sCanonN.Ok Try.prog :=
  ⟨fun x hx => ok_sCanonH x hx.1 hx.2, fun _ _ => rfl, fun x _ k hk => by
    simp only [ct_sCanonN, List.mem_cons, List.not_mem_nil, or_false] at hk
    rcases hk with rfl | rfl | rfl | rfl | rfl | rfl | rfl | rfl | rfl <;> first | rfl | simp [ownB]⟩
end Go.Vm
namespace Go.Vm
open Go.Proofs
def drawA (c : Cur) : Nat → Cur × List Int
  | 0 => (c, [])
  | i + 1 => if (drawA c i).1.below 4 = 0 then ((drawA c i).1.step.step, (drawA c i).2 ++ [(drawA c i).1.step.below ((i : Int) + 1) - 1]) else ((drawA c i).1.step, (drawA c i).2 ++ [(i : Int) - 1])
def drawB (n : Nat) (c : Cur) : Nat → Cur × List Int
  | 0 => (c, [])
  | j + 1 => if j = 0 then ((drawB n c j).1.step.step, (drawB n c j).2 ++ [if (drawB n c j).1.step.below 2 = 0 then (n : Int) - 1 else (drawB n c j).1.below ((n : Int) + 1) - 1]) else ((drawB n c j).1.step, (drawB n c j).2 ++ [(drawB n c j).1.below ((n : Int) + 1) - 1])
theorem drawA_ok (c : Cur) : ∀ i, (drawA c i).2.length = i ∧ (drawA c i).1.buf = c.buf ∧ ∀ x ∈ (drawA c i).2, -1 ≤ x ∧ x < i
  | 0 => by simp [drawA]
  | i + 1 => by
    obtain ⟨h1, h2, h3⟩ := drawA_ok c i
    have hb := below_lt (drawA c i).1.step (n := (i : Int) + 1) (by omega)
    simp only [drawA]
    split
    · refine ⟨by simp [h1], by simp [step_buf, h2], fun x hx => ?_⟩
      rcases List.mem_append.1 hx with h | h
      · have := h3 x h; omega
      · simp only [List.mem_singleton] at h; omega
    · refine ⟨by simp [h1], by simp [step_buf, h2], fun x hx => ?_⟩
      rcases List.mem_append.1 hx with h | h
      · have := h3 x h; omega
      · simp only [List.mem_singleton] at h; omega
theorem drawB_ok (n : Nat) (c : Cur) : ∀ j, (drawB n c j).2.length = j ∧ (drawB n c j).1.buf = c.buf ∧ ∀ x ∈ (drawB n c j).2, -1 ≤ x ∧ x < n
  | 0 => by simp [drawB]
  | j + 1 => by
    obtain ⟨h1, h2, h3⟩ := drawB_ok n c j
    have hb := below_lt (drawB n c j).1 (n := (n : Int) + 1) (by omega)
    simp only [drawB]
    split
    · refine ⟨by simp [h1], by simp [step_buf, h2], fun x hx => ?_⟩
      rcases List.mem_append.1 hx with h | h
      · exact h3 x h
      · simp only [List.mem_singleton] at h
        subst h
        split <;> omega
    · refine ⟨by simp [h1], by simp [step_buf, h2], fun x hx => ?_⟩
      rcases List.mem_append.1 hx with h | h
      · exact h3 x h
      · simp only [List.mem_singleton] at h; omega
def drawN (c : Cur) : Nat := (c.below 6).toNat
def drawX (c : Cur) : Cur × List Int := drawA c.step (drawN c)
def drawY (c : Cur) (v : Nat) : Cur × List Int := drawB (drawN c) (drawX c).1 v
def drawR (c : Cur) (v : Nat) : Heap := ⟨(drawY c v).2, (drawX c).2⟩
def drawH (c : Cur) (v : Nat) : Heap := canonH (drawR c v)
theorem drawN_le (c : Cur) : drawN c ≤ 5 ∧ (drawN c : Int) = c.below 6 := by
  have := below_lt c (n := 6) (by omega)
  unfold drawN; omega
theorem drawR_cells (c : Cur) (v : Nat) : cellsB (drawR c v) = true := by
  obtain ⟨a1, a2, a3⟩ := drawA_ok c.step (drawN c)
  obtain ⟨b1, b2, b3⟩ := drawB_ok (drawN c) (drawX c).1 v
  unfold cellsB drawR
  simp only [drawX, drawY] at *
  rw [List.all_eq_true]
  intro x hx
  rcases List.mem_append.1 hx with h | h
  · have := b3 x h; simp [a1]; omega
  · have := a3 x h; simp [a1]; omega
theorem set_at {X T : List Blk} {n k : Nat} {y : Blk} (h : X.length = n) : (X ++ T).set (n + k) y = X ++ T.set k y := by
  subst h; rw [List.set_append_right _ _ (by omega)]; congr 2; omega
theorem get_at {X T : List Blk} {n k : Nat} (h : X.length = n) : (X ++ T)[n + k]? = T[k]? := by
  subst h; rw [List.getElem?_append_right (by omega)]; congr 1; omega
def code_spec_l7Draw : F := ⟨60,[.cell 2 true 4],.seq (.reg [⟨some 4,.alloc [(.sl .nil 0 []),(.sl .nil 0 [])],none⟩]) (.seq (.reg [⟨some 11,.build [(.sl .nil 0 []),(.sl .nil 0 [])] [],none⟩,⟨some 5,.alloc [(.sl .nil 0 []),(.sl .nil 0 [])],none⟩,⟨none,.store 2 (.t 5) (.t 11),none⟩]) (.seq (.reg [⟨some 12,.mov (.t 0),none⟩,⟨some 13,.call 39 [.t 12,(.k (.int .i64 6))],none⟩,⟨some 6,.mov (.t 13),none⟩]) (.seq (.seq (.reg [⟨some 7,.mov (.k (.int .i64 0)),none⟩]) (.block 0 (.loop (.seq (.seq (.reg [⟨some 14,.mov (.t 7),none⟩,⟨some 15,.mov (.t 6),none⟩,⟨some 16,.bin .lss (.t 14) (.t 15),none⟩]) (.cond (.t 16) (.skip) (.exit 0))) (.seq (.block 1 (.seq (.reg [⟨some 19,.mov (.t 7),none⟩,⟨some 20,.bin .sub (.t 19) (.k (.int .i64 1)),none⟩,⟨some 8,.mov (.t 20),none⟩]) (.seq (.seq (.reg [⟨some 21,.mov (.t 0),none⟩,⟨some 22,.call 38 [.t 21,(.k (.int .i64 4))],none⟩]) (.cond (.t 22) (.reg [⟨some 23,.mov (.t 0),none⟩,⟨some 24,.mov (.t 7),none⟩,⟨some 25,.bin .add (.t 24) (.k (.int .i64 1)),none⟩,⟨some 26,.call 39 [.t 23,.t 25],none⟩,⟨some 27,.bin .sub (.t 26) (.k (.int .i64 1)),none⟩,⟨some 8,.mov (.t 27),none⟩]) (.skip))) (.reg [⟨some 28,.faddr 1 (.t 5),none⟩,⟨some 29,.load 1 false (.t 28),none⟩,⟨some 30,.mov (.t 8),none⟩,⟨some 31,.bsl 3 1 1 (.int .i64 0) [(0,.t 30)],none⟩,⟨some 32,.append 3 1 8 (.t 29) (.t 31),none⟩,⟨some 33,.faddr 1 (.t 5),none⟩,⟨none,.store 1 (.t 33) (.t 32),none⟩])))) (.reg [⟨some 17,.mov (.t 7),none⟩,⟨some 18,.bin .add (.t 17) (.k (.int .i64 1)),none⟩,⟨some 7,.mov (.t 18),none⟩])))))) (.seq (.seq (.reg [⟨some 9,.mov (.k (.int .i64 0)),none⟩]) (.block 2 (.loop (.seq (.seq (.reg [⟨some 34,.mov (.t 9),none⟩,⟨some 35,.mov (.t 1),none⟩,⟨some 36,.bin .lss (.t 34) (.t 35),none⟩]) (.cond (.t 36) (.skip) (.exit 2))) (.seq (.block 3 (.seq (.reg [⟨some 39,.mov (.t 0),none⟩,⟨some 40,.mov (.t 6),none⟩,⟨some 41,.bin .add (.t 40) (.k (.int .i64 1)),none⟩,⟨some 42,.call 39 [.t 39,.t 41],none⟩,⟨some 43,.bin .sub (.t 42) (.k (.int .i64 1)),none⟩,⟨some 10,.mov (.t 43),none⟩]) (.seq (.seq (.reg [⟨some 44,.mov (.t 9),none⟩,⟨some 45,.bin .eql (.t 44) (.k (.int .i64 0)),none⟩,⟨some 46,.mov (.t 45),none⟩,⟨some 47,.mov (.t 0),some (46,true)⟩,⟨some 48,.call 38 [.t 47,(.k (.int .i64 2))],some (46,true)⟩,⟨some 49,.pick (.t 46) (.t 48) (.k (.bool false)),none⟩]) (.cond (.t 49) (.reg [⟨some 50,.mov (.t 6),none⟩,⟨some 51,.bin .sub (.t 50) (.k (.int .i64 1)),none⟩,⟨some 10,.mov (.t 51),none⟩]) (.skip))) (.reg [⟨some 52,.faddr 0 (.t 5),none⟩,⟨some 53,.load 1 false (.t 52),none⟩,⟨some 54,.mov (.t 10),none⟩,⟨some 55,.bsl 3 1 1 (.int .i64 0) [(0,.t 54)],none⟩,⟨some 56,.append 3 1 8 (.t 53) (.t 55),none⟩,⟨some 57,.faddr 0 (.t 5),none⟩,⟨none,.store 1 (.t 57) (.t 56),none⟩])))) (.reg [⟨some 37,.mov (.t 9),none⟩,⟨some 38,.bin .add (.t 37) (.k (.int .i64 1)),none⟩,⟨some 9,.mov (.t 38),none⟩])))))) (.seq (.reg [⟨some 58,.load 2 true (.t 5),none⟩,⟨some 59,.call 92 [.t 58],none⟩,⟨none,.store 2 (.t 4) (.t 59),none⟩]) (.ret))))))⟩
theorem fok_spec_l7Draw : FOk Try.prog 45 code_spec_l7Draw := fok Try.func45 (by kernel_rfl)
@[simp] def ct_l7Draw : CtH := ⟨45, Nat × Cur × Nat, fun x H => x.2.2 ≤ 4 ∧ x.2.1.buf.length ≤ 1048576 ∧ H[x.1]? = some x.2.1.cells, fun x => [.pbox x.1 0, .int .i64 x.2.2],
  fun x H => .agg [.slref (H.length + 15) 0 (drawH x.2.1 x.2.2).vars.length (drawH x.2.1 x.2.2).vars.length, .slref (H.length + 16) 0 (drawH x.2.1 x.2.2).next.length (drawH x.2.1 x.2.2).next.length],
  fun x H => H.set x.1 (drawY x.2.1 x.2.2).1.cells ++ [.dead, .dead, .cells [.slref (H.length + 15) 0 (drawH x.2.1 x.2.2).vars.length (drawH x.2.1 x.2.2).vars.length, .slref (H.length + 16) 0 (drawH x.2.1 x.2.2).next.length (drawH x.2.1 x.2.2).next.length], .dead, .dead, .dead, .dead, .dead, .dead, .dead, .dead, .dead, .dead, .dead, .dead, .row true 3 1 ((drawH x.2.1 x.2.2).vars.map encInt), .row true 3 1 ((drawH x.2.1 x.2.2).next.map encInt)]⟩
set_option maxHeartbeats 8000000 in
set_option maxRecDepth 100000 in
theorem ok_l7Draw : ct_l7Draw.Ok Try.prog := by
  rintro ⟨p, c, v⟩ H ⟨hv, hbuf, hp⟩
  change v ≤ 4 at hv
  change c.buf.length ≤ 1048576 at hbuf
  change H[p]? = some c.cells at hp
  have hpl : p < H.length := (List.getElem?_eq_some_iff.1 hp).1
  obtain ⟨hn5, hnE⟩ := drawN_le c
  have hp8 : p < H.length + 8 := by omega
  have hT : TabOk Try.prog _ := tab_h ok_l1Below (tab_h ok_l1Once (tab_h (CtN.hok ok_sCanonN) tab_nil))
  have hH : H = H.set p c.cells := (set_same hp).symm
  have hgp : ∀ x T, (H.set p x ++ T)[p]? = some x := fun x T => by rw [List.getElem?_append_left (by simpa using hpl), List.getElem?_set_self hpl]
  have hsp : ∀ x y T, (H.set p x ++ T).set p y = H.set p y ++ T := fun x y T => by rw [List.set_append_left _ _ (by simpa using hpl), List.set_set]
  have hcw : ∀ (c : Cur) n H2, SlB n H2 c.cells c.cells := fun c n H2 => by simp [Cur.cells]
  refine OkH.of_self fun hB => OkH.of_cw fok_spec_l7Draw ?_
  simp only [code_spec_l7Draw, frame, List.length_cons, List.length_nil, List.replicate, Nat.reduceSub, Nat.reduceAdd, List.cons_append, List.nil_append]
  refine cw_seq (go_ok hT ?_); simp [List.replicate]
  refine cw_seq (go_ok hT ?_); simp [List.replicate, getHk, getH0, setHk, setH0, Nat.add_assoc]
  rw [hH]
  simp only [List.length_set]
  have hlen : (H.set p c.cells).length = H.length := by simp
  refine cw_seq (go_ok hT ?_); simp [List.replicate, hgp, hsp, hbuf]
  refine ⟨c, hbuf, rfl, ?_⟩
  refine cw_seq (go_ok hT ?_); simp [List.replicate]
  have hsl : ∀ x : Blk, (H.set p x).length = H.length := fun x => by simp
  have hga : ∀ x T k, (H.set p x ++ T)[H.length + k]? = T[k]? := fun x T k => get_at (hsl x)
  have hsa : ∀ x T k y, (H.set p x ++ T).set (H.length + k) y = H.set p x ++ T.set k y := fun x T k y => set_at (hsl x)
  refine cw_round (fun (i : Nat) => ⟨slots 60 [(0, .pbox p 0), (1, .int .i64 v), (4, .pbox (H.length + 2) 0), (5, .pbox (H.length + 5) 0), (6, .int .i64 (drawN c)), (7, .int .i64 i)], H.set p (drawA c.step i).1.cells ++ [.dead, .dead, .cells [.slref H.length 0 0 0, .slref (H.length + 1) 0 0 0], .dead, .dead, .cells [.slref (H.length + 6) 0 0 0, .slref (H.length + 7) 0 i i], .row true 3 1 [], .row true 3 1 ((drawA c.step i).2.map encInt)]⟩)
    (fun i => i ≤ drawN c) (fun i => drawN c - i) 0 (by simp) ?_ ?_
  · refine (weak_row (H.length + 6) 3 1 (by rw [hga]; rfl)).trans ?_
    rw [hsa]
    refine (weak_row (H.length + 7) 3 1 (by rw [hga]; rfl)).trans ?_
    rw [hsa]
    refine weak_less ?_ ?_
    · simp [drawA]
    · simp [List.replicate, hnE]
  rintro N hN i hi
  change i ≤ drawN c at hi
  have hw : IntKind.i64.wrap ((i : Int) + 1) = ((i + 1 : Nat) : Int) := by rw [wrap_i64] <;> omega
  obtain ⟨a1, a2, a3⟩ := drawA_ok c.step i
  have hnext : drawA c.step (i + 1) = if (drawA c.step i).1.below 4 = 0 then ((drawA c.step i).1.step.step, (drawA c.step i).2 ++ [(drawA c.step i).1.step.below ((i : Int) + 1) - 1]) else ((drawA c.step i).1.step, (drawA c.step i).2 ++ [(i : Int) - 1]) := rfl
  have hab : (drawA c.step i).1.buf.length ≤ 1048576 := by rw [a2]; exact hbuf
  by_cases g : i < drawN c
  · have g2 : ¬ drawN c ≤ i := by omega
    have hdb := below_lt (drawA c.step i).1.step (n := (i : Int) + 1) (by omega)
    have hb2 : (drawA c.step i).1.step.buf.length ≤ 1048576 := hab
    generalize hD : drawA c.step i = D at *
    obtain ⟨d, ws⟩ := D
    simp only at a1 a2 a3 hab hdb hb2 hnext
    have hbb : (ws.length + 1) * 8 ≤ 140737488355328 := by omega
    have hbb2 : (i + 1) * 8 ≤ 140737488355328 := by omega
    have htk : (ws.map encInt).take i = ws.map encInt := List.take_of_length_le (by simp [a1])
    have p1 : (0 : Int) < (i : Int) + 1 := by omega
    have p2 : (i : Int) + 1 ≤ 256 := by omega
    have hwm : IntKind.i64.wrap ((i : Int) - 1) = (i : Int) - 1 := by rw [wrap_i64] <;> omega
    have hwd : IntKind.i64.wrap (d.step.below ((i : Int) + 1) - 1) = d.step.below ((i : Int) + 1) - 1 := by rw [wrap_i64] <;> omega
    refine cw_seq (go_ok hT ?_); simp [List.replicate, g, g2]
    refine cw_seq (cw_block ?_)
    refine cw_seq (go_ok hT ?_); simp [List.replicate, hwm]
    refine cw_seq ?_
    refine cw_seq (go_ok hT ?_); simp [List.replicate, hgp, hsp, hab]
    refine ⟨d, hab, rfl, ?_⟩
    have fin : ∀ x, drawA c.step (i + 1) = (if d.below 4 = 0 then (d.step.step, ws ++ [x]) else (d.step, ws ++ [x])) → ∀ t Y, All2 (SlV (H.length + 8) (H.set p (drawA c.step (i + 1)).1.cells ++ Y)) t (slots 60 [(0, .pbox p 0), (1, .int .i64 v), (4, .pbox (H.length + 2) 0), (5, .pbox (H.length + 5) 0), (6, .int .i64 (drawN c)), (7, .int .i64 ((i + 1 : Nat) : Int))]) → Y = [.dead, .dead, .cells [.slref H.length 0 0 0, .slref (H.length + 1) 0 0 0], .dead, .dead, .cells [.slref (H.length + 6) 0 0 0, .slref (H.length + 7) 0 (i + 1) (i + 1)], .row true 3 1 [], .row true 3 1 (ws.map encInt ++ [.int .i64 x]), .row true 3 1 [.int .i64 x]] → N i ⟨t, H.set p (drawA c.step (i + 1)).1.cells ++ Y⟩ := by
      intro x hx t Y ht hY
      subst hY
      have hws : (drawA c.step (i + 1)).2 = ws ++ [x] := by rw [hx]; split <;> rfl
      refine hN i (i + 1) _ (by omega) (by omega) ?_
      have hs : SelfB (H.set p (drawA c.step (i + 1)).1.cells) := selfB_set hB fun n H2 => hcw _ n H2
      refine weak_sealH 8 hs (by simp) ?_ ?_
      · simp [hws, hsl]
      · simpa [hsl] using ht
    by_cases hd : d.below 4 = 0
    · refine go_ok hT ?_
      simp [List.replicate, hd, hw, hgp, hsp, hb2, p1, p2]
      refine ⟨d.step, hb2, rfl, ?_⟩
      refine go_ok hT ?_
      simp [List.replicate, hga, hsa, app1, a1, hbb2, hwd, htk]
      refine go_ok hT ?_
      simp [List.replicate, hw]
      have hx : drawA c.step (i + 1) = (if d.below 4 = 0 then (d.step.step, ws ++ [d.step.below ((i : Int) + 1) - 1]) else (d.step, ws ++ [d.step.below ((i : Int) + 1) - 1])) := by rw [hnext, if_pos hd, if_pos hd]
      have hc : (drawA c.step (i + 1)).1 = d.step.step := by rw [hx, if_pos hd]
      have := fin _ hx
      rw [hc] at this
      refine this _ _ ?_ rfl
      simp [List.replicate, hsl, hp8]
    · refine go_ok hT ?_
      simp [List.replicate, hd]
      refine go_ok hT ?_
      simp [List.replicate, hga, hsa, app1, a1, hbb2, htk]
      refine go_ok hT ?_
      simp [List.replicate, hw]
      have hx : drawA c.step (i + 1) = (if d.below 4 = 0 then (d.step.step, ws ++ [(i : Int) - 1]) else (d.step, ws ++ [(i : Int) - 1])) := by rw [hnext, if_neg hd, if_neg hd]
      have hc : (drawA c.step (i + 1)).1 = d.step := by rw [hx, if_neg hd]
      have := fin _ hx
      rw [hc] at this
      refine this _ _ ?_ rfl
      simp [List.replicate, hsl, hp8]
  · have e : i = drawN c := by omega
    clear hN
    subst e
    refine go_ok hT ?_
    simp [List.replicate]
    refine cw_seq (go_ok hT ?_)
    simp [List.replicate]
    have hXd : drawA c.step (drawN c) = drawX c := rfl
    simp only [hXd] at a1 a2 a3 hab ⊢
    refine cw_round (fun (j : Nat) => ⟨slots 60 [(0, .pbox p 0), (1, .int .i64 v), (4, .pbox (H.length + 2) 0), (5, .pbox (H.length + 5) 0), (6, .int .i64 (drawN c)), (9, .int .i64 j)], H.set p (drawB (drawN c) (drawX c).1 j).1.cells ++ [.dead, .dead, .cells [.slref H.length 0 0 0, .slref (H.length + 1) 0 0 0], .dead, .dead, .cells [.slref (H.length + 6) 0 j j, .slref (H.length + 7) 0 (drawN c) (drawN c)], .row true 3 1 ((drawB (drawN c) (drawX c).1 j).2.map encInt), .row true 3 1 ((drawX c).2.map encInt)]⟩)
      (fun j => j ≤ v) (fun j => v - j) 0 (by simp) ?_ ?_
    · refine weak_less ?_ ?_
      · simp [drawB]
      · simp [List.replicate]
    rintro M hM j hj
    change j ≤ v at hj
    have hw : IntKind.i64.wrap ((j : Int) + 1) = ((j + 1 : Nat) : Int) := by rw [wrap_i64] <;> omega
    have hwn : IntKind.i64.wrap ((drawN c : Int) + 1) = (drawN c : Int) + 1 := by rw [wrap_i64] <;> omega
    have hwn1 : IntKind.i64.wrap ((drawN c : Int) - 1) = (drawN c : Int) - 1 := by rw [wrap_i64] <;> omega
    obtain ⟨b1, b2, b3⟩ := drawB_ok (drawN c) (drawX c).1 j
    have hbb : (drawB (drawN c) (drawX c).1 j).1.buf.length ≤ 1048576 := by rw [b2]; exact hab
    have hnext : drawB (drawN c) (drawX c).1 (j + 1) = if j = 0 then ((drawB (drawN c) (drawX c).1 j).1.step.step, (drawB (drawN c) (drawX c).1 j).2 ++ [if (drawB (drawN c) (drawX c).1 j).1.step.below 2 = 0 then (drawN c : Int) - 1 else (drawB (drawN c) (drawX c).1 j).1.below ((drawN c : Int) + 1) - 1]) else ((drawB (drawN c) (drawX c).1 j).1.step, (drawB (drawN c) (drawX c).1 j).2 ++ [(drawB (drawN c) (drawX c).1 j).1.below ((drawN c : Int) + 1) - 1]) := rfl
    by_cases g : j < v
    · have g2 : ¬ v ≤ j := by omega
      have hdb := below_lt (drawB (drawN c) (drawX c).1 j).1 (n := (drawN c : Int) + 1) (by omega)
      generalize hD : drawB (drawN c) (drawX c).1 j = D at *
      obtain ⟨d, us⟩ := D
      simp only at b1 b2 b3 hbb hdb hnext
      have hb2 : d.step.buf.length ≤ 1048576 := hbb
      have hjb : (j + 1) * 8 ≤ 140737488355328 := by omega
      have htk : (us.map encInt).take j = us.map encInt := List.take_of_length_le (by simp [b1])
      have p1 : (0 : Int) < (drawN c : Int) + 1 := by omega
      have p2 : (drawN c : Int) + 1 ≤ 256 := by omega
      have hwd : IntKind.i64.wrap (d.below ((drawN c : Int) + 1) - 1) = d.below ((drawN c : Int) + 1) - 1 := by rw [wrap_i64] <;> omega
      have fin : ∀ x, (drawB (drawN c) (drawX c).1 (j + 1)).2 = us ++ [x] → ∀ t Y, All2 (SlV (H.length + 8) (H.set p (drawB (drawN c) (drawX c).1 (j + 1)).1.cells ++ Y)) t (slots 60 [(0, .pbox p 0), (1, .int .i64 v), (4, .pbox (H.length + 2) 0), (5, .pbox (H.length + 5) 0), (6, .int .i64 (drawN c)), (9, .int .i64 ((j + 1 : Nat) : Int))]) → Y = [.dead, .dead, .cells [.slref H.length 0 0 0, .slref (H.length + 1) 0 0 0], .dead, .dead, .cells [.slref (H.length + 6) 0 (j + 1) (j + 1), .slref (H.length + 7) 0 (drawN c) (drawN c)], .row true 3 1 (us.map encInt ++ [.int .i64 x]), .row true 3 1 ((drawX c).2.map encInt), .row true 3 1 [.int .i64 x]] → M j ⟨t, H.set p (drawB (drawN c) (drawX c).1 (j + 1)).1.cells ++ Y⟩ := by
        intro x hx t Y ht hY
        subst hY
        refine hM j (j + 1) _ (by omega) (by omega) ?_
        have hs : SelfB (H.set p (drawB (drawN c) (drawX c).1 (j + 1)).1.cells) := selfB_set hB fun n H2 => hcw _ n H2
        refine weak_sealH 8 hs (by simp) ?_ ?_
        · simp [hx, hsl]
        · simpa [hsl] using ht
      refine cw_seq (go_ok hT ?_); simp [List.replicate, g, g2]
      refine cw_seq (cw_block ?_)
      refine cw_seq (go_ok hT ?_); simp [List.replicate, hwn, hgp, hsp, hbb, p1, p2]
      refine ⟨d, hbb, rfl, ?_⟩
      simp only [hwd]
      by_cases j0 : j = 0
      · subst j0
        refine cw_seq (go_ok hT ?_)
        simp [List.replicate, hgp, hsp, hb2]
        refine ⟨d.step, hb2, rfl, fun hz => ?_, fun hz => ?_⟩
        · skip
          refine go_ok hT ?_
          simp [List.replicate, hga, hsa, app1, b1, hjb, htk, hwn1]
          refine go_ok hT ?_
          simp [List.replicate, hw]
          have hc : (drawB (drawN c) (drawX c).1 (0 + 1)).1 = d.step.step := by rw [hnext]; rfl
          have := fin ((drawN c : Int) - 1) (by rw [hnext]; simp [hz])
          rw [hc] at this
          refine this _ _ ?_ rfl
          simp [List.replicate, hsl, hp8]
        · skip
          refine go_ok hT ?_
          simp [List.replicate, hga, hsa, app1, b1, hjb, htk, hwn1]
          refine go_ok hT ?_
          simp [List.replicate, hw]
          have hc : (drawB (drawN c) (drawX c).1 (0 + 1)).1 = d.step.step := by rw [hnext]; rfl
          have := fin (d.below ((drawN c : Int) + 1) - 1) (by rw [hnext]; simp [hz])
          rw [hc] at this
          refine this _ _ ?_ rfl
          simp [List.replicate, hsl, hp8]
      · refine cw_seq (go_ok hT ?_)
        simp [List.replicate, j0]
        refine go_ok hT ?_
        simp [List.replicate, hga, hsa, app1, b1, hjb, htk]
        refine go_ok hT ?_
        simp [List.replicate, hw]
        rw [if_neg j0] at hnext
        have hc : (drawB (drawN c) (drawX c).1 (j + 1)).1 = d.step := by rw [hnext]
        have := fin _ (by rw [hnext])
        rw [hc] at this
        refine this _ _ ?_ rfl
        simp [List.replicate, hsl, hp8]
    · have e : j = v := by omega
      clear hM
      subst e
      refine go_ok hT ?_
      simp [List.replicate]
      have hY : drawB (drawN c) (drawX c).1 j = drawY c j := rfl
      simp only [hY] at *
      have hRc : drawR c j = ⟨(drawY c j).2, (drawX c).2⟩ := rfl
      have hcl := drawR_cells c j
      have hsz : szHeap (drawR c j) ≤ 1048576 := by rw [hRc]; simp only [szHeap]; omega
      have hcan : canonH (drawR c j) = drawH c j := rfl
      rw [hRc] at hcl hsz hcan
      have hl1 : lendC (fun _ _ => true) (H.set p (drawY c j).1.cells ++ [.dead, .dead, .cells [.slref H.length 0 0 0, .slref (H.length + 1) 0 0 0], .dead, .dead, .cells [.slref (H.length + 6) 0 j j, .slref (H.length + 7) 0 (drawN c) (drawN c)], .row true 3 1 ((drawY c j).2.map encInt), .row true 3 1 ((drawX c).2.map encInt)]) 20 (.slref (H.length + 6) 0 j j) = some (encL 1 encInt (drawY c j).2) := by
        have : lendC (fun _ _ => true) (H.set p (drawY c j).1.cells ++ [.dead, .dead, .cells [.slref H.length 0 0 0, .slref (H.length + 1) 0 0 0], .dead, .dead, .cells [.slref (H.length + 6) 0 j j, .slref (H.length + 7) 0 (drawN c) (drawN c)], .row true 3 1 ((drawY c j).2.map encInt), .row true 3 1 ((drawX c).2.map encInt)]) 20 (.slref (H.length + 6) 0 (drawY c j).2.length (drawY c j).2.length) = some (encL 1 encInt (drawY c j).2) := by simp [lendC, hga]
        rwa [b1] at this
      have hl2 : lendC (fun _ _ => true) (H.set p (drawY c j).1.cells ++ [.dead, .dead, .cells [.slref H.length 0 0 0, .slref (H.length + 1) 0 0 0], .dead, .dead, .cells [.slref (H.length + 6) 0 j j, .slref (H.length + 7) 0 (drawN c) (drawN c)], .row true 3 1 ((drawY c j).2.map encInt), .row true 3 1 ((drawX c).2.map encInt)]) 20 (.slref (H.length + 7) 0 (drawN c) (drawN c)) = some (encL 1 encInt (drawX c).2) := by
        have : lendC (fun _ _ => true) (H.set p (drawY c j).1.cells ++ [.dead, .dead, .cells [.slref H.length 0 0 0, .slref (H.length + 1) 0 0 0], .dead, .dead, .cells [.slref (H.length + 6) 0 j j, .slref (H.length + 7) 0 (drawN c) (drawN c)], .row true 3 1 ((drawY c j).2.map encInt), .row true 3 1 ((drawX c).2.map encInt)]) 20 (.slref (H.length + 7) 0 (drawX c).2.length (drawX c).2.length) = some (encL 1 encInt (drawX c).2) := by simp [lendC, hga]
        rwa [a1] at this
      refine cw_seq (go_ok (tab_h (CtN.hok ok_sCanonN) tab_nil) ?_)
      simp [List.replicate, hga, hsa, hl1, hl2, encHeap_eq]
      refine ⟨⟨(drawY c j).2, (drawX c).2⟩, rfl, rfl, hsz, hcl, ?_⟩
      simp only [hcan, Nat.add_assoc, Nat.reduceAdd]
      refine go_ok hT ?_
      simp [List.replicate]
      refine ⟨⟨slots 60 [(4, .pbox (H.length + 2) 0)], _⟩, weak_less (H' := H.set p (drawY c j).1.cells ++ [.dead, .dead, .cells [.slref (H.length + 15) 0 (drawH c j).vars.length (drawH c j).vars.length, .slref (H.length + 16) 0 (drawH c j).next.length (drawH c j).next.length], .dead, .dead, .dead, .dead, .dead, .dead, .dead, .dead, .dead, .dead, .dead, .dead, .row true 3 1 ((drawH c j).vars.map encInt), .row true 3 1 ((drawH c j).next.map encInt)]) ?_ ?_, ?_⟩
      · simp
      · simp [List.replicate]
      · simp [retH, List.replicate, hga]
end Go.Vm
