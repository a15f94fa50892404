/- The structures that are drawn: their sizes. Plain; no condition. -/
import Derived.Test.YtfelkhckpfjgjaaTFA
import Derived.Test.YtfelkhckpfjgjaaTCI
import Derived.Test.YtfelkhckpfjgjaaVme
set_option linter.unusedSimpArgs false
set_option linter.unusedVariables false
namespace Go.Vm
open Go.Proofs
theorem isTruth_trI (b : Bool) : isTruth (trI b) = true := by cases b <;> rfl
theorem drawH_fit (c : Cur) : fitS (drawH c 3) = true := by
  obtain ⟨h1, h2⟩ := drawH_len c 3
  have hc : cellsB (drawH c 3) = true := by
    have := drawR_cells c 3
    exact (met_canon this).1
  unfold fitS
  rw [hc]
  simp
  omega
theorem strcOf_fit {h : Heap} (hf : fitS h = true) : strcOf h = ⟨nodesT h.vars h.next h.next.length, nextsT h.next h.next.length⟩ := by unfold strcOf; rw [if_pos hf]
theorem strcOf_sh {h : Heap} (hf : fitS h = true) (hv : h.vars.length = 3) (hn : h.next.length ≤ 5) : Sh12 (strcOf h) := by
  rw [strcOf_fit hf]
  refine ⟨by rw [nodesT_len]; exact hn, by rw [nextsT_len, nodesT_len], fun x hx => ?_⟩
  obtain ⟨i, _, rfl⟩ := List.mem_map.1 hx
  simp [nodeT, hv]
theorem truths_map {α : Type} (f : α → Bool) (l : List α) : truthsB (l.map fun x => trI (f x)) = true := by
  unfold truthsB notT
  simp [isTruth_trI]
theorem strcOf_structB {h : Heap} (hf : fitS h = true) : structB h.vars.length (strcOf h) = true := by
  rw [strcOf_fit hf]
  unfold fitS at hf
  simp only [Bool.and_eq_true, decide_eq_true_eq] at hf
  obtain ⟨⟨hc, h1⟩, h2, h3⟩ := hf
  unfold structB
  have e1 : truthsB (nextsT h.next h.next.length) = true := by
    unfold truthsB notT
    simp only [Bool.not_eq_true', List.any_eq_false]
    intro x hx
    obtain ⟨c, _, hx⟩ := List.mem_flatMap.1 hx
    obtain ⟨d, _, rfl⟩ := List.mem_map.1 hx
    simp [nextT, isTruth_trI]
  have e2 : (nodesT h.vars h.next h.next.length).any (badN h.vars.length) = false := by
    rw [List.any_eq_false]
    intro x hx
    obtain ⟨i, _, rfl⟩ := List.mem_map.1 hx
    have t1 : truthsB (h.vars.map (varT i)) = true := truths_map (fun v => decide (v = (i : Int))) _
    have t2 : truthsB (h.vars.map (reachT h.next i)) = true := truths_map (fun v => decide ((i : Int) ∈ followed h.next v)) _
    simp [badN, nodeT, t1, t2, sharT, isTruth_trI]
  rw [e1, e2]
  simp [nodesT_len, nextsT_len]
  omega
theorem sh12_sz {s : Strc} (h : Sh12 s) : szStrc s ≤ 1048576 ∧ s.next.length ≤ 25 := by
  have h1 : (s.nodes.map szNode).sum ≤ s.nodes.length * 6 := by
    have : ∀ l : List Node, (∀ x ∈ l, x.vars.length = 3 ∧ x.reach.length = 3) → (l.map szNode).sum ≤ l.length * 6 := by
      intro l
      induction l with
      | nil => intro _; simp
      | cons x xs ih =>
        intro hl
        have := ih fun y hy => hl y (by simp [hy])
        obtain ⟨a, b⟩ := hl x (by simp)
        simp only [List.map_cons, List.sum_cons, List.length_cons]
        have : szNode x = x.vars.length + x.reach.length := rfl
        omega
    exact this _ h.r
  have h2 : s.next.length ≤ 5 * 5 := by rw [h.m]; exact Nat.mul_le_mul h.n h.n
  have h3 : szStrc s = szNodes s.nodes + s.next.length := rfl
  have h4 : szNodes s.nodes = s.nodes.length + (s.nodes.map szNode).sum := rfl
  have := h.n
  omega
theorem blurS_sh {s : Strc} (h : Sh12 s) : Sh12 (blurS s) := by
  obtain ⟨g1, g2⟩ := groups_ok s
  have := h.n
  refine ⟨by simp [blurS]; omega, ?_, fun x hx => ?_⟩
  · rw [show (blurS s).next = nxB s (groupsF s) (groupsF s).length from (nxB_all _ _).symm, nxB_len]
    simp [blurS]
  · obtain ⟨g, hg, rfl⟩ := List.mem_map.1 hx
    obtain ⟨⟨a1, a2⟩, a3⟩ := g2 g hg
    have e : g.getD 0 0 = g[0] := by simp [List.getD_eq_getElem?_getD, a1]
    have hi := a3 g[0] (List.getElem_mem a1)
    have hl : (g[0]).toNat < s.nodes.length := by omega
    have hm : nodeD s (g.getD 0 0) ∈ s.nodes := by
      rw [e]; unfold nodeD
      rw [List.getD_eq_getElem?_getD, List.getElem?_eq_getElem hl]
      exact List.getElem_mem hl
    have := h.r _ hm
    exact this
theorem d12S0_sh (c : Cur) : Sh12 (d12S0 c) := by
  obtain ⟨h1, h2⟩ := drawH_len c 3
  have h := strcOf_sh (drawH_fit c) h1 h2
  unfold d12S0
  split
  · exact h
  · exact blurS_sh h
theorem d12_sh (c : Cur) : Sh12 (d12 c).2 ∧ (d12 c).1.buf = c.buf := by
  have hb : (drawY c 3).1.buf = c.buf := by
    obtain ⟨-, a2, -⟩ := drawA_ok c.step (drawN c)
    obtain ⟨-, b2, -⟩ := drawB_ok (drawN c) (drawX c).1 3
    exact b2.trans a2
  unfold d12
  split
  · exact ⟨d12S0_sh c, hb⟩
  · obtain ⟨a1, -, -, a4⟩ := d12It_sh (x := ((drawY c 3).1.step.step, d12S0 c)) (d12S0_sh c) ((drawY c 3).1.step.below 3).toNat
    exact ⟨a1, a4.trans hb⟩
theorem strcOf_blur {h : Heap} (hf : fitS h = true) : (strcOf h).nodes = [] ∨ structB (nvars (strcOf h)) (strcOf h) = true := by
  by_cases h0 : (strcOf h).nodes = []
  · exact .inl h0
  · right
    have e : nvars (strcOf h) = h.vars.length := by
      have hl : (strcOf h).nodes = nodesT h.vars h.next h.next.length := by rw [strcOf_fit hf]
      unfold nvars
      have : ∀ x ∈ (strcOf h).nodes, x.vars.length = h.vars.length := fun x hx => by
        rw [hl] at hx
        obtain ⟨i, _, rfl⟩ := List.mem_map.1 hx
        simp [nodeT]
      split
      · rename_i e; exact absurd e h0
      · rename_i y ys e; exact this y (by rw [e]; simp)
    rw [e]; exact strcOf_structB hf
end Go.Vm
namespace Go.Vm
open Go.Proofs
theorem fg_made {H A C N : List Blk} {p b4 b5 a d : Nat} {P Q : Nat → Nat} {c : Cur} {els : List AV} {s : Strc} (hA : H.length ≤ A.length)
    (hNa : N[a]? = some (.row true 61 4 els)) (hNx : NIx N els s.nodes P Q) (hNc : N[d]? = some (.row true 3 1 (s.next.map encInt))) (hNo : ¬ NIx.own s.nodes.length P Q d)
    (hp : p < H.length) (cur : (A ++ (N.map (shB A.length) ++ C))[p]? = some c.cells) (old : ∀ j, j < H.length → j ≠ p → (A ++ (N.map (shB A.length) ++ C))[j]? = H[j]?)
    (l4 : H.length ≤ b4) (g4 : ∃ x y, (A ++ (N.map (shB A.length) ++ C))[b4]? = some (.cells [x, y])) (l5 : H.length ≤ b5) (ne : b4 ≠ b5)
    (g5 : (A ++ (N.map (shB A.length) ++ C))[b5]? = some (.cells [.slref (A.length + a) 0 s.nodes.length s.nodes.length, .slref (A.length + d) 0 s.next.length s.next.length])) :
    FG H p b4 b5 (A.length + a) (A.length + d) (fun i => A.length + P i) (fun i => A.length + Q i) (A ++ (N.map (shB A.length) ++ C)) c (shL A.length els) s := by
  have get : ∀ j k, N[j]? = some k → (A ++ (N.map (shB A.length) ++ C))[A.length + j]? = some (shB A.length k) := fun j k hk => by
    have hj := (List.getElem?_eq_some_iff.1 hk).1
    rw [getHk, List.getElem?_append_left (by simpa using hj), List.getElem?_map, hk]; rfl
  have hx := (hNx.sh A).app C
  rw [List.append_assoc] at hx
  refine ⟨hp, cur, old, l4, g4, l5, ne, g5, by omega, by rw [get _ _ hNa]; rfl, hx, fun i _ => ⟨by omega, by omega⟩, by omega, ?_, ?_⟩
  · rw [get _ _ hNc]
    show some (Blk.row true _ 1 (shL _ _)) = _
    rw [shL_ints]
  · rintro ⟨i, hi, e⟩
    simp only at e
    exact hNo ⟨i, hi, by omega⟩
structure D12 where
  c : Cur
  s : Strc
  G : List Blk
  els : List AV
def g12step (p a d : Nat) (P Q : Nat → Nat) (x : D12) : D12 :=
  if h : (x.c.below x.s.nodes.length).toNat < x.s.nodes.length then
    if x.c.step.below 4 = 0 then ⟨(d12step (x.c, x.s)).1, (d12step (x.c, x.s)).2, (x.G.set p x.c.step.step.step.cells).set (Q (x.c.below x.s.nodes.length).toNat) (.row true 3 1 ((x.s.nodes[(x.c.below x.s.nodes.length).toNat].reach.set (x.c.step.step.below 3).toNat 1).map encInt)), x.els⟩
    else if x.c.step.below 4 = 1 then
      ⟨(d12step (x.c, x.s)).1, (d12step (x.c, x.s)).2, (x.G.set p x.c.step.step.cells).set a (.row true 61 4 (x.els.set (x.c.below x.s.nodes.length).toNat (.agg [.slref (P (x.c.below x.s.nodes.length).toNat) 0 x.s.nodes[(x.c.below x.s.nodes.length).toNat].vars.length x.s.nodes[(x.c.below x.s.nodes.length).toNat].vars.length, .slref (Q (x.c.below x.s.nodes.length).toNat) 0 x.s.nodes[(x.c.below x.s.nodes.length).toNat].reach.length x.s.nodes[(x.c.below x.s.nodes.length).toNat].reach.length, .int .i64 1, .int .i64 x.s.nodes[(x.c.below x.s.nodes.length).toNat].many]))),
        x.els.set (x.c.below x.s.nodes.length).toNat (.agg [.slref (P (x.c.below x.s.nodes.length).toNat) 0 x.s.nodes[(x.c.below x.s.nodes.length).toNat].vars.length x.s.nodes[(x.c.below x.s.nodes.length).toNat].vars.length, .slref (Q (x.c.below x.s.nodes.length).toNat) 0 x.s.nodes[(x.c.below x.s.nodes.length).toNat].reach.length x.s.nodes[(x.c.below x.s.nodes.length).toNat].reach.length, .int .i64 1, .int .i64 x.s.nodes[(x.c.below x.s.nodes.length).toNat].many])⟩
    else if x.c.step.below 4 = 2 then ⟨(d12step (x.c, x.s)).1, (d12step (x.c, x.s)).2, (x.G.set p x.c.step.step.step.cells).set d (.row true 3 1 ((x.s.next.set (x.c.step.step.below x.s.next.length).toNat 1).map encInt)), x.els⟩
    else ⟨(d12step (x.c, x.s)).1, (d12step (x.c, x.s)).2, x.G.set p x.c.step.step.cells, x.els⟩
  else x
def FGx (H : List Blk) (p b4 b5 a d : Nat) (P Q : Nat → Nat) (x : D12) : Prop := FG H p b4 b5 a d P Q x.G x.c x.els x.s
theorem g12_ok {H : List Blk} {p b4 b5 a d : Nat} {P Q : Nat → Nat} {x : D12} (h : FGx H p b4 b5 a d P Q x) (hs : 0 < x.s.nodes.length) : FGx H p b4 b5 a d P Q (g12step p a d P Q x) ∧ ((g12step p a d P Q x).c, (g12step p a d P Q x).s) = d12step (x.c, x.s) := by
  obtain ⟨c, s, G, els⟩ := x
  change FG H p b4 b5 a d P Q G c els s at h
  change 0 < s.nodes.length at hs
  have hb := below_lt c (n := s.nodes.length) (by omega)
  have hi : (c.below s.nodes.length).toNat < s.nodes.length := by omega
  unfold g12step
  simp only []
  rw [dif_pos hi]
  by_cases b0 : c.step.below 4 = 0
  · rw [if_pos b0]
    refine ⟨?_, rfl⟩
    have := (h.setCur c.step.step.step).setReach hi (s.nodes[(c.below s.nodes.length).toNat].reach.set (c.step.step.below 3).toNat 1) (by simp)
    show FG H p b4 b5 a d P Q _ (d12step (c, s)).1 els (d12step (c, s)).2
    unfold d12step setN
    simp only []
    rw [if_pos b0, dif_pos hi]
    exact this
  rw [if_neg b0]
  by_cases b1 : c.step.below 4 = 1
  · rw [if_pos b1]
    refine ⟨?_, rfl⟩
    have := (h.setCur c.step.step).setEl hi 1 s.nodes[(c.below s.nodes.length).toNat].many
    show FG H p b4 b5 a d P Q _ (d12step (c, s)).1 _ (d12step (c, s)).2
    unfold d12step setN
    simp only []
    rw [if_neg b0, if_pos b1, dif_pos hi]
    exact this
  rw [if_neg b1]
  by_cases b2 : c.step.below 4 = 2
  · rw [if_pos b2]
    refine ⟨?_, rfl⟩
    have := (h.setCur c.step.step.step).setNext (s.next.set (c.step.step.below s.next.length).toNat 1) (by simp)
    show FG H p b4 b5 a d P Q _ (d12step (c, s)).1 els (d12step (c, s)).2
    unfold d12step
    simp only []
    rw [if_neg b0, if_neg b1, if_pos b2]
    exact this
  · rw [if_neg b2]
    refine ⟨?_, rfl⟩
    have := h.setCur c.step.step
    show FG H p b4 b5 a d P Q _ (d12step (c, s)).1 els (d12step (c, s)).2
    unfold d12step
    simp only []
    rw [if_neg b0, if_neg b1, if_neg b2]
    exact this
def g12It (p a d : Nat) (P Q : Nat → Nat) (x : D12) : Nat → D12
  | 0 => x
  | k + 1 => g12step p a d P Q (g12It p a d P Q x k)
theorem g12It_ok {H : List Blk} {p b4 b5 a d : Nat} {P Q : Nat → Nat} {x : D12} (h : FGx H p b4 b5 a d P Q x) (hs : 0 < x.s.nodes.length) (hz : Sh12 x.s) : ∀ k, FGx H p b4 b5 a d P Q (g12It p a d P Q x k) ∧ ((g12It p a d P Q x k).c, (g12It p a d P Q x k).s) = d12It (x.c, x.s) k
  | 0 => ⟨h, rfl⟩
  | k + 1 => by
    obtain ⟨h1, h2⟩ := g12It_ok h hs hz k
    obtain ⟨a1, a2, -, -⟩ := d12It_sh (x := (x.c, x.s)) hz k
    rw [← h2] at a1 a2
    simp only at a1 a2
    obtain ⟨h3, h4⟩ := g12_ok h1 (by rw [a2]; exact hs)
    refine ⟨h3, ?_⟩
    show ((g12step p a d P Q (g12It p a d P Q x k)).c, (g12step p a d P Q (g12It p a d P Q x k)).s) = d12step (d12It (x.c, x.s) k)
    rw [h4, h2]
end Go.Vm
