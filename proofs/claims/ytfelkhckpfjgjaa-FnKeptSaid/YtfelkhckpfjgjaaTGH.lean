/- spec.l12Draw: a structure is drawn into rows of its own. No condition. -/
import Derived.Test.YtfelkhckpfjgjaaTGF
import Derived.Test.YtfelkhckpfjgjaaVme
set_option linter.unusedSimpArgs false
set_option linter.unusedVariables false
namespace Go.Vm
open Go.Proofs
theorem fg_made {H A C N : List Blk} {p b4 b5 a d : Nat} {P Q : Nat → Nat} {c : Cur} {els : List AV} {s : Strc} (hA : H.length ≤ A.length)
    (hNa : N[a]? = some (.row true 61 4 els)) (hNx : NIx N els s.nodes P Q) (hNc : N[d]? = some (.row true 3 1 (s.next.map encInt))) (hNo : ¬ NIx.own s.nodes.length P Q d)
    (hp : p < H.length) (cur : (A ++ (N.map (shB A.length) ++ C))[p]? = some c.cells) (old : ∀ j, j < H.length → j ≠ p → (A ++ (N.map (shB A.length) ++ C))[j]? = H[j]?)
    (l4 : H.length ≤ b4) (g4 : ∃ x y, (A ++ (N.map (shB A.length) ++ C))[b4]? = some (.cells [x, y])) (l5 : H.length ≤ b5) (ne : b4 ≠ b5)
    (g5 : (A ++ (N.map (shB A.length) ++ C))[b5]? = some (.cells [.slref (A.length + a) 0 s.nodes.length s.nodes.length, .slref (A.length + d) 0 s.next.length s.next.length])) :
    FG H p b4 b5 (A.length + a) (A.length + d) (fun i => A.length + P i) (fun i => A.length + Q i) (A ++ (N.map (shB A.length) ++ C)) c (shL A.length els) s := by
  have get : ∀ j k, N[j]? = some k → (A ++ (N.map (shB A.length) ++ C))[A.length + j]? = some (shB A.length k) := fun j k hk => by
    have hj := (List.getElem?_eq_some_iff.1 hk).1
    rw [getHk, List.getElem?_append_left (by simpa using hj), List.getElem?_map, hk]; rfl
  have hx := (hNx.sh A).app C
  rw [List.append_assoc] at hx
  refine ⟨hp, cur, old, l4, g4, l5, ne, g5, by omega, by rw [get _ _ hNa]; rfl, hx, fun i _ => ⟨by omega, by omega⟩, by omega, ?_, ?_⟩
  · rw [get _ _ hNc]
    show some (Blk.row true _ 1 (shL _ _)) = _
    rw [shL_ints]
  · rintro ⟨i, hi, e⟩
    simp only at e
    exact hNo ⟨i, hi, by omega⟩
structure D12 where
  c : Cur
  s : Strc
  G : List Blk
  els : List AV
def g12step (p a d : Nat) (P Q : Nat → Nat) (x : D12) : D12 :=
  if h : (x.c.below x.s.nodes.length).toNat < x.s.nodes.length then
    if x.c.step.below 4 = 0 then ⟨(d12step (x.c, x.s)).1, (d12step (x.c, x.s)).2, (x.G.set p x.c.step.step.step.cells).set (Q (x.c.below x.s.nodes.length).toNat) (.row true 3 1 ((x.s.nodes[(x.c.below x.s.nodes.length).toNat].reach.set (x.c.step.step.below 3).toNat 1).map encInt)), x.els⟩
    else if x.c.step.below 4 = 1 then
      ⟨(d12step (x.c, x.s)).1, (d12step (x.c, x.s)).2, (x.G.set p x.c.step.step.cells).set a (.row true 61 4 (x.els.set (x.c.below x.s.nodes.length).toNat (.agg [.slref (P (x.c.below x.s.nodes.length).toNat) 0 x.s.nodes[(x.c.below x.s.nodes.length).toNat].vars.length x.s.nodes[(x.c.below x.s.nodes.length).toNat].vars.length, .slref (Q (x.c.below x.s.nodes.length).toNat) 0 x.s.nodes[(x.c.below x.s.nodes.length).toNat].reach.length x.s.nodes[(x.c.below x.s.nodes.length).toNat].reach.length, .int .i64 1, .int .i64 x.s.nodes[(x.c.below x.s.nodes.length).toNat].many]))),
        x.els.set (x.c.below x.s.nodes.length).toNat (.agg [.slref (P (x.c.below x.s.nodes.length).toNat) 0 x.s.nodes[(x.c.below x.s.nodes.length).toNat].vars.length x.s.nodes[(x.c.below x.s.nodes.length).toNat].vars.length, .slref (Q (x.c.below x.s.nodes.length).toNat) 0 x.s.nodes[(x.c.below x.s.nodes.length).toNat].reach.length x.s.nodes[(x.c.below x.s.nodes.length).toNat].reach.length, .int .i64 1, .int .i64 x.s.nodes[(x.c.below x.s.nodes.length).toNat].many])⟩
    else if x.c.step.below 4 = 2 then ⟨(d12step (x.c, x.s)).1, (d12step (x.c, x.s)).2, (x.G.set p x.c.step.step.step.cells).set d (.row true 3 1 ((x.s.next.set (x.c.step.step.below x.s.next.length).toNat 1).map encInt)), x.els⟩
    else ⟨(d12step (x.c, x.s)).1, (d12step (x.c, x.s)).2, x.G.set p x.c.step.step.cells, x.els⟩
  else x
def FGx (H : List Blk) (p b4 b5 a d : Nat) (P Q : Nat → Nat) (x : D12) : Prop := FG H p b4 b5 a d P Q x.G x.c x.els x.s
theorem g12_ok {H : List Blk} {p b4 b5 a d : Nat} {P Q : Nat → Nat} {x : D12} (h : FGx H p b4 b5 a d P Q x) (hs : 0 < x.s.nodes.length) : FGx H p b4 b5 a d P Q (g12step p a d P Q x) ∧ ((g12step p a d P Q x).c, (g12step p a d P Q x).s) = d12step (x.c, x.s) := by
  obtain ⟨c, s, G, els⟩ := x
  change FG H p b4 b5 a d P Q G c els s at h
  change 0 < s.nodes.length at hs
  have hb := below_lt c (n := s.nodes.length) (by omega)
  have hi : (c.below s.nodes.length).toNat < s.nodes.length := by omega
  unfold g12step
  simp only []
  rw [dif_pos hi]
  by_cases b0 : c.step.below 4 = 0
  · rw [if_pos b0]
    refine ⟨?_, rfl⟩
    have := (h.setCur c.step.step.step).setReach hi (s.nodes[(c.below s.nodes.length).toNat].reach.set (c.step.step.below 3).toNat 1) (by simp)
    show FG H p b4 b5 a d P Q _ (d12step (c, s)).1 els (d12step (c, s)).2
    unfold d12step setN
    simp only []
    rw [if_pos b0, dif_pos hi]
    exact this
  rw [if_neg b0]
  by_cases b1 : c.step.below 4 = 1
  · rw [if_pos b1]
    refine ⟨?_, rfl⟩
    have := (h.setCur c.step.step).setEl hi 1 s.nodes[(c.below s.nodes.length).toNat].many
    show FG H p b4 b5 a d P Q _ (d12step (c, s)).1 _ (d12step (c, s)).2
    unfold d12step setN
    simp only []
    rw [if_neg b0, if_pos b1, dif_pos hi]
    exact this
  rw [if_neg b1]
  by_cases b2 : c.step.below 4 = 2
  · rw [if_pos b2]
    refine ⟨?_, rfl⟩
    have := (h.setCur c.step.step.step).setNext (s.next.set (c.step.step.below s.next.length).toNat 1) (by simp)
    show FG H p b4 b5 a d P Q _ (d12step (c, s)).1 els (d12step (c, s)).2
    unfold d12step
    simp only []
    rw [if_neg b0, if_neg b1, if_pos b2]
    exact this
  · rw [if_neg b2]
    refine ⟨?_, rfl⟩
    have := h.setCur c.step.step
    show FG H p b4 b5 a d P Q _ (d12step (c, s)).1 els (d12step (c, s)).2
    unfold d12step
    simp only []
    rw [if_neg b0, if_neg b1, if_neg b2]
    exact this
def g12It (p a d : Nat) (P Q : Nat → Nat) (x : D12) : Nat → D12
  | 0 => x
  | k + 1 => g12step p a d P Q (g12It p a d P Q x k)
theorem g12It_ok {H : List Blk} {p b4 b5 a d : Nat} {P Q : Nat → Nat} {x : D12} (h : FGx H p b4 b5 a d P Q x) (hs : 0 < x.s.nodes.length) (hz : Sh12 x.s) : ∀ k, FGx H p b4 b5 a d P Q (g12It p a d P Q x k) ∧ ((g12It p a d P Q x k).c, (g12It p a d P Q x k).s) = d12It (x.c, x.s) k
  | 0 => ⟨h, rfl⟩
  | k + 1 => by
    obtain ⟨h1, h2⟩ := g12It_ok h hs hz k
    obtain ⟨a1, a2, -, -⟩ := d12It_sh (x := (x.c, x.s)) hz k
    rw [← h2] at a1 a2
    simp only at a1 a2
    obtain ⟨h3, h4⟩ := g12_ok h1 (by rw [a2]; exact hs)
    refine ⟨h3, ?_⟩
    show ((g12step p a d P Q (g12It p a d P Q x k)).c, (g12step p a d P Q (g12It p a d P Q x k)).s) = d12step (d12It (x.c, x.s) k)
    rw [h4, h2]
end Go.Vm
namespace Go.Vm
open Go.Proofs
def code_spec_l12Draw : F := ⟨68,[.cell 2 true 4],.seq (.reg [⟨some 4,.alloc [(.sl .nil 0 []),(.sl .nil 0 [])],none⟩]) (.seq (.reg [⟨some 9,.mov (.t 0),none⟩,⟨some 10,.mov (.t 1),none⟩,⟨some 11,.call 45 [.t 9,.t 10],none⟩,⟨some 12,.call 46 [.t 11],none⟩,⟨some 5,.alloc [(.sl .nil 0 []),(.sl .nil 0 [])],none⟩,⟨none,.store 2 (.t 5) (.t 12),none⟩]) (.seq (.seq (.reg [⟨some 13,.mov (.t 0),none⟩,⟨some 14,.call 38 [.t 13,(.k (.int .i64 3))],none⟩,⟨some 15,.not (.t 14),none⟩]) (.cond (.t 15) (.reg [⟨some 16,.load 2 true (.t 5),none⟩,⟨some 17,.call 20 [.t 16],none⟩,⟨none,.store 2 (.t 5) (.t 17),none⟩]) (.skip))) (.seq (.reg [⟨some 18,.mov (.t 0),none⟩,⟨some 19,.call 39 [.t 18,(.k (.int .i64 3))],none⟩,⟨some 6,.mov (.t 19),none⟩]) (.seq (.seq (.reg [⟨some 7,.mov (.k (.int .i64 0)),none⟩]) (.block 0 (.loop (.seq (.seq (.reg [⟨some 20,.mov (.t 7),none⟩,⟨some 21,.mov (.t 6),none⟩,⟨some 22,.bin .lss (.t 20) (.t 21),none⟩,⟨some 23,.mov (.t 22),none⟩,⟨some 24,.faddr 0 (.t 5),some (23,true)⟩,⟨some 25,.load 1 false (.t 24),some (23,true)⟩,⟨some 26,.len (.t 25),some (23,true)⟩,⟨some 27,.bin .gtr (.t 26) (.k (.int .i64 0)),some (23,true)⟩,⟨some 28,.pick (.t 23) (.t 27) (.k (.bool false)),none⟩]) (.cond (.t 28) (.skip) (.exit 0))) (.seq (.block 1 (.seq (.reg [⟨some 31,.mov (.t 0),none⟩,⟨some 32,.faddr 0 (.t 5),none⟩,⟨some 33,.load 1 false (.t 32),none⟩,⟨some 34,.len (.t 33),none⟩,⟨some 35,.call 39 [.t 31,.t 34],none⟩,⟨some 8,.mov (.t 35),none⟩]) (.seq (.reg [⟨some 36,.mov (.t 0),none⟩,⟨some 37,.call 39 [.t 36,(.k (.int .i64 4))],none⟩]) (.block 2 (.seq (.reg [⟨some 39,.bin .eql (.t 37) (.k (.int .i64 0)),none⟩,⟨some 38,.mov (.t 39),none⟩]) (.cond (.t 38) (.dreg [false,false,false,false,false,false,false,false,false,true,true] [false,false,false,false,false,false,false,false,true,false,false] [⟨some 40,.faddr 0 (.t 5),none⟩,⟨some 41,.load 1 false (.t 40),none⟩,⟨some 42,.mov (.t 8),none⟩,⟨some 43,.iaddr 4 (.t 41) (.t 42),none⟩,⟨some 44,.faddr 1 (.t 43),none⟩,⟨some 45,.load 1 false (.t 44),none⟩,⟨some 46,.mov (.t 0),none⟩,⟨some 47,.mov (.t 1),none⟩,⟨some 48,.call 39 [.t 46,.t 47],none⟩,⟨some 49,.iaddr 1 (.t 45) (.t 48),none⟩,⟨none,.store 1 (.t 49) (.k (.int .i64 1)),none⟩]) (.seq (.reg [⟨some 51,.bin .eql (.t 37) (.k (.int .i64 1)),none⟩,⟨some 50,.mov (.t 51),none⟩]) (.cond (.t 50) (.reg [⟨some 52,.faddr 0 (.t 5),none⟩,⟨some 53,.load 1 false (.t 52),none⟩,⟨some 54,.mov (.t 8),none⟩,⟨some 55,.iaddr 4 (.t 53) (.t 54),none⟩,⟨some 56,.faddr 2 (.t 55),none⟩,⟨none,.store 1 (.t 56) (.k (.int .i64 1)),none⟩]) (.seq (.reg [⟨some 58,.bin .eql (.t 37) (.k (.int .i64 2)),none⟩,⟨some 57,.mov (.t 58),none⟩]) (.cond (.t 57) (.dreg [false,false,false,false,false,false,false,true,true] [false,false,false,false,false,false,true,false,false] [⟨some 59,.faddr 1 (.t 5),none⟩,⟨some 60,.load 1 false (.t 59),none⟩,⟨some 61,.mov (.t 0),none⟩,⟨some 62,.faddr 1 (.t 5),none⟩,⟨some 63,.load 1 false (.t 62),none⟩,⟨some 64,.len (.t 63),none⟩,⟨some 65,.call 39 [.t 61,.t 64],none⟩,⟨some 66,.iaddr 1 (.t 60) (.t 65),none⟩,⟨none,.store 1 (.t 66) (.k (.int .i64 1)),none⟩]) (.skip))))))))))) (.reg [⟨some 29,.mov (.t 7),none⟩,⟨some 30,.bin .add (.t 29) (.k (.int .i64 1)),none⟩,⟨some 7,.mov (.t 30),none⟩])))))) (.seq (.reg [⟨some 67,.load 2 true (.t 5),none⟩,⟨none,.store 2 (.t 4) (.t 67),none⟩]) (.ret))))))⟩
theorem fok_spec_l12Draw : FOk Try.prog 47 code_spec_l12Draw := fok Try.func47 (by kernel_rfl)
def tl3 : C → C
  | .seq _ (.seq _ (.seq _ x)) => x
  | c => c
def y12 (p : Nat) (x : D12) : D12 := ⟨x.c.step, x.s, x.G.set p x.c.step.cells, x.els⟩
def z12 (p a d : Nat) (P Q : Nat → Nat) (x : D12) (k : Nat) : D12 := if x.s.nodes = [] then y12 p x else g12It p a d P Q (y12 p x) k
theorem g12G {p a d : Nat} {P Q : Nat → Nat} {c : Cur} {s : Strc} {G : List Blk} {els : List AV} {i : Nat} (hin : (c.below s.nodes.length).toNat = i) (hil : i < s.nodes.length) : (g12step p a d P Q ⟨c, s, G, els⟩).G =
    if c.step.below 4 = 0 then (G.set p c.step.step.step.cells).set (Q i) (.row true 3 1 ((s.nodes[i].reach.set (c.step.step.below 3).toNat 1).map encInt))
    else if c.step.below 4 = 1 then (G.set p c.step.step.cells).set a (.row true 61 4 (els.set i (.agg [.slref (P i) 0 s.nodes[i].vars.length s.nodes[i].vars.length, .slref (Q i) 0 s.nodes[i].reach.length s.nodes[i].reach.length, .int .i64 1, .int .i64 s.nodes[i].many])))
    else if c.step.below 4 = 2 then (G.set p c.step.step.step.cells).set d (.row true 3 1 ((s.next.set (c.step.step.below s.next.length).toNat 1).map encInt))
    else G.set p c.step.step.cells := by
  subst hin
  unfold g12step
  simp only []
  rw [dif_pos hil]
  by_cases b0 : c.step.below 4 = 0
  · rw [if_pos b0, if_pos b0]
  rw [if_neg b0, if_neg b0]
  by_cases b1 : c.step.below 4 = 1
  · rw [if_pos b1, if_pos b1]
  rw [if_neg b1, if_neg b1]
  by_cases b2 : c.step.below 4 = 2
  · rw [if_pos b2, if_pos b2]
  · rw [if_neg b2, if_neg b2]
set_option maxHeartbeats 8000000 in
set_option maxRecDepth 100000 in
theorem draw_tail {H : List Blk} {p b4 b5 a d : Nat} {P Q : Nat → Nat} {x : D12} (h : FGx H p b4 b5 a d P Q x) (hz : Sh12 x.s) (hbuf : x.c.buf.length ≤ 1048576) :
    CW Try.prog H.length (tl3 code_spec_l12Draw.c) (fun e st => ∃ st', Weak H.length st st' ∧ retH [.cell 2 true 4] (.agg [.slref a 0 x.s.nodes.length x.s.nodes.length, .slref d 0 x.s.next.length x.s.next.length])
        ((z12 p a d P Q x (x.c.below 3).toNat).G.set b4 (.cells [.slref a 0 x.s.nodes.length x.s.nodes.length, .slref d 0 x.s.next.length x.s.next.length])) e st')
      ⟨slots 68 [(0, .pbox p 0), (1, .int .i64 3), (4, .pbox b4 0), (5, .pbox b5 0)], x.G⟩ := by
  have hT : TabOk Try.prog _ := tab_h ok_below tab_nil
  have h' : FG H p b4 b5 a d P Q x.G x.c x.els x.s := h
  have hn3 := below_lt x.c (n := 3) (by omega)
  obtain ⟨n, hn⟩ : ∃ n : Nat, x.c.below 3 = n := ⟨(x.c.below 3).toNat, by omega⟩
  have hy : FGx H p b4 b5 a d P Q (y12 p x) := h'.setCur x.c.step
  have hz0 : z12 p a d P Q x 0 = y12 p x := by unfold z12; split <;> rfl
  have hyk : ∀ k, FGx H p b4 b5 a d P Q (z12 p a d P Q x k) ∧ Sh12 (z12 p a d P Q x k).s ∧ (z12 p a d P Q x k).s.nodes.length = x.s.nodes.length ∧ (z12 p a d P Q x k).s.next.length = x.s.next.length ∧ (z12 p a d P Q x k).c.buf = x.c.buf := by
    intro k
    unfold z12
    split
    · exact ⟨hy, hz, rfl, rfl, rfl⟩
    · rename_i h0
      obtain ⟨a1, a2⟩ := g12It_ok hy (List.length_pos_iff.2 h0) hz k
      obtain ⟨b1, b2, b3, b4⟩ := d12It_sh (x := ((y12 p x).c, (y12 p x).s)) hz k
      rw [← a2] at b1 b2 b3 b4
      exact ⟨a1, b1, b2, b3, b4⟩
  have hstep : x.s.nodes ≠ [] → ∀ k, z12 p a d P Q x (k + 1) = g12step p a d P Q (z12 p a d P Q x k) := fun h0 k => by
    unfold z12; rw [if_neg h0, if_neg h0]; rfl
  rw [show (x.c.below 3).toNat = n by omega]
  simp only [code_spec_l12Draw, tl3]
  refine cw_seq (go_ok hT ?_)
  simp [List.replicate, h'.cur, hbuf, cells_inj, hn]
  change CW _ _ _ _ ⟨_, (y12 p x).G⟩
  rw [← hz0]
  refine cw_seq (go_ok hT ?_)
  simp [List.replicate]
  refine cw_round (fun (k : Nat) => ⟨slots 68 [(0, .pbox p 0), (1, .int .i64 3), (4, .pbox b4 0), (5, .pbox b5 0), (6, .int .i64 n), (7, .int .i64 k)], (z12 p a d P Q x k).G⟩)
    (fun k => k ≤ n ∧ (x.s.nodes = [] → k = 0)) (fun k => n - k) 0 ⟨by omega, fun _ => rfl⟩ ?_ ?_
  · exact weak_slots (by simp [List.replicate, less_undef, less_refl])
  rintro N hN k ⟨hk, hk0⟩
  have hwk : IntKind.i64.wrap ((k : Int) + 1) = ((k + 1 : Nat) : Int) := by rw [wrap_i64] <;> omega
  obtain ⟨f1, f2, f3, f4, f5⟩ := hyk k
  by_cases h0 : x.s.nodes = []
  · have hze : ∀ k, z12 p a d P Q x k = y12 p x := fun k => by unfold z12; rw [if_pos h0]
    simp only [hze]
    obtain ⟨u, v, g4⟩ := FG.g4 hy
    have g5 := FG.g5 hy
    have e1 : (y12 p x).s.nodes.length = 0 := by show x.s.nodes.length = 0; rw [h0]; rfl
    have e3 : (y12 p x).s.next.length = x.s.next.length := rfl
    have e2 : x.s.nodes.length = 0 := by rw [h0]; rfl
    have ga := FG.row hy
    have gl : (y12 p x).els = [] := List.eq_nil_of_length_eq_zero ((FG.nix hy).len.trans e1)
    rw [gl] at ga
    have n54 := FG.ne hy
    rw [e1, e3] at g5
    have gx5 : ∀ z, ((y12 p x).G.set b4 z)[b5]? = some (.cells [.slref a 0 0 0, .slref d 0 x.s.next.length x.s.next.length]) := fun z => by rw [get_set_ne n54]; exact g5
    have gx4 : ∀ z, ((y12 p x).G.set b4 z)[b4]? = some z := fun z => by rw [List.getElem?_set_self (List.getElem?_eq_some_iff.1 g4).1]
    generalize (y12 p x).G = G at *
    rw [e2]
    by_cases q : k < n
    · have q2 : ¬ n ≤ k := by omega
      have q3 : (k : Int) < n := by omega
      refine go_ok tab_nil ?_
      simp [List.replicate, q, q2, q3, g5, ga]
      refine go_ok tab_nil ?_
      simp [List.replicate, g5, g4]
      exact ⟨_, Weak.refl _ _, by simp [retH, gx4]⟩
    · have q2 : n ≤ k := by omega
      refine go_ok tab_nil ?_
      simp [List.replicate, q, q2, g5]
      refine go_ok tab_nil ?_
      simp [List.replicate, g5, g4]
      exact ⟨_, Weak.refl _ _, by simp [retH, gx4]⟩
  have hs := hstep h0 k
  have hpos : 0 < x.s.nodes.length := List.length_pos_iff.2 h0
  by_cases q : k < n
  case neg =>
    have e : k = n := by omega
    subst e
    obtain ⟨u, v, g4⟩ := FG.g4 f1
    have g5 := FG.g5 f1
    rw [f3, f4] at g5
    have n54 := FG.ne f1
    have gx4 : ∀ z, ((z12 p a d P Q x k).G.set b4 z)[b4]? = some z := fun z => by rw [List.getElem?_set_self (List.getElem?_eq_some_iff.1 g4).1]
    generalize (z12 p a d P Q x k).G = G at *
    refine go_ok tab_nil ?_
    simp [List.replicate]
    refine go_ok tab_nil ?_
    simp [List.replicate, g5, g4]
    exact ⟨_, Weak.refl _ _, by simp [retH, gx4]⟩
  have q2 : ¬ n ≤ k := by omega
  have q3 : (k : Int) < n := by omega
  have hN' : ∀ st', Weak H.length st' ⟨slots 68 [(0, .pbox p 0), (1, .int .i64 3), (4, .pbox b4 0), (5, .pbox b5 0), (6, .int .i64 n), (7, .int .i64 ((k + 1 : Nat) : Int))], (z12 p a d P Q x (k + 1)).G⟩ → N k st' := fun st' hw => hN k (k + 1) st' ⟨by omega, fun e => absurd e h0⟩ (by omega) hw
  rw [hs] at hN'
  clear hN hs hstep hyk
  generalize z12 p a d P Q x k = y at *
  obtain ⟨c, s, G, els⟩ := y
  have f : FG H p b4 b5 a d P Q G c els s := f1
  simp only at f2 f3 f4 f5
  have hsp : 0 < s.nodes.length := by omega
  have hsn : ¬ s.nodes = [] := List.length_pos_iff.1 hsp
  have hcb : c.buf.length ≤ 1048576 := by rw [f5]; exact hbuf
  have hc1 : c.step.buf.length ≤ 1048576 := hcb
  have hc2 : c.step.step.buf.length ≤ 1048576 := hcb
  have hn5 := f2.n
  have hb := below_lt c (n := s.nodes.length) (by omega)
  obtain ⟨i, hi⟩ : ∃ i : Nat, c.below s.nodes.length = i := ⟨(c.below s.nodes.length).toNat, by omega⟩
  have hil : i < s.nodes.length := by omega
  have hin : (c.below s.nodes.length).toNat = i := by omega
  obtain ⟨r1, r2⟩ := f2.r _ (List.getElem_mem hil)
  rw [g12G hin hil] at hN'
  have fp : ∀ z, (G.set p z)[p]? = some z := fun z => by rw [List.getElem?_set_self (List.getElem?_eq_some_iff.1 f.cur).1]
  have fge : ∀ j, H.length ≤ j → ∀ z, (G.set p z)[j]? = G[j]? := fun j hj z => get_set_ne (by have := f.hp; omega)
  have f5' : ∀ z, (G.set p z)[b5]? = some (.cells [.slref a 0 s.nodes.length s.nodes.length, .slref d 0 s.next.length s.next.length]) := fun z => by rw [fge _ f.l5]; exact f.g5
  have fa : ∀ z, (G.set p z)[a]? = some (.row true 61 4 els) := fun z => by rw [fge _ f.la]; exact f.row
  have fd : ∀ z, (G.set p z)[d]? = some (.row true 3 1 (s.next.map encInt)) := fun z => by rw [fge _ f.ld]; exact f.nxt
  have fQ : ∀ z, (G.set p z)[Q i]? = some (.row true 3 1 (s.nodes[i].reach.map encInt)) := fun z => by rw [fge _ (f.lo i hil).2]; exact f.nix.rq i s.nodes[i] (by simp [hil])
  have kL : ∀ j, j < G.length → ∀ z L, (G.set p z ++ L)[j]? = (G.set p z)[j]? := fun j hj z L => List.getElem?_append_left (by simpa using hj)
  have fL5 := fun z L => (kL b5 (List.getElem?_eq_some_iff.1 f.g5).1 z L).trans (f5' z)
  have fLa := fun z L => (kL a (List.getElem?_eq_some_iff.1 f.row).1 z L).trans (fa z)
  have fLd := fun z L => (kL d (List.getElem?_eq_some_iff.1 f.nxt).1 z L).trans (fd z)
  have fLQ := fun z L => (kL (Q i) (List.getElem?_eq_some_iff.1 (f.nix.rq i s.nodes[i] (by simp [hil]))).1 z L).trans (fQ z)
  have fl := f.nix.len
  have hie : i < els.length := by rw [fl]; exact hil
  have fel : els[i] = .agg [.slref (P i) 0 s.nodes[i].vars.length s.nodes[i].vars.length, .slref (Q i) 0 s.nodes[i].reach.length s.nodes[i].reach.length, .int .i64 s.nodes[i].shared, .int .i64 s.nodes[i].many] := by
    have := f.el hil
    rw [List.getElem?_eq_getElem hie] at this
    exact Option.some.inj this
  have fe := f.el hil
  have g5 := f.g5
  have ga := f.row
  have gc := f.cur
  have fs : ∀ z z', (G.set p z).set p z' = G.set p z' := fun z z' => List.set_set ..
  refine cw_seq (go_ok hT ?_)
  simp [List.replicate, q, q2, q3, g5, ga, fl, hsp, hsn]
  refine cw_seq (cw_block ?_)
  refine cw_seq (go_ok hT ?_)
  simp [List.replicate, g5, ga, gc, fl, hsp, cells_inj]
  refine ⟨by omega, hcb, ?_⟩
  rw [hi]
  refine cw_seq (go_ok hT ?_)
  simp [List.replicate, fp, fs, cells_inj, hc1]
  refine cw_block ?_
  have hx3 := below_lt c.step.step (n := 3) (by omega)
  obtain ⟨j, hj⟩ : ∃ j : Nat, c.step.step.below 3 = j := ⟨(c.step.step.below 3).toNat, by omega⟩
  have hpl : p < G.length := (List.getElem?_eq_some_iff.1 gc).1
  by_cases b0 : c.step.below 4 = 0
  · rw [if_pos b0, show (c.step.step.below 3).toNat = j by omega] at hN'
    have hj3 : j < 3 := by omega
    refine goC_ok hT p ?_
    simp [List.replicate, b0, fp, fs, f5', fa, fQ, fL5, fLa, fLQ, fe, fel, fl, hil, hie, cells_inj, hc2, isH, needs1, hpl, hj, hj3, r2]
    refine ⟨by omega, ?_⟩
    refine go_ok hT ?_
    simp [List.replicate, hwk]
    exact hN' _ (weak_eq (by simp [List.map_set]) (by simp [List.replicate, less_undef, less_refl]))
  rw [if_neg b0] at hN'
  by_cases b1 : c.step.below 4 = 1
  · rw [if_pos b1] at hN'
    refine go_ok hT ?_
    simp [List.replicate, b1, fp, fs, f5', fa, fe, fel, fl, hil, hie]
    refine go_ok hT ?_
    simp [List.replicate, hwk]
    exact hN' _ (weak_eq (by simp [List.map_set]) (by simp [List.replicate, less_undef, less_refl]))
  rw [if_neg b1] at hN'
  by_cases b2 : c.step.below 4 = 2
  · rw [if_pos b2] at hN'
    refine goC_ok hT p ?_
    simp [List.replicate, b2, fp, fs, f5', fd, fL5, fLd, cells_inj, hc2, isH, needs1, hpl]
    have hm0 : 0 < s.next.length := by rw [f2.m]; exact Nat.mul_pos hsp hsp
    have hm25 := (sh12_sz f2).2
    have hxm := below_lt c.step.step (n := s.next.length) (by omega)
    have hxl : (c.step.step.below s.next.length).toNat < s.next.length := by omega
    refine ⟨hm0, by omega, hxm.1, hxm.2, ⟨_, List.getElem?_eq_getElem hxl⟩, ?_⟩
    refine go_ok hT ?_
    simp [List.replicate, hwk]
    exact hN' _ (weak_eq (by simp [List.map_set]) (by simp [List.replicate, less_undef, less_refl]))
  · rw [if_neg b2] at hN'
    refine go_ok hT ?_
    simp [List.replicate, b0, b1, b2]
    refine go_ok hT ?_
    simp [List.replicate, hwk]
    exact hN' _ (weak_slots (by simp [List.replicate, less_undef, less_refl]))
end Go.Vm
