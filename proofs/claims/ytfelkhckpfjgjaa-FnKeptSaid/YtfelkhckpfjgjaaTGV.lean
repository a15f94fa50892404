/- spec.l12Draw: a structure is drawn. No condition. -/
import Derived.Test.YtfelkhckpfjgjaaTGH
set_option linter.unusedSimpArgs false
set_option linter.unusedVariables false
namespace Go.Vm
open Go.Proofs
theorem FG.set4 {H : List Blk} {p b4 b5 a d : Nat} {P Q : Nat → Nat} {G : List Blk} {c : Cur} {els : List AV} {s : Strc} (h : FG H p b4 b5 a d P Q G c els s) (u v : AV) : FG H p b4 b5 a d P Q (G.set b4 (.cells [u, v])) c els s := by
  obtain ⟨n1, n2, n3, n4, n5, n6, n7, n8⟩ := h.nodup_a
  obtain ⟨hp, cur, old, l4, ⟨x, y, g4⟩, l5, ne, g5, la, row, nix, lo, ld, nxt, no⟩ := h
  have hl := (List.getElem?_eq_some_iff.1 g4).1
  exact ⟨hp, by rw [get_set_ne (by omega)]; exact cur, fun j hj hjp => by rw [get_set_ne (by omega)]; exact old j hj hjp, l4, ⟨u, v, by rw [List.getElem?_set_self hl]⟩, l5, ne, by rw [get_set_ne ne]; exact g5, la, by rw [get_set_ne (Ne.symm n2)]; exact row, nix.congr fun b hb => get_set_ne fun e => n7 (e ▸ hb), lo, ld, by rw [get_set_ne (Ne.symm n4)]; exact nxt, no⟩
def tl2 : C → C
  | .seq _ (.seq _ x) => x
  | c => c
def T20 (L : Nat) : List Blk := [.nrow, .nrow, .cells [.slref L 0 0 0, .slref (L + 1) 0 0 0], .dead, .dead, .dead, .dead, .dead, .dead, .dead, .dead, .dead, .dead, .dead, .dead, .dead, .dead, .dead, .dead, .dead]
theorem z12_ok {H : List Blk} {p b4 b5 a d : Nat} {P Q : Nat → Nat} {G : List Blk} {els : List AV} {c : Cur} (h : FG H p b4 b5 a d P Q G (drawY c 3).1.step els (d12S0 c)) :
    ∃ els', FG H p b4 b5 a d P Q (z12 p a d P Q ⟨(drawY c 3).1.step, d12S0 c, G, els⟩ ((drawY c 3).1.step.below 3).toNat).G (d12 c).1 els' (d12 c).2 := by
  have hy : FGx H p b4 b5 a d P Q (y12 p ⟨(drawY c 3).1.step, d12S0 c, G, els⟩) := h.setCur _
  unfold z12 d12
  by_cases h0 : (d12S0 c).nodes = []
  · rw [if_pos h0, if_pos h0]
    exact ⟨els, hy⟩
  · rw [if_neg h0, if_neg h0]
    obtain ⟨a1, a2⟩ := g12It_ok hy (List.length_pos_iff.2 h0) (d12S0_sh c) ((drawY c 3).1.step.below 3).toNat
    have e : (y12 p ⟨(drawY c 3).1.step, d12S0 c, G, els⟩).c = (drawY c 3).1.step.step := rfl
    have e2 : (y12 p ⟨(drawY c 3).1.step, d12S0 c, G, els⟩).s = d12S0 c := rfl
    rw [e, e2] at a2
    rw [← a2]
    exact ⟨_, a1⟩
set_option maxHeartbeats 8000000 in
set_option maxRecDepth 100000 in
theorem made_l12Draw {H : List Blk} {p : Nat} {c : Cur} (hbuf : c.buf.length ≤ 1048576) (hp : H[p]? = some c.cells) : ∃ (b4 b5 a d : Nat) (P Q : Nat → Nat) (G : List Blk) (els : List AV),
    FG H p b4 b5 a d P Q G (d12 c).1 els (d12 c).2 ∧ OkH Try.prog 47 [.pbox p 0, .int .i64 3] H (.agg [.slref a 0 (d12 c).2.nodes.length (d12 c).2.nodes.length, .slref d 0 (d12 c).2.next.length (d12 c).2.next.length]) G := by
  have hpl : p < H.length := (List.getElem?_eq_some_iff.1 hp).1
  have hT : TabOk Try.prog _ := tab_h ok_once (tab_h ok_l7Draw tab_nil)
  have hH : H = H.set p c.cells := (set_same hp).symm
  have hgp : ∀ x T, (H.set p x ++ T)[p]? = some x := fun x T => by rw [List.getElem?_append_left (by simpa using hpl), List.getElem?_set_self hpl]
  have hsp : ∀ x y T, (H.set p x ++ T).set p y = H.set p y ++ T := fun x y T => by rw [List.set_append_left _ _ (by simpa using hpl), List.set_set]
  have hsl : ∀ x : Blk, (H.set p x).length = H.length := fun x => by simp
  have hga : ∀ x T k, (H.set p x ++ T)[H.length + k]? = T[k]? := fun x T k => get_at (hsl x)
  have hsa : ∀ x T k y, (H.set p x ++ T).set (H.length + k) y = H.set p x ++ T.set k y := fun x T k y => set_at (hsl x)
  have hyb : (drawY c 3).1.buf.length ≤ 1048576 := by
    obtain ⟨-, a2, -⟩ := drawA_ok c.step (drawN c)
    obtain ⟨-, b2, -⟩ := drawB_ok (drawN c) (drawX c).1 3
    have e : (drawY c 3).1.buf = c.buf := b2.trans a2
    rw [e]; exact hbuf
  obtain ⟨hl1, hl2⟩ := drawH_len c 3
  have hsz : szHeap (drawH c 3) ≤ 1048576 := by change (drawH c 3).vars.length + (drawH c 3).next.length ≤ _; omega
  obtain ⟨a0, d0, els0, P0, Q0, N, hk, hown, hNa, hNx, hNc, hNo⟩ := made_sStrc (drawH c 3) hsz
  have okN : CtN.Ok Try.prog ⟨46, Unit, fun _ => True, fun _ => [encHeap (drawH c 3)], fun _ => (.agg [.slref a0 0 (strcOf (drawH c 3)).nodes.length (strcOf (drawH c 3)).nodes.length, .slref d0 0 (strcOf (drawH c 3)).next.length (strcOf (drawH c 3)).next.length]), fun _ => N⟩ := ⟨fun _ _ => hk, fun _ _ => rfl, fun _ _ => hown⟩
  have hT2 : TabOk Try.prog _ := tab_h ok_l7Draw (tab_h (CtN.hok okN) tab_nil)
  have head : ∀ Q, CW Try.prog H.length (tl2 code_spec_l12Draw.c) Q ⟨slots 68 [(0, .pbox p 0), (1, .int .i64 3), (4, .pbox (H.length + 2) 0), (5, .pbox (H.length + 20 + N.length + 2) 0)], H.set p (drawY c 3).1.cells ++ (T20 H.length ++ (N.map (shB (H.length + 20)) ++ [.nrow, .nrow, .cells [.slref (H.length + 20 + a0) 0 (strcOf (drawH c 3)).nodes.length (strcOf (drawH c 3)).nodes.length, .slref (H.length + 20 + d0) 0 (strcOf (drawH c 3)).next.length (strcOf (drawH c 3)).next.length]]))⟩ →
      CW Try.prog H.length code_spec_l12Draw.c Q ⟨frame code_spec_l12Draw.nt [.pbox p 0, .int .i64 3], H⟩ := by
    intro Q hQ
    simp only [code_spec_l12Draw, tl2] at hQ
    simp only [code_spec_l12Draw, frame, List.length_cons, List.length_nil, List.replicate, Nat.reduceSub, Nat.reduceAdd, List.cons_append, List.nil_append]
    refine cw_seq (go_ok hT ?_); simp [List.replicate, getHk, getH0, setHk, setH0, Nat.add_assoc]
    rw [hH]
    simp only [hsl]
    refine cw_seq (go_ok hT2 ?_); simp [List.replicate, hgp, hsp, hbuf, hsl, hga, hsa, Nat.add_assoc]
    refine ⟨c, 3, rfl, by omega, hbuf, rfl, rfl, ?_⟩
    have hidx : H.length + (3 + (N.length + 19)) - (H.length + 3) = N.length + 19 := by omega
    simp only [hidx]
    have hNg : ∀ (T : List Blk) k, (N.map (shB (H.length + 20)) ++ T)[N.length + k]? = T[k]? := fun T k => get_at (by simp)
    have hNs : ∀ (T : List Blk) k y, (N.map (shB (H.length + 20)) ++ T).set (N.length + k) y = N.map (shB (H.length + 20)) ++ T.set k y := fun T k y => set_at (by simp)
    simp [hNg, hNs, List.getElem_append_right]
    refine cw_weak (weak_less ?_ ?_) hQ
    · simp [T20, Nat.add_assoc]
    · simp [List.replicate, show H.length + (3 + (N.length + 19)) = H.length + 20 + N.length + 2 by omega]
  by_cases g : (drawY c 3).1.below 3 = 0
  · have hS0 : d12S0 c = strcOf (drawH c 3) := by unfold d12S0; rw [if_pos g]
    have hTl : (T20 H.length).length = 20 := rfl
    have hAl : (H.set p (drawY c 3).1.step.cells ++ T20 H.length).length = H.length + 20 := by simp [hTl]
    have fg := fg_made (H := H) (A := H.set p (drawY c 3).1.step.cells ++ T20 H.length) (p := p) (b4 := H.length + 2) (b5 := H.length + 20 + N.length + 2) (c := (drawY c 3).1.step) (by omega) hNa hNx hNc hNo hpl
      (C := [.nrow, .nrow, .cells [.slref (H.length + 20 + a0) 0 (strcOf (drawH c 3)).nodes.length (strcOf (drawH c 3)).nodes.length, .slref (H.length + 20 + d0) 0 (strcOf (drawH c 3)).next.length (strcOf (drawH c 3)).next.length]])
      (by rw [List.append_assoc]; exact hgp _ _) (fun j hj hjp => by rw [List.append_assoc, List.getElem?_append_left (by simpa using hj), List.getElem?_set_ne (Ne.symm hjp)]) (by omega)
      ⟨.slref H.length 0 0 0, .slref (H.length + 1) 0 0 0, by rw [List.append_assoc, hga]; rfl⟩ (by omega) (by omega)
      (by rw [hAl, show H.length + 20 + N.length + 2 = (H.set p (drawY c 3).1.step.cells ++ T20 H.length).length + (N.length + 2) by omega, getHk, get_at (by simp)]; rfl)
    rw [hAl, ← hS0] at fg
    obtain ⟨els', fz⟩ := z12_ok fg
    have hz := d12S0_sh c
    refine ⟨H.length + 2, H.length + 20 + N.length + 2, H.length + 20 + a0, H.length + 20 + d0, fun i => H.length + 20 + P0 i, fun i => H.length + 20 + Q0 i, _, els', fz.set4 (.slref (H.length + 20 + a0) 0 (d12 c).2.nodes.length (d12 c).2.nodes.length) (.slref (H.length + 20 + d0) 0 (d12 c).2.next.length (d12 c).2.next.length), ?_⟩
    refine OkH.of_cw fok_spec_l12Draw (head _ ?_)
    have hlen : (d12 c).2.nodes.length = (d12S0 c).nodes.length ∧ (d12 c).2.next.length = (d12S0 c).next.length := by
      unfold d12
      split
      · exact ⟨rfl, rfl⟩
      · obtain ⟨-, a2, a3, -⟩ := d12It_sh (x := ((drawY c 3).1.step.step, d12S0 c)) hz ((drawY c 3).1.step.below 3).toNat
        exact ⟨a2, a3⟩
    rw [hlen.1, hlen.2]
    have tail := draw_tail (x := ⟨(drawY c 3).1.step, d12S0 c, _, _⟩) fg hz hyb
    simp only [code_spec_l12Draw, tl3] at tail
    simp only [code_spec_l12Draw, tl2]
    refine cw_seq (go_ok hT ?_)
    simp [List.replicate, hgp, hsp, cells_inj, hyb, g]
    rw [← hS0]
    simp only [List.append_assoc] at tail
    exact cw_weak (weak_slots (by simp [List.replicate, less_undef, less_refl])) tail
  · have hS0 : d12S0 c = blurS (strcOf (drawH c 3)) := by unfold d12S0; rw [if_neg g]
    have hsh := strcOf_sh (drawH_fit c) hl1 hl2
    obtain ⟨a1, d1, els1, P1, Q1, N1, hk1, hown1, hNa1, hNx1, hNc1, hNo1⟩ := made_Blur (strcOf (drawH c 3)) (sh12_sz hsh).1 (by have := hsh.n; omega) (strcOf_blur (drawH_fit c))
    rw [← hS0] at hk1 hNx1 hNc1 hNo1
    have okB : CtN.Ok Try.prog ⟨20, Unit, fun _ => True, fun _ => [encStrc (strcOf (drawH c 3))], fun _ => (.agg [.slref a1 0 (d12S0 c).nodes.length (d12S0 c).nodes.length, .slref d1 0 (d12S0 c).next.length (d12S0 c).next.length]), fun _ => N1⟩ := ⟨fun _ _ => hk1, fun _ _ => rfl, fun _ _ => hown1⟩
    have hT3 : TabOk Try.prog _ := tab_h (CtN.hok okB) tab_nil
    have hTl : (T20 H.length).length = 20 := rfl
    have hAl : (H.set p (drawY c 3).1.step.cells ++ T20 H.length).length = H.length + 20 := by simp [hTl]
    have fg := fg_made (H := H) (A := H.set p (drawY c 3).1.step.cells ++ T20 H.length) (p := p) (b4 := H.length + 2) (b5 := H.length + 20 + N.length + 2) (c := (drawY c 3).1.step) (by omega) hNa hNx hNc hNo hpl
      (C := [.nrow, .nrow, .cells [.slref (H.length + 20 + a0) 0 (strcOf (drawH c 3)).nodes.length (strcOf (drawH c 3)).nodes.length, .slref (H.length + 20 + d0) 0 (strcOf (drawH c 3)).next.length (strcOf (drawH c 3)).next.length]])
      (by rw [List.append_assoc]; exact hgp _ _) (fun j hj hjp => by rw [List.append_assoc, List.getElem?_append_left (by simpa using hj), List.getElem?_set_ne (Ne.symm hjp)]) (by omega)
      ⟨.slref H.length 0 0 0, .slref (H.length + 1) 0 0 0, by rw [List.append_assoc, hga]; rfl⟩ (by omega) (by omega)
      (by rw [hAl, show H.length + 20 + N.length + 2 = (H.set p (drawY c 3).1.step.cells ++ T20 H.length).length + (N.length + 2) by omega, getHk, get_at (by simp)]; rfl)
    rw [hAl] at fg
    obtain ⟨G, hG⟩ : ∃ G : List Blk, G = H.set p (drawY c 3).1.step.cells ++ (T20 H.length ++ (N.map (shB (H.length + 20)) ++ [.nrow, .nrow, .cells [.slref (H.length + 20 + a0) 0 (strcOf (drawH c 3)).nodes.length (strcOf (drawH c 3)).nodes.length, .slref (H.length + 20 + d0) 0 (strcOf (drawH c 3)).next.length (strcOf (drawH c 3)).next.length]])) := ⟨_, rfl⟩
    rw [List.append_assoc, ← hG] at fg
    have hb5 := (List.getElem?_eq_some_iff.1 fg.g5).1
    have hpG := (List.getElem?_eq_some_iff.1 fg.cur).1
    have hHG : H.length ≤ G.length := by have := fg.l5; omega
    have l5 := fg.l5
    obtain ⟨u4, v4, g4⟩ := fg.g4
    have hb4 := (List.getElem?_eq_some_iff.1 g4).1
    have gset : ∀ y, ∀ j, H.length + 20 + N.length + 2 ≠ j → (G.set (H.length + 20 + N.length + 2) y)[j]? = G[j]? := fun y j hj => get_set_ne hj
    have fg2 := fg_made (H := H) (A := G.set (H.length + 20 + N.length + 2) (.cells [.slref (G.length + a1) 0 (d12S0 c).nodes.length (d12S0 c).nodes.length, .slref (G.length + d1) 0 (d12S0 c).next.length (d12S0 c).next.length])) (p := p) (b4 := H.length + 2) (b5 := H.length + 20 + N.length + 2) (c := (drawY c 3).1.step) (by simpa using hHG) hNa1 hNx1 hNc1 hNo1 hpl
      (C := [])
      (by rw [List.getElem?_append_left (by simpa using hpG), gset _ _ (by omega)]; exact fg.cur) (fun j hj hjp => by rw [List.getElem?_append_left (by simp; omega), gset _ _ (by omega)]; exact fg.old j hj hjp) (by omega)
      ⟨u4, v4, by rw [List.getElem?_append_left (by simpa using hb4), gset _ _ (by omega)]; exact g4⟩ (by omega) (by omega)
      (by rw [List.length_set, List.getElem?_append_left (by simpa using hb5), List.getElem?_set_self hb5])
    rw [List.length_set, List.append_nil] at fg2
    obtain ⟨els', fz⟩ := z12_ok fg2
    have hz := d12S0_sh c
    refine ⟨H.length + 2, H.length + 20 + N.length + 2, G.length + a1, G.length + d1, fun i => G.length + P1 i, fun i => G.length + Q1 i, _, els', fz.set4 (.slref (G.length + a1) 0 (d12 c).2.nodes.length (d12 c).2.nodes.length) (.slref (G.length + d1) 0 (d12 c).2.next.length (d12 c).2.next.length), ?_⟩
    refine OkH.of_cw fok_spec_l12Draw (head _ ?_)
    have hlen : (d12 c).2.nodes.length = (d12S0 c).nodes.length ∧ (d12 c).2.next.length = (d12S0 c).next.length := by
      unfold d12
      split
      · exact ⟨rfl, rfl⟩
      · obtain ⟨-, a2, a3, -⟩ := d12It_sh (x := ((drawY c 3).1.step.step, d12S0 c)) hz ((drawY c 3).1.step.below 3).toNat
        exact ⟨a2, a3⟩
    rw [hlen.1, hlen.2]
    have tail := draw_tail (x := ⟨(drawY c 3).1.step, d12S0 c, _, _⟩) fg2 hz hyb
    simp only [code_spec_l12Draw, tl3] at tail
    simp only [code_spec_l12Draw, tl2]
    refine cw_seq (cw_seq (go_ok hT ?_))
    simp [List.replicate, hgp, hsp, cells_inj, hyb, g]
    rw [← hG]
    have g5 := fg.g5
    obtain ⟨le1, le2⟩ := fg.lend
    have gA : ∀ T y, (G ++ T).set (H.length + 20 + N.length + 2) y = G.set (H.length + 20 + N.length + 2) y ++ T := fun T y => List.set_append_left _ _ hb5
    have gB : ∀ T, (G ++ T)[H.length + 20 + N.length + 2]? = G[H.length + 20 + N.length + 2]? := fun T => List.getElem?_append_left hb5
    refine go_ok hT3 ?_
    simp [List.replicate, g5, le1, le2, gA, gB]
    exact cw_weak (weak_slots (by simp [List.replicate, less_undef, less_refl])) tail
end Go.Vm
namespace Go.Vm
open Go.Proofs
def Stn (L : Nat) (G : List Blk) (v w : AV) (s : Strc) : Prop := ∀ G' : List Blk, (∀ j, L ≤ j → j < G.length → G'[j]? = G[j]?) → lendC (fun _ _ => true) G' 20 v = some (encL 4 encNode s.nodes) ∧ lendC (fun _ _ => true) G' 20 w = some (encL 1 encInt s.next)
structure SG (L a d : Nat) (P Q : Nat → Nat) (G : List Blk) (els : List AV) (s : Strc) : Prop where
  la : L ≤ a
  row : G[a]? = some (.row true 61 4 els)
  nix : NIx G els s.nodes P Q
  lo : ∀ i, i < s.nodes.length → L ≤ P i ∧ L ≤ Q i
  ld : L ≤ d
  nxt : G[d]? = some (.row true 3 1 (s.next.map encInt))
  no : ¬ NIx.own s.nodes.length P Q d
section
variable {L a d : Nat} {P Q : Nat → Nat} {G : List Blk} {els : List AV} {s : Strc}
theorem SG.ge (h : SG L a d P Q G els s) {b : Nat} (hb : NIx.own s.nodes.length P Q b) : L ≤ b := by
  obtain ⟨i, hi, rfl | rfl⟩ := hb
  · exact (h.lo i hi).1
  · exact (h.lo i hi).2
theorem SG.na (h : SG L a d P Q G els s) : a ≠ d ∧ ¬ NIx.own s.nodes.length P Q a := by
  refine ⟨fun e => ?_, fun e => ?_⟩
  · have := h.nxt
    rw [← e, h.row] at this; simp at this
  · obtain ⟨l, e⟩ := h.nix.is1 e; rw [h.row] at e; simp at e
theorem SG.stn (h : SG L a d P Q G els s) : Stn L G (.slref a 0 s.nodes.length s.nodes.length) (.slref d 0 s.next.length s.next.length) s := by
  intro G' hG
  have lt : ∀ {j k}, G[j]? = some k → j < G.length := fun e => (List.getElem?_eq_some_iff.1 e).1
  have n2 : NIx G' els s.nodes P Q := h.nix.congr fun b hb => by
    obtain ⟨l, e⟩ := h.nix.is1 hb
    exact hG b (h.ge hb) (lt e)
  refine ⟨n2.lend ((hG a h.la (lt h.row)).trans h.row), ?_⟩
  have e := (hG d h.ld (lt h.nxt)).trans h.nxt
  simp [lendC, e]
theorem SG.el (h : SG L a d P Q G els s) {i : Nat} (hi : i < s.nodes.length) : els[i]? = some (.agg [.slref (P i) 0 s.nodes[i].vars.length s.nodes[i].vars.length, .slref (Q i) 0 s.nodes[i].reach.length s.nodes[i].reach.length, .int .i64 s.nodes[i].shared, .int .i64 s.nodes[i].many]) := h.nix.el i _ (by simp [hi])
theorem SG.setNext (h : SG L a d P Q G els s) (ys : List Int) : SG L a d P Q (G.set d (.row true 3 1 (ys.map encInt))) els ⟨s.nodes, ys⟩ := by
  have hdl := (List.getElem?_eq_some_iff.1 h.nxt).1
  exact ⟨h.la, by rw [get_set_ne (Ne.symm h.na.1)]; exact h.row, h.nix.congr fun b hb => get_set_ne fun e => h.no (by rw [e]; exact hb), h.lo, h.ld, List.getElem?_set_self hdl, h.no⟩
theorem SG.setReach (h : SG L a d P Q G els s) {i : Nat} (hi : i < s.nodes.length) (r : List Int) (hr : r.length = s.nodes[i].reach.length) :
    SG L a d P Q (G.set (Q i) (.row true 3 1 (r.map encInt))) els ⟨s.nodes.set i ⟨s.nodes[i].vars, r, s.nodes[i].shared, s.nodes[i].many⟩, s.next⟩ := by
  have hN := h.nix.set hi ⟨s.nodes[i].vars, r, s.nodes[i].shared, s.nodes[i].many⟩ rfl hr
  have e0 := h.el hi
  have e1 : els.set i (.agg [.slref (P i) 0 s.nodes[i].vars.length s.nodes[i].vars.length, .slref (Q i) 0 r.length r.length, .int .i64 s.nodes[i].shared, .int .i64 s.nodes[i].many]) = els := by rw [hr]; exact set_get e0
  have e2 : G.set (P i) (.row true 3 1 (s.nodes[i].vars.map encInt)) = G := set_get (h.nix.rp i _ (by simp [hi]))
  simp only [e1, e2] at hN
  have oQ : NIx.own s.nodes.length P Q (Q i) := ⟨i, hi, .inr rfl⟩
  exact ⟨h.la, by rw [get_set_ne (show Q i ≠ a from fun e => h.na.2 (e ▸ oQ))]; exact h.row, hN, by simpa using h.lo, h.ld, by rw [get_set_ne (show Q i ≠ d from fun e => h.no (e ▸ oQ))]; exact h.nxt, by simpa using h.no⟩
theorem SG.setEl (h : SG L a d P Q G els s) {i : Nat} (hi : i < s.nodes.length) (x y : Int) :
    SG L a d P Q (G.set a (.row true 61 4 (els.set i (.agg [.slref (P i) 0 s.nodes[i].vars.length s.nodes[i].vars.length, .slref (Q i) 0 s.nodes[i].reach.length s.nodes[i].reach.length, .int .i64 x, .int .i64 y]))))
      (els.set i (.agg [.slref (P i) 0 s.nodes[i].vars.length s.nodes[i].vars.length, .slref (Q i) 0 s.nodes[i].reach.length s.nodes[i].reach.length, .int .i64 x, .int .i64 y])) ⟨s.nodes.set i ⟨s.nodes[i].vars, s.nodes[i].reach, x, y⟩, s.next⟩ := by
  have hN := h.nix.set hi ⟨s.nodes[i].vars, s.nodes[i].reach, x, y⟩ rfl rfl
  have e2 : G.set (P i) (.row true 3 1 (s.nodes[i].vars.map encInt)) = G := set_get (h.nix.rp i _ (by simp [hi]))
  have e3 : G.set (Q i) (.row true 3 1 (s.nodes[i].reach.map encInt)) = G := set_get (h.nix.rq i _ (by simp [hi]))
  simp only [e2, e3] at hN
  have hal := (List.getElem?_eq_some_iff.1 h.row).1
  exact ⟨h.la, List.getElem?_set_self hal, hN.congr fun b hb => get_set_ne fun e => h.na.2 (by rw [e]; simpa using hb), by simpa using h.lo, h.ld, by rw [get_set_ne h.na.1]; exact h.nxt, by simpa using h.no⟩
end
theorem FG.sg {H : List Blk} {p b4 b5 a d : Nat} {P Q : Nat → Nat} {G : List Blk} {c : Cur} {els : List AV} {s : Strc} (h : FG H p b4 b5 a d P Q G c els s) : SG H.length a d P Q G els s :=
  ⟨h.la, h.row, h.nix, h.lo, h.ld, h.nxt, h.no⟩
def Wrt (L : Nat) (G : List Blk) (a n d m : Nat) (s : Strc) : Prop := n = s.nodes.length ∧ m = s.next.length ∧ (∃ els, G[a]? = some (.row true 61 4 els) ∧ els.length = n ∧ L ≤ a) ∧ (0 < s.nodes.length →
  (∃ (els : List AV) (P : AV) (q o l k : Nat) (sh mn : Int) (rs : List Int), G[a]? = some (.row true 61 4 els) ∧ els[0]? = some (.agg [P, .slref q o l k, .int .i64 sh, .int .i64 mn]) ∧ 0 < l ∧ G[q]? = some (.row true 3 1 (rs.map encInt)) ∧ (rs.length = k ∧ o + l ≤ k) ∧ L ≤ a ∧ L ≤ q ∧
    (∀ x : Int, Stn L (G.set q (.row true 3 1 ((rs.map encInt).set o (.int .i64 x)))) (.slref a 0 n n) (.slref d 0 m m) (setN s 0 fun y => ⟨y.vars, y.reach.set 0 x, y.shared, y.many⟩)) ∧
    (∀ x : Int, Stn L (G.set a (.row true 61 4 (els.set 0 (.agg [P, .slref q o l k, .int .i64 x, .int .i64 mn])))) (.slref a 0 n n) (.slref d 0 m m) (setN s 0 fun y => ⟨y.vars, y.reach, x, y.many⟩))) ∧
  ∃ ns : List Int, 0 < m ∧ G[d]? = some (.row true 3 1 (ns.map encInt)) ∧ ns.length = m ∧ L ≤ d ∧ ∀ x : Int, Stn L (G.set d (.row true 3 1 ((ns.map encInt).set 0 (.int .i64 x)))) (.slref a 0 n n) (.slref d 0 m m) ⟨s.nodes, s.next.set 0 x⟩)
theorem SG.wrt {L a d : Nat} {P Q : Nat → Nat} {G : List Blk} {els : List AV} {s : Strc} (h : SG L a d P Q G els s) (hr : ∀ hp : 0 < s.nodes.length, 0 < s.nodes[0].reach.length) (hn : 0 < s.nodes.length → 0 < s.next.length) : Wrt L G a s.nodes.length d s.next.length s := by
  refine ⟨rfl, rfl, ⟨els, h.row, h.nix.len, h.la⟩, fun hp => ⟨⟨els, _, _, _, _, _, _, _, _, h.row, h.el hp, hr hp, h.nix.rq 0 s.nodes[0] (by simp [hp]), ⟨rfl, by simp⟩, h.la, (h.lo 0 hp).2, fun x => ?_, fun x => ?_⟩, _, hn hp, h.nxt, by simp, h.ld, fun x => ?_⟩⟩
  · have k := (h.setReach hp (s.nodes[0].reach.set 0 x) (by simp)).stn
    unfold setN
    rw [dif_pos hp]
    simpa [List.map_set] using k
  · have k := (h.setEl hp x s.nodes[0].many).stn
    unfold setN
    rw [dif_pos hp]
    simpa using k
  · have k := (h.setNext (s.next.set 0 x)).stn
    simpa [List.map_set] using k
theorem lend_cut {G : List Blk} {els : List AV} {nodes : List Node} {P Q : Nat → Nat} (h : NIx G els nodes P Q) (hp : 0 < nodes.length) (hr : nodes[0].reach.length = 3) {a : Nat}
    (ha : G[a]? = some (.row true 61 4 (els.set 0 (.agg [.slref (P 0) 0 nodes[0].vars.length nodes[0].vars.length, .slref (Q 0) 1 2 3, .int .i64 nodes[0].shared, .int .i64 nodes[0].many])))) :
    lendC (fun _ _ => true) G 20 (.slref a 0 nodes.length nodes.length) = some (encL 4 encNode (nodes.set 0 ⟨nodes[0].vars, nodes[0].reach.drop 1, nodes[0].shared, nodes[0].many⟩)) := by
  have hl := h.len
  match nodes, els, h, hp, hr, ha, hl with
  | x :: xs, e :: es, h, _, hr, ha, hl =>
    simp only [List.getElem_cons_zero] at hr ha ⊢
    have ih := lendEls_nodes (H := G) (d := 17) (els := es) (xs := xs) (p := fun i => P (i + 1)) (q := fun i => Q (i + 1)) (by simpa using hl) (fun i y hy => by simpa using h.el (i + 1) y (by simpa using hy)) (fun i y hy => h.rp (i + 1) y (by simpa using hy)) (fun i y hy => h.rq (i + 1) y (by simpa using hy))
    have e1 : lendC (fun _ _ => true) G 19 (.slref (P 0) 0 x.vars.length x.vars.length) = some (encL 1 encInt x.vars) := by simp [lendC, h.rp 0 x rfl]
    have e2 : lendC (fun _ _ => true) G 19 (.slref (Q 0) 1 2 3) = some (encL 1 encInt (x.reach.drop 1)) := by
      have hd : (x.reach.drop 1).length = 2 := by simp [hr]
      simp [lendC, h.rq 0 x rfl, hr]
      exact ⟨x.reach.tail.map encInt, by rw [← List.map_tail, List.take_of_length_le (by simp [hr])]; exact lendEls_map, rfl⟩
    simp only [List.set_cons_zero] at ha ⊢
    have hl' : es.length = xs.length := by simpa using hl
    have e3 : lendEls (fun _ _ => true) G 19 (.agg [.slref (P 0) 0 x.vars.length x.vars.length, .slref (Q 0) 1 2 3, .int .i64 x.shared, .int .i64 x.many] :: es) = some ((⟨x.vars, x.reach.drop 1, x.shared, x.many⟩ :: xs : List Node).map encNode) := by
      simp only [lendEls, lendCs, e1, e2, ih, lendC, List.map_cons]
      rfl
    simp only [lendC, ha, List.length_cons, hl', Nat.zero_add, Nat.le_refl, and_self, if_true, List.drop_zero]
    rw [List.take_of_length_le (by simp [hl']), e3]; rfl
theorem setN_pos {s : Strc} (hp : 0 < s.nodes.length) (f : Node → Node) : setN s 0 f = ⟨s.nodes.set 0 (f s.nodes[0]), s.next⟩ := by
  unfold setN
  rw [dif_pos hp]
def cutR (P Q : Nat → Nat) (els : List AV) (x : Node) : Blk := .row true 61 4 (els.set 0 (.agg [.slref (P 0) 0 x.vars.length x.vars.length, .slref (Q 0) 1 2 3, .int .i64 x.shared, .int .i64 x.many]))
theorem SG.cutStn {L a d : Nat} {P Q : Nat → Nat} {G : List Blk} {els : List AV} {s : Strc} (h : SG L a d P Q G els s) (hp : 0 < s.nodes.length) (hr : s.nodes[0].reach.length = 3) :
    Stn L (G.set a (cutR P Q els s.nodes[0])) (.slref a 0 s.nodes.length s.nodes.length) (.slref d 0 s.next.length s.next.length) (setN s 0 fun y => ⟨y.vars, y.reach.drop 1, y.shared, y.many⟩) := by
  intro G' hG
  have lt : ∀ {j k}, G[j]? = some k → j < (G.set a (cutR P Q els s.nodes[0])).length := fun e => by rw [List.length_set]; exact (List.getElem?_eq_some_iff.1 e).1
  have hal := (List.getElem?_eq_some_iff.1 h.row).1
  have n2 : NIx G' els s.nodes P Q := h.nix.congr fun b hb => by
    obtain ⟨l, e⟩ := h.nix.is1 hb
    rw [hG b (h.ge hb) (lt e), get_set_ne fun e => h.na.2 (by rw [e]; exact hb)]
  rw [setN_pos hp]
  refine ⟨lend_cut n2 hp hr ?_, ?_⟩
  · rw [hG a h.la (lt h.row), List.getElem?_set_self hal]; rfl
  have e := (hG d h.ld (lt h.nxt)).trans ((get_set_ne h.na.1).trans h.nxt)
  simp [lendC, e]
theorem SG.cutWrt {L a d : Nat} {P Q : Nat → Nat} {G : List Blk} {els : List AV} {s : Strc} (h : SG L a d P Q G els s) (hp : 0 < s.nodes.length) (hr : s.nodes[0].reach.length = 3) (hn : 0 < s.next.length) :
    Wrt L (G.set a (cutR P Q els s.nodes[0])) a s.nodes.length d s.next.length (setN s 0 fun y => ⟨y.vars, y.reach.drop 1, y.shared, y.many⟩) := by
  have hal := (List.getElem?_eq_some_iff.1 h.row).1
  have hne : 0 < els.length := by rw [h.nix.len]; exact hp
  have oQ : NIx.own s.nodes.length P Q (Q 0) := ⟨0, hp, .inr rfl⟩
  have aQ : a ≠ Q 0 := fun e => h.na.2 (e ▸ oQ)
  have hQ := h.nix.rq 0 s.nodes[0] (by simp [hp])
  rw [setN_pos hp]
  refine ⟨by simp, rfl, ⟨_, List.getElem?_set_self hal, by simp [h.nix.len], h.la⟩, fun _ => ⟨⟨els.set 0 (.agg [.slref (P 0) 0 s.nodes[0].vars.length s.nodes[0].vars.length, .slref (Q 0) 1 2 3, .int .i64 s.nodes[0].shared, .int .i64 s.nodes[0].many]), _, Q 0, 1, 2, 3, _, _, s.nodes[0].reach, List.getElem?_set_self hal, List.getElem?_set_self hne, by omega, by rw [get_set_ne aQ]; exact hQ, ⟨by simp [hr], by omega⟩, h.la, (h.lo 0 hp).2, fun x => ?_, fun x => ?_⟩, s.next, hn, by rw [get_set_ne h.na.1]; exact h.nxt, by simp, h.ld, fun x => ?_⟩⟩
  · have k := (h.setReach hp (s.nodes[0].reach.set 1 x) (by simp)).cutStn (by simpa using hp) (by simpa using hr)
    rw [setN_pos (by simpa using hp)] at k ⊢
    rw [List.set_comm _ _ aQ]
    simpa [cutR, List.map_set, List.drop_set] using k
  · have k := (h.setEl hp x s.nodes[0].many).cutStn (by simpa using hp) (by simpa using hr)
    rw [setN_pos (by simpa using hp)] at k ⊢
    simpa [cutR] using k
  · have k := (h.setNext (s.next.set 0 x)).cutStn hp hr
    rw [setN_pos (s := ⟨s.nodes, s.next.set 0 x⟩) hp] at k
    rw [List.set_comm _ _ h.na.1]
    simpa [cutR, List.map_set] using k
theorem FG.appNext {H : List Blk} {p b4 b5 a d : Nat} {P Q : Nat → Nat} {G : List Blk} {c : Cur} {els : List AV} {s : Strc} (h : FG H p b4 b5 a d P Q G c els s) (T : List Blk) (y : Int) :
    FG H p b4 b5 a d P Q (((G ++ T).set d (.row true 3 1 (s.next.map encInt ++ [.int .i64 y]))).set b5 (.cells [.slref a 0 s.nodes.length s.nodes.length, .slref d 0 (s.next.length + 1) (s.next.length + 1)])) c els ⟨s.nodes, s.next ++ [y]⟩ := by
  obtain ⟨n1, n2, n3, n4, n5, n6, n7, n8⟩ := h.nodup_a
  have lt : ∀ {j k}, G[j]? = some k → j < G.length := fun e => (List.getElem?_eq_some_iff.1 e).1
  have hdl := lt h.nxt
  have h5l := lt h.g5
  have k : ∀ j, d ≠ j → b5 ≠ j → j < G.length → (((G ++ T).set d (.row true 3 1 (s.next.map encInt ++ [.int .i64 y]))).set b5 (.cells [.slref a 0 s.nodes.length s.nodes.length, .slref d 0 (s.next.length + 1) (s.next.length + 1)]))[j]? = G[j]? := fun j h1 h2 h3 => by
    rw [get_set_ne h2, get_set_ne h1, List.getElem?_append_left h3]
  have hd := h.ld
  have h5 := h.l5
  have hpp := h.hp
  obtain ⟨u, v, g4⟩ := h.g4
  refine ⟨h.hp, by rw [k _ (by omega) (by omega) (lt h.cur)]; exact h.cur, fun j hj hjp => by rw [k _ (by omega) (by omega) (by omega)]; exact h.old j hj hjp, h.l4, ⟨u, v, by rw [k _ n4 (Ne.symm h.ne) (lt g4)]; exact g4⟩, h.l5, h.ne, ?_, h.la, by rw [k _ (Ne.symm n1) (Ne.symm n3) (lt h.row)]; exact h.row, ?_, h.lo, h.ld, ?_, h.no⟩
  · rw [List.getElem?_set_self (by simp; omega)]; simp
  · exact h.nix.congr fun b hb => by
      obtain ⟨l, e⟩ := h.nix.is1 hb
      exact k _ (fun e' => h.no (e' ▸ hb)) (fun e' => n8 (e' ▸ hb)) (lt e)
  · rw [get_set_ne (Ne.symm n5), List.getElem?_set_self (by simp; omega)]; simp
end Go.Vm
