/- laws.big; sizes of structures of heaps. No condition. -/
import Derived.Test.YtfelkhckpfjgjaaTGF
import Derived.Test.YtfelkhckpfjgjaaTRH
import Derived.Test.YtfelkhckpfjgjaaTPT
import Derived.Test.YtfelkhckpfjgjaaVme
set_option linter.unusedSimpArgs false
set_option linter.unusedVariables false
namespace Go.Vm
open Go.Proofs
def code_laws_big : F := ⟨6,[.tmp 2],.seq (.reg [⟨some 2,.mov (.k (.bool false)),none⟩]) (.seq (.reg [⟨some 3,.mov (.t 0),none⟩,⟨some 4,.len (.t 3),none⟩,⟨some 5,.bin .gtr (.t 4) (.k (.int .i64 1048576)),none⟩,⟨some 2,.mov (.t 5),none⟩]) (.ret))⟩
theorem fok_laws_big : FOk Try.prog 6 code_laws_big := fok Try.func6 (by kernel_rfl)
@[simp] def ct_bigK : Ct := ⟨6, List UInt8, fun _ => True, fun bs => [encL 1 encU bs], fun bs => .bool (decide (1048576 < bs.length))⟩
theorem ok_bigK : ct_bigK.Ok Try.prog := by
  intro bs _
  change List UInt8 at bs
  refine Ok.of_cw fok_laws_big (go_ok tab_nil ?_)
  simp [code_laws_big, List.replicate]
  omega
end Go.Vm
namespace Go.Vm
open Go.Proofs
theorem curB (c : Cur) : ∀ n H2, SlB n H2 c.cells c.cells := fun n H2 => by simp [Cur.cells]
theorem Stn.sl {L : Nat} {G : List Blk} {v w : AV} {s : Strc} (h : Stn L G v w s) : SlC L G v (encL 4 encNode s.nodes) ∧ SlC L G w (encL 1 encInt s.next) :=
  ⟨slC_from fun G' hG => (h G' hG).1, slC_from fun G' hG => (h G' hG).2⟩
theorem take_cur {H G : List Blk} {p : Nat} {k : Blk} (hp : p < H.length) (hl : H.length ≤ G.length) (hc : G[p]? = some k) (ho : ∀ j, j < H.length → j ≠ p → G[j]? = H[j]?) : G.take H.length = H.set p k := by
  apply List.ext_getElem?
  intro j
  rw [List.getElem?_take]
  by_cases g : j < H.length
  · rw [if_pos g]
    by_cases q : j = p
    · subst q; rw [hc, List.getElem?_set_self hp]
    · rw [ho j g q, List.getElem?_set_ne (Ne.symm q)]
  · rw [if_neg g, List.getElem?_eq_none (by simpa using g)]
@[simp] def ct_l7DrawS : CtH := ⟨45, Nat × Cur, fun x H => x.2.buf.length ≤ 1048576 ∧ H[x.1]? = some x.2.cells, fun x => [.pbox x.1 0, .int .i64 3], fun x _ => encHeap (drawH x.2 3), fun x H => H.set x.1 (drawY x.2 3).1.cells⟩
theorem ok_l7DrawS : ct_l7DrawS.Ok Try.prog := by
  rintro ⟨p, c⟩ H ⟨hbuf, hp⟩
  change c.buf.length ≤ 1048576 at hbuf
  change H[p]? = some c.cells at hp
  have h := ok_l7Draw (p, c, 3) H ⟨show 3 ≤ 4 by omega, hbuf, hp⟩
  refine OkH.of_self fun hB => OkH.weak h ?_
  have hB2 : SelfB (H.set p (drawY c 3).1.cells) := selfB_set hB (curB _)
  have hw := weak_sealH (n0 := H.length) (H := H.set p (drawY c 3).1.cells) (X := [.dead, .dead, .cells [.slref (H.length + 15) 0 (drawH c 3).vars.length (drawH c 3).vars.length, .slref (H.length + 16) 0 (drawH c 3).next.length (drawH c 3).next.length], .dead, .dead, .dead, .dead, .dead, .dead, .dead, .dead, .dead, .dead, .dead, .dead, .row true 3 1 ((drawH c 3).vars.map encInt), .row true 3 1 ((drawH c 3).next.map encInt)])
    (X' := []) (t := [.agg [.slref (H.length + 15) 0 (drawH c 3).vars.length (drawH c 3).vars.length, .slref (H.length + 16) 0 (drawH c 3).next.length (drawH c 3).next.length]]) (t' := [encHeap (drawH c 3)]) 0 hB2 (by simp) .nil ?_
  · rw [List.append_nil] at hw; exact hw
  · refine .cons ?_ .nil
    have hga : ∀ T k, (H.set p (drawY c 3).1.cells ++ T)[H.length + k]? = T[k]? := fun T k => get_at (by simp)
    show All2 (SlC _ _) [_, _] [encL 1 encInt (drawH c 3).vars, encL 1 encInt (drawH c 3).next]
    refine .cons ?_ (.cons ?_ .nil)
    · right; right
      simp [lendC, hga]
    · right; right
      simp [lendC, hga]
@[simp] def ct_l12DrawS : CtH := ⟨47, Nat × Cur, fun x H => x.2.buf.length ≤ 1048576 ∧ H[x.1]? = some x.2.cells, fun x => [.pbox x.1 0, .int .i64 3], fun x _ => encStrc (d12 x.2).2, fun x H => H.set x.1 (d12 x.2).1.cells⟩
theorem ok_l12DrawS : ct_l12DrawS.Ok Try.prog := by
  rintro ⟨p, c⟩ H ⟨hbuf, hp⟩
  change c.buf.length ≤ 1048576 at hbuf
  change H[p]? = some c.cells at hp
  obtain ⟨b4, b5, a, d, P, Q, G, els, fg, ok⟩ := made_l12Draw hbuf hp
  obtain ⟨s1, s2⟩ := fg.sg.stn.sl
  have hpl := (List.getElem?_eq_some_iff.1 hp).1
  have hl : H.length ≤ G.length := by
    have h1 := fg.l4
    obtain ⟨u, v, h2⟩ := fg.g4
    have := (List.getElem?_eq_some_iff.1 h2).1
    omega
  refine OkH.of_self fun hB => OkH.weak ok ?_
  refine weak_seal H.length (Nat.le_refl _) ?_ (.cons ?_ .nil)
  · rw [take_cur hpl hl fg.cur fg.old]
    exact (selfB_set hB (curB _)) H.length (by simp) G
  · exact .cons s1 (.cons s2 .nil)
@[simp] def ct_l12BentS : CtH := ⟨60, Nat × Cur, fun x H => x.2.buf.length ≤ 1048576 ∧ H[x.1]? = some x.2.cells, fun x => [.pbox x.1 0], fun x _ => encStrc (bent12 x.2).2, fun x H => H.set x.1 (bent12 x.2).1.cells⟩
theorem ok_l12BentS : ct_l12BentS.Ok Try.prog := by
  rintro ⟨p, c⟩ H ⟨hbuf, hp⟩
  change c.buf.length ≤ 1048576 at hbuf
  change H[p]? = some c.cells at hp
  obtain ⟨va, vn, wa, wn, G, ⟨g1, g2, g3, g4⟩, -, ok⟩ := made_l12Bent hbuf hp
  obtain ⟨s1, s2⟩ := g4.sl
  have hpl := (List.getElem?_eq_some_iff.1 hp).1
  refine OkH.of_self fun hB => OkH.weak ok ?_
  refine weak_seal H.length (Nat.le_refl _) ?_ (.cons ?_ .nil)
  · rw [take_cur hpl g2 g1 g3]
    exact (selfB_set hB (curB _)) H.length (by simp) G
  · exact .cons s1 (.cons s2 .nil)
@[simp] def ct_BlurS : Ct := ⟨20, Strc, fun x => szStrc x ≤ 1048576 ∧ x.nodes.length ≤ 10 ∧ (x.nodes = [] ∨ structB (nvars x) x = true), fun x => [encStrc x], fun x => encStrc (blurS x)⟩
theorem ok_BlurS : ct_BlurS.Ok Try.prog := by
  rintro x ⟨h1, h2, h3⟩
  obtain ⟨a, d, els, P, Q, N, hk, -, hNa, hNx, hNc, -⟩ := made_Blur x h1 h2 h3
  refine Ok.of_okH hk ?_
  have m1 := hNx.lend hNa
  have m2 : lendC (fun _ _ => true) N 20 (.slref d 0 (blurS x).next.length (blurS x).next.length) = some (encL 1 encInt (blurS x).next) := by simp [lendC, hNc]
  simp only [lend, lendCs, m1, m2]
  rfl
def pair16 (c : Cur) : Cur × Strc × Strc :=
  if (drawY c 3).1.below 4 = 0 then ((d12 (drawY c 3).1.step).1, strcOf (drawH c 3), (d12 (drawY c 3).1.step).2)
  else if (drawY c 3).1.below 4 = 1 then ((drawY c 3).1.step, blurS (strcOf (drawH c 3)), strcOf (drawH c 3))
  else if (drawY c 3).1.below 4 = 2 then ((d12 (drawY c 3).1.step).1, (d12 (drawY c 3).1.step).2, blurS (strcOf (drawH c 3)))
  else ((drawY c 3).1.step, strcOf (drawH c 3), blurS (strcOf (drawH c 3)))
theorem drawY_buf (c : Cur) : (drawY c 3).1.buf = c.buf := by
  obtain ⟨-, a2, -⟩ := drawA_ok c.step (drawN c)
  obtain ⟨-, b2, -⟩ := drawB_ok (drawN c) (drawX c).1 3
  exact b2.trans a2
def code_spec_l16Pair : F := ⟨31,[.cell 2 true 2,.cell 2 true 3],.seq (.reg [⟨some 2,.alloc [(.sl .nil 0 []),(.sl .nil 0 [])],none⟩,⟨some 3,.alloc [(.sl .nil 0 []),(.sl .nil 0 [])],none⟩]) (.seq (.reg [⟨some 6,.mov (.t 0),none⟩,⟨some 7,.call 45 [.t 6,(.k (.int .i64 3))],none⟩,⟨some 4,.alloc [(.sl .nil 0 []),(.sl .nil 0 [])],none⟩,⟨none,.store 2 (.t 4) (.t 7),none⟩]) (.seq (.reg [⟨some 8,.load 2 true (.t 4),none⟩,⟨some 9,.call 46 [.t 8],none⟩,⟨some 5,.alloc [(.sl .nil 0 []),(.sl .nil 0 [])],none⟩,⟨none,.store 2 (.t 5) (.t 9),none⟩]) (.seq (.seq (.reg [⟨some 10,.mov (.t 0),none⟩,⟨some 11,.call 39 [.t 10,(.k (.int .i64 4))],none⟩]) (.block 0 (.seq (.reg [⟨some 13,.bin .eql (.t 11) (.k (.int .i64 0)),none⟩,⟨some 12,.mov (.t 13),none⟩]) (.cond (.t 12) (.seq (.dreg [false,false,false,true,true] [false,false,true,false,false] [⟨some 14,.load 2 true (.t 5),none⟩,⟨some 15,.mov (.t 0),none⟩,⟨some 16,.call 47 [.t 15,(.k (.int .i64 3))],none⟩,⟨none,.store 2 (.t 2) (.t 14),none⟩,⟨none,.store 2 (.t 3) (.t 16),none⟩]) (.ret)) (.seq (.reg [⟨some 18,.bin .eql (.t 11) (.k (.int .i64 1)),none⟩,⟨some 17,.mov (.t 18),none⟩]) (.cond (.t 17) (.seq (.dreg [false,false,false,false,true] [false,true,false,false,false] [⟨some 19,.load 2 true (.t 5),none⟩,⟨some 20,.call 20 [.t 19],none⟩,⟨some 21,.load 2 true (.t 5),none⟩,⟨none,.store 2 (.t 2) (.t 20),none⟩,⟨none,.store 2 (.t 3) (.t 21),none⟩]) (.ret)) (.seq (.reg [⟨some 23,.bin .eql (.t 11) (.k (.int .i64 2)),none⟩,⟨some 22,.mov (.t 23),none⟩]) (.cond (.t 22) (.seq (.dreg [false,false,false,true,true,true] [false,true,false,true,false,false] [⟨some 24,.mov (.t 0),none⟩,⟨some 25,.call 47 [.t 24,(.k (.int .i64 3))],none⟩,⟨some 26,.load 2 true (.t 5),none⟩,⟨some 27,.call 20 [.t 26],none⟩,⟨none,.store 2 (.t 2) (.t 25),none⟩,⟨none,.store 2 (.t 3) (.t 27),none⟩]) (.ret)) (.skip))))))))) (.seq (.dreg [false,false,false,true,true] [false,false,true,false,false] [⟨some 28,.load 2 true (.t 5),none⟩,⟨some 29,.load 2 true (.t 5),none⟩,⟨some 30,.call 20 [.t 29],none⟩,⟨none,.store 2 (.t 2) (.t 28),none⟩,⟨none,.store 2 (.t 3) (.t 30),none⟩]) (.ret)))))⟩
theorem fok_spec_l16Pair : FOk Try.prog 37 code_spec_l16Pair := fok Try.func37 (by kernel_rfl)
@[simp] def ct_l16Pair : CtH := ⟨37, Nat × Cur, fun x H => x.2.buf.length ≤ 1048576 ∧ H[x.1]? = some x.2.cells, fun x => [.pbox x.1 0], fun x _ => .tup [encStrc (pair16 x.2).2.1, encStrc (pair16 x.2).2.2], fun x H => H.set x.1 (pair16 x.2).1.cells⟩
set_option maxHeartbeats 4000000 in
set_option maxRecDepth 100000 in
theorem ok_l16Pair : ct_l16Pair.Ok Try.prog := by
  rintro ⟨p, c⟩ H ⟨hbuf, hp⟩
  change c.buf.length ≤ 1048576 at hbuf
  change H[p]? = some c.cells at hp
  have hpl : p < H.length := (List.getElem?_eq_some_iff.1 hp).1
  have hT : TabOk Try.prog _ := tab_h ok_l7DrawS (tab_h ok_below (tab_h ok_l12DrawS (tab_cons ok_sStructureOf (tab_cons ok_BlurS tab_nil))))
  have hH : H = H.set p c.cells := (set_same hp).symm
  have hgp : ∀ x T, (H.set p x ++ T)[p]? = some x := fun x T => by rw [List.getElem?_append_left (by simpa using hpl), List.getElem?_set_self hpl]
  have hsp : ∀ x y T, (H.set p x ++ T).set p y = H.set p y ++ T := fun x y T => by rw [List.set_append_left _ _ (by simpa using hpl), List.set_set]
  have hsl : ∀ x : Blk, (H.set p x).length = H.length := fun x => by simp
  have hga : ∀ x T k, (H.set p x ++ T)[H.length + k]? = T[k]? := fun x T k => get_at (hsl x)
  have hsa : ∀ x T k y, (H.set p x ++ T).set (H.length + k) y = H.set p x ++ T.set k y := fun x T k y => set_at (hsl x)
  have hg0 : ∀ x T, (H.set p x ++ T)[H.length]? = T[0]? := fun x T => hga x T 0
  have hs0 : ∀ x T y, (H.set p x ++ T).set H.length y = H.set p x ++ T.set 0 y := fun x T y => hsa x T 0 y
  have hyb : (drawY c 3).1.buf.length ≤ 1048576 := by rw [drawY_buf]; exact hbuf
  have hysb : (drawY c 3).1.step.buf.length ≤ 1048576 := hyb
  obtain ⟨hl1, hl2⟩ := drawH_len c 3
  have hsz : szHeap (drawH c 3) ≤ 1048576 := by change (drawH c 3).vars.length + (drawH c 3).next.length ≤ _; omega
  have hsh := strcOf_sh (drawH_fit c) hl1 hl2
  have h1 := (sh12_sz hsh).1
  have h2 : (strcOf (drawH c 3)).nodes.length ≤ 10 := by have := hsh.n; omega
  have h3 := strcOf_blur (drawH_fit c)
  have hD : pair16 c = if (drawY c 3).1.below 4 = 0 then ((d12 (drawY c 3).1.step).1, strcOf (drawH c 3), (d12 (drawY c 3).1.step).2)
    else if (drawY c 3).1.below 4 = 1 then ((drawY c 3).1.step, blurS (strcOf (drawH c 3)), strcOf (drawH c 3))
    else if (drawY c 3).1.below 4 = 2 then ((d12 (drawY c 3).1.step).1, (d12 (drawY c 3).1.step).2, blurS (strcOf (drawH c 3)))
    else ((drawY c 3).1.step, strcOf (drawH c 3), blurS (strcOf (drawH c 3))) := rfl
  refine OkH.of_self fun hB => ?_
  have fin : ∃ X, OkH Try.prog 37 [.pbox p 0] H (.tup [encStrc (pair16 c).2.1, encStrc (pair16 c).2.2]) (H.set p (pair16 c).1.cells ++ X) := by
    refine ⟨[.nrow, .nrow, .cells [encL 4 encNode (pair16 c).2.1.nodes, encL 1 encInt (pair16 c).2.1.next], .nrow, .nrow, .cells [encL 4 encNode (pair16 c).2.2.nodes, encL 1 encInt (pair16 c).2.2.next]], ?_⟩
    generalize pair16 c = R at *
    refine OkH.of_cw fok_spec_l16Pair ?_
    simp only [code_spec_l16Pair, frame, List.length_cons, List.length_nil, List.replicate, Nat.reduceSub, Nat.reduceAdd, List.cons_append, List.nil_append]
    refine cw_seq (go_ok hT ?_); simp [List.replicate, getHk, getH0, setHk, setH0, Nat.add_assoc]
    rw [hH]
    simp only [hsl]
    refine cw_seq (go_ok hT ?_); simp [List.replicate, hgp, hsp, hbuf, hsl, hga, hsa, hg0, hs0, Nat.add_assoc, cells_inj]
    refine ⟨c, hbuf, rfl, ?_⟩
    refine cw_seq (go_ok hT ?_); simp [List.replicate, hgp, hsp, hsl, hga, hsa, hg0, hs0, Nat.add_assoc, hsz]
    generalize strcOf (drawH c 3) = s at *
    generalize drawH c 3 = h at *
    generalize (drawY c 3).1 = e at *
    have hx4 := below_lt e (n := 4) (by omega)
    refine cw_seq (cw_seq (go_ok hT ?_)); simp [List.replicate, hgp, hsp, hsl, hga, hsa, hg0, hs0, Nat.add_assoc, cells_inj, hyb]
    generalize hk : e.below 4 = k at *
    have done : ∀ t X, All2 (SlV (H.length + 6) (H.set p R.1.cells ++ (.nrow :: .nrow :: .cells [encL 4 encNode R.2.1.nodes, encL 1 encInt R.2.1.next] :: .nrow :: .nrow :: .cells [encL 4 encNode R.2.2.nodes, encL 1 encInt R.2.2.next] :: X))) t (slots 31 [(2, .pbox (H.length + 2) 0), (3, .pbox (H.length + 5) 0)]) → ∃ st', Weak H.length ⟨t, H.set p R.1.cells ++ (.nrow :: .nrow :: .cells [encL 4 encNode R.2.1.nodes, encL 1 encInt R.2.1.next] :: .nrow :: .nrow :: .cells [encL 4 encNode R.2.2.nodes, encL 1 encInt R.2.2.next] :: X)⟩ st' ∧
        retH [Res.cell 2 true 2, Res.cell 2 true 3] (AV.tup [encStrc R.2.1, encStrc R.2.2]) (H.set p R.1.cells ++ [.nrow, .nrow, .cells [encL 4 encNode R.2.1.nodes, encL 1 encInt R.2.1.next], .nrow, .nrow, .cells [encL 4 encNode R.2.2.nodes, encL 1 encInt R.2.2.next]]) .ret st' := fun t X ht => by
      have hw := weak_sealH (n0 := H.length) (H := H.set p R.1.cells) (X := .nrow :: .nrow :: .cells [encL 4 encNode R.2.1.nodes, encL 1 encInt R.2.1.next] :: .nrow :: .nrow :: .cells [encL 4 encNode R.2.2.nodes, encL 1 encInt R.2.2.next] :: X)
        (X' := [.nrow, .nrow, .cells [encL 4 encNode R.2.1.nodes, encL 1 encInt R.2.1.next], .nrow, .nrow, .cells [encL 4 encNode R.2.2.nodes, encL 1 encInt R.2.2.next]]) (t := t) (t' := slots 31 [(2, .pbox (H.length + 2) 0), (3, .pbox (H.length + 5) 0)]) 6 (selfB_set hB (curB _)) (by simp) (by simp) (by simpa using ht)
      refine ⟨_, hw, ?_⟩
      simp [retH, List.replicate, hga, encStrc]
    have hT0 : TabOk Try.prog _ := tab_cons ok_BlurS tab_nil
    by_cases k0 : k = 0
    · rw [if_pos k0] at hD
      refine cw_block (goC_ok hT p ?_)
      simp [List.replicate, hgp, hsp, hga, hsa, hg0, hs0, k0, isH, needs1, hpl, hysb]
      refine ⟨e.step, hysb, rfl, ?_⟩
      subst hD
      exact done _ _ (by simp [List.replicate, encStrc, encHeap])
    by_cases k1 : k = 1
    · rw [if_neg k0, if_pos k1] at hD
      refine cw_block (cw_seq (go_ok hT0 ?_))
      simp [List.replicate, k1]
      refine cw_cond (b := false) (by simp [Opd.ev]) (fun h => by cases h) (fun _ => ?_)
      refine cw_seq (go_ok hT0 ?_)
      simp [List.replicate, k1]
      refine cw_cond (b := true) (by simp [Opd.ev]) (fun _ => ?_) (fun h => by cases h)
      refine cw_seq (cw_dreg8K hT0 (H.set p e.step.cells) _ [none, none, none, some 2, some 5] [[true, true, false, true, true, false, true, true, true, true, true, true], [true, true, false, true, true, false, true, true, true, true, true, true], [true, true, false, true, true, false, true, true, true, true, true, true], [true, true, true, true, true, false, true, true, true, true, true, true], [true, true, false, true, true, true, true, true, true, true, true, true]] (by rfl) ?_)
      simp [List.replicate, hgp, hsp, hga, hsa, hg0, hs0, k1, h1, h2, h3]
      refine go_ok hT0 ?_
      simp [List.replicate]
      subst hD
      exact done _ _ (by simp [List.replicate, encStrc, encHeap])
    by_cases k2 : k = 2
    · rw [if_neg k0, if_neg k1, if_pos k2] at hD
      refine cw_block (goC_ok hT p ?_)
      simp [List.replicate, hgp, hsp, hga, hsa, hg0, hs0, k2, isH, needs1, hpl, hysb, h1, h2, h3]
      refine ⟨e.step, hysb, rfl, ?_⟩
      subst hD
      exact done _ _ (by simp [List.replicate, encStrc, encHeap])
    · rw [if_neg k0, if_neg k1, if_neg k2] at hD
      refine cw_block (go_ok hT ?_)
      simp [List.replicate, hgp, hsp, hga, hsa, hg0, hs0, k0, k1, k2]
      refine cw_seq (goC_ok hT p ?_)
      simp [List.replicate, hgp, hsp, hga, hsa, hg0, hs0, isH, needs1, hpl, hysb, h1, h2, h3]
      refine go_ok hT0 ?_
      simp [List.replicate]
      subst hD
      exact done _ _ (by simp [List.replicate, encStrc, encHeap])
  obtain ⟨X, ok⟩ := fin
  refine OkH.weakT ok ?_ (by simp [encStrc]) (by simp [encStrc])
  have hw := weak_sealH (n0 := H.length) (H := H.set p (pair16 c).1.cells) (X := X) (X' := []) (t := [encStrc (pair16 c).2.1, encStrc (pair16 c).2.2]) (t' := [encStrc (pair16 c).2.1, encStrc (pair16 c).2.2]) 0 (selfB_set hB (curB _)) (by simp) .nil (by simp [encStrc])
  rw [List.append_nil] at hw
  exact hw
def code_spec_DrawFindEmbedding : F := ⟨14,[.cell 2 true 2,.cell 2 true 3],.seq (.reg [⟨some 2,.alloc [(.sl .nil 0 []),(.sl .nil 0 [])],none⟩,⟨some 3,.alloc [(.sl .nil 0 []),(.sl .nil 0 [])],none⟩]) (.seq (.reg [⟨some 7,.mov (.t 0),none⟩,⟨some 8,.call 36 [.t 7],none⟩,⟨some 9,.call 37 [.t 8],none⟩,⟨some 6,.mov (.t 9),none⟩,⟨some 10,.extr (.t 6) 0,none⟩,⟨some 11,.extr (.t 6) 1,none⟩,⟨some 4,.alloc [(.sl .nil 0 []),(.sl .nil 0 [])],none⟩,⟨some 5,.alloc [(.sl .nil 0 []),(.sl .nil 0 [])],none⟩,⟨none,.store 2 (.t 4) (.t 10),none⟩,⟨none,.store 2 (.t 5) (.t 11),none⟩]) (.seq (.dreg [false,false,false,true] [false,false,false,false] [⟨some 12,.load 2 true (.t 4),none⟩,⟨some 13,.load 2 true (.t 5),none⟩,⟨none,.store 2 (.t 2) (.t 12),none⟩,⟨none,.store 2 (.t 3) (.t 13),none⟩]) (.ret)))⟩
theorem fok_spec_DrawFindEmbedding : FOk Try.prog 8 code_spec_DrawFindEmbedding := fok Try.func8 (by kernel_rfl)
def drawF1 (bs : List UInt8) : Strc := (pair16 (cur0 bs)).2.1
def drawF2 (bs : List UInt8) : Strc := (pair16 (cur0 bs)).2.2
@[simp] def ct_DrawFindEmbedding : Ct := ⟨8, List UInt8, fun bs => bs.length ≤ 1048576, fun bs => [encL 1 encU bs], fun bs => .tup [encStrc (drawF1 bs), encStrc (drawF2 bs)]⟩
set_option maxHeartbeats 4000000 in
set_option maxRecDepth 100000 in
theorem ok_DrawFindEmbedding : ct_DrawFindEmbedding.Ok Try.prog := by
  intro bs hbs
  change List UInt8 at bs
  change bs.length ≤ 1048576 at hbs
  have hT : TabOk Try.prog _ := tab_h ok_l1New (tab_h ok_l16Pair tab_nil)
  refine Ok.of_cw fok_spec_DrawFindEmbedding ?_
  simp only [code_spec_DrawFindEmbedding, frame, List.length_cons, List.length_nil, List.replicate, Nat.reduceSub, Nat.reduceAdd, List.cons_append, List.nil_append]
  refine cw_seq (go_ok hT ?_); simp [List.replicate]
  refine cw_seq (go_ok hT ?_); simp [List.replicate, hbs, cells_inj]
  refine ⟨cur0 bs, hbs, rfl, ?_⟩
  have e1 : drawF1 bs = (pair16 (cur0 bs)).2.1 := rfl
  have e2 : drawF2 bs = (pair16 (cur0 bs)).2.2 := rfl
  simp only [ct_DrawFindEmbedding, e1, e2]
  generalize pair16 (cur0 bs) = R at *
  refine cw_seq (cw_dreg8K hT [] _ [none, none, some 2, some 5] [[true, true, false, true, true, false, true, true, true, true, true, true, true], [true, true, false, true, true, false, true, true, true, true, true, true, true], [true, true, true, true, true, false, true, true, true, true, true, true, true], [true, true, false, true, true, true, true, true, true, true, true, true, true]] (by rfl) ?_)
  simp [List.replicate]
  refine go_ok hT ?_
  simp [List.replicate]
  exact ⟨rfl, rfl⟩
end Go.Vm
