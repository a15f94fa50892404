/- Draws of structures for consistency. No condition. -/
import Derived.Test.YtfelkhckpfjgjaaGreatTJD
import Derived.Test.YtfelkhckpfjgjaaGreatTGL
import Derived.Test.YtfelkhckpfjgjaaGreatTGG
import Derived.Test.YtfelkhckpfjgjaaGreatTGC
set_option linter.unusedSimpArgs false
set_option linter.unusedVariables false
namespace Go.Vm
open Go.Proofs
theorem sg_made {A N : List Blk} {L a d : Nat} {P Q : Nat → Nat} {els : List AV} {s : Strc} (hA : L ≤ A.length)
    (hNa : N[a]? = some (.row true 57 4 els)) (hNx : NIx N els s.nodes P Q) (hNc : N[d]? = some (.row true 3 1 (s.next.map encInt))) (hNo : ¬ NIx.own s.nodes.length P Q d) :
    SG L (A.length + a) (A.length + d) (fun i => A.length + P i) (fun i => A.length + Q i) (A ++ N.map (shB A.length)) (shL A.length els) s := by
  have get : ∀ j k, N[j]? = some k → (A ++ N.map (shB A.length))[A.length + j]? = some (shB A.length k) := fun j k hk => by
    rw [getHk, List.getElem?_map, hk]; rfl
  refine ⟨by omega, by rw [get _ _ hNa]; rfl, hNx.sh A, fun i _ => ⟨by omega, by omega⟩, by omega, ?_, ?_⟩
  · rw [get _ _ hNc]
    show some (Blk.row true _ 1 (shL _ _)) = _
    rw [shL_ints]
  · rintro ⟨i, hi, e⟩
    simp only at e
    exact hNo ⟨i, hi, by omega⟩
theorem Stn.mono {L0 L1 : Nat} {G0 G1 : List Blk} {v w : AV} {s : Strc} (h : Stn L1 G1 v w s) (hL : L0 ≤ L1) (hG : ∀ j, L1 ≤ j → j < G1.length → G0[j]? = G1[j]?) (hl : G1.length ≤ G0.length) : Stn L0 G0 v w s :=
  fun G' h' => h G' fun j h1 h2 => by rw [h' j (by omega) (by omega), hG j h1 h2]
theorem Wrt.mono {L0 L1 : Nat} {G0 G1 : List Blk} {a n d m : Nat} {s : Strc} (h : Wrt L1 G1 a n d m s) (hL : L0 ≤ L1) (hG : ∀ j, L1 ≤ j → j < G1.length → G0[j]? = G1[j]?) (hl : G1.length ≤ G0.length) : Wrt L0 G0 a n d m s := by
  obtain ⟨e1, e2, ⟨els0, r1, r2, r3⟩, h⟩ := h
  have lt : ∀ {j k}, G1[j]? = some k → j < G1.length := fun e => (List.getElem?_eq_some_iff.1 e).1
  have up : ∀ {q : Nat} {x R : Blk} {v w : AV} {t : Strc}, G1[q]? = some x → L1 ≤ q → Stn L1 (G1.set q R) v w t → Stn L0 (G0.set q R) v w t := fun {q x R v w t} hx hq k => by
    have hql := lt hx
    refine k.mono hL (fun j h1 h2 => ?_) (by simpa using hl)
    rw [List.length_set] at h2
    by_cases hj : q = j
    · subst hj; rw [List.getElem?_set_self (by omega), List.getElem?_set_self hql]
    · rw [get_set_ne hj, get_set_ne hj]; exact hG j h1 h2
  refine ⟨e1, e2, ⟨els0, (hG a r3 (lt r1)).trans r1, r2, by omega⟩, fun hp => ?_⟩
  obtain ⟨⟨els, P, q, o, l, k, sh, mn, rs, b1, b2, b3, b4, b5, b6, b7, b8, b9⟩, ns, c1, c2, c3, c4, c5⟩ := h hp
  exact ⟨⟨els, P, q, o, l, k, sh, mn, rs, (hG a b6 (lt b1)).trans b1, b2, b3, (hG q b7 (lt b4)).trans b4, b5, by omega, by omega, fun x => up b4 b7 (b8 x), fun x => up b1 b6 (b9 x)⟩, ns, c1, (hG d c4 (lt c2)).trans c2, c3, by omega, fun x => up c2 c4 (c5 x)⟩
def H03 : List Blk := [.nrow, .nrow, .cells [.slref 0 0 0 0, .slref 1 0 0 0]]
theorem drawH_sh (c : Cur) : Sh12 (strcOf (drawH c 3)) := by
  obtain ⟨hl1, hl2⟩ := drawH_len c 3
  exact strcOf_sh (drawH_fit c) hl1 hl2
set_option maxHeartbeats 8000000 in
set_option maxRecDepth 100000 in
theorem made_HO (bs : List UInt8) (hbs : bs.length ≤ 1048576) : ∃ (va vn wa wn : Nat) (L : List Blk),
    Stn 3 (H03 ++ L) (.slref va 0 vn vn) (.slref wa 0 wn wn) (drawHO bs) ∧ Wrt 3 (H03 ++ L) va vn wa wn (drawHO bs) ∧ OkH Tryz.prog 8 [encL 1 encU bs] H03 (.tup [.int .i64 3, .agg [.slref va 0 vn vn, .slref wa 0 wn wn]]) (H03 ++ L) := by
  have hb1 : (cur0 bs).step.buf.length ≤ 1048576 := hbs
  have hb0 : (cur0 bs).buf.length ≤ 1048576 := hbs
  have hE : drawHO bs = if (cur0 bs).below 2 = 0 then strcOf (drawH (cur0 bs).step 3) else (bent12 (cur0 bs).step).2 := rfl
  obtain ⟨hl1, hl2⟩ := drawH_len (cur0 bs).step 3
  have hsz : szHeap (drawH (cur0 bs).step 3) ≤ 1048576 := by change (drawH _ 3).vars.length + (drawH _ 3).next.length ≤ _; omega
  have hT : TabOk Tryz.prog _ := tab_h ok_l1New (tab_h ok_once tab_nil)
  rw [hE]
  by_cases g : (cur0 bs).below 2 = 0
  · simp only [g, if_true]
    obtain ⟨a0, d0, els0, P0, Q0, N, hk, hown, hNa, hNx, hNc, hNo⟩ := made_sStrc (drawH (cur0 bs).step 3) hsz
    have okN : CtN.Ok Tryz.prog ⟨13, Unit, fun _ => True, fun _ => [encHeap (drawH (cur0 bs).step 3)], fun _ => (.agg [.slref a0 0 (strcOf (drawH (cur0 bs).step 3)).nodes.length (strcOf (drawH (cur0 bs).step 3)).nodes.length, .slref d0 0 (strcOf (drawH (cur0 bs).step 3)).next.length (strcOf (drawH (cur0 bs).step 3)).next.length]), fun _ => N⟩ := ⟨fun _ _ => hk, fun _ _ => rfl, fun _ _ => hown⟩
    have hT2 : TabOk Tryz.prog _ := tab_h ok_l7Draw (tab_h (CtN.hok okN) tab_nil)
    have hsh := drawH_sh (cur0 bs).step
    generalize hS : strcOf (drawH (cur0 bs).step 3) = s at *
    have goal : ∃ va wa L, SG 3 va wa (fun i => 24 + P0 i) (fun i => 24 + Q0 i) (H03 ++ L) (shL 24 els0) s ∧ OkH Tryz.prog 8 [encL 1 encU bs] H03 (.tup [.int .i64 3, .agg [.slref va 0 s.nodes.length s.nodes.length, .slref wa 0 s.next.length s.next.length]]) (H03 ++ L) := by
      refine ⟨24 + a0, 24 + d0, [.nrow, .nrow, .cells [.slref (24 + a0) 0 s.nodes.length s.nodes.length, .slref (24 + d0) 0 s.next.length s.next.length], (drawY (cur0 bs).step 3).1.cells, .dead, .dead, .dead, .dead, .dead, .dead, .dead, .dead, .dead, .dead, .dead, .dead, .dead, .dead, .dead, .dead, .dead] ++ N.map (shB 24), ?_, ?_⟩
      · exact sg_made (L := 3) (A := [.nrow, .nrow, .cells [.slref 0 0 0 0, .slref 1 0 0 0], .nrow, .nrow, .cells [.slref (24 + a0) 0 s.nodes.length s.nodes.length, .slref (24 + d0) 0 s.next.length s.next.length], (drawY (cur0 bs).step 3).1.cells, .dead, .dead, .dead, .dead, .dead, .dead, .dead, .dead, .dead, .dead, .dead, .dead, .dead, .dead, .dead, .dead, .dead]) (by simp) hNa hNx hNc hNo
      refine OkH.of_cw fok_spec_DrawHeapOf ?_
      simp only [code_spec_DrawHeapOf, frame, List.length_cons, List.length_nil, List.replicate, Nat.reduceSub, Nat.reduceAdd, List.cons_append, List.nil_append]
      refine cw_seq (go_ok hT ?_); simp [List.replicate, H03]
      refine cw_seq (go_ok hT ?_); simp [List.replicate, hbs]
      refine cw_seq (cw_seq (go_ok hT ?_)); simp [List.replicate, cells_inj, hb0, g]
      refine go_ok hT2 ?_; simp [List.replicate, cells_inj, hb1]
      refine ⟨(cur0 bs).step, 3, rfl, by omega, hb1, rfl, rfl, ?_⟩
      refine ⟨_, weak_less (t' := slots 14 [(2, .int .i64 3), (3, .pbox 5 0)]) (H' := [.nrow, .nrow, .cells [.slref 0 0 0 0, .slref 1 0 0 0], .nrow, .nrow, .cells [.slref (24 + a0) 0 s.nodes.length s.nodes.length, .slref (24 + d0) 0 s.next.length s.next.length], (drawY (cur0 bs).step 3).1.cells, .dead, .dead, .dead, .dead, .dead, .dead, .dead, .dead, .dead, .dead, .dead, .dead, .dead, .dead, .dead, .dead, .dead] ++ N.map (shB 24)) (by simp) (by simp [List.replicate]), by simp [retH]⟩
    obtain ⟨va, wa, L, sg, ok⟩ := goal
    exact ⟨va, _, wa, _, L, sg.stn, sg.wrt (fun hp => by have := (hsh.r _ (List.getElem_mem hp)).2; omega) (fun hp => by rw [hsh.m]; exact Nat.mul_pos hp hp), ok⟩
  · simp only [g, if_false]
    obtain ⟨va, vn, wa, wn, L, g4, g5, ok⟩ := made_bentW (H := [.nrow, .nrow, .cells [.slref 0 0 0 0, .slref 1 0 0 0], .nrow, .nrow, .cells [.slref 3 0 0 0, .slref 4 0 0 0], (cur0 bs).step.cells]) (p := 6) (c := (cur0 bs).step) hb1 rfl
    have okB : CtH.Ok Tryz.prog ⟨43, Unit, fun _ H => H = [.nrow, .nrow, .cells [.slref 0 0 0 0, .slref 1 0 0 0], .nrow, .nrow, .cells [.slref 3 0 0 0, .slref 4 0 0 0], (cur0 bs).step.cells], fun _ => [.pbox 6 0], fun _ _ => .agg [.slref va 0 vn vn, .slref wa 0 wn wn], fun _ _ => .nrow :: .nrow :: .cells [.slref 0 0 0 0, .slref 1 0 0 0] :: .nrow :: .nrow :: .cells [.slref 3 0 0 0, .slref 4 0 0 0] :: (bent12 (cur0 bs).step).1.cells :: L⟩ := by
      intro x H' hH
      have hH : H' = _ := hH
      rw [hH]; exact ok
    have hT2 : TabOk Tryz.prog _ := tab_h okB tab_nil
    refine ⟨va, vn, wa, wn, [.nrow, .nrow, .cells [.slref va 0 vn vn, .slref wa 0 wn wn], (bent12 (cur0 bs).step).1.cells] ++ L, ?_, ?_, ?_⟩
    · refine g4.mono (by simp) (fun j h1 h2 => ?_) (by simp [H03])
      obtain ⟨k, rfl⟩ : ∃ k, j = k + 7 := ⟨j - 7, by simp at h1; omega⟩
      rfl
    · refine g5.mono (by simp) (fun j h1 h2 => ?_) (by simp [H03])
      obtain ⟨k, rfl⟩ : ∃ k, j = k + 7 := ⟨j - 7, by simp at h1; omega⟩
      rfl
    refine OkH.of_cw fok_spec_DrawHeapOf ?_
    simp only [code_spec_DrawHeapOf, frame, List.length_cons, List.length_nil, List.replicate, Nat.reduceSub, Nat.reduceAdd, List.cons_append, List.nil_append]
    refine cw_seq (go_ok hT ?_); simp [List.replicate, H03]
    refine cw_seq (go_ok hT ?_); simp [List.replicate, hbs]
    refine cw_seq (cw_seq (go_ok hT ?_)); simp [List.replicate, cells_inj, hb0, g]
    refine go_ok tab_nil ?_; simp [List.replicate]
    refine cw_seq (go_ok hT2 ?_); simp [List.replicate]
    refine go_ok tab_nil ?_; simp [List.replicate]
    exact ⟨_, Weak.refl _ _, by simp [retH]⟩
def code_spec_DrawIsConsistent : F := ⟨45,[.tmp 2,.cell 2 true 3],.seq (.reg [⟨some 2,.mov (.k (.int .i64 0)),none⟩,⟨some 3,.alloc [(.sl .nil 0 []),(.sl .nil 0 [])],none⟩]) (.seq (.reg [⟨some 8,.mov (.t 0),none⟩,⟨some 9,.call 8 [.t 8],none⟩,⟨some 7,.mov (.t 9),none⟩,⟨some 10,.extr (.t 7) 0,none⟩,⟨some 11,.extr (.t 7) 1,none⟩,⟨some 5,.alloc [(.sl .nil 0 []),(.sl .nil 0 [])],none⟩,⟨some 4,.mov (.t 10),none⟩,⟨none,.store 2 (.t 5) (.t 11),none⟩]) (.seq (.reg [⟨some 12,.mov (.t 0),none⟩,⟨some 13,.call 40 [.t 12],none⟩,⟨some 6,.mov (.t 13),none⟩]) (.seq (.seq (.reg [⟨some 14,.faddr 0 (.t 5),none⟩,⟨some 15,.load 1 false (.t 14),none⟩,⟨some 16,.len (.t 15),none⟩,⟨some 17,.bin .gtr (.t 16) (.k (.int .i64 0)),none⟩,⟨some 18,.mov (.t 17),none⟩,⟨some 19,.mov (.t 6),some (18,true)⟩,⟨some 20,.call 41 [.t 19,(.k (.int .i64 3))],some (18,true)⟩,⟨some 21,.pick (.t 18) (.t 20) (.k (.bool false)),none⟩]) (.cond (.t 21) (.seq (.reg [⟨some 22,.mov (.t 6),none⟩,⟨some 23,.call 55 [.t 22,(.k (.int .i64 3))],none⟩]) (.block 0 (.seq (.reg [⟨some 25,.bin .eql (.t 23) (.k (.int .i64 0)),none⟩,⟨some 24,.mov (.t 25),none⟩]) (.cond (.t 24) (.reg [⟨some 26,.faddr 0 (.t 5),none⟩,⟨some 27,.load 1 false (.t 26),none⟩,⟨some 28,.iaddr 4 (.t 27) (.k (.int .i64 0)),none⟩,⟨some 29,.faddr 1 (.t 28),none⟩,⟨some 30,.load 1 false (.t 29),none⟩,⟨some 31,.iaddr 1 (.t 30) (.k (.int .i64 0)),none⟩,⟨none,.store 1 (.t 31) (.k (.int .i64 0)),none⟩]) (.seq (.reg [⟨some 33,.bin .eql (.t 23) (.k (.int .i64 1)),none⟩,⟨some 32,.mov (.t 33),none⟩]) (.cond (.t 32) (.reg [⟨some 34,.faddr 0 (.t 5),none⟩,⟨some 35,.load 1 false (.t 34),none⟩,⟨some 36,.iaddr 4 (.t 35) (.k (.int .i64 0)),none⟩,⟨some 37,.faddr 2 (.t 36),none⟩,⟨none,.store 1 (.t 37) (.k (.int .i64 2)),none⟩]) (.seq (.reg [⟨some 39,.bin .eql (.t 23) (.k (.int .i64 2)),none⟩,⟨some 38,.mov (.t 39),none⟩]) (.cond (.t 38) (.reg [⟨some 40,.faddr 1 (.t 5),none⟩,⟨some 41,.load 1 false (.t 40),none⟩,⟨some 42,.iaddr 1 (.t 41) (.k (.int .i64 0)),none⟩,⟨none,.store 1 (.t 42) (.k (.int .i64 2)),none⟩]) (.skip))))))))) (.skip))) (.seq (.dreg [false,false,false,true] [false,false,false,false] [⟨some 43,.mov (.t 4),none⟩,⟨some 44,.load 2 true (.t 5),none⟩,⟨some 2,.mov (.t 43),none⟩,⟨none,.store 2 (.t 3) (.t 44),none⟩]) (.ret)))))⟩
theorem fok_spec_DrawIsConsistent : FOk Tryz.prog 22 code_spec_DrawIsConsistent := fok Tryz.func22 (by kernel_rfl)
def tl4 : C → C
  | .seq _ (.seq _ (.seq _ (.seq _ x))) => x
  | c => c
def drawCS (bs : List UInt8) : Strc :=
  if (drawHO bs).nodes = [] then drawHO bs
  else if (cur0 bs).below 3 = 0 then
    if (cur0 bs).step.below 3 = 0 then setN (drawHO bs) 0 fun y => ⟨y.vars, y.reach.set 0 0, y.shared, y.many⟩
    else if (cur0 bs).step.below 3 = 1 then setN (drawHO bs) 0 fun y => ⟨y.vars, y.reach, 2, y.many⟩
    else ⟨(drawHO bs).nodes, (drawHO bs).next.set 0 2⟩
  else drawHO bs
@[simp] def ct_DrawIsConsistent : Ct := ⟨22, List UInt8, fun bs => bs.length ≤ 1048576, fun bs => [encL 1 encU bs], fun bs => .tup [.int .i64 3, encStrc (drawCS bs)]⟩
set_option maxHeartbeats 8000000 in
set_option maxRecDepth 100000 in
theorem ok_DrawIsConsistent : ct_DrawIsConsistent.Ok Tryz.prog := by
  intro bs hbs
  change List UInt8 at bs
  change bs.length ≤ 1048576 at hbs
  have hb1 : (cur0 bs).step.buf.length ≤ 1048576 := hbs
  have hb0 : (cur0 bs).buf.length ≤ 1048576 := hbs
  obtain ⟨va, vn, wa, wn, L, g4, g5, ok⟩ := made_HO bs hbs
  obtain ⟨G, hG⟩ : ∃ G, G = H03 ++ L := ⟨_, rfl⟩
  rw [← hG] at g4 g5 ok
  have h2 : G[2]? = some (.cells [.slref 0 0 0 0, .slref 1 0 0 0]) := by rw [hG]; rfl
  have h2l := (List.getElem?_eq_some_iff.1 h2).1
  clear hG
  have okD : CtH.Ok Tryz.prog ⟨8, Unit, fun _ H => H = H03, fun _ => [encL 1 encU bs], fun _ _ => .tup [.int .i64 3, .agg [.slref va 0 vn vn, .slref wa 0 wn wn]], fun _ _ => G⟩ := by
    rintro _ _ rfl; exact ok
  have hT : TabOk Tryz.prog _ := tab_h okD (tab_h ok_l1New (tab_h ok_once (tab_h ok_below tab_nil)))
  have hc : drawCS bs = if (drawHO bs).nodes = [] then drawHO bs
    else if (cur0 bs).below 3 = 0 then
      if (cur0 bs).step.below 3 = 0 then setN (drawHO bs) 0 fun y => ⟨y.vars, y.reach.set 0 0, y.shared, y.many⟩
      else if (cur0 bs).step.below 3 = 1 then setN (drawHO bs) 0 fun y => ⟨y.vars, y.reach, 2, y.many⟩
      else ⟨(drawHO bs).nodes, (drawHO bs).next.set 0 2⟩
    else drawHO bs := rfl
  simp only [ct_DrawIsConsistent]
  generalize drawCS bs = z at *
  generalize drawHO bs = s at *
  have tail : ∀ (G' : List Blk), G'.length = G.length → G'[2]? = some (.cells [.slref 0 0 0 0, .slref 1 0 0 0]) → Stn 3 G' (.slref va 0 vn vn) (.slref wa 0 wn wn) z →
      CW Tryz.prog 0 (tl4 code_spec_DrawIsConsistent.c) (retP code_spec_DrawIsConsistent.rs (.tup [.int .i64 3, encStrc z])) ⟨slots 45 [(2, .int .i64 0), (3, .pbox 2 0), (4, .int .i64 3), (5, .pbox (G.length + 2) 0)], G' ++ [.nrow, .nrow, .cells [.slref va 0 vn vn, .slref wa 0 wn wn], .dead]⟩ := by
    intro G' e1 e2 e3
    simp only [code_spec_DrawIsConsistent, tl4]
    have e2l := (List.getElem?_eq_some_iff.1 e2).1
    have f1 : ∀ T k, (G' ++ T)[G.length + k]? = T[k]? := fun T k => by rw [← e1, getHk]
    have f2 : ∀ T, (G' ++ T)[2]? = some (.cells [.slref 0 0 0 0, .slref 1 0 0 0]) := fun T => by rw [List.getElem?_append_left e2l]; exact e2
    have f3 : ∀ T x, ((G' ++ T).set 2 x)[2]? = some x := fun T x => by rw [List.getElem?_set_self (by simp; omega)]
    obtain ⟨l1, l2⟩ := e3 ((G' ++ ([.nrow, .nrow, .cells [.slref va 0 vn vn, .slref wa 0 wn wn], .dead] : List Blk)).set 2 (.cells [.slref va 0 vn vn, .slref wa 0 wn wn])) (fun j h1 h2 => by
      rw [get_set_ne (by omega), List.getElem?_append_left h2])
    refine cw_seq (go_ok tab_nil ?_)
    simp [List.replicate, f1, f2]
    refine go_ok tab_nil ?_
    simp [List.replicate, f3, l1, l2]
    rfl
  refine Ok.of_cw fok_spec_DrawIsConsistent ?_
  simp only [code_spec_DrawIsConsistent, tl4] at tail
  simp only [code_spec_DrawIsConsistent, frame, List.length_cons, List.length_nil, List.replicate, Nat.reduceSub, Nat.reduceAdd, List.cons_append, List.nil_append]
  refine cw_seq (go_ok hT ?_); simp [List.replicate]
  refine cw_seq (go_ok hT ?_); simp [List.replicate, hbs, H03, getHk, getH0, setHk, setH0, Nat.add_assoc]
  refine cw_seq (go_ok hT ?_); simp [List.replicate, hbs, getHk, getH0, setHk, setH0, Nat.add_assoc]
  obtain ⟨e1, e2, ⟨els0, r1, r2, -⟩, h5⟩ := g5
  have ga : ∀ {q : Nat} {x : Blk}, G[q]? = some x → ∀ T : List Blk, (G ++ T)[q]? = some x := fun h T => by rw [List.getElem?_append_left (List.getElem?_eq_some_iff.1 h).1]; exact h
  have sa : ∀ {q : Nat} {x : Blk}, G[q]? = some x → ∀ (T : List Blk) y, (G ++ T).set q y = G.set q y ++ T := fun h T y => by rw [List.set_append_left _ _ (List.getElem?_eq_some_iff.1 h).1]
  have fr := ga r1
  by_cases h0 : s.nodes = []
  · have ev : vn = 0 := by rw [e1, h0]; rfl
    rw [if_pos h0] at hc
    subst ev
    have hels : els0 = [] := List.eq_nil_of_length_eq_zero r2
    rw [hels] at fr
    refine cw_seq (cw_seq (go_ok hT ?_)); simp [List.replicate, getHk, getH0, setHk, setH0, Nat.add_assoc, fr]
    refine go_ok tab_nil ?_; simp [List.replicate]
    exact cw_weak (weak_less (by simp) (by simp [List.replicate])) (tail G rfl h2 (hc ▸ g4))
  rw [if_neg h0] at hc
  have hp : 0 < s.nodes.length := List.length_pos_iff.2 h0
  have hvn : 0 < vn := by omega
  obtain ⟨⟨els, P, q, o, l, k, sh, mn, rs, b1, b2, b3, b4, b5, b6, b7, b8, b9⟩, ns, c1, c2, c3, c4, c5⟩ := h5 hp
  have hv0 : ¬ vn = 0 := by omega
  have hel : els.length = vn := by rw [b1] at r1; simp at r1; rw [r1]; exact r2
  obtain ⟨b5, b5'⟩ := b5
  have hro : o < rs.length := by omega
  have fa := ga b1
  have fq := ga b4
  have fd := ga c2
  have ml : 0 < els.length := (List.getElem?_eq_some_iff.1 b2).1
  have me : els[0] = .agg [P, .slref q o l k, .int .i64 sh, .int .i64 mn] := (List.getElem?_eq_some_iff.1 b2).2
  by_cases q0 : (cur0 bs).below 3 = 0
  · rw [if_pos q0] at hc
    refine cw_seq (cw_seq (go_ok hT ?_)); simp [List.replicate, getHk, getH0, setHk, setH0, Nat.add_assoc, fr, r2, hvn, hv0, cells_inj, hb0, q0]
    by_cases u0 : (cur0 bs).step.below 3 = 0
    · rw [if_pos u0] at hc
      refine go_ok hT ?_
      simp [List.replicate, getHk, getH0, setHk, setH0, Nat.add_assoc, u0, fa, fq, me, ml, hvn, cells_inj, hb1, hel, b5, b5', b3, hro, sa b4]
      refine ⟨⟨rs[o], by simp [hro]⟩, ?_⟩
      refine cw_weak (weak_less (by simp) (by simp [List.replicate])) (tail (G.set q (.row true 3 1 ((rs.map encInt).set o (.int .i64 0)))) (by simp) ?_ (hc ▸ b8 0))
      rw [get_set_ne (by omega)]; exact h2
    rw [if_neg u0] at hc
    by_cases u1 : (cur0 bs).step.below 3 = 1
    · rw [if_pos u1] at hc
      refine go_ok hT ?_
      simp [List.replicate, getHk, getH0, setHk, setH0, Nat.add_assoc, u0, u1, fa, fq, me, ml, hvn, cells_inj, hb1, hel, sa b1]
      refine cw_weak (weak_less (by simp) (by simp [List.replicate])) (tail (G.set va (.row true 57 4 (els.set 0 (.agg [P, .slref q o l k, .int .i64 2, .int .i64 mn])))) (by simp) ?_ (hc ▸ b9 2))
      rw [get_set_ne (by omega)]; exact h2
    rw [if_neg u1] at hc
    have u2 : (cur0 bs).step.below 3 = 2 := by have := below_lt (cur0 bs).step (n := 3) (by omega); omega
    refine go_ok hT ?_
    simp [List.replicate, getHk, getH0, setHk, setH0, Nat.add_assoc, u0, u1, u2, fd, hvn, cells_inj, hb1, c1, c3, sa c2]
    refine cw_weak (weak_less (by simp) (by simp [List.replicate])) (tail (G.set wa (.row true 3 1 ((ns.map encInt).set 0 (.int .i64 2)))) (by simp) ?_ (hc ▸ c5 2))
    rw [get_set_ne (by omega)]; exact h2
  · rw [if_neg q0] at hc
    refine cw_seq (cw_seq (go_ok hT ?_)); simp [List.replicate, getHk, getH0, setHk, setH0, Nat.add_assoc, fr, r2, hvn, hv0, cells_inj, hb0, q0]
    refine go_ok tab_nil ?_; simp [List.replicate]
    exact cw_weak (weak_less (by simp) (by simp [List.replicate])) (tail G rfl h2 (hc ▸ g4))
end Go.Vm
namespace Go.Vm
open Go.Proofs
inductive Rch (e : Nat → Nat → Prop) (i : Nat) : Nat → Prop where
  | one {y : Nat} (h : e i y) : Rch e i y
  | more {x y : Nat} (h : Rch e i x) (g : e x y) : Rch e i y
def edgeG (s : Strc) (v : Int) (x y : Nat) : Prop := x < s.nodes.length ∧ y < s.nodes.length ∧ v ≤ nextOf s x y
theorem rch_lt {s : Strc} {v : Int} {i j : Nat} (h : Rch (edgeG s v) i j) : j < s.nodes.length := by
  cases h with
  | one h => exact h.2.1
  | more _ g => exact g.2.1
noncomputable def rchB (s : Strc) (v : Int) (i j : Nat) : Bool := @decide (Rch (edgeG s v) i j) (Classical.propDecidable _)
theorem rchB_iff {s : Strc} {v : Int} {i j : Nat} : (rchB s v i j = true) = Rch (edgeG s v) i j := by unfold rchB; exact propext (@decide_eq_true_iff _ (Classical.propDecidable _))
theorem rchB_not {s : Strc} {v : Int} {i j : Nat} : (rchB s v i j = false) = ¬ Rch (edgeG s v) i j := by unfold rchB; exact propext (@decide_eq_false_iff_not _ (Classical.propDecidable _))
noncomputable def pathT (s : Strc) (i j : Int) : Int :=
  if inN s i ∧ inN s j then
    if rchB s 2 i.toNat j.toNat = true then 2
    else if i = j ∧ sameT s i = 2 then 2
    else if rchB s 1 i.toNat j.toNat = true then 1
    else if i = j then 1 else 0
  else 1
theorem pathT_truth (s : Strc) (i j : Int) : isTruth (pathT s i j) = true := by
  unfold pathT
  (repeat' split) <;> simp [isTruth]
def mx (a b : Int) : Int := if a ≤ b then b else a
def mn (a b : Int) : Int := if a ≤ b then a else b
def upd1 (s : Strc) (a b : Nat) (best : List Int) : List Int := best.set b (mx (best.getD b 0) (mn (best.getD a 0) (nextOf s a b)))
def updB (s : Strc) (a : Nat) : Nat → List Int → List Int
  | 0, best => best
  | b + 1, best => upd1 s a b (updB s a b best)
def updA (s : Strc) : Nat → List Int → List Int
  | 0, best => best
  | a + 1, best => updB s a s.nodes.length (updA s a best)
def rounds (s : Strc) : Nat → List Int → List Int
  | 0, best => best
  | r + 1, best => updA s s.nodes.length (rounds s r best)
def best0 (s : Strc) (i : Nat) (n : Nat) : List Int := (List.range n).map fun b => nextOf s i (b : Nat)
def rowT0 (s : Strc) (i : Nat) : List Int := rounds s s.nodes.length (best0 s i s.nodes.length)
def rowP (s : Strc) (i : Nat) : List Int := (rowT0 s i).set i (mx ((rowT0 s i).getD i 0) (sameT s i))
@[simp] theorem upd1_len (s : Strc) (a b : Nat) (l : List Int) : (upd1 s a b l).length = l.length := by simp [upd1]
@[simp] theorem updB_len (s : Strc) (a : Nat) : ∀ (b : Nat) (l : List Int), (updB s a b l).length = l.length
  | 0, _ => rfl
  | b + 1, l => by simp [updB, updB_len s a b l]
@[simp] theorem updA_len (s : Strc) : ∀ (a : Nat) (l : List Int), (updA s a l).length = l.length
  | 0, _ => rfl
  | a + 1, l => by simp [updA, updA_len s a l]
@[simp] theorem rounds_len (s : Strc) : ∀ (r : Nat) (l : List Int), (rounds s r l).length = l.length
  | 0, _ => rfl
  | r + 1, l => by simp [rounds, rounds_len s r l]
@[simp] theorem best0_len (s : Strc) (i n : Nat) : (best0 s i n).length = n := by simp [best0]
theorem best0_succ (s : Strc) (i n : Nat) : best0 s i (n + 1) = best0 s i n ++ [nextOf s i (n : Nat)] := by simp [best0, List.range_succ]
@[simp] theorem rowT0_len (s : Strc) (i : Nat) : (rowT0 s i).length = s.nodes.length := by simp [rowT0]
@[simp] theorem rowP_len (s : Strc) (i : Nat) : (rowP s i).length = s.nodes.length := by simp [rowP]
def At (v : Int) (l : List Int) (b : Nat) : Prop := b < l.length ∧ v ≤ l.getD b 0
theorem at_upd {s : Strc} {v : Int} {a b : Nat} {l : List Int} (c : Nat) (ha : a < l.length) : At v (upd1 s a b l) c ↔ At v l c ∨ (c = b ∧ b < l.length ∧ At v l a ∧ v ≤ nextOf s a b) := by
  unfold At upd1
  simp only [List.length_set]
  by_cases hcb : b = c
  · subst hcb
    by_cases hb : b < l.length
    · simp only [List.getD_eq_getElem?_getD, List.getElem?_set_self hb, Option.getD_some, hb, ha, true_and]
      unfold mx mn
      constructor
      · intro h
        (repeat' split at h) <;> omega
      · intro h
        (repeat' split) <;> omega
    · simp [hb]
  · simp only [List.getD_eq_getElem?_getD, List.getElem?_set_ne hcb]
    constructor
    · intro h; exact .inl h
    · rintro (h | h)
      · exact h
      · exact absurd h.1.symm hcb
theorem at_sound {s : Strc} {v : Int} {i : Nat} {l : List Int} (hl : l.length = s.nodes.length) (h : ∀ c, At v l c → Rch (edgeG s v) i c) {a b : Nat} (ha : a < s.nodes.length) :
    ∀ c, At v (upd1 s a b l) c → Rch (edgeG s v) i c := by
  intro c hc
  rcases (at_upd c (by omega)).1 hc with hc | ⟨rfl, hb, h1, h2⟩
  · exact h c hc
  · exact .more (h a h1) ⟨ha, by omega, h2⟩
theorem updB_sound {s : Strc} {v : Int} {i a : Nat} (ha : a < s.nodes.length) : ∀ (b : Nat) {l : List Int}, l.length = s.nodes.length → (∀ c, At v l c → Rch (edgeG s v) i c) → ∀ c, At v (updB s a b l) c → Rch (edgeG s v) i c
  | 0, _, _, h => h
  | b + 1, l, hl, h => at_sound (by simp [hl]) (updB_sound ha b hl h) ha
theorem updA_sound {s : Strc} {v : Int} {i : Nat} : ∀ (a : Nat), a ≤ s.nodes.length → ∀ {l : List Int}, l.length = s.nodes.length → (∀ c, At v l c → Rch (edgeG s v) i c) → ∀ c, At v (updA s a l) c → Rch (edgeG s v) i c
  | 0, _, _, _, h => h
  | a + 1, ha, l, hl, h => updB_sound (by omega) _ (by simp [hl]) (updA_sound a (by omega) hl h)
theorem rounds_sound {s : Strc} {v : Int} {i : Nat} : ∀ (r : Nat) {l : List Int}, l.length = s.nodes.length → (∀ c, At v l c → Rch (edgeG s v) i c) → ∀ c, At v (rounds s r l) c → Rch (edgeG s v) i c
  | 0, _, _, h => h
  | r + 1, l, hl, h => updA_sound _ (Nat.le_refl _) (by simp [hl]) (rounds_sound r hl h)
theorem updB_mono {s : Strc} {v : Int} {a : Nat} : ∀ (b : Nat) {l : List Int}, a < l.length → ∀ c, At v l c → At v (updB s a b l) c
  | 0, _, _, _, h => h
  | b + 1, l, ha, c, h => (at_upd c (by simpa using ha)).2 (.inl (updB_mono b ha c h))
theorem updB_hit {s : Strc} {v : Int} {a : Nat} : ∀ (b : Nat) {l : List Int}, a < l.length → At v l a → ∀ c, c < b → c < l.length → v ≤ nextOf s a c → At v (updB s a b l) c
  | 0, _, _, _, c, hc, _, _ => by omega
  | b + 1, l, ha, h, c, hc, hl, hv => by
    refine (at_upd c (by simpa using ha)).2 ?_
    by_cases e : c = b
    · subst e; exact .inr ⟨rfl, by simpa using hl, updB_mono c ha a h, hv⟩
    · exact .inl (updB_hit b ha h c (by omega) hl hv)
theorem updA_mono {s : Strc} {v : Int} : ∀ (a : Nat) {l : List Int}, a ≤ l.length → ∀ c, At v l c → At v (updA s a l) c
  | 0, _, _, _, h => h
  | a + 1, l, ha, c, h => updB_mono _ (by simp; omega) c (updA_mono a (by omega) c h)
theorem updA_hit {s : Strc} {v : Int} : ∀ (n : Nat) {l : List Int}, n ≤ l.length → l.length = s.nodes.length → ∀ a, a < n → At v l a → ∀ c, c < l.length → v ≤ nextOf s a c → At v (updA s n l) c
  | 0, _, _, _, a, ha, _, _, _, _ => by omega
  | n + 1, l, hn, hl, a, ha, h, c, hc, hv => by
    by_cases e : a = n
    · subst e; exact updB_hit _ (by simp; omega) (updA_mono a (by omega) a h) c (by omega) (by simpa using hc) hv
    · exact updB_mono _ (by simp; omega) c (updA_hit n (by omega) hl a (by omega) h c hc hv)
theorem rounds_mono {s : Strc} {v : Int} : ∀ (r : Nat) {l : List Int}, l.length = s.nodes.length → ∀ c, At v l c → At v (rounds s r l) c
  | 0, _, _, _, h => h
  | r + 1, l, hl, c, h => updA_mono _ (by simp [hl]) c (rounds_mono r hl c h)
noncomputable def atB (v : Int) (l : List Int) (c : Nat) : Bool := @decide (At v l c) (Classical.propDecidable _)
theorem atB_iff {v : Int} {l : List Int} {c : Nat} : atB v l c = true ↔ At v l c := by unfold atB; exact @decide_eq_true_iff _ (Classical.propDecidable _)
noncomputable def many (v : Int) (l : List Int) : Nat := (List.range l.length).countP (atB v l)
theorem countP_lt {α : Type} {p q : α → Bool} : ∀ {l : List α}, (∀ x ∈ l, p x = true → q x = true) → (∃ x ∈ l, p x = false ∧ q x = true) → l.countP p < l.countP q
  | [], _, h => by obtain ⟨x, hx, _⟩ := h; cases hx
  | a :: l, h, g => by
    obtain ⟨x, hx, h1, h2⟩ := g
    rw [List.countP_cons, List.countP_cons]
    have hle : l.countP p ≤ l.countP q := List.countP_mono_left fun y hy k => h y (by simp [hy]) k
    rcases List.mem_cons.1 hx with rfl | hx
    · simp [h1, h2]; omega
    · have := countP_lt (l := l) (fun y hy k => h y (by simp [hy]) k) ⟨x, hx, h1, h2⟩
      have h3 := h a (by simp)
      cases hp : p a
      · simp; omega
      · simp [h3 hp]; omega
theorem many_lt {v : Int} {l l' : List Int} (hl : l.length = l'.length) (h : ∀ c, At v l c → At v l' c) {b : Nat} (h1 : ¬ At v l b) (h2 : At v l' b) : many v l < many v l' := by
  unfold many
  rw [hl]
  refine countP_lt (fun x _ k => atB_iff.2 (h x (atB_iff.1 k))) ⟨b, by simpa using h2.1, ?_, atB_iff.2 h2⟩
  cases c : atB v l b
  · rfl
  · exact absurd (atB_iff.1 c) h1
theorem many_full {v : Int} {l : List Int} (h : l.length ≤ many v l) : ∀ c, c < l.length → At v l c := by
  intro c hc
  by_cases g : At v l c
  · exact g
  · exfalso
    have : many v l < (List.range l.length).countP (fun _ => true) := by
      unfold many
      refine countP_lt (fun _ _ _ => rfl) ⟨c, by simpa using hc, ?_, rfl⟩
      cases e : atB v l c
      · rfl
      · exact absurd (atB_iff.1 e) g
    simp at this
    omega
theorem rounds_found {s : Strc} {v : Int} {i : Nat} {l : List Int} (hl : l.length = s.nodes.length) (h0 : ∀ c, edgeG s v i c → At v l c) (hs : ∀ c, At v l c → Rch (edgeG s v) i c) :
    ∀ r, (∀ c, Rch (edgeG s v) i c → At v (rounds s r l) c) ∨ r ≤ many v (rounds s r l)
  | 0 => .inr (by omega)
  | r + 1 => by
    by_cases g : ∀ c, Rch (edgeG s v) i c → At v (rounds s r l) c
    · exact .inl fun c hc => updA_mono _ (by simp [hl]) c (g c hc)
    · right
      have hr : r ≤ many v (rounds s r l) := by
        rcases rounds_found hl h0 hs r with h | h
        · exact absurd h g
        · exact h
      have hnot : ∃ a b, At v (rounds s r l) a ∧ edgeG s v a b ∧ ¬ At v (rounds s r l) b := by
        refine Classical.byContradiction fun hno => g fun c hc => ?_
        induction hc with
        | one h => exact rounds_mono r hl _ (h0 _ h)
        | @more x y _ e ih =>
          exact Classical.byContradiction fun hny => hno ⟨x, y, ih, e, hny⟩
      obtain ⟨a, b, h1, h2, h3⟩ := hnot
      have h4 : At v (rounds s (r + 1) l) b := updA_hit _ (by simp [hl]) (by simp [hl]) a h2.1 h1 b (by simp [hl]; exact h2.2.1) h2.2.2
      have := many_lt (v := v) (l := rounds s r l) (l' := rounds s (r + 1) l) (by simp) (fun c hc => updA_mono _ (by simp [hl]) c hc) h3 h4
      omega
theorem rowT0_at {s : Strc} {v : Int} {i : Nat} (hi : i < s.nodes.length) (c : Nat) : At v (rowT0 s i) c ↔ Rch (edgeG s v) i c := by
  have hl : (best0 s i s.nodes.length).length = s.nodes.length := by simp
  have hb : ∀ c, c < s.nodes.length → (best0 s i s.nodes.length).getD c 0 = nextOf s i (c : Nat) := by
    intro c hc
    simp [best0, List.getD_eq_getElem?_getD, hc]
  have h0 : ∀ c, edgeG s v i c → At v (best0 s i s.nodes.length) c := fun c h => ⟨by simpa using h.2.1, by rw [hb c h.2.1]; exact h.2.2⟩
  have hs : ∀ c, At v (best0 s i s.nodes.length) c → Rch (edgeG s v) i c := fun c h => by
    have h1 : c < s.nodes.length := by simpa using h.1
    have h2 := h.2
    rw [hb c h1] at h2
    exact .one ⟨hi, h1, h2⟩
  constructor
  · exact rounds_sound _ hl hs c
  · intro h
    rcases rounds_found hl h0 hs s.nodes.length with g | g
    · exact g c h
    · exact many_full (by rw [rowT0_len]; exact g) c (by rw [rowT0_len]; exact rch_lt h)
theorem at_val {l : List Int} {c : Nat} (hc : c < l.length) (h : isTruth (l.getD c 0) = true) : l.getD c 0 = if atB 2 l c = true then 2 else if atB 1 l c = true then 1 else 0 := by
  rw [isTruth_iff] at h
  have e : ∀ v, (atB v l c = true) = (v ≤ l.getD c 0) := fun v => propext (atB_iff.trans ⟨fun g => g.2, fun g => ⟨hc, g⟩⟩)
  simp only [e]
  (repeat' split) <;> omega
def truthS (s : Strc) : Prop := ∀ x ∈ s.next, isTruth x = true
theorem nextOf_truth {s : Strc} (h : truthS s) (i j : Int) : isTruth (nextOf s i j) = true := by
  unfold nextOf
  split
  · rename_i g
    rw [List.getD_eq_getElem?_getD]
    cases e : s.next[(i * s.nodes.length + j).toNat]? with
    | none => simp [isTruth]
    | some v => simpa using h v (List.mem_of_getElem? e)
  · simp [isTruth]
theorem mx_truth {a b : Int} (h : isTruth a = true) (g : isTruth b = true) : isTruth (mx a b) = true := by unfold mx; split <;> assumption
theorem mn_truth {a b : Int} (h : isTruth a = true) (g : isTruth b = true) : isTruth (mn a b) = true := by unfold mn; split <;> assumption
theorem getD_truth {l : List Int} (h : ∀ x ∈ l, isTruth x = true) (c : Nat) : isTruth (l.getD c 0) = true := by
  rw [List.getD_eq_getElem?_getD]
  cases e : l[c]? with
  | none => simp [isTruth]
  | some v => simpa using h v (List.mem_of_getElem? e)
theorem upd1_truth {s : Strc} (h : truthS s) {a b : Nat} {l : List Int} (hl : ∀ x ∈ l, isTruth x = true) : ∀ x ∈ upd1 s a b l, isTruth x = true := by
  intro x hx
  unfold upd1 at hx
  rcases List.mem_or_eq_of_mem_set hx with hx | rfl
  · exact hl x hx
  · exact mx_truth (getD_truth hl _) (mn_truth (getD_truth hl _) (nextOf_truth h _ _))
theorem updB_truth {s : Strc} (h : truthS s) {a : Nat} : ∀ (b : Nat) {l : List Int}, (∀ x ∈ l, isTruth x = true) → ∀ x ∈ updB s a b l, isTruth x = true
  | 0, _, hl => hl
  | b + 1, _, hl => upd1_truth h (updB_truth h b hl)
theorem updA_truth {s : Strc} (h : truthS s) : ∀ (a : Nat) {l : List Int}, (∀ x ∈ l, isTruth x = true) → ∀ x ∈ updA s a l, isTruth x = true
  | 0, _, hl => hl
  | a + 1, _, hl => updB_truth h _ (updA_truth h a hl)
theorem rounds_truth {s : Strc} (h : truthS s) : ∀ (r : Nat) {l : List Int}, (∀ x ∈ l, isTruth x = true) → ∀ x ∈ rounds s r l, isTruth x = true
  | 0, _, hl => hl
  | r + 1, _, hl => updA_truth h _ (rounds_truth h r hl)
theorem rowT0_truth {s : Strc} (h : truthS s) (i : Nat) : ∀ x ∈ rowT0 s i, isTruth x = true := by
  refine rounds_truth h _ fun x hx => ?_
  simp only [best0, List.mem_map] at hx
  obtain ⟨b, _, rfl⟩ := hx
  exact nextOf_truth h _ _
theorem rowP_path {s : Strc} (h : truthS s) {i j : Int} (hi : inN s i) (hj : inN s j) : (rowP s i.toNat).getD j.toNat 0 = pathT s i j := by
  have hi' := hi
  have hj' := hj
  unfold inN at hi' hj'
  have hin : i.toNat < s.nodes.length := by omega
  have hjn : j.toNat < s.nodes.length := by omega
  have hv : (rowT0 s i.toNat).getD j.toNat 0 = if rchB s 2 i.toNat j.toNat = true then 2 else if rchB s 1 i.toNat j.toNat = true then 1 else 0 := by
    rw [at_val (by simpa using hjn) (getD_truth (rowT0_truth h _) _)]
    have h2 : ∀ v, atB v (rowT0 s i.toNat) j.toNat = rchB s v i.toNat j.toNat := fun v => by rw [Bool.eq_iff_iff, atB_iff, rchB_iff]; exact rowT0_at hin _
    rw [h2, h2]
  have hcast : ((i.toNat : Nat) : Int) = i := by omega
  unfold pathT
  rw [if_pos ⟨hi, hj⟩]
  unfold rowP
  by_cases e : i = j
  · subst e
    rw [List.getD_eq_getElem?_getD, List.getElem?_set_self (by simpa using hin), Option.getD_some, hv, hcast]
    have hs : sameT s i = 2 ∨ sameT s i = 1 := by unfold sameT; split <;> simp
    unfold mx
    rcases hs with hs | hs <;> rw [hs] <;> (repeat' split) <;> simp_all
  · have hne : i.toNat ≠ j.toNat := by omega
    rw [List.getD_eq_getElem?_getD, List.getElem?_set_ne hne, ← List.getD_eq_getElem?_getD, hv]
    simp only [e, false_and, if_false]
end Go.Vm
