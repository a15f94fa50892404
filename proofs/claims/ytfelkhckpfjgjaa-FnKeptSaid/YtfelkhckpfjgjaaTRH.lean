/- spec.l12Bent: a structure is drawn and sometimes bent. No condition. -/
import Derived.Test.YtfelkhckpfjgjaaTGV
import Derived.Test.YtfelkhckpfjgjaaTGE
import Derived.Test.YtfelkhckpfjgjaaTKC
set_option linter.unusedSimpArgs false
set_option linter.unusedVariables false
namespace Go.Vm
open Go.Proofs
def pickI (c : Cur) (xs : List Int) : Int := xs.getD (c.below xs.length).toNat 0
def code_spec_l1PickInt : F := ⟨12,[.tmp 4],.seq (.reg [⟨some 4,.mov (.k (.int .i64 0)),none⟩]) (.seq (.reg [⟨some 5,.mov (.t 1),none⟩,⟨some 6,.mov (.t 0),none⟩,⟨some 7,.mov (.t 1),none⟩,⟨some 8,.len (.t 7),none⟩,⟨some 9,.call 39 [.t 6,.t 8],none⟩,⟨some 10,.iaddr 1 (.t 5) (.t 9),none⟩,⟨some 11,.load 1 false (.t 10),none⟩,⟨some 4,.mov (.t 11),none⟩]) (.ret))⟩
theorem fok_spec_l1PickInt : FOk Try.prog 62 code_spec_l1PickInt := fok Try.func62 (by kernel_rfl)
@[simp] def ct_l1PickInt : CtH := ⟨62, Nat × Cur × List Int, fun x H => H[x.1]? = some x.2.1.cells ∧ 0 < x.2.2.length ∧ x.2.2.length ≤ 256 ∧ x.2.1.buf.length ≤ 1048576, fun x => [.pbox x.1 0, encL 1 encInt x.2.2], fun x _ => .int .i64 (pickI x.2.1 x.2.2), fun x H => H.set x.1 x.2.1.step.cells⟩
set_option maxHeartbeats 1000000 in
theorem ok_l1PickInt : ct_l1PickInt.Ok Try.prog := by
  rintro ⟨p, c, xs⟩ H ⟨h1, h2, h3, h4⟩
  change H[p]? = some c.cells at h1
  change 0 < xs.length at h2
  change xs.length ≤ 256 at h3
  change c.buf.length ≤ 1048576 at h4
  have hb := below_lt c (n := xs.length) (by omega)
  obtain ⟨i, hi⟩ : ∃ i : Nat, c.below xs.length = i := ⟨(c.below xs.length).toNat, by omega⟩
  have hl : i < xs.length := by omega
  have e : pickI c xs = xs[i] := by unfold pickI; rw [hi]; simp [List.getD_eq_getElem?_getD, hl]
  refine OkH.of_cw' fok_spec_l1PickInt (go_ok (tab_h ok_below tab_nil) ?_)
  simp [code_spec_l1PickInt, List.replicate, retH, e, hl]
  refine ⟨c, h1, by omega, by omega, h4, ?_⟩
  simp [hi, hl]
theorem FG.stn {H : List Blk} {p b4 b5 a d : Nat} {P Q : Nat → Nat} {G : List Blk} {c : Cur} {els : List AV} {s : Strc} (h : FG H p b4 b5 a d P Q G c els s) : Stn H.length G (.slref a 0 s.nodes.length s.nodes.length) (.slref d 0 s.next.length s.next.length) s := by
  intro G' hG
  have lt : ∀ {j k}, G[j]? = some k → j < G.length := fun e => (List.getElem?_eq_some_iff.1 e).1
  have n2 : NIx G' els s.nodes P Q := h.nix.congr fun b hb => by
    obtain ⟨l, e⟩ := h.nix.is1 hb
    exact hG b (own_ge h.lo hb) (lt e)
  refine ⟨n2.lend ((hG a h.la (lt h.row)).trans h.row), ?_⟩
  have e := (hG d h.ld (lt h.nxt)).trans h.nxt
  simp [lendC, e]
theorem FG.lift {H X : List Blk} {p b4 b5 a d b : Nat} {P Q : Nat → Nat} {G : List Blk} {c : Cur} {els : List AV} {s : Strc} (h : FG (H ++ X) p b4 b5 a d P Q G c els s) (hp : p < H.length) (hb : H.length ≤ b) (hb2 : b < (H ++ X).length) {x y : AV} (hc : (H ++ X)[b]? = some (.cells [x, y])) :
    FG H p b (G.length + 2) a d P Q (G ++ [.nrow, .nrow, .cells [.slref a 0 s.nodes.length s.nodes.length, .slref d 0 s.next.length s.next.length]]) c els s := by
  obtain ⟨hp', cur, old, l4, g4, l5, ne, g5, la, row, nix, lo, ld, nxt, no⟩ := h
  have lt : ∀ {j k}, G[j]? = some k → j < G.length := fun e => (List.getElem?_eq_some_iff.1 e).1
  have ap : ∀ {j k}, G[j]? = some k → ∀ T, (G ++ T)[j]? = some k := fun e T => by rw [List.getElem?_append_left (lt e)]; exact e
  have hl : (H ++ X).length = H.length + X.length := List.length_append
  have hbG : G[b]? = some (.cells [x, y]) := (old b hb2 (by omega)).trans hc
  have h5 := lt g5
  refine ⟨hp, ap cur _, fun j hj hjp => ?_, hb, ⟨x, y, ap hbG _⟩, by omega, by have := lt hbG; omega, ?_, by omega, ap row _, nix.app _, fun i hi => by have := lo i hi; omega, by omega, ap nxt _, no⟩
  · have e := old j (by omega) hjp
    have hjG : j < G.length := by omega
    rw [List.getElem?_append_left hjG, e, List.getElem?_append_left hj]
  · rw [getHk]; rfl
theorem FG.fin {H : List Blk} {p b4 b5 a d : Nat} {P Q : Nat → Nat} {G : List Blk} {c : Cur} {els : List AV} {s : Strc} (h : FG H p b4 b5 a d P Q G c els s) (u v : AV) : (G.set b4 (.cells [u, v]))[p]? = some c.cells ∧ H.length ≤ (G.set b4 (.cells [u, v])).length ∧ (∀ j, j < H.length → j ≠ p → (G.set b4 (.cells [u, v]))[j]? = H[j]?) ∧ Stn H.length (G.set b4 (.cells [u, v])) (.slref a 0 s.nodes.length s.nodes.length) (.slref d 0 s.next.length s.next.length) s := by
  have k := h.set4 u v
  have := (List.getElem?_eq_some_iff.1 k.g5).1
  exact ⟨k.cur, by have := k.l5; omega, k.old, k.stn⟩
def bent12 (c : Cur) : Cur × Strc :=
  if (d12 c).1.below 8 = 0 then ((d12 c).1.step, ⟨(d12 c).2.nodes, (d12 c).2.next ++ [0]⟩)
  else if (d12 c).2.nodes = [] then ((d12 c).1.step, (d12 c).2)
  else if (d12 c).1.below 8 = 1 then ((d12 c).1.step.step, setN (d12 c).2 0 fun y => ⟨y.vars, y.reach, y.shared, pickI (d12 c).1.step [2, 1, 0, 3]⟩)
  else if (d12 c).1.below 8 = 2 then ((d12 c).1.step.step, setN (d12 c).2 0 fun y => ⟨y.vars.set 0 (pickI (d12 c).1.step [0, 1, 2, 3]), y.reach, y.shared, y.many⟩)
  else if (d12 c).1.below 8 = 3 then ((d12 c).1.step, setN (d12 c).2 0 fun y => ⟨y.vars, y.reach.drop 1, y.shared, y.many⟩)
  else ((d12 c).1.step, (d12 c).2)
def code_spec_l12Bent : F := ⟨60,[.cell 2 true 2],.seq (.reg [⟨some 2,.alloc [(.sl .nil 0 []),(.sl .nil 0 [])],none⟩]) (.seq (.reg [⟨some 4,.mov (.t 0),none⟩,⟨some 5,.call 47 [.t 4,(.k (.int .i64 3))],none⟩,⟨some 3,.alloc [(.sl .nil 0 []),(.sl .nil 0 [])],none⟩,⟨none,.store 2 (.t 3) (.t 5),none⟩]) (.seq (.seq (.reg [⟨some 6,.mov (.t 0),none⟩,⟨some 7,.call 39 [.t 6,(.k (.int .i64 8))],none⟩]) (.block 0 (.seq (.reg [⟨some 9,.bin .eql (.t 7) (.k (.int .i64 0)),none⟩,⟨some 8,.mov (.t 9),none⟩]) (.cond (.t 8) (.reg [⟨some 10,.faddr 1 (.t 3),none⟩,⟨some 11,.load 1 false (.t 10),none⟩,⟨some 12,.bsl 3 1 1 (.int .i64 0) [(0,(.k (.int .i64 0)))],none⟩,⟨some 13,.append 3 1 8 (.t 11) (.t 12),none⟩,⟨some 14,.faddr 1 (.t 3),none⟩,⟨none,.store 1 (.t 14) (.t 13),none⟩]) (.seq (.reg [⟨some 16,.bin .eql (.t 7) (.k (.int .i64 1)),none⟩,⟨some 15,.mov (.t 16),none⟩]) (.cond (.t 15) (.seq (.reg [⟨some 17,.faddr 0 (.t 3),none⟩,⟨some 18,.load 1 false (.t 17),none⟩,⟨some 19,.len (.t 18),none⟩,⟨some 20,.bin .gtr (.t 19) (.k (.int .i64 0)),none⟩]) (.cond (.t 20) (.dreg [false,false,false,false,false,true,true,true] [false,false,false,false,true,false,false,false] [⟨some 21,.faddr 0 (.t 3),none⟩,⟨some 22,.load 1 false (.t 21),none⟩,⟨some 23,.mov (.t 0),none⟩,⟨some 24,.bsl 3 1 4 (.int .i64 0) [(0,(.k (.int .i64 2))),(1,(.k (.int .i64 1))),(2,(.k (.int .i64 0))),(3,(.k (.int .i64 3)))],none⟩,⟨some 25,.call 62 [.t 23,.t 24],none⟩,⟨some 26,.iaddr 4 (.t 22) (.k (.int .i64 0)),none⟩,⟨some 27,.faddr 3 (.t 26),none⟩,⟨none,.store 1 (.t 27) (.t 25),none⟩]) (.skip))) (.seq (.reg [⟨some 29,.bin .eql (.t 7) (.k (.int .i64 2)),none⟩,⟨some 28,.mov (.t 29),none⟩]) (.cond (.t 28) (.seq (.reg [⟨some 30,.faddr 0 (.t 3),none⟩,⟨some 31,.load 1 false (.t 30),none⟩,⟨some 32,.len (.t 31),none⟩,⟨some 33,.bin .gtr (.t 32) (.k (.int .i64 0)),none⟩]) (.cond (.t 33) (.dreg [false,false,false,false,false,false,false,false,true,true] [false,false,false,false,false,false,false,true,false,false] [⟨some 34,.faddr 0 (.t 3),none⟩,⟨some 35,.load 1 false (.t 34),none⟩,⟨some 36,.iaddr 4 (.t 35) (.k (.int .i64 0)),none⟩,⟨some 37,.faddr 0 (.t 36),none⟩,⟨some 38,.load 1 false (.t 37),none⟩,⟨some 39,.mov (.t 0),none⟩,⟨some 40,.bsl 3 1 4 (.int .i64 0) [(0,(.k (.int .i64 0))),(1,(.k (.int .i64 1))),(2,(.k (.int .i64 2))),(3,(.k (.int .i64 3)))],none⟩,⟨some 41,.call 62 [.t 39,.t 40],none⟩,⟨some 42,.iaddr 1 (.t 38) (.k (.int .i64 0)),none⟩,⟨none,.store 1 (.t 42) (.t 41),none⟩]) (.skip))) (.seq (.reg [⟨some 44,.bin .eql (.t 7) (.k (.int .i64 3)),none⟩,⟨some 43,.mov (.t 44),none⟩]) (.cond (.t 43) (.seq (.reg [⟨some 45,.faddr 0 (.t 3),none⟩,⟨some 46,.load 1 false (.t 45),none⟩,⟨some 47,.len (.t 46),none⟩,⟨some 48,.bin .gtr (.t 47) (.k (.int .i64 0)),none⟩]) (.cond (.t 48) (.dreg [false,false,false,false,false,false,false,false,true,true,true] [false,false,false,false,false,false,false,false,false,false,false] [⟨some 49,.faddr 0 (.t 3),none⟩,⟨some 50,.load 1 false (.t 49),none⟩,⟨some 51,.faddr 0 (.t 3),none⟩,⟨some 52,.load 1 false (.t 51),none⟩,⟨some 53,.iaddr 4 (.t 52) (.k (.int .i64 0)),none⟩,⟨some 54,.faddr 1 (.t 53),none⟩,⟨some 55,.load 1 false (.t 54),none⟩,⟨some 56,.slice 1 (.t 55) (some (.k (.int .i64 1))) none,none⟩,⟨some 57,.iaddr 4 (.t 50) (.k (.int .i64 0)),none⟩,⟨some 58,.faddr 1 (.t 57),none⟩,⟨none,.store 1 (.t 58) (.t 56),none⟩]) (.skip))) (.skip))))))))))) (.seq (.reg [⟨some 59,.load 2 true (.t 3),none⟩,⟨none,.store 2 (.t 2) (.t 59),none⟩]) (.ret))))⟩
theorem fok_spec_l12Bent : FOk Try.prog 60 code_spec_l12Bent := fok Try.func60 (by kernel_rfl)
set_option maxHeartbeats 8000000 in
set_option maxRecDepth 100000 in
theorem made_l12Bent {H : List Blk} {p : Nat} {c : Cur} (hbuf : c.buf.length ≤ 1048576) (hp : H[p]? = some c.cells) : ∃ (va vn wa wn : Nat) (G : List Blk),
    (G[p]? = some (bent12 c).1.cells ∧ H.length ≤ G.length ∧ (∀ j, j < H.length → j ≠ p → G[j]? = H[j]?) ∧ Stn H.length G (.slref va 0 vn vn) (.slref wa 0 wn wn) (bent12 c).2) ∧ Wrt H.length G va vn wa wn (bent12 c).2 ∧ OkH Try.prog 60 [.pbox p 0] H (.agg [.slref va 0 vn vn, .slref wa 0 wn wn]) G := by
  have hpl : p < H.length := (List.getElem?_eq_some_iff.1 hp).1
  obtain ⟨b4, b5, a, d, P, Q, G1, els, fg1, ok1⟩ := made_l12Draw (H := H ++ [.nrow, .nrow, .cells [.slref H.length 0 0 0, .slref (H.length + 1) 0 0 0]]) (p := p) (c := c) hbuf (by rw [List.getElem?_append_left hpl]; exact hp)
  obtain ⟨hsh, hcb⟩ := d12_sh c
  have hsr : ∀ hp : 0 < (d12 c).2.nodes.length, 0 < (d12 c).2.nodes[0].reach.length := fun hp => by have := (hsh.r _ (List.getElem_mem hp)).2; omega
  have hsn : 0 < (d12 c).2.nodes.length → 0 < (d12 c).2.next.length := fun hp => by rw [hsh.m]; exact Nat.mul_pos hp hp
  have fg := fg1.lift hpl (b := H.length + 2) (by omega) (by simp) (by rw [getHk]; rfl)
  clear fg1
  have okD : CtH.Ok Try.prog ⟨47, Unit, fun _ H' => H' = H ++ [.nrow, .nrow, .cells [.slref H.length 0 0 0, .slref (H.length + 1) 0 0 0]], fun _ => [.pbox p 0, .int .i64 3], fun _ _ => .agg [.slref a 0 (d12 c).2.nodes.length (d12 c).2.nodes.length, .slref d 0 (d12 c).2.next.length (d12 c).2.next.length], fun _ _ => G1⟩ := by
    rintro _ _ rfl; exact ok1
  have hT1 : TabOk Try.prog _ := tab_h okD tab_nil
  have hT : TabOk Try.prog _ := tab_h ok_below (tab_h ok_l1PickInt tab_nil)
  have e12 : bent12 c = if (d12 c).1.below 8 = 0 then ((d12 c).1.step, ⟨(d12 c).2.nodes, (d12 c).2.next ++ [0]⟩)
    else if (d12 c).2.nodes = [] then ((d12 c).1.step, (d12 c).2)
    else if (d12 c).1.below 8 = 1 then ((d12 c).1.step.step, setN (d12 c).2 0 fun y => ⟨y.vars, y.reach, y.shared, pickI (d12 c).1.step [2, 1, 0, 3]⟩)
    else if (d12 c).1.below 8 = 2 then ((d12 c).1.step.step, setN (d12 c).2 0 fun y => ⟨y.vars.set 0 (pickI (d12 c).1.step [0, 1, 2, 3]), y.reach, y.shared, y.many⟩)
    else if (d12 c).1.below 8 = 3 then ((d12 c).1.step, setN (d12 c).2 0 fun y => ⟨y.vars, y.reach.drop 1, y.shared, y.many⟩)
    else ((d12 c).1.step, (d12 c).2) := rfl
  have hcb1 : (d12 c).1.buf.length ≤ 1048576 := by rw [hcb]; exact hbuf
  clear ok1 hcb
  generalize d12 c = D at *
  obtain ⟨c1, s⟩ := D
  simp only at fg hsh okD e12 hcb1 hT1 hsr hsn
  obtain ⟨G, hG⟩ : ∃ G : List Blk, G = G1 ++ [.nrow, .nrow, .cells [.slref a 0 s.nodes.length s.nodes.length, .slref d 0 s.next.length s.next.length]] := ⟨_, rfl⟩
  rw [← hG] at fg
  have head : ∀ Q', CW Try.prog H.length (tl2 code_spec_l12Bent.c) Q' ⟨slots 60 [(0, .pbox p 0), (2, .pbox (H.length + 2) 0), (3, .pbox (G1.length + 2) 0)], G⟩ →
      CW Try.prog H.length code_spec_l12Bent.c Q' ⟨frame code_spec_l12Bent.nt [.pbox p 0], H⟩ := by
    intro Q' hQ
    simp only [code_spec_l12Bent, tl2] at hQ
    simp only [code_spec_l12Bent, frame, List.length_cons, List.length_nil, List.replicate, Nat.reduceSub, Nat.reduceAdd, List.cons_append, List.nil_append]
    refine cw_seq (go_ok hT1 ?_); simp [List.replicate, getHk, getH0, setHk, setH0, Nat.add_assoc]
    refine cw_seq (go_ok hT1 ?_); simp [List.replicate, getHk, getH0, setHk, setH0, Nat.add_assoc]
    rw [← hG]
    exact cw_weak (weak_slots (by simp [List.replicate, less_undef, less_refl])) hQ
  clear hT1 okD
  generalize G1.length + 2 = b5 at *
  clear hG
  have g5 := fg.g5
  have ga := fg.row
  have gc := fg.cur
  have hl := fg.nix.len
  have hpG := (List.getElem?_eq_some_iff.1 gc).1
  obtain ⟨u4, v4, g4⟩ := fg.g4
  have fp : ∀ z, (G.set p z)[p]? = some z := fun z => by rw [List.getElem?_set_self hpG]
  have fge : ∀ j, H.length ≤ j → ∀ z, (G.set p z)[j]? = G[j]? := fun j hj z => get_set_ne (by omega)
  have f5' : ∀ z, (G.set p z)[b5]? = some (.cells [.slref a 0 s.nodes.length s.nodes.length, .slref d 0 s.next.length s.next.length]) := fun z => by rw [fge _ fg.l5]; exact fg.g5
  have f4' : ∀ z, (G.set p z)[H.length + 2]? = some (.cells [u4, v4]) := fun z => by rw [fge _ (by omega)]; exact g4
  have fa : ∀ z, (G.set p z)[a]? = some (.row true 61 4 els) := fun z => by rw [fge _ fg.la]; exact fg.row
  have fd : ∀ z, (G.set p z)[d]? = some (.row true 3 1 (s.next.map encInt)) := fun z => by rw [fge _ fg.ld]; exact fg.nxt
  have fs : ∀ z z', (G.set p z).set p z' = G.set p z' := fun z z' => List.set_set ..
  have kL : ∀ j, j < G.length → ∀ z L, (G.set p z ++ L)[j]? = (G.set p z)[j]? := fun j hj z L => List.getElem?_append_left (by simpa using hj)
  have fL5 := fun z L => (kL b5 (List.getElem?_eq_some_iff.1 fg.g5).1 z L).trans (f5' z)
  have fLa := fun z L => (kL a (List.getElem?_eq_some_iff.1 fg.row).1 z L).trans (fa z)
  have fLd := fun z L => (kL d (List.getElem?_eq_some_iff.1 fg.nxt).1 z L).trans (fd z)
  have hc1 : c1.step.buf.length ≤ 1048576 := hcb1
  have gs4 : ∀ (G' : List Blk) z, H.length + 2 < G'.length → (G'.set (H.length + 2) z)[H.length + 2]? = some z := fun G' z h => by rw [List.getElem?_set_self h]
  have hl4 := (List.getElem?_eq_some_iff.1 g4).1
  generalize hb : c1.below 8 = b at *
  have hel : s.nodes = [] → els = [] := fun h => List.eq_nil_of_length_eq_zero (by rw [hl, h]; rfl)
  by_cases b0 : b = 0
  · rw [if_pos b0] at e12
    rw [e12]
    obtain ⟨n1, n2, n3, n4, n5, n6, n7, n8⟩ := fg.nodup_a
    have hld := (List.getElem?_eq_some_iff.1 fg.nxt).1
    have hl5 := (List.getElem?_eq_some_iff.1 g5).1
    have hm25 := (sh12_sz hsh).2
    let X : List Blk := (((G.set p c1.step.cells) ++ [Blk.row true 3 1 [AV.int .i64 0]]).set d (Blk.row true 3 1 (s.next.map encInt ++ [AV.int .i64 0]))).set b5 (Blk.cells [.slref a 0 s.nodes.length s.nodes.length, .slref d 0 (s.next.length + 1) (s.next.length + 1)])
    have hX : X = (((G.set p c1.step.cells) ++ [Blk.row true 3 1 [AV.int .i64 0]]).set d (Blk.row true 3 1 (s.next.map encInt ++ [AV.int .i64 0]))).set b5 (Blk.cells [.slref a 0 s.nodes.length s.nodes.length, .slref d 0 (s.next.length + 1) (s.next.length + 1)]) := rfl
    have xg : ∀ j, j < G.length → d ≠ j → b5 ≠ j → X[j]? = (G.set p c1.step.cells)[j]? := fun j hj h1 h2 => by rw [hX, get_set_ne h2, get_set_ne h1, List.getElem?_append_left (by simpa using hj)]
    have xd : X[d]? = some (.row true 3 1 (s.next.map encInt ++ [.int .i64 0])) := by
      rw [hX, get_set_ne (Ne.symm n5), List.getElem?_set_self (by simp; omega)]
    have x5 : X[b5]? = some (.cells [.slref a 0 s.nodes.length s.nodes.length, .slref d 0 (s.next.length + 1) (s.next.length + 1)]) := by
      rw [hX, List.getElem?_set_self (by simp; omega)]
    have x4 : X[H.length + 2]? = some (.cells [u4, v4]) := by rw [xg _ hl4 n4 (Ne.symm fg.ne)]; exact f4' _
    have xl := (List.getElem?_eq_some_iff.1 x4).1
    have hpd : p ≠ d := by have := fg.ld; omega
    have hp5 : p ≠ b5 := by have := fg.l5; omega
    refine ⟨a, s.nodes.length, d, s.next.length + 1, X.set (H.length + 2) (.cells [.slref a 0 s.nodes.length s.nodes.length, .slref d 0 (s.next.length + 1) (s.next.length + 1)]), ⟨?_, ?_, ?_, ?_⟩, ?_, OkH.of_cw fok_spec_l12Bent (head _ ?_)⟩
    · rw [get_set_ne (by omega), xg _ hpG (Ne.symm hpd) (Ne.symm hp5)]; exact fp _
    · rw [List.length_set]; omega
    · intro j hj hjp
      have h1 := fg.ld
      have h2 := fg.l5
      rw [get_set_ne (by omega), xg _ (by omega) (by omega) (by omega), get_set_ne (Ne.symm hjp)]; exact fg.old j hj hjp
    · intro G' hG'
      rw [List.length_set] at hG'
      have ne2 : ∀ j, H.length + 2 ≠ j → ∀ z, (X.set (H.length + 2) z)[j]? = X[j]? := fun j hj z => get_set_ne hj
      have hXl : X.length = G.length + 1 := by rw [hX]; simp
      have ltG : ∀ {j k}, G[j]? = some k → j < G.length := fun e => (List.getElem?_eq_some_iff.1 e).1
      have lt : ∀ {j k}, G[j]? = some k → j < X.length := fun e => by rw [hXl]; have := ltG e; omega
      have nX : NIx G' els s.nodes P Q := fg.nix.congr fun j hj => by
        obtain ⟨l, e⟩ := fg.nix.is1 hj
        have hge := own_ge fg.lo hj
        rw [hG' j hge (lt e), ne2 _ (fun e' => n7 (e' ▸ hj)), xg _ (ltG e) (fun e' => fg.no (e' ▸ hj)) (fun e' => n8 (e' ▸ hj)), fge _ hge]
      refine ⟨nX.lend (by rw [hG' a fg.la (lt ga), ne2 _ (Ne.symm n2), xg _ (ltG ga) (Ne.symm n1) (Ne.symm n3)]; exact fa _), ?_⟩
      have e : G'[d]? = some (.row true 3 1 ((s.next ++ [0]).map encInt)) := by rw [hG' d fg.ld (lt fg.nxt), ne2 _ (Ne.symm n4), xd]; simp
      have e2 : s.next.length + 1 = (s.next ++ [0]).length := by simp
      rw [e2]
      generalize s.next ++ [0] = ys at *
      simp [lendC, e]
    · have k := (((fg.setCur c1.step).appNext [Blk.row true 3 1 [AV.int .i64 0]] 0).set4 (.slref a 0 s.nodes.length s.nodes.length) (.slref d 0 (s.next.length + 1) (s.next.length + 1))).sg.wrt hsr (by intro _; simp)
      rw [hX]
      simpa using k
    simp only [code_spec_l12Bent, tl2]
    refine cw_seq (cw_seq (go_ok hT ?_))
    simp [List.replicate, gc, cells_inj, hcb1, hb]
    have hb8 : (s.next.length + 1) * 8 ≤ 140737488355328 := by omega
    have q5 : ∀ z, (G.set p z ++ [.row true 3 1 [.int .i64 0]])[b5]? = some (.cells [.slref a 0 s.nodes.length s.nodes.length, .slref d 0 s.next.length s.next.length]) := fun z => fL5 z _
    refine cw_block (go_ok tab_nil ?_)
    simp [List.replicate, b0, fp, fs, f5', fd, fL5, fLd, app1, hb8, hpG, n5, Ne.symm n5]
    rw [← hX]
    refine go_ok tab_nil ?_
    simp [List.replicate, x5, x4]
    exact ⟨_, Weak.refl _ _, by simp [retH, gs4, xl]⟩
  rw [if_neg b0] at e12
  by_cases h0 : s.nodes = []
  · rw [if_pos h0] at e12
    rw [e12]
    have e1 : s.nodes.length = 0 := by rw [h0]; rfl
    rw [hel h0] at fa
    simp only [e1] at f5'
    refine ⟨a, s.nodes.length, d, s.next.length, _, (fg.setCur c1.step).fin (.slref a 0 s.nodes.length s.nodes.length) (.slref d 0 s.next.length s.next.length), ((fg.setCur c1.step).set4 _ _).sg.wrt hsr hsn, OkH.of_cw fok_spec_l12Bent (head _ ?_)⟩
    simp only [code_spec_l12Bent, tl2]
    refine cw_seq (cw_seq (go_ok hT ?_))
    simp [List.replicate, gc, cells_inj, hcb1, hb]
    refine cw_block (go_ok tab_nil ?_)
    by_cases b1 : b = 1
    · simp [List.replicate, b1, f5', fa]
      refine go_ok tab_nil ?_
      simp [List.replicate, f5', f4', e1, h0]
      exact ⟨_, Weak.refl _ _, by simp [retH, gs4, hl4]⟩
    by_cases b2 : b = 2
    · simp [List.replicate, b2, f5', fa]
      refine go_ok tab_nil ?_
      simp [List.replicate, f5', f4', e1, h0]
      exact ⟨_, Weak.refl _ _, by simp [retH, gs4, hl4]⟩
    by_cases b3 : b = 3
    · simp [List.replicate, b3, f5', fa]
      refine go_ok tab_nil ?_
      simp [List.replicate, f5', f4', e1, h0]
      exact ⟨_, Weak.refl _ _, by simp [retH, gs4, hl4]⟩
    · simp [List.replicate, b0, b1, b2, b3]
      refine go_ok tab_nil ?_
      simp [List.replicate, f5', f4', e1, h0]
      exact ⟨_, Weak.refl _ _, by simp [retH, gs4, hl4]⟩
  rw [if_neg h0] at e12
  have hpos : 0 < s.nodes.length := List.length_pos_iff.2 h0
  obtain ⟨r1, r2⟩ := hsh.r _ (List.getElem_mem hpos)
  have fQ : ∀ z, (G.set p z)[Q 0]? = some (.row true 3 1 (s.nodes[0].reach.map encInt)) := fun z => by rw [fge _ (fg.lo 0 hpos).2]; exact fg.nix.rq 0 s.nodes[0] (by simp [hpos])
  have fP : ∀ z, (G.set p z)[P 0]? = some (.row true 3 1 (s.nodes[0].vars.map encInt)) := fun z => by rw [fge _ (fg.lo 0 hpos).1]; exact fg.nix.rp 0 s.nodes[0] (by simp [hpos])
  have fLQ := fun z L => (kL (Q 0) (List.getElem?_eq_some_iff.1 (fg.nix.rq 0 s.nodes[0] (by simp [hpos]))).1 z L).trans (fQ z)
  have fLP := fun z L => (kL (P 0) (List.getElem?_eq_some_iff.1 (fg.nix.rp 0 s.nodes[0] (by simp [hpos]))).1 z L).trans (fP z)
  have hie : 0 < els.length := by rw [hl]; exact hpos
  have fe := fg.el hpos
  have fel : els[0] = .agg [.slref (P 0) 0 s.nodes[0].vars.length s.nodes[0].vars.length, .slref (Q 0) 0 s.nodes[0].reach.length s.nodes[0].reach.length, .int .i64 s.nodes[0].shared, .int .i64 s.nodes[0].many] := by
    have := fg.el hpos
    rw [List.getElem?_eq_getElem hie] at this
    exact Option.some.inj this
  by_cases b1 : b = 1
  · rw [if_pos b1] at e12
    unfold setN at e12
    rw [dif_pos hpos] at e12
    rw [e12]
    have fx := (fg.setCur c1.step.step).setEl hpos s.nodes[0].shared (pickI c1.step [2, 1, 0, 3])
    refine ⟨a, _, d, _, _, fx.fin (.slref a 0 s.nodes.length s.nodes.length) (.slref d 0 s.next.length s.next.length), (fx.set4 _ _).sg.wrt (fun hp => by simp [r2]) (by simpa using hsn), OkH.of_cw fok_spec_l12Bent (head _ ?_)⟩
    simp only [code_spec_l12Bent, tl2]
    refine cw_seq (cw_seq (go_ok hT ?_))
    simp [List.replicate, gc, cells_inj, hcb1, hb]
    refine cw_block (goC_ok hT p ?_)
    simp [List.replicate, b1, fp, fs, f5', fa, fL5, fLa, fe, fel, hl, hpos, h0, hie, cells_inj, hc1, isH, needs1, hpG]
    refine ⟨c1.step, [2, 1, 0, 3], rfl, rfl, by decide, by decide, hc1, ?_⟩
    have x5 := fx.g5
    obtain ⟨xu, xv, x4⟩ := fx.g4
    have xl := (List.getElem?_eq_some_iff.1 x4).1
    simp only [List.length_set] at x5
    generalize hX : (G.set p c1.step.step.cells).set a (.row true 61 4 (els.set 0 (.agg [.slref (P 0) 0 s.nodes[0].vars.length s.nodes[0].vars.length, .slref (Q 0) 0 s.nodes[0].reach.length s.nodes[0].reach.length, .int .i64 s.nodes[0].shared, .int .i64 (pickI c1.step [2, 1, 0, 3])]))) = X at *
    refine go_ok tab_nil ?_
    simp [List.replicate, x5, x4]
    exact ⟨_, Weak.refl _ _, by simp [retH, gs4, xl]⟩
  rw [if_neg b1] at e12
  by_cases b2 : b = 2
  · rw [if_pos b2] at e12
    unfold setN at e12
    rw [dif_pos hpos] at e12
    rw [e12]
    have fx := (fg.setCur c1.step.step).setVars hpos (s.nodes[0].vars.set 0 (pickI c1.step [0, 1, 2, 3])) (by simp)
    refine ⟨a, _, d, _, _, fx.fin (.slref a 0 s.nodes.length s.nodes.length) (.slref d 0 s.next.length s.next.length), (fx.set4 _ _).sg.wrt (fun hp => by simp [r2]) (by simpa using hsn), OkH.of_cw fok_spec_l12Bent (head _ ?_)⟩
    simp only [code_spec_l12Bent, tl2]
    refine cw_seq (cw_seq (go_ok hT ?_))
    simp [List.replicate, gc, cells_inj, hcb1, hb]
    refine cw_block (goC_ok hT p ?_)
    simp [List.replicate, b2, fp, fs, f5', fa, fP, fL5, fLa, fLP, fe, fel, hl, hpos, h0, hie, cells_inj, hc1, isH, needs1, hpG, r1]
    refine ⟨c1.step, [0, 1, 2, 3], rfl, rfl, by decide, by decide, hc1, ?_⟩
    have hE : (s.nodes[0].vars.set 0 (pickI c1.step [0, 1, 2, 3])).map encInt = (s.nodes[0].vars.map encInt).set 0 (.int .i64 (pickI c1.step [0, 1, 2, 3])) := by simp [List.map_set]
    rw [hE] at fx
    have x5 := fx.g5
    obtain ⟨xu, xv, x4⟩ := fx.g4
    have xl := (List.getElem?_eq_some_iff.1 x4).1
    simp only [List.length_set] at x5
    generalize hX : (G.set p c1.step.step.cells).set (P 0) (.row true 3 1 ((s.nodes[0].vars.map encInt).set 0 (.int .i64 (pickI c1.step [0, 1, 2, 3])))) = X at *
    refine go_ok tab_nil ?_
    simp [List.replicate, x5, x4]
    exact ⟨_, Weak.refl _ _, by simp [retH, gs4, xl]⟩
  rw [if_neg b2] at e12
  by_cases b3 : b = 3
  · rw [if_pos b3] at e12
    unfold setN at e12
    rw [dif_pos hpos] at e12
    rw [e12]
    have f0 := fg.setCur c1.step
    obtain ⟨n1, n2, n3, n4, n5, n6, n7, n8⟩ := fg.nodup_a
    have hpa : p ≠ a := by have := fg.la; omega
    have hla := (List.getElem?_eq_some_iff.1 ga).1
    let X : List Blk := (G.set p c1.step.cells).set a (.row true 61 4 (els.set 0 (.agg [.slref (P 0) 0 s.nodes[0].vars.length s.nodes[0].vars.length, .slref (Q 0) 1 2 3, .int .i64 s.nodes[0].shared, .int .i64 s.nodes[0].many])))
    have hX : X = (G.set p c1.step.cells).set a (.row true 61 4 (els.set 0 (.agg [.slref (P 0) 0 s.nodes[0].vars.length s.nodes[0].vars.length, .slref (Q 0) 1 2 3, .int .i64 s.nodes[0].shared, .int .i64 s.nodes[0].many]))) := rfl
    have xg : ∀ j, a ≠ j → X[j]? = (G.set p c1.step.cells)[j]? := fun j hj => get_set_ne hj
    have xa : X[a]? = some (.row true 61 4 (els.set 0 (.agg [.slref (P 0) 0 s.nodes[0].vars.length s.nodes[0].vars.length, .slref (Q 0) 1 2 3, .int .i64 s.nodes[0].shared, .int .i64 s.nodes[0].many]))) := by
      rw [hX, List.getElem?_set_self (by simpa using hla)]
    have x5 : X[b5]? = some (.cells [.slref a 0 s.nodes.length s.nodes.length, .slref d 0 s.next.length s.next.length]) := by rw [xg _ n3]; exact f5' _
    have x4 : X[H.length + 2]? = some (.cells [u4, v4]) := by rw [xg _ n2]; exact f4' _
    have xl := (List.getElem?_eq_some_iff.1 x4).1
    refine ⟨a, s.nodes.length, d, s.next.length, X.set (H.length + 2) (.cells [.slref a 0 s.nodes.length s.nodes.length, .slref d 0 s.next.length s.next.length]), ⟨?_, ?_, ?_, ?_⟩, ?_, OkH.of_cw fok_spec_l12Bent (head _ ?_)⟩
    · rw [get_set_ne (by omega), xg _ (Ne.symm hpa)]; exact fp _
    · rw [List.length_set]; omega
    · intro j hj hjp
      rw [get_set_ne (by omega), xg _ (by have := fg.la; omega), get_set_ne (Ne.symm hjp)]; exact fg.old j hj hjp
    · intro G' hG'
      rw [List.length_set] at hG'
      have ne2 : ∀ j, H.length + 2 ≠ j → ∀ z, (X.set (H.length + 2) z)[j]? = X[j]? := fun j hj z => get_set_ne hj
      have hXl : X.length = G.length := by rw [hX]; simp
      have lt : ∀ {j k}, G[j]? = some k → j < X.length := fun e => by rw [hXl]; exact (List.getElem?_eq_some_iff.1 e).1
      have nX : NIx G' els s.nodes P Q := fg.nix.congr fun j hj => by
        obtain ⟨l, e⟩ := fg.nix.is1 hj
        have hge := own_ge fg.lo hj
        rw [hG' j hge (lt e), ne2 _ (fun e' => n7 (e' ▸ hj)), xg _ (fun e' => n6 (e' ▸ hj)), fge _ hge]
      refine ⟨?_, ?_⟩
      · have := lend_cut nX hpos r2 (a := a) (by rw [hG' a fg.la (lt ga), ne2 _ (Ne.symm n2)]; exact xa)
        simpa using this
      · have e : G'[d]? = some (.row true 3 1 (s.next.map encInt)) := by rw [hG' d fg.ld (lt fg.nxt), ne2 _ (Ne.symm n4), xg _ n1]; exact fd _
        simp [lendC, e]
    · have k := ((fg.setCur c1.step).set4 (.slref a 0 s.nodes.length s.nodes.length) (.slref d 0 s.next.length s.next.length)).sg.cutWrt hpos r2 (hsn hpos)
      rw [setN_pos hpos] at k
      rw [hX, List.set_comm _ _ n2]
      exact k
    simp only [code_spec_l12Bent, tl2]
    refine cw_seq (cw_seq (go_ok hT ?_))
    simp [List.replicate, gc, cells_inj, hcb1, hb]
    refine cw_block (go_ok tab_nil ?_)
    simp [List.replicate, b3, fp, fs, f5', fa, fQ, fe, fel, hl, hpos, h0, hie, hpG, r2]
    rw [← hX]
    refine go_ok tab_nil ?_
    simp [List.replicate, x5, x4]
    exact ⟨_, Weak.refl _ _, by simp [retH, gs4, xl]⟩
  rw [if_neg b3] at e12
  rw [e12]
  refine ⟨a, s.nodes.length, d, s.next.length, _, (fg.setCur c1.step).fin (.slref a 0 s.nodes.length s.nodes.length) (.slref d 0 s.next.length s.next.length), ((fg.setCur c1.step).set4 _ _).sg.wrt hsr hsn, OkH.of_cw fok_spec_l12Bent (head _ ?_)⟩
  simp only [code_spec_l12Bent, tl2]
  refine cw_seq (cw_seq (go_ok hT ?_))
  simp [List.replicate, gc, cells_inj, hcb1, hb]
  refine cw_block (go_ok tab_nil ?_)
  simp [List.replicate, b0, b1, b2, b3]
  refine go_ok tab_nil ?_
  simp [List.replicate, f5', f4']
  exact ⟨_, Weak.refl _ _, by simp [retH, gs4, hl4]⟩
end Go.Vm
namespace Go.Vm
open Go.Proofs
end Go.Vm
