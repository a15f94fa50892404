/- The reference's draws for the laws on formulas' values. No condition. -/
import Derived.Test.YtfelkhckpfjgjaaTKO
import Derived.Test.YtfelkhckpfjgjaaTGM
import Derived.Test.YtfelkhckpfjgjaaTPT
import Derived.Test.YtfelkhckpfjgjaaTRZ
set_option linter.unusedSimpArgs false
set_option linter.unusedVariables false
namespace Go.Vm
open Go.Proofs
def bent10 (c : Cur) : Cur × Fm :=
  match draw10 4 c with
  | (e, .mk kind k u v l) =>
    if e.below 10 = 0 then (e.step.step, .mk (e.step.below 15 - 1) k u v l)
    else if e.below 10 = 1 then (e.step.step, .mk kind (pickI e.step [1, 3, -1]) u v l)
    else if e.below 10 = 2 then (e.step.step, .mk kind k (pickI e.step [3, 4, -1]) v l)
    else if e.below 10 = 3 then (e.step, .mk kind k u v (l ++ [.mk 1 0 0 0 []]))
    else (e.step, .mk kind k u v l)
theorem bent10_def {c e : Cur} {kind k u v : Int} {l : List Fm} (h : draw10 4 c = (e, .mk kind k u v l)) : bent10 c =
    if e.below 10 = 0 then (e.step.step, .mk (e.step.below 15 - 1) k u v l)
    else if e.below 10 = 1 then (e.step.step, .mk kind (pickI e.step [1, 3, -1]) u v l)
    else if e.below 10 = 2 then (e.step.step, .mk kind k (pickI e.step [3, 4, -1]) v l)
    else if e.below 10 = 3 then (e.step, .mk kind k u v (l ++ [.mk 1 0 0 0 []]))
    else (e.step, .mk kind k u v l) := by unfold bent10; rw [h]
theorem sizes_app : ∀ (a b : List Fm), sizes (a ++ b) = sizes a + sizes b
  | [], b => by simp [sizes]
  | x :: xs, b => by simp only [List.cons_append, sizes, sizes_app xs b]; omega
theorem bent10_ok (c : Cur) : (bent10 c).1.buf = c.buf ∧ (bent10 c).2.size ≤ 100 := by
  have h1 := draw10_buf 4 c
  have h2 := draw10_size 4 c
  rcases hE : draw10 4 c with ⟨e, f⟩
  obtain ⟨kind, k, u, v, l⟩ := f
  rw [bent10_def hE]
  rw [hE] at h1 h2
  have h2 : 1 + sizes l ≤ 81 := by simpa [Fm.size] using h2
  simp only at h1
  (repeat' split) <;> exact ⟨h1, by simp [Fm.size, sizes_app, sizes]; omega⟩
@[simp] def ct_l1PickIntR : CtH := ⟨62, Nat × Cur × Nat × Nat × List Int, fun x H => H[x.1]? = some x.2.1.cells ∧ 0 < x.2.2.2.2.length ∧ x.2.2.2.2.length ≤ 256 ∧ x.2.1.buf.length ≤ 1048576 ∧ x.1 ≠ x.2.2.1 ∧ H[x.2.2.1]? = some (.row true x.2.2.2.1 1 (x.2.2.2.2.map encInt)), fun x => [.pbox x.1 0, .slref x.2.2.1 0 x.2.2.2.2.length x.2.2.2.2.length], fun x _ => .int .i64 (pickI x.2.1 x.2.2.2.2), fun x H => H.set x.1 x.2.1.step.cells⟩
set_option maxHeartbeats 1000000 in
theorem ok_l1PickIntR : ct_l1PickIntR.Ok Try.prog := by
  rintro ⟨p, c, q, el, xs⟩ H ⟨h1, h2, h3, h4, hpq, h5⟩
  change H[p]? = some c.cells at h1
  change 0 < xs.length at h2
  change xs.length ≤ 256 at h3
  change c.buf.length ≤ 1048576 at h4
  change p ≠ q at hpq
  change H[q]? = some (.row true el 1 (xs.map encInt)) at h5
  have hb := below_lt c (n := xs.length) (by omega)
  obtain ⟨i, hi⟩ : ∃ i : Nat, c.below xs.length = i := ⟨(c.below xs.length).toNat, by omega⟩
  have hl : i < xs.length := by omega
  have e : pickI c xs = xs[i] := by unfold pickI; rw [hi]; simp [List.getD_eq_getElem?_getD, hl]
  have hq : ∀ x, (H.set p x)[q]? = some (.row true el 1 (xs.map encInt)) := fun x => by rw [List.getElem?_set_ne hpq]; exact h5
  refine OkH.of_cw' fok_spec_l1PickInt (go_ok (tab_h ok_below tab_nil) ?_)
  simp [code_spec_l1PickInt, List.replicate, retH, e, hl]
  refine ⟨by rw [h5]; simp, c, h1, by omega, by omega, h4, ?_⟩
  simp [hi, hl, hq, retH]
theorem fm_one (m : Nat → Blk → Bool) (G : List Blk) (n : Nat) : lendEls m G n [.agg [.int .i64 1, .int .i64 0, .int .i64 0, .int .i64 0, .sl .nil 0 []]] = some ([Fm.mk 1 0 0 0 []].map encFm) := by
  simp only [lendEls, lendCs, lendC, List.map_cons, List.map_nil]
  simp
theorem fm_app (m : Nat → Blk → Bool) (G : List Blk) (n : Nat) : ∀ l : List Fm, lendEls m G n (l.map encFm ++ [.agg [.int .i64 1, .int .i64 0, .int .i64 0, .int .i64 0, .sl .nil 0 []]]) = some ((l ++ [Fm.mk 1 0 0 0 []]).map encFm)
  | [] => fm_one m G n
  | x :: l => by
    have := fm_app m G n l
    rw [List.map_cons, List.cons_append, encFm_lendEls, this]; rfl
def code_spec_l10Bent : F := ⟨35,[.cell 5 true 2],.seq (.reg [⟨some 2,.alloc [(.int .i64 0),(.int .i64 0),(.int .i64 0),(.int .i64 0),(.sl .nil 0 [])],none⟩]) (.seq (.reg [⟨some 4,.mov (.t 0),none⟩,⟨some 5,.call 59 [.t 4,(.k (.int .i64 4))],none⟩,⟨some 3,.alloc [(.int .i64 0),(.int .i64 0),(.int .i64 0),(.int .i64 0),(.sl .nil 0 [])],none⟩,⟨none,.store 5 (.t 3) (.t 5),none⟩]) (.seq (.seq (.reg [⟨some 6,.mov (.t 0),none⟩,⟨some 7,.call 39 [.t 6,(.k (.int .i64 10))],none⟩]) (.block 0 (.seq (.reg [⟨some 9,.bin .eql (.t 7) (.k (.int .i64 0)),none⟩,⟨some 8,.mov (.t 9),none⟩]) (.cond (.t 8) (.reg [⟨some 10,.mov (.t 0),none⟩,⟨some 11,.call 39 [.t 10,(.k (.int .i64 15))],none⟩,⟨some 12,.bin .sub (.t 11) (.k (.int .i64 1)),none⟩,⟨some 13,.faddr 0 (.t 3),none⟩,⟨none,.store 1 (.t 13) (.t 12),none⟩]) (.seq (.reg [⟨some 15,.bin .eql (.t 7) (.k (.int .i64 1)),none⟩,⟨some 14,.mov (.t 15),none⟩]) (.cond (.t 14) (.reg [⟨some 16,.mov (.t 0),none⟩,⟨some 17,.bsl 3 1 3 (.int .i64 0) [(0,(.k (.int .i64 1))),(1,(.k (.int .i64 3))),(2,(.k (.int .i64 (-1))))],none⟩,⟨some 18,.call 62 [.t 16,.t 17],none⟩,⟨some 19,.faddr 1 (.t 3),none⟩,⟨none,.store 1 (.t 19) (.t 18),none⟩]) (.seq (.reg [⟨some 21,.bin .eql (.t 7) (.k (.int .i64 2)),none⟩,⟨some 20,.mov (.t 21),none⟩]) (.cond (.t 20) (.reg [⟨some 22,.mov (.t 0),none⟩,⟨some 23,.bsl 3 1 3 (.int .i64 0) [(0,(.k (.int .i64 3))),(1,(.k (.int .i64 4))),(2,(.k (.int .i64 (-1))))],none⟩,⟨some 24,.call 62 [.t 22,.t 23],none⟩,⟨some 25,.faddr 2 (.t 3),none⟩,⟨none,.store 1 (.t 25) (.t 24),none⟩]) (.seq (.reg [⟨some 27,.bin .eql (.t 7) (.k (.int .i64 3)),none⟩,⟨some 26,.mov (.t 27),none⟩]) (.cond (.t 26) (.reg [⟨some 28,.faddr 4 (.t 3),none⟩,⟨some 29,.load 1 false (.t 28),none⟩,⟨some 30,.build [(.int .i64 0),(.int .i64 0),(.int .i64 0),(.int .i64 0),(.sl .nil 0 [])] [(0,1,(.k (.int .i64 1)))],none⟩,⟨some 31,.bsl 46 5 1 (.agg [(.int .i64 0),(.int .i64 0),(.int .i64 0),(.int .i64 0),(.sl .nil 0 [])]) [(0,.t 30)],none⟩,⟨some 32,.append 46 5 56 (.t 29) (.t 31),none⟩,⟨some 33,.faddr 4 (.t 3),none⟩,⟨none,.store 1 (.t 33) (.t 32),none⟩]) (.skip))))))))))) (.seq (.reg [⟨some 34,.load 5 true (.t 3),none⟩,⟨none,.store 5 (.t 2) (.t 34),none⟩]) (.ret))))⟩
theorem fok_spec_l10Bent : FOk Try.prog 61 code_spec_l10Bent := fok Try.func61 (by kernel_rfl)
def tl2b : C → C
  | .seq _ (.seq _ x) => x
  | c => c
def tl3b : C → C
  | .seq _ (.seq _ (.seq _ x)) => x
  | c => c
@[simp] def ct_l10Bent : CtH := ⟨61, Nat × Cur, fun x H => x.2.buf.length ≤ 1048576 ∧ H[x.1]? = some x.2.cells, fun x => [.pbox x.1 0], fun x _ => encFm (bent10 x.2).2, fun x H => H.set x.1 (bent10 x.2).1.cells⟩
set_option maxHeartbeats 8000000 in
set_option maxRecDepth 100000 in
theorem ok_l10Bent : ct_l10Bent.Ok Try.prog := by
  rintro ⟨p, c⟩ H ⟨hbuf, hp⟩
  change c.buf.length ≤ 1048576 at hbuf
  change H[p]? = some c.cells at hp
  have hpl : p < H.length := (List.getElem?_eq_some_iff.1 hp).1
  have hT : TabOk Try.prog _ := tab_h (ok_l10DrawR 4 (by omega)) (tab_h ok_below (tab_h ok_l1PickIntR tab_nil))
  have hH : H = H.set p c.cells := (set_same hp).symm
  have hgp : ∀ x T, (H.set p x ++ T)[p]? = some x := fun x T => by rw [List.getElem?_append_left (by simpa using hpl), List.getElem?_set_self hpl]
  have hsp : ∀ x y T, (H.set p x ++ T).set p y = H.set p y ++ T := fun x y T => by rw [List.set_append_left _ _ (by simpa using hpl), List.set_set]
  have hsl : ∀ x : Blk, (H.set p x).length = H.length := fun x => by simp
  have hga : ∀ x T k, (H.set p x ++ T)[H.length + k]? = T[k]? := fun x T k => get_at (hsl x)
  have hsa : ∀ x T k y, (H.set p x ++ T).set (H.length + k) y = H.set p x ++ T.set k y := fun x T k y => set_at (hsl x)
  have hg0 : ∀ x T, (H.set p x ++ T)[H.length]? = T[0]? := fun x T => hga x T 0
  have hs0 : ∀ x T y, (H.set p x ++ T).set H.length y = H.set p x ++ T.set 0 y := fun x T y => hsa x T 0 y
  have hdb := draw10_buf 4 c
  have hds := draw10_size 4 c
  refine OkH.of_self fun hB => ?_
  suffices fin : ∃ (a b d f : Int) (q n : Nat) (X : List Blk), OkH Try.prog 61 [.pbox p 0] H (.agg [.int .i64 a, .int .i64 b, .int .i64 d, .int .i64 f, .slref (H.length + q) 0 n n]) (H.set p (bent10 c).1.cells ++ X) ∧ ∃ l', (bent10 c).2 = .mk a b d f l' ∧ n = l'.length ∧ (X[q]? = some (argB l') ∨ ∃ els, X[q]? = some (.row true 46 5 els) ∧ els.length = n ∧ ∀ m G, lendEls m G 19 els = some (l'.map encFm)) by
    obtain ⟨a, b, d, f, q, n, X, ok, l', e1, e2, e3⟩ := fin
    refine OkH.weak ok ?_
    simp only [ct_l10Bent]
    rw [e1]
    have hw := weak_sealH (n0 := H.length) (H := H.set p (bent10 c).1.cells) (X := X) (X' := []) (t := [.agg [.int .i64 a, .int .i64 b, .int .i64 d, .int .i64 f, .slref (H.length + q) 0 n n]]) (t' := [encFm (.mk a b d f l')]) 0 (selfB_set hB (curB _)) (by simp) .nil (.cons ?_ .nil)
    · rw [List.append_nil] at hw; exact hw
    · have e4 : encFm (.mk a b d f l') = .agg [.int .i64 a, .int .i64 b, .int .i64 d, .int .i64 f, encL 5 encFm l'] := by simp
      rw [e4]
      show All2 (SlC _ _) [_, _, _, _, _] [_, _, _, _, encL 5 encFm l']
      refine .cons (.inr (.inl ⟨rfl, rfl⟩)) (.cons (.inr (.inl ⟨rfl, rfl⟩)) (.cons (.inr (.inl ⟨rfl, rfl⟩)) (.cons (.inr (.inl ⟨rfl, rfl⟩)) (.cons (.inr (.inr ?_)) .nil))))
      subst e2
      rcases e3 with e3 | ⟨els, e3, e5, e6⟩
      · cases l' with
        | nil => simp [lendC, hga, e3, argB]
        | cons x l' =>
          simp only [lendC, hga, e3, argB]
          simp
          first | rfl | exact ⟨_, lendEls_map, rfl⟩
      · simp only [lendC, hga, e3]
        rw [if_pos ⟨by simp, e5, by omega⟩, List.drop_zero, List.take_of_length_le (by omega), e6]
        rfl
  rcases hE : draw10 4 c with ⟨e, f⟩
  obtain ⟨kind, k, u, v, l⟩ := f
  have hD := bent10_def hE
  rw [hE] at hdb hds
  have hds : 1 + sizes l ≤ 81 := by simpa [Fm.size] using hds
  have hll := sizes_len l
  simp only at hdb
  have heb : e.buf.length ≤ 1048576 := by rw [hdb]; exact hbuf
  have heb1 : e.step.buf.length ≤ 1048576 := heb
  generalize bent10 c = R at *
  have hx15 := below_lt e.step (n := 15) (by omega)
  have hw15 : IntKind.i64.wrap (e.step.below 15 - 1) = e.step.below 15 - 1 := by rw [wrap_i64] <;> omega
  have head : ∀ Q, CW Try.prog H.length (tl2b code_spec_l10Bent.c) Q ⟨slots 35 [(0, .pbox p 0), (2, .pbox (H.length + 1) 0), (3, .pbox (H.length + 8) 0)], H.set p e.cells ++ [.nrow, .cells [.int .i64 0, .int .i64 0, .int .i64 0, .int .i64 0, .slref H.length 0 0 0], .dead, .dead, .dead, .dead, argB l, .dead, .cells [.int .i64 kind, .int .i64 k, .int .i64 u, .int .i64 v, .slref (H.length + 6) 0 l.length l.length]]⟩ →
      CW Try.prog H.length code_spec_l10Bent.c Q ⟨frame code_spec_l10Bent.nt [.pbox p 0], H⟩ := by
    intro Q hQ
    simp only [code_spec_l10Bent, tl2b] at hQ
    simp only [code_spec_l10Bent, frame, List.length_cons, List.length_nil, List.replicate, Nat.reduceSub, Nat.reduceAdd, List.cons_append, List.nil_append]
    refine cw_seq (go_ok hT ?_); simp [List.replicate, getHk, getH0, setHk, setH0, Nat.add_assoc]
    rw [hH]
    simp only [hsl]
    refine cw_seq (go_ok hT ?_); simp [List.replicate, hgp, hsp, hbuf, hsl, hga, hsa, hg0, hs0, Nat.add_assoc, cells_inj]
    refine ⟨c, hbuf, rfl, ?_⟩
    simp only [hE]
    simp [hsp, rowsF, hga, hsa, Nat.add_assoc]
    exact cw_weak (weak_less (by simp) (by simp [List.replicate])) hQ
  simp only [code_spec_l10Bent, tl2b] at head
  have done : ∀ (a b d f : Int) (q n : Nat) (t : List AV) (X : List Blk), All2 LessS t (slots 35 [(2, .pbox (H.length + 1) 0), (3, .pbox (H.length + 8) 0)]) → X[1]? = some (.cells [.int .i64 0, .int .i64 0, .int .i64 0, .int .i64 0, .slref H.length 0 0 0]) →
      X[8]? = some (.cells [.int .i64 a, .int .i64 b, .int .i64 d, .int .i64 f, .slref (H.length + q) 0 n n]) →
      CW Try.prog H.length (tl3b code_spec_l10Bent.c) (fun e st => ∃ st', Weak H.length st st' ∧ retH [Res.cell 5 true 2] (.agg [.int .i64 a, .int .i64 b, .int .i64 d, .int .i64 f, .slref (H.length + q) 0 n n]) (H.set p R.1.cells ++ X.set 1 (.cells [.int .i64 a, .int .i64 b, .int .i64 d, .int .i64 f, .slref (H.length + q) 0 n n])) e st') ⟨t, H.set p R.1.cells ++ X⟩ := by
    intro a b d f q n t X ht h1 h8
    have hl1 := (List.getElem?_eq_some_iff.1 h1).1
    refine cw_weak (weak_less (n0 := H.length) (H' := H.set p R.1.cells ++ X) (by simp) ht) ?_
    simp only [code_spec_l10Bent, tl3b]
    refine cw_seq (go_ok hT ?_); simp [List.replicate, hga, hsa, h1, h8]
    refine go_ok hT ?_; simp [List.replicate]
    exact ⟨_, Weak.refl _ _, by simp [retH, List.replicate, hga, hl1]⟩
  simp only [code_spec_l10Bent, tl3b] at done
  by_cases b0 : e.below 10 = 0
  · rw [if_pos b0] at hD
    subst hD
    refine ⟨_, _, _, _, 6, l.length, [.nrow, .cells [.int .i64 (e.step.below 15 - 1), .int .i64 (k), .int .i64 (u), .int .i64 (v), .slref (H.length + 6) 0 l.length l.length], .dead, .dead, .dead, .dead, argB l, .dead, .cells [.int .i64 (e.step.below 15 - 1), .int .i64 (k), .int .i64 (u), .int .i64 (v), .slref (H.length + 6) 0 l.length l.length]], OkH.of_cw fok_spec_l10Bent (head _ ?_), l, rfl, rfl, .inl rfl⟩
    refine cw_seq (cw_seq (go_ok hT ?_)); simp [List.replicate, hgp, hsp, cells_inj, heb, b0]
    refine cw_block (goC_ok hT p ?_)
    simp [List.replicate, b0, hgp, hsp, hga, hsa, cells_inj, heb1, isH, needs1, hpl, hw15]
    refine done _ _ _ _ 6 l.length _ _ ?_ rfl rfl
    simp [List.replicate]
  by_cases b1 : e.below 10 = 1
  · rw [if_neg b0, if_pos b1] at hD
    subst hD
    refine ⟨_, _, _, _, 6, l.length, [.nrow, .cells [.int .i64 (kind), .int .i64 (pickI e.step [1, 3, -1]), .int .i64 (u), .int .i64 (v), .slref (H.length + 6) 0 l.length l.length], .dead, .dead, .dead, .dead, argB l, .dead, .cells [.int .i64 (kind), .int .i64 (pickI e.step [1, 3, -1]), .int .i64 (u), .int .i64 (v), .slref (H.length + 6) 0 l.length l.length], .row true 3 1 [.int .i64 (1), .int .i64 (3), .int .i64 (-1)]], OkH.of_cw fok_spec_l10Bent (head _ ?_), l, rfl, rfl, .inl rfl⟩
    refine cw_seq (cw_seq (go_ok hT ?_)); simp [List.replicate, hgp, hsp, cells_inj, heb, b1]
    refine cw_block (go_ok hT ?_)
    simp [List.replicate, b1, hgp, hsp, hga, hsa, cells_inj, heb1, isH, needs1, hpl]
    refine ⟨e.step, 3, [1, 3, -1], rfl, rfl, by decide, by decide, heb1, by omega, rfl, rfl, ?_⟩
    refine done _ _ _ _ 6 l.length _ _ ?_ rfl rfl
    simp [List.replicate]
  by_cases b2 : e.below 10 = 2
  · rw [if_neg b0, if_neg b1, if_pos b2] at hD
    subst hD
    refine ⟨_, _, _, _, 6, l.length, [.nrow, .cells [.int .i64 (kind), .int .i64 (k), .int .i64 (pickI e.step [3, 4, -1]), .int .i64 (v), .slref (H.length + 6) 0 l.length l.length], .dead, .dead, .dead, .dead, argB l, .dead, .cells [.int .i64 (kind), .int .i64 (k), .int .i64 (pickI e.step [3, 4, -1]), .int .i64 (v), .slref (H.length + 6) 0 l.length l.length], .row true 3 1 [.int .i64 (3), .int .i64 (4), .int .i64 (-1)]], OkH.of_cw fok_spec_l10Bent (head _ ?_), l, rfl, rfl, .inl rfl⟩
    refine cw_seq (cw_seq (go_ok hT ?_)); simp [List.replicate, hgp, hsp, cells_inj, heb, b2]
    refine cw_block (go_ok hT ?_)
    simp [List.replicate, b2, hgp, hsp, hga, hsa, cells_inj, heb1, isH, needs1, hpl]
    refine ⟨e.step, 3, [3, 4, -1], rfl, rfl, by decide, by decide, heb1, by omega, rfl, rfl, ?_⟩
    refine done _ _ _ _ 6 l.length _ _ ?_ rfl rfl
    simp [List.replicate]
  by_cases b3 : e.below 10 = 3
  · rw [if_neg b0, if_neg b1, if_neg b2, if_pos b3] at hD
    subst hD
    have hbb : (l.length + 1) * 56 ≤ 140737488355328 := by omega
    cases l with
    | nil =>
      refine ⟨_, _, _, _, 6, 1, [.nrow, .cells [.int .i64 kind, .int .i64 k, .int .i64 u, .int .i64 v, .slref (H.length + 6) 0 1 1], .dead, .dead, .dead, .dead, .row true 46 5 [.agg [.int .i64 1, .int .i64 0, .int .i64 0, .int .i64 0, .sl .nil 0 []]], .dead, .cells [.int .i64 kind, .int .i64 k, .int .i64 u, .int .i64 v, .slref (H.length + 6) 0 1 1], .row true 46 5 [.agg [.int .i64 1, .int .i64 0, .int .i64 0, .int .i64 0, .sl .nil 0 []]]], OkH.of_cw fok_spec_l10Bent (head _ ?_), [.mk 1 0 0 0 []], rfl, rfl, .inr ⟨[.agg [.int .i64 1, .int .i64 0, .int .i64 0, .int .i64 0, .sl .nil 0 []]], rfl, rfl, fun m G => fm_one m G 19⟩⟩
      · refine cw_seq (cw_seq (go_ok hT ?_)); simp [List.replicate, hgp, hsp, cells_inj, heb, b3]
        refine cw_block (go_ok hT ?_)
        simp [List.replicate, b3, hgp, hsp, hga, hsa, argB, app1]
        refine done _ _ _ _ 6 1 _ _ ?_ rfl rfl
        simp [List.replicate]
    | cons y l =>
      have hbb : (l.length + 1 + 1) * 56 ≤ 140737488355328 := by simpa using hbb
      refine ⟨_, _, _, _, 6, l.length + 1 + 1, [.nrow, .cells [.int .i64 kind, .int .i64 k, .int .i64 u, .int .i64 v, .slref (H.length + 6) 0 (l.length + 1 + 1) (l.length + 1 + 1)], .dead, .dead, .dead, .dead, .row true 46 5 ((y :: l).map encFm ++ [.agg [.int .i64 1, .int .i64 0, .int .i64 0, .int .i64 0, .sl .nil 0 []]]), .dead, .cells [.int .i64 kind, .int .i64 k, .int .i64 u, .int .i64 v, .slref (H.length + 6) 0 (l.length + 1 + 1) (l.length + 1 + 1)], .row true 46 5 [.agg [.int .i64 1, .int .i64 0, .int .i64 0, .int .i64 0, .sl .nil 0 []]]], OkH.of_cw fok_spec_l10Bent (head _ ?_), (y :: l) ++ [.mk 1 0 0 0 []], rfl, by simp, .inr ⟨(y :: l).map encFm ++ [.agg [.int .i64 1, .int .i64 0, .int .i64 0, .int .i64 0, .sl .nil 0 []]], rfl, by simp, fun m G => fm_app m G 19 (y :: l)⟩⟩
      · refine cw_seq (cw_seq (go_ok hT ?_)); simp [List.replicate, hgp, hsp, cells_inj, heb, b3]
        refine cw_block (go_ok hT ?_)
        simp [List.replicate, b3, hgp, hsp, hga, hsa, argB, app1, hbb]
        refine done _ _ _ _ 6 (l.length + 1 + 1) _ _ ?_ rfl rfl
        simp [List.replicate]
  · rw [if_neg b0, if_neg b1, if_neg b2, if_neg b3] at hD
    subst hD
    refine ⟨_, _, _, _, 6, l.length, [.nrow, .cells [.int .i64 (kind), .int .i64 (k), .int .i64 (u), .int .i64 (v), .slref (H.length + 6) 0 l.length l.length], .dead, .dead, .dead, .dead, argB l, .dead, .cells [.int .i64 (kind), .int .i64 (k), .int .i64 (u), .int .i64 (v), .slref (H.length + 6) 0 l.length l.length]], OkH.of_cw fok_spec_l10Bent (head _ ?_), l, rfl, rfl, .inl rfl⟩
    refine cw_seq (cw_seq (go_ok hT ?_)); simp [List.replicate, hgp, hsp, cells_inj, heb]
    refine cw_block (go_ok hT ?_)
    simp [List.replicate, b0, b1, b2, b3, hgp, hsp, hga, hsa]
    refine done _ _ _ _ 6 l.length _ _ ?_ rfl rfl
    simp [List.replicate]
end Go.Vm
namespace Go.Vm
open Go.Proofs
def ev1 (bs : List UInt8) : Cur × Strc := d12 (cur0 bs)
def ev2 (bs : List UInt8) : Cur × Fm := draw10 4 (ev1 bs).1
def ev3 (bs : List UInt8) : Cur × Strc := if (ev2 bs).1.below 12 = 0 then bent12 (ev2 bs).1.step else ((ev2 bs).1.step, (ev1 bs).2)
def ev4 (bs : List UInt8) : Cur × Fm := if (ev3 bs).1.below 12 = 0 then bent10 (ev3 bs).1.step else ((ev3 bs).1.step, (ev2 bs).2)
def evI (m : Nat) (c : Cur) : Nat → Cur × List Int
  | 0 => (c, [])
  | i + 1 => ((evI m c i).1.step.step, (evI m c i).2 ++ [(evI m c i).1.below (m + 1 : Nat) - (if (evI m c i).1.step.below 8 = 0 then 1 else 0)])
theorem evI_buf (m : Nat) (c : Cur) : ∀ i, (evI m c i).1.buf = c.buf
  | 0 => rfl
  | i + 1 => evI_buf m c i
theorem evI_len (m : Nat) (c : Cur) : ∀ i, (evI m c i).2.length = i
  | 0 => rfl
  | i + 1 => by simp [evI, evI_len m c i]
def evS (bs : List UInt8) : Strc := (ev3 bs).2
def evF (bs : List UInt8) : Fm := (ev4 bs).2
def evN (bs : List UInt8) : List Int := (evI (evS bs).nodes.length (ev4 bs).1.step (pickI (ev4 bs).1 [4, 4, 3, 1]).toNat).2
theorem ev_buf (bs : List UInt8) : (ev1 bs).1.buf = bs ∧ (ev2 bs).1.buf = bs ∧ (ev3 bs).1.buf = bs ∧ (ev4 bs).1.buf = bs := by
  have h0 : ∀ c : Cur, c.step.buf = c.buf := fun _ => rfl
  have h1 : (ev1 bs).1.buf = bs := by unfold ev1; rw [(d12_sh (cur0 bs)).2]; rfl
  have h2 : (ev2 bs).1.buf = bs := by unfold ev2; rw [draw10_buf]; exact h1
  have h3 : (ev3 bs).1.buf = bs := by
    unfold ev3
    by_cases g : (ev2 bs).1.below 12 = 0
    · rw [if_pos g, bent12_buf, h0]; exact h2
    · rw [if_neg g]; simp only; rw [h0]; exact h2
  have h4 : (ev4 bs).1.buf = bs := by
    unfold ev4
    by_cases g : (ev3 bs).1.below 12 = 0
    · rw [if_pos g, (bent10_ok _).1, h0]; exact h3
    · rw [if_neg g]; simp only; rw [h0]; exact h3
  exact ⟨h1, h2, h3, h4⟩
theorem evS_ok (bs : List UInt8) : szStrc (evS bs) ≤ 1048576 ∧ (evS bs).nodes.length ≤ 10 := by
  have h1 := (d12_sh (cur0 bs)).1
  unfold evS ev3
  split
  · exact bent12_sz _
  · exact ⟨(sh12_sz h1).1, by have := h1.n; show (d12 (cur0 bs)).2.nodes.length ≤ 10; omega⟩
theorem evF_ok (bs : List UInt8) : (evF bs).size ≤ 100 := by
  unfold evF ev4
  split
  · exact (bent10_ok _).2
  · have := draw10_size 4 (ev1 bs).1
    have e : 3 ^ 4 = 81 := rfl
    show (draw10 4 (ev1 bs).1).2.size ≤ 100
    omega
theorem pick_n (c : Cur) : ∃ n : Nat, pickI c [4, 4, 3, 1] = n ∧ n ≤ 4 := by
  have hb := below_lt c (n := 4) (by omega)
  have : (c.below 4).toNat = 0 ∨ (c.below 4).toNat = 1 ∨ (c.below 4).toNat = 2 ∨ (c.below 4).toNat = 3 := by omega
  unfold pickI
  rcases this with e | e | e | e
  · exact ⟨4, by show [4, 4, 3, 1].getD (c.below 4).toNat 0 = _; rw [e]; rfl, by omega⟩
  · exact ⟨4, by show [4, 4, 3, 1].getD (c.below 4).toNat 0 = _; rw [e]; rfl, by omega⟩
  · exact ⟨3, by show [4, 4, 3, 1].getD (c.below 4).toNat 0 = _; rw [e]; rfl, by omega⟩
  · exact ⟨1, by show [4, 4, 3, 1].getD (c.below 4).toNat 0 = _; rw [e]; rfl, by omega⟩
theorem evN_len (bs : List UInt8) : (evN bs).length ≤ 4 := by
  obtain ⟨n, h1, h2⟩ := pick_n (ev4 bs).1
  unfold evN
  rw [evI_len, h1]; omega
def code_spec_DrawEvalFormula : F := ⟨51,[.cell 2 true 2,.cell 5 true 3,.tmp 4],.seq (.reg [⟨some 2,.alloc [(.sl .nil 0 []),(.sl .nil 0 [])],none⟩,⟨some 3,.alloc [(.int .i64 0),(.int .i64 0),(.int .i64 0),(.int .i64 0),(.sl .nil 0 [])],none⟩,⟨some 4,.mov (.k (.sl .nil 0 [])),none⟩]) (.seq (.reg [⟨some 11,.mov (.t 0),none⟩,⟨some 12,.call 36 [.t 11],none⟩,⟨some 5,.mov (.t 12),none⟩]) (.seq (.reg [⟨some 13,.mov (.t 5),none⟩,⟨some 14,.call 47 [.t 13,(.k (.int .i64 3))],none⟩,⟨some 6,.alloc [(.sl .nil 0 []),(.sl .nil 0 [])],none⟩,⟨none,.store 2 (.t 6) (.t 14),none⟩]) (.seq (.reg [⟨some 15,.mov (.t 5),none⟩,⟨some 16,.call 59 [.t 15,(.k (.int .i64 4))],none⟩,⟨some 7,.alloc [(.int .i64 0),(.int .i64 0),(.int .i64 0),(.int .i64 0),(.sl .nil 0 [])],none⟩,⟨none,.store 5 (.t 7) (.t 16),none⟩]) (.seq (.seq (.reg [⟨some 17,.mov (.t 5),none⟩,⟨some 18,.call 38 [.t 17,(.k (.int .i64 12))],none⟩]) (.cond (.t 18) (.reg [⟨some 19,.mov (.t 5),none⟩,⟨some 20,.call 60 [.t 19],none⟩,⟨none,.store 2 (.t 6) (.t 20),none⟩]) (.skip))) (.seq (.seq (.reg [⟨some 21,.mov (.t 5),none⟩,⟨some 22,.call 38 [.t 21,(.k (.int .i64 12))],none⟩]) (.cond (.t 22) (.reg [⟨some 23,.mov (.t 5),none⟩,⟨some 24,.call 61 [.t 23],none⟩,⟨none,.store 5 (.t 7) (.t 24),none⟩]) (.skip))) (.seq (.reg [⟨some 25,.bsl 3 1 0 (.int .i64 0) [],none⟩,⟨some 8,.mov (.t 25),none⟩]) (.seq (.reg [⟨some 26,.mov (.t 5),none⟩,⟨some 27,.bsl 3 1 4 (.int .i64 0) [(0,(.k (.int .i64 4))),(1,(.k (.int .i64 4))),(2,(.k (.int .i64 3))),(3,(.k (.int .i64 1)))],none⟩,⟨some 28,.call 62 [.t 26,.t 27],none⟩,⟨some 9,.mov (.t 28),none⟩]) (.seq (.seq (.reg [⟨some 10,.mov (.k (.int .i64 0)),none⟩]) (.block 0 (.loop (.seq (.seq (.reg [⟨some 29,.mov (.t 10),none⟩,⟨some 30,.mov (.t 9),none⟩,⟨some 31,.bin .lss (.t 29) (.t 30),none⟩]) (.cond (.t 31) (.skip) (.exit 0))) (.seq (.block 1 (.reg [⟨some 34,.mov (.t 8),none⟩,⟨some 35,.mov (.t 5),none⟩,⟨some 36,.faddr 0 (.t 6),none⟩,⟨some 37,.load 1 false (.t 36),none⟩,⟨some 38,.len (.t 37),none⟩,⟨some 39,.bin .add (.t 38) (.k (.int .i64 1)),none⟩,⟨some 40,.call 63 [(.k (.int .i64 1)),.t 39],none⟩,⟨some 41,.call 39 [.t 35,.t 40],none⟩,⟨some 42,.mov (.t 5),none⟩,⟨some 43,.call 38 [.t 42,(.k (.int .i64 8))],none⟩,⟨some 44,.call 64 [.t 43],none⟩,⟨some 45,.bin .sub (.t 41) (.t 44),none⟩,⟨some 46,.bsl 3 1 1 (.int .i64 0) [(0,.t 45)],none⟩,⟨some 47,.append 3 1 8 (.t 34) (.t 46),none⟩,⟨some 8,.mov (.t 47),none⟩])) (.reg [⟨some 32,.mov (.t 10),none⟩,⟨some 33,.bin .add (.t 32) (.k (.int .i64 1)),none⟩,⟨some 10,.mov (.t 33),none⟩])))))) (.seq (.dreg [false,false,false,false,false,true] [false,false,false,false,false,false] [⟨some 48,.load 2 true (.t 6),none⟩,⟨some 49,.load 5 true (.t 7),none⟩,⟨some 50,.mov (.t 8),none⟩,⟨none,.store 2 (.t 2) (.t 48),none⟩,⟨none,.store 5 (.t 3) (.t 49),none⟩,⟨some 4,.mov (.t 50),none⟩]) (.ret))))))))))⟩
theorem fok_spec_DrawEvalFormula : FOk Try.prog 21 code_spec_DrawEvalFormula := fok Try.func21 (by kernel_rfl)
@[simp] def ct_DrawEval : Ct := ⟨21, List UInt8, fun bs => bs.length ≤ 1048576, fun bs => [encL 1 encU bs], fun bs => .tup [encStrc (evS bs), encFm (evF bs), encL 1 encInt (evN bs)]⟩
set_option maxHeartbeats 8000000 in
set_option maxRecDepth 100000 in
theorem ok_DrawEval : ct_DrawEval.Ok Try.prog := by
  intro bs hbs
  change List UInt8 at bs
  change bs.length ≤ 1048576 at hbs
  have hT : TabOk Try.prog _ := tab_h ok_l1New (tab_h ok_l12DrawS (tab_h (ok_l10Draw 4 (by omega)) (tab_h ok_once (tab_h ok_l12BentS (tab_h ok_l10Bent (tab_h ok_l1PickIntR (tab_h ok_below (tab_cons ok_l1Max (tab_cons ok_l1Bit tab_nil)))))))))
  obtain ⟨hb1, hb2, hb3, hb4⟩ := ev_buf bs
  obtain ⟨hz1, hz2⟩ := evS_ok bs
  obtain ⟨n, hn1, hn2⟩ := pick_n (ev4 bs).1
  have e1 : d12 (cur0 bs) = ev1 bs := rfl
  have e2 : draw10 4 (ev1 bs).1 = ev2 bs := rfl
  have e3 : ev3 bs = if (ev2 bs).1.below 12 = 0 then bent12 (ev2 bs).1.step else ((ev2 bs).1.step, (ev1 bs).2) := rfl
  have e4 : ev4 bs = if (ev3 bs).1.below 12 = 0 then bent10 (ev3 bs).1.step else ((ev3 bs).1.step, (ev2 bs).2) := rfl
  have e5 : evN bs = (evI (evS bs).nodes.length (ev4 bs).1.step (pickI (ev4 bs).1 [4, 4, 3, 1]).toNat).2 := rfl
  have e6 : evS bs = (ev3 bs).2 := rfl
  have e7 : evF bs = (ev4 bs).2 := rfl
  rw [hn1, Int.toNat_natCast] at e5
  rw [e6] at e5 hz1 hz2
  simp only [ct_DrawEval]
  rw [e5, e6, e7]
  clear e5 e6 e7
  generalize ev1 bs = E1 at *
  generalize ev2 bs = E2 at *
  generalize ev3 bs = E3 at *
  generalize ev4 bs = E4 at *
  obtain ⟨c1, s1⟩ := E1
  obtain ⟨c2, f2⟩ := E2
  obtain ⟨c3, s3⟩ := E3
  obtain ⟨c4, f4⟩ := E4
  simp only at *
  have k1 : c1.buf.length ≤ 1048576 := by rw [hb1]; exact hbs
  have k2 : c2.buf.length ≤ 1048576 := by rw [hb2]; exact hbs
  have k3 : c3.buf.length ≤ 1048576 := by rw [hb3]; exact hbs
  have k4 : c4.buf.length ≤ 1048576 := by rw [hb4]; exact hbs
  have k2s : c2.step.buf.length ≤ 1048576 := k2
  have k3s : c3.step.buf.length ≤ 1048576 := k3
  have k4s : c4.step.buf.length ≤ 1048576 := k4
  refine Ok.of_cw fok_spec_DrawEvalFormula ?_
  simp only [code_spec_DrawEvalFormula, frame, List.length_cons, List.length_nil, List.replicate, Nat.reduceSub, Nat.reduceAdd, List.cons_append, List.nil_append]
  refine cw_seq (go_ok hT ?_); simp [List.replicate]
  refine cw_seq (go_ok hT ?_); simp [List.replicate, hbs, cells_inj]
  refine cw_seq (go_ok hT ?_); simp [List.replicate, hbs, cells_inj]
  refine ⟨cur0 bs, hbs, rfl, ?_⟩
  simp only [e1]
  refine cw_seq (go_ok hT ?_); simp [List.replicate, k1, cells_inj]
  refine ⟨c1, k1, rfl, ?_⟩
  simp only [e2]
  refine cw_to ⟨slots 51 [(2, .pbox 2 0), (3, .pbox 4 0), (4, .sl .nil 0 []), (5, .pbox 5 0), (6, .pbox 8 0), (7, .pbox 10 0)], [.nrow, .nrow, .cells [.slref 0 0 0 0, .slref 1 0 0 0], .nrow, .cells [.int .i64 0, .int .i64 0, .int .i64 0, .int .i64 0, .slref 3 0 0 0], c3.cells, .dead, .dead, .cells [encL 4 encNode s3.nodes, encL 1 encInt s3.next], .dead, .cells [.int .i64 f2.kind, .int .i64 f2.k, .int .i64 f2.u, .int .i64 f2.v, encL 5 encFm f2.args]]⟩ ?_ ?_
  · by_cases g : c2.below 12 = 0
    · rw [if_pos g] at e3
      refine go_ok hT ?_; simp [List.replicate, k2, cells_inj, g]
      refine ⟨c2.step, k2s, rfl, ?_⟩
      rw [← e3]
      exact weak_less (by simp) (by simp [List.replicate])
    · rw [if_neg g] at e3
      cases e3
      refine go_ok hT ?_; simp [List.replicate, k2, cells_inj, g]
      exact weak_less (by simp) (by simp [List.replicate])
  refine cw_to ⟨slots 51 [(2, .pbox 2 0), (3, .pbox 4 0), (4, .sl .nil 0 []), (5, .pbox 5 0), (6, .pbox 8 0), (7, .pbox 10 0)], [.nrow, .nrow, .cells [.slref 0 0 0 0, .slref 1 0 0 0], .nrow, .cells [.int .i64 0, .int .i64 0, .int .i64 0, .int .i64 0, .slref 3 0 0 0], c4.cells, .dead, .dead, .cells [encL 4 encNode s3.nodes, encL 1 encInt s3.next], .dead, .cells [.int .i64 f4.kind, .int .i64 f4.k, .int .i64 f4.u, .int .i64 f4.v, encL 5 encFm f4.args]]⟩ ?_ ?_
  · by_cases g : c3.below 12 = 0
    · rw [if_pos g] at e4
      refine go_ok hT ?_; simp [List.replicate, k3, cells_inj, g]
      refine ⟨c3.step, k3s, rfl, ?_⟩
      rw [← e4]
      exact weak_less (by simp) (by simp [List.replicate])
    · rw [if_neg g] at e4
      cases e4
      refine go_ok hT ?_; simp [List.replicate, k3, cells_inj, g]
      exact weak_less (by simp) (by simp [List.replicate])
  clear e1 e2 e3 e4
  refine cw_seq (go_ok hT ?_); simp [List.replicate]
  refine cw_seq (go_ok hT ?_); simp [List.replicate]
  refine ⟨c4, 3, [4, 4, 3, 1], rfl, rfl, by decide, by decide, k4, rfl, rfl, ?_⟩
  rw [hn1]
  refine cw_weak (weak_less (t' := slots 51 [(2, .pbox 2 0), (3, .pbox 4 0), (4, .sl .nil 0 []), (5, .pbox 5 0), (6, .pbox 8 0), (7, .pbox 10 0), (8, .slref 11 0 0 0), (9, .int .i64 n)]) (H' := [.nrow, .nrow, .cells [.slref 0 0 0 0, .slref 1 0 0 0], .nrow, .cells [.int .i64 0, .int .i64 0, .int .i64 0, .int .i64 0, .slref 3 0 0 0], c4.step.cells, .dead, .dead, .cells [encL 4 encNode s3.nodes, encL 1 encInt s3.next], .dead, .cells [.int .i64 f4.kind, .int .i64 f4.k, .int .i64 f4.u, .int .i64 f4.v, encL 5 encFm f4.args], .row true 3 1 [], .dead]) (by simp) (by simp [List.replicate])) ?_
  generalize hm : s3.nodes.length = m at *
  refine cw_seq (cw_seq (go_ok hT ?_)); simp [List.replicate]
  refine cw_block (cw_round (fun (i : Nat) => ⟨slots 51 [(2, .pbox 2 0), (3, .pbox 4 0), (4, .sl .nil 0 []), (5, .pbox 5 0), (6, .pbox 8 0), (7, .pbox 10 0), (8, .slref 11 0 i i), (9, .int .i64 n), (10, .int .i64 i)], [.nrow, .nrow, .cells [.slref 0 0 0 0, .slref 1 0 0 0], .nrow, .cells [.int .i64 0, .int .i64 0, .int .i64 0, .int .i64 0, .slref 3 0 0 0], (evI m c4.step i).1.cells, .dead, .dead, .cells [encL 4 encNode s3.nodes, encL 1 encInt s3.next], .dead, .cells [.int .i64 f4.kind, .int .i64 f4.k, .int .i64 f4.u, .int .i64 f4.v, encL 5 encFm f4.args], .row true 3 1 ((evI m c4.step i).2.map encInt)]⟩)
    (fun i => i ≤ n) (fun i => n - i) 0 (by simp) ?_ ?_)
  · exact weak_seal 12 (by simp) (by simp [evI, Cur.cells]) (by simp [List.replicate])
  rintro N hN i hi
  change i ≤ n at hi
  have hwi : IntKind.i64.wrap ((i : Int) + 1) = ((i + 1 : Nat) : Int) := by rw [wrap_i64] <;> omega
  have hib : (evI m c4.step i).1.buf.length ≤ 1048576 := by rw [evI_buf]; exact k4s
  have hib2 : (evI m c4.step i).1.step.buf.length ≤ 1048576 := hib
  have hil := evI_len m c4.step i
  by_cases q : i < n
  · have q2 : ¬ n ≤ i := by omega
    have hbb : (i + 1) * 8 ≤ 140737488355328 := by omega
    refine cw_seq (cw_seq (go_ok hT ?_)); simp [List.replicate, q]
    refine go_ok hT ?_; simp [List.replicate]
    have hwm : IntKind.i64.wrap ((m : Int) + 1) = ((m + 1 : Nat) : Int) := by rw [wrap_i64] <;> omega
    have hmx : (1 : Int) ≤ ((m + 1 : Nat) : Int) := by omega
    have hbw := below_lt (evI m c4.step i).1 (n := ((m + 1 : Nat) : Int)) (by omega)
    have hm256 : ((m + 1 : Nat) : Int) ≤ 256 := by omega
    have hmp : (0 : Int) < ((m + 1 : Nat) : Int) := by omega
    refine cw_seq (cw_block (go_ok hT ?_))
    have hmx2 : ¬ (m : Int) + 1 < 1 := by omega
    have hm0 : (0 : Int) ≤ m := by omega
    have hm1 : (m : Int) + 1 ≤ 256 := by omega
    have hm2 : (0 : Int) < (m : Int) + 1 := by omega
    have hwm2 : IntKind.i64.wrap ((m : Int) + 1) = (m : Int) + 1 := by rw [wrap_i64] <;> omega
    have hmx3 : (1 : Int) ≤ (m : Int) + 1 := by omega
    have ebe : (evI m c4.step i).1.below (m + 1 : Nat) = (evI m c4.step i).1.below ((m : Int) + 1) := by rw [Int.natCast_add]; rfl
    have hbw2 := below_lt (evI m c4.step i).1 (n := (m : Int) + 1) (by omega)
    have hwv : IntKind.i64.wrap ((evI m c4.step i).1.below ((m : Int) + 1) - (if (evI m c4.step i).1.step.below 8 = 0 then 1 else 0)) = (evI m c4.step i).1.below ((m : Int) + 1) - (if (evI m c4.step i).1.step.below 8 = 0 then 1 else 0) := by
      split <;> (rw [wrap_i64] <;> omega)
    have his : evI m c4.step (i + 1) = ((evI m c4.step i).1.step.step, (evI m c4.step i).2 ++ [(evI m c4.step i).1.below (m + 1 : Nat) - (if (evI m c4.step i).1.step.below 8 = 0 then 1 else 0)]) := rfl
    rw [ebe] at his
    simp [List.replicate, hm, hwm2, hmx3, hm0, hm1, hm2, cells_inj, hib, hib2, hbb, app1, hil, hwv]
    refine go_ok hT ?_; simp [List.replicate, hwi]
    refine hN i (i + 1) _ (by show i + 1 ≤ n; omega) (by omega) (weak_seal 12 (by simp) ?_ ?_)
    · rw [his, List.take_of_length_le (by simp [hil])]
      simp [Cur.cells]
    · simp [List.replicate]
  · have e : i = n := by omega
    subst e
    refine cw_seq (cw_seq (go_ok hT ?_)); simp [List.replicate]
    refine go_ok hT ?_; simp [List.replicate]
    refine cw_seq (cw_dreg8K hT [] _ [none, none, none, some 2, some 4, none] [[true, true, false, true, false, true, true, true, true, true, true, true], [true, true, false, true, false, true, true, true, true, true, true, true], [true, true, false, true, false, true, true, true, true, true, true, true], [true, true, true, true, false, true, true, true, true, true, true, true], [true, true, false, true, true, true, true, true, true, true, true, true], [true, true, false, true, false, true, true, true, true, true, true, true]] (by rfl) ?_)
    simp [List.replicate]
    refine go_ok hT ?_
    simp [List.replicate]
    refine ⟨hil, _, by rw [List.take_of_length_le (by simp [hil])]; exact lendEls_map, rfl, ?_, rfl⟩
    obtain ⟨a, b, d, f, l⟩ := f4
    simp
end Go.Vm
