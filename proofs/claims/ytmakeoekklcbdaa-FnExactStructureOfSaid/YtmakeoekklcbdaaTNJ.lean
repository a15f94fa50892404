/- Nodes marked where they stand. No condition. -/
import Derived.Test.YtmakeoekklcbdaaTNI
set_option linter.unusedSimpArgs false
set_option linter.unusedVariables false
namespace Go.Vm
open Go.Proofs
def aggN (p q : Nat → Nat) (i : Nat) (y : Node) : AV := .agg [.slref (p i) 0 y.vars.length y.vars.length, .slref (q i) 0 y.reach.length y.reach.length, .int .i64 y.shared, .int .i64 y.many]
/-- What marking does, node by node. -/
def runN (b : Nat) (p q : Nat → Nat) : List Node → Nat → Int → List Blk → List AV → List Blk × List AV
  | [], _, _, G, els => (G, els)
  | x :: xs, i, k, G, els => runN b p q xs (i + 1) (k + szM x)
      (((G.set (p i) (.row true 3 1 ((mkdN x k).vars.map encInt))).set (q i) (.row true 3 1 ((mkdN x k).reach.map encInt))).set b (.row true 85 4 (els.set i (aggN p q i (mkdN x k)))))
      (els.set i (aggN p q i (mkdN x k)))
theorem own_ne {H : List Blk} {els l : List AV} {xs : List Node} {p q : Nat → Nat} (h : NIx H els xs p q) {b : Nat} (hb : H[b]? = some (Blk.row true 85 4 l)) {i : Nat} (hi : i < xs.length) : p i ≠ b ∧ q i ≠ b := by
  constructor
  · rintro rfl; rw [h.rp i xs[i] (by simp [hi])] at hb; simp at hb
  · rintro rfl; rw [h.rq i xs[i] (by simp [hi])] at hb; simp at hb
/-- One step. -/
theorem step_ok {G : List Blk} {els : List AV} {ys xs : List Node} {x : Node} {p q : Nat → Nat} {b : Nat} {k : Int} (h : NIx G els (ys ++ x :: xs) p q) (hb : G[b]? = some (Blk.row true 85 4 els)) :
    let G' := (((G.set (p ys.length) (.row true 3 1 ((mkdN x k).vars.map encInt))).set (q ys.length) (.row true 3 1 ((mkdN x k).reach.map encInt))).set b (.row true 85 4 (els.set ys.length (aggN p q ys.length (mkdN x k)))))
    NIx G' (els.set ys.length (aggN p q ys.length (mkdN x k))) ((ys ++ [mkdN x k]) ++ xs) p q ∧ G'[b]? = some (Blk.row true 85 4 (els.set ys.length (aggN p q ys.length (mkdN x k)))) ∧ G'.length = G.length ∧ ∀ j, j ≠ b → ¬ NIx.own (ys ++ x :: xs).length p q j → G'[j]? = G[j]? := by
  intro G'
  have hi : ys.length < (ys ++ x :: xs).length := by simp
  have hx : (ys ++ x :: xs)[ys.length] = x := by simp
  have hs := h.set hi (mkdN x k) (by rw [hx]; simp [mkdN]) (by rw [hx]; simp [mkdN])
  have hbl := (List.getElem?_eq_some_iff.1 hb).1
  refine ⟨?_, by simp [G', hbl], by simp [G'], fun j hj ho => ?_⟩
  · have e : (ys ++ x :: xs).set ys.length (mkdN x k) = (ys ++ [mkdN x k]) ++ xs := by simp
    rw [e] at hs
    refine hs.congr fun j hj => ?_
    refine List.getElem?_set_ne ?_
    rintro rfl
    obtain ⟨i, hi', e'⟩ := hj
    have := own_ne h hb (i := i) (by simpa using hi')
    rcases e' with e' | e'
    · exact this.1 e'.symm
    · exact this.2 e'.symm
  · have h1 : p ys.length ≠ j := fun e => ho ⟨ys.length, hi, .inl e.symm⟩
    have h2 : q ys.length ≠ j := fun e => ho ⟨ys.length, hi, .inr e.symm⟩
    show (List.set _ b _)[j]? = _
    rw [List.getElem?_set_ne (Ne.symm hj), List.getElem?_set_ne h2, List.getElem?_set_ne h1]
theorem runN_ok {p q : Nat → Nat} {b : Nat} : ∀ {xs ys : List Node} {k : Int} {G : List Blk} {els : List AV}, NIx G els (ys ++ xs) p q → G[b]? = some (Blk.row true 85 4 els) →
    NIx (runN b p q xs ys.length k G els).1 (runN b p q xs ys.length k G els).2 (ys ++ mkdNs xs k) p q ∧ (runN b p q xs ys.length k G els).1[b]? = some (Blk.row true 85 4 (runN b p q xs ys.length k G els).2) ∧
      (runN b p q xs ys.length k G els).1.length = G.length ∧ ∀ j, j ≠ b → ¬ NIx.own (ys ++ xs).length p q j → (runN b p q xs ys.length k G els).1[j]? = G[j]?
  | [], ys, k, G, els, h, hb => ⟨h, hb, rfl, fun _ _ _ => rfl⟩
  | x :: xs, ys, k, G, els, h, hb => by
    obtain ⟨s1, s2, s3, s4⟩ := step_ok (k := k) h hb
    have ih := runN_ok (xs := xs) (ys := ys ++ [mkdN x k]) (k := k + szM x) s1 s2
    simp only [List.length_append, List.length_cons, List.length_nil, Nat.zero_add] at ih
    obtain ⟨i1, i2, i3, i4⟩ := ih
    refine ⟨by simpa [mkdNs, runN] using i1, i2, i3.trans s3, fun j hj ho => ?_⟩
    rw [show runN b p q (x :: xs) ys.length k G els = runN b p q xs (ys.length + 1) (k + szM x) _ _ from rfl, i4 j hj (by
      rintro ⟨i, hi, e⟩
      exact ho ⟨i, by simp; omega, e⟩)]
    exact s4 j hj ho
theorem szM_take {l : List Node} {i : Nat} (h : i < l.length) : ((l.take (i + 1)).map szM).sum = ((l.take i).map szM).sum + szM l[i] := by
  rw [List.take_succ_eq_append_getElem h, List.map_append, List.sum_append]; simp
theorem szM_take_le {l : List Node} {i : Nat} : ((l.take i).map szM).sum ≤ (l.map szM).sum := by
  have := congrArg (fun l => (l.map szM).sum) (List.take_append_drop i l)
  simp only [List.map_append, List.sum_append] at this
  omega
set_option maxHeartbeats 4000000 in
set_option maxRecDepth 100000 in
theorem mark_nodes {H : List Blk} {els : List AV} {xs : List Node} {p q : Nat → Nat} {b : Nat} {k : Int} (h : NIx H els xs p q) (hb : H[b]? = some (Blk.row true 85 4 els)) (h1 : 0 ≤ k) (h2 : k ≤ 1073741824) (h3 : (xs.map szM).sum ≤ 1073741824) (h4 : xs.length ≤ 1048576) :
    OkH Try.prog 72 [.slref b 0 xs.length xs.length, .int .i64 k] H (.int .i64 (k + ((xs.map szM).sum : Nat))) (runN b p q xs 0 k H els).1 := by
  refine OkH.of_cw' fok_laws_markNodeS (go_ok tab_nil ?_)
  simp [code_laws_markNodeS, List.replicate]
  refine cw_round (fun (t : Nat × List Blk × List AV) => ⟨slots 41 [(0, .slref b 0 xs.length xs.length), (1, .int .i64 (k + (((xs.take t.1).map szM).sum : Nat))), (5, .int .i64 t.1)], t.2.1⟩)
    (fun t => t.1 ≤ xs.length ∧ NIx t.2.1 t.2.2 (mkdNs (xs.take t.1) k ++ xs.drop t.1) p q ∧ t.2.1[b]? = some (Blk.row true 85 4 t.2.2) ∧ runN b p q (xs.drop t.1) t.1 (k + (((xs.take t.1).map szM).sum : Nat)) t.2.1 t.2.2 = runN b p q xs 0 k H els) (fun t => xs.length - t.1) (0, H, els) ⟨by simp, by simpa [mkdNs] using h, hb, by simp⟩ ?_ ?_
  · exact weak_slots (by simp [List.replicate, less_undef, less_refl])
  · rintro N hN ⟨i, G, fs⟩ ⟨hi, hx, hb, hF⟩
    change i ≤ xs.length at hi
    change NIx G fs (mkdNs (xs.take i) k ++ xs.drop i) p q at hx
    change G[b]? = some (Blk.row true 85 4 fs) at hb
    change runN b p q (xs.drop i) i (k + (((xs.take i).map szM).sum : Nat)) G fs = runN b p q xs 0 k H els at hF
    have hle := szM_take_le (l := xs) (i := i)
    have hw : IntKind.i64.wrap ((i : Int) + 1) = ((i + 1 : Nat) : Int) := by rw [wrap_i64] <;> omega
    have hfl : fs.length = xs.length := by rw [hx.len]; simp [mkdNs_len]; omega
    by_cases g : i < xs.length
    · have g2 : ¬ xs.length ≤ i := by omega
      have gi : i < fs.length := by omega
      have hyl : (mkdNs (xs.take i) k).length = i := by simp [mkdNs_len]; omega
      have hdr : xs.drop i = xs[i] :: xs.drop (i + 1) := List.drop_eq_getElem_cons g
      rw [hdr] at hx hF
      have hs := szM_take g
      have hle2 := szM_take_le (l := xs) (i := i + 1)
      have hxi : (mkdNs (xs.take i) k ++ xs[i] :: xs.drop (i + 1))[i]? = some xs[i] := by
        rw [List.getElem?_append_right (by omega), hyl]; simp
      have he := hx.el i _ hxi
      have hv := hx.rp i _ hxi
      have hr := hx.rq i _ hxi
      have hst := step_ok (k := k + (((xs.take i).map szM).sum : Nat)) hx hb
      rw [hyl] at hst
      obtain ⟨t1, t2, -, -⟩ := hst
      have hlt := (List.getElem?_eq_some_iff.1 hxi).1
      have hne := own_ne hx hb hlt
      have hpq := hx.pq i i hlt hlt
      have hsnoc : mkdNs (xs.take (i + 1)) k = mkdNs (xs.take i) k ++ [mkdN xs[i] (k + (((xs.take i).map szM).sum : Nat))] := by
        rw [List.take_succ_eq_append_getElem g, mkdNs_snoc]
      rw [← hsnoc] at t1
      have hsz : szM xs[i] = xs[i].vars.length + xs[i].reach.length + 2 := rfl
      generalize hS : ((xs.take i).map szM).sum = S at *
      generalize hxe : xs[i] = x at *
      obtain ⟨vs, rs, sh, mn⟩ := x
      simp only at he hv hr hsz
      have hj : fs[i] = .agg [.slref (p i) 0 vs.length vs.length, .slref (q i) 0 rs.length rs.length, .int .i64 sh, .int .i64 mn] := by
        rw [List.getElem?_eq_getElem gi] at he; exact Option.some.inj he
      refine cw_seq (go_ok tab_nil ?_)
      simp [List.replicate, g, g2, hb, hfl]
      have m0 : 0 ≤ k + (S : Int) := by omega
      have m1 : k + (S : Int) ≤ 1099511627776 := by omega
      have m2 : vs.length ≤ 1099511627776 := by omega
      have m3 : rs.length ≤ 1099511627776 := by omega
      have m4 : 0 ≤ k + (S : Int) + vs.length := by omega
      have m5 : k + (S : Int) + vs.length ≤ 1099511627776 := by omega
      have w1 : IntKind.i64.wrap (k + (S : Int) + vs.length + rs.length + 1) = k + S + vs.length + rs.length + 1 := by rw [wrap_i64] <;> omega
      have w2 : IntKind.i64.wrap (k + (S : Int) + vs.length + rs.length + 1 + 1) = k + S + vs.length + rs.length + 2 := by rw [wrap_i64] <;> omega
      refine cw_seq (cw_block ?_)
      refine cw_seq (go_ok (tab_h (ok_markI 3) tab_nil) ?_)
      simp [List.replicate, hb, hj, g, hfl, m0, m1]
      refine ⟨vs, rfl, m2, hv, ?_⟩
      have hb1 : (G.set (p i) (.row true 3 1 (List.map encInt (marks (k + S) vs.length))))[b]? = some (Blk.row true 85 4 fs) := by rw [List.getElem?_set_ne hne.1, hb]
      have hr1 : (G.set (p i) (.row true 3 1 (List.map encInt (marks (k + S) vs.length))))[q i]? = some (.row true 3 1 (rs.map encInt)) := by rw [List.getElem?_set_ne hpq, hr]
      refine cw_seq (go_ok (tab_h (ok_markI 3) tab_nil) ?_)
      simp [List.replicate, hb1, hj, g, hfl, m4, m5]
      refine ⟨rs, rfl, m3, hr1, ?_⟩
      have hb2 : ((G.set (p i) (.row true 3 1 (List.map encInt (marks (k + S) vs.length)))).set (q i) (.row true 3 1 (List.map encInt (marks (k + S + vs.length) rs.length))))[b]? = some (Blk.row true 85 4 fs) := by rw [List.getElem?_set_ne hne.2, hb1]
      simp only [runN, mkdN, aggN, marks_len] at t1 t2 hF
      generalize ((G.set (p i) (.row true 3 1 (List.map encInt (marks (k + S) vs.length)))).set (q i) (.row true 3 1 (List.map encInt (marks (k + S + vs.length) rs.length)))) = G2 at *
      have hbl : b < G2.length := (List.getElem?_eq_some_iff.1 hb2).1
      have gs : ∀ x, (G2.set b x)[b]? = some x := fun x => by simp [hbl]
      have js : ∀ x, (fs.set i x)[i]? = some x := fun x => by simp [gi]
      refine cw_seq (go_ok tab_nil ?_)
      simp [List.replicate, hb2, hj, g, hfl]
      refine cw_seq (go_ok tab_nil ?_)
      simp [List.replicate, w1]
      refine cw_seq (go_ok tab_nil ?_)
      simp [List.replicate, gs, js, g, hfl]
      refine go_ok tab_nil ?_
      simp [List.replicate, w2]
      refine go_ok tab_nil ?_
      simp [List.replicate, hw]
      have hs' : k + ((((xs.take (i + 1)).map szM).sum : Nat) : Int) = k + S + vs.length + rs.length + 2 := by rw [hs, hsz]; omega
      refine hN (i, G, fs) (i + 1, _, fs.set i (.agg [.slref (p i) 0 vs.length vs.length, .slref (q i) 0 rs.length rs.length, .int .i64 (k + S + vs.length + rs.length), .int .i64 (k + S + vs.length + rs.length + 1)])) _ ⟨by simp; omega, t1, t2, ?_⟩ (by simp; omega) ?_
      · rw [← hF]
        simp only
        rw [hs, hsz]
        congr 1
        omega
      · refine weak_slots ?_
        simp only [hs']
        simp [List.replicate, less_undef, less_refl]
    · have e : i = xs.length := by omega
      subst e
      rw [List.drop_length, List.take_length] at hF
      simp only [runN] at hF
      refine go_ok tab_nil ?_
      simp [List.replicate, hw, retH, hb, hfl]
      rw [← hF]
set_option maxHeartbeats 4000000 in
set_option maxRecDepth 100000 in
theorem mark_strc {H : List Blk} {els : List AV} {xs : List Node} {p q : Nat → Nat} {b c : Nat} {ys : List Int} {k : Int} (h : NIx H els xs p q) (hb : H[b]? = some (Blk.row true 85 4 els)) (hc : H[c]? = some (Blk.row true 3 1 (ys.map encInt))) (ho : ¬ NIx.own xs.length p q c)
    (h1 : 0 ≤ k) (h2 : k ≤ 1073741824) (h3 : (xs.map szM).sum ≤ 1073741824) (h4 : xs.length ≤ 1048576) (h5 : ys.length ≤ 1048576) :
    ∃ H2 els2, OkH Try.prog 18 [.agg [.slref b 0 xs.length xs.length, .slref c 0 ys.length ys.length], .int .i64 k] H (.int .i64 (k + ((xs.map szM).sum : Nat) + ys.length)) H2 ∧ H2.length = H.length + 1 ∧
      (∀ j, j ≠ b → j ≠ c → ¬ NIx.own xs.length p q j → j < H.length → H2[j]? = H[j]?) ∧ H2[b]? = some (Blk.row true 85 4 els2) ∧ NIx H2 els2 (mkdNs xs k) p q ∧ H2[c]? = some (Blk.row true 3 1 ((marks (k + ((xs.map szM).sum : Nat)) ys.length).map encInt)) := by
  have hbc : b ≠ c := by rintro rfl; rw [hb] at hc; simp at hc
  have hbl := (List.getElem?_eq_some_iff.1 hb).1
  have hcl := (List.getElem?_eq_some_iff.1 hc).1
  have a1 := h.app [Blk.cells [.slref b 0 xs.length xs.length, .slref c 0 ys.length ys.length]]
  have a2 : (H ++ [Blk.cells [.slref b 0 xs.length xs.length, .slref c 0 ys.length ys.length]])[b]? = _ := (List.getElem?_append_left hbl).trans hb
  have a3 : (H ++ [Blk.cells [.slref b 0 xs.length xs.length, .slref c 0 ys.length ys.length]])[c]? = _ := (List.getElem?_append_left hcl).trans hc
  have aP : (H ++ [Blk.cells [.slref b 0 xs.length xs.length, .slref c 0 ys.length ys.length]])[H.length]? = some (.cells [.slref b 0 xs.length xs.length, .slref c 0 ys.length ys.length]) := by simp
  have aL : (H ++ [Blk.cells [.slref b 0 xs.length xs.length, .slref c 0 ys.length ys.length]]).length = H.length + 1 := by simp
  have aF : ∀ j, j < H.length → (H ++ [Blk.cells [.slref b 0 xs.length xs.length, .slref c 0 ys.length ys.length]])[j]? = H[j]? := fun j hj => List.getElem?_append_left hj
  have hk := mark_nodes a1 a2 h1 h2 h3 h4
  obtain ⟨r1, r2, r3, r4⟩ := runN_ok (ys := []) (k := k) a1 a2
  simp only [List.nil_append, List.length_nil] at r1 r2 r3 r4
  have hPo : ¬ NIx.own xs.length p q H.length := fun ho => by
    obtain ⟨l, e⟩ := a1.is1 ho
    rw [aP] at e; simp at e
  have rc := (r4 c (Ne.symm hbc) ho).trans a3
  have rP := (r4 H.length (by omega) hPo).trans aP
  have rF : ∀ j, j ≠ b → ¬ NIx.own xs.length p q j → j < H.length → (runN b p q xs 0 k (H ++ [Blk.cells [.slref b 0 xs.length xs.length, .slref c 0 ys.length ys.length]]) els).1[j]? = H[j]? := fun j hj ho hl => (r4 j hj ho).trans (aF j hl)
  rw [aL] at r3
  generalize (runN b p q xs 0 k (H ++ [Blk.cells [.slref b 0 xs.length xs.length, .slref c 0 ys.length ys.length]]) els).2 = els2 at *
  generalize (runN b p q xs 0 k (H ++ [Blk.cells [.slref b 0 xs.length xs.length, .slref c 0 ys.length ys.length]]) els).1 = G at *
  have k5 : 0 ≤ k + (((xs.map szM).sum : Nat) : Int) := by omega
  have k6 : k + (((xs.map szM).sum : Nat) : Int) ≤ 1099511627776 := by omega
  have k7 : ys.length ≤ 1099511627776 := by omega
  refine ⟨G.set c (.row true 3 1 ((marks (k + ((xs.map szM).sum : Nat)) ys.length).map encInt)), els2, ?_, by simpa using r3, fun j h1 h2 h3 h4 => by rw [List.getElem?_set_ne (Ne.symm h2), rF j h1 h3 h4], by rw [List.getElem?_set_ne (Ne.symm hbc), r2], ?_, by rw [List.getElem?_set_self (by omega)]⟩
  · refine OkH.of_cw' fok_laws_markStructure ?_
    simp only [code_laws_markStructure, frame, List.length_cons, List.length_nil, List.replicate, Nat.reduceSub, Nat.reduceAdd, List.cons_append, List.nil_append]
    refine cw_seq (go_ok tab_nil ?_); simp
    refine cw_seq (go_ok (tab_h (c := ⟨72, Unit, fun _ H' => H' = H ++ [.cells [.slref b 0 xs.length xs.length, .slref c 0 ys.length ys.length]], fun _ => [.slref b 0 xs.length xs.length, .int .i64 k], fun _ _ => .int .i64 (k + ((xs.map szM).sum : Nat)), fun _ _ => G⟩) (fun _ H' e => by cases e; exact hk) tab_nil) ?_)
    simp [List.replicate]
    refine cw_seq (go_ok (tab_h (ok_markI 3) tab_nil) ?_); simp [List.replicate, rP, k5, k6]
    refine ⟨ys, rfl, k7, rc, ?_⟩
    refine go_ok tab_nil ?_
    simp [List.replicate, retH]
  · refine r1.congr fun j hj => List.getElem?_set_ne ?_
    rintro rfl
    rw [mkdNs_len] at hj
    exact ho hj
end Go.Vm
