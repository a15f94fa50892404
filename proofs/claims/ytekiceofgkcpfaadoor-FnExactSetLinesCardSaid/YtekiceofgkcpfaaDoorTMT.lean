/- Structures marked. No condition. -/
import Derived.Test.YtekiceofgkcpfaaDoorTMS
set_option linter.unusedSimpArgs false
set_option linter.unusedVariables false
namespace Go.Vm
open Go.Proofs
theorem weak_dead0 {n0 lo hi : Nat} {H H' : List Blk} {t t' : List AV} (hB : SelfB H) (ho : outO H H' lo hi) (h1 : lo ≤ hi) (h2 : hi ≤ H.length) (hn : n0 ≤ H.length) (ht : All2 (SlV H.length (H' ++ [])) t t') : Weak n0 ⟨t, H'⟩ ⟨t', deadR lo hi H⟩ := by
  have := weak_dead (X := []) hB ho h1 h2 hn ht
  rwa [List.append_nil] at this
theorem sum_take {l : List Nat} {i : Nat} (h : i < l.length) : (l.take (i + 1)).sum = (l.take i).sum + l[i] := by
  rw [List.take_succ_eq_append_getElem h, List.sum_append]; simp
theorem sum_take_le {l : List Nat} {i : Nat} : (l.take i).sum ≤ l.sum := by
  have := congrArg List.sum (List.take_append_drop i l)
  rw [List.sum_append] at this
  omega
@[simp] def ct_markNS : CtH := ⟨45, Nat × List Nat × Nat × Nat × Int, fun x H => (0 ≤ x.2.2.2.2 ∧ x.2.2.2.2 ≤ 1073741824) ∧ (x.2.1.sum ≤ 1073741824 ∧ x.2.1.length ≤ 1048576) ∧ (x.2.2.1 ≤ x.2.2.2.1 ∧ x.2.2.2.1 ≤ H.length) ∧ rowOk H x.2.2.1 x.2.2.2.1 x.1 x.2.1,
  fun x => [.slref x.1 0 x.2.1.length x.2.1.length, .int .i64 x.2.2.2.2], fun x _ => .int .i64 (x.2.2.2.2 + (x.2.1.sum : Nat)), fun x H => deadR x.2.2.1 x.2.2.2.1 H⟩
set_option maxHeartbeats 4000000 in
set_option maxRecDepth 100000 in
theorem ok_markNS : ct_markNS.Ok Tryd.prog := by
  rintro ⟨b, sz, lo, hi, k⟩ H ⟨⟨h1, h2⟩, ⟨h3, h4⟩, ⟨h5, h6⟩, hrow⟩
  change 0 ≤ k at h1
  change k ≤ 1073741824 at h2
  change sz.sum ≤ 1073741824 at h3
  change sz.length ≤ 1048576 at h4
  change lo ≤ hi at h5
  change hi ≤ H.length at h6
  change rowOk H lo hi b sz at hrow
  refine OkH.of_self fun hB => OkH.of_cw fok_laws_markNodeS (go_ok tab_nil ?_)
  simp [code_laws_markNodeS, List.replicate]
  refine cw_round (fun (p : Nat × List Blk) => ⟨slots 41 [(0, .slref b 0 sz.length sz.length), (1, .int .i64 (k + ((sz.take p.1).sum : Nat))), (5, .int .i64 p.1)], p.2⟩)
    (fun p => p.1 ≤ sz.length ∧ outO H p.2 lo hi ∧ rowOk p.2 lo hi b sz) (fun p => sz.length - p.1) (0, H) ⟨by simp, outO_refl _ _ _, hrow⟩ ?_ ?_
  · exact weak_slots (by simp [List.replicate, less_undef, less_refl])
  · rintro N hN ⟨i, G⟩ ⟨hi', hout, ⟨hb1, hb2⟩, els, hb, hsz, hok⟩
    change i ≤ sz.length at hi'
    change outO H G lo hi at hout
    change G[b]? = some (.row true 93 4 els) at hb
    have hle := sum_take_le (l := sz) (i := i)
    have hel : els.length = sz.length := by rw [← hsz]; simp
    have hw : IntKind.i64.wrap ((i : Int) + 1) = ((i + 1 : Nat) : Int) := by rw [wrap_i64] <;> omega
    by_cases g : i < sz.length
    · have g2 : ¬ sz.length ≤ i := by omega
      have gi : i < els.length := by omega
      obtain ⟨a, r, s, m, he, ha, hr⟩ := hok els[i] (List.getElem_mem gi)
      have hs := sum_take g
      have hsi : sz[i] = nodeSz els[i] := by simp [← hsz]
      have hle2 := sum_take_le (l := sz) (i := i + 1)
      rw [he] at hsi
      obtain ⟨bv, vs, rfl, ⟨v1, v2⟩, hv, v3⟩ := ha
      obtain ⟨br, rs, rfl, ⟨r1, r2⟩, hr0, r3⟩ := hr
      change sz[i] = vs.length + rs.length + 2 at hsi
      generalize hS : (sz.take i).sum = S at *
      have hj : els[i]? = some (.agg [.slref bv 0 vs.length vs.length, .slref br 0 rs.length rs.length, .int .i64 s, .int .i64 m]) := by rw [List.getElem?_eq_getElem gi, he]
      have nbv : bv ≠ b := by rintro rfl; rw [hb] at hv; simp at hv
      have nbr : br ≠ b := by rintro rfl; rw [hb] at hr0; simp at hr0
      refine cw_seq (go_ok tab_nil ?_)
      simp [List.replicate, g, g2, hb, hel]
      have m0 : 0 ≤ k + (S : Int) := by omega
      have m1 : k + (S : Int) ≤ 1099511627776 := by omega
      have m2 : vs.length ≤ 1099511627776 := by omega
      have m3 : rs.length ≤ 1099511627776 := by omega
      have m4 : 0 ≤ k + (S : Int) + vs.length := by omega
      have m5 : k + (S : Int) + vs.length ≤ 1099511627776 := by omega
      have w1 : IntKind.i64.wrap (k + (S : Int) + vs.length + rs.length + 1) = k + S + vs.length + rs.length + 1 := by rw [wrap_i64] <;> omega
      have w2 : IntKind.i64.wrap (k + (S : Int) + vs.length + rs.length + 1 + 1) = k + S + vs.length + rs.length + 2 := by rw [wrap_i64] <;> omega
      refine cw_seq (cw_block ?_)
      refine cw_seq (go_ok (tab_h (ok_markI 3) tab_nil) ?_)
      simp [List.replicate, hb, he, g, hel, m0, m1]
      refine ⟨vs, rfl, m2, hv, ?_⟩
      generalize hG1 : G.set bv (.row true 3 1 (List.map encInt (marks (k + S) vs.length))) = G1
      have hb1' : G1[b]? = some (.row true 93 4 els) := by rw [← hG1, List.getElem?_set_ne nbv, hb]
      have hok1 : ∀ e ∈ els, nodeOk G1 lo hi e := fun e he => by rw [← hG1]; exact nodeOk_set hv (by simp) (hok e he)
      have hout1 : outO H G1 lo hi := by rw [← hG1]; exact outO_set hout v1 v2
      have hr1 : ∃ rs' : List Int, rs'.length = rs.length ∧ G1[br]? = some (.row true 3 1 (rs'.map encInt)) := by
        obtain ⟨c, us, e1, -, e2, -⟩ := sliceOk_set (ws := marks (k + S) vs.length) hv (by simp) ⟨br, rs, rfl, ⟨r1, r2⟩, hr0, r3⟩
        rw [hG1] at e2
        simp only [AV.slref.injEq, true_and, and_self] at e1
        obtain ⟨rfl, e1⟩ := e1
        exact ⟨us, by omega, e2⟩
      clear hG1
      obtain ⟨rs', q1, q2⟩ := hr1
      refine cw_seq (go_ok (tab_h (ok_markI 3) tab_nil) ?_)
      simp [List.replicate, hb1', he, g, hel, m4, m5]
      refine ⟨rs', q1.symm, by omega, q2, ?_⟩
      rw [q1]
      generalize hG2 : G1.set br (.row true 3 1 (List.map encInt (marks (k + S + vs.length) rs.length))) = G2
      have hb2' : G2[b]? = some (.row true 93 4 els) := by rw [← hG2, List.getElem?_set_ne nbr, hb1']
      have hok2 : ∀ e ∈ els, nodeOk G2 lo hi e := fun e he => by rw [← hG2]; exact nodeOk_set q2 (by simp [q1]) (hok1 e he)
      have hout2 : outO H G2 lo hi := by rw [← hG2]; exact outO_set hout1 r1 r2
      clear hG2
      have hbl : b < G2.length := (List.getElem?_eq_some_iff.1 hb2').1
      have gs : ∀ x, (G2.set b x)[b]? = some x := fun x => by simp [hbl]
      have js : ∀ x, (els.set i x)[i]? = some x := fun x => by simp [gi]
      refine cw_seq (go_ok tab_nil ?_)
      simp [List.replicate, hb2', he, g, hel]
      refine cw_seq (go_ok tab_nil ?_)
      simp [List.replicate, w1]
      refine cw_seq (go_ok tab_nil ?_)
      simp [List.replicate, gs, js, g, hel]
      refine go_ok tab_nil ?_
      simp [List.replicate, w2]
      refine go_ok tab_nil ?_
      simp [List.replicate, hw]
      have hs' : k + (((sz.take (i + 1)).sum : Nat) : Int) = k + S + vs.length + rs.length + 2 := by rw [hs, hsi]; omega
      refine hN (i, G) (i + 1, G2.set b (.row true 93 4 (els.set i (.agg [.slref bv 0 vs.length vs.length, .slref br 0 rs.length rs.length, .int .i64 (k + S + vs.length + rs.length), .int .i64 (k + S + vs.length + rs.length + 1)])))) _ ⟨by simp; omega, outO_set hout2 hb1 hb2, ⟨hb1, hb2⟩, _, gs _, ?_, ?_⟩ (by simp; omega) ?_
      · rw [List.map_set, hsz]
        apply set_same
        rw [List.getElem?_eq_getElem g, hsi]
        rfl
      · intro e hem
        rcases List.mem_or_eq_of_mem_set hem with h | rfl
        · exact nodeOk_row hb2' (hok2 e h)
        · obtain ⟨a', r', s', m', e1, e2, e3⟩ := hok2 els[i] (List.getElem_mem gi)
          rw [he] at e1
          simp only [AV.agg.injEq, List.cons.injEq] at e1
          obtain ⟨rfl, rfl, -, -, -⟩ := e1
          exact nodeOk_row hb2' ⟨_, _, _, _, rfl, e2, e3⟩
      · refine weak_slots ?_
        simp only [hs']
        simp [List.replicate, less_undef, less_refl]
    · have e : i = sz.length := by omega
      subst e
      refine go_ok tab_nil ?_
      simp [List.replicate, hw, retH, hb, hel]
      refine ⟨⟨[.undef, .undef, .undef, .undef, .int .i64 (k + (sz.sum : Nat))] ++ List.replicate 36 .undef, _⟩, weak_dead0 hB hout h5 h6 (Nat.le_refl _) ?_, ?_⟩
      · simp [List.replicate]
      · simp [List.replicate]
theorem deadR_app {lo hi : Nat} {H X : List Blk} (h1 : lo ≤ hi) (h2 : hi ≤ H.length) : deadR lo hi (H ++ X) = deadR lo hi H ++ X := by
  unfold deadR
  rw [List.take_append_of_le_length (by omega), List.drop_append_of_le_length h2]
  simp only [List.append_assoc]
theorem selfB_dead {lo hi : Nat} {H : List Blk} (h : SelfB H) (h1 : lo ≤ hi) (h2 : hi ≤ H.length) : SelfB (deadR lo hi H) := by
  intro n hn H2
  rw [deadR_len h1 h2] at hn
  refine all2_self fun k hk => ?_
  obtain ⟨j, hj, rfl⟩ := List.mem_iff_getElem.1 hk
  have e := deadR_get h1 h2 j
  rw [List.getElem?_eq_getElem hj] at e
  split at e
  · obtain ⟨q, q1, q2⟩ := (h n hn H2).get e.symm
    rw [← e] at q1; cases q1
    exact q2
  · have e := Option.some.inj e
    rw [e]
    simp
end Go.Vm
