/- Lists of structures that are marked: their blocks are given up. No condition. -/
import Derived.Test.YtekiceofgkcpfaaDoorTSN
import Derived.Test.YtekiceofgkcpfaaDoorTYB
set_option linter.unusedSimpArgs false
set_option linter.unusedVariables false
namespace Go.Vm
open Go.Proofs
def code_laws_markStructureS : F := ⟨27, [.tmp 4],
 .seq (.reg [⟨some 4, .mov (.k (.int .i64 0)), none⟩])
 (.seq (.seq (.reg [⟨some 5, .mov (.k (.int .i64 0)), none⟩])
   (.block 0 (.loop (.seq (.seq (.reg [⟨some 6, .mov (.t 5), none⟩,
          ⟨some 7, .mov (.t 0), none⟩,
          ⟨some 8, .len (.t 7), none⟩,
          ⟨some 9, .bin .lss (.t 6) (.t 8), none⟩])
       (.cond (.t 9)
        (.skip)
        (.exit 0)))
      (.seq (.block 1 (.seq (.reg [⟨some 12, .mov (.t 0), none⟩,
            ⟨some 13, .mov (.t 5), none⟩,
            ⟨some 14, .iaddr 2 (.t 12) (.t 13), none⟩,
            ⟨some 15, .faddr 0 (.t 14), none⟩,
            ⟨some 16, .load 1 false (.t 15), none⟩,
            ⟨some 17, .mov (.t 1), none⟩,
            ⟨some 18, .call 45 [(.t 16), (.t 17)], none⟩,
            ⟨some 1, .mov (.t 18), none⟩])
         (.reg [⟨some 19, .mov (.t 0), none⟩,
            ⟨some 20, .mov (.t 5), none⟩,
            ⟨some 21, .iaddr 2 (.t 19) (.t 20), none⟩,
            ⟨some 22, .faddr 1 (.t 21), none⟩,
            ⟨some 23, .load 1 false (.t 22), none⟩,
            ⟨some 24, .mov (.t 1), none⟩,
            ⟨some 25, .call 46 [(.t 23), (.t 24)], none⟩,
            ⟨some 1, .mov (.t 25), none⟩])))
       (.reg [⟨some 10, .mov (.t 5), none⟩,
          ⟨some 11, .bin .add (.t 10) (.k (.int .i64 1)), none⟩,
          ⟨some 5, .mov (.t 11), none⟩]))))))
  (.seq (.reg [⟨some 26, .mov (.t 1), none⟩,
      ⟨some 4, .mov (.t 26), none⟩])
   (.ret)))⟩
theorem fok_laws_markStructureS : FOk Tryd.prog 15 code_laws_markStructureS := fok Tryd.func15 (by kernel_rfl)
def szT (x : Strc) : Nat := (x.nodes.map szN).sum + x.next.length
theorem szT_le (x : Strc) : szT x ≤ 2 * szStrc x := by
  have := szN_sum x.nodes
  unfold szT szStrc
  omega
theorem szTs_le (xs : List Strc) : (xs.map szT).sum ≤ 2 * szStrcs xs := by
  unfold szStrcs
  induction xs with
  | nil => simp
  | cons x xs ih =>
    have := szT_le x
    simp only [List.map_cons, List.sum_cons, List.length_cons] at ih ⊢
    omega
theorem offS_take {xs : List Strc} {i : Nat} (h : i < xs.length) : offS (xs.take (i + 1)) = offS (xs.take i) + lenT xs[i] := by
  rw [List.take_succ_eq_append_getElem h, offS_app]; simp
theorem offS_mono {xs : List Strc} : ∀ {i j : Nat}, i ≤ j → offS (xs.take i) ≤ offS (xs.take j) := by
  intro i j h
  have e : xs.take i = (xs.take j).take i := by rw [List.take_take]; congr 1; omega
  rw [e]
  have := congrArg offS (List.take_append_drop i (xs.take j))
  rw [offS_app] at this
  omega
theorem offS_le {xs : List Strc} {i : Nat} : offS (xs.take i) ≤ offS xs := by
  have := congrArg offS (List.take_append_drop i xs)
  rw [offS_app] at this
  omega
theorem laidS_get : ∀ (b : Nat) (xs : List Strc) (i : Nat) (h : i < (laidS b xs).length) (h2 : i < xs.length), (laidS b xs)[i] = sh (b + offS (xs.take i)) (strcAt xs[i])
  | b, [], i, h, h2 => by simp at h2
  | b, x :: xs, 0, h, h2 => by simp [laidS]
  | b, x :: xs, i + 1, h, h2 => by
    simp only [laidS, List.getElem_cons_succ, List.take_succ_cons, offS_cons]
    rw [laidS_get (b + lenT x) xs i (by simpa [laidS] using h) (by simpa using h2), Nat.add_assoc]
/-- The structures of a list stand in a heap, one after the other. -/
theorem strcIn_laid {A C : List Blk} : ∀ {xs : List Strc} {j : Nat} (h : j < xs.length), StrcIn (A ++ (lblkS A.length xs ++ C)) (A.length + offS (xs.take j)) xs[j] := by
  intro xs j h
  have e : lblkS A.length xs = lblkS A.length (xs.take j) ++ ((strcBs xs[j]).map (shB (A.length + offS (xs.take j))) ++ lblkS (A.length + offS (xs.take (j + 1))) (xs.drop (j + 1))) := by
    have key : ∀ (b : Nat) (us vs : List Strc), lblkS b (us ++ vs) = lblkS b us ++ lblkS (b + offS us) vs := by
      intro b us vs
      induction us generalizing b with
      | nil => simp [lblkS]
      | cons u us ih => simp only [List.cons_append, lblkS, ih, offS_cons, List.append_assoc, Nat.add_assoc]
    have e1 : xs = xs.take j ++ (xs[j] :: xs.drop (j + 1)) := by
      rw [← List.drop_eq_getElem_cons h, List.take_append_drop]
    conv => lhs; rw [e1]
    rw [key]
    simp only [lblkS, offS_take h, Nat.add_assoc]
  have hl : (A ++ lblkS A.length (xs.take j)).length = A.length + offS (xs.take j) := by simp [lblkS_len]
  have := strcIn_mk (A := A ++ lblkS A.length (xs.take j)) (C := lblkS (A.length + offS (xs.take (j + 1))) (xs.drop (j + 1)) ++ C) (x := xs[j])
  rw [hl] at this
  rw [e]
  simpa only [List.append_assoc] using this
@[simp] def ct_markStrcS : CtH := ⟨15, Nat × List Strc × Int,
  fun x H => (0 ≤ x.2.2 ∧ x.2.2 ≤ 2097152) ∧ szStrcs x.2.1 ≤ 1048576 ∧ x.1 + 1 + offS x.2.1 ≤ H.length ∧ H[x.1]? = some (.row true 66 2 (laidS (x.1 + 1) x.2.1)) ∧ ∀ j (h : j < x.2.1.length), StrcIn H (x.1 + 1 + offS (x.2.1.take j)) x.2.1[j],
  fun x => [.slref x.1 0 x.2.1.length x.2.1.length, .int .i64 x.2.2], fun x _ => .int .i64 (x.2.2 + ((x.2.1.map szT).sum : Nat)),
  fun x H => deadR x.1 (x.1 + 1 + offS x.2.1) H⟩
set_option maxHeartbeats 4000000 in
set_option maxRecDepth 100000 in
theorem ok_markStrcS : ct_markStrcS.Ok Tryd.prog := by
  rintro ⟨b, xs, k⟩ H ⟨⟨h1, h2⟩, h3, h4, h5, h6⟩
  change 0 ≤ k at h1
  change k ≤ 2097152 at h2
  change szStrcs xs ≤ 1048576 at h3
  change b + 1 + offS xs ≤ H.length at h4
  change H[b]? = some (.row true 66 2 (laidS (b + 1) xs)) at h5
  change ∀ j (h : j < xs.length), StrcIn H (b + 1 + offS (xs.take j)) xs[j] at h6
  have hbh : b ≤ b + 1 + offS xs := by omega
  have hxl : xs.length ≤ 1048576 := by unfold szStrcs at h3; omega
  have hxs : ∀ i (h : i < xs.length), szStrc xs[i] ≤ 1048576 := fun i h => by
    have := sum_mem szStrc (List.getElem_mem h)
    unfold szStrcs at h3; omega
  have hz := szTs_le xs
  have hgl := laidS_len (b + 1) xs
  have hge := laidS_get (b + 1) xs
  generalize laidS (b + 1) xs = els at *
  refine OkH.of_self fun hB => OkH.of_cw fok_laws_markStructureS (go_ok tab_nil ?_)
  simp [code_laws_markStructureS, List.replicate]
  refine cw_round (fun (p : Nat × List Blk) => ⟨slots 27 [(0, .slref b 0 xs.length xs.length), (1, .int .i64 (k + (((xs.map szT).take p.1).sum : Nat))), (5, .int .i64 p.1)], p.2⟩)
    (fun p => p.1 ≤ xs.length ∧ outO H p.2 b (b + 1 + offS xs) ∧ p.2[b]? = some (.row true 66 2 els) ∧ ∀ j (h : j < xs.length), p.1 ≤ j → StrcIn p.2 (b + 1 + offS (xs.take j)) xs[j]) (fun p => xs.length - p.1) (0, H) ⟨by simp, outO_refl _ _ _, h5, fun j h _ => h6 j h⟩ ?_ ?_
  · exact weak_slots (by simp [List.replicate, less_undef, less_refl])
  rintro N hN ⟨i, G⟩ ⟨hi, hout, hb, hst⟩
  change i ≤ xs.length at hi
  change outO H G b (b + 1 + offS xs) at hout
  change G[b]? = some (.row true 66 2 els) at hb
  change ∀ j (h : j < xs.length), i ≤ j → StrcIn G (b + 1 + offS (xs.take j)) xs[j] at hst
  have hw : IntKind.i64.wrap ((i : Int) + 1) = ((i + 1 : Nat) : Int) := by rw [wrap_i64] <;> omega
  by_cases g : i < xs.length
  · have g2 : ¬ xs.length ≤ i := by omega
    have gi : i < els.length := by omega
    have he := hge i gi g
    have hS := hst i g (Nat.le_refl _)
    have hz1 := hxs i g
    have hs := sum_take (l := xs.map szT) (i := i) (by simpa using g)
    have hle := sum_take_le (l := xs.map szT) (i := i)
    have hle2 := sum_take_le (l := xs.map szT) (i := i + 1)
    have ho := offS_take g
    have hol := offS_le (xs := xs) (i := i + 1)
    have hsi : (xs.map szT)[i]'(by simpa using g) = szT xs[i] := by simp
    rw [hsi] at hs
    generalize hT : ((xs.map szT).take i).sum = T at *
    generalize hx : xs[i] = x at *
    obtain ⟨ns, nx⟩ := x
    generalize hO : offS (xs.take i) = O at *
    have hlt : lenT ⟨ns, nx⟩ = 9 + 9 * ns.length := rfl
    have hszt : szT ⟨ns, nx⟩ = (ns.map szN).sum + nx.length := rfl
    have hnl : nx.length ≤ 1048576 := by simp only [szStrc] at hz1; omega
    have hnn : ns.length ≤ 1048576 := by simp only [szStrc, szNodes] at hz1; omega
    have hGl : G.length = H.length := hout.1
    have hrow := hS.rowOk hz1
    have hnext := hS.next
    simp only at hrow hnext
    simp only [strcAt, sh, shL] at he
    generalize hBq : b + 1 + O = B at *
    have hd1 : B + 7 ≤ B + 8 + 9 * ns.length := by omega
    have hd2 : B + 8 + 9 * ns.length ≤ G.length := by omega
    have hDl := deadR_len hd1 hd2
    have hDg := deadR_get (H := G) hd1 hd2
    have e8 : B + (8 + 9 * ns.length) = B + 8 + 9 * ns.length := by omega
    rw [e8] at he
    have k1 : 0 ≤ k + (T : Int) := by omega
    have k2 : k + (T : Int) ≤ 1073741824 := by omega
    have hsum : (ns.map szN).sum ≤ 1073741824 := by omega
    refine cw_seq (go_ok tab_nil ?_)
    simp [List.replicate, g, g2, hb, hgl]
    refine cw_seq (cw_block ?_)
    refine cw_seq (go_ok (tab_h ok_markNS tab_nil) ?_)
    simp [List.replicate, hb, he, g, gi, hgl, k1, k2]
    refine ⟨ns.map szN, by simp, hsum, by simpa using hnn, B + 7, B + 8 + 9 * ns.length, hd1, hd2, hrow, ?_⟩
    have hDb : (deadR (B + 7) (B + 8 + 9 * ns.length) G)[b]? = some (.row true 66 2 els) := by rw [hDg, if_pos (.inl (by omega)), hb]
    have hDn : (deadR (B + 7) (B + 8 + 9 * ns.length) G)[B + 8 + 9 * ns.length]? = some (.row true 3 1 (nx.map encInt)) := by rw [hDg, if_pos (.inr (Nat.le_refl _)), hnext]
    generalize deadR (B + 7) (B + 8 + 9 * ns.length) G = D at *
    have k5 : 0 ≤ k + (T : Int) + ((ns.map szN).sum : Nat) := by omega
    have k6 : k + (T : Int) + ((ns.map szN).sum : Nat) ≤ 1099511627776 := by omega
    have k7 : nx.length ≤ 1099511627776 := by omega
    refine go_ok (tab_h (ok_markI 3) tab_nil) ?_
    simp [List.replicate, hDb, he, g, gi, hgl, k5, k6]
    refine ⟨nx, rfl, k7, hDn, ?_⟩
    refine go_ok tab_nil ?_
    simp [List.replicate, hw]
    refine hN (i, G) (i + 1, D.set (B + 8 + 9 * ns.length) (.row true 3 1 ((marks (k + T + ((ns.map szN).sum : Nat)) nx.length).map encInt))) _ ⟨by simp; omega, ⟨by simp [hDl, hGl], fun q hq => ?_⟩, ?_, fun j hj hij => ?_⟩ (by simp; omega) ?_
    · simp only
      rw [List.getElem?_set_ne (by omega), hDg, if_pos (by omega)]
      exact hout.2 q hq
    · simp only
      rw [List.getElem?_set_ne (by omega), hDb]
    · have hm := offS_mono (xs := xs) (show i + 1 ≤ j from hij)
      refine (hst j hj (by omega)).congr fun q hq1 hq2 => ?_
      simp only
      rw [List.getElem?_set_ne (by omega), hDg, if_pos (by omega)]
    · refine weak_slots ?_
      have e : k + (((xs.map szT).take (i + 1)).sum : Nat) = k + (T : Int) + ((ns.map szN).sum : Nat) + nx.length := by rw [hs, hszt]; omega
      simp only [e]
      simp [List.replicate, less_undef, less_refl]
  · have e : i = xs.length := by omega
    subst e
    have htk : (xs.map szT).take xs.length = xs.map szT := List.take_of_length_le (by simp)
    rw [htk]
    refine go_ok tab_nil ?_
    simp [List.replicate, hw, retH, hb, hgl]
    refine ⟨⟨[.undef, .undef, .undef, .undef, .int .i64 (k + ((xs.map szT).sum : Nat))] ++ List.replicate 22 .undef, _⟩, weak_dead0 hB hout hbh h4 (Nat.le_refl _) ?_, ?_⟩
    · simp [List.replicate]
    · simp [List.replicate]
end Go.Vm
