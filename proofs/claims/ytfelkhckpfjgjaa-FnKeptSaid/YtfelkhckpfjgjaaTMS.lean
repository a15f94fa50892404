/- spec.l17Groups. No condition. -/
import Derived.Test.YtfelkhckpfjgjaaTCP
import Derived.Test.YtfelkhckpfjgjaaTNN
import Derived.Test.YtfelkhckpfjgjaaTCS
import Derived.Test.YtfelkhckpfjgjaaTKC
import Derived.Test.YtfelkhckpfjgjaaTMK
set_option linter.unusedSimpArgs false
set_option linter.unusedVariables false
namespace Go.Vm
open Go.Proofs
def code_spec_l17Groups : F := ⟨86,[.tmp 2],.seq (.reg [⟨some 1,.box (.t 0),none⟩,⟨some 2,.mov (.k (.sl .nil 0 [])),none⟩]) (.seq (.reg [⟨some 10,.bsl 9 1 0 (.str []) [],none⟩,⟨some 3,.mov (.t 10),none⟩]) (.seq (.reg [⟨some 11,.bsl 25 1 0 (.sl .nil 0 []) [],none⟩,⟨some 4,.mov (.t 11),none⟩]) (.seq (.seq (.reg [⟨some 5,.mov (.k (.int .i64 0)),none⟩]) (.block 0 (.loop (.seq (.seq (.reg [⟨some 12,.mov (.t 5),none⟩,⟨some 13,.faddr 0 (.t 1),none⟩,⟨some 14,.load 1 false (.t 13),none⟩,⟨some 15,.len (.t 14),none⟩,⟨some 16,.bin .lss (.t 12) (.t 15),none⟩]) (.cond (.t 16) (.skip) (.exit 0))) (.seq (.block 1 (.seq (.reg [⟨some 19,.load 2 true (.t 1),none⟩,⟨some 20,.mov (.t 5),none⟩,⟨some 21,.call 105 [.t 19,.t 20],none⟩,⟨some 6,.mov (.t 21),none⟩]) (.seq (.reg [⟨some 7,.mov (.k (.int .i64 0)),none⟩]) (.seq (.block 2 (.loop (.seq (.seq (.reg [⟨some 22,.mov (.t 7),none⟩,⟨some 23,.mov (.t 3),none⟩,⟨some 24,.len (.t 23),none⟩,⟨some 25,.bin .lss (.t 22) (.t 24),none⟩,⟨some 26,.mov (.t 25),none⟩,⟨some 27,.mov (.t 3),some (26,true)⟩,⟨some 28,.mov (.t 7),some (26,true)⟩,⟨some 29,.iaddr 1 (.t 27) (.t 28),some (26,true)⟩,⟨some 30,.load 1 false (.t 29),some (26,true)⟩,⟨some 31,.mov (.t 6),some (26,true)⟩,⟨some 32,.bin .lss (.t 30) (.t 31),some (26,true)⟩,⟨some 33,.pick (.t 26) (.t 32) (.k (.bool false)),none⟩]) (.cond (.t 33) (.skip) (.exit 2))) (.block 3 (.reg [⟨some 34,.mov (.t 7),none⟩,⟨some 35,.bin .add (.t 34) (.k (.int .i64 1)),none⟩,⟨some 7,.mov (.t 35),none⟩]))))) (.seq (.seq (.reg [⟨some 36,.mov (.t 7),none⟩,⟨some 37,.mov (.t 3),none⟩,⟨some 38,.len (.t 37),none⟩,⟨some 39,.bin .lss (.t 36) (.t 38),none⟩,⟨some 40,.mov (.t 39),none⟩,⟨some 41,.mov (.t 3),some (40,true)⟩,⟨some 42,.mov (.t 7),some (40,true)⟩,⟨some 43,.iaddr 1 (.t 41) (.t 42),some (40,true)⟩,⟨some 44,.load 1 false (.t 43),some (40,true)⟩,⟨some 45,.mov (.t 6),some (40,true)⟩,⟨some 46,.bin .eql (.t 44) (.t 45),some (40,true)⟩,⟨some 47,.pick (.t 40) (.t 46) (.k (.bool false)),none⟩]) (.cond (.t 47) (.seq (.reg [⟨some 48,.mov (.t 4),none⟩,⟨some 49,.mov (.t 7),none⟩,⟨some 50,.mov (.t 4),none⟩,⟨some 51,.mov (.t 7),none⟩,⟨some 52,.iaddr 1 (.t 50) (.t 51),none⟩,⟨some 53,.load 1 false (.t 52),none⟩,⟨some 54,.mov (.t 5),none⟩,⟨some 55,.bsl 3 1 1 (.int .i64 0) [(0,.t 54)],none⟩,⟨some 56,.append 3 1 8 (.t 53) (.t 55),none⟩,⟨some 57,.iaddr 1 (.t 48) (.t 49),none⟩,⟨none,.store 1 (.t 57) (.t 56),none⟩]) (.exit 1)) (.skip))) (.seq (.reg [⟨some 58,.bsl 9 1 0 (.str []) [],none⟩,⟨some 59,.mov (.t 3),none⟩,⟨some 60,.mov (.t 7),none⟩,⟨some 61,.slice 1 (.t 59) (some (.t 60)) none,none⟩,⟨some 62,.append 9 1 16 (.t 58) (.t 61),none⟩,⟨some 8,.mov (.t 62),none⟩]) (.seq (.reg [⟨some 63,.mov (.t 3),none⟩,⟨some 64,.mov (.t 7),none⟩,⟨some 65,.slice 1 (.t 63) none (some (.t 64)),none⟩,⟨some 66,.mov (.t 6),none⟩,⟨some 67,.bsl 9 1 1 (.str []) [(0,.t 66)],none⟩,⟨some 68,.append 9 1 16 (.t 65) (.t 67),none⟩,⟨some 69,.mov (.t 8),none⟩,⟨some 70,.append 9 1 16 (.t 68) (.t 69),none⟩,⟨some 3,.mov (.t 70),none⟩]) (.seq (.reg [⟨some 71,.bsl 25 1 0 (.sl .nil 0 []) [],none⟩,⟨some 72,.mov (.t 4),none⟩,⟨some 73,.mov (.t 7),none⟩,⟨some 74,.slice 1 (.t 72) (some (.t 73)) none,none⟩,⟨some 75,.append 25 1 24 (.t 71) (.t 74),none⟩,⟨some 9,.mov (.t 75),none⟩]) (.reg [⟨some 76,.mov (.t 4),none⟩,⟨some 77,.mov (.t 7),none⟩,⟨some 78,.slice 1 (.t 76) none (some (.t 77)),none⟩,⟨some 79,.mov (.t 5),none⟩,⟨some 80,.bsl 3 1 1 (.int .i64 0) [(0,.t 79)],none⟩,⟨some 81,.bsl 25 1 1 (.sl .nil 0 []) [(0,.t 80)],none⟩,⟨some 82,.append 25 1 24 (.t 78) (.t 81),none⟩,⟨some 83,.mov (.t 9),none⟩,⟨some 84,.append 25 1 24 (.t 82) (.t 83),none⟩,⟨some 4,.mov (.t 84),none⟩]))))))))) (.reg [⟨some 17,.mov (.t 5),none⟩,⟨some 18,.bin .add (.t 17) (.k (.int .i64 1)),none⟩,⟨some 5,.mov (.t 18),none⟩])))))) (.seq (.reg [⟨some 85,.mov (.t 4),none⟩,⟨some 2,.mov (.t 85),none⟩]) (.ret)))))⟩
theorem fok_spec_l17Groups : FOk Try.prog 56 code_spec_l17Groups := fok Try.func56 (by kernel_rfl)
theorem gblk_sl {m : Nat} {H2 : List Blk} : ∀ ls : List (List Int), All2 (SlB m H2) (gblk ls) (gblk ls)
  | [] => .nil
  | l :: ls => by
    refine .cons (by simp) (.cons (by simp) (.cons (by simp) (.cons ?_ (.cons (by simp) (gblk_sl ls)))))
    exact slB_ints
theorem gref_below {m : Nat} {cr : List (List Int)} {od : List Nat} (h : ∀ c ∈ od, c < cr.length) (hm : 5 * cr.length + 3 ≤ m) : belowEls m (od.map (gref cr)) = true := by
  simp only [belowEls, List.all_map, List.all_eq_true]
  intro c hc
  have := h c hc
  simp [gref, belowE, belowC, belowR]
  omega
theorem grow_sl {m E : Nat} {H2 : List Blk} {cr : List (List Int)} {od : List Nat} (h : ∀ c ∈ od, c < cr.length) (hm : 5 * cr.length + 3 ≤ m) : SlB m H2 (.row true E 1 (od.map (gref cr))) (.row true E 1 (od.map (gref cr))) := ⟨fun h => h, rfl, rfl, .inl ⟨rfl, gref_below h hm⟩⟩
theorem lend_grp {H : List Blk} {d : Nat} {cr : List (List Int)} (hH : ∀ c (h : c < cr.length), H[5 * c + 6]? = some (.row true 3 1 (cr[c].map encInt))) : ∀ od : List Nat, (∀ c ∈ od, c < cr.length) →
    lendEls (fun _ _ => true) H (d + 2) (od.map (gref cr)) = some ((od.map fun c => cr.getD c []).map (encL 1 encInt))
  | [], _ => by simp [lendEls]
  | c :: od, h => by
    have ih := lend_grp (d := d) hH od fun c hc => h c (by simp [hc])
    have hc := h c (by simp)
    have e0 : cr.getD c [] = cr[c] := by simp [List.getD_eq_getElem?_getD, hc]
    have e1 : lendC (fun _ _ => true) H (d + 2) (.slref (5 * c + 6) 0 (cr.getD c []).length (cr.getD c []).length) = some (encL 1 encInt (cr.getD c [])) := by
      rw [e0]
      simp [lendC, hH c hc]
    show lendEls (fun _ _ => true) H (d + 2) (.slref (5 * c + 6) 0 (cr.getD c []).length (cr.getD c []).length :: od.map (gref cr)) = _
    rw [lendEls]
    · rw [e1, ih]; rfl
    · intro cs h; cases h
def groupsF (s : Strc) : List (List Int) := (gsOf s (fun i => nodeName s i) s.nodes.length).out
@[simp] def ct_l17Groups : Ct := ⟨56, Strc, fun x => szStrc x ≤ 1048576 ∧ x.nodes.length ≤ 10, fun x => [encStrc x], fun x => encL 1 (encL 1 encInt) (groupsF x)⟩
set_option maxHeartbeats 8000000 in
set_option maxRecDepth 100000 in
theorem ok_l17Groups : ct_l17Groups.Ok Try.prog := by
  rintro ⟨ns, nx⟩ ⟨hx, hn⟩
  have hx : szStrc ⟨ns, nx⟩ ≤ 1048576 := hx
  change ns.length ≤ 10 at hn
  refine Ok.of_cw fok_spec_l17Groups ?_
  have hT : TabOk Try.prog _ := tab_cons ok_sNodeName tab_nil
  change CW _ _ _ (retP _ (encL 1 (encL 1 encInt) (gsOf ⟨ns, nx⟩ (fun i => nodeName ⟨ns, nx⟩ i) ns.length).out)) _
  have hok := gsOf_ok ⟨ns, nx⟩ (fun i => nodeName ⟨ns, nx⟩ i)
  have hstep : ∀ i, gsOf ⟨ns, nx⟩ (fun i => nodeName ⟨ns, nx⟩ i) (i + 1) = (gsOf ⟨ns, nx⟩ (fun i => nodeName ⟨ns, nx⟩ i) i).step (nodeName ⟨ns, nx⟩ i) i := fun i => rfl
  have h0 : gsOf ⟨ns, nx⟩ (fun i => nodeName ⟨ns, nx⟩ i) 0 = ⟨[], [], []⟩ := rfl
  generalize gsOf ⟨ns, nx⟩ (fun i => nodeName ⟨ns, nx⟩ i) = G at *
  simp only [code_spec_l17Groups, frame, List.length_cons, List.length_nil, List.replicate, Nat.reduceSub, Nat.reduceAdd, List.cons_append, List.nil_append]
  refine cw_seq (go_ok hT ?_); simp
  refine cw_seq (go_ok hT ?_); simp
  refine cw_seq (go_ok hT ?_); simp
  refine cw_seq (go_ok hT ?_); simp
  refine cw_round (fun (i : Nat) => ⟨slots 86 [(1, .pbox 0 0), (3, .slref 1 0 (G i).nm.length (G i).nm.length), (4, .slref 2 0 (G i).nm.length (G i).nm.length), (5, .int .i64 i)], .cells [encL 4 encNode ns, encL 1 encInt nx] :: .row true 9 1 ((G i).nm.map encStr) :: .row true 25 1 ((G i).od.map (gref (G i).cr)) :: gblk (G i).cr⟩)
    (fun i => i ≤ ns.length) (fun i => ns.length - i) 0 (by simp) ?_ ?_
  · rw [h0]
    exact weak_less (by simp [gblk]) (by simp [List.replicate])
  rintro N hN i hi
  change i ≤ ns.length at hi
  have hw : IntKind.i64.wrap ((i : Int) + 1) = ((i + 1 : Nat) : Int) := by rw [wrap_i64] <;> omega
  have hg := hok i
  by_cases g : i < ns.length
  case neg =>
    have e : i = ns.length := by omega
    subst e
    have hl1 := lend_grp (d := 17) (H := .cells [encL 4 encNode ns, encL 1 encInt nx] :: .row true 9 1 ((G ns.length).nm.map encStr) :: .row true 25 1 ((G ns.length).od.map (gref (G ns.length).cr)) :: gblk (G ns.length).cr) (cr := (G ns.length).cr) (fun c hc => gblk_get hc) (G ns.length).od hg.rg
    have hlo := hg.lo
    refine go_ok tab_nil ?_
    simp [List.replicate]
    refine go_ok tab_nil ?_
    simp [List.replicate, hlo]
    refine ⟨_, by rw [List.take_of_length_le (by simp [hlo])]; exact hl1, ?_⟩
    rfl
  have g2 : ¬ ns.length ≤ i := by omega
  have hs := hstep i
  have hok' := hok (i + 1)
  refine cw_seq (go_ok hT ?_); simp [List.replicate, g, g2, hx]
  refine cw_cut_weak (fun _ : Unit => ⟨slots 86 [(1, .pbox 0 0), (3, .slref 1 0 (G (i + 1)).nm.length (G (i + 1)).nm.length), (4, .slref 2 0 (G (i + 1)).nm.length (G (i + 1)).nm.length), (5, .int .i64 i)], .cells [encL 4 encNode ns, encL 1 encInt nx] :: .row true 9 1 ((G (i + 1)).nm.map encStr) :: .row true 25 1 ((G (i + 1)).od.map (gref (G (i + 1)).cr)) :: gblk (G (i + 1)).cr⟩) (fun _ => True) (cw_block ?_) ?_
  rotate_left
  · rintro ⟨⟩ -
    refine go_ok hT ?_
    simp [List.replicate, hw]
    exact hN i (i + 1) _ (by show i + 1 ≤ ns.length; omega) (by omega) (weak_less (by simp) (by simp [List.replicate]))
  rw [hs]
  rw [hs] at hok'
  generalize G i = q at *
  clear hs hN hstep hok h0
  obtain ⟨nm, od, cr⟩ := q
  refine cw_seq (go_ok hT ?_); simp [List.replicate, g, g2, hx]
  generalize nodeName ⟨ns, nx⟩ (i : Int) = x at *
  refine cw_seq (go_ok hT ?_); simp [List.replicate]
  have hle := lowP_le nm x
  refine cw_to ⟨slots 86 [(1, .pbox 0 0), (3, .slref 1 0 nm.length nm.length), (4, .slref 2 0 nm.length nm.length), (5, .int .i64 i), (6, .str x), (7, .int .i64 (lowP nm x))], .cells [encL 4 encNode ns, encL 1 encInt nx] :: .row true 9 1 (nm.map encStr) :: .row true 25 1 (od.map (gref cr)) :: gblk cr⟩ ?_ ?_
  · refine cw_block (cw_round (fun (k : Nat) => ⟨slots 86 [(1, .pbox 0 0), (3, .slref 1 0 nm.length nm.length), (4, .slref 2 0 nm.length nm.length), (5, .int .i64 i), (6, .str x), (7, .int .i64 k)], .cells [encL 4 encNode ns, encL 1 encInt nx] :: .row true 9 1 (nm.map encStr) :: .row true 25 1 (od.map (gref cr)) :: gblk cr⟩)
      (fun k => k ≤ nm.length ∧ ∀ j (h : j < nm.length), j < k → Op.bytesLess nm[j] x = true) (fun k => nm.length - k) 0 (by simp) ?_ ?_)
    · exact weak_less (by simp) (by simp [List.replicate])
    rintro M hM k ⟨hk, hlt⟩
    have hwk : IntKind.i64.wrap ((k : Int) + 1) = ((k + 1 : Nat) : Int) := by
      have h1 : nm.length ≤ i := hg.li
      rw [wrap_i64] <;> omega
    by_cases gk : k < nm.length
    · have gk2 : ¬ nm.length ≤ k := by omega
      cases hb : Op.bytesLess nm[k] x
      · have e := lowP_eq hk hlt (fun _ => hb)
        refine go_ok tab_nil ?_
        simp [List.replicate, gk, gk2, hb]
        exact weak_less (by simp) (by simp [List.replicate, e])
      · refine go_ok tab_nil ?_
        simp [List.replicate, gk, gk2, hb, hwk]
        refine hM k (k + 1) _ ⟨by omega, fun j h hj => ?_⟩ (by omega) (weak_less (by simp) (by simp [List.replicate]))
        by_cases e : j = k
        · subst e; exact hb
        · exact hlt j h (by omega)
    · have e := lowP_eq hk hlt (fun h => absurd h gk)
      have e2 : k = nm.length := by omega
      refine go_ok tab_nil ?_
      subst e2
      simp [List.replicate]
      exact weak_less (by simp) (by simp [List.replicate, e])
  have hst : Gs.step ⟨nm, od, cr⟩ x i = if nm[lowP nm x]? = some x then ⟨nm, od, cr.set (od.getD (lowP nm x) 0) (cr.getD (od.getD (lowP nm x) 0) [] ++ [(i : Int)])⟩
    else ⟨nm.take (lowP nm x) ++ x :: nm.drop (lowP nm x), od.take (lowP nm x) ++ cr.length :: od.drop (lowP nm x), cr ++ [[(i : Int)]]⟩ := rfl
  rw [hst] at hok' ⊢
  clear hst
  generalize lowP nm x = a at *
  obtain ⟨lo, lc, nd, rg, li, ne, el⟩ := hg
  simp only at lo lc nd rg li ne el
  by_cases e : nm[a]? = some x
  · have ha : a < nm.length := (List.getElem?_eq_some_iff.1 e).1
    have ea : nm[a] = x := by rw [List.getElem?_eq_getElem ha] at e; exact Option.some.inj e
    have hao : a < od.length := by omega
    have e1 : od.getD a 0 = od[a] := by simp [List.getD_eq_getElem?_getD, hao]
    have hc : od[a] < cr.length := rg _ (List.getElem_mem hao)
    have e2 : cr.getD od[a] [] = cr[od[a]] := by simp [List.getD_eq_getElem?_getD, hc]
    rw [if_pos e, e1, e2]
    have eo : (od.map (gref cr))[a]? = some (.slref (5 * od[a] + 6) 0 cr[od[a]].length cr[od[a]].length) := by
      rw [List.getElem?_map, List.getElem?_eq_getElem hao]
      simp [gref, List.getD_eq_getElem?_getD, hc]
    have hset : ∀ y, (od.map (gref cr)).set a (.slref (5 * od[a] + 6) 0 (cr[od[a]].length + 1) (cr[od[a]].length + 1)) = od.map (gref (cr.set od[a] (cr[od[a]] ++ [y]))) := by
      intro y
      apply List.ext_getElem
      · simp
      · intro j hj hj2
        have hjo : j < od.length := by simpa using hj2
        rw [List.getElem_set, List.getElem_map]
        split
        · rename_i h; subst h; simp [gref, hc]
        · rename_i h
          have hne : od[a] ≠ od[j] := fun h' => h ((List.getElem_inj nd).1 h')
          simp [gref, List.getElem?_set_ne hne]
    have hcl : (cr[od[a]].length + 1) * 8 ≤ 140737488355328 := by have := (el _ (List.getElem_mem hc)).1; omega
    generalize od[a] = c at *
    have gk1 : ∀ T, (gblk cr ++ T)[5 * c + 3]? = some (.row true 3 1 (cr[c].map encInt)) := fun T => by rw [List.getElem?_append_left (by rw [gblk_len]; omega)]; exact gblk_get hc
    have gk2 : ∀ T l, (gblk cr ++ T).set (5 * c + 3) (.row true 3 1 (l.map encInt)) = gblk (cr.set c l) ++ T := fun T l => by rw [List.set_append_left _ _ (by rw [gblk_len]; omega), gblk_set hc]
    have gk3 : ∀ (b0 b1 b2 : Blk) T, (b0 :: b1 :: b2 :: T)[5 * c + 6]? = T[5 * c + 3]? := fun _ _ _ _ => rfl
    have gk4 : ∀ (b0 b1 b2 y : Blk) T, (b0 :: b1 :: b2 :: T).set (5 * c + 6) y = b0 :: b1 :: b2 :: T.set (5 * c + 3) y := fun _ _ _ _ _ => rfl
    refine cw_seq (go_ok tab_nil ?_)
    have ha2 : ¬ nm.length ≤ a := by omega
    simp [List.replicate, ha, ha2, ea, eo, gk1, gk3, gk4, hcl, app1]
    refine ⟨lo, ?_⟩
    have gk5 : ∀ T, (gblk cr ++ T).set (5 * c + 3) (.row true 3 1 (cr[c].map encInt ++ [.int .i64 i])) = gblk (cr.set c (cr[c] ++ [(i : Int)])) ++ T := fun T => by
      have := gk2 T (cr[c] ++ [(i : Int)])
      simpa using this
    rw [gk5, hset]
    refine weak_seal (5 * cr.length + 3) (by omega) ?_ (by simp [List.replicate])
    have hl : (gblk (cr.set c (cr[c] ++ [(i : Int)]))).length = 5 * cr.length := by rw [gblk_len]; simp
    rw [show 5 * cr.length + 3 = 5 * cr.length + 1 + 1 + 1 by omega]
    simp only [List.take_succ_cons]
    rw [List.take_left' hl]
    exact .cons (by simp) (.cons (by simp) (.cons (grow_sl (by simpa using rg) (by simp)) (gblk_sl _)))
  · rw [if_neg e]
    have he : ∀ h : a < nm.length, ¬ nm[a] = x := fun h e' => e (by rw [List.getElem?_eq_getElem h, e'])
    refine cw_seq (cw_to ⟨slots 86 [(1, .pbox 0 0), (3, .slref 1 0 nm.length nm.length), (4, .slref 2 0 nm.length nm.length), (5, .int .i64 i), (6, .str x), (7, .int .i64 a), (47, .bool false)], .cells [encL 4 encNode ns, encL 1 encInt nx] :: .row true 9 1 (nm.map encStr) :: .row true 25 1 (od.map (gref cr)) :: gblk cr⟩ ?_ ?_)
    · by_cases ha : a < nm.length
      · have ha2 : ¬ nm.length ≤ a := by omega
        refine go_ok tab_nil ?_
        simp [List.replicate, ha, ha2, he ha]
        exact weak_less (by simp) (by simp [List.replicate])
      · have ha2 : nm.length ≤ a := by omega
        refine go_ok tab_nil ?_
        simp [List.replicate, ha, ha2]
        exact weak_less (by simp) (by simp [List.replicate])
    refine go_ok tab_nil ?_
    simp [List.replicate]
    have hm10 : nm.length ≤ 10 := by omega
    have hgl := gblk_len cr
    have w1 : (nm.length - a) * 16 ≤ 140737488355328 := by omega
    have w2 : (nm.length - a) * 24 ≤ 140737488355328 := by omega
    have w3 : (a + 1) * 16 ≤ 140737488355328 := by omega
    have w4 : (a + 1) * 24 ≤ 140737488355328 := by omega
    have w5 : (a + 1 + (nm.length - a)) * 16 ≤ 140737488355328 := by omega
    have w6 : (a + 1 + (nm.length - a)) * 24 ≤ 140737488355328 := by omega
    have m4 : ¬ (nm.length + 1 ≤ nm.length) := by omega
    have hdl : (nm.drop a).length = nm.length - a := by simp
    have m1 : a + (nm.length - a + 1) = nm.length + 1 := by omega
    refine cw_to ⟨slots 86 [(1, .pbox 0 0), (3, .slref 1 0 nm.length nm.length), (4, .slref 2 0 nm.length nm.length), (5, .int .i64 i), (6, .str x), (7, .int .i64 a), (8, .slref (5 * cr.length + 3) 0 (nm.length - a) (nm.length - a))], .cells [encL 4 encNode ns, encL 1 encInt nx] :: .row true 9 1 (nm.map encStr) :: .row true 25 1 (od.map (gref cr)) :: (gblk cr ++ [.row true 9 1 ((nm.drop a).map encStr)])⟩ ?_ ?_
    · refine go_ok tab_nil ?_
      simp [List.replicate, hle, w1, -appRow, appRow_all, hgl]
      refine weak_less ?_ (by simp [List.replicate])
      rw [List.take_of_length_le (by simp)]
      simp
    refine cw_to ⟨slots 86 [(1, .pbox 0 0), (3, .slref 1 0 (nm.length + 1) (nm.length + 1)), (4, .slref 2 0 nm.length nm.length), (5, .int .i64 i), (7, .int .i64 a)], .cells [encL 4 encNode ns, encL 1 encInt nx] :: .row true 9 1 ((nm.take a ++ x :: nm.drop a).map encStr) :: .row true 25 1 (od.map (gref cr)) :: (gblk cr ++ [.dead, .dead])⟩ ?_ ?_
    · refine go_ok tab_nil ?_
      by_cases ha : a < nm.length
      · have ha1 : a + 1 ≤ nm.length := by omega
        have ha3 : ¬ (a + 1 + (nm.length - a) ≤ nm.length) := by omega
        have m2 : a + 1 + (nm.length - a) = nm.length + 1 := by omega
        have e9 : List.take (a + 1) (List.take a (nm.map encStr) ++ AV.str x :: List.drop (a + 1) (nm.map encStr)) = List.take a (nm.map encStr) ++ [AV.str x] := by
          have hA : (List.take a (nm.map encStr)).length = a := by simp; omega
          rw [List.take_append, hA, List.take_of_length_le (by omega), show a + 1 - a = 1 by omega]; rfl
        have m3 : a + (nm.length - (a + 1) + 1) = nm.length := by omega
        have w7 : (nm.length + 1) * 16 ≤ 140737488355328 := by omega
        have e10 : List.take (nm.length - a) (List.drop a (nm.map encStr)) = List.drop a (nm.map encStr) := List.take_of_length_le (by simp)
        simp [List.replicate, hle, w3, w5, w7, hgl, ha, ha1, ha3, m2, m3, m4, e9, e10]
        exact weak_less (by simp) (by simp [List.replicate])
      · have ha0 : a = nm.length := by omega
        subst ha0
        have w7 : (nm.length + 1) * 16 ≤ 140737488355328 := by omega
        simp [List.replicate, w7, hgl, m4]
        exact weak_less (by simp) (by simp [List.replicate])
    refine cw_to ⟨slots 86 [(1, .pbox 0 0), (3, .slref 1 0 (nm.length + 1) (nm.length + 1)), (4, .slref 2 0 nm.length nm.length), (5, .int .i64 i), (7, .int .i64 a), (9, .slref (5 * cr.length + 5) 0 (nm.length - a) (nm.length - a))], .cells [encL 4 encNode ns, encL 1 encInt nx] :: .row true 9 1 ((nm.take a ++ x :: nm.drop a).map encStr) :: .row true 25 1 (od.map (gref cr)) :: (gblk cr ++ [.dead, .dead, .row true 25 1 ((od.drop a).map (gref cr))])⟩ ?_ ?_
    · refine go_ok tab_nil ?_
      simp [List.replicate, hle, w2, -appRow, appRow_all, hgl, lo]
      refine weak_less ?_ (by simp [List.replicate])
      have e10 : List.take (nm.length - a) (List.drop a (od.map (gref cr))) = List.drop a (od.map (gref cr)) := List.take_of_length_le (by simp [lo])
      rw [e10]
      simp
    have gin : ∀ c, c < cr.length → gref (cr ++ [[(i : Int)]]) c = gref cr c := fun c hc => by
      simp [gref, List.getElem?_append_left hc]
    have gnew : gref (cr ++ [[(i : Int)]]) cr.length = .slref (5 * cr.length + 6) 0 1 1 := by simp [gref]
    have gmap : od.map (gref (cr ++ [[(i : Int)]])) = od.map (gref cr) := List.map_congr_left fun c hc => gin c (rg c hc)
    refine go_ok tab_nil ?_
    by_cases ha : a < nm.length
    · have ha1 : a + 1 ≤ nm.length := by omega
      have ha3 : ¬ (a + 1 + (nm.length - a) ≤ nm.length) := by omega
      have m2 : a + 1 + (nm.length - a) = nm.length + 1 := by omega
      have m3 : a + (nm.length - (a + 1) + 1) = nm.length := by omega
      have w7 : (nm.length + 1) * 24 ≤ 140737488355328 := by omega
      have e9 : ∀ y, List.take (a + 1) (List.take a (od.map (gref cr)) ++ y :: List.drop (a + 1) (od.map (gref cr))) = List.take a (od.map (gref cr)) ++ [y] := fun y => by
        have hA : (List.take a (od.map (gref cr))).length = a := by simp; omega
        rw [List.take_append, hA, List.take_of_length_le (by omega), show a + 1 - a = 1 by omega]; rfl
      have e10 : List.take (nm.length - a) (List.drop a (od.map (gref cr))) = List.drop a (od.map (gref cr)) := List.take_of_length_le (by simp [lo])
      simp [List.replicate, hle, w4, w6, w7, hgl, ha, ha1, ha3, m2, m3, m4, e9, e10, lo]
      rw [gnew, gmap, gblk_snoc, m1]
      exact weak_less (by simp) (by simp [List.replicate])
    · have ha0 : a = nm.length := by omega
      have w7 : (nm.length + 1) * 24 ≤ 140737488355328 := by omega
      have hod : List.drop nm.length (od.map (gref cr)) = [] := List.drop_of_length_le (by simp [lo])
      have hnd : List.drop nm.length (nm.map encStr) = [] := List.drop_of_length_le (by simp)
      have htd : List.take nm.length (od.map (gref cr)) = od.map (gref cr) := List.take_of_length_le (by simp [lo])
      simp [List.replicate, w7, hgl, m4, ha0, lo]
      rw [gnew, gmap, gblk_snoc]
      simp only [hod, hnd, htd]
      exact weak_less (by simp) (by simp [List.replicate])
end Go.Vm
namespace Go.Vm
open Go.Proofs
theorem weak_eq {n0 : Nat} {t t' : List AV} {H H' : List Blk} (h : H = H') (ht : All2 Less t t') : Weak n0 ⟨t, H⟩ ⟨t', H'⟩ := h ▸ weak_slots ht
end Go.Vm
