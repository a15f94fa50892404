/- spec.Blur in blocks of its own. No condition. -/
import Derived.Test.YtfelkhckpfjgjaaTSO
import Derived.Test.YtfelkhckpfjgjaaTIXN
import Derived.Test.YtfelkhckpfjgjaaTIS
import Derived.Test.YtfelkhckpfjgjaaTS
import Derived.Test.YtfelkhckpfjgjaaVme
set_option linter.unusedSimpArgs false
set_option linter.unusedVariables false
namespace Go.Vm
open Go.Proofs
def blurS (s : Strc) : Strc := ⟨(groupsF s).map (grpNode s), (groupsF s).flatMap fun a => (groupsF s).map (nextG s a)⟩
def blP (i : Nat) : Nat := 12 * i + 19
def blQ (i : Nat) : Nat := 12 * i + 20
def blB (x : Node) : List Blk := [.dead, .dead, .dead, .dead, .dead, .dead, .dead, .dead, .dead, .dead, .row true 3 1 (x.vars.map encInt), .row true 3 1 (x.reach.map encInt)]
def blX (f : Nat → Node) : Nat → List Blk
  | 0 => []
  | i + 1 => blX f i ++ blB (f i)
def blE (f : Nat → Node) : Nat → List AV
  | 0 => []
  | i + 1 => blE f i ++ [aggN blP blQ i (f i)]
theorem blX_len (f : Nat → Node) : ∀ i, (blX f i).length = 12 * i
  | 0 => rfl
  | i + 1 => by simp [blX, blB, blX_len f i]; omega
theorem blE_len (f : Nat → Node) : ∀ i, (blE f i).length = i
  | 0 => rfl
  | i + 1 => by simp [blE, blE_len f i]
theorem blX_get (f : Nat → Node) : ∀ {i j : Nat}, j < i → ∀ k, k < 12 → (blX f i)[12 * j + k]? = (blB (f j))[k]?
  | 0, j, h, _, _ => by omega
  | i + 1, j, h, k, hk => by
    by_cases e : j = i
    · subst e
      show (blX f j ++ blB (f j))[12 * j + k]? = _
      rw [List.getElem?_append_right (by rw [blX_len]; omega), blX_len]
      congr 1; omega
    · show (blX f i ++ blB (f i))[12 * j + k]? = _
      rw [List.getElem?_append_left (by rw [blX_len]; omega)]
      exact blX_get f (by omega) k hk
theorem blE_get (f : Nat → Node) : ∀ {i j : Nat}, j < i → (blE f i)[j]? = some (aggN blP blQ j (f j))
  | i + 1, j, h => by
    by_cases e : j = i
    · subst e
      show (blE f j ++ [_])[j]? = _
      rw [List.getElem?_append_right (by rw [blE_len]; omega), blE_len]; simp
    · show (blE f i ++ [_])[j]? = _
      rw [List.getElem?_append_left (by rw [blE_len]; omega)]
      exact blE_get f (by omega)
theorem blX_own (f : Nat → Node) : ∀ i, ∀ k ∈ blX f i, ownB k = true
  | 0, k, hk => by cases hk
  | i + 1, k, hk => by
    rcases List.mem_append.1 (show k ∈ blX f i ++ blB (f i) from hk) with h | h
    · exact blX_own f i k h
    · simp only [blB, List.mem_cons, List.not_mem_nil, or_false] at h
      rcases h with rfl | rfl | rfl | rfl | rfl | rfl | rfl | rfl | rfl | rfl | rfl | rfl <;> first | rfl | simp [ownB]
theorem blE_own (f : Nat → Node) : ∀ i, ∀ k ∈ blE f i, ownV k = true
  | 0, k, hk => by cases hk
  | i + 1, k, hk => by
    rcases List.mem_append.1 (show k ∈ blE f i ++ [aggN blP blQ i (f i)] from hk) with h | h
    · exact blE_own f i k h
    · simp only [List.mem_cons, List.not_mem_nil, or_false] at h
      subst h
      simp [aggN, ownV, ownVL]
def nxB (s : Strc) (gs : List (List Int)) : Nat → List Int
  | 0 => []
  | i + 1 => nxB s gs i ++ gs.map (nextG s (gs.getD i []))
theorem nxB_all (s : Strc) (gs : List (List Int)) : nxB s gs gs.length = gs.flatMap fun a => gs.map (nextG s a) := by
  have key : ∀ i, i ≤ gs.length → nxB s gs i = (gs.take i).flatMap fun a => gs.map (nextG s a) := by
    intro i
    induction i with
    | zero => intro _; rfl
    | succ i ih =>
      intro hi
      have e : gs.getD i [] = gs[i] := by simp [List.getD_eq_getElem?_getD, show i < gs.length by omega]
      rw [nxB, ih (by omega), e, List.take_succ_eq_append_getElem (by omega), List.flatMap_append]
      simp
  rw [key _ (Nat.le_refl _), List.take_length]
theorem nxB_len (s : Strc) (gs : List (List Int)) : ∀ i, (nxB s gs i).length = i * gs.length
  | 0 => by simp [nxB]
  | i + 1 => by simp [nxB, nxB_len s gs i]; rw [Nat.add_mul]; omega
theorem nodes_map (s : Strc) (gs : List (List Int)) : gs.map (grpNode s) = (List.range gs.length).map fun i => grpNode s (gs.getD i []) := by
  apply List.ext_getElem
  · simp
  · intro i h1 h2
    have : i < gs.length := by simpa using h1
    simp [List.getD_eq_getElem?_getD, this]
theorem groups_ok (s : Strc) : (groupsF s).length ≤ s.nodes.length ∧ ∀ g ∈ groupsF s, (0 < g.length ∧ g.length ≤ s.nodes.length) ∧ ∀ y ∈ g, 0 ≤ y ∧ y < s.nodes.length := by
  unfold groupsF
  have h := gsOf_ok s (fun i => nodeName s i) s.nodes.length
  generalize gsOf s (fun i => nodeName s i) s.nodes.length = q at *
  obtain ⟨lo, lc, nd, rg, li, ne, el⟩ := h
  refine ⟨by simp [Gs.out]; omega, fun g hg => ?_⟩
  obtain ⟨c, hc, rfl⟩ := List.mem_map.1 hg
  have hl := rg c hc
  have e : q.cr.getD c [] = q.cr[c] := by simp [List.getD_eq_getElem?_getD, hl]
  rw [e]
  have hm : q.cr[c] ∈ q.cr := List.getElem_mem hl
  exact ⟨⟨List.length_pos_iff.2 (ne _ hm), (el _ hm).1⟩, (el _ hm).2⟩
def code_spec_Blur : F := ⟨61,[.cell 2 true 2],.seq (.reg [⟨some 1,.box (.t 0),none⟩,⟨some 2,.alloc [(.sl .nil 0 []),(.sl .nil 0 [])],none⟩]) (.seq (.seq (.reg [⟨some 7,.faddr 0 (.t 1),none⟩,⟨some 8,.load 1 false (.t 7),none⟩,⟨some 9,.len (.t 8),none⟩,⟨some 10,.bin .eql (.t 9) (.k (.int .i64 0)),none⟩]) (.cond (.t 10) (.seq (.reg [⟨some 11,.build [(.sl .nil 0 []),(.sl .nil 0 [])] [],none⟩,⟨none,.store 2 (.t 2) (.t 11),none⟩]) (.ret)) (.skip))) (.seq (.seq (.dreg [false,false,false,true,true] [false,true,false,true,false] [⟨some 12,.load 2 true (.t 1),none⟩,⟨some 13,.call 54 [.t 12],none⟩,⟨some 14,.load 2 true (.t 1),none⟩,⟨some 15,.call 19 [.t 13,.t 14],none⟩,⟨some 16,.not (.t 15),none⟩]) (.cond (.t 16) (.seq (.reg [⟨some 17,.load 2 true (.t 1),none⟩,⟨some 18,.call 55 [.t 17],none⟩,⟨none,.store 2 (.t 2) (.t 18),none⟩]) (.ret)) (.skip))) (.seq (.reg [⟨some 19,.load 2 true (.t 1),none⟩,⟨some 20,.call 56 [.t 19],none⟩,⟨some 3,.mov (.t 20),none⟩]) (.seq (.reg [⟨some 21,.build [(.sl .nil 0 []),(.sl .nil 0 [])] [],none⟩,⟨some 4,.alloc [(.sl .nil 0 []),(.sl .nil 0 [])],none⟩,⟨none,.store 2 (.t 4) (.t 21),none⟩]) (.seq (.seq (.reg [⟨some 5,.mov (.k (.int .i64 0)),none⟩]) (.block 0 (.loop (.seq (.seq (.reg [⟨some 22,.mov (.t 5),none⟩,⟨some 23,.mov (.t 3),none⟩,⟨some 24,.len (.t 23),none⟩,⟨some 25,.bin .lss (.t 22) (.t 24),none⟩]) (.cond (.t 25) (.skip) (.exit 0))) (.seq (.block 1 (.seq (.dreg [false,false,false,false,false,false,false,false,false,true,true,true] [false,false,false,false,false,false,false,true,false,false,false,false] [⟨some 28,.faddr 0 (.t 4),none⟩,⟨some 29,.load 1 false (.t 28),none⟩,⟨some 30,.load 2 true (.t 1),none⟩,⟨some 31,.mov (.t 3),none⟩,⟨some 32,.mov (.t 5),none⟩,⟨some 33,.iaddr 1 (.t 31) (.t 32),none⟩,⟨some 34,.load 1 false (.t 33),none⟩,⟨some 35,.call 57 [.t 30,.t 34],none⟩,⟨some 36,.bsl 61 4 1 (.agg [(.sl .nil 0 []),(.sl .nil 0 []),(.int .i64 0),(.int .i64 0)]) [(0,.t 35)],none⟩,⟨some 37,.append 61 4 64 (.t 29) (.t 36),none⟩,⟨some 38,.faddr 0 (.t 4),none⟩,⟨none,.store 1 (.t 38) (.t 37),none⟩]) (.seq (.reg [⟨some 6,.mov (.k (.int .i64 0)),none⟩]) (.block 2 (.loop (.seq (.seq (.reg [⟨some 39,.mov (.t 6),none⟩,⟨some 40,.mov (.t 3),none⟩,⟨some 41,.len (.t 40),none⟩,⟨some 42,.bin .lss (.t 39) (.t 41),none⟩]) (.cond (.t 42) (.skip) (.exit 2))) (.seq (.block 3 (.dreg [false,false,false,false,false,false,false,false,false,false,false,false,false,true,true,true] [false,false,false,false,false,false,false,false,false,false,false,true,false,false,false,false] [⟨some 45,.faddr 1 (.t 4),none⟩,⟨some 46,.load 1 false (.t 45),none⟩,⟨some 47,.load 2 true (.t 1),none⟩,⟨some 48,.mov (.t 3),none⟩,⟨some 49,.mov (.t 5),none⟩,⟨some 50,.iaddr 1 (.t 48) (.t 49),none⟩,⟨some 51,.load 1 false (.t 50),none⟩,⟨some 52,.mov (.t 3),none⟩,⟨some 53,.mov (.t 6),none⟩,⟨some 54,.iaddr 1 (.t 52) (.t 53),none⟩,⟨some 55,.load 1 false (.t 54),none⟩,⟨some 56,.call 58 [.t 47,.t 51,.t 55],none⟩,⟨some 57,.bsl 3 1 1 (.int .i64 0) [(0,.t 56)],none⟩,⟨some 58,.append 3 1 8 (.t 46) (.t 57),none⟩,⟨some 59,.faddr 1 (.t 4),none⟩,⟨none,.store 1 (.t 59) (.t 58),none⟩])) (.reg [⟨some 43,.mov (.t 6),none⟩,⟨some 44,.bin .add (.t 43) (.k (.int .i64 1)),none⟩,⟨some 6,.mov (.t 44),none⟩])))))))) (.reg [⟨some 26,.mov (.t 5),none⟩,⟨some 27,.bin .add (.t 26) (.k (.int .i64 1)),none⟩,⟨some 5,.mov (.t 27),none⟩])))))) (.seq (.reg [⟨some 60,.load 2 true (.t 4),none⟩,⟨none,.store 2 (.t 2) (.t 60),none⟩]) (.ret)))))))⟩
theorem fok_spec_Blur : FOk Try.prog 20 code_spec_Blur := fok Try.func20 (by kernel_rfl)
def blH (f : Nat → Node) (n : Nat) (ys : List Int) : List Blk := .dead :: .dead :: .dead :: .cells [.slref 7 0 n n, .slref 8 0 ys.length ys.length] :: .dead :: .dead :: .dead :: .row true 61 4 (blE f n) :: .row true 3 1 (ys.map encInt) :: blX f n
set_option maxHeartbeats 8000000 in
set_option maxRecDepth 100000 in
theorem ok_BlurH (ns : List Node) (nx : List Int) (hx : szStrc ⟨ns, nx⟩ ≤ 1048576) (hn : ns.length ≤ 10) (h0 : 0 < ns.length) (hs : structB (nvars ⟨ns, nx⟩) ⟨ns, nx⟩ = true) :
    OkH Try.prog 20 [encStrc ⟨ns, nx⟩] [] (.agg [.slref 7 0 (groupsF ⟨ns, nx⟩).length (groupsF ⟨ns, nx⟩).length, .slref 8 0 (nxB ⟨ns, nx⟩ (groupsF ⟨ns, nx⟩) (groupsF ⟨ns, nx⟩).length).length (nxB ⟨ns, nx⟩ (groupsF ⟨ns, nx⟩) (groupsF ⟨ns, nx⟩).length).length])
      (blH (fun i => grpNode ⟨ns, nx⟩ ((groupsF ⟨ns, nx⟩).getD i [])) (groupsF ⟨ns, nx⟩).length (nxB ⟨ns, nx⟩ (groupsF ⟨ns, nx⟩) (groupsF ⟨ns, nx⟩).length)) := by
  have hgk := groups_ok ⟨ns, nx⟩
  obtain ⟨gs, hgsE⟩ : ∃ gs, groupsF ⟨ns, nx⟩ = gs := ⟨_, rfl⟩
  rw [hgsE] at hgk ⊢
  have hS : TabOk Try.prog _ := tab_cons ok_l15Vars (tab_cons ok_sIsStructure (tab_cons ok_l17Groups tab_nil))
  have hne : ¬ ns = [] := by intro e; subst e; simp at h0
  have hf : ∀ i (h : i < gs.length), (fun i => grpNode ⟨ns, nx⟩ (gs.getD i [])) i = grpNode ⟨ns, nx⟩ gs[i] := fun i h => by simp [List.getD_eq_getElem?_getD, h]
  have hxs : ∀ i (h : i < gs.length), nxB ⟨ns, nx⟩ gs (i + 1) = nxB ⟨ns, nx⟩ gs i ++ gs.map (nextG ⟨ns, nx⟩ gs[i]) := fun i h => by
    have e : gs.getD i [] = gs[i] := by simp [List.getD_eq_getElem?_getD, h]
    rw [nxB, e]
  have hxl := nxB_len ⟨ns, nx⟩ gs
  have hx0 : nxB ⟨ns, nx⟩ gs 0 = [] := rfl
  generalize nxB ⟨ns, nx⟩ gs = Y at *
  generalize (fun i => grpNode ⟨ns, nx⟩ (gs.getD i [])) = f at *
  obtain ⟨hgl, hg⟩ := hgk
  simp only at hgl hg
  refine OkH.of_cw fok_spec_Blur ?_
  simp only [code_spec_Blur, frame, List.length_cons, List.length_nil, List.replicate, Nat.reduceSub, Nat.reduceAdd, List.cons_append, List.nil_append]
  refine cw_seq (go_ok hS ?_); simp [List.replicate]
  refine cw_seq (go_ok hS ?_); simp [List.replicate, hne]
  refine cw_seq (go_ok hS ?_); simp [List.replicate, hx, hs]
  refine cw_seq (go_ok hS ?_); simp [List.replicate, hx, hn]
  rw [hgsE]
  refine cw_seq (go_ok hS ?_); simp [List.replicate]
  refine cw_seq (go_ok hS ?_); simp [List.replicate]
  refine cw_round (fun (i : Nat) => ⟨slots 61 [(1, .pbox 0 0), (2, .pbox 3 0), (3, encL 1 (encL 1 encInt) gs), (4, .pbox 6 0), (5, .int .i64 i)], .cells [encL 4 encNode ns, encL 1 encInt nx] :: .nrow :: .nrow :: .cells [.slref 1 0 0 0, .slref 2 0 0 0] :: .nrow :: .nrow :: .cells [.slref 7 0 i i, .slref 8 0 (Y i).length (Y i).length] :: .row true 61 4 (blE f i) :: .row true 3 1 ((Y i).map encInt) :: blX f i⟩)
    (fun i => i ≤ gs.length) (fun i => gs.length - i) 0 (by simp) ?_ ?_
  · rw [hx0]
    refine (weak_row 7 61 4 rfl).trans ((weak_row 8 3 1 rfl).trans (weak_less ?_ ?_))
    · simp [blE, blX]
    · simp [List.replicate]
  rintro N hN i hi
  change i ≤ gs.length at hi
  have hw : IntKind.i64.wrap ((i : Int) + 1) = ((i + 1 : Nat) : Int) := by rw [wrap_i64] <;> omega
  by_cases q : i < gs.length
  case neg =>
    have e : i = gs.length := by omega
    subst e
    refine go_ok tab_nil ?_
    simp [List.replicate]
    refine go_ok tab_nil ?_
    simp [List.replicate]
    refine ⟨⟨slots 61 [(2, .pbox 3 0)], _⟩, weak_less (H' := blH f gs.length (Y gs.length)) (by simp [blH]) (by simp [List.replicate]), ?_⟩
    simp [retH, List.replicate, blH]
  have q2 : ¬ gs.length ≤ i := by omega
  have hel := blE_len f i
  have hXl := blX_len f i
  have hgi := hg gs[i] (List.getElem_mem q)
  have hXs : blX f (i + 1) = blX f i ++ blB (f i) := rfl
  have hEs : blE f (i + 1) = blE f i ++ [aggN blP blQ i (f i)] := rfl
  have hY := hxs i q
  have hyl := hxl i
  have hfi := hf i q
  have hN' := fun st h => hN i (i + 1) st (by show i + 1 ≤ gs.length; omega) (by omega) h
  rw [hXs, hEs, hY, hfi] at hN'
  clear hN hf hxs hxl hx0 hXs hEs hY
  generalize blX f i = X at *
  generalize blE f i = els at *
  generalize Y i = ys at *
  refine cw_seq (go_ok tab_nil ?_)
  simp [List.replicate, q, q2]
  refine cw_seq (cw_block ?_)
  have hT : TabOk Try.prog _ := tab_h (CtN.hok ok_l17Node) tab_nil
  refine cw_weak weak_void ?_
  refine cw_seq (cw_dreg9K hT _ [true, false] [[.void], []] [none, none, none, none, none, none, none, some 1, some 0] [[], [], [], [], [], [], [], [false, true], [true, true]] (by rfl) (one_cons (fun _ => rfl) (one_cons (by simp) one_nil)) (by rfl) ?_)
  simp [List.replicate, q]
  refine ⟨.agg [encL 4 encNode ns, encL 1 encInt nx], fun x x1 => ⟨_, rfl, rfl⟩, _, _, fun x => ⟨⟨⟨ns, nx⟩, gs[i]⟩, by simp, rfl, hx, hgi.1.1, by have h : gs[i].length ≤ ns.length := hgi.1.2; show gs[i].length ≤ _; omega, hgi.2, rfl, rfl⟩, ?_⟩
  have hb1 : (i + 1) * 64 ≤ 140737488355328 := by omega
  simp only []
  generalize hg1 : grpNode ⟨ns, nx⟩ gs[i] = x at *
  have hno : ¬ i + 1 ≤ i := by omega
  have htk : List.take i els = els := List.take_of_length_le (by omega)
  simp [gnR, gnN, AV.stored, hel, hb1, hno, htk, offB, offE, offC, offR, Nat.add_assoc]
  refine cw_seq (go_ok tab_nil ?_)
  simp [List.replicate]
  refine cw_block (cw_round (fun (p : Nat × List Int) => ⟨slots 61 [(1, .pbox 0 0), (2, .pbox 3 0), (3, encL 1 (encL 1 encInt) gs), (4, .pbox 6 0), (5, .int .i64 i), (6, .int .i64 p.1)], .cells [encL 4 encNode ns, encL 1 encInt nx] :: .nrow :: .nrow :: .cells [.slref 1 0 0 0, .slref 2 0 0 0] :: .nrow :: .nrow :: .cells [.slref 7 0 (i + 1) (i + 1), .slref 8 0 p.2.length p.2.length] :: .row true 61 4 (els ++ [.agg [.slref (X.length + 19) 0 x.vars.length x.vars.length, .slref (X.length + 20) 0 x.reach.length x.reach.length, .int .i64 x.shared, .int .i64 x.many]]) :: .row true 3 1 (p.2.map encInt) :: (X ++ blB x)⟩)
    (fun p => p.1 ≤ gs.length ∧ p.2 = ys ++ (gs.take p.1).map (nextG ⟨ns, nx⟩ gs[i])) (fun p => gs.length - p.1) (0, ys) ⟨by simp, by simp⟩ ?_ ?_)
  · exact weak_less (by simp [blB]) (by simp [List.replicate])
  rintro M hM ⟨d, ws⟩ ⟨hd, hws⟩
  change d ≤ gs.length at hd
  change ws = ys ++ (gs.take d).map (nextG ⟨ns, nx⟩ gs[i]) at hws
  have hwd : IntKind.i64.wrap ((d : Int) + 1) = ((d + 1 : Nat) : Int) := by rw [wrap_i64] <;> omega
  have hwl : ws.length = i * gs.length + d := by rw [hws]; simp; omega
  have hig : i * gs.length ≤ 10 * 10 := Nat.mul_le_mul (by omega) (by omega)
  have hbw : (ws.length + 1) * 8 ≤ 140737488355328 := by omega
  by_cases gd : d < gs.length
  · have gd2 : ¬ gs.length ≤ d := by omega
    have htw : ys ++ (gs.take (d + 1)).map (nextG ⟨ns, nx⟩ gs[i]) = ws ++ [nextG ⟨ns, nx⟩ gs[i] gs[d]] := by
      rw [hws, List.take_succ_eq_append_getElem gd, List.map_append, List.append_assoc]; rfl
    have hgd := hg gs[d] (List.getElem_mem gd)
    have l1 : gs[i].length ≤ 1048576 := by have h : gs[i].length ≤ ns.length := hgi.1.2; omega
    have l2 : gs[d].length ≤ 1048576 := by have h : gs[d].length ≤ ns.length := hgd.1.2; omega
    refine go_ok (tab_cons ok_l17Next tab_nil) ?_
    simp [List.replicate, hwd, gd, gd2, hbw, app1, q]
    refine ⟨[encL 4 encNode ns, encL 1 encInt nx], rfl, [encL 4 encNode ns, encL 1 encInt nx], by simp, ⟨⟨ns, nx⟩, gs[i], gs[d]⟩, rfl, rfl, rfl, hx, hgi.1.1, l1, hgd.1.1, l2, ?_⟩
    refine hM (d, ws) (d + 1, ws ++ [nextG ⟨ns, nx⟩ gs[i] gs[d]]) _ ⟨by show d + 1 ≤ gs.length; omega, htw.symm⟩ (by simp; omega) (weak_less ?_ ?_)
    · simp
    · simp [List.replicate]
  · have e : d = gs.length := by omega
    subst e
    rw [List.take_length] at hws
    refine go_ok tab_nil ?_
    simp [List.replicate]
    refine go_ok tab_nil ?_
    simp [List.replicate, hw]
    exact hN' _ (weak_less (by simp [aggN, blP, blQ, hXl, hws]) (by simp [List.replicate, hws]))
set_option maxHeartbeats 2000000 in
theorem ok_BlurU (nx : List Int) : OkH Try.prog 20 [encStrc ⟨[], nx⟩] [] (.agg [.slref 4 0 0 0, .slref 5 0 0 0]) soU := by
  refine OkH.of_cw fok_spec_Blur ?_
  simp only [code_spec_Blur, frame, List.length_cons, List.length_nil, List.replicate, Nat.reduceSub, Nat.reduceAdd, List.cons_append, List.nil_append]
  refine cw_seq (go_ok tab_nil ?_); simp [List.replicate]
  refine cw_seq (go_ok tab_nil ?_); simp [List.replicate]
  refine ⟨⟨slots 61 [(2, .pbox 3 0)], soU⟩, ?_, ?_⟩
  · refine (weak_row 4 61 4 rfl).trans ((weak_row 5 3 1 rfl).trans (weak_less ?_ ?_))
    · simp [soU]
    · simp [List.replicate]
  · simp [retH, soU, List.replicate]
theorem made_Blur (x : Strc) (hx : szStrc x ≤ 1048576) (hn : x.nodes.length ≤ 10) (hs : x.nodes = [] ∨ structB (nvars x) x = true) : ∃ (a c : Nat) (els : List AV) (p q : Nat → Nat) (N : List Blk),
    OkH Try.prog 20 [encStrc x] [] (.agg [.slref a 0 (blurS x).nodes.length (blurS x).nodes.length, .slref c 0 (blurS x).next.length (blurS x).next.length]) N ∧ (∀ k ∈ N, ownB k = true) ∧
    N[a]? = some (.row true 61 4 els) ∧ NIx N els (blurS x).nodes p q ∧ N[c]? = some (.row true 3 1 ((blurS x).next.map encInt)) ∧ ¬ NIx.own (blurS x).nodes.length p q c := by
  obtain ⟨ns, nx⟩ := x
  by_cases h0 : ns = []
  · subst h0
    have hr : blurS ⟨[], nx⟩ = ⟨[], []⟩ := rfl
    rw [hr]
    exact ⟨4, 5, [], fun i => i, fun i => i, soU, ok_BlurU nx, by simp [soU, ownB, ownVL, ownV], rfl, ⟨rfl, by simp, by simp, by simp, by simp, by simp, by simp⟩, rfl, by simp [NIx.own]⟩
  · have ok := ok_BlurH ns nx hx hn (List.length_pos_iff.2 h0) (hs.resolve_left h0)
    have e1 : (blurS ⟨ns, nx⟩).nodes = (List.range (groupsF ⟨ns, nx⟩).length).map fun i => grpNode ⟨ns, nx⟩ ((groupsF ⟨ns, nx⟩).getD i []) := nodes_map _ _
    have e2 : (blurS ⟨ns, nx⟩).next = nxB ⟨ns, nx⟩ (groupsF ⟨ns, nx⟩) (groupsF ⟨ns, nx⟩).length := (nxB_all _ _).symm
    rw [e1, e2]
    generalize nxB ⟨ns, nx⟩ (groupsF ⟨ns, nx⟩) (groupsF ⟨ns, nx⟩).length = ys at *
    generalize (groupsF ⟨ns, nx⟩).length = n at *
    have hfe : (fun i => grpNode ⟨ns, nx⟩ ((groupsF ⟨ns, nx⟩).getD i [])) = (fun i => grpNode ⟨ns, nx⟩ ((groupsF ⟨ns, nx⟩).getD i [])) := rfl
    generalize (fun i => grpNode ⟨ns, nx⟩ ((groupsF ⟨ns, nx⟩).getD i [])) = f at *
    have hnl : ((List.range n).map f).length = n := by simp
    have hget : ∀ i y, ((List.range n).map f)[i]? = some y → i < n ∧ y = f i := by
      intro i y hy
      have hi := (List.getElem?_eq_some_iff.1 hy).1
      rw [hnl] at hi
      refine ⟨hi, ?_⟩
      simp [hi] at hy
      exact hy.symm
    have hX : ∀ j, (blH f n ys)[j + 9]? = (blX f n)[j]? := fun j => rfl
    refine ⟨7, 8, blE f n, blP, blQ, blH f n ys, by simpa only [hnl] using ok, ?_, rfl, ⟨by rw [blE_len, hnl], fun i y hy => ?_, fun i y hy => ?_, fun i y hy => ?_, fun i j _ _ e => by unfold blP at e; omega, fun i j _ _ e => by unfold blQ at e; omega, fun i j _ _ e => by unfold blP blQ at e; omega⟩, rfl, ?_⟩
    · intro k hk
      simp only [blH, List.mem_cons] at hk
      rcases hk with rfl | rfl | rfl | rfl | rfl | rfl | rfl | rfl | rfl | hk
      · rfl
      · rfl
      · rfl
      · rfl
      · rfl
      · rfl
      · rfl
      · rw [ownB, ownVL_all, List.all_eq_true]; exact blE_own f n
      · simp [ownB]
      · exact blX_own f n k hk
    · obtain ⟨hi, rfl⟩ := hget i y hy
      rw [blE_get f hi]; rfl
    · obtain ⟨hi, rfl⟩ := hget i y hy
      rw [show blP i = (12 * i + 10) + 9 from rfl, hX, blX_get f hi 10 (by omega)]; rfl
    · obtain ⟨hi, rfl⟩ := hget i y hy
      rw [show blQ i = (12 * i + 11) + 9 from rfl, hX, blX_get f hi 11 (by omega)]; rfl
    · rintro ⟨i, _, e | e⟩
      · unfold blP at e; omega
      · unfold blQ at e; omega
end Go.Vm
namespace Go.Vm
open Go.Proofs
def nchkK (H : List Blk) (K : AV → List Blk → Prop) (v : AV) : Prop := evK (if fresh H v then match v with
    | .slref .. => none
    | v => some (v, H)
    else none) K
@[simp] theorem stepK_nchkK {P : Program} {T : Tab} {t : List AV} {H : List Blk} {x : Opd} {K : AV → List Blk → Prop} : stepK P T t H (.nchk x) K = nchkK H K (x.ev t) := (rfl)
@[simp] theorem nchkK_pbox {H : List Blk} {K : AV → List Blk → Prop} {b o : Nat} : nchkK H K (.pbox b o) = (isCells H[b]? = true ∧ K (.pbox b o) H) := by
  unfold nchkK
  rw [z_fresh_pbox]
  cases h : isCells H[b]?
  · simp [evK]
  · simp [evK]
def encU (c : UInt8) : AV := .int .u8 c.toNat
@[simp] theorem encU_eq (c : UInt8) : encU c = .int .u8 c.toNat := (rfl)
instance : Enc 1 encU := ⟨fun x y h => by
  simp only [encU, AV.int.injEq, true_and] at h
  exact UInt8.toNat_inj.1 (by omega), fun _ => rfl, fun _ => rfl⟩
structure Cur where
  buf : List UInt8
  pos : Nat
  seed : Int
def Cur.cells (c : Cur) : Blk := .cells [encL 1 encU c.buf, .int .i64 c.pos, .int .i64 c.seed]
def seedN (s : Int) : Int := IntKind.i64.wrap (IntKind.i64.wrap (s * 6364136223846793005) + 1442695040888963407)
def and255 (x : Int) : Int := IntKind.i64.wrap (((x % 2 ^ IntKind.i64.bits).toNat &&& 255 % 2 ^ IntKind.i64.bits : Nat) : Int)
theorem and255_eq (x : Int) : IntKind.i64.wrap (((x % 2 ^ IntKind.i64.bits).toNat &&& 255 % 2 ^ IntKind.i64.bits : Nat) : Int) = and255 x := (rfl)
def seedX (s : Int) : Int := IntKind.i64.wrap (((s.fdiv (2 ^ min 33 IntKind.i64.bits) % 2 ^ IntKind.i64.bits).toNat ^^^ (s.fdiv (2 ^ min 45 IntKind.i64.bits) % 2 ^ IntKind.i64.bits).toNat : Nat) : Int)
theorem seedX_eq (s : Int) : IntKind.i64.wrap (((s.fdiv (2 ^ min 33 IntKind.i64.bits) % 2 ^ IntKind.i64.bits).toNat ^^^ (s.fdiv (2 ^ min 45 IntKind.i64.bits) % 2 ^ IntKind.i64.bits).toNat : Nat) : Int) = seedX s := (rfl)
def seedB (s : Int) : Int := and255 (seedX s)
theorem and255_le (x : Int) : 0 ≤ and255 x ∧ and255 x ≤ 255 := by
  have h : (x % 2 ^ IntKind.i64.bits).toNat &&& 255 % 2 ^ IntKind.i64.bits ≤ 255 := Nat.le_trans Nat.and_le_right (Nat.mod_le _ _)
  unfold and255
  rw [wrap_i64] <;> omega
def Cur.byte (c : Cur) : Int := if h : c.pos < c.buf.length then and255 (IntKind.i64.wrap (seedB (seedN c.seed) + (c.buf[c.pos].toNat : Int))) else seedB (seedN c.seed)
def Cur.step (c : Cur) : Cur := ⟨c.buf, if c.pos < c.buf.length then c.pos + 1 else c.pos, seedN c.seed⟩
theorem byte_le (c : Cur) : 0 ≤ c.byte ∧ c.byte ≤ 255 := by
  unfold Cur.byte
  split
  · exact and255_le _
  · exact and255_le _
def code_spec_l1Byte : F := ⟨58,[.tmp 2],.seq (.reg [⟨some 2,.mov (.k (.int .i64 0)),none⟩]) (.seq (.reg [⟨some 4,.mov (.t 0),none⟩,⟨some 5,.mov (.t 0),none⟩,⟨some 6,.nchk (.t 5),none⟩,⟨some 7,.faddr 2 (.t 6),none⟩,⟨some 8,.load 1 false (.t 7),none⟩,⟨some 9,.bin .mul (.t 8) (.k (.int .i64 6364136223846793005)),none⟩,⟨some 10,.bin .add (.t 9) (.k (.int .i64 1442695040888963407)),none⟩,⟨some 11,.nchk (.t 4),none⟩,⟨some 12,.faddr 2 (.t 11),none⟩,⟨none,.store 1 (.t 12) (.t 10),none⟩]) (.seq (.dreg [false,false,false,false,false,false,false,false,false,false,true,true,true] [false,false,false,false,false,false,false,false,false,false,false,false,false] [⟨some 13,.mov (.t 0),none⟩,⟨some 14,.nchk (.t 13),none⟩,⟨some 15,.faddr 2 (.t 14),none⟩,⟨some 16,.load 1 false (.t 15),none⟩,⟨some 17,.bin .shr (.t 16) (.k (.int .u64 33)),none⟩,⟨some 18,.mov (.t 0),none⟩,⟨some 19,.nchk (.t 18),none⟩,⟨some 20,.faddr 2 (.t 19),none⟩,⟨some 21,.load 1 false (.t 20),none⟩,⟨some 22,.bin .shr (.t 21) (.k (.int .u64 45)),none⟩,⟨some 23,.bin .xor (.t 17) (.t 22),none⟩,⟨some 24,.bin .and (.t 23) (.k (.int .i64 255)),none⟩,⟨some 3,.mov (.t 24),none⟩]) (.seq (.seq (.dreg [false,false,false,false,false,false,false,false,false,true] [false,false,false,false,false,false,false,false,false,false] [⟨some 25,.mov (.t 0),none⟩,⟨some 26,.nchk (.t 25),none⟩,⟨some 27,.faddr 1 (.t 26),none⟩,⟨some 28,.load 1 false (.t 27),none⟩,⟨some 29,.mov (.t 0),none⟩,⟨some 30,.nchk (.t 29),none⟩,⟨some 31,.faddr 0 (.t 30),none⟩,⟨some 32,.load 1 false (.t 31),none⟩,⟨some 33,.len (.t 32),none⟩,⟨some 34,.bin .lss (.t 28) (.t 33),none⟩]) (.cond (.t 34) (.seq (.dreg [false,false,false,false,false,false,false,false,false,false,false,false,true,true,true] [false,false,false,false,false,false,false,false,false,false,false,false,false,false,false] [⟨some 35,.mov (.t 3),none⟩,⟨some 36,.mov (.t 0),none⟩,⟨some 37,.nchk (.t 36),none⟩,⟨some 38,.faddr 0 (.t 37),none⟩,⟨some 39,.load 1 false (.t 38),none⟩,⟨some 40,.mov (.t 0),none⟩,⟨some 41,.nchk (.t 40),none⟩,⟨some 42,.faddr 1 (.t 41),none⟩,⟨some 43,.load 1 false (.t 42),none⟩,⟨some 44,.iaddr 1 (.t 39) (.t 43),none⟩,⟨some 45,.load 1 false (.t 44),none⟩,⟨some 46,.conv .i64 (.t 45),none⟩,⟨some 47,.bin .add (.t 35) (.t 46),none⟩,⟨some 48,.bin .and (.t 47) (.k (.int .i64 255)),none⟩,⟨some 3,.mov (.t 48),none⟩]) (.reg [⟨some 49,.mov (.t 0),none⟩,⟨some 50,.mov (.t 0),none⟩,⟨some 51,.nchk (.t 50),none⟩,⟨some 52,.faddr 1 (.t 51),none⟩,⟨some 53,.load 1 false (.t 52),none⟩,⟨some 54,.bin .add (.t 53) (.k (.int .i64 1)),none⟩,⟨some 55,.nchk (.t 49),none⟩,⟨some 56,.faddr 1 (.t 55),none⟩,⟨none,.store 1 (.t 56) (.t 54),none⟩])) (.skip))) (.seq (.reg [⟨some 57,.mov (.t 3),none⟩,⟨some 2,.mov (.t 57),none⟩]) (.ret)))))⟩
theorem fok_spec_l1Byte : FOk Try.prog 89 code_spec_l1Byte := fok Try.func89 (by kernel_rfl)
@[simp] def ct_l1Byte : CtH := ⟨89, Nat × Cur, fun x H => x.2.buf.length ≤ 1048576 ∧ H[x.1]? = some x.2.cells, fun x => [.pbox x.1 0], fun x _ => .int .i64 x.2.byte, fun x H => H.set x.1 x.2.step.cells⟩
set_option maxHeartbeats 4000000 in
theorem ok_l1Byte : ct_l1Byte.Ok Try.prog := by
  rintro ⟨p, ⟨buf, pos, seed⟩⟩ H ⟨h0, h1⟩
  change buf.length ≤ 1048576 at h0
  change H[p]? = some (.cells [encL 1 encU buf, .int .i64 pos, .int .i64 seed]) at h1
  have hp : p < H.length := (List.getElem?_eq_some_iff.1 h1).1
  have hg : ∀ x, (H.set p x)[p]? = some x := fun x => by simp [hp]
  refine OkH.of_cw' fok_spec_l1Byte ?_
  simp only [code_spec_l1Byte, frame, List.length_cons, List.length_nil, List.replicate, Nat.reduceSub, Nat.reduceAdd, List.cons_append, List.nil_append]
  refine cw_seq (go_ok tab_nil ?_); simp
  refine cw_seq (go_ok tab_nil ?_); simp [List.replicate, h1, hg]
  change CW _ _ _ _ ⟨_, H.set p (Blk.cells [encL 1 encU buf, AV.int IntKind.i64 (pos : Int), AV.int IntKind.i64 (seedN seed)])⟩
  have hst : (Cur.mk buf pos seed).step = ⟨buf, if pos < buf.length then pos + 1 else pos, seedN seed⟩ := rfl
  have hby : (Cur.mk buf pos seed).byte = if h : pos < buf.length then and255 (IntKind.i64.wrap (seedB (seedN seed) + (buf[pos].toNat : Int))) else seedB (seedN seed) := rfl
  rw [hst, hby]
  clear hst hby
  generalize seedN seed = s
  refine cw_weak (weak_slots (t' := slots 58 [(0, .pbox p 0)]) (by simp [List.replicate, less_undef, less_refl])) ?_
  refine cw_seq (go_ok tab_nil ?_); simp [List.replicate, h1, hg, seedX_eq, and255_eq]
  have hB : and255 (seedX s) = seedB s := rfl
  simp only [hB]
  generalize hb : seedB s = b0 at *
  have hb0 := and255_le (seedX s)
  rw [hB] at hb0
  clear hB hb
  refine cw_weak (weak_slots (t' := slots 58 [(0, .pbox p 0), (3, .int .i64 b0)]) (by simp [List.replicate, less_undef, less_refl])) ?_
  by_cases g : pos < buf.length
  · have w1 : IntKind.i64.wrap ((buf[pos].toNat : Nat) : Int) = (buf[pos].toNat : Int) := by
      have := buf[pos].toNat_lt
      rw [wrap_i64] <;> omega
    have w2 : IntKind.i64.wrap ((pos : Int) + 1) = ((pos + 1 : Nat) : Int) := by rw [wrap_i64] <;> omega
    refine go_ok tab_nil ?_
    simp [List.replicate, h1, hg, g, retH, encU, w1, w2, and255_eq, Cur.cells]
  · refine go_ok tab_nil ?_
    simp [List.replicate, h1, hg, g, retH, Cur.cells]
def Cur.below (c : Cur) (n : Int) : Int := c.byte % n
theorem below_lt (c : Cur) {n : Int} (h : 0 < n) : 0 ≤ c.below n ∧ c.below n < n := ⟨Int.emod_nonneg _ (by omega), Int.emod_lt_of_pos _ h⟩
theorem step_buf (c : Cur) : c.step.buf = c.buf := rfl
def code_spec_l1Below : F := ⟨37,[.tmp 4],.seq (.reg [⟨some 4,.mov (.k (.int .i64 0)),none⟩]) (.seq (.seq (.reg [⟨some 9,.mov (.t 1),none⟩,⟨some 10,.bin .leq (.t 9) (.k (.int .i64 0)),none⟩]) (.cond (.t 10) (.seq (.reg [⟨some 4,.mov (.k (.int .i64 0)),none⟩]) (.ret)) (.skip))) (.seq (.seq (.reg [⟨some 11,.mov (.t 1),none⟩,⟨some 12,.bin .leq (.t 11) (.k (.int .i64 256)),none⟩]) (.cond (.t 12) (.seq (.reg [⟨some 13,.mov (.t 0),none⟩,⟨some 14,.call 89 [.t 13],none⟩,⟨some 15,.mov (.t 1),none⟩,⟨some 16,.bin .rem (.t 14) (.t 15),none⟩,⟨some 4,.mov (.t 16),none⟩]) (.ret)) (.skip))) (.seq (.reg [⟨some 17,.mov (.t 0),none⟩,⟨some 18,.call 89 [.t 17],none⟩,⟨some 5,.mov (.t 18),none⟩]) (.seq (.reg [⟨some 19,.mov (.t 0),none⟩,⟨some 20,.call 89 [.t 19],none⟩,⟨some 6,.mov (.t 20),none⟩]) (.seq (.reg [⟨some 21,.mov (.t 0),none⟩,⟨some 22,.call 89 [.t 21],none⟩,⟨some 7,.mov (.t 22),none⟩]) (.seq (.reg [⟨some 23,.mov (.t 0),none⟩,⟨some 24,.call 89 [.t 23],none⟩,⟨some 8,.mov (.t 24),none⟩]) (.seq (.reg [⟨some 25,.mov (.t 5),none⟩,⟨some 26,.bin .mul (.t 25) (.k (.int .i64 16777216)),none⟩,⟨some 27,.mov (.t 6),none⟩,⟨some 28,.bin .mul (.t 27) (.k (.int .i64 65536)),none⟩,⟨some 29,.bin .add (.t 26) (.t 28),none⟩,⟨some 30,.mov (.t 7),none⟩,⟨some 31,.bin .mul (.t 30) (.k (.int .i64 256)),none⟩,⟨some 32,.bin .add (.t 29) (.t 31),none⟩,⟨some 33,.mov (.t 8),none⟩,⟨some 34,.bin .add (.t 32) (.t 33),none⟩,⟨some 35,.mov (.t 1),none⟩,⟨some 36,.bin .rem (.t 34) (.t 35),none⟩,⟨some 4,.mov (.t 36),none⟩]) (.ret))))))))⟩
theorem fok_spec_l1Below : FOk Try.prog 39 code_spec_l1Below := fok Try.func39 (by kernel_rfl)
@[simp] def ct_l1Below : CtH := ⟨39, Nat × Cur × Int, fun x H => (0 < x.2.2 ∧ x.2.2 ≤ 256) ∧ x.2.1.buf.length ≤ 1048576 ∧ H[x.1]? = some x.2.1.cells, fun x => [.pbox x.1 0, .int .i64 x.2.2], fun x _ => .int .i64 (x.2.1.below x.2.2), fun x H => H.set x.1 x.2.1.step.cells⟩
set_option maxHeartbeats 1000000 in
theorem ok_l1Below : ct_l1Below.Ok Try.prog := by
  rintro ⟨p, c, n⟩ H ⟨⟨h1, h2⟩, h3, h4⟩
  change 0 < n at h1
  change n ≤ 256 at h2
  change c.buf.length ≤ 1048576 at h3
  change H[p]? = some c.cells at h4
  have n1 : ¬ n ≤ 0 := by omega
  have n2 : ¬ n = 0 := by omega
  have hb := byte_le c
  have ht : c.byte.tmod n = c.below n := Int.tmod_eq_emod_of_nonneg hb.1
  have hc : isCells H[p]? = true := by rw [h4]; rfl
  refine OkH.of_cw' fok_spec_l1Below (go_ok (tab_h ok_l1Byte tab_nil) ?_)
  simp [code_spec_l1Below, List.replicate, n1, n2, h2, h3, h4, hb, ht, retH]
  exact ⟨c, h3, rfl, ht.symm, rfl⟩
def code_spec_l1Once : F := ⟨9,[.tmp 4],.seq (.reg [⟨some 4,.mov (.k (.bool false)),none⟩]) (.seq (.reg [⟨some 5,.mov (.t 0),none⟩,⟨some 6,.mov (.t 1),none⟩,⟨some 7,.call 39 [.t 5,.t 6],none⟩,⟨some 8,.bin .eql (.t 7) (.k (.int .i64 0)),none⟩,⟨some 4,.mov (.t 8),none⟩]) (.ret))⟩
theorem fok_spec_l1Once : FOk Try.prog 38 code_spec_l1Once := fok Try.func38 (by kernel_rfl)
@[simp] def ct_l1Once : CtH := ⟨38, Nat × Cur × Int, fun x H => (0 < x.2.2 ∧ x.2.2 ≤ 256) ∧ x.2.1.buf.length ≤ 1048576 ∧ H[x.1]? = some x.2.1.cells, fun x => [.pbox x.1 0, .int .i64 x.2.2], fun x _ => .bool (decide (x.2.1.below x.2.2 = 0)), fun x H => H.set x.1 x.2.1.step.cells⟩
theorem ok_l1Once : ct_l1Once.Ok Try.prog := by
  rintro ⟨p, c, n⟩ H ⟨⟨h1, h2⟩, h3, h4⟩
  change 0 < n at h1
  change n ≤ 256 at h2
  change c.buf.length ≤ 1048576 at h3
  change H[p]? = some c.cells at h4
  refine OkH.of_cw' fok_spec_l1Once (go_ok (tab_h ok_l1Below tab_nil) ?_)
  simp [code_spec_l1Once, List.replicate, h1, h2, retH]
  exact ⟨c, h3, h4, Iff.rfl, rfl⟩
def code_spec_l1New : F := ⟨32,[.tmp 2],.seq (.reg [⟨some 2,.mov (.k .nilp),none⟩]) (.seq (.reg [⟨some 5,.mov (.t 0),none⟩,⟨some 6,.len (.t 5),none⟩,⟨some 7,.bin .add (.k (.int .i64 26583)) (.t 6),none⟩,⟨some 3,.mov (.t 7),none⟩]) (.seq (.seq (.reg [⟨some 4,.mov (.k (.int .i64 0)),none⟩]) (.block 0 (.loop (.seq (.seq (.reg [⟨some 8,.mov (.t 4),none⟩,⟨some 9,.mov (.t 0),none⟩,⟨some 10,.len (.t 9),none⟩,⟨some 11,.bin .lss (.t 8) (.t 10),none⟩,⟨some 12,.mov (.t 11),none⟩,⟨some 13,.mov (.t 4),some (12,true)⟩,⟨some 14,.bin .lss (.t 13) (.k (.int .i64 4000)),some (12,true)⟩,⟨some 15,.pick (.t 12) (.t 14) (.k (.bool false)),none⟩]) (.cond (.t 15) (.skip) (.exit 0))) (.seq (.block 1 (.reg [⟨some 18,.mov (.t 3),none⟩,⟨some 19,.bin .mul (.t 18) (.k (.int .i64 131)),none⟩,⟨some 20,.mov (.t 0),none⟩,⟨some 21,.mov (.t 4),none⟩,⟨some 22,.iaddr 1 (.t 20) (.t 21),none⟩,⟨some 23,.load 1 false (.t 22),none⟩,⟨some 24,.conv .i64 (.t 23),none⟩,⟨some 25,.bin .add (.t 19) (.t 24),none⟩,⟨some 26,.bin .add (.t 25) (.k (.int .i64 7)),none⟩,⟨some 27,.bin .and (.t 26) (.k (.int .i64 1073741823)),none⟩,⟨some 3,.mov (.t 27),none⟩])) (.reg [⟨some 16,.mov (.t 4),none⟩,⟨some 17,.bin .add (.t 16) (.k (.int .i64 1)),none⟩,⟨some 4,.mov (.t 17),none⟩])))))) (.seq (.reg [⟨some 28,.mov (.t 0),none⟩,⟨some 29,.mov (.t 3),none⟩,⟨some 30,.build [(.sl .nil 0 []),(.int .i64 0),(.int .i64 0)] [(0,1,.t 28),(2,1,.t 29)],none⟩,⟨some 31,.box (.t 30),none⟩,⟨some 2,.mov (.t 31),none⟩]) (.ret))))⟩
theorem fok_spec_l1New : FOk Try.prog 36 code_spec_l1New := fok Try.func36 (by kernel_rfl)
def mixU (s : Int) (b : UInt8) : Int := IntKind.i64.wrap (((IntKind.i64.wrap (IntKind.i64.wrap (IntKind.i64.wrap (s * 131) + IntKind.i64.wrap (b.toNat : Int)) + 7) % 2 ^ IntKind.i64.bits).toNat &&& 1073741823 % 2 ^ IntKind.i64.bits : Nat) : Int)
theorem mixU_eq (s : Int) (b : UInt8) : IntKind.i64.wrap (((IntKind.i64.wrap (IntKind.i64.wrap (IntKind.i64.wrap (s * 131) + IntKind.i64.wrap (b.toNat : Int)) + 7) % 2 ^ IntKind.i64.bits).toNat &&& 1073741823 % 2 ^ IntKind.i64.bits : Nat) : Int) = mixU s b := (rfl)
def seed0 (bs : List UInt8) : Int := (bs.take 4000).foldl mixU (26583 + bs.length)
def cur0 (bs : List UInt8) : Cur := ⟨bs, 0, seed0 bs⟩
@[simp] def ct_l1New : CtH := ⟨36, List UInt8, fun bs _ => bs.length ≤ 1048576, fun bs => [encL 1 encU bs], fun _ H => .pbox H.length 0, fun bs H => H ++ [(cur0 bs).cells]⟩
set_option maxHeartbeats 1000000 in
theorem ok_l1New : ct_l1New.Ok Try.prog := by
    intro bs H hl
    change List UInt8 at bs
    change bs.length ≤ 1048576 at hl
    have w0 : IntKind.i64.wrap (26583 + (bs.length : Int)) = 26583 + bs.length := by rw [wrap_i64] <;> omega
    refine OkH.of_cw' fok_spec_l1New (go_ok tab_nil ?_)
    simp [code_spec_l1New, List.replicate]
    try rw [w0]
    refine cw_round (fun (i : Nat) => ⟨slots 32 [(0, encL 1 encU bs), (3, .int .i64 ((bs.take i).foldl mixU (26583 + bs.length))), (4, .int .i64 i)], H⟩)
      (fun i => i ≤ bs.length ∧ i ≤ 4000) (fun i => 4000 - i) 0 (by simp) ?_ ?_
    · exact weak_slots (by simp [List.replicate, w0, less_undef, less_refl])
    rintro N hN i ⟨hi, hi4⟩
    have hw : IntKind.i64.wrap ((i : Int) + 1) = ((i + 1 : Nat) : Int) := by rw [wrap_i64] <;> omega
    by_cases g : i < bs.length
    · by_cases g4 : i < 4000
      · have g2 : ¬ bs.length ≤ i := by omega
        have g3 : ¬ 4000 ≤ i := by omega
        have g4i : (i : Int) < 4000 := by omega
        refine go_ok tab_nil ?_
        simp [List.replicate, hw, g, g2, g3, g4, g4i, mixU_eq]
        refine hN i (i + 1) _ ⟨by omega, by omega⟩ (by omega) (weak_slots ?_)
        have e : (bs.take (i + 1)).foldl mixU (26583 + bs.length) = mixU ((bs.take i).foldl mixU (26583 + bs.length)) bs[i] := by
          rw [List.take_succ_eq_append_getElem g, List.foldl_append]; rfl
        simp [List.replicate, e, less_undef, less_refl]
      · have e : i = 4000 := by omega
        subst e
        refine go_ok tab_nil ?_
        simp [List.replicate, hw, g, retH]
        exact ⟨fun _ => rfl, fun _ => rfl⟩
    · have e : i = bs.length := by omega
      subst e
      refine go_ok tab_nil ?_
      simp [List.replicate, hw, retH]
      simp only [cur0, Cur.cells, seed0]
      rw [List.take_of_length_le hi4]
      rfl
end Go.Vm
