/- Structures copied into rows of their own, and marked. No condition. -/
import Derived.Test.YtekiceofgkcpfaaDoorTMK
set_option linter.unusedSimpArgs false
set_option linter.unusedVariables false
namespace Go.Vm
open Go.Proofs
def code_laws_markNodeS : F := ⟨41, [.tmp 4],
 .seq (.reg [⟨some 4, .mov (.k (.int .i64 0)), none⟩])
 (.seq (.seq (.reg [⟨some 5, .mov (.k (.int .i64 0)), none⟩])
   (.block 0 (.loop (.seq (.seq (.reg [⟨some 6, .mov (.t 5), none⟩,
          ⟨some 7, .mov (.t 0), none⟩,
          ⟨some 8, .len (.t 7), none⟩,
          ⟨some 9, .bin .lss (.t 6) (.t 8), none⟩])
       (.cond (.t 9)
        (.skip)
        (.exit 0)))
      (.seq (.block 1 (.seq (.reg [⟨some 12, .mov (.t 0), none⟩,
            ⟨some 13, .mov (.t 5), none⟩,
            ⟨some 14, .iaddr 4 (.t 12) (.t 13), none⟩,
            ⟨some 15, .faddr 0 (.t 14), none⟩,
            ⟨some 16, .load 1 false (.t 15), none⟩,
            ⟨some 17, .mov (.t 1), none⟩,
            ⟨some 18, .call 46 [(.t 16), (.t 17)], none⟩,
            ⟨some 1, .mov (.t 18), none⟩])
         (.seq (.reg [⟨some 19, .mov (.t 0), none⟩,
             ⟨some 20, .mov (.t 5), none⟩,
             ⟨some 21, .iaddr 4 (.t 19) (.t 20), none⟩,
             ⟨some 22, .faddr 1 (.t 21), none⟩,
             ⟨some 23, .load 1 false (.t 22), none⟩,
             ⟨some 24, .mov (.t 1), none⟩,
             ⟨some 25, .call 46 [(.t 23), (.t 24)], none⟩,
             ⟨some 1, .mov (.t 25), none⟩])
          (.seq (.reg [⟨some 26, .mov (.t 0), none⟩,
              ⟨some 27, .mov (.t 5), none⟩,
              ⟨some 28, .mov (.t 1), none⟩,
              ⟨some 29, .iaddr 4 (.t 26) (.t 27), none⟩,
              ⟨some 30, .faddr 2 (.t 29), none⟩,
              ⟨none, .store 1 (.t 30) (.t 28), none⟩])
           (.seq (.reg [⟨some 31, .mov (.t 1), none⟩,
               ⟨some 32, .bin .add (.t 31) (.k (.int .i64 1)), none⟩,
               ⟨some 1, .mov (.t 32), none⟩])
            (.seq (.reg [⟨some 33, .mov (.t 0), none⟩,
                ⟨some 34, .mov (.t 5), none⟩,
                ⟨some 35, .mov (.t 1), none⟩,
                ⟨some 36, .iaddr 4 (.t 33) (.t 34), none⟩,
                ⟨some 37, .faddr 3 (.t 36), none⟩,
                ⟨none, .store 1 (.t 37) (.t 35), none⟩])
             (.reg [⟨some 38, .mov (.t 1), none⟩,
                ⟨some 39, .bin .add (.t 38) (.k (.int .i64 1)), none⟩,
                ⟨some 1, .mov (.t 39), none⟩])))))))
       (.reg [⟨some 10, .mov (.t 5), none⟩,
          ⟨some 11, .bin .add (.t 10) (.k (.int .i64 1)), none⟩,
          ⟨some 5, .mov (.t 11), none⟩]))))))
  (.seq (.reg [⟨some 40, .mov (.t 1), none⟩,
      ⟨some 4, .mov (.t 40), none⟩])
   (.ret)))⟩
theorem fok_laws_markNodeS : FOk Tryd.prog 45 code_laws_markNodeS := fok Tryd.func45 (by kernel_rfl)
theorem weak_eq {n0 : Nat} {t t' : List AV} {H H' : List Blk} (h : H = H') (ht : All2 Less t t') : Weak n0 ⟨t, H⟩ ⟨t', H'⟩ := h ▸ weak_slots ht
/-- A node in blocks of its own, its slices at two places. -/
def nodeAt (b : Nat) (x : Node) : AV := .agg [.slref (b + 7) 0 x.vars.length x.vars.length, .slref (b + 8) 0 x.reach.length x.reach.length, .int .i64 x.shared, .int .i64 x.many]
def nodeBs (b : Nat) (x : Node) : List Blk := [.dead, .dead, .dead, .cells [.slref (b + 7) 0 x.vars.length x.vars.length, .slref (b + 8) 0 x.reach.length x.reach.length, .int .i64 x.shared, .int .i64 x.many], .dead, .dead, .dead, .row true 3 1 (x.vars.map encInt), .row true 3 1 (x.reach.map encInt)]
def laid (b : Nat) : List Node → List AV
  | [] => []
  | x :: xs => nodeAt b x :: laid (b + 9) xs
def lblk (b : Nat) : List Node → List Blk
  | [] => []
  | x :: xs => nodeBs b x ++ lblk (b + 9) xs
theorem laid_len : ∀ (b : Nat) (xs : List Node), (laid b xs).length = xs.length
  | _, [] => rfl
  | b, x :: xs => by simp [laid, laid_len (b + 9) xs]
theorem lblk_len : ∀ (b : Nat) (xs : List Node), (lblk b xs).length = 9 * xs.length
  | _, [] => rfl
  | b, x :: xs => by simp [lblk, nodeBs, lblk_len (b + 9) xs]; omega
theorem laid_snoc : ∀ (b : Nat) (xs : List Node) (x : Node), laid b (xs ++ [x]) = laid b xs ++ [nodeAt (b + 9 * xs.length) x]
  | b, [], x => by simp [laid]
  | b, y :: xs, x => by
    simp only [List.cons_append, laid, laid_snoc (b + 9) xs x, List.length_cons]
    congr 4; omega
theorem lblk_snoc : ∀ (b : Nat) (xs : List Node) (x : Node), lblk b (xs ++ [x]) = lblk b xs ++ nodeBs (b + 9 * xs.length) x
  | b, [], x => by simp [lblk]
  | b, y :: xs, x => by
    simp only [List.cons_append, lblk, lblk_snoc (b + 9) xs x, List.length_cons, List.append_assoc]
    congr 3; omega
theorem nodeAt_sh (n b : Nat) (x : Node) : sh n (nodeAt b x) = nodeAt (n + b) x := by simp [nodeAt, Nat.add_assoc]
theorem nodeBs_sh (n b : Nat) (x : Node) : (nodeBs b x).map (shB n) = nodeBs (n + b) x := by simp [nodeBs, Nat.add_assoc]
theorem laid_sh (n : Nat) : ∀ (b : Nat) (xs : List Node), shL n (laid b xs) = laid (n + b) xs
  | _, [] => by simp [laid]
  | b, x :: xs => by simp [laid, nodeAt_sh, laid_sh n (b + 9) xs, Nat.add_assoc]
theorem lblk_sh (n : Nat) : ∀ (b : Nat) (xs : List Node), (lblk b xs).map (shB n) = lblk (n + b) xs
  | _, [] => by simp [lblk]
  | b, x :: xs => by simp only [lblk, List.map_append, nodeBs_sh, lblk_sh n (b + 9) xs, Nat.add_assoc]
theorem laid_own : ∀ (b : Nat) (xs : List Node), ownVL (laid b xs) = true
  | _, [] => rfl
  | b, x :: xs => by simp [laid, nodeAt, ownVL, ownV, laid_own (b + 9) xs]
theorem lblk_own : ∀ (b : Nat) (xs : List Node), ∀ k ∈ lblk b xs, ownB k = true
  | _, [], k, h => by simp [lblk] at h
  | b, x :: xs, k, h => by
    simp only [lblk, List.mem_append] at h
    rcases h with h | h
    · simp only [nodeBs, List.mem_cons, List.not_mem_nil, or_false] at h
      rcases h with rfl | rfl | rfl | rfl | rfl | rfl | rfl | rfl | rfl <;> first | rfl | simp [ownB]
    · exact lblk_own (b + 9) xs k h
@[simp] def ct_toNodeN : CtN := ⟨106, Node, fun x => szNode x ≤ 1048576, fun x => [encNode x], nodeAt 0, nodeBs 0⟩
set_option maxHeartbeats 1000000 in
theorem ok_toNodeN : ct_toNodeN.Ok Tryd.prog := by
  refine ⟨?_, fun _ _ => by simp [nodeAt, ownV, ownVL], fun x _ k hk => lblk_own 0 [x] k (by simp only [lblk, List.mem_append]; exact .inl hk)⟩
  rintro ⟨vs, rs, s, m⟩ hx
  change vs.length + rs.length ≤ 1048576 at hx
  have h1 : vs.length ≤ 1048576 := by omega
  have h2 : rs.length ≤ 1048576 := by omega
  refine OkH.of_cw fok_laws_toNode (go_ok (tab_h (CtN.hok ok_toIntN) tab_nil) ?_)
  simp [code_laws_toNode, List.replicate, h1, h2]
  refine ⟨⟨[.undef, .undef, .pbox 3 0] ++ List.replicate 16 .undef, _⟩, weak_seal 9 (by omega) (H' := nodeBs 0 ⟨vs, rs, s, m⟩) ?_ ?_, ?_⟩
  · simp [nodeBs]
  · simp [List.replicate]
  · simp [retH, List.replicate, nodeBs, nodeAt]
def zeroN : AV := .agg [.sl .nil 0 [], .sl .nil 0 [], .int .i64 0, .int .i64 0]
@[simp] def ct_toNodeSN : CtN := ⟨83, List Node, fun xs => szNodes xs ≤ 1048576, fun xs => [encL 4 encNode xs], fun xs => .slref 0 0 xs.length xs.length, fun xs => .row true 93 4 (laid 1 xs) :: lblk 1 xs⟩
set_option maxHeartbeats 2000000 in
theorem ok_toNodeSN : ct_toNodeSN.Ok Tryd.prog := by
  refine ⟨?_, fun _ _ => rfl, fun xs _ k hk => by
    simp only [ct_toNodeSN, List.mem_cons] at hk
    rcases hk with rfl | hk
    · exact laid_own _ _
    · exact lblk_own _ _ k hk⟩
  intro xs hx
  change List Node at xs
  change szNodes xs ≤ 1048576 at hx
  have hxl : xs.length ≤ 1048576 := by unfold szNodes at hx; omega
  refine OkH.of_cw' fok_laws_toNodeS (go_ok tab_nil ?_)
  simp [code_laws_toNodeS, List.replicate]
  refine ⟨by omega, by omega, ?_⟩
  refine cw_round (fun (i : Nat) => ⟨slots 23 [(0, encL 4 encNode xs), (3, .slref 0 0 xs.length xs.length), (4, .int .i64 i)], .row true 93 4 (laid 1 (xs.take i) ++ List.replicate (xs.length - i) zeroN) :: lblk 1 (xs.take i)⟩)
    (fun i => i ≤ xs.length) (fun i => xs.length - i) 0 (by omega) ?_ ?_
  · refine weak_seal (n0 := 0) 1 (Nat.zero_le _) ?_ ?_
    · simp [laid, lblk, zeroN]
    · simp [List.replicate]
  · rintro N hN i hi
    change i ≤ xs.length at hi
    have hw : IntKind.i64.wrap ((i : Int) + 1) = ((i + 1 : Nat) : Int) := by rw [wrap_i64] <;> omega
    have hL : (laid 1 (xs.take i)).length = i := by rw [laid_len]; simp; omega
    have hB : (lblk 1 (xs.take i)).length = 9 * i := by rw [lblk_len]; simp; omega
    by_cases h : i < xs.length
    · have h2 : ¬ xs.length ≤ i := by omega
      have hsz : szNode xs[i] ≤ 1048576 := by
        have := sum_mem szNode (List.getElem_mem h)
        unfold szNodes at hx
        omega
      obtain ⟨d, hd⟩ : ∃ d, xs.length - i = d + 1 := ⟨xs.length - i - 1, by omega⟩
      refine go_ok (tab_h (CtN.hok ok_toNodeN) tab_nil) ?_
      have he : (laid 1 (xs.take i) ++ List.replicate (xs.length - i) zeroN)[i]? = some zeroN := by
        rw [List.getElem?_append_right (by omega), hL, hd]; simp
      have htl : i + (xs.length - i) = xs.length := by omega
      simp [List.replicate, hw, h, h2, hsz, hL, hB, he, htl, nodeAt, nodeBs, zeroN]
      have ht : xs.take (i + 1) = xs.take i ++ [xs[i]] := List.take_succ_eq_append_getElem h
      have hl : (xs.take i).length = i := by simp; omega
      have hd' : xs.length - (i + 1) = d := by omega
      refine hN i (i + 1) _ (by omega) (by omega) (weak_eq ?_ ?_)
      · simp only [ht, laid_snoc, lblk_snoc, hl, hd, hd', nodeAt, nodeBs, zeroN, List.replicate_succ, List.set_cons_zero, Nat.add_comm 1 (9 * i), List.append_assoc, List.cons_append, List.nil_append]
      · simp [List.replicate, less_undef, less_refl]
    · have e : i = xs.length := by omega
      subst e
      refine go_ok tab_nil ?_
      simp [List.replicate, hw, retH]
theorem laid_below {m : Nat} : ∀ (b : Nat) (xs : List Node), b + 9 * xs.length ≤ m → belowEls m (laid b xs) = true
  | _, [], _ => rfl
  | b, x :: xs, h => by
    simp only [List.length_cons] at h
    have := laid_below (m := m) (b + 9) xs (by omega)
    simp only [belowEls] at this ⊢
    simp only [laid, List.all_cons, this, Bool.and_true, nodeAt]
    simp [belowE, belowC, belowR]
    omega
theorem lblk_sl {m : Nat} {H2 : List Blk} : ∀ (b : Nat) (xs : List Node), b + 9 * xs.length ≤ m → All2 (SlB m H2) (lblk b xs) (lblk b xs)
  | _, [], _ => .nil
  | b, x :: xs, h => by
    simp only [List.length_cons] at h
    refine All2.append ?_ (lblk_sl (b + 9) xs (by omega))
    have h7 : b + 7 < m := by omega
    have h8 : b + 8 < m := by omega
    simp [nodeBs, h7, h8]
theorem laid_sl {m E : Nat} {H2 : List Blk} {b : Nat} {xs : List Node} (h : b + 9 * xs.length ≤ m) : SlB m H2 (.row true E 4 (laid b xs)) (.row true E 4 (laid b xs)) := ⟨fun h => h, rfl, rfl, .inl ⟨rfl, laid_below b xs h⟩⟩
def strcAt (x : Strc) : AV := .agg [.slref 7 0 x.nodes.length x.nodes.length, .slref (8 + 9 * x.nodes.length) 0 x.next.length x.next.length]
def strcBs (x : Strc) : List Blk := [.dead, .dead, .dead, .cells [.slref 7 0 x.nodes.length x.nodes.length, .slref (8 + 9 * x.nodes.length) 0 x.next.length x.next.length], .dead, .dead, .dead] ++ ((.row true 93 4 (laid 8 x.nodes) :: lblk 8 x.nodes) ++ [.row true 3 1 (x.next.map encInt)])
@[simp] def ct_toStrcN : CtN := ⟨41, Strc, fun x => szStrc x ≤ 1048576, fun x => [encStrc x], strcAt, strcBs⟩
set_option maxHeartbeats 2000000 in
theorem ok_toStrcN : ct_toStrcN.Ok Tryd.prog := by
  refine ⟨?_, fun _ _ => rfl, fun x _ k hk => by
    simp only [ct_toStrcN, strcBs, List.mem_append, List.mem_cons, List.not_mem_nil, or_false] at hk
    rcases hk with (rfl | rfl | rfl | rfl | rfl | rfl | rfl) | (rfl | hk) | rfl <;> first | rfl | (exact laid_own _ _) | (exact lblk_own _ _ k hk) | simp [ownB]⟩
  rintro ⟨ns, nx⟩ hx
  have hx' : szStrc ⟨ns, nx⟩ ≤ 1048576 := hx
  have h1 : szNodes ns ≤ 1048576 := by simp only [szStrc] at hx'; omega
  have h2 : nx.length ≤ 1048576 := by simp only [szStrc] at hx'; omega
  refine OkH.of_cw fok_laws_toStructure (go_ok (tab_h (CtN.hok ok_toNodeSN) (tab_h (CtN.hok ok_toIntN) tab_nil)) ?_)
  simp [code_laws_toStructure, List.replicate, h1, h2, laid_sh, lblk_sh, lblk_len]
  refine ⟨⟨[.undef, .undef, .pbox 3 0] ++ List.replicate 10 .undef, _⟩, weak_seal (n0 := 0) (9 + 9 * ns.length) (by omega) (H' := strcBs ⟨ns, nx⟩) ?_ ?_, ?_⟩
  · rw [List.take_of_length_le (by simp [lblk_len]; omega)]
    refine .cons (by simp) (.cons (by simp) (.cons (by simp) (.cons ?_ (.cons (by simp) (.cons (by simp) (.cons (by simp) (.cons (laid_sl (by omega)) ?_)))))))
    · rw [SlB_cells]
      refine .cons (.inr (.inl ⟨rfl, by simp [belowC, belowR]; omega⟩)) (.cons (.inr (.inl ⟨?_, by simp [belowC, belowR]; omega⟩)) .nil)
      rw [show 9 * ns.length + 1 + 1 + 1 + 1 + 1 + 1 + 1 + 1 = 8 + 9 * ns.length by omega]
    · refine All2.append (lblk_sl 8 ns (by omega)) (.cons slB_ints .nil)
  · have h3 : 3 < 9 + 9 * ns.length := by omega
    simp [List.replicate, h3]
  · simp [retH, List.replicate, strcBs, strcAt]
/-! marks that are not read again: the blocks are given up -/
def sliceOk (H : List Blk) (lo hi : Nat) (a : AV) : Prop := ∃ (b : Nat) (vs : List Int), a = .slref b 0 vs.length vs.length ∧ (lo ≤ b ∧ b < hi) ∧ H[b]? = some (.row true 3 1 (vs.map encInt)) ∧ vs.length ≤ 1048576
def nodeOk (H : List Blk) (lo hi : Nat) (e : AV) : Prop := ∃ a r s m, e = .agg [a, r, .int .i64 s, .int .i64 m] ∧ sliceOk H lo hi a ∧ sliceOk H lo hi r
def lenA : AV → Nat
  | .slref _ _ l _ => l
  | _ => 0
def nodeSz : AV → Nat
  | .agg [a, r, _, _] => lenA a + lenA r + 2
  | _ => 0
def rowOk (H : List Blk) (lo hi b : Nat) (sz : List Nat) : Prop := (lo ≤ b ∧ b < hi) ∧ ∃ els, H[b]? = some (.row true 93 4 els) ∧ els.map nodeSz = sz ∧ ∀ e ∈ els, nodeOk H lo hi e
def outO (H H' : List Blk) (lo hi : Nat) : Prop := H'.length = H.length ∧ ∀ j, j < lo ∨ hi ≤ j → H'[j]? = H[j]?
theorem outO_refl (H : List Blk) (lo hi : Nat) : outO H H lo hi := ⟨rfl, fun _ _ => rfl⟩
theorem outO_set {H H' : List Blk} {lo hi b : Nat} {x : Blk} (h : outO H H' lo hi) (h1 : lo ≤ b) (h2 : b < hi) : outO H (H'.set b x) lo hi := by
  refine ⟨by simp [h.1], fun j hj => ?_⟩
  rw [List.getElem?_set_ne (by omega)]
  exact h.2 j hj
theorem sliceOk_set {H : List Blk} {lo hi b : Nat} {a : AV} {vs ws : List Int} (hb : H[b]? = some (.row true 3 1 (vs.map encInt))) (hl : ws.length = vs.length) (h : sliceOk H lo hi a) : sliceOk (H.set b (.row true 3 1 (ws.map encInt))) lo hi a := by
  obtain ⟨c, us, rfl, h1, h2, h3⟩ := h
  by_cases e : c = b
  · subst e
    rw [hb] at h2
    have : us = vs := by simpa using h2.symm
    subst this
    exact ⟨c, ws, by rw [hl], h1, by rw [List.getElem?_set_self (List.getElem?_eq_some_iff.1 hb).1], by omega⟩
  · exact ⟨c, us, rfl, h1, by rw [List.getElem?_set_ne (fun q => e q.symm), h2], h3⟩
theorem nodeOk_set {H : List Blk} {lo hi b : Nat} {e : AV} {vs ws : List Int} (hb : H[b]? = some (.row true 3 1 (vs.map encInt))) (hl : ws.length = vs.length) (h : nodeOk H lo hi e) : nodeOk (H.set b (.row true 3 1 (ws.map encInt))) lo hi e := by
  obtain ⟨a, r, s, m, rfl, h1, h2⟩ := h
  exact ⟨a, r, s, m, rfl, sliceOk_set hb hl h1, sliceOk_set hb hl h2⟩
theorem sliceOk_row {H : List Blk} {lo hi b : Nat} {a : AV} {els els' : List AV} (hb : H[b]? = some (.row true 93 4 els)) (h : sliceOk H lo hi a) : sliceOk (H.set b (.row true 93 4 els')) lo hi a := by
  obtain ⟨c, us, rfl, h1, h2, h3⟩ := h
  have e : b ≠ c := by rintro rfl; rw [hb] at h2; simp at h2
  exact ⟨c, us, rfl, h1, by rw [List.getElem?_set_ne e, h2], h3⟩
theorem nodeOk_row {H : List Blk} {lo hi b : Nat} {e : AV} {els els' : List AV} (hb : H[b]? = some (.row true 93 4 els)) (h : nodeOk H lo hi e) : nodeOk (H.set b (.row true 93 4 els')) lo hi e := by
  obtain ⟨a, r, s, m, rfl, h1, h2⟩ := h
  exact ⟨a, r, s, m, rfl, sliceOk_row hb h1, sliceOk_row hb h2⟩
def deadR (lo hi : Nat) (H : List Blk) : List Blk := H.take lo ++ List.replicate (hi - lo) .dead ++ H.drop hi
theorem deadR_get {lo hi : Nat} {H : List Blk} (h1 : lo ≤ hi) (h2 : hi ≤ H.length) (j : Nat) : (deadR lo hi H)[j]? = if j < lo ∨ hi ≤ j then H[j]? else some .dead := by
  unfold deadR
  by_cases a : j < lo
  · rw [if_pos (.inl a), List.append_assoc, List.getElem?_append_left (by simp; omega), List.getElem?_take, if_pos a]
  · by_cases b : hi ≤ j
    · rw [if_pos (.inr b), List.getElem?_append_right (by simp; omega), List.getElem?_drop]
      congr 1
      simp
      omega
    · rw [if_neg (by omega), List.getElem?_append_left (by simp; omega), List.getElem?_append_right (by simp; omega), List.getElem?_replicate, if_pos (by simp; omega)]
theorem deadR_len {lo hi : Nat} {H : List Blk} (h1 : lo ≤ hi) (h2 : hi ≤ H.length) : (deadR lo hi H).length = H.length := by
  simp [deadR]; omega
theorem weak_dead {n0 lo hi : Nat} {H H' X : List Blk} {t t' : List AV} (hB : SelfB H) (ho : outO H H' lo hi) (h1 : lo ≤ hi) (h2 : hi ≤ H.length) (hn : n0 ≤ H.length) (ht : All2 (SlV H.length (H' ++ X)) t t') : Weak n0 ⟨t, H' ++ X⟩ ⟨t', deadR lo hi H⟩ := by
  refine weak_seal H.length hn ?_ ht
  rw [← ho.1, List.take_left]
  refine All2.of_get (by rw [ho.1, deadR_len h1 h2]) fun j a c ha hc => ?_
  rw [deadR_get h1 h2] at hc
  split at hc
  · rename_i hj
    rw [ho.2 j hj] at ha
    rw [ha] at hc
    cases hc
    obtain ⟨b, hb1, hb2⟩ := (hB H.length (Nat.le_refl _) (H' ++ X)).get ha
    rw [ha] at hb1; cases hb1
    rw [ho.1]
    exact hb2
  · cases hc
    simp
end Go.Vm
