/- Embeddings: what is found is one, what is one is found; every structure is embedded in itself and in its abstraction. Plain; no condition. -/
import Derived.Test.YtfelkhckpfjgjaaTKI
import Derived.Test.YtfelkhckpfjgjaaTJI
import Derived.Test.YtfelkhckpfjgjaaTCI
import Derived.Test.YtfelkhckpfjgjaaTMK
import Derived.Test.YtfelkhckpfjgjaaVme
set_option linter.unusedSimpArgs false
set_option linter.unusedVariables false
namespace Go.Vm
open Go.Proofs
theorem firstS_isSome {β : Type} {f : Nat → Option β} : ∀ {m k j : Nat}, k ≤ j → j < k + m → (f j).isSome = true → (firstS f m k).isSome = true
  | 0, k, j, h1, h2, _ => by omega
  | m + 1, k, j, h1, h2, h => by
    cases e : f k with
    | some y => rw [firstS_hit e]; rfl
    | none =>
      rw [firstS_miss e]
      by_cases q : j = k
      · subst q; rw [e] at h; cases h
      · exact firstS_isSome (j := j) (by omega) (by omega) h
theorem findE_good {s t : Strc} : ∀ {n : Nat} {to out : List Int}, to.length + n = s.nodes.length → fitsTo s t to to.length = true → findE s t n to = some out → embB s t out = true
  | 0, to, out, hl, hf, h => by
    unfold findE at h
    split at h
    · rename_i ho
      simp only [Option.some.injEq] at h; subst h
      rw [embB_full (by omega) hf]; exact ho
    · cases h
  | n + 1, to, out, hl, hf, h => by
    rw [findE_succ] at h
    obtain ⟨j, -, h2, h3⟩ := firstS_some h
    unfold stepE at h3
    split at h3
    · rename_i ho
      refine findE_good (to := to ++ [(j : Int)]) (by simp; omega) ?_ h3
      have := fitsTo_snoc hf (by omega) ho
      simpa using this
    · cases h3
theorem embed_good {s t : Strc} {out : List Int} (h : embed s t = some out) : embB s t out = true :=
  findE_good (to := []) (by simp) (by simp [fitsTo]) h
theorem embB_parts {s t : Strc} {to : List Int} (h : embB s t to = true) : to.length = s.nodes.length ∧ (∀ i, i < to.length → inN t (to.getD i 0) ∧ fitsB s t to i = true) ∧ ontoB t to = true := by
  rw [embB_eq] at h
  simp only [Bool.and_eq_true, decide_eq_true_eq] at h
  refine ⟨h.1.1, fun i hi => ?_, h.2⟩
  have := List.all_eq_true.1 h.1.2 i (by simpa using hi)
  simpa using this
theorem findE_find {s t : Strc} {out : List Int} (h : embB s t out = true) : ∀ {n : Nat} {to : List Int}, to.length + n = s.nodes.length → out.take to.length = to → (findE s t n to).isSome = true
  | 0, to, hl, ht => by
    obtain ⟨h1, h2, h3⟩ := embB_parts h
    have : to = out := by rw [← ht, List.take_of_length_le (by omega)]
    subst this
    unfold findE
    rw [if_pos h3]; rfl
  | n + 1, to, hl, ht => by
    obtain ⟨h1, h2, h3⟩ := embB_parts h
    have hi : to.length < out.length := by omega
    obtain ⟨hn, hf⟩ := h2 to.length hi
    obtain ⟨g0, g1⟩ := inN_at hn
    have e : out.take (to.length + 1) = to ++ [((out.getD to.length 0).toNat : Int)] := by
      rw [List.take_succ_eq_append_getElem hi, ht, Int.toNat_of_nonneg g0]
      simp [List.getD_eq_getElem?_getD, hi]
    rw [findE_succ]
    refine firstS_isSome (j := (out.getD to.length 0).toNat) (by omega) (by omega) ?_
    have ho : okB s t to (out.getD to.length 0).toNat = true := by
      unfold okB
      rw [← e, fitsB_take]; exact hf
    rw [stepE_ok ho]
    exact findE_find h (by simp; omega) (by rw [List.length_append, ← e]; rfl)
theorem embed_find {s t : Strc} {out : List Int} (h : embB s t out = true) : (embed s t).isSome = true :=
  findE_find h (to := []) (by simp) (by simp)
theorem within_self {a : Int} (h : isTruth a = true) : withinB a a = true := by simp [withinB, h]
theorem lists_self {l : List Int} (h : ∀ a ∈ l, isTruth a = true) : listsB l l = true :=
  lists_good rfl fun j hj => within_self (getD_truth h j)
theorem structB_node {v : Int} {s : Strc} (h : structB v s = true) {i : Nat} (hi : i < s.nodes.length) : ((s.nodes[i].vars.length : Int) = v ∧ (s.nodes[i].reach.length : Int) = v) ∧ ((∀ a ∈ s.nodes[i].vars, isTruth a = true) ∧ (∀ a ∈ s.nodes[i].reach, isTruth a = true)) ∧ isTruth s.nodes[i].shared = true ∧ (0 ≤ s.nodes[i].many ∧ s.nodes[i].many ≤ 1) := by
  unfold structB at h
  simp only [Bool.and_eq_true, decide_eq_true_eq, Bool.not_eq_true', List.any_eq_false] at h
  have := h.2 _ (List.getElem_mem hi)
  simp only [badN, Bool.not_eq_true', Bool.not_eq_false', Bool.not_not, Bool.and_eq_true, decide_eq_true_eq, Bool.not_eq_true] at this
  simp at this
  obtain ⟨a1, a2, a3, a4, a5, a6, a7⟩ := this
  exact ⟨⟨a1, a2⟩, ⟨truthsB_iff.1 a3, truthsB_iff.1 a4⟩, a5, a6, a7⟩
theorem many_truth {a : Int} (h : 0 ≤ a ∧ a ≤ 1) : isTruth a = true := by rw [isTruth_iff]; omega
theorem nodes_getD {s : Strc} {i : Nat} (hi : i < s.nodes.length) : s.nodes.getD i default = s.nodes[i] := by simp [List.getD_eq_getElem?_getD, hi]
theorem embB_self {v : Int} {s : Strc} (h : structB v s = true) : embB s s (idsL s.nodes.length) = true := by
  have ht := structB_truth h
  have hg : ∀ i, i < s.nodes.length → (idsL s.nodes.length).getD i 0 = (i : Int) := fun i hi => by
    rw [List.getD_eq_getElem?_getD, List.getElem?_eq_getElem (by rw [idsL_len]; exact hi)]; simp [idsL]
  have hf : fitsTo s s (idsL s.nodes.length) (idsL s.nodes.length).length = true := by
    refine fitsTo_good fun i hi => ?_
    rw [idsL_len] at hi
    rw [hg i hi, Bool.and_eq_true]
    refine ⟨decide_eq_true ⟨by omega, by omega⟩, fits_good ?_ fun k hk => ?_⟩
    · rw [hg i hi, show ((i : Int)).toNat = i by omega, nodes_getD hi]
      obtain ⟨-, ⟨a1, a2⟩, a3, a4⟩ := structB_node h hi
      unfold nodeB
      rw [lists_self a1, lists_self a2, within_self a3, within_self (many_truth a4)]; rfl
    · have hk : k < s.nodes.length := by omega
      unfold pairB
      rw [hg i hi, hg k hk, within_self (nextOf_truth ht _ _), within_self (nextOf_truth ht _ _)]
      by_cases e : k = i
      · subst e; simp
      · have : ¬ (k : Int) = i := by omega
        simp [this]
  rw [embB_full (idsL_len _) hf]
  exact onto_good fun j hj => List.mem_map.2 ⟨j, by simpa using hj, rfl⟩
structure Gs.Part (nm : Nat → List UInt8) (g : Gs) (i : Nat) : Prop where
  cov : ∀ j : Nat, j < i → ∃ c, c < g.cr.length ∧ (j : Int) ∈ g.cr.getD c []
  dis : ∀ c c' y, y ∈ g.cr.getD c [] → y ∈ g.cr.getD c' [] → c = c'
  nam : ∀ a, a < g.od.length → ∀ j : Nat, (j : Int) ∈ g.cr.getD (g.od.getD a 0) [] → g.nm[a]? = some (nm j)
theorem ins_get {α : Type} {l : List α} {x : α} {a b : Nat} (ha : a ≤ l.length) : (l.take a ++ x :: l.drop a)[b]? = if b < a then l[b]? else if b = a then some x else l[b - 1]? := by
  by_cases h1 : b < a
  · rw [if_pos h1, List.getElem?_append_left (by simp; omega), List.getElem?_take, if_pos h1]
  · rw [if_neg h1, List.getElem?_append_right (by simp; omega)]
    have e : b - (l.take a).length = b - a := by simp; omega
    rw [e]
    by_cases h2 : b = a
    · rw [if_pos h2, h2, Nat.sub_self]; rfl
    · rw [if_neg h2]
      obtain ⟨m, hm⟩ : ∃ m, b - a = m + 1 := ⟨b - a - 1, by omega⟩
      rw [hm, List.getElem?_cons_succ, List.getElem?_drop]
      congr 1; omega
theorem Gs.Part.step {nm : Nat → List UInt8} {g : Gs} {i : Nat} (h : g.Part nm i) (ok : g.Ok i) : (g.step (nm i) i).Part nm (i + 1) := by
  obtain ⟨cov, dis, nam⟩ := h
  obtain ⟨lo, lc, nd, rg, li, ne, el⟩ := ok
  have hle := lowP_le g.nm (nm i)
  have new : ∀ c (y : Int), y ∈ g.cr.getD c [] → y < i := fun c y hy => by
    by_cases hc : c < g.cr.length
    · rw [List.getD_eq_getElem?_getD, List.getElem?_eq_getElem hc] at hy
      exact ((el _ (List.getElem_mem hc)).2 y hy).2
    · rw [List.getD_eq_getElem?_getD, List.getElem?_eq_none (by omega)] at hy; cases hy
  unfold Gs.step
  generalize lowP g.nm (nm i) = a at *
  split
  · rename_i e
    have ha : a < g.nm.length := (List.getElem?_eq_some_iff.1 e).1
    have hao : a < g.od.length := by omega
    have e1 : g.od.getD a 0 = g.od[a] := by simp [List.getD_eq_getElem?_getD, hao]
    have hc : g.od[a] < g.cr.length := rg _ (List.getElem_mem hao)
    rw [e1]
    generalize hc0 : g.od[a] = c0 at *
    have gset : ∀ c, (g.cr.set c0 (g.cr.getD c0 [] ++ [(i : Int)])).getD c [] = if c = c0 then g.cr.getD c0 [] ++ [(i : Int)] else g.cr.getD c [] := fun c => by
      rw [List.getD_eq_getElem?_getD]
      by_cases q : c = c0
      · subst q; rw [List.getElem?_set_self hc, if_pos rfl]; rfl
      · rw [List.getElem?_set_ne (fun e => q e.symm), if_neg q, ← List.getD_eq_getElem?_getD]
    refine ⟨fun j hj => ?_, fun c c' y hy hy' => ?_, fun b hb j hj => ?_⟩
    · by_cases q : j = i
      · subst q; exact ⟨c0, by simpa using hc, by rw [gset, if_pos rfl]; simp⟩
      · obtain ⟨c, h1, h2⟩ := cov j (by omega)
        refine ⟨c, by simpa using h1, ?_⟩
        rw [gset]
        split
        · rename_i q; subst q; exact List.mem_append_left _ h2
        · exact h2
    · simp only [gset] at hy hy'
      split at hy <;> split at hy'
      · omega
      · rename_i q1 q2
        rcases List.mem_append.1 hy with hy | hy
        · rw [q1]; exact dis _ _ _ hy hy'
        · rw [List.mem_singleton.1 hy] at hy'
          have := new _ _ hy'; omega
      · rename_i q1 q2
        rcases List.mem_append.1 hy' with hy' | hy'
        · rw [q2]; exact dis _ _ _ hy hy'
        · rw [List.mem_singleton.1 hy'] at hy
          have := new _ _ hy; omega
      · exact dis _ _ _ hy hy'
    · simp only [gset] at hj
      have hb' : b < g.od.length := hb
      split at hj
      · rename_i q
        have eb : g.od.getD b 0 = g.od[b] := by simp [List.getD_eq_getElem?_getD, hb']
        have hab : b = a := by
          have : g.od[b] = g.od[a] := by rw [← eb, q, hc0]
          exact (List.getElem_inj nd).1 this
        subst hab
        rcases List.mem_append.1 hj with hj | hj
        · exact nam b hb' j (by rw [q]; exact hj)
        · have : j = i := by have := List.mem_singleton.1 hj; omega
          subst this; exact e
      · exact nam b hb' j hj
  · rename_i e
    have gapp : ∀ c, (g.cr ++ [[(i : Int)]]).getD c [] = if c = g.cr.length then [(i : Int)] else g.cr.getD c [] := fun c => by
      rw [List.getD_eq_getElem?_getD]
      by_cases q : c < g.cr.length
      · rw [List.getElem?_append_left q, if_neg (by omega), ← List.getD_eq_getElem?_getD]
      · rw [List.getElem?_append_right (by omega)]
        by_cases q2 : c = g.cr.length
        · rw [if_pos q2, q2]; simp
        · rw [if_neg q2, List.getElem?_eq_none (by simp; omega), List.getD_eq_getElem?_getD, List.getElem?_eq_none (by omega)]
    refine ⟨fun j hj => ?_, fun c c' y hy hy' => ?_, fun b hb j hj => ?_⟩
    · by_cases q : j = i
      · subst q; exact ⟨g.cr.length, by simp, by rw [gapp, if_pos rfl]; simp⟩
      · obtain ⟨c, h1, h2⟩ := cov j (by omega)
        exact ⟨c, by simp; omega, by rw [gapp, if_neg (by omega)]; exact h2⟩
    · simp only [gapp] at hy hy'
      split at hy <;> split at hy'
      · omega
      · rw [List.mem_singleton.1 hy] at hy'
        have := new _ _ hy'; omega
      · rw [List.mem_singleton.1 hy'] at hy
        have := new _ _ hy; omega
      · exact dis _ _ _ hy hy'
    · have hbl : b < g.od.length + 1 := by simp at hb; omega
      have eo : (g.od.take a ++ g.cr.length :: g.od.drop a).getD b 0 = if b < a then g.od.getD b 0 else if b = a then g.cr.length else g.od.getD (b - 1) 0 := by
        rw [List.getD_eq_getElem?_getD, ins_get (by omega)]
        split
        · rw [← List.getD_eq_getElem?_getD]
        · split
          · rfl
          · rw [← List.getD_eq_getElem?_getD]
      have en : (g.nm.take a ++ nm i :: g.nm.drop a)[b]? = if b < a then g.nm[b]? else if b = a then some (nm i) else g.nm[b - 1]? := ins_get hle
      show (g.nm.take a ++ nm i :: g.nm.drop a)[b]? = some (nm j)
      have hj : (j : Int) ∈ (g.cr ++ [[(i : Int)]]).getD ((g.od.take a ++ g.cr.length :: g.od.drop a).getD b 0) [] := hj
      rw [eo, gapp] at hj
      rw [en]
      have odl : ∀ d, d < g.od.length → g.od.getD d 0 ≠ g.cr.length := fun d hd => by
        rw [List.getD_eq_getElem?_getD, List.getElem?_eq_getElem hd]
        have := rg _ (List.getElem_mem hd)
        simp only [Option.getD_some]; omega
      by_cases q1 : b < a
      · rw [if_pos q1] at hj ⊢
        rw [if_neg (odl b (by omega))] at hj
        exact nam b (by omega) j hj
      · rw [if_neg q1] at hj ⊢
        by_cases q2 : b = a
        · rw [if_pos q2] at hj ⊢
          rw [if_pos rfl] at hj
          have : j = i := by have := List.mem_singleton.1 hj; omega
          rw [this]
        · rw [if_neg q2] at hj ⊢
          rw [if_neg (odl (b - 1) (by omega))] at hj
          exact nam (b - 1) (by omega) j hj
theorem gsOf_part (s : Strc) (nm : Nat → List UInt8) : ∀ i, (gsOf s nm i).Part nm i
  | 0 => ⟨fun j hj => by omega, fun c c' y hy => by simp [gsOf] at hy, fun a ha => by simp [gsOf] at ha⟩
  | i + 1 => (gsOf_part s nm i).step (gsOf_ok s nm i)
theorem groups_part (s : Strc) : (∀ i : Nat, i < s.nodes.length → ∃ b, b < (groupsF s).length ∧ (i : Int) ∈ (groupsF s).getD b []) ∧
    (∀ b b' y, b < (groupsF s).length → b' < (groupsF s).length → y ∈ (groupsF s).getD b [] → y ∈ (groupsF s).getD b' [] → b = b') ∧
    (∀ b (i j : Nat), b < (groupsF s).length → (i : Int) ∈ (groupsF s).getD b [] → (j : Int) ∈ (groupsF s).getD b [] → nodeName s i = nodeName s j) := by
  unfold groupsF
  obtain ⟨cov, dis, nam⟩ := gsOf_part s (fun i => nodeName s i) s.nodes.length
  obtain ⟨lo, lc, nd, rg, li, ne, el⟩ := gsOf_ok s (fun i => nodeName s i) s.nodes.length
  generalize gsOf s (fun i => nodeName s i) s.nodes.length = q at *
  have hl : q.out.length = q.od.length := by simp [Gs.out]
  have hg : ∀ b, b < q.od.length → q.out.getD b [] = q.cr.getD (q.od.getD b 0) [] := fun b hb => by
    rw [List.getD_eq_getElem?_getD, List.getElem?_eq_getElem (by omega)]
    simp [Gs.out, List.getD_eq_getElem?_getD, hb]
  have hall : ∀ c, c < q.cr.length → c ∈ q.od := fun c hc => by
    refine Classical.byContradiction fun hn => ?_
    have h2 := nodup_sub_len (out := (c :: q.od).map fun (n : Nat) => (n : Int)) (S := idsL q.cr.length) (fun x hx => by
      obtain ⟨d, hd, rfl⟩ := List.mem_map.1 hx
      refine List.mem_map.2 ⟨d, ?_, rfl⟩
      rcases List.mem_cons.1 hd with rfl | hd
      · simpa using hc
      · simpa using rg d hd) (List.Pairwise.map _ (fun a b h e => h (by omega)) (List.nodup_cons.2 ⟨hn, nd⟩))
    rw [idsL_len] at h2
    simp at h2
    omega
  refine ⟨fun i hi => ?_, fun b b' y hb hb' hy hy' => ?_, fun b i j hb hi hj => ?_⟩
  · obtain ⟨c, hc, hm⟩ := cov i hi
    obtain ⟨b, hb, e⟩ := List.mem_iff_getElem.1 (hall c hc)
    refine ⟨b, by omega, ?_⟩
    rw [hg b hb, List.getD_eq_getElem?_getD (l := q.od), List.getElem?_eq_getElem hb]
    simp only [Option.getD_some]
    rw [e]; exact hm
  · rw [hg b (by omega)] at hy
    rw [hg b' (by omega)] at hy'
    have := dis _ _ _ hy hy'
    have h1 : b < q.od.length := by omega
    have h2 : b' < q.od.length := by omega
    simp only [List.getD_eq_getElem?_getD, List.getElem?_eq_getElem h1, List.getElem?_eq_getElem h2, Option.getD_some] at this
    exact (List.getElem_inj nd).1 this
  · rw [hg b (by omega)] at hi hj
    have h1 := nam b (by omega) i hi
    have h2 := nam b (by omega) j hj
    rw [h1] at h2
    exact Option.some.inj h2
theorem text_one {a : Int} (h : isTruth a = true) : (truthText a).length = 1 := by
  rw [isTruth_iff] at h
  unfold truthText
  split
  · rfl
  split
  · rfl
  split
  · rfl
  · omega
theorem text_inj {a b : Int} (ha : isTruth a = true) (hb : isTruth b = true) (h : truthText a = truthText b) : a = b := by
  rw [isTruth_iff] at ha hb
  have ha : a = 0 ∨ a = 1 ∨ a = 2 := by omega
  have hb : b = 0 ∨ b = 1 ∨ b = 2 := by omega
  rcases ha with rfl | rfl | rfl <;> rcases hb with rfl | rfl | rfl <;> first | rfl | (revert h; decide)
theorem nameTo_inj {s : Strc} {i j : Int} (hi : ∀ k : Nat, isTruth (predAt s k i) = true) (hj : ∀ k : Nat, isTruth (predAt s k j) = true) : ∀ {k : Nat}, nameTo s i k = nameTo s j k → ∀ m : Nat, m < k → predAt s m i = predAt s m j
  | 0, _, m, hm => by omega
  | k + 1, h, m, hm => by
    rw [nameTo_succ, nameTo_succ] at h
    obtain ⟨h1, h2⟩ := List.append_inj' h (by rw [text_one (hi k), text_one (hj k)])
    by_cases e : m = k
    · subst e; exact text_inj (hi m) (hj m) h2
    · exact nameTo_inj hi hj h1 m (by omega)
theorem at1_truth {l : List Int} (h : ∀ a ∈ l, isTruth a = true) (k : Int) : isTruth (at1 l k) = true := by
  unfold at1
  split
  · exact getD_truth h _
  · rfl
theorem nvars_of {v : Int} {s : Strc} (h : structB v s = true) (h0 : 0 < s.nodes.length) : (nvars s : Int) = v := by
  have := (structB_node h h0).1.1
  unfold nvars
  match hs : s.nodes, h0 with
  | n :: ns, _ =>
    simp only [hs, List.getElem_cons_zero] at this
    exact this
theorem name_node {v : Int} {s : Strc} (h : structB v s = true) {i j : Nat} (hi : i < s.nodes.length) (hj : j < s.nodes.length) (e : nodeName s i = nodeName s j) :
    s.nodes[i].vars = s.nodes[j].vars ∧ s.nodes[i].reach = s.nodes[j].reach ∧ s.nodes[i].shared = s.nodes[j].shared := by
  obtain ⟨⟨i1, i2⟩, ⟨i3, i4⟩, i5, -⟩ := structB_node h hi
  obtain ⟨⟨j1, j2⟩, ⟨j3, j4⟩, j5, -⟩ := structB_node h hj
  have hv := nvars_of h (by omega)
  have pe : ∀ (a : Nat) (ha : a < s.nodes.length) (k : Int), predAt s k a = if 0 ≤ k ∧ k ≤ (nvars s : Int) - 1 then at1 s.nodes[a].vars k else if (nvars s : Int) ≤ k ∧ k ≤ 2 * (nvars s : Int) - 1 then at1 s.nodes[a].reach (k - nvars s) else if k = 2 * (nvars s : Int) then s.nodes[a].shared else 1 := fun a ha k => by
    unfold predAt
    rw [if_pos ⟨by omega, by omega⟩, show ((a : Int)).toNat = a by omega, nodes_getD ha]
  have tr : ∀ (a : Nat) (ha : a < s.nodes.length) (k : Nat), isTruth (predAt s k a) = true := fun a ha k => by
    obtain ⟨-, ⟨a3, a4⟩, a5, -⟩ := structB_node h ha
    rw [pe a ha]
    split
    · exact at1_truth a3 _
    split
    · exact at1_truth a4 _
    split
    · exact a5
    · rfl
  unfold nodeName at e
  rw [if_pos ⟨by omega, by omega⟩, if_pos ⟨by omega, by omega⟩] at e
  have key := nameTo_inj (tr i hi) (tr j hj) e
  have ext : ∀ {l l' : List Int}, l.length = nvars s → l'.length = nvars s → (∀ k : Nat, k < nvars s → at1 l k = at1 l' k) → l = l' := fun {l l'} h1 h2 h3 => by
    apply List.ext_getElem (by omega)
    intro k k1 k2
    have := h3 k (by omega)
    unfold at1 at this
    rw [if_pos ⟨by omega, by omega⟩, if_pos ⟨by omega, by omega⟩] at this
    simpa [List.getD_eq_getElem?_getD, k1, k2] using this
  refine ⟨ext (by omega) (by omega) fun k hk => ?_, ext (by omega) (by omega) fun k hk => ?_, ?_⟩
  · have := key k (by omega)
    rw [pe i hi, pe j hj, if_pos ⟨by omega, by omega⟩, if_pos ⟨by omega, by omega⟩] at this
    exact this
  · have := key (nvars s + k) (by omega)
    have c1 : ¬ (0 ≤ ((nvars s + k : Nat) : Int) ∧ ((nvars s + k : Nat) : Int) ≤ (nvars s : Int) - 1) := by omega
    have c2 : (nvars s : Int) ≤ ((nvars s + k : Nat) : Int) ∧ ((nvars s + k : Nat) : Int) ≤ 2 * (nvars s : Int) - 1 := by omega
    rw [pe i hi, pe j hj] at this
    simp only [if_neg c1, if_pos c2] at this
    rw [show ((nvars s + k : Nat) : Int) - (nvars s : Int) = (k : Int) by omega] at this
    exact this
  · have := key (2 * nvars s) (by omega)
    have c1 : ¬ (0 ≤ ((2 * nvars s : Nat) : Int) ∧ ((2 * nvars s : Nat) : Int) ≤ (nvars s : Int) - 1) := by omega
    have c2 : ¬ ((nvars s : Int) ≤ ((2 * nvars s : Nat) : Int) ∧ ((2 * nvars s : Nat) : Int) ≤ 2 * (nvars s : Int) - 1) := by omega
    have c3 : ((2 * nvars s : Nat) : Int) = 2 * (nvars s : Int) := by omega
    rw [pe i hi, pe j hj] at this
    simp only [if_neg c1, if_neg c2, if_pos c3] at this
    exact this
theorem joinT_cases (a b : Int) : joinT a b = 1 ∨ (a = b ∧ joinT a b = a) := by
  unfold joinT
  split
  · rename_i h; exact .inr ⟨h.1, rfl⟩
  · exact .inl rfl
theorem joinT_one (b : Int) : joinT 1 b = 1 := by
  rcases joinT_cases 1 b with h | h
  · exact h
  · exact h.2
theorem joinN_one (s : Strc) (x : Int) : ∀ b : List Int, joinN s x 1 b = 1
  | [] => rfl
  | y :: ys => by
    show joinN s x (joinT 1 (nextOf s x y)) ys = 1
    rw [joinT_one]; exact joinN_one s x ys
theorem joinN_cases (s : Strc) (x : Int) : ∀ (b : List Int) (o : Int), joinN s x o b = 1 ∨ (joinN s x o b = o ∧ ∀ y ∈ b, nextOf s x y = o)
  | [], o => .inr ⟨rfl, by simp⟩
  | y :: ys, o => by
    have e : joinN s x o (y :: ys) = joinN s x (joinT o (nextOf s x y)) ys := rfl
    rw [e]
    rcases joinT_cases o (nextOf s x y) with h | ⟨h1, h2⟩
    · rw [h]; exact .inl (joinN_one s x ys)
    · rw [h2]
      rcases joinN_cases s x ys o with h | ⟨h3, h4⟩
      · exact .inl h
      · exact .inr ⟨h3, fun z hz => by
          rcases List.mem_cons.1 hz with rfl | hz
          · exact h1.symm
          · exact h4 z hz⟩
theorem foldN_one (s : Strc) (b : List Int) : ∀ a : List Int, a.foldl (fun o x => joinN s x o b) 1 = 1
  | [] => rfl
  | x :: xs => by rw [List.foldl_cons, joinN_one]; exact foldN_one s b xs
theorem foldN_cases (s : Strc) (b : List Int) : ∀ (a : List Int) (o : Int), a.foldl (fun o x => joinN s x o b) o = 1 ∨ (a.foldl (fun o x => joinN s x o b) o = o ∧ ∀ x ∈ a, ∀ y ∈ b, nextOf s x y = o)
  | [], o => .inr ⟨rfl, by simp⟩
  | x :: xs, o => by
    rw [List.foldl_cons]
    rcases joinN_cases s x b o with h | ⟨h1, h2⟩
    · rw [h]; exact .inl (foldN_one s b xs)
    · rw [h1]
      rcases foldN_cases s b xs o with h | ⟨h3, h4⟩
      · exact .inl h
      · exact .inr ⟨h3, fun z hz => by
          rcases List.mem_cons.1 hz with rfl | hz
          · exact h2
          · exact h4 z hz⟩
theorem nextG_within {s : Strc} (h : truthS s) {a b : List Int} {x y : Int} (hx : x ∈ a) (hy : y ∈ b) : withinB (nextOf s x y) (nextG s a b) = true := by
  have h1 := nextOf_truth h x y
  have h2 := nextG_truth h a b
  unfold withinB
  rw [h1, h2]
  unfold nextG
  rcases foldN_cases s b a (nextOf s (a.getD 0 0) (b.getD 0 0)) with e | ⟨e1, e2⟩
  · rw [e]; simp
  · rw [e1, e2 x hx y hy]; simp
theorem manyG_cases (s : Strc) (g : List Int) : ∀ k, manyG s g k = 1 ∨ (manyG s g k = (nodeD s (g.getD 0 0)).many ∧ ∀ j, j < k → g.length ≤ 1 ∧ (nodeD s (g.getD j 0)).many = 0)
  | 0 => .inr ⟨rfl, fun j hj => by omega⟩
  | k + 1 => by
    unfold manyG
    split
    · exact .inl rfl
    · rename_i h
      rcases manyG_cases s g k with e | ⟨e1, e2⟩
      · exact .inl e
      · refine .inr ⟨e1, fun j hj => ?_⟩
        by_cases q : j = k
        · subst q; exact ⟨by omega, Classical.byContradiction fun hn => h (.inr hn)⟩
        · exact e2 j (by omega)
theorem embB_blur {v : Int} {s : Strc} (h : structB v s = true) : ∃ to, embB s (blurS s) to = true := by
  have ht := structB_truth h
  obtain ⟨cov, dis, nam⟩ := groups_part s
  obtain ⟨gl, gk⟩ := groups_ok s
  have hf : ∃ f : Nat → Nat, ∀ i, i < s.nodes.length → f i < (groupsF s).length ∧ (i : Int) ∈ (groupsF s).getD (f i) [] := by
    refine ⟨fun i => if hi : i < s.nodes.length then Classical.choose (cov i hi) else 0, fun i hi => ?_⟩
    simp only [dif_pos hi]
    exact Classical.choose_spec (cov i hi)
  obtain ⟨f, hf⟩ := hf
  have hnl : (blurS s).nodes.length = (groupsF s).length := by simp [blurS]
  have hxl : (blurS s).next.length = (groupsF s).length * (groupsF s).length := by
    rw [show (blurS s).next = nxB s (groupsF s) (groupsF s).length from (nxB_all _ _).symm, nxB_len]
  have hnode : ∀ b, b < (groupsF s).length → (blurS s).nodes.getD b default = grpNode s ((groupsF s).getD b []) := fun b hb => by
    simp [blurS, List.getD_eq_getElem?_getD, hb]
  have hnext : ∀ a b, a < (groupsF s).length → b < (groupsF s).length → nextOf (blurS s) (a : Nat) (b : Nat) = nextG s ((groupsF s).getD a []) ((groupsF s).getD b []) := fun a b ha hb => by
    unfold nextOf
    rw [if_pos ⟨⟨by omega, by omega⟩, ⟨by omega, by omega⟩, by rw [hxl, hnl]; simp⟩, hnl]
    rw [show (((a : Int) * (groupsF s).length + (b : Int))).toNat = a * (groupsF s).length + b by
      rw [show (a : Int) * ((groupsF s).length : Int) + (b : Int) = ((a * (groupsF s).length + b : Nat) : Int) by simp]; exact Int.toNat_natCast _]
    have key : ∀ (l : List (List Int)) (a : Nat), a < l.length → (l.flatMap fun g => (groupsF s).map (nextG s g))[a * (groupsF s).length + b]? = some (nextG s (l.getD a []) ((groupsF s).getD b [])) := by
      intro l
      induction l with
      | nil => intro a ha; simp at ha
      | cons x xs ih =>
        intro a ha
        rw [List.flatMap_cons]
        cases a with
        | zero =>
          rw [List.getElem?_append_left (by simp; omega)]
          simp [List.getD_eq_getElem?_getD, hb]
        | succ a =>
          rw [List.getElem?_append_right (by simp [Nat.add_mul]; omega)]
          have e : (a + 1) * (groupsF s).length + b - ((groupsF s).map (nextG s x)).length = a * (groupsF s).length + b := by
            simp [Nat.add_mul]; omega
          rw [e, ih a (by simpa using ha)]
          simp [List.getD_eq_getElem?_getD]
    have := key (groupsF s) a ha
    show (blurS s).next.getD _ 0 = _
    rw [List.getD_eq_getElem?_getD]
    have e2 : (blurS s).next = (groupsF s).flatMap fun g => (groupsF s).map (nextG s g) := rfl
    rw [e2, this]; rfl
  have hg0 : ∀ b, b < (groupsF s).length → ∃ j : Nat, j < s.nodes.length ∧ (j : Int) ∈ (groupsF s).getD b [] ∧ ((groupsF s).getD b []).getD 0 0 = (j : Int) := fun b hb => by
    have e : (groupsF s).getD b [] = (groupsF s)[b] := by simp [List.getD_eq_getElem?_getD, hb]
    obtain ⟨⟨p1, p2⟩, p3⟩ := gk _ (List.getElem_mem hb)
    have p4 := p3 _ (List.getElem_mem p1)
    refine ⟨((groupsF s)[b][0]).toNat, by omega, ?_, ?_⟩
    · rw [e, Int.toNat_of_nonneg p4.1]; exact List.getElem_mem p1
    · rw [e, Int.toNat_of_nonneg p4.1]; simp [List.getD_eq_getElem?_getD, p1]
  refine ⟨(List.range s.nodes.length).map fun i => ((f i : Nat) : Int), ?_⟩
  have tl : ((List.range s.nodes.length).map fun i => ((f i : Nat) : Int)).length = s.nodes.length := by simp
  have tg : ∀ i, i < s.nodes.length → ((List.range s.nodes.length).map fun i => ((f i : Nat) : Int)).getD i 0 = ((f i : Nat) : Int) := fun i hi => by
    simp [List.getD_eq_getElem?_getD, hi]
  have tm : ∀ i, i < s.nodes.length → ((f i : Nat) : Int) ∈ (List.range s.nodes.length).map fun i => ((f i : Nat) : Int) := fun i hi => List.mem_map.2 ⟨i, by simpa using hi, rfl⟩
  generalize ((List.range s.nodes.length).map fun i => ((f i : Nat) : Int)) = to at *
  have fits : fitsTo s (blurS s) to to.length = true := by
    refine fitsTo_good fun i hi => ?_
    rw [tl] at hi
    obtain ⟨fi1, fi2⟩ := hf i hi
    rw [tg i hi, Bool.and_eq_true]
    refine ⟨decide_eq_true ⟨by omega, by omega⟩, fits_good ?_ fun k hk => ?_⟩
    · rw [tg i hi, show ((f i : Nat) : Int).toNat = f i by omega, hnode _ fi1, nodes_getD hi]
      obtain ⟨j, hj, hj1, hj2⟩ := hg0 _ fi1
      obtain ⟨q1, q2, q3⟩ := name_node h hi hj (nam _ i j fi1 fi2 hj1)
      obtain ⟨-, ⟨a1, a2⟩, a3, a4⟩ := structB_node h hi
      have hd : nodeD s (j : Int) = s.nodes[j] := by unfold nodeD; rw [show ((j : Int)).toNat = j by omega]; exact nodes_getD hj
      unfold nodeB grpNode
      simp only
      rw [hj2, hd, ← q1, ← q2, ← q3, lists_self a1, lists_self a2, within_self a3]
      simp only [Bool.true_and]
      unfold withinB
      rcases manyG_cases s ((groupsF s).getD (f i) []) ((groupsF s).getD (f i) []).length with e | ⟨e1, e2⟩
      · rw [e, many_truth a4]; rfl
      · obtain ⟨m, hm, hm2⟩ := List.mem_iff_getElem.1 fi2
        have z := (e2 m hm).2
        have z0 := (e2 0 (by omega)).2
        rw [List.getD_eq_getElem?_getD, List.getElem?_eq_getElem hm] at z
        simp only [Option.getD_some] at z
        rw [hm2] at z
        have hdi : nodeD s (i : Int) = s.nodes[i] := by unfold nodeD; rw [show ((i : Int)).toNat = i by omega]; exact nodes_getD hi
        rw [hdi] at z
        rw [e1, z0, z]; rfl
    · have hk : k < s.nodes.length := by omega
      obtain ⟨fk1, fk2⟩ := hf k hk
      unfold pairB
      rw [tg i hi, tg k hk, hnext _ _ fi1 fk1, hnext _ _ fk1 fi1, nextG_within ht fi2 fk2, nextG_within ht fk2 fi2]
      rw [show ((f i : Nat) : Int).toNat = f i by omega, hnode _ fi1]
      simp only [Bool.true_and, Bool.not_eq_true', Bool.and_eq_false_iff, decide_eq_false_iff_not, Bool.not_eq_false', decide_eq_true_eq]
      by_cases q : k < i
      · by_cases q2 : ((f k : Nat) : Int) = (f i : Nat)
        · right
          have q3 : f k = f i := by omega
          rw [q3] at fk2
          show manyG s _ _ = 1
          rcases manyG_cases s ((groupsF s).getD (f i) []) ((groupsF s).getD (f i) []).length with e | ⟨e1, e2⟩
          · exact e
          · exfalso
            obtain ⟨m, hm, hm2⟩ := List.mem_iff_getElem.1 fi2
            obtain ⟨m', hm', hm2'⟩ := List.mem_iff_getElem.1 fk2
            have l1 := (e2 m hm).1
            have : m = m' := by omega
            subst this
            rw [hm2] at hm2'
            omega
        · left; right; exact q2
      · left; left; exact q
  rw [embB_full tl fits]
  refine onto_good fun b hb => ?_
  rw [hnl] at hb
  obtain ⟨j, hj, hj1, -⟩ := hg0 b hb
  obtain ⟨fj1, fj2⟩ := hf j hj
  have := dis b (f j) _ hb fj1 hj1 fj2
  rw [this]
  exact tm j hj
end Go.Vm
namespace Go.Vm
open Go.Proofs
def code_slices_Clone_int_int : F := ⟨8,[.tmp 2],.seq (.reg [⟨some 2,.mov (.k (.sl .nil 0 [])),none⟩]) (.seq (.seq (.reg [⟨some 3,.mov (.t 0),none⟩,⟨some 4,.isnil false (.t 3),none⟩]) (.cond (.t 4) (.seq (.reg [⟨some 2,.mov (.k (.sl .nil 0 [])),none⟩]) (.ret)) (.skip))) (.seq (.reg [⟨some 5,.bsl 3 1 0 (.int .i64 0) [],none⟩,⟨some 6,.mov (.t 0),none⟩,⟨some 7,.append 3 1 8 (.t 5) (.t 6),none⟩,⟨some 2,.mov (.t 7),none⟩]) (.ret)))⟩
theorem fok_slices_Clone_int_int : FOk Try.prog 42 code_slices_Clone_int_int := fok Try.func42 (by kernel_rfl)
def code_impl_FindEmbedding_1 : F := ⟨46,[.tmp 5,.tmp 6],.seq (.reg [⟨some 5,.mov (.k (.sl .nil 0 [])),none⟩,⟨some 6,.mov (.k (.bool false)),none⟩]) (.seq (.seq (.reg [⟨some 11,.mov (.t 0),none⟩,⟨some 12,.len (.t 11),none⟩,⟨some 13,.faddr 0 (.t 1),none⟩,⟨some 14,.load 1 false (.t 13),none⟩,⟨some 15,.len (.t 14),none⟩,⟨some 16,.bin .eql (.t 12) (.t 15),none⟩]) (.cond (.t 16) (.seq (.reg [⟨some 17,.mov (.t 0),none⟩,⟨some 18,.load 2 true (.t 2),none⟩,⟨some 19,.mov (.t 0),none⟩,⟨some 20,.call 41 [.t 18,.t 19],none⟩,⟨some 5,.mov (.t 17),none⟩,⟨some 6,.mov (.t 20),none⟩]) (.ret)) (.skip))) (.seq (.seq (.reg [⟨some 21,.faddr 0 (.t 2),none⟩,⟨some 22,.load 1 false (.t 21),none⟩,⟨some 23,.len (.t 22),none⟩,⟨some 24,.mov (.k (.int .i64 0)),none⟩]) (.block 0 (.loop (.seq (.reg [⟨some 25,.bin .lss (.t 24) (.t 23),none⟩]) (.seq (.cond (.t 25) (.skip) (.exit 0)) (.seq (.block 1 (.seq (.reg [⟨some 26,.mov (.t 24),none⟩,⟨some 7,.mov (.t 26),none⟩]) (.seq (.reg [⟨some 27,.mov (.t 0),none⟩,⟨some 28,.call 42 [.t 27],none⟩,⟨some 29,.mov (.t 7),none⟩,⟨some 30,.bsl 3 1 1 (.int .i64 0) [(0,.t 29)],none⟩,⟨some 31,.append 3 1 8 (.t 28) (.t 30),none⟩,⟨some 8,.mov (.t 31),none⟩]) (.seq (.seq (.reg [⟨some 32,.load 2 true (.t 1),none⟩,⟨some 33,.load 2 true (.t 2),none⟩,⟨some 34,.mov (.t 8),none⟩,⟨some 35,.call 43 [.t 32,.t 33,.t 34],none⟩,⟨some 36,.not (.t 35),none⟩]) (.cond (.t 36) (.exit 1) (.skip))) (.seq (.reg [⟨some 38,.load 1 false (.t 3),none⟩,⟨some 39,.mov (.t 8),none⟩,⟨some 40,.callv (.t 38) [.t 39],none⟩,⟨some 37,.mov (.t 40),none⟩,⟨some 41,.extr (.t 37) 0,none⟩,⟨some 42,.extr (.t 37) 1,none⟩,⟨some 9,.mov (.t 41),none⟩,⟨some 10,.mov (.t 42),none⟩]) (.seq (.reg [⟨some 43,.mov (.t 10),none⟩]) (.cond (.t 43) (.seq (.reg [⟨some 44,.mov (.t 9),none⟩,⟨some 5,.mov (.t 44),none⟩,⟨some 6,.mov (.k (.bool true)),none⟩]) (.ret)) (.skip)))))))) (.reg [⟨some 45,.bin .add (.t 24) (.k (.int .i64 1)),none⟩,⟨some 24,.mov (.t 45),none⟩]))))))) (.seq (.reg [⟨some 5,.mov (.k (.sl .nil 0 [])),none⟩,⟨some 6,.mov (.k (.bool false)),none⟩]) (.ret))))⟩
theorem fok_impl_FindEmbedding_1 : FOk Try.prog 40 code_impl_FindEmbedding_1 := fok Try.func40 (by kernel_rfl)
def code_impl_FindEmbedding : F := ⟨18,[.tmp 4,.tmp 5],.seq (.reg [⟨some 2,.box (.t 0),none⟩,⟨some 3,.box (.t 1),none⟩,⟨some 4,.mov (.k (.sl .nil 0 [])),none⟩,⟨some 5,.mov (.k (.bool false)),none⟩]) (.seq (.reg [⟨some 6,.alloc [.hole],none⟩]) (.seq (.reg [⟨some 9,.mkfn 40 [.t 2,.t 3,.t 6],none⟩,⟨none,.store 1 (.t 6) (.t 9),none⟩]) (.seq (.reg [⟨some 11,.load 1 false (.t 6),none⟩,⟨some 12,.callv (.t 11) [(.k (.sl .nil 0 []))],none⟩,⟨some 10,.mov (.t 12),none⟩,⟨some 13,.extr (.t 10) 0,none⟩,⟨some 14,.extr (.t 10) 1,none⟩,⟨some 7,.mov (.t 13),none⟩,⟨some 8,.mov (.t 14),none⟩]) (.seq (.seq (.reg [⟨some 15,.mov (.t 8),none⟩,⟨some 16,.not (.t 15),none⟩]) (.cond (.t 16) (.seq (.reg [⟨some 4,.mov (.k (.sl .nil 0 [])),none⟩,⟨some 5,.mov (.k (.bool false)),none⟩]) (.ret)) (.skip))) (.seq (.reg [⟨some 17,.mov (.t 7),none⟩,⟨some 4,.mov (.t 17),none⟩,⟨some 5,.mov (.k (.bool true)),none⟩]) (.ret))))))⟩
theorem fok_impl_FindEmbedding : FOk Try.prog 9 code_impl_FindEmbedding := fok Try.func9 (by kernel_rfl)
def code_impl_IsEmbedded : F := ⟨14,[.tmp 4],.seq (.reg [⟨some 2,.box (.t 0),none⟩,⟨some 3,.box (.t 1),none⟩,⟨some 4,.mov (.k (.bool false)),none⟩]) (.seq (.reg [⟨some 8,.load 2 true (.t 2),none⟩,⟨some 9,.load 2 true (.t 3),none⟩,⟨some 10,.call 9 [.t 8,.t 9],none⟩,⟨some 7,.mov (.t 10),none⟩,⟨some 11,.extr (.t 7) 0,none⟩,⟨some 12,.extr (.t 7) 1,none⟩,⟨some 5,.mov (.t 11),none⟩,⟨some 6,.mov (.t 12),none⟩]) (.seq (.reg [⟨some 13,.mov (.t 6),none⟩,⟨some 4,.mov (.t 13),none⟩]) (.ret)))⟩
theorem fok_impl_IsEmbedded : FOk Try.prog 17 code_impl_IsEmbedded := fok Try.func17 (by kernel_rfl)
@[simp] def ct_CloneNil : CtH := ⟨42, Unit, fun _ _ => True, fun _ => [.sl .nil 0 []], fun _ _ => .sl .nil 0 [], fun _ H => H⟩
theorem ok_CloneNil : ct_CloneNil.Ok Try.prog := by
  rintro ⟨⟩ H -
  refine OkH.of_cw' fok_slices_Clone_int_int (go_ok tab_nil ?_)
  simp [code_slices_Clone_int_int, List.replicate, retH]
@[simp] def ct_CloneRow (E : Nat) : CtH := ⟨42, Nat × List Int, fun x H => 0 < x.2.length ∧ x.2.length ≤ 1048576 ∧ H[x.1]? = some (.row true E 1 (x.2.map encInt)), fun x => [.slref x.1 0 x.2.length x.2.length], fun x H => .slref H.length 0 x.2.length x.2.length, fun x H => H ++ [.row true 3 1 (x.2.map encInt)]⟩
theorem ok_CloneRow (E : Nat) : (ct_CloneRow E).Ok Try.prog := by
  rintro ⟨b, xs⟩ H ⟨h1, h2, h3⟩
  change 0 < xs.length at h1
  change xs.length ≤ 1048576 at h2
  change H[b]? = some (.row true E 1 (xs.map encInt)) at h3
  have hb : b < H.length := (List.getElem?_eq_some_iff.1 h3).1
  have h3' : ∀ L, (H ++ L)[b]? = some (.row true E 1 (xs.map encInt)) := fun L => by rw [List.getElem?_append_left hb, h3]
  have h4 : xs.length * 8 ≤ 140737488355328 := by omega
  have h5 : ¬ xs.length = 0 := by omega
  refine OkH.of_cw' fok_slices_Clone_int_int (go_ok tab_nil ?_)
  simp [code_slices_Clone_int_int, List.replicate, retH, h1, h3, h3', h4, h5, ite_nil, getHk, getH0, setHk, setH0]
def rowsE : Nat → Nat → List Int → List Blk
  | 0, _, _ => []
  | n + 1, l, out => .row true 3 1 ((out.take (l + 1)).map encInt) :: .row true 3 1 [encInt (out.getD l 0)] :: rowsE n (l + 1) out
def memE (s t : Strc) (bs bt bf : Nat) (H : List Blk) : Prop :=
  H[bs]? = some (.cells [encL 4 encNode s.nodes, encL 1 encInt s.next]) ∧ H[bt]? = some (.cells [encL 4 encNode t.nodes, encL 1 encInt t.next]) ∧ H[bf]? = some (.cells [.fn 40 [.pbox bs 0, .pbox bt 0, .pbox bf 0]])
theorem memE_app {s t : Strc} {bs bt bf : Nat} {H : List Blk} (h : memE s t bs bt bf H) (L : List Blk) : memE s t bs bt bf (H ++ L) := by
  obtain ⟨h1, h2, h3⟩ := h
  refine ⟨?_, ?_, ?_⟩
  · rw [List.getElem?_append_left (List.getElem?_eq_some_iff.1 h1).1, h1]
  · rw [List.getElem?_append_left (List.getElem?_eq_some_iff.1 h2).1, h2]
  · rw [List.getElem?_append_left (List.getElem?_eq_some_iff.1 h3).1, h3]
def favE (s t : Strc) (to : List Int) (b h : Nat) : Nat → AV
  | 0 => .slref b 0 to.length to.length
  | n + 1 => match findE s t (n + 1) to with
    | some out => .slref (h + 2 * n) 0 out.length out.length
    | none => .sl .nil 0 []
def fheapE (s t : Strc) (n : Nat) (to : List Int) : List Blk := match n with
  | 0 => []
  | n + 1 => match findE s t (n + 1) to with
    | some out => rowsE (n + 1) to.length out
    | none => []
@[simp] def ct_find1 (s t : Strc) (bs bt bf : Nat) (n : Nat) : CtH := ⟨40, List Int × Nat,
  fun x H => (szStrc s ≤ 1048576 ∧ szStrc t ≤ 1048576) ∧ (x.1.length + n = s.nodes.length ∧ 0 < x.1.length) ∧ allN t x.1 x.1.length ∧ memE s t bs bt bf H ∧ H[x.2]? = some (.row true 3 1 (x.1.map encInt)),
  fun x => [.slref x.2 0 x.1.length x.1.length, .pbox bs 0, .pbox bt 0, .pbox bf 0],
  fun x H => .tup [favE s t x.1 x.2 H.length n, .bool (fresE s t n x.1).2],
  fun x H => H ++ fheapE s t n x.1⟩
set_option maxHeartbeats 4000000 in
set_option maxRecDepth 100000 in
theorem find1_step (s t : Strc) (bs bt bf n : Nat) (ih : ∀ m, m < n → (ct_find1 s t bs bt bf m).Ok Try.prog) : (ct_find1 s t bs bt bf n).Ok Try.prog := by
  rintro ⟨to, b⟩ H hx
  change (szStrc s ≤ 1048576 ∧ szStrc t ≤ 1048576) ∧ (to.length + n = s.nodes.length ∧ 0 < to.length) ∧ allN t to to.length ∧ memE s t bs bt bf H ∧ H[b]? = some (.row true 3 1 (to.map encInt)) at hx
  obtain ⟨⟨hs, ht⟩, ⟨hlen, hpos⟩, hall, hm, hb⟩ := hx
  have hsl := strc_le s
  have htl := strc_le t
  have hc : callable Try.prog 40 = true := by kernel_rfl
  obtain ⟨m1, m2, m3⟩ := hm
  have m1' : ∀ L, (H ++ L)[bs]? = _ := fun L => (memE_app ⟨m1, m2, m3⟩ L).1
  have m2' : ∀ L, (H ++ L)[bt]? = _ := fun L => (memE_app ⟨m1, m2, m3⟩ L).2.1
  have m3' : ∀ L, (H ++ L)[bf]? = _ := fun L => (memE_app ⟨m1, m2, m3⟩ L).2.2
  have b0 : b < H.length := (List.getElem?_eq_some_iff.1 hb).1
  have b1 : bs < H.length := (List.getElem?_eq_some_iff.1 m1).1
  have b2 : bt < H.length := (List.getElem?_eq_some_iff.1 m2).1
  have b3 : bf < H.length := (List.getElem?_eq_some_iff.1 m3).1
  refine OkH.of_self fun hB => ?_
  cases n with
  | zero =>
    have h0 : to.length = s.nodes.length := by omega
    refine OkH.of_cw' fok_impl_FindEmbedding_1 (go_ok (tab_cons ok_isOnto tab_nil) ?_)
    have h0i : (to.length : Int) = (s.nodes.length : Int) := by omega
    simp [code_impl_FindEmbedding_1, List.replicate, retH, h0i, hs, ht, m1, m2, m3, hb, fresE, favE, fheapE]
  | succ n =>
    have h0 : ¬ to.length = s.nodes.length := by omega
    have h0' : ¬ (to.length : Int) = s.nodes.length := by omega
    refine OkH.of_cw' fok_impl_FindEmbedding_1 (go_ok tab_nil ?_)
    simp [code_impl_FindEmbedding_1, List.replicate, h0, h0', m1, m2, m3, hb]
    refine cw_round (fun (k : Nat) => ⟨slots 46 [(0, .slref b 0 to.length to.length), (1, .pbox bs 0), (2, .pbox bt 0), (3, .pbox bf 0), (23, .int .i64 t.nodes.length), (24, .int .i64 k)], H⟩)
      (fun k => k ≤ t.nodes.length ∧ findE s t (n + 1) to = firstS (stepE s t n to) (t.nodes.length - k) k) (fun k => t.nodes.length - k) 0 ⟨by omega, findE_succ s t n to⟩ ?_ ?_
    · exact weak_slots (by simp [List.replicate, less_undef, less_refl])
    · rintro N hN k ⟨hk, hn⟩
      have hw : IntKind.i64.wrap ((k : Int) + 1) = ((k + 1 : Nat) : Int) := by rw [wrap_i64] <;> omega
      have hb0 : to.length ≤ 1048576 := by omega
      have hb1 : to.length * 8 ≤ 140737488355328 := by omega
      have hb2 : (to.length + 1) * 8 ≤ 140737488355328 := by omega
      by_cases g : k < t.nodes.length
      · have g2 : ¬ t.nodes.length ≤ k := by omega
        obtain ⟨d, hd⟩ : ∃ d, t.nodes.length - k = d + 1 := ⟨t.nodes.length - k - 1, by omega⟩
        rw [hd] at hn
        have hsn : to.length < s.nodes.length := by omega
        have hal := allN_pre (j := k) hall
        have hal2 := allN_snoc hall g
        have hgl : (to ++ [(k : Int)]).getD to.length 0 = k := getD_last
        have hin : inN t (k : Int) := ⟨by omega, by omega⟩
        refine go_ok (tab_h (ok_CloneRow 3) (tab_h (ih n (by omega)) (tab_cons ok_fitsSoFar tab_nil))) ?_
        simp (config := {maxSteps := 2000000}) [List.replicate, hw, g, g2, hpos, hb, m1, m2, m3, m1', m2', m3']
        refine ⟨to, rfl, hpos, hb0, rfl, ?_⟩
        have hlen2 : to.length + 1 + n = s.nodes.length := by omega
        have hmem : ∀ L, memE s t bs bt bf (H ++ L) := fun L => memE_app ⟨m1, m2, m3⟩ L
        cases e : okB s t to k
        · rw [firstS_miss (stepE_bad e)] at hn
          have e' : fitsB s t (to ++ [(k : Int)]) to.length = false := e
          simp (config := {maxSteps := 2000000}) [List.replicate, hw, g, g2, hpos, hb0, hb1, hb2, app1, ite_nil, lend_snoc, mksl_snoc, hs, ht, hsn, hal, hc, m1, m2, m3, m1', m2', m3', hb, getHk, getH0, setHk, setH0, hin, e']
          refine hN _ (k + 1) _ ⟨by omega, ?_⟩ (by omega) ?_
          · rw [hn]; congr 1; omega
          · exact weak_back hB (Nat.le_refl _) (by simp [List.replicate, b0, b1, b2, b3])
        · have e' : fitsB s t (to ++ [(k : Int)]) to.length = true := e
          simp (config := {maxSteps := 2000000}) [List.replicate, hw, g, g2, hpos, hb0, hb1, hb2, app1, ite_nil, lend_snoc, mksl_snoc, hs, ht, hsn, hal, hc, m1, m2, m3, m1', m2', m3', hb, getHk, getH0, setHk, setH0, hin, e', hlen2, hmem, hal2]
          refine ⟨to ++ [(k : Int)], by simp, by simp; omega, by simp, by simpa using hal2, by simp, ?_⟩
          cases r : findE s t n (to ++ [(k : Int)]) with
          | some out =>
            rw [firstS_hit ((stepE_ok e).trans r)] at hn
            have hr := fresE_some r
            have hr2 := fresE_some hn
            obtain ⟨o1, o2⟩ := findE_pre r
            simp only [List.length_append, List.length_cons, List.length_nil] at o1 o2
            have hfav : favE s t (to ++ [(k : Int)]) H.length (H.length + 2) n = .slref (H.length + 2 * n) 0 out.length out.length := by
              cases n with
              | zero =>
                have : out = to ++ [(k : Int)] := by rw [List.take_of_length_le (by omega)] at o2; exact o2
                subst this
                simp [favE]
              | succ n => simp [favE, r]; omega
            have hq : Blk.row true 3 1 (List.map encInt to ++ [AV.int .i64 (k : Int)]) :: Blk.row true 3 1 [AV.int .i64 (k : Int)] :: fheapE s t n (to ++ [(k : Int)]) = rowsE (n + 1) to.length out := by
              have e1 : out.getD to.length 0 = (k : Int) := by
                have := congrArg (fun l : List Int => l.getD to.length 0) o2
                simp only [getD_last] at this
                rw [getD_take (by omega)] at this
                exact this
              unfold rowsE
              rw [o2, e1]
              cases n with
              | zero => simp [fheapE, rowsE]
              | succ n => simp [fheapE, r]
            rw [hq, hfav]
            simp [hr, hr2, retH, favE, fheapE, hn]
          | none =>
            rw [firstS_miss ((stepE_ok e).trans r)] at hn
            have hr := fresE_none r
            have hq : fheapE s t n (to ++ [(k : Int)]) = [] := by cases n <;> simp [fheapE, r]
            have hfav : favE s t (to ++ [(k : Int)]) H.length (H.length + 2) n = if n = 0 then .slref H.length 0 (to.length + 1) (to.length + 1) else .sl .nil 0 [] := by
              cases n <;> simp [favE, r]
            rw [hfav, hq]
            simp [hr, List.replicate, hw]
            refine hN _ (k + 1) _ ⟨by omega, ?_⟩ (by omega) ?_
            · rw [hn]; congr 1; omega
            · split <;> exact weak_back hB (Nat.le_refl _) (by simp [List.replicate, b0, b1, b2, b3])
      · have hz : t.nodes.length - k = 0 := by omega
        rw [hz] at hn
        change findE s t (n + 1) to = none at hn
        have g2 : t.nodes.length ≤ k := by omega
        refine go_ok tab_nil ?_
        simp [List.replicate, g, g2, retH, favE, fheapE, fresE, hn]
theorem ok_find1 (s t : Strc) (bs bt bf n : Nat) : (ct_find1 s t bs bt bf n).Ok Try.prog := by
  induction n using Nat.strongRecOn with
  | ind n ih => exact find1_step s t bs bt bf n ih
theorem rowsE_len : ∀ (n l : Nat) (out : List Int), (rowsE n l out).length = 2 * n
  | 0, _, _ => rfl
  | n + 1, l, out => by simp [rowsE, rowsE_len n]; omega
theorem rowsE_get : ∀ (n l : Nat) (out : List Int), (rowsE (n + 1) l out)[2 * n]? = some (.row true 3 1 ((out.take (l + n + 1)).map encInt))
  | 0, l, out => by simp [rowsE]
  | n + 1, l, out => by
    rw [rowsE, show 2 * (n + 1) = 2 * n + 1 + 1 by omega, List.getElem?_cons_succ, List.getElem?_cons_succ, rowsE_get n (l + 1) out]
    congr 5; omega
theorem rowsE_sl {m : Nat} {H2 : List Blk} : ∀ (n l : Nat) (out : List Int), All2 (SlB m H2) (rowsE n l out) (rowsE n l out)
  | 0, _, _ => .nil
  | n + 1, l, out => .cons slB_ints (.cons (slB_ints (xs := [out.getD l 0])) (rowsE_sl n (l + 1) out))
theorem rowsE_own : ∀ (n l : Nat) (out : List Int), ∀ k ∈ rowsE n l out, ownB k = true
  | 0, _, _, k, h => by simp [rowsE] at h
  | n + 1, l, out, k, h => by
    simp only [rowsE, List.mem_cons] at h
    rcases h with rfl | rfl | h
    · simp [ownB, -List.map_take]
    · simp [ownB, ownV, ownVL]
    · exact rowsE_own n (l + 1) out k h
def fav0 (s t : Strc) (h : Nat) : Nat → AV
  | 0 => .sl .nil 0 []
  | n + 1 => match findE s t (n + 1) [] with
    | some out => .slref (if n = 0 then h + 1 else h + 2 * n) 0 out.length out.length
    | none => .sl .nil 0 []
@[simp] def ct_find0 (s t : Strc) (bs bt bf : Nat) (n : Nat) : CtH := ⟨40, Unit,
  fun _ H => (szStrc s ≤ 1048576 ∧ szStrc t ≤ 1048576) ∧ n = s.nodes.length ∧ memE s t bs bt bf H,
  fun _ => [.sl .nil 0 [], .pbox bs 0, .pbox bt 0, .pbox bf 0],
  fun _ H => .tup [fav0 s t H.length n, .bool (fresE s t n []).2],
  fun _ H => H ++ fheapE s t n []⟩
set_option maxHeartbeats 4000000 in
set_option maxRecDepth 100000 in
theorem ok_find0 (s t : Strc) (bs bt bf n : Nat) : (ct_find0 s t bs bt bf n).Ok Try.prog := by
  rintro ⟨⟩ H ⟨⟨hs, ht⟩, hlen, hm⟩
  have hsl := strc_le s
  have htl := strc_le t
  have hc : callable Try.prog 40 = true := by kernel_rfl
  obtain ⟨m1, m2, m3⟩ := hm
  have m1' : ∀ L, (H ++ L)[bs]? = _ := fun L => (memE_app ⟨m1, m2, m3⟩ L).1
  have m2' : ∀ L, (H ++ L)[bt]? = _ := fun L => (memE_app ⟨m1, m2, m3⟩ L).2.1
  have m3' : ∀ L, (H ++ L)[bf]? = _ := fun L => (memE_app ⟨m1, m2, m3⟩ L).2.2
  have b1 : bs < H.length := (List.getElem?_eq_some_iff.1 m1).1
  have b2 : bt < H.length := (List.getElem?_eq_some_iff.1 m2).1
  have b3 : bf < H.length := (List.getElem?_eq_some_iff.1 m3).1
  refine OkH.of_self fun hB => ?_
  cases n with
  | zero =>
    refine OkH.of_cw' fok_impl_FindEmbedding_1 (go_ok (tab_cons ok_isOnto tab_nil) ?_)
    have h0 : (s.nodes.length : Int) = 0 := by omega
    have h0' : s.nodes.length = 0 := by omega
    simp [code_impl_FindEmbedding_1, List.replicate, retH, h0, h0', hs, ht, m1, m2, m3, fresE, fav0, fheapE]
  | succ n =>
    have h0 : ¬ (0 : Int) = s.nodes.length := by omega
    have h0' : ¬ s.nodes.length = 0 := by omega
    have h0'' : ¬ (s.nodes.length : Int) = 0 := by omega
    refine OkH.of_cw' fok_impl_FindEmbedding_1 (go_ok tab_nil ?_)
    simp [code_impl_FindEmbedding_1, List.replicate, h0, h0', h0'', m1, m2, m3]
    refine cw_round (fun (k : Nat) => ⟨slots 46 [(0, .sl .nil 0 []), (1, .pbox bs 0), (2, .pbox bt 0), (3, .pbox bf 0), (23, .int .i64 t.nodes.length), (24, .int .i64 k)], H⟩)
      (fun k => k ≤ t.nodes.length ∧ findE s t (n + 1) [] = firstS (stepE s t n []) (t.nodes.length - k) k) (fun k => t.nodes.length - k) 0 ⟨by omega, findE_succ s t n []⟩ ?_ ?_
    · exact weak_slots (by simp [List.replicate, less_undef, less_refl])
    · rintro N hN k ⟨hk, hn⟩
      have hw : IntKind.i64.wrap ((k : Int) + 1) = ((k + 1 : Nat) : Int) := by rw [wrap_i64] <;> omega
      by_cases g : k < t.nodes.length
      · have g2 : ¬ t.nodes.length ≤ k := by omega
        obtain ⟨d, hd⟩ : ∃ d, t.nodes.length - k = d + 1 := ⟨t.nodes.length - k - 1, by omega⟩
        rw [hd] at hn
        have hsn : 0 < s.nodes.length := by omega
        have hal2 := allN_snoc (t := t) (to := []) allN_nil g
        have hal0 : allN t [(k : Int)] 0 := fun j hj => absurd hj (by omega)
        have hin : inN t (k : Int) := ⟨by omega, by omega⟩
        have hlen2 : 1 + n = s.nodes.length := by omega
        have hmem : ∀ L, memE s t bs bt bf (H ++ L) := fun L => memE_app ⟨m1, m2, m3⟩ L
        refine go_ok (tab_h ok_CloneNil (tab_h (ok_find1 s t bs bt bf n) (tab_cons ok_fitsSoFar tab_nil))) ?_
        have lend1 : ∀ m H, lendEls m H 19 [AV.int .i64 (k : Int)] = some [AV.int .i64 (k : Int)] := fun m H => by simp [lendEls]
        have mk1 : mksl 1 [AV.int .i64 (k : Int)] = encL 1 encInt [(k : Int)] := rfl
        cases e : okB s t [] k
        · rw [firstS_miss (stepE_bad e)] at hn
          have e' : fitsB s t [(k : Int)] 0 = false := e
          simp (config := {maxSteps := 2000000}) [List.replicate, hw, g, g2, hs, ht, hsn, hal0, hc, m1, m2, m3, m1', m2', m3', getHk, getH0, setHk, setH0, hin, e', lend1, mk1]
          refine hN _ (k + 1) _ ⟨by omega, ?_⟩ (by omega) ?_
          · rw [hn]; congr 1; omega
          · exact weak_back hB (Nat.le_refl _) (by simp [List.replicate, b1, b2, b3])
        · have e' : fitsB s t [(k : Int)] 0 = true := e
          simp (config := {maxSteps := 2000000}) [List.replicate, hw, g, g2, hs, ht, hsn, hal0, hc, m1, m2, m3, m1', m2', m3', getHk, getH0, setHk, setH0, hin, e', lend1, mk1, hlen2, hmem]
          refine ⟨[(k : Int)], by simp, by simpa using hlen2, by simp, by simpa using hal2, by simp, ?_⟩
          cases r : findE s t n [(k : Int)] with
          | some out =>
            have r' : stepE s t n [] k = some out := (stepE_ok e).trans r
            rw [firstS_hit r'] at hn
            have hr := fresE_some r
            have hr2 := fresE_some hn
            obtain ⟨o1, o2⟩ := findE_pre r
            simp only [List.length_cons, List.length_nil] at o1 o2
            have hfav : favE s t [(k : Int)] (H.length + 1) (H.length + 2) n = .slref (if n = 0 then H.length + 1 else H.length + 2 * n) 0 out.length out.length := by
              cases n with
              | zero =>
                have : out = [(k : Int)] := by rw [List.take_of_length_le (by omega)] at o2; exact o2
                subst this
                simp [favE]
              | succ n => simp [favE, r]; omega
            have hq : Blk.row true 3 1 [AV.int .i64 (k : Int)] :: Blk.row true 3 1 [AV.int .i64 (k : Int)] :: fheapE s t n [(k : Int)] = rowsE (n + 1) 0 out := by
              have e1 : out.getD 0 0 = (k : Int) := by
                have := congrArg (fun l : List Int => l.getD 0 0) o2
                rw [getD_take (by omega)] at this
                exact this
              unfold rowsE
              rw [o2, e1]
              cases n with
              | zero => simp [fheapE, rowsE]
              | succ n => simp [fheapE, r]
            rw [hq, hfav]
            simp [hr, hr2, retH, fav0, fheapE, hn]
          | none =>
            have r' : stepE s t n [] k = none := (stepE_ok e).trans r
            rw [firstS_miss r'] at hn
            have hr := fresE_none r
            have hq : fheapE s t n [(k : Int)] = [] := by cases n <;> simp [fheapE, r]
            have hfav : favE s t [(k : Int)] (H.length + 1) (H.length + 2) n = if n = 0 then .slref (H.length + 1) 0 1 1 else .sl .nil 0 [] := by
              cases n <;> simp [favE, r]
            rw [hfav, hq]
            simp [hr, List.replicate, hw]
            refine hN _ (k + 1) _ ⟨by omega, ?_⟩ (by omega) ?_
            · rw [hn]; congr 1; omega
            · split <;> exact weak_back hB (Nat.le_refl _) (by simp [List.replicate, b1, b2, b3])
      · have hz : t.nodes.length - k = 0 := by omega
        rw [hz] at hn
        change findE s t (n + 1) [] = none at hn
        have g2 : t.nodes.length ≤ k := by omega
        refine go_ok tab_nil ?_
        simp [List.replicate, g, g2, retH, fav0, fheapE, fresE, hn]
end Go.Vm
