/- A canonical heap is its own canonical form and has no leak. Plain; no condition. -/
import Derived.Test.YtfelkhckpfjgjaaTCS
import Derived.Test.YtfelkhckpfjgjaaTIH
import Derived.Test.YtfelkhckpfjgjaaTGE
set_option linter.unusedSimpArgs false
set_option linter.unusedVariables false
namespace Go.Vm
open Go.Proofs
theorem follow_sub {nx : List Int} : ∀ {n : Nat} {out : List Int} {c : Int} {x : Int}, closedC nx → (c = -1 ∨ inC nx.length c) → x ∈ out → x ∈ follow nx n out c
  | 0, out, c, x, _, _, h => h
  | n + 1, out, c, x, hcl, hc, h => by
    by_cases h1 : c = -1 ∨ c ∈ out
    · rw [follow_stop h1]; exact h
    · have h2 : 0 ≤ c ∧ c < nx.length := by rcases hc with h | h; exact absurd (.inl h) h1; exact h
      rw [follow_step h1 h2]
      exact follow_sub hcl (closed_get hcl h2) (by simp [h])
theorem follow_closed {nx : List Int} (hcl : closedC nx) : ∀ {n : Nat} {out : List Int} {c : Int}, goodC nx.length out → nx.length + 1 ≤ n + out.length → (c = -1 ∨ inC nx.length c) →
    (∀ x ∈ out, nx.getD x.toNat 0 = -1 ∨ nx.getD x.toNat 0 ∈ out ∨ nx.getD x.toNat 0 = c) → ∀ x ∈ follow nx n out c, nx.getD x.toNat 0 = -1 ∨ nx.getD x.toNat 0 ∈ follow nx n out c
  | 0, out, c, hg, hf, _, _ => by have := goodC_len hg; omega
  | n + 1, out, c, hg, hf, hc, hi => by
    by_cases h1 : c = -1 ∨ c ∈ out
    · rw [follow_stop h1]
      intro x hx
      rcases hi x hx with h | h | h
      · exact .inl h
      · exact .inr h
      · rw [h]; exact h1
    · have h2 : 0 ≤ c ∧ c < nx.length := by rcases hc with h | h; exact absurd (.inl h) h1; exact h
      rw [follow_step h1 h2]
      refine follow_closed hcl (goodC_add hg (fun e => h1 (.inr e)) h2.1 h2.2) (by simp; omega) (closed_get hcl h2) fun x hx => ?_
      rcases List.mem_append.1 hx with hx | hx
      · rcases hi x hx with h | h | h
        · exact .inl h
        · exact .inr (.inl (List.mem_append_left _ h))
        · exact .inr (.inl (by rw [h]; exact List.mem_append_right _ (List.mem_singleton.2 rfl)))
      · rw [List.mem_singleton.1 hx]; exact .inr (.inr rfl)
theorem mem_addNew {xs out : List Int} {x : Int} : x ∈ addNew out xs ↔ x ∈ out ∨ x ∈ xs := by
  induction xs generalizing out with
  | nil => simp [addNew]
  | cons y ys ih =>
    unfold addNew
    rw [List.foldl_cons]
    have ih := ih (out := if y ∈ out then out else out ++ [y])
    unfold addNew at ih
    rw [ih]
    split
    · rename_i h
      simp only [List.mem_cons]
      constructor
      · rintro (h' | h'); exact .inl h'; exact .inr (.inr h')
      · rintro (h' | rfl | h'); exact .inl h'; exact .inl h; exact .inr h'
    · simp only [List.mem_append, List.mem_cons, List.not_mem_nil, or_false]; constructor
      · rintro ((h' | h') | h'); exact .inl h'; exact .inr (.inl h'); exact .inr (.inr h')
      · rintro (h' | h' | h'); exact .inl (.inl h'); exact .inl (.inr h'); exact .inr h'
theorem mem_metTo {nx vs : List Int} {x : Int} : x ∈ metTo nx vs ↔ ∃ v ∈ vs, x ∈ followed nx v := by
  have key : ∀ (vs out : List Int), x ∈ vs.foldl (fun o c => addNew o (followed nx c)) out ↔ x ∈ out ∨ ∃ v ∈ vs, x ∈ followed nx v := by
    intro vs
    induction vs with
    | nil => simp
    | cons v vs ih =>
      intro out
      rw [List.foldl_cons, ih, mem_addNew]
      simp only [List.mem_cons, exists_eq_or_imp]
      constructor
      · rintro ((h | h) | h); exact .inl h; exact .inr (.inl h); exact .inr (.inr h)
      · rintro (h | h | h); exact .inl (.inl h); exact .inl (.inr h); exact .inr h
  unfold metTo
  rw [key]; simp
theorem followed_closed {nx : List Int} (hcl : closedC nx) {c : Int} (hc : c = -1 ∨ inC nx.length c) : ∀ x ∈ followed nx c, nx.getD x.toNat 0 = -1 ∨ nx.getD x.toNat 0 ∈ followed nx c :=
  follow_closed hcl (goodC_nil _) (by simp) hc (by simp)
theorem followed_self {nx : List Int} (hcl : closedC nx) {c : Int} (hc : inC nx.length c) : c ∈ followed nx c := by
  unfold followed
  rw [follow_step (by unfold inC at hc; simp; omega) hc]
  exact follow_sub hcl (closed_get hcl hc) (by simp)
structure Ren (nx nx' S : List Int) (f : Int → Int) : Prop where
  cl : closedC nx
  good : goodC nx.length S
  len : nx'.length = S.length
  neg : f (-1) = -1
  inj : ∀ x ∈ S, ∀ y ∈ S, f x = f y → x = y
  rng : ∀ x ∈ S, 0 ≤ f x ∧ f x < nx'.length
  next : ∀ x ∈ S, nx'.getD (f x).toNat 0 = f (nx.getD x.toNat 0)
  close : ∀ x ∈ S, nx.getD x.toNat 0 = -1 ∨ nx.getD x.toNat 0 ∈ S
theorem Ren.mem {nx nx' S : List Int} {f : Int → Int} (R : Ren nx nx' S f) {out : List Int} (ho : ∀ x ∈ out, x ∈ S) {x : Int} (hx : x ∈ S) : f x ∈ out.map f ↔ x ∈ out := by
  constructor
  · intro h
    obtain ⟨y, hy, e⟩ := List.mem_map.1 h
    have := R.inj y (ho y hy) x hx e
    rwa [← this]
  · intro h; exact List.mem_map_of_mem h
theorem nodup_sub_len : ∀ {out S : List Int}, (∀ x ∈ out, x ∈ S) → out.Nodup → out.length ≤ S.length
  | [], S, _, _ => Nat.zero_le _
  | x :: xs, S, hs, hn => by
    have hx := hs x (by simp)
    have hn' := List.nodup_cons.1 hn
    have := nodup_sub_len (out := xs) (S := S.erase x) (fun y hy => (List.mem_erase_of_ne (fun e : y = x => hn'.1 (e ▸ hy))).2 (hs y (by simp [hy]))) hn'.2
    rw [List.length_erase_of_mem hx] at this
    have := List.length_pos_of_mem hx
    simp; omega
theorem Ren.follow {nx nx' S : List Int} {f : Int → Int} (R : Ren nx nx' S f) : ∀ {k k' : Nat} {out : List Int} {c : Int}, goodC nx.length out → (∀ x ∈ out, x ∈ S) → (c = -1 ∨ c ∈ S) → nx.length + 1 ≤ k + out.length → nx'.length + 1 ≤ k' + out.length →
    Vm.follow nx' k' (out.map f) (f c) = (Vm.follow nx k out c).map f
  | 0, _, out, c, hg, _, _, hk, _ => by have := goodC_len hg; omega
  | k + 1, 0, out, c, hg, ho, _, _, hk' => by
    have := nodup_sub_len ho hg.1
    have := R.len
    omega
  | k + 1, k' + 1, out, c, hg, ho, hc, hk, hk' => by
    by_cases h1 : c = -1 ∨ c ∈ out
    · rw [follow_stop h1]
      refine follow_stop ?_
      rcases h1 with h | h
      · left; rw [h]; exact R.neg
      · right; exact List.mem_map_of_mem h
    · have hcS : c ∈ S := hc.resolve_left fun e => h1 (.inl e)
      have h2 := R.good.2 c hcS
      have hr := R.rng c hcS
      rw [follow_step h1 h2, follow_step (out := out.map f) (c := f c) (by
        rintro (h | h)
        · omega
        · exact h1 (.inr ((R.mem ho hcS).1 h))) hr]
      have ih := R.follow (k := k) (k' := k') (out := out ++ [c]) (c := nx.getD c.toNat 0) (goodC_add hg (fun e => h1 (.inr e)) h2.1 h2.2)
        (fun x hx => by
          rcases List.mem_append.1 hx with h | h
          · exact ho x h
          · rw [List.mem_singleton.1 h]; exact hcS) (R.close c hcS) (by simp; omega) (by simp; omega)
      rw [List.map_append, List.map_cons, List.map_nil] at ih
      rw [R.next c hcS]
      exact ih
theorem Ren.followed {nx nx' S : List Int} {f : Int → Int} (R : Ren nx nx' S f) {c : Int} (hc : c = -1 ∨ c ∈ S) : Vm.followed nx' (f c) = (Vm.followed nx c).map f :=
  R.follow (k := nx.length + 1) (k' := nx'.length + 1) (out := []) (goodC_nil _) (by simp) hc (by simp) (by simp)
theorem Ren.addNew {nx nx' S : List Int} {f : Int → Int} (R : Ren nx nx' S f) : ∀ {xs out : List Int}, (∀ x ∈ out, x ∈ S) → (∀ x ∈ xs, x ∈ S) → Vm.addNew (out.map f) (xs.map f) = (Vm.addNew out xs).map f
  | [], out, _, _ => rfl
  | x :: xs, out, ho, hx => by
    have hxS := hx x (by simp)
    unfold Vm.addNew
    rw [List.map_cons, List.foldl_cons, List.foldl_cons]
    have e : (if f x ∈ out.map f then out.map f else out.map f ++ [f x]) = (if x ∈ out then out else out ++ [x]).map f := by
      by_cases h : x ∈ out
      · rw [if_pos h, if_pos ((R.mem ho hxS).2 h)]
      · rw [if_neg h, if_neg (fun e => h ((R.mem ho hxS).1 e))]; simp
    rw [e]
    refine R.addNew (xs := xs) (fun y hy => ?_) fun y hy => hx y (by simp [hy])
    split at hy
    · exact ho y hy
    · rcases List.mem_append.1 hy with h | h
      · exact ho y h
      · rw [List.mem_singleton.1 h]; exact hxS
theorem Ren.metTo {nx nx' S : List Int} {f : Int → Int} (R : Ren nx nx' S f) {vs : List Int} (hv : ∀ v ∈ vs, v = -1 ∨ v ∈ S) (hS : ∀ v ∈ vs, ∀ x ∈ Vm.followed nx v, x ∈ S) : Vm.metTo nx' (vs.map f) = (Vm.metTo nx vs).map f := by
  have key : ∀ (vs out : List Int), (∀ v ∈ vs, v = -1 ∨ v ∈ S) → (∀ v ∈ vs, ∀ x ∈ Vm.followed nx v, x ∈ S) → (∀ x ∈ out, x ∈ S) →
      (vs.map f).foldl (fun o c => Vm.addNew o (Vm.followed nx' c)) (out.map f) = (vs.foldl (fun o c => Vm.addNew o (Vm.followed nx c)) out).map f := by
    intro vs
    induction vs with
    | nil => intro out _ _ _; rfl
    | cons v vs ih =>
      intro out hv hS ho
      rw [List.map_cons, List.foldl_cons, List.foldl_cons, R.followed (hv v (by simp)), R.addNew ho (hS v (by simp))]
      refine ih _ (fun u hu => hv u (by simp [hu])) (fun u hu => hS u (by simp [hu])) fun x hx => ?_
      rcases mem_addNew.1 hx with h | h
      · exact ho x h
      · exact hS v (by simp) x h
  exact key vs [] hv hS (by simp)
theorem name_neg {l : List Int} {n : Nat} (h : goodC n l) : nameT l (-1) = -1 := by
  unfold nameT
  refine findI_none (i := l.length) ?_ (Nat.le_refl _)
  intro a ha
  have := h.2 a (List.mem_of_mem_take ha)
  simp; omega
theorem name_get {l : List Int} (h : l.Nodup) {i : Nat} (hi : i < l.length) : nameT l l[i] = i := by
  unfold nameT
  refine findI_hit (i := i) ?_ hi (by simp)
  intro a ha
  rw [List.mem_take_iff_getElem] at ha
  obtain ⟨k, hk, e⟩ := ha
  simp only [beq_eq_false_iff_ne, ne_eq]
  intro e2
  rw [← e] at e2
  have := (List.getElem_inj h).1 e2
  omega
def idsL (m : Nat) : List Int := (List.range m).map fun (i : Nat) => (i : Int)
theorem canon_cells {h : Heap} (hc : cellsB h = true) : closedC h.next ∧ ∀ v ∈ h.vars, v = -1 ∨ inC h.next.length v := by
  refine ⟨cells_closed hc, fun v hv => ?_⟩
  unfold cellsB at hc
  have := List.all_eq_true.1 hc v (by simp [hv])
  simp at this
  unfold inC
  omega
theorem met_canon {h : Heap} (hc : cellsB h = true) : cellsB (canonH h) = true ∧ met (canonH h) = idsL (canonH h).next.length := by
  obtain ⟨hcl, hv⟩ := canon_cells hc
  obtain ⟨vs, nx⟩ := h
  have hg := met_good ⟨vs, nx⟩
  have hcan : canonH ⟨vs, nx⟩ = ⟨vs.map (nameT (met ⟨vs, nx⟩)), (met ⟨vs, nx⟩).map (nextN (met ⟨vs, nx⟩) nx)⟩ := by unfold canonH; rw [if_pos hc]; rfl
  rw [hcan]
  have hmem : ∀ x, x ∈ met ⟨vs, nx⟩ ↔ ∃ v ∈ vs, x ∈ followed nx v := fun x => mem_metTo
  have hmt : met ⟨vs, nx⟩ = metTo nx vs := rfl
  change goodC nx.length _ at hg
  simp only at hcl hv
  generalize hS : met ⟨vs, nx⟩ = S at *
  have hin : ∀ x ∈ S, nameT S x = ((S.idxOf x : Nat) : Int) ∧ S.idxOf x < S.length := by
    intro x hx
    have hl := List.idxOf_lt_length_of_mem hx
    refine ⟨?_, hl⟩
    have := name_get hg.1 hl
    rwa [List.getElem_idxOf] at this
  have hR : Ren nx (S.map (nextN S nx)) S (nameT S) := by
    refine ⟨hcl, hg, by simp, name_neg hg, fun x hx y hy e => ?_, fun x hx => ?_, fun x hx => ?_, fun x hx => ?_⟩
    · rw [(hin x hx).1, (hin y hy).1] at e
      have e2 : S.idxOf x = S.idxOf y := by omega
      have h1 := List.getElem_idxOf (hin x hx).2
      have h2 := List.getElem_idxOf (hin y hy).2
      rw [← h1, ← h2]
      simp [e2]
    · obtain ⟨h1, h2⟩ := hin x hx
      rw [h1, List.length_map]; omega
    · obtain ⟨h1, h2⟩ := hin x hx
      rw [h1]
      have : ((S.idxOf x : Nat) : Int).toNat = S.idxOf x := by omega
      rw [this]
      have h3 := List.getElem_idxOf h2
      simp [List.getD_eq_getElem?_getD, h2, h3, nextN]
    · obtain ⟨v, hv2, hx2⟩ := (hmem x).1 hx
      rcases followed_closed hcl (hv v hv2) x hx2 with h | h
      · exact .inl h
      · exact .inr ((hmem _).2 ⟨v, hv2, h⟩)
  have hvS : ∀ v ∈ vs, v = -1 ∨ v ∈ S := fun v hv2 => by
    rcases hv v hv2 with h | h
    · exact .inl h
    · exact .inr ((hmem v).2 ⟨v, hv2, followed_self hcl h⟩)
  have hmet : met ⟨vs.map (nameT S), S.map (nextN S nx)⟩ = S.map (nameT S) := by
    have := hR.metTo hvS fun v hv2 x hx => (hmem x).2 ⟨v, hv2, hx⟩
    rw [← hmt] at this
    exact this
  refine ⟨?_, ?_⟩
  · unfold cellsB
    rw [List.all_eq_true]
    intro c hc'
    have key : ∀ x, (x = -1 ∨ x ∈ S) → (nameT S x = -1 ∨ (0 ≤ nameT S x ∧ nameT S x < S.length)) := by
      rintro x (rfl | h)
      · exact .inl (name_neg hg)
      · have := hR.rng x h; simp at this; exact .inr this
    have : c = -1 ∨ (0 ≤ c ∧ c < S.length) := by
      simp only [List.mem_append, List.mem_map] at hc'
      rcases hc' with ⟨v, hv2, rfl⟩ | ⟨x, hx, rfl⟩
      · exact key v (hvS v hv2)
      · exact key _ (hR.close x hx)
    simp
    omega
  · rw [hmet]
    simp only [List.length_map]
    apply List.ext_getElem
    · simp [idsL]
    · intro i hi hi2
      rw [List.getElem_map, name_get hg.1 (by simpa using hi)]
      simp [idsL]
end Go.Vm
namespace Go.Vm
open Go.Proofs
theorem isTruth_trI (b : Bool) : isTruth (trI b) = true := by cases b <;> rfl
theorem drawH_fit (c : Cur) : fitS (drawH c 3) = true := by
  obtain ⟨h1, h2⟩ := drawH_len c 3
  have hc : cellsB (drawH c 3) = true := by
    have := drawR_cells c 3
    exact (met_canon this).1
  unfold fitS
  rw [hc]
  simp
  omega
theorem strcOf_fit {h : Heap} (hf : fitS h = true) : strcOf h = ⟨nodesT h.vars h.next h.next.length, nextsT h.next h.next.length⟩ := by unfold strcOf; rw [if_pos hf]
theorem strcOf_sh {h : Heap} (hf : fitS h = true) (hv : h.vars.length = 3) (hn : h.next.length ≤ 5) : Sh12 (strcOf h) := by
  rw [strcOf_fit hf]
  refine ⟨by rw [nodesT_len]; exact hn, by rw [nextsT_len, nodesT_len], fun x hx => ?_⟩
  obtain ⟨i, _, rfl⟩ := List.mem_map.1 hx
  simp [nodeT, hv]
theorem truths_map {α : Type} (f : α → Bool) (l : List α) : truthsB (l.map fun x => trI (f x)) = true := by
  unfold truthsB notT
  simp [isTruth_trI]
theorem strcOf_structB {h : Heap} (hf : fitS h = true) : structB h.vars.length (strcOf h) = true := by
  rw [strcOf_fit hf]
  unfold fitS at hf
  simp only [Bool.and_eq_true, decide_eq_true_eq] at hf
  obtain ⟨⟨hc, h1⟩, h2, h3⟩ := hf
  unfold structB
  have e1 : truthsB (nextsT h.next h.next.length) = true := by
    unfold truthsB notT
    simp only [Bool.not_eq_true', List.any_eq_false]
    intro x hx
    obtain ⟨c, _, hx⟩ := List.mem_flatMap.1 hx
    obtain ⟨d, _, rfl⟩ := List.mem_map.1 hx
    simp [nextT, isTruth_trI]
  have e2 : (nodesT h.vars h.next h.next.length).any (badN h.vars.length) = false := by
    rw [List.any_eq_false]
    intro x hx
    obtain ⟨i, _, rfl⟩ := List.mem_map.1 hx
    have t1 : truthsB (h.vars.map (varT i)) = true := truths_map (fun v => decide (v = (i : Int))) _
    have t2 : truthsB (h.vars.map (reachT h.next i)) = true := truths_map (fun v => decide ((i : Int) ∈ followed h.next v)) _
    simp [badN, nodeT, t1, t2, sharT, isTruth_trI]
  rw [e1, e2]
  simp [nodesT_len, nextsT_len]
  omega
theorem sh12_sz {s : Strc} (h : Sh12 s) : szStrc s ≤ 1048576 ∧ s.next.length ≤ 25 := by
  have h1 : (s.nodes.map szNode).sum ≤ s.nodes.length * 6 := by
    have : ∀ l : List Node, (∀ x ∈ l, x.vars.length = 3 ∧ x.reach.length = 3) → (l.map szNode).sum ≤ l.length * 6 := by
      intro l
      induction l with
      | nil => intro _; simp
      | cons x xs ih =>
        intro hl
        have := ih fun y hy => hl y (by simp [hy])
        obtain ⟨a, b⟩ := hl x (by simp)
        simp only [List.map_cons, List.sum_cons, List.length_cons]
        have : szNode x = x.vars.length + x.reach.length := rfl
        omega
    exact this _ h.r
  have h2 : s.next.length ≤ 5 * 5 := by rw [h.m]; exact Nat.mul_le_mul h.n h.n
  have h3 : szStrc s = szNodes s.nodes + s.next.length := rfl
  have h4 : szNodes s.nodes = s.nodes.length + (s.nodes.map szNode).sum := rfl
  have := h.n
  omega
theorem blurS_sh {s : Strc} (h : Sh12 s) : Sh12 (blurS s) := by
  obtain ⟨g1, g2⟩ := groups_ok s
  have := h.n
  refine ⟨by simp [blurS]; omega, ?_, fun x hx => ?_⟩
  · rw [show (blurS s).next = nxB s (groupsF s) (groupsF s).length from (nxB_all _ _).symm, nxB_len]
    simp [blurS]
  · obtain ⟨g, hg, rfl⟩ := List.mem_map.1 hx
    obtain ⟨⟨a1, a2⟩, a3⟩ := g2 g hg
    have e : g.getD 0 0 = g[0] := by simp [List.getD_eq_getElem?_getD, a1]
    have hi := a3 g[0] (List.getElem_mem a1)
    have hl : (g[0]).toNat < s.nodes.length := by omega
    have hm : nodeD s (g.getD 0 0) ∈ s.nodes := by
      rw [e]; unfold nodeD
      rw [List.getD_eq_getElem?_getD, List.getElem?_eq_getElem hl]
      exact List.getElem_mem hl
    have := h.r _ hm
    exact this
theorem d12S0_sh (c : Cur) : Sh12 (d12S0 c) := by
  obtain ⟨h1, h2⟩ := drawH_len c 3
  have h := strcOf_sh (drawH_fit c) h1 h2
  unfold d12S0
  split
  · exact h
  · exact blurS_sh h
theorem d12_sh (c : Cur) : Sh12 (d12 c).2 ∧ (d12 c).1.buf = c.buf := by
  have hb : (drawY c 3).1.buf = c.buf := by
    obtain ⟨-, a2, -⟩ := drawA_ok c.step (drawN c)
    obtain ⟨-, b2, -⟩ := drawB_ok (drawN c) (drawX c).1 3
    exact b2.trans a2
  unfold d12
  split
  · exact ⟨d12S0_sh c, hb⟩
  · obtain ⟨a1, -, -, a4⟩ := d12It_sh (x := ((drawY c 3).1.step.step, d12S0 c)) (d12S0_sh c) ((drawY c 3).1.step.below 3).toNat
    exact ⟨a1, a4.trans hb⟩
theorem strcOf_blur {h : Heap} (hf : fitS h = true) : (strcOf h).nodes = [] ∨ structB (nvars (strcOf h)) (strcOf h) = true := by
  by_cases h0 : (strcOf h).nodes = []
  · exact .inl h0
  · right
    have e : nvars (strcOf h) = h.vars.length := by
      have hl : (strcOf h).nodes = nodesT h.vars h.next h.next.length := by rw [strcOf_fit hf]
      unfold nvars
      have : ∀ x ∈ (strcOf h).nodes, x.vars.length = h.vars.length := fun x hx => by
        rw [hl] at hx
        obtain ⟨i, _, rfl⟩ := List.mem_map.1 hx
        simp [nodeT]
      split
      · rename_i e; exact absurd e h0
      · rename_i y ys e; exact this y (by rw [e]; simp)
    rw [e]; exact strcOf_structB hf
end Go.Vm
