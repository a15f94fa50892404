/- The structures that are drawn have truth values; draws for consistency. No condition. -/
import Derived.Test.YtfelkhckpfjgjaaTGM
import Derived.Test.YtfelkhckpfjgjaaTPT
import Derived.Test.YtfelkhckpfjgjaaTFE
import Derived.Test.YtfelkhckpfjgjaaTGF
set_option linter.unusedSimpArgs false
set_option linter.unusedVariables false
namespace Go.Vm
open Go.Proofs
theorem truthsB_iff {l : List Int} : truthsB l = true ↔ ∀ a ∈ l, isTruth a = true := by
  unfold truthsB notT
  simp
theorem structB_truth {v : Int} {s : Strc} (h : structB v s = true) : truthS s := by
  unfold structB at h
  simp only [Bool.and_eq_true] at h
  exact truthsB_iff.1 h.1.2
end Go.Vm
namespace Go.Vm
open Go.Proofs
theorem findE_good {s t : Strc} : ∀ {n : Nat} {to out : List Int}, to.length + n = s.nodes.length → fitsTo s t to to.length = true → findE s t n to = some out → embB s t out = true
  | 0, to, out, hl, hf, h => by
    unfold findE at h
    split at h
    · rename_i ho
      simp only [Option.some.injEq] at h; subst h
      rw [embB_full (by omega) hf]; exact ho
    · cases h
  | n + 1, to, out, hl, hf, h => by
    rw [findE_succ] at h
    obtain ⟨j, -, h2, h3⟩ := firstS_some h
    unfold stepE at h3
    split at h3
    · rename_i ho
      refine findE_good (to := to ++ [(j : Int)]) (by simp; omega) ?_ h3
      have := fitsTo_snoc hf (by omega) ho
      simpa using this
    · cases h3
theorem embed_good {s t : Strc} {out : List Int} (h : embed s t = some out) : embB s t out = true :=
  findE_good (to := []) (by simp) (by simp [fitsTo]) h
theorem embB_parts {s t : Strc} {to : List Int} (h : embB s t to = true) : to.length = s.nodes.length ∧ (∀ i, i < to.length → inN t (to.getD i 0) ∧ fitsB s t to i = true) ∧ ontoB t to = true := by
  rw [embB_eq] at h
  simp only [Bool.and_eq_true, decide_eq_true_eq] at h
  refine ⟨h.1.1, fun i hi => ?_, h.2⟩
  have := List.all_eq_true.1 h.1.2 i (by simpa using hi)
  simpa using this
theorem structB_node {v : Int} {s : Strc} (h : structB v s = true) {i : Nat} (hi : i < s.nodes.length) : ((s.nodes[i].vars.length : Int) = v ∧ (s.nodes[i].reach.length : Int) = v) ∧ ((∀ a ∈ s.nodes[i].vars, isTruth a = true) ∧ (∀ a ∈ s.nodes[i].reach, isTruth a = true)) ∧ isTruth s.nodes[i].shared = true ∧ (0 ≤ s.nodes[i].many ∧ s.nodes[i].many ≤ 1) := by
  unfold structB at h
  simp only [Bool.and_eq_true, decide_eq_true_eq, Bool.not_eq_true', List.any_eq_false] at h
  have := h.2 _ (List.getElem_mem hi)
  simp only [badN, Bool.not_eq_true', Bool.not_eq_false', Bool.not_not, Bool.and_eq_true, decide_eq_true_eq, Bool.not_eq_true] at this
  simp at this
  obtain ⟨a1, a2, a3, a4, a5, a6, a7⟩ := this
  exact ⟨⟨a1, a2⟩, ⟨truthsB_iff.1 a3, truthsB_iff.1 a4⟩, a5, a6, a7⟩
theorem nodes_getD {s : Strc} {i : Nat} (hi : i < s.nodes.length) : s.nodes.getD i default = s.nodes[i] := by simp [List.getD_eq_getElem?_getD, hi]
structure Gs.Part (nm : Nat → List UInt8) (g : Gs) (i : Nat) : Prop where
  cov : ∀ j : Nat, j < i → ∃ c, c < g.cr.length ∧ (j : Int) ∈ g.cr.getD c []
  dis : ∀ c c' y, y ∈ g.cr.getD c [] → y ∈ g.cr.getD c' [] → c = c'
  nam : ∀ a, a < g.od.length → ∀ j : Nat, (j : Int) ∈ g.cr.getD (g.od.getD a 0) [] → g.nm[a]? = some (nm j)
theorem ins_get {α : Type} {l : List α} {x : α} {a b : Nat} (ha : a ≤ l.length) : (l.take a ++ x :: l.drop a)[b]? = if b < a then l[b]? else if b = a then some x else l[b - 1]? := by
  by_cases h1 : b < a
  · rw [if_pos h1, List.getElem?_append_left (by simp; omega), List.getElem?_take, if_pos h1]
  · rw [if_neg h1, List.getElem?_append_right (by simp; omega)]
    have e : b - (l.take a).length = b - a := by simp; omega
    rw [e]
    by_cases h2 : b = a
    · rw [if_pos h2, h2, Nat.sub_self]; rfl
    · rw [if_neg h2]
      obtain ⟨m, hm⟩ : ∃ m, b - a = m + 1 := ⟨b - a - 1, by omega⟩
      rw [hm, List.getElem?_cons_succ, List.getElem?_drop]
      congr 1; omega
theorem Gs.Part.step {nm : Nat → List UInt8} {g : Gs} {i : Nat} (h : g.Part nm i) (ok : g.Ok i) : (g.step (nm i) i).Part nm (i + 1) := by
  obtain ⟨cov, dis, nam⟩ := h
  obtain ⟨lo, lc, nd, rg, li, ne, el⟩ := ok
  have hle := lowP_le g.nm (nm i)
  have new : ∀ c (y : Int), y ∈ g.cr.getD c [] → y < i := fun c y hy => by
    by_cases hc : c < g.cr.length
    · rw [List.getD_eq_getElem?_getD, List.getElem?_eq_getElem hc] at hy
      exact ((el _ (List.getElem_mem hc)).2 y hy).2
    · rw [List.getD_eq_getElem?_getD, List.getElem?_eq_none (by omega)] at hy; cases hy
  unfold Gs.step
  generalize lowP g.nm (nm i) = a at *
  split
  · rename_i e
    have ha : a < g.nm.length := (List.getElem?_eq_some_iff.1 e).1
    have hao : a < g.od.length := by omega
    have e1 : g.od.getD a 0 = g.od[a] := by simp [List.getD_eq_getElem?_getD, hao]
    have hc : g.od[a] < g.cr.length := rg _ (List.getElem_mem hao)
    rw [e1]
    generalize hc0 : g.od[a] = c0 at *
    have gset : ∀ c, (g.cr.set c0 (g.cr.getD c0 [] ++ [(i : Int)])).getD c [] = if c = c0 then g.cr.getD c0 [] ++ [(i : Int)] else g.cr.getD c [] := fun c => by
      rw [List.getD_eq_getElem?_getD]
      by_cases q : c = c0
      · subst q; rw [List.getElem?_set_self hc, if_pos rfl]; rfl
      · rw [List.getElem?_set_ne (fun e => q e.symm), if_neg q, ← List.getD_eq_getElem?_getD]
    refine ⟨fun j hj => ?_, fun c c' y hy hy' => ?_, fun b hb j hj => ?_⟩
    · by_cases q : j = i
      · subst q; exact ⟨c0, by simpa using hc, by rw [gset, if_pos rfl]; simp⟩
      · obtain ⟨c, h1, h2⟩ := cov j (by omega)
        refine ⟨c, by simpa using h1, ?_⟩
        rw [gset]
        split
        · rename_i q; subst q; exact List.mem_append_left _ h2
        · exact h2
    · simp only [gset] at hy hy'
      split at hy <;> split at hy'
      · omega
      · rename_i q1 q2
        rcases List.mem_append.1 hy with hy | hy
        · rw [q1]; exact dis _ _ _ hy hy'
        · rw [List.mem_singleton.1 hy] at hy'
          have := new _ _ hy'; omega
      · rename_i q1 q2
        rcases List.mem_append.1 hy' with hy' | hy'
        · rw [q2]; exact dis _ _ _ hy hy'
        · rw [List.mem_singleton.1 hy'] at hy
          have := new _ _ hy; omega
      · exact dis _ _ _ hy hy'
    · simp only [gset] at hj
      have hb' : b < g.od.length := hb
      split at hj
      · rename_i q
        have eb : g.od.getD b 0 = g.od[b] := by simp [List.getD_eq_getElem?_getD, hb']
        have hab : b = a := by
          have : g.od[b] = g.od[a] := by rw [← eb, q, hc0]
          exact (List.getElem_inj nd).1 this
        subst hab
        rcases List.mem_append.1 hj with hj | hj
        · exact nam b hb' j (by rw [q]; exact hj)
        · have : j = i := by have := List.mem_singleton.1 hj; omega
          subst this; exact e
      · exact nam b hb' j hj
  · rename_i e
    have gapp : ∀ c, (g.cr ++ [[(i : Int)]]).getD c [] = if c = g.cr.length then [(i : Int)] else g.cr.getD c [] := fun c => by
      rw [List.getD_eq_getElem?_getD]
      by_cases q : c < g.cr.length
      · rw [List.getElem?_append_left q, if_neg (by omega), ← List.getD_eq_getElem?_getD]
      · rw [List.getElem?_append_right (by omega)]
        by_cases q2 : c = g.cr.length
        · rw [if_pos q2, q2]; simp
        · rw [if_neg q2, List.getElem?_eq_none (by simp; omega), List.getD_eq_getElem?_getD, List.getElem?_eq_none (by omega)]
    refine ⟨fun j hj => ?_, fun c c' y hy hy' => ?_, fun b hb j hj => ?_⟩
    · by_cases q : j = i
      · subst q; exact ⟨g.cr.length, by simp, by rw [gapp, if_pos rfl]; simp⟩
      · obtain ⟨c, h1, h2⟩ := cov j (by omega)
        exact ⟨c, by simp; omega, by rw [gapp, if_neg (by omega)]; exact h2⟩
    · simp only [gapp] at hy hy'
      split at hy <;> split at hy'
      · omega
      · rw [List.mem_singleton.1 hy] at hy'
        have := new _ _ hy'; omega
      · rw [List.mem_singleton.1 hy'] at hy
        have := new _ _ hy; omega
      · exact dis _ _ _ hy hy'
    · have hbl : b < g.od.length + 1 := by simp at hb; omega
      have eo : (g.od.take a ++ g.cr.length :: g.od.drop a).getD b 0 = if b < a then g.od.getD b 0 else if b = a then g.cr.length else g.od.getD (b - 1) 0 := by
        rw [List.getD_eq_getElem?_getD, ins_get (by omega)]
        split
        · rw [← List.getD_eq_getElem?_getD]
        · split
          · rfl
          · rw [← List.getD_eq_getElem?_getD]
      have en : (g.nm.take a ++ nm i :: g.nm.drop a)[b]? = if b < a then g.nm[b]? else if b = a then some (nm i) else g.nm[b - 1]? := ins_get hle
      show (g.nm.take a ++ nm i :: g.nm.drop a)[b]? = some (nm j)
      have hj : (j : Int) ∈ (g.cr ++ [[(i : Int)]]).getD ((g.od.take a ++ g.cr.length :: g.od.drop a).getD b 0) [] := hj
      rw [eo, gapp] at hj
      rw [en]
      have odl : ∀ d, d < g.od.length → g.od.getD d 0 ≠ g.cr.length := fun d hd => by
        rw [List.getD_eq_getElem?_getD, List.getElem?_eq_getElem hd]
        have := rg _ (List.getElem_mem hd)
        simp only [Option.getD_some]; omega
      by_cases q1 : b < a
      · rw [if_pos q1] at hj ⊢
        rw [if_neg (odl b (by omega))] at hj
        exact nam b (by omega) j hj
      · rw [if_neg q1] at hj ⊢
        by_cases q2 : b = a
        · rw [if_pos q2] at hj ⊢
          rw [if_pos rfl] at hj
          have : j = i := by have := List.mem_singleton.1 hj; omega
          rw [this]
        · rw [if_neg q2] at hj ⊢
          rw [if_neg (odl (b - 1) (by omega))] at hj
          exact nam (b - 1) (by omega) j hj
end Go.Vm
