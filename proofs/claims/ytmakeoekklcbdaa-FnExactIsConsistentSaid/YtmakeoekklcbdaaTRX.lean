/- Reaching in a structure, plain: what a search with a queue keeps. No condition. -/
import Derived.Test.YtmakeoekklcbdaaTPT
set_option linter.unusedSimpArgs false
set_option linter.unusedVariables false
namespace Go.Vm
open Go.Proofs
/-- Which nodes are known to be reached, and which of them still wait. -/
structure BInv (s : Strc) (v : Int) (i j : Nat) (seen : List Bool) (q : List Int) : Prop where
  len : seen.length = s.nodes.length
  snd : ∀ y, seen[y]? = some true → Rch (edgeG s v) i y
  qs : ∀ x ∈ q, ∃ a : Nat, x = a ∧ a < s.nodes.length ∧ (a = i ∨ seen[a]? = some true)
  nj : seen[j]? ≠ some true
  cl : ∀ a : Nat, a < s.nodes.length → (a = i ∨ seen[a]? = some true) → (a : Int) ∈ q ∨ ∀ y, edgeG s v a y → seen[y]? = some true
/-- The same while the next nodes of x are looked at. -/
structure IInv (s : Strc) (v : Int) (i j x k : Nat) (seen : List Bool) (q : List Int) : Prop where
  len : seen.length = s.nodes.length
  snd : ∀ y, seen[y]? = some true → Rch (edgeG s v) i y
  qs : ∀ x ∈ q, ∃ a : Nat, x = a ∧ a < s.nodes.length ∧ (a = i ∨ seen[a]? = some true)
  nj : seen[j]? ≠ some true
  cl : ∀ a : Nat, a < s.nodes.length → (a = i ∨ seen[a]? = some true) → (a : Int) ∈ q ∨ a = x ∨ ∀ y, edgeG s v a y → seen[y]? = some true
  hx : x < s.nodes.length ∧ (x = i ∨ seen[x]? = some true)
  part : ∀ y, y < k → edgeG s v x y → seen[y]? = some true
section
variable {s : Strc} {v : Int} {i j x k : Nat} {seen : List Bool} {q : List Int}
theorem BInv.start (hi : i < s.nodes.length) : BInv s v i j (List.replicate s.nodes.length false) [(i : Int)] := by
  have hn : ∀ y : Nat, (List.replicate s.nodes.length false)[y]? ≠ some true := by
    intro y
    rw [List.getElem?_replicate]
    split <;> simp
  refine ⟨by simp, fun y h => absurd h (hn y), fun x hx => ?_, hn j, fun a ha h => ?_⟩
  · rw [List.mem_singleton.1 hx]; exact ⟨i, rfl, hi, .inl rfl⟩
  · rcases h with rfl | h
    · exact .inl (by simp)
    · exact absurd h (hn a)
theorem BInv.pop (h : BInv s v i j seen ((x : Int) :: q)) : IInv s v i j x 0 seen q := by
  refine ⟨h.len, h.snd, fun y hy => h.qs y (by simp [hy]), h.nj, fun a ha hs => ?_, ?_, fun y hy => by omega⟩
  · rcases h.cl a ha hs with hm | hm
    · rcases List.mem_cons.1 hm with e | hm
      · exact .inr (.inl (by omega))
      · exact .inl hm
    · exact .inr (.inr hm)
  · obtain ⟨a, e, ha, hs⟩ := h.qs x (by simp)
    have : x = a := by omega
    subst this
    exact ⟨ha, hs⟩
theorem IInv.skip (h : IInv s v i j x k seen q) (hk : seen[k]? = some true ∨ ¬ edgeG s v x k) : IInv s v i j x (k + 1) seen q := by
  refine ⟨h.len, h.snd, h.qs, h.nj, h.cl, h.hx, fun y hy he => ?_⟩
  by_cases e : y = k
  · subst e
    rcases hk with hk | hk
    · exact hk
    · exact absurd he hk
  · exact h.part y (by omega) he
theorem IInv.reach (h : IInv s v i j x k seen q) {y : Nat} (he : edgeG s v x y) : Rch (edgeG s v) i y := by
  rcases h.hx.2 with rfl | hs
  · exact .one he
  · exact .more (h.snd x hs) he
theorem set_true {seen : List Bool} {k a : Nat} (hk : k < seen.length) : (seen.set k true)[a]? = some true ↔ a = k ∨ seen[a]? = some true := by
  by_cases e : k = a
  · subst e; simp [hk]
  · rw [List.getElem?_set_ne e]
    constructor
    · exact .inr
    · rintro (h | h)
      · exact absurd h.symm e
      · exact h
theorem IInv.push (h : IInv s v i j x k seen q) (he : edgeG s v x k) (hj : k ≠ j) : IInv s v i j x (k + 1) (seen.set k true) (q ++ [(k : Int)]) := by
  have hk : k < seen.length := by rw [h.len]; exact he.2.1
  refine ⟨by simp [h.len], fun y hy => ?_, fun z hz => ?_, fun hs => ?_, fun a ha hs => ?_, ⟨h.hx.1, h.hx.2.imp id fun g => (set_true hk).2 (.inr g)⟩, fun y hy hey => ?_⟩
  · rcases (set_true hk).1 hy with rfl | hy
    · exact h.reach he
    · exact h.snd y hy
  · rcases List.mem_append.1 hz with hz | hz
    · obtain ⟨a, e, ha, hs⟩ := h.qs z hz
      exact ⟨a, e, ha, hs.imp id fun g => (set_true hk).2 (.inr g)⟩
    · rw [List.mem_singleton.1 hz]
      exact ⟨k, rfl, he.2.1, .inr ((set_true hk).2 (.inl rfl))⟩
  · rcases (set_true hk).1 hs with e | hs
    · exact hj e.symm
    · exact h.nj hs
  · by_cases e : a = k
    · subst e; exact .inl (by simp)
    · have hs' : a = i ∨ seen[a]? = some true := hs.imp id fun g => ((set_true hk).1 g).resolve_left e
      rcases h.cl a ha hs' with g | g | g
      · exact .inl (List.mem_append.2 (.inl g))
      · exact .inr (.inl g)
      · exact .inr (.inr fun y hy => (set_true hk).2 (.inr (g y hy)))
  · by_cases e : y = k
    · exact (set_true hk).2 (.inl e)
    · exact (set_true hk).2 (.inr (h.part y (by omega) hey))
theorem IInv.done (h : IInv s v i j x k seen q) (hk : s.nodes.length ≤ k) : BInv s v i j seen q := by
  refine ⟨h.len, h.snd, h.qs, h.nj, fun a ha hs => ?_⟩
  rcases h.cl a ha hs with g | rfl | g
  · exact .inl g
  · exact .inr fun y hy => h.part y (by have := hy.2.1; omega) hy
  · exact .inr g
theorem BInv.fin (h : BInv s v i j seen []) (hi : i < s.nodes.length) : rchB s v i j = false := by
  rw [rchB_not]
  intro hr
  have hall : ∀ y, Rch (edgeG s v) i y → seen[y]? = some true := by
    intro y hy
    induction hy with
    | one he => exact (h.cl i hi (.inl rfl)).resolve_left (by simp) _ he
    | more hx he ih => exact (h.cl _ (rch_lt hx) (.inr ih)).resolve_left (by simp) _ he
  exact h.nj (hall j hr)
theorem count_push {seen : List Bool} {k : Nat} (hk : k < seen.length) (hs : seen[k] = false) : (seen.set k true).count false + 1 = seen.count false := by
  rw [List.count_set hk]
  have : 0 < seen.count false := List.count_pos_iff.2 (hs ▸ List.getElem_mem hk)
  simp [hs]
  omega
end
end Go.Vm
