/- Marked structures are held. No condition. -/
import Derived.Test.YtfelkhckpfjgjaaTNJ
import Derived.Test.YtfelkhckpfjgjaaTMT
import Derived.Test.YtfelkhckpfjgjaaTKC
set_option linter.unusedSimpArgs false
set_option linter.unusedVariables false
namespace Go.Vm
open Go.Proofs
end Go.Vm
namespace Go.Vm
open Go.Proofs
theorem get9 {c0 c1 c2 c3 c4 c5 c6 c7 c8 : Blk} {X T : List Blk} {k : Nat} : (c0 :: c1 :: c2 :: c3 :: c4 :: c5 :: c6 :: c7 :: c8 :: (X ++ T))[X.length + (k + 9)]? = T[k]? := by
  rw [show X.length + (k + 9) = X.length + k + 1 + 1 + 1 + 1 + 1 + 1 + 1 + 1 + 1 by omega]
  simp only [List.getElem?_cons_succ]
  rw [getHk]
theorem set9 {c0 c1 c2 c3 c4 c5 c6 c7 c8 b : Blk} {X T : List Blk} {k : Nat} : (c0 :: c1 :: c2 :: c3 :: c4 :: c5 :: c6 :: c7 :: c8 :: (X ++ T)).set (X.length + (k + 9)) b = c0 :: c1 :: c2 :: c3 :: c4 :: c5 :: c6 :: c7 :: c8 :: (X ++ T.set k b) := by
  rw [show X.length + (k + 9) = X.length + k + 1 + 1 + 1 + 1 + 1 + 1 + 1 + 1 + 1 by omega]
  simp only [List.set_cons_succ]
  rw [setHk]
def soP (j : Nat) : Nat := 6 * j + 12
def soQ (j : Nat) : Nat := 6 * j + 13
def soB (vs nx : List Int) (j : Nat) : List Blk := [.dead, .dead, .dead, .row true 3 1 ((nodeT vs nx j).vars.map encInt), .row true 3 1 ((nodeT vs nx j).reach.map encInt), .dead]
def soX (vs nx : List Int) : Nat → List Blk
  | 0 => []
  | i + 1 => soX vs nx i ++ soB vs nx i
def soE (vs nx : List Int) : Nat → List AV
  | 0 => []
  | i + 1 => soE vs nx i ++ [aggN soP soQ i (nodeT vs nx i)]
theorem soX_len (vs nx : List Int) : ∀ i, (soX vs nx i).length = 6 * i
  | 0 => rfl
  | i + 1 => by simp [soX, soB, soX_len vs nx i]; omega
theorem soE_len (vs nx : List Int) : ∀ i, (soE vs nx i).length = i
  | 0 => rfl
  | i + 1 => by simp [soE, soE_len vs nx i]
theorem soX_get (vs nx : List Int) : ∀ {i j : Nat}, j < i → ∀ k, k < 6 → (soX vs nx i)[6 * j + k]? = (soB vs nx j)[k]?
  | i + 1, j, h, k, hk => by
    by_cases e : j = i
    · subst e
      rw [soX, List.getElem?_append_right (by rw [soX_len]; omega), soX_len]
      congr 1; omega
    · rw [soX, List.getElem?_append_left (by rw [soX_len]; omega)]
      exact soX_get vs nx (by omega) k hk
@[simp 2000] theorem len9 {c0 c1 c2 c3 c4 c5 c6 c7 c8 : Blk} {X T : List Blk} : (c0 :: c1 :: c2 :: c3 :: c4 :: c5 :: c6 :: c7 :: c8 :: (X ++ T)).length = X.length + (T.length + 9) := by
  simp only [List.length_cons, List.length_append]; omega
@[simp 1500] theorem len90 {c0 c1 c2 c3 c4 c5 c6 c7 c8 : Blk} {X : List Blk} : (c0 :: c1 :: c2 :: c3 :: c4 :: c5 :: c6 :: c7 :: c8 :: X).length = X.length + 9 := by
  simp only [List.length_cons]
theorem get9' {c0 c1 c2 c3 c4 c5 c6 c7 c8 : Blk} {X T : List Blk} {k : Nat} (h : 9 ≤ k) : (c0 :: c1 :: c2 :: c3 :: c4 :: c5 :: c6 :: c7 :: c8 :: (X ++ T))[X.length + k]? = T[k - 9]? := by
  obtain ⟨j, rfl⟩ := Nat.exists_eq_add_of_le' h
  rw [get9]; simp
theorem set9' {c0 c1 c2 c3 c4 c5 c6 c7 c8 b : Blk} {X T : List Blk} {k : Nat} (h : 9 ≤ k) : (c0 :: c1 :: c2 :: c3 :: c4 :: c5 :: c6 :: c7 :: c8 :: (X ++ T)).set (X.length + k) b = c0 :: c1 :: c2 :: c3 :: c4 :: c5 :: c6 :: c7 :: c8 :: (X ++ T.set (k - 9) b) := by
  obtain ⟨j, rfl⟩ := Nat.exists_eq_add_of_le' h
  rw [set9]; simp
def soH (vs nx : List Int) : List Blk := .dead :: .dead :: .dead :: .cells [.slref 7 0 nx.length nx.length, .slref 8 0 (nextsT nx nx.length).length (nextsT nx nx.length).length] :: .dead :: .dead :: .cells [.slref 7 0 nx.length nx.length, .slref 8 0 (nextsT nx nx.length).length (nextsT nx nx.length).length] :: .row true 61 4 (soE vs nx nx.length) :: .row true 3 1 ((nextsT nx nx.length).map encInt) :: soX vs nx nx.length
def soU : List Blk := [.dead, .dead, .dead, .cells [.slref 4 0 0 0, .slref 5 0 0 0], .row true 61 4 [], .row true 3 1 []]
theorem soX_own (vs nx : List Int) : ∀ i, ∀ k ∈ soX vs nx i, ownB k = true
  | 0 => by simp [soX]
  | i + 1 => by
    intro k hk
    rcases List.mem_append.1 (show k ∈ soX vs nx i ++ soB vs nx i from hk) with h | h
    · exact soX_own vs nx i k h
    · simp only [soB, List.mem_cons, List.not_mem_nil, or_false] at h
      rcases h with rfl | rfl | rfl | rfl | rfl | rfl <;> first | rfl | simp [ownB]
theorem soE_get (vs nx : List Int) : ∀ {i j : Nat}, j < i → (soE vs nx i)[j]? = some (aggN soP soQ j (nodeT vs nx j))
  | i + 1, j, h => by
    by_cases e : j = i
    · subst e
      rw [soE, List.getElem?_append_right (by rw [soE_len]; omega), soE_len]; simp
    · rw [soE, List.getElem?_append_left (by rw [soE_len]; omega)]
      exact soE_get vs nx (by omega)
theorem soE_own (vs nx : List Int) : ∀ i, ∀ k ∈ soE vs nx i, ownV k = true
  | 0 => by simp [soE]
  | i + 1 => by
    intro k hk
    rcases List.mem_append.1 (show k ∈ soE vs nx i ++ [aggN soP soQ i (nodeT vs nx i)] from hk) with h | h
    · exact soE_own vs nx i k h
    · simp only [List.mem_cons, List.not_mem_nil, or_false] at h
      subst h
      simp [aggN, ownV, ownVL]
end Go.Vm
