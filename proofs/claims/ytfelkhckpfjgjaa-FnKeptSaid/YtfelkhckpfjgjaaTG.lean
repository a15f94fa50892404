/- What the laws' copies and comparisons answer. No condition. -/
import Derived.Test.YtfelkhckpfjgjaaTS
set_option linter.unusedSimpArgs false
set_option linter.unusedVariables false
namespace Go.Vm
open Go.Proofs
end Go.Vm
namespace Go.Vm
open Go.Proofs
def findI {α : Type} (p : α → Bool) (xs : List α) : Int := match xs.findIdx? p with | some i => i | none => -1
def noHit {α : Type} (p : α → Bool) (xs : List α) (i : Nat) : Prop := ∀ a ∈ xs.take i, p a = false
section
variable {α : Type} {p : α → Bool} {xs : List α} {i : Nat}
theorem noHit_zero : noHit p xs 0 := by intro a h; simp at h
theorem noHit_succ (h : noHit p xs i) (hi : i < xs.length) (hp : p xs[i] = false) : noHit p xs (i + 1) := by
  intro a ha
  rw [List.take_succ_eq_append_getElem hi] at ha
  rcases List.mem_append.1 ha with ha | ha
  · exact h a ha
  · rw [List.mem_singleton.1 ha]; exact hp
theorem noHit_lt (h : noHit p xs i) {j : Nat} (hj : j < i) (hl : j < xs.length) : p xs[j] = false := by
  apply h
  rw [List.mem_take_iff_getElem]
  exact ⟨j, by omega, rfl⟩
theorem findI_hit (h : noHit p xs i) (hi : i < xs.length) (hp : p xs[i] = true) : findI p xs = i := by
  have : xs.findIdx? p = some i := by
    rw [List.findIdx?_eq_some_iff_getElem]
    exact ⟨hi, hp, fun j hj => by rw [noHit_lt h hj (by omega)]; simp⟩
  simp [findI, this]
theorem findI_none (h : noHit p xs i) (hi : xs.length ≤ i) : findI p xs = -1 := by
  have : xs.findIdx? p = none := by
    rw [List.findIdx?_eq_none_iff]
    intro x hx
    exact h x (by rw [List.take_of_length_le hi]; exact hx)
  simp [findI, this]
theorem findI_any : decide (0 ≤ findI p xs) = xs.any p := by
  cases h : xs.findIdx? p with
  | none =>
    have h2 := List.findIdx?_eq_none_iff.1 h
    have : xs.any p = false := by simpa using h2
    simp [findI, h, this]
  | some i =>
    obtain ⟨hi, hp, -⟩ := List.findIdx?_eq_some_iff_getElem.1 h
    have : xs.any p = true := by rw [List.any_eq_true]; exact ⟨_, List.getElem_mem hi, hp⟩
    simp [findI, h, this]
theorem any_hit (hi : i < xs.length) (hp : p xs[i] = true) : xs.any p = true := List.any_eq_true.2 ⟨_, List.getElem_mem hi, hp⟩
theorem any_none (h : noHit p xs i) (hi : xs.length ≤ i) : xs.any p = false := by
  rw [List.any_eq_false]
  intro x hx
  rw [h x (by rw [List.take_of_length_le hi]; exact hx)]; simp
end
def pos (xs : List Int) (n : Int) : List Int := ((List.range xs.length).filter fun i => xs.getD i 0 == n).map Int.ofNat
def posTo (xs : List Int) (n : Int) (k : Nat) : List Int := ((List.range k).filter fun i => xs.getD i 0 == n).map Int.ofNat
theorem posTo_zero {xs : List Int} {n : Int} : posTo xs n 0 = [] := rfl
theorem posTo_hit {xs : List Int} {n : Int} {k : Nat} (h : k < xs.length) (e : xs[k] = n) : posTo xs n (k + 1) = posTo xs n k ++ [(k : Int)] := by
  have : (xs.getD k 0 == n) = true := by simp [List.getD_eq_getElem?_getD, h, e]
  simp [posTo, List.range_succ, List.filter_append, -List.getD_eq_getElem?_getD, this]
theorem posTo_miss {xs : List Int} {n : Int} {k : Nat} (h : k < xs.length) (e : ¬ xs[k] = n) : posTo xs n (k + 1) = posTo xs n k := by
  have : (xs.getD k 0 == n) = false := by simp [List.getD_eq_getElem?_getD, h, e]
  simp [posTo, List.range_succ, List.filter_append, -List.getD_eq_getElem?_getD, this]
theorem posTo_len {xs : List Int} {n : Int} {k : Nat} : (posTo xs n k).length ≤ k := by
  have := List.length_filter_le (fun i => xs.getD i 0 == n) (List.range k)
  simpa [posTo] using this
theorem pos_nil {xs : List Int} {n : Int} : (0 < (pos xs n).length) = (n ∈ xs) := by
  apply propext
  constructor
  · intro h
    obtain ⟨x, hx⟩ := List.exists_mem_of_length_pos h
    simp only [pos, List.mem_map, List.mem_filter, List.mem_range] at hx
    obtain ⟨j, ⟨hj, he⟩, -⟩ := hx
    simp [List.getD_eq_getElem?_getD, hj] at he
    rw [← he]; exact List.getElem_mem hj
  · intro h
    obtain ⟨j, hj, e⟩ := List.mem_iff_getElem.1 h
    apply List.length_pos_of_mem (a := (j : Int))
    simp only [pos, List.mem_map, List.mem_filter, List.mem_range]
    exact ⟨j, ⟨hj, by simp [List.getD_eq_getElem?_getD, hj, e]⟩, rfl⟩
theorem lens_agg (cs : List AV) : lensOk (.agg cs) = lensOkL cs := by simp [lensOk]
theorem lens_nil : lensOkL [] = True := by simp [lensOkL]
theorem lens_int (k : IntKind) (i : Int) : lensOk (.int k i) = True := by simp [lensOk]
theorem node_le {x : Strc} {n : Node} (h : n ∈ x.nodes) : n.vars.length ≤ szStrc x ∧ n.reach.length ≤ szStrc x := by
  have h1 := sum_mem szNode h
  have h2 : szNode n = n.vars.length + n.reach.length := rfl
  have h3 : szStrc x = szNodes x.nodes + x.next.length := rfl
  have h4 : szNodes x.nodes = x.nodes.length + (x.nodes.map szNode).sum := rfl
  omega
theorem strc_le (x : Strc) : x.nodes.length ≤ szStrc x ∧ x.next.length ≤ szStrc x := by
  have h3 : szStrc x = szNodes x.nodes + x.next.length := rfl
  have h4 : szNodes x.nodes = x.nodes.length + (x.nodes.map szNode).sum := rfl
  omega
theorem app1 (n : Nat) : (n + 1 ≤ n) = False := by simp
theorem any_beq (xs : List Int) (v : Int) : (xs.any fun a => v == a) = decide (v ∈ xs) := by
  rw [Bool.eq_iff_iff]; simp
theorem take_map2 {α β : Type} (f : α → β) {xs : List α} {i : Nat} (h : i < xs.length) : List.map f (xs.take (i + 1)) = List.map f (xs.take i) ++ [f xs[i]] := by
  rw [List.take_succ_eq_append_getElem h, List.map_append]
  rfl
end Go.Vm
