/- What the laws copy into rows of their own, mark and read again: numbers and heaps. No condition. -/
import Derived.Test.YtkclkieeapdeiaaDoorTL2
import Derived.Test.YtkclkieeapdeiaaDoorTU
import Derived.Test.YtkclkieeapdeiaaDoorVme
set_option linter.unusedSimpArgs false
set_option linter.unusedVariables false
namespace Go.Vm
open Go.Proofs
@[simp] theorem map_encInt_inj (a b : List Int) : (List.map encInt a = List.map encInt b) = (a = b) := by
  apply propext
  constructor
  · intro h
    exact (List.map_inj_right (fun x y e => by simpa using e)).1 h
  · rintro rfl; rfl
/-- The marks from a number on. -/
def marks (k : Int) : Nat → List Int
  | 0 => []
  | n + 1 => k :: marks (k + 1) n
@[simp] theorem marks_len : ∀ (k : Int) (n : Nat), (marks k n).length = n
  | _, 0 => rfl
  | k, n + 1 => by simp [marks, marks_len (k + 1) n]
theorem marks_get : ∀ (k : Int) (n j : Nat), j < n → (marks k n)[j]? = some (k + j)
  | _, 0, j, h => by omega
  | k, n + 1, 0, _ => by simp [marks]
  | k, n + 1, j + 1, h => by
    simp only [marks, List.getElem?_cons_succ]
    rw [marks_get (k + 1) n j (by omega)]
    congr 1; omega
theorem marks_snoc : ∀ (k : Int) (n : Nat), marks k (n + 1) = marks k n ++ [k + n]
  | k, 0 => by simp [marks]
  | k, n + 1 => by
    rw [marks, marks_snoc (k + 1) n, marks]
    simp; omega
theorem set_same {α : Type} {l : List α} {b : Nat} {x : α} (h : l[b]? = some x) : l.set b x = l := by
  apply List.ext_getElem?
  intro j
  by_cases e : b = j
  · subst e; rw [List.getElem?_set_self (List.getElem?_eq_some_iff.1 h).1, h]
  · rw [List.getElem?_set_ne e]
theorem selfB_set {H : List Blk} {b : Nat} {k : Blk} (h : SelfB H) (hk : ∀ n H2, SlB n H2 k k) : SelfB (H.set b k) := by
  intro n hn H2
  rw [List.length_set] at hn
  exact (h n hn H2).set b (hk n H2)
theorem slB_ints {n E : Nat} {H2 : List Blk} {xs : List Int} : SlB n H2 (.row true E 1 (xs.map encInt)) (.row true E 1 (xs.map encInt)) := by
  simp
theorem weak_back {n0 : Nat} {H X : List Blk} {t t' : List AV} (hB : SelfB H) (hn : n0 ≤ H.length) (ht : All2 (SlV (H.length + 0) (H ++ X)) t t') : Weak n0 ⟨t, H ++ X⟩ ⟨t', H⟩ := by
  have := weak_sealH 0 (X' := []) hB hn (by simp) ht
  rwa [List.append_nil] at this
end Go.Vm
