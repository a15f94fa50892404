/- Paths in structures: what can be reached, and the reference's rounds. No condition. -/
import Derived.Test.YtfelkhckpfjgjaaTGC
import Derived.Test.YtfelkhckpfjgjaaTGK
import Derived.Test.YtfelkhckpfjgjaaTGL
set_option linter.unusedSimpArgs false
set_option linter.unusedVariables false
namespace Go.Vm
open Go.Proofs
inductive Rch (e : Nat → Nat → Prop) (i : Nat) : Nat → Prop where
  | one {y : Nat} (h : e i y) : Rch e i y
  | more {x y : Nat} (h : Rch e i x) (g : e x y) : Rch e i y
def mx (a b : Int) : Int := if a ≤ b then b else a
def mn (a b : Int) : Int := if a ≤ b then a else b
def upd1 (s : Strc) (a b : Nat) (best : List Int) : List Int := best.set b (mx (best.getD b 0) (mn (best.getD a 0) (nextOf s a b)))
def updB (s : Strc) (a : Nat) : Nat → List Int → List Int
  | 0, best => best
  | b + 1, best => upd1 s a b (updB s a b best)
def updA (s : Strc) : Nat → List Int → List Int
  | 0, best => best
  | a + 1, best => updB s a s.nodes.length (updA s a best)
def rounds (s : Strc) : Nat → List Int → List Int
  | 0, best => best
  | r + 1, best => updA s s.nodes.length (rounds s r best)
def At (v : Int) (l : List Int) (b : Nat) : Prop := b < l.length ∧ v ≤ l.getD b 0
noncomputable def atB (v : Int) (l : List Int) (c : Nat) : Bool := @decide (At v l c) (Classical.propDecidable _)
noncomputable def many (v : Int) (l : List Int) : Nat := (List.range l.length).countP (atB v l)
def truthS (s : Strc) : Prop := ∀ x ∈ s.next, isTruth x = true
theorem nextOf_truth {s : Strc} (h : truthS s) (i j : Int) : isTruth (nextOf s i j) = true := by
  unfold nextOf
  split
  · rename_i g
    rw [List.getD_eq_getElem?_getD]
    cases e : s.next[(i * s.nodes.length + j).toNat]? with
    | none => simp [isTruth]
    | some v => simpa using h v (List.mem_of_getElem? e)
  · simp [isTruth]
theorem getD_truth {l : List Int} (h : ∀ x ∈ l, isTruth x = true) (c : Nat) : isTruth (l.getD c 0) = true := by
  rw [List.getD_eq_getElem?_getD]
  cases e : l[c]? with
  | none => simp [isTruth]
  | some v => simpa using h v (List.mem_of_getElem? e)
end Go.Vm
namespace Go.Vm
open Go.Proofs
theorem truthsB_iff {l : List Int} : truthsB l = true ↔ ∀ a ∈ l, isTruth a = true := by
  unfold truthsB notT
  simp
theorem structB_truth {v : Int} {s : Strc} (h : structB v s = true) : truthS s := by
  unfold structB at h
  simp only [Bool.and_eq_true] at h
  exact truthsB_iff.1 h.1.2
theorem joinT_truth (a b : Int) : isTruth (joinT a b) = true := by
  unfold joinT
  split
  · rename_i h; exact h.2
  · rfl
theorem joinN_truth {s : Strc} {x o : Int} {b : List Int} (h : isTruth o = true) : isTruth (joinN s x o b) = true := by
  unfold joinN
  induction b generalizing o with
  | nil => exact h
  | cons y ys ih => exact ih (joinT_truth _ _)
theorem nextG_truth {s : Strc} (h : truthS s) (a b : List Int) : isTruth (nextG s a b) = true := by
  unfold nextG
  have : ∀ (a : List Int) (o : Int), isTruth o = true → isTruth (a.foldl (fun o x => joinN s x o b) o) = true := by
    intro a
    induction a with
    | nil => intro o h; exact h
    | cons x xs ih => intro o h; exact ih _ (joinN_truth h)
  exact this _ _ (nextOf_truth h _ _)
end Go.Vm
