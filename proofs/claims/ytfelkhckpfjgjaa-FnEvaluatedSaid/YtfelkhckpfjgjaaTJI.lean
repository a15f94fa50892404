/- Looking for an embedding: the reference. No condition. -/
import Derived.Test.YtfelkhckpfjgjaaTEP
import Derived.Test.YtfelkhckpfjgjaaTGK
import Derived.Test.YtfelkhckpfjgjaaTGL
import Derived.Test.YtfelkhckpfjgjaaTPT
set_option linter.unusedSimpArgs false
set_option linter.unusedVariables false
namespace Go.Vm
open Go.Proofs
def okB (s t : Strc) (to : List Int) (j : Nat) : Bool := fitsB s t (to ++ [(j : Int)]) to.length
end Go.Vm
namespace Go.Vm
open Go.Proofs
theorem truthsB_iff {l : List Int} : truthsB l = true ↔ ∀ a ∈ l, isTruth a = true := by
  unfold truthsB notT
  simp
theorem structB_truth {v : Int} {s : Strc} (h : structB v s = true) : truthS s := by
  unfold structB at h
  simp only [Bool.and_eq_true] at h
  exact truthsB_iff.1 h.1.2
theorem strcOf_truth {h : Heap} (hf : fitS h = true) : truthS (strcOf h) := structB_truth (strcOf_structB hf)
theorem joinT_truth (a b : Int) : isTruth (joinT a b) = true := by
  unfold joinT
  split
  · rename_i h; exact h.2
  · rfl
theorem joinN_truth {s : Strc} {x o : Int} {b : List Int} (h : isTruth o = true) : isTruth (joinN s x o b) = true := by
  unfold joinN
  induction b generalizing o with
  | nil => exact h
  | cons y ys ih => exact ih (joinT_truth _ _)
theorem nextG_truth {s : Strc} (h : truthS s) (a b : List Int) : isTruth (nextG s a b) = true := by
  unfold nextG
  have : ∀ (a : List Int) (o : Int), isTruth o = true → isTruth (a.foldl (fun o x => joinN s x o b) o) = true := by
    intro a
    induction a with
    | nil => intro o h; exact h
    | cons x xs ih => intro o h; exact ih _ (joinN_truth h)
  exact this _ _ (nextOf_truth h _ _)
theorem blurS_truth {s : Strc} (h : truthS s) : truthS (blurS s) := by
  intro x hx
  obtain ⟨a, _, hx⟩ := List.mem_flatMap.1 hx
  obtain ⟨b, _, rfl⟩ := List.mem_map.1 hx
  exact nextG_truth h _ _
theorem d12S0_truth (c : Cur) : truthS (d12S0 c) := by
  unfold d12S0
  split
  · exact strcOf_truth (drawH_fit c)
  · exact blurS_truth (strcOf_truth (drawH_fit c))
theorem setN_truth {s : Strc} (h : truthS s) (i : Nat) (f : Node → Node) : truthS (setN s i f) := by
  unfold setN
  split
  · exact h
  · exact h
theorem set_truth {l : List Int} {i : Nat} {v : Int} (h : ∀ x ∈ l, isTruth x = true) (hv : isTruth v = true) : ∀ x ∈ l.set i v, isTruth x = true := by
  intro x hx
  rcases List.mem_or_eq_of_mem_set hx with hx | rfl
  · exact h x hx
  · exact hv
theorem d12step_truth {x : Cur × Strc} (h : truthS x.2) : truthS (d12step x).2 := by
  unfold d12step
  split
  · exact setN_truth h _ _
  split
  · exact setN_truth h _ _
  split
  · exact set_truth h rfl
  · exact h
theorem d12It_truth {x : Cur × Strc} (h : truthS x.2) : ∀ k, truthS (d12It x k).2
  | 0 => h
  | k + 1 => d12step_truth (d12It_truth h k)
theorem d12_truth (c : Cur) : truthS (d12 c).2 := by
  unfold d12
  split
  · exact d12S0_truth c
  · exact d12It_truth (d12S0_truth c) _
theorem bent12_truth (c : Cur) : truthS (bent12 c).2 := by
  have h := d12_truth c
  unfold bent12
  split
  · intro x hx
    rcases List.mem_append.1 hx with hx | hx
    · exact h x hx
    · rw [List.mem_singleton.1 hx]; rfl
  split
  · exact h
  split
  · exact setN_truth h _ _
  split
  · exact setN_truth h _ _
  split
  · exact setN_truth h _ _
  · exact h
end Go.Vm
