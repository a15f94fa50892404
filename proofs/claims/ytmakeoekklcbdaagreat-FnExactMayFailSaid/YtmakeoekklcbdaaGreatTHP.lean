/- Heaps: following, the order in which cells are met, leaks. No condition. -/
import Derived.Test.YtmakeoekklcbdaaGreatTPB
import Derived.Test.YtmakeoekklcbdaaGreatTSL
set_option linter.unusedSimpArgs false
set_option linter.unusedVariables false
namespace Go.Vm
open Go.Proofs
/-- Cells of a heap, none twice. -/
def goodC (n : Nat) (l : List Int) : Prop := l.Nodup ∧ ∀ x ∈ l, 0 ≤ x ∧ x < n
theorem goodC_nil (n : Nat) : goodC n [] := ⟨by simp, by simp⟩
theorem goodC_len : ∀ {n : Nat} {l : List Int}, goodC n l → l.length ≤ n
  | 0, l, h => by
    cases l with
    | nil => simp
    | cons x l => have := h.2 x (by simp); omega
  | n + 1, l, h => by
    by_cases hm : (n : Int) ∈ l
    · have h1 := goodC_len (n := n) (l := l.erase n) ⟨h.1.erase _, fun x hx => by
        have h2 := (List.Nodup.mem_erase_iff h.1).1 hx
        have h3 := h.2 x h2.2
        omega⟩
      rw [List.length_erase_of_mem hm] at h1
      omega
    · have h1 := goodC_len (n := n) (l := l) ⟨h.1, fun x hx => by
        have h3 := h.2 x hx
        have : x ≠ n := fun e => hm (e ▸ hx)
        omega⟩
      omega
theorem goodC_add {n : Nat} {l : List Int} {c : Int} (h : goodC n l) (hc : c ∉ l) (h0 : 0 ≤ c) (h1 : c < n) : goodC n (l ++ [c]) := by
  refine ⟨?_, fun x hx => ?_⟩
  · rw [List.nodup_append]
    refine ⟨h.1, by simp, fun a ha b hb => ?_⟩
    rw [List.mem_singleton.1 hb]
    exact fun e => hc (e ▸ ha)
  · rcases List.mem_append.1 hx with hx | hx
    · exact h.2 x hx
    · rw [List.mem_singleton.1 hx]; exact ⟨h0, h1⟩
theorem goodC_lt {n : Nat} {l : List Int} {c : Int} (h : goodC n l) (hc : c ∉ l) (h0 : 0 ≤ c) (h1 : c < n) : l.length < n := by
  have := goodC_len (goodC_add h hc h0 h1)
  simp at this
  omega
/-- The cells that are met from a cell on. -/
def follow (nx : List Int) : Nat → List Int → Int → List Int
  | 0, out, _ => out
  | n + 1, out, c => if c = -1 ∨ c ∈ out then out else if 0 ≤ c ∧ c < nx.length then follow nx n (out ++ [c]) (nx.getD c.toNat 0) else []
def followed (nx : List Int) (c : Int) : List Int := follow nx (nx.length + 1) [] c
theorem follow_good {nx : List Int} : ∀ {n : Nat} {out : List Int} {c : Int}, goodC nx.length out → goodC nx.length (follow nx n out c)
  | 0, out, c, h => h
  | n + 1, out, c, h => by
    unfold follow
    split
    · exact h
    · rename_i h1
      split
      · rename_i h2
        exact follow_good (goodC_add h (fun e => h1 (.inr e)) h2.1 h2.2)
      · exact goodC_nil _
theorem followed_good (nx : List Int) (c : Int) : goodC nx.length (followed nx c) := follow_good (goodC_nil _)
theorem follow_stop {nx out : List Int} {c : Int} {n : Nat} (h : c = -1 ∨ c ∈ out) : follow nx (n + 1) out c = out := by unfold follow; rw [if_pos h]
theorem follow_out {nx out : List Int} {c : Int} {n : Nat} (h : ¬ (c = -1 ∨ c ∈ out)) (h2 : ¬ (0 ≤ c ∧ c < nx.length)) : follow nx (n + 1) out c = [] := by unfold follow; rw [if_neg h, if_neg h2]
theorem follow_step {nx out : List Int} {c : Int} {n : Nat} (h : ¬ (c = -1 ∨ c ∈ out)) (h2 : 0 ≤ c ∧ c < nx.length) : follow nx (n + 1) out c = follow nx n (out ++ [c]) (nx.getD c.toNat 0) := by
  rw [follow, if_neg h, if_pos h2]
/-- What is new is added. -/
def addNew (out xs : List Int) : List Int := xs.foldl (fun o x => if x ∈ o then o else o ++ [x]) out
def metTo (nx vs : List Int) : List Int := vs.foldl (fun o c => addNew o (followed nx c)) []
def met (h : Heap) : List Int := metTo h.next h.vars
theorem foldl_take {α β : Type} (f : β → α → β) (a : β) {xs : List α} {i : Nat} (h : i < xs.length) : (xs.take (i + 1)).foldl f a = f ((xs.take i).foldl f a) xs[i] := by
  rw [List.take_succ_eq_append_getElem h, List.foldl_append]; rfl
theorem addNew_good {n : Nat} : ∀ {xs out : List Int}, goodC n out → (∀ x ∈ xs, 0 ≤ x ∧ x < n) → goodC n (addNew out xs)
  | [], out, h, _ => h
  | x :: xs, out, h, hx => by
    unfold addNew
    rw [List.foldl_cons]
    have h0 := hx x (by simp)
    refine addNew_good (xs := xs) ?_ fun y hy => hx y (by simp [hy])
    split
    · exact h
    · rename_i hm; exact goodC_add h hm h0.1 h0.2
theorem metTo_good (nx : List Int) : ∀ vs : List Int, ∀ out, goodC nx.length out → goodC nx.length (vs.foldl (fun o c => addNew o (followed nx c)) out)
  | [], out, h => h
  | v :: vs, out, h => metTo_good nx vs _ (addNew_good h (followed_good nx v).2)
theorem metTo_step {nx vs : List Int} {i : Nat} (h : i < vs.length) : metTo nx (vs.take (i + 1)) = addNew (metTo nx (vs.take i)) (followed nx vs[i]) := foldl_take (fun o c => addNew o (followed nx c)) [] h
def leakB (h : Heap) : Bool := decide ((met h).length < h.next.length)
end Go.Vm
