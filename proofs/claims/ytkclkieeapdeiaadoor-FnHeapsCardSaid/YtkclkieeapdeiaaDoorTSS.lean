/- Strings and statements: what the laws' size, copy and comparison functions answer. No condition. -/
import Derived.Test.YtkclkieeapdeiaaDoorTU
set_option linter.unusedSimpArgs false
set_option linter.unusedVariables false
namespace Go.Vm
open Go.Proofs
theorem ty_strB {P : Go.Program} {n : Nat} {t : TypeId} {cs0 : List AV} (hu : P.underlying t = some .string) (h : TyN P n t cs0) : ∃ s : List UInt8, s.length ≤ 9223372036854775807 ∧ cs0 = [.str s] := by
  cases n with
  | zero => exact h.elim
  | succ n =>
    simp only [TyN, hu] at h
    obtain ⟨s, e, hl⟩ := h
    exact ⟨s, Nat.le_trans hl (by simp [maxLen]), e⟩
theorem map_decB {α : Type} {f : α → AV} {Q : α → Prop} {b : Bool} : ∀ {css : List (List AV)}, (∀ cs ∈ css, ∃ x, Q x ∧ mkE b cs = f x) → ∃ xs : List α, (∀ x ∈ xs, Q x) ∧ css.map (mkE b) = xs.map f
  | [], _ => ⟨[], by simp, rfl⟩
  | c :: cs, h => by
    obtain ⟨x, hq, hx⟩ := h c (by simp)
    obtain ⟨xs, hqs, hxs⟩ := map_decB (f := f) (Q := Q) (b := b) (css := cs) fun d hd => h d (by simp [hd])
    exact ⟨x :: xs, by intro y hy; rcases List.mem_cons.1 hy with rfl | hy; exact hq; exact hqs y hy, by simp [hx, hxs]⟩
theorem ty_sliceB {P : Go.Program} {n : Nat} {t : TypeId} {cs0 : List AV} {e : TypeId} {sz : Nat} {b : Bool} {α : Type} (f : α → AV) (Q : α → Prop) (hu : P.underlying t = some (.slice e)) (hc : P.cellsOf e = sz) (hag : isAgg' P e = b)
    (dec : ∀ m cs, m < n → TyN P m e cs → ∃ x, Q x ∧ mkE b cs = f x) (h : TyN P n t cs0) : ∃ xs : List α, (∀ x ∈ xs, Q x) ∧ cs0 = [encL sz f xs] := by
  cases n with
  | zero => exact h.elim
  | succ n =>
    simp only [TyN, hu, hc, hag] at h
    obtain ⟨css, rfl, _, hall⟩ := h
    obtain ⟨xs, hq, hxs⟩ := map_decB (f := f) (Q := Q) (b := b) fun cs hcs => dec n cs (by omega) (hall cs hcs)
    exact ⟨xs, hq, by rw [hxs]; rfl⟩
def strsOk (l : List (List UInt8)) : Prop := ∀ s ∈ l, s.length ≤ 9223372036854775807
def szStrs (l : List (List UInt8)) : Nat := l.length + (l.map List.length).sum
end Go.Vm
