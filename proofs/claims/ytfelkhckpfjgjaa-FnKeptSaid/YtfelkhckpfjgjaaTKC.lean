/- Blocks and slots given up, the other ones as they are. No condition. -/
import Derived.Test.YtfelkhckpfjgjaaVme
import Derived.Test.YtfelkhckpfjgjaaTS
set_option linter.unusedSimpArgs false
set_option linter.unusedVariables false
namespace Go.Vm
open Go.RowKit
def LessB (x y : Blk) : Prop := y = .dead ∨ y = x
def AV.notTup : AV → Bool
  | .tup _ => false
  | _ => true
def LessS (x y : AV) : Prop := y = .undef ∨ (y = x ∧ x.notTup = true)
theorem LessB_dead {x : Blk} : LessB x .dead = True := by simp [LessB]
theorem LessB_self {x : Blk} : LessB x x = True := by simp [LessB]
theorem LessS_undef {x : AV} : LessS x .undef = True := by simp [LessS]
theorem LessS_self {x : AV} (h : x.notTup = true) : LessS x x = True := by simp [LessS, h]
theorem LessS_int {k : IntKind} {n : Int} : LessS (.int k n) (.int k n) = True := LessS_self rfl
theorem LessS_bool {b : Bool} : LessS (.bool b) (.bool b) = True := LessS_self rfl
theorem LessS_str {s : List UInt8} : LessS (.str s) (.str s) = True := LessS_self rfl
theorem LessS_pbox {b o : Nat} : LessS (.pbox b o) (.pbox b o) = True := LessS_self rfl
theorem LessS_slref {b o l t : Nat} : LessS (.slref b o l t) (.slref b o l t) = True := LessS_self rfl
theorem LessS_sl {k : Nk} {s : Nat} {l : List AV} : LessS (.sl k s l) (.sl k s l) = True := LessS_self rfl
theorem LessS_agg {l : List AV} : LessS (.agg l) (.agg l) = True := LessS_self rfl
theorem LessS_encL {α : Type} {s : Nat} {f : α → AV} {l : List α} : LessS (encL s f l) (encL s f l) = True := LessS_self (by unfold encL mksl; cases l <;> rfl)
theorem all2_lessB_self {X : List Blk} : All2 LessB X X = True := by simp only [eq_iff_iff, iff_true]; exact all2_self fun x _ => .inr rfl
theorem all2_lessB_app {X T T' : List Blk} : All2 LessB (X ++ T) (X ++ T') = All2 LessB T T' := by
  apply propext
  refine ⟨fun h => ?_, fun h => (all2_self fun x _ => .inr rfl).append h⟩
  have := h.drop X.length
  simpa using this
theorem SlV_self {B : Base} {w : World} {H H2 : List Blk} {μ : Mu} {n : Nat} (hn : H.length ≤ n) {x : AV} {v : Value} (r : RepV B w H μ x v) (h : x.notTup = true) : SlV n H2 x x := by
  have cell : ∀ {x : AV}, RepA B w H μ x v → SlC n H2 x x := fun r => .inr (.inl ⟨rfl, belowC_mono hn (below_A r)⟩)
  cases x with
  | tup _ => simp [AV.notTup] at h
  | undef => trivial
  | agg cs =>
    obtain ⟨vs, -, hc⟩ := r
    exact all2_self fun c hc' => .inr (.inl ⟨rfl, belowC_mono hn (below_As hc c hc')⟩)
  | _ => exact cell (by simpa only [RepV, RepU] using r)
theorem weak_less {n0 : Nat} {t t' : List AV} {H H' : List Blk} (hH : All2 LessB H H') (ht : All2 LessS t t') : Weak n0 ⟨t, H⟩ ⟨t', H'⟩ := by
  intro B w μ a R S
  have hs := rel_self R
  refine weak_seal (max n0 H.length) (Nat.le_max_left _ _) ?_ ?_ B w μ a R S
  · rw [List.take_of_length_le (Nat.le_max_right _ _)]
    have h2 := hs (max n0 H.length) (Nat.le_max_right _ _) H
    refine All2.of_get hH.length fun i x y hx hy => ?_
    obtain ⟨z, hz, hl⟩ := hH.get hx
    obtain ⟨z2, hz2, hl2⟩ := h2.get hx
    rw [hy] at hz; cases hz
    rw [hx] at hz2; cases hz2
    rcases hl with rfl | rfl
    · simp [SlB_dead]
    · exact hl2
  · refine All2.of_get ht.length fun i x y hx hy => ?_
    obtain ⟨z, hz, hl⟩ := ht.get hx
    rw [hy] at hz; cases hz
    rcases hl with rfl | ⟨rfl, hl⟩
    · simp [SlV_undef]
    · exact SlV_self (Nat.le_max_right _ _) (S.2 i _ hx) hl
attribute [simp] LessS_encL LessB_dead LessB_self LessS_undef LessS_int LessS_bool LessS_str LessS_pbox LessS_slref LessS_sl LessS_agg all2_lessB_self all2_lessB_app
end Go.Vm
namespace Go.Vm
open Go.Proofs
theorem appRow_all {H : List Blk} {e s b c len : Nat} {xs els : List AV} (hl : els.length = len) : appRow H e s b c len len xs (some (.row true e s els)) = if (len + xs.length) * b ≤ 140737488355328 then some (.slref c 0 (len + xs.length) (len + xs.length), H.set c (.row true e s (els ++ xs))) else none := by
  subst hl
  simp only [appRow, true_and, Nat.le_refl]
  by_cases h : (els.length + xs.length) * b ≤ 140737488355328
  · rw [if_pos h, if_pos h]
    cases xs with
    | nil => simp
    | cons x xs => rw [if_neg (by simp)]; simp
  · rw [if_neg h, if_neg h]
end Go.Vm
