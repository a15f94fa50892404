/- A walk through a drawn region with an unordered new variable, as one formula. It holds over any program; no condition. -/
import Derived.Test.YtmakeoekklcbdaaTDQ
set_option linter.unusedSimpArgs false
set_option linter.unusedVariables false
namespace Go.Vm
open Go.RowKit
/-- Such a region as one formula. -/
def dops3K (P : Program) (T : Tab) (h0 : List Blk) (zs : List AV) (dA : Nat) : Bool → List OpR → List Bool → List Bool → (St → Prop) → St → Prop
  | made, [], _, _, K, st => made = true ∧ K st
  | made, o :: os, lo, lo2, K, st =>
    if lo.headD false = true then made = true ∧ ((lo.all id && decide (os.length < lo.length)) = true ∧ dopsK P T (o :: os) lo K st)
    else match o.guard with
      | some _ => False
      | none => if o.o.isAlloc = true then made = false ∧ o = ⟨some dA, .alloc zs, none⟩ ∧ dops3K P T h0 zs dA true os lo.tail lo2.tail K ⟨st.t.set dA (.pbox h0.length 0), st.h⟩
        else if isH T o.o = true then lo2.headD false = true ∧ stepK P T st.t st.h o.o (fun v H' => H'.take st.h.length = st.h ∧ missV h0.length v = true ∧ (H'.drop st.h.length).all (missB h0.length) = true ∧
          stepK P T st.t (st.h.set h0.length .dead) o.o (fun v' H'' => v' = v ∧ H'' = st.h.set h0.length .dead ++ H'.drop st.h.length) ∧ dops3K P T h0 zs dA made os lo.tail lo2.tail K ⟨putT st.t o.dst v, H'⟩)
        else ∃ v, (∀ c L, stepK P T st.t (h0 ++ c :: L) o.o (fun v' H' => v' = v ∧ H' = h0 ++ c :: L)) ∧ missV h0.length v = true ∧ dops3K P T h0 zs dA made os lo.tail lo2.tail K ⟨putT st.t o.dst v, st.h⟩
theorem dops3K_ok {P : Program} {T : Tab} (hT : TabOk P T) {h0 : List Blk} {zs : List AV} {dA : Nat} : ∀ {os : List OpR} {made : Bool} {lo lo2 : List Bool} {K : St → Prop} {st : St}, dops3K P T h0 zs dA made os lo lo2 K st →
    ∀ {i : Nat} {f : Nat → Bool}, (∀ j, f (i + j) = lo.getD j false) → ∀ {f2 : Nat → Bool}, (∀ j, f2 (i + j) = lo2.getD j false) → dopsWp3 P f f2 h0 zs dA made i os K st := by
  intro os
  induction os with
  | nil => intro made lo lo2 K st h i f _ f2 _; exact h
  | cons o os ih =>
    intro made lo lo2 K st h i f hf f2 hf2
    have hf0 : f i = lo.headD false := by have := hf 0; simpa [List.headD_eq_head?_getD, List.getD, List.head?_eq_getElem?] using this
    have hft : ∀ j, f (i + 1 + j) = lo.tail.getD j false := by
      intro j
      rw [show i + 1 + j = i + (j + 1) by omega, hf]
      simp [List.getD]
    have hg0 : f2 i = lo2.headD false := by have := hf2 0; simpa [List.headD_eq_head?_getD, List.getD, List.head?_eq_getElem?] using this
    have hgt : ∀ j, f2 (i + 1 + j) = lo2.tail.getD j false := by
      intro j
      rw [show i + 1 + j = i + (j + 1) by omega, hf2]
      simp [List.getD]
    unfold dops3K at h
    unfold dopsWp3
    rw [hf0]
    split at h
    · rename_i hl
      rw [if_pos hl]
      obtain ⟨hm, ha, hd⟩ := h
      simp only [Bool.and_eq_true, decide_eq_true_eq] at ha
      exact ⟨hm, fun k hk => by rw [hf]; exact all_getD ha.1 (by omega), dopsK_ok hT hd hf⟩
    · rename_i hl
      rw [if_neg hl]
      cases hg : o.guard with
      | some p => simp [hg] at h
      | none =>
        simp only [hg] at h
        split at h
        · obtain ⟨h1, h2, h3⟩ := h
          exact .inl ⟨h1, h2, ih h3 hft hgt⟩
        · split at h
          · obtain ⟨h1, h2⟩ := h
            obtain ⟨v, H', hst, ht, hm, hml, hk, hn⟩ := stepK_ok hT h2
            obtain ⟨v', H'', hst', rfl, rfl⟩ := stepK_ok hT hk
            have e : H' = st.h ++ H'.drop st.h.length := by
              have := List.take_append_drop st.h.length H'
              rw [ht] at this; exact this.symm
            refine .inr (.inr ⟨rfl, by rw [hg0]; exact h1, v', H'.drop st.h.length, hm, List.all_eq_true.1 hml, by rw [← e]; exact hst, hst', ?_⟩)
            rw [← e]
            exact ih hn hft hgt
          · obtain ⟨v, hs, hm, hn⟩ := h
            have key : ∀ c L, Step P (Opd.ev st.t) (h0 ++ c :: L) o.o v (h0 ++ c :: L) := by
              intro c L
              obtain ⟨v', H', h1, rfl, rfl⟩ := stepK_ok hT (hs c L)
              exact h1
            exact .inr (.inl ⟨rfl, v, hm, fun L => key _ L, fun L => key _ L, ih hn hft hgt⟩)
/-- The rule for code. -/
theorem cw_dreg3K {P : Program} {n0 : Nat} {lo lo2 : List Bool} {os : List OpR} {Q : Exit → St → Prop} {st : St} {T : Tab} (hT : TabOk P T) (zs : List AV) (dA : Nat)
    (h : dops3K P T st.h zs dA false os lo lo2 (Q .normal) ⟨st.t, st.h ++ [.cells zs]⟩) : CW P n0 (.dreg lo lo2 os) Q st :=
  cw_dreg3 zs dA (dops3K_ok hT h (fun j => by simp) (fun j => by simp))
end Go.Vm
