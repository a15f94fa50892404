/- Nodes marked where they stand. No condition. -/
import Derived.Test.YtfelkhckpfjgjaaGreatDoorTNI
set_option linter.unusedSimpArgs false
set_option linter.unusedVariables false
namespace Go.Vm
open Go.Proofs
def aggN (p q : Nat → Nat) (i : Nat) (y : Node) : AV := .agg [.slref (p i) 0 y.vars.length y.vars.length, .slref (q i) 0 y.reach.length y.reach.length, .int .i64 y.shared, .int .i64 y.many]
/-- What marking does, node by node. -/
def runN (b : Nat) (p q : Nat → Nat) : List Node → Nat → Int → List Blk → List AV → List Blk × List AV
  | [], _, _, G, els => (G, els)
  | x :: xs, i, k, G, els => runN b p q xs (i + 1) (k + szM x)
      (((G.set (p i) (.row true 3 1 ((mkdN x k).vars.map encInt))).set (q i) (.row true 3 1 ((mkdN x k).reach.map encInt))).set b (.row true 54 4 (els.set i (aggN p q i (mkdN x k)))))
      (els.set i (aggN p q i (mkdN x k)))
theorem own_ne {H : List Blk} {els l : List AV} {xs : List Node} {p q : Nat → Nat} (h : NIx H els xs p q) {b : Nat} (hb : H[b]? = some (Blk.row true 54 4 l)) {i : Nat} (hi : i < xs.length) : p i ≠ b ∧ q i ≠ b := by
  constructor
  · rintro rfl; rw [h.rp i xs[i] (by simp [hi])] at hb; simp at hb
  · rintro rfl; rw [h.rq i xs[i] (by simp [hi])] at hb; simp at hb
/-- One step. -/
theorem step_ok {G : List Blk} {els : List AV} {ys xs : List Node} {x : Node} {p q : Nat → Nat} {b : Nat} {k : Int} (h : NIx G els (ys ++ x :: xs) p q) (hb : G[b]? = some (Blk.row true 54 4 els)) :
    let G' := (((G.set (p ys.length) (.row true 3 1 ((mkdN x k).vars.map encInt))).set (q ys.length) (.row true 3 1 ((mkdN x k).reach.map encInt))).set b (.row true 54 4 (els.set ys.length (aggN p q ys.length (mkdN x k)))))
    NIx G' (els.set ys.length (aggN p q ys.length (mkdN x k))) ((ys ++ [mkdN x k]) ++ xs) p q ∧ G'[b]? = some (Blk.row true 54 4 (els.set ys.length (aggN p q ys.length (mkdN x k)))) ∧ G'.length = G.length ∧ ∀ j, j ≠ b → ¬ NIx.own (ys ++ x :: xs).length p q j → G'[j]? = G[j]? := by
  intro G'
  have hi : ys.length < (ys ++ x :: xs).length := by simp
  have hx : (ys ++ x :: xs)[ys.length] = x := by simp
  have hs := h.set hi (mkdN x k) (by rw [hx]; simp [mkdN]) (by rw [hx]; simp [mkdN])
  have hbl := (List.getElem?_eq_some_iff.1 hb).1
  refine ⟨?_, by simp [G', hbl], by simp [G'], fun j hj ho => ?_⟩
  · have e : (ys ++ x :: xs).set ys.length (mkdN x k) = (ys ++ [mkdN x k]) ++ xs := by simp
    rw [e] at hs
    refine hs.congr fun j hj => ?_
    refine List.getElem?_set_ne ?_
    rintro rfl
    obtain ⟨i, hi', e'⟩ := hj
    have := own_ne h hb (i := i) (by simpa using hi')
    rcases e' with e' | e'
    · exact this.1 e'.symm
    · exact this.2 e'.symm
  · have h1 : p ys.length ≠ j := fun e => ho ⟨ys.length, hi, .inl e.symm⟩
    have h2 : q ys.length ≠ j := fun e => ho ⟨ys.length, hi, .inr e.symm⟩
    show (List.set _ b _)[j]? = _
    rw [List.getElem?_set_ne (Ne.symm hj), List.getElem?_set_ne h2, List.getElem?_set_ne h1]
theorem runN_ok {p q : Nat → Nat} {b : Nat} : ∀ {xs ys : List Node} {k : Int} {G : List Blk} {els : List AV}, NIx G els (ys ++ xs) p q → G[b]? = some (Blk.row true 54 4 els) →
    NIx (runN b p q xs ys.length k G els).1 (runN b p q xs ys.length k G els).2 (ys ++ mkdNs xs k) p q ∧ (runN b p q xs ys.length k G els).1[b]? = some (Blk.row true 54 4 (runN b p q xs ys.length k G els).2) ∧
      (runN b p q xs ys.length k G els).1.length = G.length ∧ ∀ j, j ≠ b → ¬ NIx.own (ys ++ xs).length p q j → (runN b p q xs ys.length k G els).1[j]? = G[j]?
  | [], ys, k, G, els, h, hb => ⟨h, hb, rfl, fun _ _ _ => rfl⟩
  | x :: xs, ys, k, G, els, h, hb => by
    obtain ⟨s1, s2, s3, s4⟩ := step_ok (k := k) h hb
    have ih := runN_ok (xs := xs) (ys := ys ++ [mkdN x k]) (k := k + szM x) s1 s2
    simp only [List.length_append, List.length_cons, List.length_nil, Nat.zero_add] at ih
    obtain ⟨i1, i2, i3, i4⟩ := ih
    refine ⟨by simpa [mkdNs, runN] using i1, i2, i3.trans s3, fun j hj ho => ?_⟩
    rw [show runN b p q (x :: xs) ys.length k G els = runN b p q xs (ys.length + 1) (k + szM x) _ _ from rfl, i4 j hj (by
      rintro ⟨i, hi, e⟩
      exact ho ⟨i, by simp; omega, e⟩)]
    exact s4 j hj ho
theorem szM_take {l : List Node} {i : Nat} (h : i < l.length) : ((l.take (i + 1)).map szM).sum = ((l.take i).map szM).sum + szM l[i] := by
  rw [List.take_succ_eq_append_getElem h, List.map_append, List.sum_append]; simp
theorem szM_take_le {l : List Node} {i : Nat} : ((l.take i).map szM).sum ≤ (l.map szM).sum := by
  have := congrArg (fun l => (l.map szM).sum) (List.take_append_drop i l)
  simp only [List.map_append, List.sum_append] at this
  omega
end Go.Vm

namespace Go.Vm
open Go.Proofs
theorem mkdNs_get : ∀ {xs : List Node} {i : Nat} (k : Int) (h : i < xs.length), (mkdNs xs k)[i]? = some (mkdN xs[i] (k + (((xs.take i).map szM).sum : Nat)))
  | x :: xs, 0, k, _ => by simp [mkdNs]
  | x :: xs, i + 1, k, h => by
    have := mkdNs_get (xs := xs) (i := i) (k + szM x) (by simpa using h)
    simp only [mkdNs, List.getElem?_cons_succ, this, List.getElem_cons_succ, List.take_succ_cons, List.map_cons, List.sum_cons]
    congr 2; omega
end Go.Vm
