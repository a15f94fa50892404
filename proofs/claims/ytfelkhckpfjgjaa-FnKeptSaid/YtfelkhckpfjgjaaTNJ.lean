/- Nodes that stand in a heap, each with rows of its own: read, marked and held. No condition. -/
import Derived.Test.YtfelkhckpfjgjaaTMT
set_option linter.unusedSimpArgs false
set_option linter.unusedVariables false
namespace Go.Vm
open Go.Proofs
structure NIx (H : List Blk) (els : List AV) (xs : List Node) (p q : Nat → Nat) : Prop where
  len : els.length = xs.length
  el : ∀ (i : Nat) (x : Node), xs[i]? = some x → els[i]? = some (AV.agg [.slref (p i) 0 x.vars.length x.vars.length, .slref (q i) 0 x.reach.length x.reach.length, .int .i64 x.shared, .int .i64 x.many])
  rp : ∀ (i : Nat) (x : Node), xs[i]? = some x → H[p i]? = some (Blk.row true 3 1 (x.vars.map encInt))
  rq : ∀ (i : Nat) (x : Node), xs[i]? = some x → H[q i]? = some (Blk.row true 3 1 (x.reach.map encInt))
  pp : ∀ i j, i < xs.length → j < xs.length → p i = p j → i = j
  qq : ∀ i j, i < xs.length → j < xs.length → q i = q j → i = j
  pq : ∀ i j, i < xs.length → j < xs.length → p i ≠ q j
def NIx.own (n : Nat) (p q : Nat → Nat) (b : Nat) : Prop := ∃ i, i < n ∧ (b = p i ∨ b = q i)
theorem NIx.congr {H H' : List Blk} {els : List AV} {xs : List Node} {p q : Nat → Nat} (h : NIx H els xs p q) (he : ∀ b, NIx.own xs.length p q b → H'[b]? = H[b]?) : NIx H' els xs p q :=
  ⟨h.len, h.el, fun i x hx => by rw [he _ ⟨i, (List.getElem?_eq_some_iff.1 hx).1, .inl rfl⟩, h.rp i x hx], fun i x hx => by rw [he _ ⟨i, (List.getElem?_eq_some_iff.1 hx).1, .inr rfl⟩, h.rq i x hx], h.pp, h.qq, h.pq⟩
theorem NIx.is1 {H : List Blk} {els : List AV} {xs : List Node} {p q : Nat → Nat} (h : NIx H els xs p q) {b : Nat} (hb : NIx.own xs.length p q b) : ∃ l : List Int, H[b]? = some (Blk.row true 3 1 (l.map encInt)) := by
  obtain ⟨i, hi, rfl | rfl⟩ := hb
  · exact ⟨_, h.rp i xs[i] (by simp [hi])⟩
  · exact ⟨_, h.rq i xs[i] (by simp [hi])⟩
theorem NIx.app {H : List Blk} {els : List AV} {xs : List Node} {p q : Nat → Nat} (h : NIx H els xs p q) (L : List Blk) : NIx (H ++ L) els xs p q :=
  h.congr fun b hb => by obtain ⟨l, e⟩ := h.is1 hb; exact List.getElem?_append_left (List.getElem?_eq_some_iff.1 e).1
theorem lendEls_nodes {H : List Blk} {d : Nat} : ∀ {els : List AV} {xs : List Node} {p q : Nat → Nat}, els.length = xs.length →
    (∀ (i : Nat) (x : Node), xs[i]? = some x → els[i]? = some (AV.agg [.slref (p i) 0 x.vars.length x.vars.length, .slref (q i) 0 x.reach.length x.reach.length, .int .i64 x.shared, .int .i64 x.many])) →
    (∀ (i : Nat) (x : Node), xs[i]? = some x → H[p i]? = some (Blk.row true 3 1 (x.vars.map encInt))) → (∀ (i : Nat) (x : Node), xs[i]? = some x → H[q i]? = some (Blk.row true 3 1 (x.reach.map encInt))) →
    lendEls (fun _ _ => true) H (d + 2) els = some (xs.map encNode)
  | [], [], _, _, _, _, _, _ => by simp [lendEls]
  | [], _ :: _, _, _, h, _, _, _ => by simp at h
  | _ :: _, [], _, _, h, _, _, _ => by simp at h
  | e :: els, x :: xs, p, q, hl, he, hp, hq => by
    have ih := lendEls_nodes (H := H) (d := d) (els := els) (xs := xs) (p := fun i => p (i + 1)) (q := fun i => q (i + 1)) (by simpa using hl) (fun i x hx => by simpa using he (i + 1) x (by simpa using hx)) (fun i x hx => hp (i + 1) x (by simpa using hx)) (fun i x hx => hq (i + 1) x (by simpa using hx))
    have e0 := he 0 x rfl
    simp only [List.getElem?_cons_zero, Option.some.injEq] at e0
    subst e0
    have e1 : lendC (fun _ _ => true) H (d + 2) (.slref (p 0) 0 x.vars.length x.vars.length) = some (encL 1 encInt x.vars) := by simp [lendC, hp 0 x rfl]
    have e2 : lendC (fun _ _ => true) H (d + 2) (.slref (q 0) 0 x.reach.length x.reach.length) = some (encL 1 encInt x.reach) := by simp [lendC, hq 0 x rfl]
    simp only [lendEls, lendCs, e1, e2, ih, lendC, List.map_cons]
    rfl
theorem NIx.lend {H : List Blk} {els : List AV} {xs : List Node} {p q : Nat → Nat} (h : NIx H els xs p q) {b : Nat} (hb : H[b]? = some (Blk.row true 61 4 els)) : lendC (fun _ _ => true) H 20 (.slref b 0 xs.length xs.length) = some (encL 4 encNode xs) := by
  have := lendEls_nodes (H := H) (d := 17) h.len h.el h.rp h.rq
  simp [lendC, hb, h.len, this]
  rw [← h.len, List.take_length]
  simp [this]
theorem NIx.set {H : List Blk} {els : List AV} {xs : List Node} {p q : Nat → Nat} (h : NIx H els xs p q) {i : Nat} (hi : i < xs.length) (y : Node) (hv : y.vars.length = xs[i].vars.length) (hr : y.reach.length = xs[i].reach.length) :
    NIx ((H.set (p i) (.row true 3 1 (y.vars.map encInt))).set (q i) (.row true 3 1 (y.reach.map encInt))) (els.set i (.agg [.slref (p i) 0 y.vars.length y.vars.length, .slref (q i) 0 y.reach.length y.reach.length, .int .i64 y.shared, .int .i64 y.many])) (xs.set i y) p q := by
  have hx : xs[i]? = some xs[i] := by simp [hi]
  have lp := (List.getElem?_eq_some_iff.1 (h.rp i _ hx)).1
  have lq := (List.getElem?_eq_some_iff.1 (h.rq i _ hx)).1
  have hie : i < els.length := by rw [h.len]; exact hi
  refine ⟨by simp [h.len], fun j x hj => ?_, fun j x hj => ?_, fun j x hj => ?_, fun a b ha hb => h.pp a b (by simpa using ha) (by simpa using hb), fun a b ha hb => h.qq a b (by simpa using ha) (by simpa using hb), fun a b ha hb => h.pq a b (by simpa using ha) (by simpa using hb)⟩
  · by_cases e : i = j
    · subst e
      rw [List.getElem?_set_self hi] at hj
      cases hj
      rw [List.getElem?_set_self hie]
    · rw [List.getElem?_set_ne e] at hj ⊢
      exact h.el j x hj
  · by_cases e : i = j
    · subst e
      rw [List.getElem?_set_self hi] at hj
      cases hj
      rw [List.getElem?_set_ne (h.pq i i hi hi).symm, List.getElem?_set_self lp]
    · rw [List.getElem?_set_ne e] at hj
      have hjl := (List.getElem?_eq_some_iff.1 hj).1
      rw [List.getElem?_set_ne (h.pq j i hjl hi).symm, List.getElem?_set_ne (fun e' => e (h.pp i j hi hjl e'))]
      exact h.rp j x hj
  · by_cases e : i = j
    · subst e
      rw [List.getElem?_set_self hi] at hj
      cases hj
      rw [List.getElem?_set_self (by simpa using lq)]
    · rw [List.getElem?_set_ne e] at hj
      have hjl := (List.getElem?_eq_some_iff.1 hj).1
      rw [List.getElem?_set_ne (fun e' => e (h.qq i j hi hjl e')), List.getElem?_set_ne (h.pq i j hi hjl)]
      exact h.rq j x hj
theorem NIx.sh {N : List Blk} {els : List AV} {xs : List Node} {p q : Nat → Nat} (h : NIx N els xs p q) (H : List Blk) : NIx (H ++ N.map (shB H.length)) (shL H.length els) xs (fun i => H.length + p i) (fun i => H.length + q i) := by
  have get : ∀ m k, N[m]? = some k → (H ++ N.map (shB H.length))[H.length + m]? = some (shB H.length k) := fun m k hk => by
    rw [getHk, List.getElem?_map, hk]; rfl
  refine ⟨by rw [shL_map]; simp [h.len], fun i x hx => by rw [shL_map, List.getElem?_map, h.el i x hx]; simp, fun i x hx => by rw [get _ _ (h.rp i x hx)]; simp, fun i x hx => by rw [get _ _ (h.rq i x hx)]; simp, fun i j hi hj e => h.pp i j hi hj (by omega), fun i j hi hj e => h.qq i j hi hj (by omega), fun i j hi hj e => h.pq i j hi hj (by omega)⟩
end Go.Vm
namespace Go.Vm
open Go.Proofs
def aggN (p q : Nat → Nat) (i : Nat) (y : Node) : AV := .agg [.slref (p i) 0 y.vars.length y.vars.length, .slref (q i) 0 y.reach.length y.reach.length, .int .i64 y.shared, .int .i64 y.many]
end Go.Vm
