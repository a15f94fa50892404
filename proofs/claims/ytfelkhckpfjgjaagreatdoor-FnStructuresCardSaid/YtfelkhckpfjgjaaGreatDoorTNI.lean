/- Structures marked. No condition. -/
import Derived.Test.YtfelkhckpfjgjaaGreatDoorTGN
set_option linter.unusedSimpArgs false
set_option linter.unusedVariables false
namespace Go.Vm
open Go.Proofs
theorem weak_dead0 {n0 lo hi : Nat} {H H' : List Blk} {t t' : List AV} (hB : SelfB H) (ho : outO H H' lo hi) (h1 : lo ≤ hi) (h2 : hi ≤ H.length) (hn : n0 ≤ H.length) (ht : All2 (SlV H.length (H' ++ [])) t t') : Weak n0 ⟨t, H'⟩ ⟨t', deadR lo hi H⟩ := by
  have := weak_dead (X := []) hB ho h1 h2 hn ht
  rwa [List.append_nil] at this
theorem sum_take {l : List Nat} {i : Nat} (h : i < l.length) : (l.take (i + 1)).sum = (l.take i).sum + l[i] := by
  rw [List.take_succ_eq_append_getElem h, List.sum_append]; simp
theorem sum_take_le {l : List Nat} {i : Nat} : (l.take i).sum ≤ l.sum := by
  have := congrArg List.sum (List.take_append_drop i l)
  rw [List.sum_append] at this
  omega
theorem deadR_app {lo hi : Nat} {H X : List Blk} (h1 : lo ≤ hi) (h2 : hi ≤ H.length) : deadR lo hi (H ++ X) = deadR lo hi H ++ X := by
  unfold deadR
  rw [List.take_append_of_le_length (by omega), List.drop_append_of_le_length h2]
  simp only [List.append_assoc]
theorem selfB_dead {lo hi : Nat} {H : List Blk} (h : SelfB H) (h1 : lo ≤ hi) (h2 : hi ≤ H.length) : SelfB (deadR lo hi H) := by
  intro n hn H2
  rw [deadR_len h1 h2] at hn
  refine all2_self fun k hk => ?_
  obtain ⟨j, hj, rfl⟩ := List.mem_iff_getElem.1 hk
  have e := deadR_get h1 h2 j
  rw [List.getElem?_eq_getElem hj] at e
  split at e
  · obtain ⟨q, q1, q2⟩ := (h n hn H2).get e.symm
    rw [← e] at q1; cases q1
    exact q2
  · have e := Option.some.inj e
    rw [e]
    simp
end Go.Vm

namespace Go.Vm
open Go.Proofs
/-- The nodes of a row, with the rows of their variables (p) and of what reaches them (q). -/
structure NIx (H : List Blk) (els : List AV) (xs : List Node) (p q : Nat → Nat) : Prop where
  len : els.length = xs.length
  el : ∀ (i : Nat) (x : Node), xs[i]? = some x → els[i]? = some (AV.agg [.slref (p i) 0 x.vars.length x.vars.length, .slref (q i) 0 x.reach.length x.reach.length, .int .i64 x.shared, .int .i64 x.many])
  rp : ∀ (i : Nat) (x : Node), xs[i]? = some x → H[p i]? = some (Blk.row true 3 1 (x.vars.map encInt))
  rq : ∀ (i : Nat) (x : Node), xs[i]? = some x → H[q i]? = some (Blk.row true 3 1 (x.reach.map encInt))
  pp : ∀ i j, i < xs.length → j < xs.length → p i = p j → i = j
  qq : ∀ i j, i < xs.length → j < xs.length → q i = q j → i = j
  pq : ∀ i j, i < xs.length → j < xs.length → p i ≠ q j
/-- Is a block one of these rows? -/
def NIx.own (n : Nat) (p q : Nat → Nat) (b : Nat) : Prop := ∃ i, i < n ∧ (b = p i ∨ b = q i)
theorem NIx.congr {H H' : List Blk} {els : List AV} {xs : List Node} {p q : Nat → Nat} (h : NIx H els xs p q) (he : ∀ b, NIx.own xs.length p q b → H'[b]? = H[b]?) : NIx H' els xs p q :=
  ⟨h.len, h.el, fun i x hx => by rw [he _ ⟨i, (List.getElem?_eq_some_iff.1 hx).1, .inl rfl⟩, h.rp i x hx], fun i x hx => by rw [he _ ⟨i, (List.getElem?_eq_some_iff.1 hx).1, .inr rfl⟩, h.rq i x hx], h.pp, h.qq, h.pq⟩
theorem NIx.is1 {H : List Blk} {els : List AV} {xs : List Node} {p q : Nat → Nat} (h : NIx H els xs p q) {b : Nat} (hb : NIx.own xs.length p q b) : ∃ l : List Int, H[b]? = some (Blk.row true 3 1 (l.map encInt)) := by
  obtain ⟨i, hi, rfl | rfl⟩ := hb
  · exact ⟨_, h.rp i xs[i] (by simp [hi])⟩
  · exact ⟨_, h.rq i xs[i] (by simp [hi])⟩
theorem NIx.app {H : List Blk} {els : List AV} {xs : List Node} {p q : Nat → Nat} (h : NIx H els xs p q) (L : List Blk) : NIx (H ++ L) els xs p q :=
  h.congr fun b hb => by obtain ⟨l, e⟩ := h.is1 hb; exact List.getElem?_append_left (List.getElem?_eq_some_iff.1 e).1
theorem lendEls_nodes {H : List Blk} {d : Nat} : ∀ {els : List AV} {xs : List Node} {p q : Nat → Nat}, els.length = xs.length →
    (∀ (i : Nat) (x : Node), xs[i]? = some x → els[i]? = some (AV.agg [.slref (p i) 0 x.vars.length x.vars.length, .slref (q i) 0 x.reach.length x.reach.length, .int .i64 x.shared, .int .i64 x.many])) →
    (∀ (i : Nat) (x : Node), xs[i]? = some x → H[p i]? = some (Blk.row true 3 1 (x.vars.map encInt))) → (∀ (i : Nat) (x : Node), xs[i]? = some x → H[q i]? = some (Blk.row true 3 1 (x.reach.map encInt))) →
    lendEls (fun _ _ => true) H (d + 2) els = some (xs.map encNode)
  | [], [], _, _, _, _, _, _ => by simp [lendEls]
  | [], _ :: _, _, _, h, _, _, _ => by simp at h
  | _ :: _, [], _, _, h, _, _, _ => by simp at h
  | e :: els, x :: xs, p, q, hl, he, hp, hq => by
    have ih := lendEls_nodes (H := H) (d := d) (els := els) (xs := xs) (p := fun i => p (i + 1)) (q := fun i => q (i + 1)) (by simpa using hl) (fun i x hx => by simpa using he (i + 1) x (by simpa using hx)) (fun i x hx => hp (i + 1) x (by simpa using hx)) (fun i x hx => hq (i + 1) x (by simpa using hx))
    have e0 := he 0 x rfl
    simp only [List.getElem?_cons_zero, Option.some.injEq] at e0
    subst e0
    have e1 : lendC (fun _ _ => true) H (d + 2) (.slref (p 0) 0 x.vars.length x.vars.length) = some (encL 1 encInt x.vars) := by simp [lendC, hp 0 x rfl]
    have e2 : lendC (fun _ _ => true) H (d + 2) (.slref (q 0) 0 x.reach.length x.reach.length) = some (encL 1 encInt x.reach) := by simp [lendC, hq 0 x rfl]
    simp only [lendEls, lendCs, e1, e2, ih, lendC, List.map_cons]
    rfl
theorem NIx.lend {H : List Blk} {els : List AV} {xs : List Node} {p q : Nat → Nat} (h : NIx H els xs p q) {b : Nat} (hb : H[b]? = some (Blk.row true 54 4 els)) : lendC (fun _ _ => true) H 20 (.slref b 0 xs.length xs.length) = some (encL 4 encNode xs) := by
  have := lendEls_nodes (H := H) (d := 17) h.len h.el h.rp h.rq
  simp [lendC, hb, h.len, this]
  rw [← h.len, List.take_length]
  simp [this]
/-- One node rewritten. -/
theorem NIx.set {H : List Blk} {els : List AV} {xs : List Node} {p q : Nat → Nat} (h : NIx H els xs p q) {i : Nat} (hi : i < xs.length) (y : Node) (hv : y.vars.length = xs[i].vars.length) (hr : y.reach.length = xs[i].reach.length) :
    NIx ((H.set (p i) (.row true 3 1 (y.vars.map encInt))).set (q i) (.row true 3 1 (y.reach.map encInt))) (els.set i (.agg [.slref (p i) 0 y.vars.length y.vars.length, .slref (q i) 0 y.reach.length y.reach.length, .int .i64 y.shared, .int .i64 y.many])) (xs.set i y) p q := by
  have hx : xs[i]? = some xs[i] := by simp [hi]
  have lp := (List.getElem?_eq_some_iff.1 (h.rp i _ hx)).1
  have lq := (List.getElem?_eq_some_iff.1 (h.rq i _ hx)).1
  have hie : i < els.length := by rw [h.len]; exact hi
  refine ⟨by simp [h.len], fun j x hj => ?_, fun j x hj => ?_, fun j x hj => ?_, fun a b ha hb => h.pp a b (by simpa using ha) (by simpa using hb), fun a b ha hb => h.qq a b (by simpa using ha) (by simpa using hb), fun a b ha hb => h.pq a b (by simpa using ha) (by simpa using hb)⟩
  · by_cases e : i = j
    · subst e
      rw [List.getElem?_set_self hi] at hj
      cases hj
      rw [List.getElem?_set_self hie]
    · rw [List.getElem?_set_ne e] at hj ⊢
      exact h.el j x hj
  · by_cases e : i = j
    · subst e
      rw [List.getElem?_set_self hi] at hj
      cases hj
      rw [List.getElem?_set_ne (h.pq i i hi hi).symm, List.getElem?_set_self lp]
    · rw [List.getElem?_set_ne e] at hj
      have hjl := (List.getElem?_eq_some_iff.1 hj).1
      rw [List.getElem?_set_ne (h.pq j i hjl hi).symm, List.getElem?_set_ne (fun e' => e (h.pp i j hi hjl e'))]
      exact h.rp j x hj
  · by_cases e : i = j
    · subst e
      rw [List.getElem?_set_self hi] at hj
      cases hj
      rw [List.getElem?_set_self (by simpa using lq)]
    · rw [List.getElem?_set_ne e] at hj
      have hjl := (List.getElem?_eq_some_iff.1 hj).1
      rw [List.getElem?_set_ne (fun e' => e (h.qq i j hi hjl e')), List.getElem?_set_ne (h.pq i j hi hjl)]
      exact h.rq j x hj
/-- A new node behind. -/
theorem NIx.snoc {H : List Blk} {els : List AV} {xs : List Node} {p q : Nat → Nat} (h : NIx H els xs p q) {a r : Nat} (x : Node) (ha : H[a]? = some (Blk.row true 3 1 (x.vars.map encInt))) (hr : H[r]? = some (Blk.row true 3 1 (x.reach.map encInt)))
    (hne : a ≠ r) (na : ¬ NIx.own xs.length p q a) (nr : ¬ NIx.own xs.length p q r) :
    NIx H (els ++ [.agg [.slref a 0 x.vars.length x.vars.length, .slref r 0 x.reach.length x.reach.length, .int .i64 x.shared, .int .i64 x.many]]) (xs ++ [x]) (fun i => if i = xs.length then a else p i) (fun i => if i = xs.length then r else q i) := by
  have key : ∀ i y, (xs ++ [x])[i]? = some y → (i < xs.length ∧ xs[i]? = some y) ∨ (i = xs.length ∧ y = x) := by
    intro i y hy
    by_cases g : i < xs.length
    · rw [List.getElem?_append_left g] at hy; exact .inl ⟨g, hy⟩
    · have hl := (List.getElem?_eq_some_iff.1 hy).1
      simp only [List.length_append, List.length_cons, List.length_nil] at hl
      have e : i = xs.length := by omega
      subst e
      simp at hy
      exact .inr ⟨rfl, hy.symm⟩
  refine ⟨by simp [h.len], fun i y hy => ?_, fun i y hy => ?_, fun i y hy => ?_, fun i j hi hj e => ?_, fun i j hi hj e => ?_, fun i j hi hj e => ?_⟩
  · rcases key i y hy with ⟨g, hy⟩ | ⟨rfl, rfl⟩
    · have g' : ¬ i = xs.length := by omega
      rw [List.getElem?_append_left (by rw [h.len]; exact g), h.el i y hy]; simp [g']
    · rw [← h.len]; simp
  · rcases key i y hy with ⟨g, hy⟩ | ⟨rfl, rfl⟩
    · have g' : ¬ i = xs.length := by omega
      simp only [g', if_false]; exact h.rp i y hy
    · simpa using ha
  · rcases key i y hy with ⟨g, hy⟩ | ⟨rfl, rfl⟩
    · have g' : ¬ i = xs.length := by omega
      simp only [g', if_false]; exact h.rq i y hy
    · simpa using hr
  · simp only [List.length_append, List.length_cons, List.length_nil] at hi hj
    by_cases g1 : i = xs.length <;> by_cases g2 : j = xs.length
    · omega
    · simp only [g1, g2, if_true, if_false] at e; exact absurd ⟨j, by omega, .inl e⟩ na
    · simp only [g1, g2, if_true, if_false] at e; exact absurd ⟨i, by omega, .inl e.symm⟩ na
    · simp only [g1, g2, if_false] at e; exact h.pp i j (by omega) (by omega) e
  · simp only [List.length_append, List.length_cons, List.length_nil] at hi hj
    by_cases g1 : i = xs.length <;> by_cases g2 : j = xs.length
    · omega
    · simp only [g1, g2, if_true, if_false] at e; exact absurd ⟨j, by omega, .inr e⟩ nr
    · simp only [g1, g2, if_true, if_false] at e; exact absurd ⟨i, by omega, .inr e.symm⟩ nr
    · simp only [g1, g2, if_false] at e; exact h.qq i j (by omega) (by omega) e
  · simp only [List.length_append, List.length_cons, List.length_nil] at hi hj
    by_cases g1 : i = xs.length <;> by_cases g2 : j = xs.length
    · simp only [g1, g2, if_true] at e; exact hne e
    · simp only [g1, g2, if_true, if_false] at e; exact absurd ⟨j, by omega, .inr e⟩ na
    · simp only [g1, g2, if_true, if_false] at e; exact absurd ⟨i, by omega, .inl e.symm⟩ nr
    · simp only [g1, g2, if_false] at e; exact h.pq i j (by omega) (by omega) e
/-- Renumbered. -/
theorem NIx.sh {N : List Blk} {els : List AV} {xs : List Node} {p q : Nat → Nat} (h : NIx N els xs p q) (H : List Blk) : NIx (H ++ N.map (shB H.length)) (shL H.length els) xs (fun i => H.length + p i) (fun i => H.length + q i) := by
  have get : ∀ m k, N[m]? = some k → (H ++ N.map (shB H.length))[H.length + m]? = some (shB H.length k) := fun m k hk => by
    rw [getHk, List.getElem?_map, hk]; rfl
  refine ⟨by rw [shL_map]; simp [h.len], fun i x hx => by rw [shL_map, List.getElem?_map, h.el i x hx]; simp, fun i x hx => by rw [get _ _ (h.rp i x hx)]; simp, fun i x hx => by rw [get _ _ (h.rq i x hx)]; simp, fun i j hi hj e => h.pp i j hi hj (by omega), fun i j hi hj e => h.qq i j hi hj (by omega), fun i j hi hj e => h.pq i j hi hj (by omega)⟩
/-! ### marked -/
def mkdN (x : Node) (k : Int) : Node := ⟨marks k x.vars.length, marks (k + x.vars.length) x.reach.length, k + x.vars.length + x.reach.length, k + x.vars.length + x.reach.length + 1⟩
def szM (x : Node) : Nat := x.vars.length + x.reach.length + 2
def mkdNs : List Node → Int → List Node
  | [], _ => []
  | x :: xs, k => mkdN x k :: mkdNs xs (k + szM x)
theorem mkdNs_len : ∀ (xs : List Node) (k : Int), (mkdNs xs k).length = xs.length
  | [], _ => rfl
  | x :: xs, k => by simp [mkdNs, mkdNs_len xs]
theorem mkdNs_snoc : ∀ (xs : List Node) (x : Node) (k : Int), mkdNs (xs ++ [x]) k = mkdNs xs k ++ [mkdN x (k + ((xs.map szM).sum : Nat))]
  | [], x, k => by simp [mkdNs]
  | y :: xs, x, k => by
    simp only [List.cons_append, mkdNs, mkdNs_snoc xs x, List.map_cons, List.sum_cons]
    congr 3; congr 1; omega
end Go.Vm
