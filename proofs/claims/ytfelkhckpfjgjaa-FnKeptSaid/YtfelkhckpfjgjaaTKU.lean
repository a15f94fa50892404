/- What formulas come to: in definite structures; in structures that are embedded. Plain; no condition. -/
import Derived.Test.YtfelkhckpfjgjaaTKE
import Derived.Test.YtfelkhckpfjgjaaTKMb
import Derived.Test.YtfelkhckpfjgjaaTPT
set_option linter.unusedSimpArgs false
set_option linter.unusedVariables false
namespace Go.Vm
open Go.Proofs
theorem formB_parts {v kind k u w : Int} {l : List Fm} (h : formB v (.mk kind k u w l) = true) : (∀ x ∈ l, formB v x = true) ∧ (0 ≤ u ∧ u ≤ 3) ∧ (0 ≤ w ∧ w ≤ 3) ∧ arity kind = l.length ∧ ((kind = 2 ∨ kind = 3) → 0 ≤ k ∧ k < v) := by
  unfold formB headB at h
  simp only [Bool.and_eq_true, decide_eq_true_eq, Bool.not_eq_true', Bool.or_eq_false_iff, in3_iff] at h
  obtain ⟨h1, ⟨⟨⟨h2, h3⟩, h4⟩, h5⟩, ⟨h6, h7⟩, h8⟩ := h
  refine ⟨formS_iff.1 h1, h6, h7, h8.symm, fun hk => ?_⟩
  have e : (decide (kind = 2) || decide (kind = 3)) = true := by simpa using hk
  rw [e, Bool.true_and] at h5
  simp at h5
  omega
theorem over_max {g : Nat → Int} : ∀ {n : Nat}, (∀ j, j < n → isTruth (g j) = true) → (∀ j, j < n → g j ≤ overT false n g) ∧ (overT false n g = 0 ∨ ∃ j, j < n ∧ g j = overT false n g)
  | 0, _ => ⟨fun j hj => by omega, .inl rfl⟩
  | n + 1, h => by
    obtain ⟨h1, h2⟩ := over_max (g := g) (n := n) fun j hj => h j (by omega)
    have ht := overT_truth false n g
    have hg := h n (by omega)
    rw [isTruth_iff] at ht hg
    have e : overT false (n + 1) g = if overT false n g ≤ g n then g n else overT false n g := by
      rw [overT_succ]
      unfold overOp orT
      simp [isTruth_iff, ht, hg]
    rw [e]
    refine ⟨fun j hj => ?_, ?_⟩
    · by_cases q : j = n
      · subst q; split <;> omega
      · have := h1 j (by omega); split <;> omega
    · split
      · exact .inr ⟨n, by omega, rfl⟩
      · rcases h2 with h2 | ⟨j, hj, h2⟩
        · exact .inl h2
        · exact .inr ⟨j, by omega, h2⟩
theorem over_min {g : Nat → Int} : ∀ {n : Nat}, (∀ j, j < n → isTruth (g j) = true) → (∀ j, j < n → overT true n g ≤ g j) ∧ (overT true n g = 2 ∨ ∃ j, j < n ∧ g j = overT true n g)
  | 0, _ => ⟨fun j hj => by omega, .inl rfl⟩
  | n + 1, h => by
    obtain ⟨h1, h2⟩ := over_min (g := g) (n := n) fun j hj => h j (by omega)
    have ht := overT_truth true n g
    have hg := h n (by omega)
    rw [isTruth_iff] at ht hg
    have e : overT true (n + 1) g = if overT true n g ≤ g n then overT true n g else g n := by
      rw [overT_succ]
      unfold overOp andT
      simp [isTruth_iff, ht, hg]
    rw [e]
    refine ⟨fun j hj => ?_, ?_⟩
    · by_cases q : j = n
      · subst q; split <;> omega
      · have := h1 j (by omega); split <;> omega
    · split
      · rcases h2 with h2 | ⟨j, hj, h2⟩
        · exact .inl h2
        · exact .inr ⟨j, by omega, h2⟩
      · exact .inr ⟨n, by omega, rfl⟩
theorem nodeI_nat' {s : Strc} {i : Nat} (h : i < s.nodes.length) : nodeI s (i : Int) = s.nodes[i] := by simp [nodeI, List.getD_eq_getElem?_getD, h]
theorem evalN_succ (s : Strc) (n : Nat) (f : Fm) (nodes : List Int) : evalN s (n + 1) f nodes =
    if arity f.kind = f.args.length then
      if f.kind = 8 then notT3 (evalN s n (fget f 0) nodes)
      else if f.kind = 9 then andT (evalN s n (fget f 0) nodes) (evalN s n (fget f 1) nodes)
      else if f.kind = 10 then orT (evalN s n (fget f 0) nodes) (evalN s n (fget f 1) nodes)
      else if f.kind = 11 ∨ f.kind = 12 then
        if 0 ≤ f.u ∧ f.u ≤ 3 then overT (decide (f.kind = 12)) s.nodes.length (fun i => evalN s n (fget f 0) ((pad4 nodes).set f.u.toNat (i : Nat))) else 1
      else plainT s f (nodeOf s nodes f.u) (nodeOf s nodes f.v)
    else 1 := rfl
end Go.Vm
namespace Go.Vm
open Go.Proofs
structure Emb (s t : Strc) (f : Nat → Nat) : Prop where
  lt : ∀ i, i < s.nodes.length → f i < t.nodes.length
  onto : ∀ j, j < t.nodes.length → ∃ i, i < s.nodes.length ∧ f i = j
  node : ∀ i (h : i < s.nodes.length) (h' : f i < t.nodes.length), nodeB s.nodes[i] t.nodes[f i] = true
  next : ∀ i k, i < s.nodes.length → k < s.nodes.length → withinB (nextOf s i k) (nextOf t (f i) (f k)) = true
  same : ∀ i k, i < s.nodes.length → k < s.nodes.length → f i = f k → i ≠ k → (t.nodes.getD (f i) default).many = 1
theorem emb_of {s t : Strc} {m : List Int} (h : embB s t m = true) : m.length = s.nodes.length ∧ (∀ i, i < s.nodes.length → m.getD i 0 = (((m.getD i 0).toNat : Nat) : Int)) ∧ Emb s t fun i => (m.getD i 0).toNat := by
  obtain ⟨h1, h2, h3⟩ := embB_parts h
  have hn : ∀ i, i < s.nodes.length → m.getD i 0 = (((m.getD i 0).toNat : Nat) : Int) ∧ (m.getD i 0).toNat < t.nodes.length := fun i hi => by
    obtain ⟨a, b⟩ := inN_at (h2 i (by omega)).1
    exact ⟨by omega, b⟩
  have hp : ∀ i k, i < s.nodes.length → k ≤ i → pairB s t m i k = true := fun i k hi hk => by
    have := (h2 i (by omega)).2
    unfold fitsB at this
    simp only [Bool.and_eq_true] at this
    exact List.all_eq_true.1 this.2 k (by simp; omega)
  have hpp : ∀ i k, i < s.nodes.length → k ≤ i → withinB (nextOf s i k) (nextOf t (m.getD i 0) (m.getD k 0)) = true ∧ withinB (nextOf s k i) (nextOf t (m.getD k 0) (m.getD i 0)) = true ∧ (k < i → m.getD k 0 = m.getD i 0 → (t.nodes.getD (m.getD i 0).toNat default).many = 1) := fun i k hi hk => by
    have := hp i k hi hk
    unfold pairB at this
    simp only [Bool.and_eq_true, Bool.not_eq_true', Bool.and_eq_false_iff, decide_eq_false_iff_not, Bool.not_eq_false', decide_eq_true_eq] at this
    obtain ⟨⟨a, b⟩, c⟩ := this
    refine ⟨a, b, fun g1 g2 => ?_⟩
    rcases c with (c | c) | c
    · exact absurd g1 c
    · exact absurd g2 c
    · exact c
  refine ⟨h1, fun i hi => (hn i hi).1, ⟨fun i hi => (hn i hi).2, fun j hj => ?_, fun i hi hi' => ?_, fun i k hi hk => ?_, fun i k hi hk e ne => ?_⟩⟩
  · have := List.all_eq_true.1 h3 j (by simpa using hj)
    simp only [decide_eq_true_eq] at this
    obtain ⟨i, hi, e⟩ := List.mem_iff_getElem.1 this
    refine ⟨i, by omega, ?_⟩
    have : m.getD i 0 = (j : Int) := by rw [List.getD_eq_getElem?_getD, List.getElem?_eq_getElem hi]; exact e
    simp only [this]; omega
  · have := (h2 i (by omega)).2
    unfold fitsB at this
    simp only [Bool.and_eq_true] at this
    have k := this.1
    rw [nodes_getD hi, nodes_getD hi'] at k
    exact k
  · show withinB (nextOf s i k) (nextOf t (((m.getD i 0).toNat : Nat) : Int) (((m.getD k 0).toNat : Nat) : Int)) = true
    rw [← (hn i hi).1, ← (hn k hk).1]
    by_cases q : k ≤ i
    · exact (hpp i k hi q).1
    · exact (hpp k i hk (by omega)).2.1
  · have e : (m.getD i 0).toNat = (m.getD k 0).toNat := e
    show (t.nodes.getD (m.getD i 0).toNat default).many = 1
    have e' : m.getD i 0 = m.getD k 0 := by rw [(hn i hi).1, (hn k hk).1, e]
    by_cases q : k < i
    · exact (hpp i k hi (by omega)).2.2 q e'.symm
    · have := (hpp k i hk (by omega)).2.2 (by omega) e'
      rw [e']; exact this
theorem within_iff {a b : Int} : withinB a b = true ↔ (0 ≤ a ∧ a ≤ 2) ∧ (0 ≤ b ∧ b ≤ 2) ∧ (b = 1 ∨ a = b) := by
  unfold withinB
  simp only [Bool.and_eq_true, Bool.or_eq_true, decide_eq_true_eq, isTruth_iff, and_assoc]
theorem within_not {a b : Int} (h : withinB a b = true) : withinB (notT3 a) (notT3 b) = true := by
  rw [within_iff] at h ⊢
  unfold notT3
  simp only [isTruth_iff]
  rw [if_pos (by omega), if_pos (by omega)]
  omega
theorem within_and {a b c d : Int} (h : withinB a b = true) (g : withinB c d = true) : withinB (andT a c) (andT b d) = true := by
  rw [within_iff] at h g ⊢
  unfold andT
  simp only [isTruth_iff, Bool.and_eq_true]
  have e1 : (0 ≤ a ∧ a ≤ 2) ∧ 0 ≤ c ∧ c ≤ 2 := by omega
  have e2 : (0 ≤ b ∧ b ≤ 2) ∧ 0 ≤ d ∧ d ≤ 2 := by omega
  rw [if_pos e1, if_pos e2]
  split <;> split <;> omega
theorem within_or {a b c d : Int} (h : withinB a b = true) (g : withinB c d = true) : withinB (orT a c) (orT b d) = true := by
  rw [within_iff] at h g ⊢
  unfold orT
  simp only [isTruth_iff, Bool.and_eq_true]
  have e1 : (0 ≤ a ∧ a ≤ 2) ∧ 0 ≤ c ∧ c ≤ 2 := by omega
  have e2 : (0 ≤ b ∧ b ≤ 2) ∧ 0 ≤ d ∧ d ≤ 2 := by omega
  rw [if_pos e1, if_pos e2]
  split <;> split <;> omega
theorem within_known {a b : Int} (h : withinB a b = true) : withinB (knownT a) (knownT b) = true := by
  rw [within_iff] at h ⊢
  unfold knownT
  simp only [isTruth_iff]
  rw [if_pos (by omega), if_pos (by omega)]
  omega
theorem lists_at {xs ys : List Int} (h : listsB xs ys = true) {k : Int} (h0 : 0 ≤ k) (h1 : k < xs.length) : withinB (at1 xs k) (at1 ys k) = true := by
  unfold listsB at h
  simp only [Bool.and_eq_true, decide_eq_true_eq] at h
  obtain ⟨hl, h⟩ := h
  have := List.all_eq_true.1 h k.toNat (by simp; omega)
  unfold at1
  rw [if_pos ⟨h0, h1⟩, if_pos ⟨h0, by omega⟩]
  exact this
theorem many_at {s t : Strc} {f : Nat → Nat} (E : Emb s t f) {i : Nat} (hi : i < s.nodes.length) : withinB (sameT s i) (sameT t (f i)) = true := by
  have hn := E.node i hi (E.lt i hi)
  unfold nodeB at hn
  simp only [Bool.and_eq_true] at hn
  have hm := hn.2
  rw [within_iff] at hm
  unfold sameT
  rw [show ((i : Int)).toNat = i by omega, show ((f i : Nat) : Int).toNat = f i by omega, nodes_getD hi, nodes_getD (E.lt i hi), within_iff]
  split <;> split <;> omega
theorem path_within {s t : Strc} {f : Nat → Nat} (E : Emb s t f) (ht : truthS t) {i k : Nat} (hi : i < s.nodes.length) (hk : k < s.nodes.length) : withinB (pathT s i k) (pathT t (f i) (f k)) = true := by
  have up : ∀ {p q : Nat}, Rch (edgeG t 2) p q → ∀ i k, i < s.nodes.length → k < s.nodes.length → f i = p → f k = q → Rch (edgeG s 2) i k := by
    intro p q h
    induction h with
    | one g =>
      intro i k hi hk e1 e2
      obtain ⟨g1, g2, g3⟩ := g
      have := E.next i k hi hk
      rw [e1, e2, within_iff] at this
      exact .one ⟨hi, hk, by omega⟩
    | @more x y _ g ih =>
      intro i k hi hk e1 e2
      obtain ⟨g1, g2, g3⟩ := g
      obtain ⟨j, hj, ej⟩ := E.onto x g1
      have := E.next j k hj hk
      rw [ej, e2, within_iff] at this
      exact .more (ih i j hi hj e1 ej) ⟨hj, hk, by omega⟩
  have down : ∀ {i k : Nat}, i < s.nodes.length → Rch (edgeG s 1) i k → Rch (edgeG t 1) (f i) (f k) := by
    intro i k hi h
    have st : ∀ {x y : Nat}, edgeG s 1 x y → edgeG t 1 (f x) (f y) := fun {x y} ⟨a, b, c⟩ => by
      have := E.next x y a b
      rw [within_iff] at this
      exact ⟨E.lt x a, E.lt y b, by omega⟩
    induction h with
    | one g => exact .one (st g)
    | more _ g ih => exact .more ih (st g)
  have t1 := pathT_truth s i k
  have t2 := pathT_truth t (f i) (f k)
  rw [isTruth_iff] at t1 t2
  rw [within_iff]
  refine ⟨t1, t2, ?_⟩
  have hs1 := many_at E hi
  rw [within_iff] at hs1
  have ev : ∀ (x : Strc) (a b : Nat), a < x.nodes.length → b < x.nodes.length → pathT x a b = if rchB x 2 a b = true then 2 else if (a : Int) = b ∧ sameT x a = 2 then 2 else if rchB x 1 a b = true then 1 else if (a : Int) = b then 1 else 0 := fun x a b ha hb => by
    unfold pathT
    rw [if_pos ⟨⟨by omega, by omega⟩, ⟨by omega, by omega⟩⟩]
    simp only [Int.toNat_natCast]
  rw [ev s i k hi hk, ev t (f i) (f k) (E.lt i hi) (E.lt k hk)]
  by_cases a2 : rchB t 2 (f i) (f k) = true
  · rw [if_pos a2]
    rw [rchB_iff] at a2
    rw [if_pos (by rw [rchB_iff]; exact up a2 i k hi hk rfl rfl)]
    exact .inr rfl
  rw [if_neg a2]
  by_cases a3 : ((f i : Nat) : Int) = (f k : Nat) ∧ sameT t (f i) = 2
  · rw [if_pos a3]
    have ik : i = k := Classical.byContradiction fun hne => by
      have := E.same i k hi hk (by omega) hne
      have h2 := a3.2
      unfold sameT at h2
      rw [show ((f i : Nat) : Int).toNat = f i by omega, if_neg (by omega)] at h2
      omega
    subst ik
    have : sameT s i = 2 := by omega
    split
    · exact .inr rfl
    · rw [if_pos ⟨rfl, this⟩]; exact .inr rfl
  rw [if_neg a3]
  by_cases a1 : rchB t 1 (f i) (f k) = true
  · rw [if_pos a1]; exact .inl rfl
  rw [if_neg a1]
  by_cases a4 : ((f i : Nat) : Int) = (f k : Nat)
  · rw [if_pos a4]; exact .inl rfl
  rw [if_neg a4]
  right
  have n1 : ¬ rchB s 1 i k = true := fun h => a1 (by rw [rchB_iff] at h ⊢; exact down hi h)
  have n2 : ¬ rchB s 2 i k = true := fun h => n1 (by rw [rchB_iff] at h ⊢; exact rch_mono (by omega) h)
  have n3 : ¬ (i : Int) = k := fun h => a4 (by have : i = k := by omega
                                               subst this; rfl)
  rw [if_neg n2, if_neg (fun h => n3 h.1), if_neg n1, if_neg n3]
def relN (s : Strc) (f : Nat → Nat) (a b : List Int) : Prop := a.length = b.length ∧ ∀ j : Nat, j < a.length → (a.getD j 0 = -1 ∧ b.getD j 0 = -1) ∨ ∃ i : Nat, i < s.nodes.length ∧ a.getD j 0 = i ∧ b.getD j 0 = f i
theorem relN_pad {s : Strc} {f : Nat → Nat} {a b : List Int} (h : relN s f a b) : relN s f (pad4 a) (pad4 b) := by
  obtain ⟨h1, h2⟩ := h
  refine ⟨by simp, fun j hj => ?_⟩
  have hj : j < 4 := by simpa using hj
  have pg : ∀ l : List Int, (pad4 l).getD j 0 = if j < l.length then l.getD j 0 else -1 := fun l => by
    unfold pad4
    simp only [List.getD_eq_getElem?_getD]
    by_cases q : j < l.length
    · rw [if_pos q, List.getElem?_append_left (by simp; omega), List.getElem?_take, if_pos hj]
    · rw [if_neg q, List.getElem?_append_right (by simp; omega), List.getElem?_drop]
      have e : min l.length 4 + (j - (l.take 4).length) = j := by simp; omega
      rw [e]
      have : j = 0 ∨ j = 1 ∨ j = 2 ∨ j = 3 := by omega
      rcases this with rfl | rfl | rfl | rfl <;> rfl
  rw [pg, pg, ← h1]
  by_cases q : j < a.length
  · rw [if_pos q, if_pos q]; exact h2 j q
  · rw [if_neg q, if_neg q]; exact .inl ⟨rfl, rfl⟩
theorem relN_set {s : Strc} {f : Nat → Nat} {a b : List Int} (h : relN s f a b) {i : Nat} (hi : i < s.nodes.length) (u : Nat) : relN s f (a.set u (i : Int)) (b.set u ((f i : Nat) : Int)) := by
  obtain ⟨h1, h2⟩ := h
  refine ⟨by simpa using h1, fun j hj => ?_⟩
  have hj : j < a.length := by simpa using hj
  have sg : ∀ (l : List Int) (x : Int), j < l.length → (l.set u x).getD j 0 = if u = j then x else l.getD j 0 := fun l x hl => by
    simp only [List.getD_eq_getElem?_getD]
    by_cases q : u = j
    · subst q; rw [List.getElem?_set_self hl, if_pos rfl]; rfl
    · rw [List.getElem?_set_ne q, if_neg q]
  rw [sg a _ hj, sg b _ (by omega)]
  by_cases q : u = j
  · rw [if_pos q, if_pos q]; exact .inr ⟨i, hi, rfl, rfl⟩
  · rw [if_neg q, if_neg q]; exact h2 j hj
theorem relN_at {s t : Strc} {f : Nat → Nat} (E : Emb s t f) {a b : List Int} (h : relN s f a b) (u : Int) : (nodeOf s a u = -1 ∧ nodeOf t b u = -1) ∨ ∃ i : Nat, i < s.nodes.length ∧ nodeOf s a u = i ∧ nodeOf t b u = f i := by
  obtain ⟨h1, h2⟩ := h
  unfold nodeOf
  by_cases q : 0 ≤ u ∧ u ≤ 3 ∧ u < a.length
  · rcases h2 u.toNat (by omega) with ⟨e1, e2⟩ | ⟨i, hi, e1, e2⟩
    · rw [e1, e2]
      left
      exact ⟨by split <;> rfl, by split <;> rfl⟩
    · rw [e1, e2]
      have := E.lt i hi
      rw [if_pos ⟨q.1, q.2.1, q.2.2, ⟨by omega, by omega⟩⟩, if_pos ⟨q.1, q.2.1, by omega, ⟨by omega, by omega⟩⟩]
      exact .inr ⟨i, hi, rfl, rfl⟩
  · left
    rw [if_neg fun h => q ⟨h.1, h.2.1, h.2.2.1⟩, if_neg fun h => q ⟨h.1, h.2.1, by omega⟩]
    exact ⟨rfl, rfl⟩
theorem over_within {s t : Strc} {f : Nat → Nat} (E : Emb s t f) {g g' : Nat → Int} (hg : ∀ i, i < s.nodes.length → withinB (g i) (g' (f i)) = true) (hr : ∀ i, isTruth (g i) = true) (hr' : ∀ i, isTruth (g' i) = true) (all : Bool) :
    withinB (overT all s.nodes.length g) (overT all t.nodes.length g') = true := by
  have t1 := overT_truth all s.nodes.length g
  have t2 := overT_truth all t.nodes.length g'
  rw [isTruth_iff] at t1 t2
  rw [within_iff]
  refine ⟨t1, t2, ?_⟩
  have w : ∀ i, i < s.nodes.length → (0 ≤ g i ∧ g i ≤ 2) ∧ (0 ≤ g' (f i) ∧ g' (f i) ≤ 2) ∧ (g' (f i) = 1 ∨ g i = g' (f i)) := fun i hi => within_iff.1 (hg i hi)
  cases all
  · obtain ⟨a1, a2⟩ := over_max (n := s.nodes.length) (g := g) fun j _ => hr j
    obtain ⟨b1, b2⟩ := over_max (n := t.nodes.length) (g := g') fun j _ => hr' j
    generalize overT false s.nodes.length g = V at *
    generalize overT false t.nodes.length g' = W at *
    by_cases q : W = 1
    · exact .inl q
    right
    rcases b2 with b2 | ⟨j, hj, b2⟩
    · rcases a2 with a2 | ⟨i, hi, a2⟩
      · omega
      · have := w i hi
        have := b1 (f i) (E.lt i hi)
        omega
    · obtain ⟨i, hi, e⟩ := E.onto j hj
      subst e
      have h3 := w i hi
      have h4 := a1 i hi
      rcases a2 with a2 | ⟨k, hk, a2⟩
      · omega
      · have h5 := w k hk
        have h6 := b1 (f k) (E.lt k hk)
        omega
  · obtain ⟨a1, a2⟩ := over_min (n := s.nodes.length) (g := g) fun j _ => hr j
    obtain ⟨b1, b2⟩ := over_min (n := t.nodes.length) (g := g') fun j _ => hr' j
    generalize overT true s.nodes.length g = V at *
    generalize overT true t.nodes.length g' = W at *
    by_cases q : W = 1
    · exact .inl q
    right
    rcases b2 with b2 | ⟨j, hj, b2⟩
    · rcases a2 with a2 | ⟨i, hi, a2⟩
      · omega
      · have := w i hi
        have := b1 (f i) (E.lt i hi)
        omega
    · obtain ⟨i, hi, e⟩ := E.onto j hj
      subst e
      have h3 := w i hi
      have h4 := a1 i hi
      rcases a2 with a2 | ⟨k, hk, a2⟩
      · omega
      · have h5 := w k hk
        have h6 := b1 (f k) (E.lt k hk)
        omega
theorem eval_within {v : Int} {s t : Strc} {f : Nat → Nat} (hs : structB v s = true) (ht : structB v t = true) (E : Emb s t f) : ∀ (m : Nat) (x : Fm) (a b : List Int), x.size ≤ m → formB v x = true → relN s f a b → withinB (evalN s m x a) (evalN t m x b) = true
  | 0, x, _, _, h, _, _ => by rw [size_eq] at h; omega
  | m + 1, .mk kind k u w l, a, b, h, hf, hg => by
    obtain ⟨f1, f2, f3, f4, f5⟩ := formB_parts hf
    have hsz : sizes l ≤ m := by simp only [Fm.size] at h; omega
    have sub : ∀ j (hj : j < l.length) a b, relN s f a b → withinB (evalN s m l[j] a) (evalN t m l[j] b) = true := fun j hj a b hab => eval_within hs ht E m l[j] a b (by have := size_mem (xs := l) hj; omega) (f1 _ (List.getElem_mem hj)) hab
    have fg : ∀ j (hj : j < l.length), fget (.mk kind k u w l) j = l[j] := fun j hj => by simp [fget, List.getD_eq_getElem?_getD, hj]
    have f4' : arity (Fm.mk kind k u w l).kind = (Fm.mk kind k u w l).args.length := f4
    rw [evalN_succ s m (.mk kind k u w l) a, evalN_succ t m (.mk kind k u w l) b, if_pos f4', if_pos f4']
    change withinB (if kind = 8 then _ else if kind = 9 then _ else if kind = 10 then _ else if kind = 11 ∨ kind = 12 then (if 0 ≤ u ∧ u ≤ 3 then overT (decide (kind = 12)) s.nodes.length (fun i => evalN s m (fget (.mk kind k u w l) 0) ((pad4 a).set u.toNat (i : Nat))) else 1) else plainT s (.mk kind k u w l) (nodeOf s a u) (nodeOf s a w))
      (if kind = 8 then _ else if kind = 9 then _ else if kind = 10 then _ else if kind = 11 ∨ kind = 12 then (if 0 ≤ u ∧ u ≤ 3 then overT (decide (kind = 12)) t.nodes.length (fun i => evalN t m (fget (.mk kind k u w l) 0) ((pad4 b).set u.toNat (i : Nat))) else 1) else plainT t (.mk kind k u w l) (nodeOf t b u) (nodeOf t b w)) = true
    rcases arity_cases f4 with ⟨a1, a2, a3⟩ | ⟨rfl, a3⟩ | ⟨rfl, a3⟩ | ⟨rfl, a3⟩ | ⟨rfl, a3⟩ | ⟨rfl, a3⟩
    · have k8 : ¬ kind = 8 := by omega
      have k9 : ¬ kind = 9 := by omega
      have k10 : ¬ kind = 10 := by omega
      have k11 : ¬ (kind = 11 ∨ kind = 12) := by omega
      simp only [if_neg k8, if_neg k9, if_neg k10, if_neg k11]
      have pe : ∀ (z : Strc) (i j : Int), plainT z (.mk kind k u w l) i j = if kind = 1 then (2 : Int) else if kind ≤ 4 then knownT (if i < 0 then 1 else if kind = 2 then at1 (nodeI z i).vars k else if kind = 3 then at1 (nodeI z i).reach k else (nodeI z i).shared) else knownT (if i < 0 ∨ j < 0 then 1 else if kind = 5 then nextOf z i j else if kind = 7 then pathT z i j else if i = j then sameT z i else 0) := fun _ _ _ => rfl
      rw [pe, pe]
      by_cases k1 : kind = 1
      · rw [if_pos k1, if_pos k1]; rfl
      rw [if_neg k1, if_neg k1]
      by_cases k4 : kind ≤ 4
      · rw [if_pos k4, if_pos k4]
        refine within_known ?_
        rcases relN_at E hg u with ⟨e1, e2⟩ | ⟨i, hi, e1, e2⟩
        · rw [e1, e2]; rfl
        · have i0 : ¬ (i : Int) < 0 := by omega
          have i1 : ¬ ((f i : Nat) : Int) < 0 := by omega
          rw [e1, e2, if_neg i0, if_neg i1, nodeI_nat' hi, nodeI_nat' (E.lt i hi)]
          have hn := E.node i hi (E.lt i hi)
          unfold nodeB at hn
          simp only [Bool.and_eq_true] at hn
          obtain ⟨⟨⟨n1, n2⟩, n3⟩, n4⟩ := hn
          obtain ⟨⟨b1, b2⟩, -⟩ := structB_node hs hi
          by_cases k2 : kind = 2
          · rw [if_pos k2, if_pos k2]
            exact lists_at n1 (f5 (.inl k2)).1 (by have := (f5 (.inl k2)).2; omega)
          rw [if_neg k2, if_neg k2]
          by_cases k3 : kind = 3
          · rw [if_pos k3, if_pos k3]
            exact lists_at n2 (f5 (.inr k3)).1 (by have := (f5 (.inr k3)).2; omega)
          rw [if_neg k3, if_neg k3]
          exact n3
      · rw [if_neg k4, if_neg k4]
        refine within_known ?_
        rcases relN_at E hg u with ⟨e1, e2⟩ | ⟨i, hi, e1, e2⟩
        · have n0 : ∀ z : Int, ((-1 : Int) < 0 ∨ z < 0) := fun _ => .inl (by omega)
          rw [e1, e2, if_pos (n0 _), if_pos (n0 _)]; rfl
        rcases relN_at E hg w with ⟨e3, e4⟩ | ⟨j, hj, e3, e4⟩
        · have n0 : ∀ z : Int, (z < 0 ∨ (-1 : Int) < 0) := fun _ => .inr (by omega)
          rw [e3, e4, if_pos (n0 _), if_pos (n0 _)]; rfl
        have p1 : ¬ ((i : Int) < 0 ∨ (j : Int) < 0) := by omega
        have p2 : ¬ (((f i : Nat) : Int) < 0 ∨ ((f j : Nat) : Int) < 0) := by omega
        rw [e1, e2, e3, e4, if_neg p1, if_neg p2]
        by_cases k5 : kind = 5
        · rw [if_pos k5, if_pos k5]; exact E.next i j hi hj
        rw [if_neg k5, if_neg k5]
        by_cases k7 : kind = 7
        · rw [if_pos k7, if_pos k7]; exact path_within E (structB_truth ht) hi hj
        rw [if_neg k7, if_neg k7]
        by_cases ij : i = j
        · subst ij
          rw [if_pos rfl, if_pos rfl]; exact many_at E hi
        rw [if_neg (show ¬ (i : Int) = j by omega)]
        by_cases fe : f i = f j
        · rw [if_pos (show ((f i : Nat) : Int) = (f j : Nat) by omega)]
          have := E.same i j hi hj fe ij
          unfold sameT
          rw [show ((f i : Nat) : Int).toNat = f i by omega, if_neg (by omega)]; rfl
        · rw [if_neg (show ¬ ((f i : Nat) : Int) = (f j : Nat) by omega)]; rfl
    · simp only [reduceIte, fg 0 (show 0 < l.length by omega)]
      exact within_not (sub 0 (by omega) _ _ hg)
    · simp only [Int.reduceEq, reduceIte, fg 0 (show 0 < l.length by omega), fg 1 (show 1 < l.length by omega)]
      exact within_and (sub 0 (by omega) _ _ hg) (sub 1 (by omega) _ _ hg)
    · simp only [Int.reduceEq, reduceIte, fg 0 (show 0 < l.length by omega), fg 1 (show 1 < l.length by omega)]
      exact within_or (sub 0 (by omega) _ _ hg) (sub 1 (by omega) _ _ hg)
    · simp only [Int.reduceEq, reduceIte, true_or, f2, and_self, fg 0 (show 0 < l.length by omega)]
      refine over_within E (fun i hi => ?_) (fun i => evalN_truth _ _ _ _) (fun i => evalN_truth _ _ _ _) _
      exact sub 0 (by omega) _ _ (relN_set (relN_pad hg) hi _)
    · simp only [Int.reduceEq, reduceIte, or_true, f2, and_self, fg 0 (show 0 < l.length by omega)]
      refine over_within E (fun i hi => ?_) (fun i => evalN_truth _ _ _ _) (fun i => evalN_truth _ _ _ _) _
      exact sub 0 (by omega) _ _ (relN_set (relN_pad hg) hi _)
end Go.Vm
