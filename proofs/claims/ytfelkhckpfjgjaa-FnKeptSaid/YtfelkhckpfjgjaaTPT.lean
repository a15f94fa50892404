/- spec.l12Copy, spec.DrawEqualStructure. No condition. -/
import Derived.Test.YtfelkhckpfjgjaaTGM
import Derived.Test.YtfelkhckpfjgjaaTEV
set_option linter.unusedSimpArgs false
set_option linter.unusedVariables false
namespace Go.Vm
open Go.Proofs
theorem bent12_sz (c : Cur) : szStrc (bent12 c).2 ≤ 1048576 ∧ (bent12 c).2.nodes.length ≤ 10 := by
  obtain ⟨h, -⟩ := d12_sh c
  have hsum : ∀ l : List Node, (∀ x ∈ l, szNode x ≤ 6) → (l.map szNode).sum ≤ l.length * 6 := by
    intro l
    induction l with
    | nil => intro _; simp
    | cons x xs ih =>
      intro hl
      have := ih fun y hy => hl y (by simp [hy])
      have := hl x (by simp)
      simp only [List.map_cons, List.sum_cons, List.length_cons]
      omega
  have h6 : ∀ x ∈ (d12 c).2.nodes, szNode x ≤ 6 := fun x hx => by
    obtain ⟨a, b⟩ := h.r x hx
    have : szNode x = x.vars.length + x.reach.length := rfl
    omega
  have h25 := (sh12_sz h).2
  have h5 := h.n
  have fin : ∀ s : Strc, s.nodes.length ≤ 5 → s.next.length ≤ 26 → (∀ x ∈ s.nodes, szNode x ≤ 6) → szStrc s ≤ 1048576 ∧ s.nodes.length ≤ 10 := fun s a b d => by
    have e1 := hsum _ d
    have e2 : szStrc s = szNodes s.nodes + s.next.length := rfl
    have e3 : szNodes s.nodes = s.nodes.length + (s.nodes.map szNode).sum := rfl
    omega
  have hset : ∀ (f : Node → Node), (∀ y, szNode (f y) ≤ szNode y) → szStrc (setN (d12 c).2 0 f) ≤ 1048576 ∧ (setN (d12 c).2 0 f).nodes.length ≤ 10 := fun f hf => by
    obtain ⟨e1, e2⟩ := setN_len (d12 c).2 0 f
    refine fin _ (by omega) (by rw [e2]; omega) fun x hx => ?_
    unfold setN at hx
    split at hx
    · rcases List.mem_or_eq_of_mem_set hx with hx | hx
      · exact h6 x hx
      · subst hx
        exact Nat.le_trans (hf _) (h6 _ (List.getElem_mem _))
    · exact h6 x hx
  unfold bent12
  split
  · exact fin _ h5 (by simp; omega) h6
  split
  · exact fin (d12 c).2 h5 (by omega) h6
  split
  · exact hset _ fun y => Nat.le_refl _
  split
  · exact hset _ fun y => by simp [szNode]
  split
  · exact hset _ fun y => by simp [szNode]
  · exact fin (d12 c).2 h5 (by omega) h6
end Go.Vm
namespace Go.Vm
open Go.Proofs
inductive Rch (e : Nat → Nat → Prop) (i : Nat) : Nat → Prop where
  | one {y : Nat} (h : e i y) : Rch e i y
  | more {x y : Nat} (h : Rch e i x) (g : e x y) : Rch e i y
def edgeG (s : Strc) (v : Int) (x y : Nat) : Prop := x < s.nodes.length ∧ y < s.nodes.length ∧ v ≤ nextOf s x y
theorem rch_lt {s : Strc} {v : Int} {i j : Nat} (h : Rch (edgeG s v) i j) : j < s.nodes.length := by
  cases h with
  | one h => exact h.2.1
  | more _ g => exact g.2.1
noncomputable def rchB (s : Strc) (v : Int) (i j : Nat) : Bool := @decide (Rch (edgeG s v) i j) (Classical.propDecidable _)
theorem rchB_iff {s : Strc} {v : Int} {i j : Nat} : (rchB s v i j = true) = Rch (edgeG s v) i j := by unfold rchB; exact propext (@decide_eq_true_iff _ (Classical.propDecidable _))
theorem rchB_not {s : Strc} {v : Int} {i j : Nat} : (rchB s v i j = false) = ¬ Rch (edgeG s v) i j := by unfold rchB; exact propext (@decide_eq_false_iff_not _ (Classical.propDecidable _))
theorem rch_mono {s : Strc} {v v' : Int} (hv : v ≤ v') {i j : Nat} (h : Rch (edgeG s v') i j) : Rch (edgeG s v) i j := by
  induction h with
  | one h => exact .one ⟨h.1, h.2.1, by have := h.2.2; omega⟩
  | more _ g ih => exact .more ih ⟨g.1, g.2.1, by have := g.2.2; omega⟩
noncomputable def pathT (s : Strc) (i j : Int) : Int :=
  if inN s i ∧ inN s j then
    if rchB s 2 i.toNat j.toNat = true then 2
    else if i = j ∧ sameT s i = 2 then 2
    else if rchB s 1 i.toNat j.toNat = true then 1
    else if i = j then 1 else 0
  else 1
theorem pathT_truth (s : Strc) (i j : Int) : isTruth (pathT s i j) = true := by
  unfold pathT
  (repeat' split) <;> simp [isTruth]
def mx (a b : Int) : Int := if a ≤ b then b else a
def mn (a b : Int) : Int := if a ≤ b then a else b
def upd1 (s : Strc) (a b : Nat) (best : List Int) : List Int := best.set b (mx (best.getD b 0) (mn (best.getD a 0) (nextOf s a b)))
def updB (s : Strc) (a : Nat) : Nat → List Int → List Int
  | 0, best => best
  | b + 1, best => upd1 s a b (updB s a b best)
def updA (s : Strc) : Nat → List Int → List Int
  | 0, best => best
  | a + 1, best => updB s a s.nodes.length (updA s a best)
def rounds (s : Strc) : Nat → List Int → List Int
  | 0, best => best
  | r + 1, best => updA s s.nodes.length (rounds s r best)
def best0 (s : Strc) (i : Nat) (n : Nat) : List Int := (List.range n).map fun b => nextOf s i (b : Nat)
def rowT0 (s : Strc) (i : Nat) : List Int := rounds s s.nodes.length (best0 s i s.nodes.length)
def rowP (s : Strc) (i : Nat) : List Int := (rowT0 s i).set i (mx ((rowT0 s i).getD i 0) (sameT s i))
@[simp] theorem upd1_len (s : Strc) (a b : Nat) (l : List Int) : (upd1 s a b l).length = l.length := by simp [upd1]
@[simp] theorem updB_len (s : Strc) (a : Nat) : ∀ (b : Nat) (l : List Int), (updB s a b l).length = l.length
  | 0, _ => rfl
  | b + 1, l => by simp [updB, updB_len s a b l]
@[simp] theorem updA_len (s : Strc) : ∀ (a : Nat) (l : List Int), (updA s a l).length = l.length
  | 0, _ => rfl
  | a + 1, l => by simp [updA, updA_len s a l]
@[simp] theorem rounds_len (s : Strc) : ∀ (r : Nat) (l : List Int), (rounds s r l).length = l.length
  | 0, _ => rfl
  | r + 1, l => by simp [rounds, rounds_len s r l]
@[simp] theorem best0_len (s : Strc) (i n : Nat) : (best0 s i n).length = n := by simp [best0]
theorem best0_succ (s : Strc) (i n : Nat) : best0 s i (n + 1) = best0 s i n ++ [nextOf s i (n : Nat)] := by simp [best0, List.range_succ]
@[simp] theorem rowT0_len (s : Strc) (i : Nat) : (rowT0 s i).length = s.nodes.length := by simp [rowT0]
@[simp] theorem rowP_len (s : Strc) (i : Nat) : (rowP s i).length = s.nodes.length := by simp [rowP]
def At (v : Int) (l : List Int) (b : Nat) : Prop := b < l.length ∧ v ≤ l.getD b 0
theorem at_upd {s : Strc} {v : Int} {a b : Nat} {l : List Int} (c : Nat) (ha : a < l.length) : At v (upd1 s a b l) c ↔ At v l c ∨ (c = b ∧ b < l.length ∧ At v l a ∧ v ≤ nextOf s a b) := by
  unfold At upd1
  simp only [List.length_set]
  by_cases hcb : b = c
  · subst hcb
    by_cases hb : b < l.length
    · simp only [List.getD_eq_getElem?_getD, List.getElem?_set_self hb, Option.getD_some, hb, ha, true_and]
      unfold mx mn
      constructor
      · intro h
        (repeat' split at h) <;> omega
      · intro h
        (repeat' split) <;> omega
    · simp [hb]
  · simp only [List.getD_eq_getElem?_getD, List.getElem?_set_ne hcb]
    constructor
    · intro h; exact .inl h
    · rintro (h | h)
      · exact h
      · exact absurd h.1.symm hcb
theorem at_sound {s : Strc} {v : Int} {i : Nat} {l : List Int} (hl : l.length = s.nodes.length) (h : ∀ c, At v l c → Rch (edgeG s v) i c) {a b : Nat} (ha : a < s.nodes.length) :
    ∀ c, At v (upd1 s a b l) c → Rch (edgeG s v) i c := by
  intro c hc
  rcases (at_upd c (by omega)).1 hc with hc | ⟨rfl, hb, h1, h2⟩
  · exact h c hc
  · exact .more (h a h1) ⟨ha, by omega, h2⟩
theorem updB_sound {s : Strc} {v : Int} {i a : Nat} (ha : a < s.nodes.length) : ∀ (b : Nat) {l : List Int}, l.length = s.nodes.length → (∀ c, At v l c → Rch (edgeG s v) i c) → ∀ c, At v (updB s a b l) c → Rch (edgeG s v) i c
  | 0, _, _, h => h
  | b + 1, l, hl, h => at_sound (by simp [hl]) (updB_sound ha b hl h) ha
theorem updA_sound {s : Strc} {v : Int} {i : Nat} : ∀ (a : Nat), a ≤ s.nodes.length → ∀ {l : List Int}, l.length = s.nodes.length → (∀ c, At v l c → Rch (edgeG s v) i c) → ∀ c, At v (updA s a l) c → Rch (edgeG s v) i c
  | 0, _, _, _, h => h
  | a + 1, ha, l, hl, h => updB_sound (by omega) _ (by simp [hl]) (updA_sound a (by omega) hl h)
theorem rounds_sound {s : Strc} {v : Int} {i : Nat} : ∀ (r : Nat) {l : List Int}, l.length = s.nodes.length → (∀ c, At v l c → Rch (edgeG s v) i c) → ∀ c, At v (rounds s r l) c → Rch (edgeG s v) i c
  | 0, _, _, h => h
  | r + 1, l, hl, h => updA_sound _ (Nat.le_refl _) (by simp [hl]) (rounds_sound r hl h)
theorem updB_mono {s : Strc} {v : Int} {a : Nat} : ∀ (b : Nat) {l : List Int}, a < l.length → ∀ c, At v l c → At v (updB s a b l) c
  | 0, _, _, _, h => h
  | b + 1, l, ha, c, h => (at_upd c (by simpa using ha)).2 (.inl (updB_mono b ha c h))
theorem updB_hit {s : Strc} {v : Int} {a : Nat} : ∀ (b : Nat) {l : List Int}, a < l.length → At v l a → ∀ c, c < b → c < l.length → v ≤ nextOf s a c → At v (updB s a b l) c
  | 0, _, _, _, c, hc, _, _ => by omega
  | b + 1, l, ha, h, c, hc, hl, hv => by
    refine (at_upd c (by simpa using ha)).2 ?_
    by_cases e : c = b
    · subst e; exact .inr ⟨rfl, by simpa using hl, updB_mono c ha a h, hv⟩
    · exact .inl (updB_hit b ha h c (by omega) hl hv)
theorem updA_mono {s : Strc} {v : Int} : ∀ (a : Nat) {l : List Int}, a ≤ l.length → ∀ c, At v l c → At v (updA s a l) c
  | 0, _, _, _, h => h
  | a + 1, l, ha, c, h => updB_mono _ (by simp; omega) c (updA_mono a (by omega) c h)
theorem updA_hit {s : Strc} {v : Int} : ∀ (n : Nat) {l : List Int}, n ≤ l.length → l.length = s.nodes.length → ∀ a, a < n → At v l a → ∀ c, c < l.length → v ≤ nextOf s a c → At v (updA s n l) c
  | 0, _, _, _, a, ha, _, _, _, _ => by omega
  | n + 1, l, hn, hl, a, ha, h, c, hc, hv => by
    by_cases e : a = n
    · subst e; exact updB_hit _ (by simp; omega) (updA_mono a (by omega) a h) c (by omega) (by simpa using hc) hv
    · exact updB_mono _ (by simp; omega) c (updA_hit n (by omega) hl a (by omega) h c hc hv)
theorem rounds_mono {s : Strc} {v : Int} : ∀ (r : Nat) {l : List Int}, l.length = s.nodes.length → ∀ c, At v l c → At v (rounds s r l) c
  | 0, _, _, _, h => h
  | r + 1, l, hl, c, h => updA_mono _ (by simp [hl]) c (rounds_mono r hl c h)
noncomputable def atB (v : Int) (l : List Int) (c : Nat) : Bool := @decide (At v l c) (Classical.propDecidable _)
theorem atB_iff {v : Int} {l : List Int} {c : Nat} : atB v l c = true ↔ At v l c := by unfold atB; exact @decide_eq_true_iff _ (Classical.propDecidable _)
noncomputable def many (v : Int) (l : List Int) : Nat := (List.range l.length).countP (atB v l)
theorem countP_lt {α : Type} {p q : α → Bool} : ∀ {l : List α}, (∀ x ∈ l, p x = true → q x = true) → (∃ x ∈ l, p x = false ∧ q x = true) → l.countP p < l.countP q
  | [], _, h => by obtain ⟨x, hx, _⟩ := h; cases hx
  | a :: l, h, g => by
    obtain ⟨x, hx, h1, h2⟩ := g
    rw [List.countP_cons, List.countP_cons]
    have hle : l.countP p ≤ l.countP q := List.countP_mono_left fun y hy k => h y (by simp [hy]) k
    rcases List.mem_cons.1 hx with rfl | hx
    · simp [h1, h2]; omega
    · have := countP_lt (l := l) (fun y hy k => h y (by simp [hy]) k) ⟨x, hx, h1, h2⟩
      have h3 := h a (by simp)
      cases hp : p a
      · simp; omega
      · simp [h3 hp]; omega
theorem many_lt {v : Int} {l l' : List Int} (hl : l.length = l'.length) (h : ∀ c, At v l c → At v l' c) {b : Nat} (h1 : ¬ At v l b) (h2 : At v l' b) : many v l < many v l' := by
  unfold many
  rw [hl]
  refine countP_lt (fun x _ k => atB_iff.2 (h x (atB_iff.1 k))) ⟨b, by simpa using h2.1, ?_, atB_iff.2 h2⟩
  cases c : atB v l b
  · rfl
  · exact absurd (atB_iff.1 c) h1
theorem many_full {v : Int} {l : List Int} (h : l.length ≤ many v l) : ∀ c, c < l.length → At v l c := by
  intro c hc
  by_cases g : At v l c
  · exact g
  · exfalso
    have : many v l < (List.range l.length).countP (fun _ => true) := by
      unfold many
      refine countP_lt (fun _ _ _ => rfl) ⟨c, by simpa using hc, ?_, rfl⟩
      cases e : atB v l c
      · rfl
      · exact absurd (atB_iff.1 e) g
    simp at this
    omega
theorem rounds_found {s : Strc} {v : Int} {i : Nat} {l : List Int} (hl : l.length = s.nodes.length) (h0 : ∀ c, edgeG s v i c → At v l c) (hs : ∀ c, At v l c → Rch (edgeG s v) i c) :
    ∀ r, (∀ c, Rch (edgeG s v) i c → At v (rounds s r l) c) ∨ r ≤ many v (rounds s r l)
  | 0 => .inr (by omega)
  | r + 1 => by
    by_cases g : ∀ c, Rch (edgeG s v) i c → At v (rounds s r l) c
    · exact .inl fun c hc => updA_mono _ (by simp [hl]) c (g c hc)
    · right
      have hr : r ≤ many v (rounds s r l) := by
        rcases rounds_found hl h0 hs r with h | h
        · exact absurd h g
        · exact h
      have hnot : ∃ a b, At v (rounds s r l) a ∧ edgeG s v a b ∧ ¬ At v (rounds s r l) b := by
        refine Classical.byContradiction fun hno => g fun c hc => ?_
        induction hc with
        | one h => exact rounds_mono r hl _ (h0 _ h)
        | @more x y _ e ih =>
          exact Classical.byContradiction fun hny => hno ⟨x, y, ih, e, hny⟩
      obtain ⟨a, b, h1, h2, h3⟩ := hnot
      have h4 : At v (rounds s (r + 1) l) b := updA_hit _ (by simp [hl]) (by simp [hl]) a h2.1 h1 b (by simp [hl]; exact h2.2.1) h2.2.2
      have := many_lt (v := v) (l := rounds s r l) (l' := rounds s (r + 1) l) (by simp) (fun c hc => updA_mono _ (by simp [hl]) c hc) h3 h4
      omega
theorem rowT0_at {s : Strc} {v : Int} {i : Nat} (hi : i < s.nodes.length) (c : Nat) : At v (rowT0 s i) c ↔ Rch (edgeG s v) i c := by
  have hl : (best0 s i s.nodes.length).length = s.nodes.length := by simp
  have hb : ∀ c, c < s.nodes.length → (best0 s i s.nodes.length).getD c 0 = nextOf s i (c : Nat) := by
    intro c hc
    simp [best0, List.getD_eq_getElem?_getD, hc]
  have h0 : ∀ c, edgeG s v i c → At v (best0 s i s.nodes.length) c := fun c h => ⟨by simpa using h.2.1, by rw [hb c h.2.1]; exact h.2.2⟩
  have hs : ∀ c, At v (best0 s i s.nodes.length) c → Rch (edgeG s v) i c := fun c h => by
    have h1 : c < s.nodes.length := by simpa using h.1
    have h2 := h.2
    rw [hb c h1] at h2
    exact .one ⟨hi, h1, h2⟩
  constructor
  · exact rounds_sound _ hl hs c
  · intro h
    rcases rounds_found hl h0 hs s.nodes.length with g | g
    · exact g c h
    · exact many_full (by rw [rowT0_len]; exact g) c (by rw [rowT0_len]; exact rch_lt h)
theorem at_val {l : List Int} {c : Nat} (hc : c < l.length) (h : isTruth (l.getD c 0) = true) : l.getD c 0 = if atB 2 l c = true then 2 else if atB 1 l c = true then 1 else 0 := by
  rw [isTruth_iff] at h
  have e : ∀ v, (atB v l c = true) = (v ≤ l.getD c 0) := fun v => propext (atB_iff.trans ⟨fun g => g.2, fun g => ⟨hc, g⟩⟩)
  simp only [e]
  (repeat' split) <;> omega
def truthS (s : Strc) : Prop := ∀ x ∈ s.next, isTruth x = true
theorem nextOf_truth {s : Strc} (h : truthS s) (i j : Int) : isTruth (nextOf s i j) = true := by
  unfold nextOf
  split
  · rename_i g
    rw [List.getD_eq_getElem?_getD]
    cases e : s.next[(i * s.nodes.length + j).toNat]? with
    | none => simp [isTruth]
    | some v => simpa using h v (List.mem_of_getElem? e)
  · simp [isTruth]
theorem mx_truth {a b : Int} (h : isTruth a = true) (g : isTruth b = true) : isTruth (mx a b) = true := by unfold mx; split <;> assumption
theorem mn_truth {a b : Int} (h : isTruth a = true) (g : isTruth b = true) : isTruth (mn a b) = true := by unfold mn; split <;> assumption
theorem getD_truth {l : List Int} (h : ∀ x ∈ l, isTruth x = true) (c : Nat) : isTruth (l.getD c 0) = true := by
  rw [List.getD_eq_getElem?_getD]
  cases e : l[c]? with
  | none => simp [isTruth]
  | some v => simpa using h v (List.mem_of_getElem? e)
theorem upd1_truth {s : Strc} (h : truthS s) {a b : Nat} {l : List Int} (hl : ∀ x ∈ l, isTruth x = true) : ∀ x ∈ upd1 s a b l, isTruth x = true := by
  intro x hx
  unfold upd1 at hx
  rcases List.mem_or_eq_of_mem_set hx with hx | rfl
  · exact hl x hx
  · exact mx_truth (getD_truth hl _) (mn_truth (getD_truth hl _) (nextOf_truth h _ _))
theorem updB_truth {s : Strc} (h : truthS s) {a : Nat} : ∀ (b : Nat) {l : List Int}, (∀ x ∈ l, isTruth x = true) → ∀ x ∈ updB s a b l, isTruth x = true
  | 0, _, hl => hl
  | b + 1, _, hl => upd1_truth h (updB_truth h b hl)
theorem updA_truth {s : Strc} (h : truthS s) : ∀ (a : Nat) {l : List Int}, (∀ x ∈ l, isTruth x = true) → ∀ x ∈ updA s a l, isTruth x = true
  | 0, _, hl => hl
  | a + 1, _, hl => updB_truth h _ (updA_truth h a hl)
theorem rounds_truth {s : Strc} (h : truthS s) : ∀ (r : Nat) {l : List Int}, (∀ x ∈ l, isTruth x = true) → ∀ x ∈ rounds s r l, isTruth x = true
  | 0, _, hl => hl
  | r + 1, _, hl => updA_truth h _ (rounds_truth h r hl)
theorem rowT0_truth {s : Strc} (h : truthS s) (i : Nat) : ∀ x ∈ rowT0 s i, isTruth x = true := by
  refine rounds_truth h _ fun x hx => ?_
  simp only [best0, List.mem_map] at hx
  obtain ⟨b, _, rfl⟩ := hx
  exact nextOf_truth h _ _
theorem rowP_path {s : Strc} (h : truthS s) {i j : Int} (hi : inN s i) (hj : inN s j) : (rowP s i.toNat).getD j.toNat 0 = pathT s i j := by
  have hi' := hi
  have hj' := hj
  unfold inN at hi' hj'
  have hin : i.toNat < s.nodes.length := by omega
  have hjn : j.toNat < s.nodes.length := by omega
  have hv : (rowT0 s i.toNat).getD j.toNat 0 = if rchB s 2 i.toNat j.toNat = true then 2 else if rchB s 1 i.toNat j.toNat = true then 1 else 0 := by
    rw [at_val (by simpa using hjn) (getD_truth (rowT0_truth h _) _)]
    have h2 : ∀ v, atB v (rowT0 s i.toNat) j.toNat = rchB s v i.toNat j.toNat := fun v => by rw [Bool.eq_iff_iff, atB_iff, rchB_iff]; exact rowT0_at hin _
    rw [h2, h2]
  have hcast : ((i.toNat : Nat) : Int) = i := by omega
  unfold pathT
  rw [if_pos ⟨hi, hj⟩]
  unfold rowP
  by_cases e : i = j
  · subst e
    rw [List.getD_eq_getElem?_getD, List.getElem?_set_self (by simpa using hin), Option.getD_some, hv, hcast]
    have hs : sameT s i = 2 ∨ sameT s i = 1 := by unfold sameT; split <;> simp
    unfold mx
    rcases hs with hs | hs <;> rw [hs] <;> (repeat' split) <;> simp_all
  · have hne : i.toNat ≠ j.toNat := by omega
    rw [List.getD_eq_getElem?_getD, List.getElem?_set_ne hne, ← List.getD_eq_getElem?_getD, hv]
    simp only [e, false_and, if_false]
end Go.Vm
