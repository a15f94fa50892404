/- A drawn region in which a new variable stands in no order to calls that lay rows. It holds over any program; no condition. -/
import Derived.Test.YtmakeoekklcbdaaVme
set_option linter.unusedSimpArgs false
set_option linter.unusedVariables false
namespace Go.Vm
open Go.RowKit

/-! ### values that do not name a block -/
def missR (p : Nat) : AV → Bool
  | .slref b .. => b != p
  | .pbox b _ => b != p
  | .prow b .. => b != p
  | _ => true
def missC (p : Nat) : AV → Bool
  | .fn _ caps => caps.all (missR p)
  | a => missR p a
def missE (p : Nat) : AV → Bool
  | .agg cs => cs.all (missC p)
  | a => missC p a
def missV (p : Nat) : AV → Bool
  | .tup xs => xs.all (missE p)
  | a => missE p a
def missB (p : Nat) : Blk → Bool
  | .cells cs => cs.all (missC p)
  | .row _ _ _ els => els.all (missE p)
  | _ => true

theorem missR_below {p : Nat} {a : AV} (h : belowR p a = true) : missR p a = true := by
  cases a <;> simp_all [belowR, missR] <;> omega
theorem missC_below {p : Nat} {a : AV} (h : belowC p a = true) : missC p a = true := by
  cases a with
  | fn f caps =>
    simp only [belowC, missC, List.all_eq_true] at h ⊢
    exact fun x hx => missR_below (h x hx)
  | _ => simp only [belowC, missC] at h ⊢; exact missR_below h

section
variable {P : Program} {B : Base} {w w' : World} {H H' : List Blk} {μ μ' : Mu}

theorem Rel.missB_old (R : Rel B w H μ) {b : Nat} {k : Blk} (hk : H[b]? = some k) : missB H.length k = true := by
  have hb := R.blk b k hk
  cases k with
  | dead => rfl
  | nrow => rfl
  | cells cs =>
    obtain ⟨g, c, T, vs, -, -, h3⟩ := hb
    simp only [missB, List.all_eq_true]
    exact fun x hx => missC_below (below_As h3 x hx)
  | row ow e sz els =>
    simp only [missB, List.all_eq_true]
    intro x hx
    obtain ⟨_, ⟨_, rfl⟩ | ⟨g, cap, cur, -, -, -, -, -, h6⟩⟩ := hb
    · cases hx
    · have hc : ∀ c ∈ x.cells, missC H.length c = true := fun c hc => missC_below (below_As h6 c (by unfold flat; exact List.mem_flatMap.2 ⟨x, hx, hc⟩))
      cases x with
      | agg cs => simpa [missE, AV.cells] using hc
      | _ => first | (simpa [missE, AV.cells] using hc) | rfl
theorem missV_old {x : AV} {v : Value} (r : RepV B w H μ x v) : missV H.length x = true := by
  have hA : ∀ {x : AV} {v : Value}, RepA B w H μ x v → missC H.length x = true := fun r => missC_below (below_A r)
  have hU : ∀ {x : AV} {v : Value}, RepU B w H μ x v → missE H.length x = true := by
    intro x v r
    cases x with
    | undef => rfl
    | agg cs =>
      obtain ⟨vs, -, hc⟩ := r
      simp only [missE, List.all_eq_true]
      exact fun c h => missC_below (below_As hc c h)
    | tup xs => simp only [RepU] at r; exact hA r
    | _ => simp only [RepU] at r; simp only [missE]; exact hA r
  cases x with
  | tup xs =>
    obtain ⟨vs, -, hc⟩ := r
    simp only [missV, List.all_eq_true]
    intro c h
    obtain ⟨i, hi, rfl⟩ := List.mem_iff_getElem.1 h
    obtain ⟨u, -, hu⟩ := hc.get (List.getElem?_eq_getElem hi)
    exact hU hu
  | _ => simp only [RepV] at r; simp only [missV]; exact hU r

/-- The world with a new block, which is told at a number that was kept for it. -/
structure Put (p : Nat) (zs : List AV) (w w' : World) (H H' : List Blk) (μ μ' : Mu) (B : Base) : Prop where
  size : w.heap.size < w'.heap.size
  heap : ∀ g, g < w.heap.size → w'.heap[g]? = w.heap[g]?
  get : ∀ b, b ≠ p → H'[b]? = H[b]?
  mu : ∀ b, b ≠ p → μ' b = μ b
  at' : H'[p]? = some (.cells zs)
  mup : μ' p = some (w.heap.size, 0)
  base : B.w0.heap.size ≤ w.heap.size

theorem Put.imm {p : Nat} {zs : List AV} (Y : Put p zs w w' H H' μ μ' B) {g : Nat} (hg : Imm B w H μ g) : Imm B w' H' μ' g := by
  refine ⟨hg.1, Nat.lt_trans hg.2.1 Y.size, fun ho => ?_⟩
  obtain ⟨b, c, k, hm, hk, hko⟩ := owned_iff.1 ho
  by_cases e : b = p
  · subst e
    rw [Y.mup] at hm
    simp only [Option.some.injEq, Prod.mk.injEq] at hm
    have := hg.2.1
    omega
  · rw [Y.get b e] at hk
    rw [Y.mu b e] at hm
    exact hg.2.2 (owned_iff.2 ⟨b, c, k, hm, hk, hko⟩)
theorem Put.repC {p : Nat} {zs : List AV} (Y : Put p zs w w' H H' μ μ' B) {a : AV} {v : Value} (r : RepC w (Imm B w H μ) a v) : RepC w' (Imm B w' H' μ') a v :=
  r.mono (fun _ hg => Y.imm hg) (fun g hg => Y.heap g hg.2.1)
theorem Put.repR {p : Nat} {zs : List AV} (Y : Put p zs w w' H H' μ μ' B) {a : AV} {v : Value} (hm : missR p a = true) (r : RepR B w H μ a v) : RepR B w' H' μ' a v := by
  refine ⟨r.1, ?_⟩
  have r2 := r.2
  cases a with
  | slref b off len tot =>
    have hb : b ≠ p := by simpa [missR] using hm
    simp only [RepR0] at r2 ⊢
    rw [Y.get b hb, Y.mu b hb]
    exact r2
  | pbox b off =>
    have hb : b ≠ p := by simpa [missR] using hm
    simp only [RepR0] at r2 ⊢
    rw [Y.get b hb, Y.mu b hb]
    exact r2
  | prow b i off tot =>
    have hb : b ≠ p := by simpa [missR] using hm
    simp only [RepR0] at r2 ⊢
    rw [Y.get b hb, Y.mu b hb]
    exact r2
  | _ => simp only [RepR0] at r2 ⊢; exact Y.repC r2
theorem Put.repA {p : Nat} {zs : List AV} (Y : Put p zs w w' H H' μ μ' B) {a : AV} {v : Value} (hm : missC p a = true) (r : RepA B w H μ a v) : RepA B w' H' μ' a v := by
  cases a with
  | fn f caps =>
    obtain ⟨cs, rfl, hc⟩ := r
    refine ⟨cs, rfl, hc.mono_mem fun c hcm b hcb => Y.repR ?_ hcb⟩
    simp only [missC, List.all_eq_true] at hm
    exact hm c hcm
  | _ => simp only [RepA] at r ⊢; simp only [missC] at hm; exact Y.repR hm r
theorem Put.repU {p : Nat} {zs : List AV} (Y : Put p zs w w' H H' μ μ' B) {a : AV} {v : Value} (hm : missE p a = true) (r : RepU B w H μ a v) : RepU B w' H' μ' a v := by
  cases a with
  | undef => trivial
  | agg cs =>
    obtain ⟨vs, rfl, hc⟩ := r
    refine ⟨vs, rfl, hc.mono_mem fun c hcm b hcb => Y.repA ?_ hcb⟩
    simp only [missE, List.all_eq_true] at hm
    exact hm c hcm
  | _ => simp only [RepU] at r ⊢; simp only [missE] at hm; exact Y.repA hm r
theorem Put.repV {p : Nat} {zs : List AV} (Y : Put p zs w w' H H' μ μ' B) {a : AV} {v : Value} (hm : missV p a = true) (r : RepV B w H μ a v) : RepV B w' H' μ' a v := by
  cases a with
  | tup xs =>
    obtain ⟨vs, rfl, hc⟩ := r
    refine ⟨vs, rfl, hc.mono_mem fun c hcm b hcb => Y.repU ?_ hcb⟩
    simp only [missV, List.all_eq_true] at hm
    exact hm c hcm
  | _ => simp only [RepV] at r ⊢; simp only [missV] at hm; exact Y.repU hm r
theorem Put.blk {p : Nat} {zs : List AV} (Y : Put p zs w w' H H' μ μ' B) {b : Nat} {k : Blk} (hb : b ≠ p) (hm : missB p k = true) (r : BlkOk B w H μ b k) (hlt : ∀ g c, k.live = true → μ b = some (g, c) → g < w.heap.size) : BlkOk B w' H' μ' b k := by
  cases k with
  | dead => trivial
  | nrow => trivial
  | cells cs =>
    obtain ⟨g, c, T, vs, h1, h2, h3⟩ := r
    simp only [missB, List.all_eq_true] at hm
    exact ⟨g, c, T, vs, (Y.mu b hb).trans h1, (Y.heap g (hlt g c rfl h1)).trans h2, h3.mono_mem fun x hx _ h => Y.repA (hm x hx) h⟩
  | row ow e sz els =>
    obtain ⟨h0, h1⟩ := r
    simp only [missB, List.all_eq_true] at hm
    refine ⟨h0, ?_⟩
    rcases h1 with ⟨h1, h2⟩ | ⟨g, cap, cur, h1, h2, h3, h4, h5, h6⟩
    · exact .inl ⟨(Y.mu b hb).trans h1, h2⟩
    · refine .inr ⟨g, cap, cur, (Y.mu b hb).trans h1, (Y.heap g (hlt g cap rfl h1)).trans h2, h3, h4, h5, h6.mono_mem fun x hx _ h => Y.repA ?_ h⟩
      simp only [flat, List.mem_flatMap] at hx
      obtain ⟨y, hy, hx⟩ := hx
      have := hm y hy
      cases y with
      | agg cs => simp only [missE, List.all_eq_true] at this; exact this x (by simpa [AV.cells] using hx)
      | _ => simp only [AV.cells, List.mem_cons, List.not_mem_nil, or_false] at hx; subst hx; simpa [missE] using this

/-- A new variable, at a number that was kept for it. -/
theorem Rel.place (R : Rel B w H μ) {p : Nat} (hp : H[p]? = some .dead) (hm : ∀ (b : Nat) k, H[b]? = some k → missB p k = true) {zs : List AV} {cur : Array Value} {T : TypeId} (hz : ∀ (B : Base) (w : World) (H : List Blk) (μ : Mu), All2 (RepA B w H μ) zs cur.toList) :
    ∃ μ', Rel B (w.alloc (.cells cur T)) (H.set p (.cells zs)) μ' ∧ Put p zs w (w.alloc (.cells cur T)) H (H.set p (.cells zs)) μ μ' B := by
  have hlt : p < H.length := (List.getElem?_eq_some_iff.1 hp).1
  have hbel : Below B.w0.heap.size w (w.alloc (.cells cur T)) := (Below.refl _ _).alloc R.size _
  have Y : Put p zs w (w.alloc (.cells cur T)) H (H.set p (.cells zs)) μ (fun b => if b = p then some (w.heap.size, 0) else μ b) B :=
    ⟨by show w.heap.size < (w.heap.push _).size; simp, fun g hg => by first | exact heap_alloc_old w _ g hg | exact heap_alloc_old w _ hg, fun b hb => List.getElem?_set_ne (Ne.symm hb), fun b hb => by simp [hb], by simp [hlt], by simp, R.size⟩
  have hget : ∀ b k, (H.set p (.cells zs))[b]? = some k → (b = p ∧ k = .cells zs) ∨ (b ≠ p ∧ H[b]? = some k) := by
    intro b k hk
    by_cases e : b = p
    · subst e; rw [Y.at'] at hk; cases hk; exact .inl ⟨rfl, rfl⟩
    · rw [Y.get b e] at hk; exact .inr ⟨e, hk⟩
  refine ⟨_, ⟨R.below.trans hbel, R.n0, fun b k hk => ?_, fun b b' k k' g c c' hk hk' hl hl' h1 h2 => ?_, fun b k g c hk hl h1 => ?_⟩, Y⟩
  · rcases hget b k hk with ⟨rfl, rfl⟩ | ⟨e, hk⟩
    · exact ⟨_, _, T, cur, Y.mup, heap_alloc_new w _, hz _ _ _ _⟩
    · exact Y.blk e (hm b k hk) (R.blk b k hk) fun g c hl h => (R.blk b k hk).lt hl h
  · rcases hget b k hk with ⟨rfl, rfl⟩ | ⟨e, hq⟩ <;> rcases hget b' k' hk' with ⟨rfl, rfl⟩ | ⟨e', hq'⟩
    · rfl
    · simp only [if_true, Option.some.injEq, Prod.mk.injEq] at h1
      simp only [if_neg e'] at h2
      have := (R.blk b' k' hq').lt hl' h2
      omega
    · simp only [if_true, Option.some.injEq, Prod.mk.injEq] at h2
      simp only [if_neg e] at h1
      have := (R.blk b k hq).lt hl h1
      omega
    · simp only [if_neg e] at h1
      simp only [if_neg e'] at h2
      exact R.inj b b' k k' g c c' hq hq' hl hl' h1 h2
  · rcases hget b k hk with ⟨rfl, rfl⟩ | ⟨e, hk⟩
    · simp only [if_true, Option.some.injEq, Prod.mk.injEq] at h1
      have := R.size
      omega
    · simp only [if_neg e] at h1
      exact R.own b k g c hk hl h1
theorem Put.ext {p : Nat} {zs : List AV} (Y : Put p zs w w' H H' μ μ' B) {w0 : World} {H0 : List Blk} {μ0 : Mu} (E : Ext B w0 H0 μ0 w H μ) (hp : H0.length ≤ p) : Ext B w0 H0 μ0 w' H' μ' := by
  refine ⟨fun g hg => ?_, fun b k hk => ?_⟩
  · obtain ⟨h1, h2⟩ := E.imm g hg
    exact ⟨Y.imm h1, (Y.heap g h1.2.1).trans h2⟩
  · obtain ⟨k', h1, h2⟩ := E.blk b k hk
    have hb : b ≠ p := by have := (List.getElem?_eq_some_iff.1 hk).1; omega
    exact ⟨k', (Y.get b hb).trans h1, by rw [Y.mu b hb]; exact h2⟩
end

/-! ### the order that is drawn, with a new variable that stands in no order to what lays rows -/
/-- The blocks while the new variable is not made yet (its number is kept), and afterwards. -/
noncomputable def view (p : Nat) (d : Prop) (h : List Blk) : List Blk := open Classical in if d then h else h.set p .dead
theorem view_t {p : Nat} {d : Prop} {h : List Blk} (hd : d) : view p d h = h := if_pos hd
theorem view_f {p : Nat} {d : Prop} {h : List Blk} (hd : ¬ d) : view p d h = h.set p .dead := if_neg hd
theorem view_congr {p : Nat} {d e : Prop} {h : List Blk} (hd : d ↔ e) : view p d h = view p e h := by rw [propext hd]

section
variable {P : Program} {B : Base} {n : Nat} {ops : Array Oper} {os' : List OpR} {D : Nat → List Nat} {sts : Nat → St} {p A dA : Nat} {zs : List AV}

theorem slot_same3 {sts : Nat → St} (hst : ∀ (k : Nat) o, os'[k]? = some o → ∃ v, (sts (k + 1)).t = putT (sts k).t o.dst v) (t : Nat) :
    ∀ (d a : Nat), a + d ≤ os'.length → (∀ (j : Nat) p', a ≤ j → j < a + d → os'[j]? = some p' → p'.dst ≠ some t) → (sts (a + d)).t[t]? = (sts a).t[t]?
  | 0, a, _, _ => rfl
  | d + 1, a, hn, h => by
    have h1 := slot_same3 hst t d a (by omega) fun j p' hj hj2 => h j p' hj (by omega)
    have hlt : a + d < os'.length := by omega
    obtain ⟨v, hv⟩ := hst (a + d) _ (List.getElem?_eq_getElem hlt)
    rw [show a + (d + 1) = a + d + 1 by omega, hv, putT_other (h (a + d) _ (by omega) (by omega) (List.getElem?_eq_getElem hlt)), h1]

theorem len_same3 {sts : Nat → St} (hst : ∀ (k : Nat) o, os'[k]? = some o → ∃ v, (sts (k + 1)).t = putT (sts k).t o.dst v) : ∀ k, k ≤ os'.length → (sts k).t.length = (sts 0).t.length
  | 0, _ => rfl
  | k + 1, h => by
    obtain ⟨v, hv⟩ := hst k _ (List.getElem?_eq_getElem (by omega))
    rw [hv, putT_length, len_same3 hst k (by omega)]

/-- What is asked of such a region: 'A' makes the new variable, told at the number 'p'. -/
structure Reg3 (P : Program) (n : Nat) (os' : List OpR) (D : Nat → List Nat) (sts : Nat → St) (p A dA : Nat) (zs : List AV) : Prop where
  put : ∀ (k : Nat) o, os'[k]? = some o → ∃ v, (sts (k + 1)).t = putT (sts k).t o.dst v
  loudo : ∀ k, k < n → loud sts k → ∀ j, j < n → loud sts j → j ≠ k → j ∈ D k ∨ k ∈ D j
  st : ∀ (k : Nat) o, os'[k]? = some o → k ≠ A → ∀ d : Prop, (A ∈ D k → d) → GStep P o ⟨(sts k).t, view p d (sts k).h⟩ ⟨(sts (k + 1)).t, view p d (sts (k + 1)).h⟩
  quiet : ∀ j, j < n → j ≠ A → ¬ loud sts j → ∀ d : Prop, (A ∈ D j → d) → ∀ q, q ≤ n → (∀ k, k < n → loud sts k → k < q → j ∉ D k) → (∀ k, k < n → loud sts k → q ≤ k → k ∉ D j) → ∀ o', os'[j]? = some o' →
    GStep P o' ⟨(sts j).t, view p d (sts q).h⟩ ⟨(sts (j + 1)).t, view p d (sts q).h⟩
  opA : os'[A]? = some ⟨some dA, .alloc zs, none⟩
  stA : sts (A + 1) = ⟨(sts A).t.set dA (.pbox p 0), (sts A).h⟩
  cell : ∀ dn : Nat → Prop, (∀ i j, dn i → j ∈ D i → dn j) → ¬ dn A → ∀ q, q ≤ n → curH n sts dn q → (sts q).h[p]? = some (.cells zs) ∧ ∀ (b : Nat) k, b ≠ p → (sts q).h[b]? = some k → missB p k = true
  slot : ∀ dn : Nat → Prop, (∀ i j, dn i → j ∈ D i → dn j) → ¬ dn A → ∀ k, k ≤ n → ∀ t x, (sts k).t[t]? = some x → curT os' dn t k → missV p x = true

/-- The state of the region when some of its operations are done. -/
structure DInv3 (B : Base) (n : Nat) (os' : List OpR) (ops : Array Oper) (sts : Nat → St) (p A : Nat) (w0 : World) (H0 : List Blk) (μ0 : Mu) (a0 : Act) (listed : Array Bool) (a : Act) (w : World) (H : List Blk) (μ : Mu) : Prop where
  size : listed.size = n
  rel : Rel B w H μ
  heap : ∀ k, k ≤ n → curH n sts (done listed) k → view p (done listed A) (sts k).h = H
  tmps : a.tmps.size = (sts 0).t.length
  slots : ∀ k, k ≤ n → ∀ t x, (sts k).t[t]? = some x → curT os' (done listed) t k → RepV B w H μ x (a.tmps.getD t undef)
  defers : a.defers = a0.defers
  ext : Ext B w0 H0 μ0 w H μ
  closed : ∀ i o, ops[i]? = some o → done listed i → ∀ e ∈ o.after, Region.binds .any e = true → done listed e.on

/-- An operation that is ready is done, other than the new variable. -/
theorem dinv_step3 {w0 : World} {H0 : List Blk} {μ0 : Mu} {a0 : Act} (hD : DOk ops os' D) (hops : All2 (COper P ops) os' ops.toList) (hn : n = ops.size)
    (G3 : Reg3 P n os' D sts p A dA zs)
    {listed : Array Bool} {a : Act} {w : World} {H : List Blk} {μ : Mu} (J : DInv3 B n os' ops sts p A w0 H0 μ0 a0 listed a w H μ) {i : Nat} (hi : i ∈ Region.ready .any ops listed) (hiA : i ≠ A)
    {K : Act → World → Prop} {Q : Exit → Act → World → Prop} (hK : ∀ a' w' H' μ', DInv3 B n os' ops sts p A w0 H0 μ0 a0 (listed.setIfInBounds i true) a' w' H' μ' → K a' w') : wpOp P ops Q i K a w := by
  obtain ⟨hin, hnot, o, ho, hedges⟩ := ready_mem hi
  have hil : i < os'.length := by rw [hD.len]; exact hin
  obtain ⟨o', ho'⟩ : ∃ o', os'[i]? = some o' := ⟨_, List.getElem?_eq_getElem hil⟩
  have hco : COper P ops o' o := by
    obtain ⟨o2, h2, h3⟩ := hops.get ho'
    have : ops.toList[i]? = some o := by simpa using ho
    rw [this] at h2; cases h2; exact h3
  have hnd : ¬ done listed i := by unfold done; rw [hnot]; simp
  have hpre : ∀ j, j ∈ D i → done listed j := by
    intro j hj
    obtain ⟨o2, e, ho2, he, hb, hor⟩ := hD.tab i j hj
    rw [ho] at ho2; cases ho2
    rcases hor with rfl | hor
    · exact hedges e he hb
    · exact D_done hD J.closed e.on j (hedges e he hb) hor
  have hpost : ∀ j, i ∈ D j → ¬ done listed j := fun j hj hdj => hnd (D_done hD J.closed j i hdj hj)
  have hcurT : ∀ t ∈ o'.reads, curT os' (done listed) t i := by
    intro t ht
    refine ⟨fun j p' hj hp hd => ?_, fun j p' hj hp hd => ?_⟩
    · exact hpre j ((hD.reads i o' ho' t ht j p' hp hd (by omega)).1 hj)
    · by_cases e : j = i
      · subst e; exact hnd
      · exact hpost j ((hD.reads i o' ho' t ht j p' hp hd e).2 (by omega))
  have hin' : i < n := by omega
  have hloud := G3.loudo
  have hput := G3.put
  have hdA : A ∈ D i → done listed A := fun h => hpre A h
  have G0 : ∃ Hn, GStep P o' ⟨(sts i).t, H⟩ ⟨(sts (i + 1)).t, Hn⟩ ∧ (loud sts i → Hn = view p (done listed A) (sts (i + 1)).h) ∧ (¬ loud sts i → Hn = H) := by
    by_cases hl : loud sts i
    · have hcurH : curH n sts (done listed) i := by
        refine ⟨fun j hj hjn hlj => ?_, fun j hj hjn hlj => ?_⟩
        · rcases hloud j hjn hlj i hin' hl (by omega) with h | h
          · exact absurd (D_lt hD j i h) (by omega)
          · exact hpre j h
        · by_cases e : j = i
          · subst e; exact hnd
          · rcases hloud j hjn hlj i hin' hl (fun e' => e e'.symm) with h | h
            · exact hpost j h
            · exact absurd (D_lt hD i j h) (by omega)
      have hH : view p (done listed A) (sts i).h = H := J.heap i (by omega) hcurH
      refine ⟨view p (done listed A) (sts (i + 1)).h, ?_, fun _ => rfl, fun h => absurd hl h⟩
      rw [← hH]
      exact G3.st i o' ho' hiA _ hdA
    · obtain ⟨q, h1, h2, h3⟩ := cur_exists hD hloud (D_done hD J.closed) n (Nat.le_refl _)
      have hq : view p (done listed A) (sts q).h = H := J.heap q h1 ⟨fun j hj _ hlj => h2 j hj hlj, fun j hj hjn hlj => h3 j hj hjn hlj⟩
      have := G3.quiet i hin' hiA hl _ hdA q h1 (fun k _ hlk hkq hik => hnd (D_done hD J.closed k i (h2 k hkq hlk) hik)) (fun k hkn hlk hqk hki => h3 k hqk hkn hlk (hpre k hki)) o' ho'
      rw [hq] at this
      exact ⟨H, this, fun h => absurd h hl, fun _ => rfl⟩
  obtain ⟨Hn, G, hHl, hHq⟩ := G0
  have hlen0 : (sts i).t.length = (sts 0).t.length := len_same3 hput i (by omega)
  have hil2 : i < listed.size := by rw [J.size, hn]; exact hin
  -- what the new state is, whatever value and blocks the operation gave
  have fin : ∀ (v : AV) (val : Value) (w' : World) (μ' : Mu), (sts (i + 1)).t = putT (sts i).t o'.dst v → Rel B w' Hn μ' → Ext B w H μ w' Hn μ' → RepV B w' Hn μ' v val →
      DInv3 B n os' ops sts p A w0 H0 μ0 a0 (listed.setIfInBounds i true) (a.put o'.dst val) w' Hn μ' := by
    intro v val w' μ' hv R' E' hvr
    have hset := fun j => done_set (listed := listed) hil2 j
    have hvw : done (listed.setIfInBounds i true) A ↔ done listed A := ⟨fun h => ((hset A).1 h).resolve_left (fun e => hiA e.symm), fun h => (hset A).2 (.inr h)⟩
    refine ⟨by simp [J.size], R', fun k hk hc => ?_, by cases o'.dst <;> simp [Act.put, J.tmps], fun k hk t x hx hc => ?_, by rw [← J.defers]; cases o'.dst <;> rfl, J.ext.trans E', fun j p hp hd e he hb => ?_⟩
    · by_cases hl : loud sts i
      · have hik : i < k := by
          rcases Nat.lt_or_ge i k with h | h
          · exact h
          · exact absurd ((hset i).2 (.inl rfl)) (hc.2 i h (by omega) hl)
        have := heap_same (sts := sts) (k - (i + 1)) (i + 1) fun j hj hj2 hlj => by
          have hdj := hc.1 j (by omega) (by omega) hlj
          rcases (hset j).1 hdj with e | hdj
          · omega
          · rcases hloud j (by omega) hlj i (by omega) hl (by omega) with h | h
            · exact hpost j h hdj
            · exact absurd (D_lt hD i j h) (by omega)
        rw [hHl hl, view_congr hvw]
        rw [show i + 1 + (k - (i + 1)) = k by omega] at this
        rw [this]
      · rw [hHq hl, view_congr hvw]
        refine J.heap k hk ⟨fun j hj hjn hlj => ?_, fun j hj hjn hlj hdj => hc.2 j hj hjn hlj ((hset j).2 (.inr hdj))⟩
        rcases (hset j).1 (hc.1 j hj hjn hlj) with e | h
        · subst e; exact absurd hlj hl
        · exact h
    · by_cases hdt : o'.dst = some t
      · have hik : i < k := by
          rcases Nat.lt_or_ge i k with h | h
          · exact h
          · exact absurd ((hset i).2 (.inl rfl)) (hc.2 i o' h ho' hdt)
        have hs := slot_same3 (os' := os') hput t (k - (i + 1)) (i + 1) (by have := hD.len; omega) fun j p' hj hj2 hp hpd => by
          have hdj := hc.1 j p' (by omega) hp hpd
          rcases (hset j).1 hdj with e | hdj
          · omega
          · exact hpost j (hD.writes i o' ho' j p' hp t hdt hpd (by omega)) hdj
        rw [show i + 1 + (k - (i + 1)) = k by omega, hx, hv, hdt] at hs
        simp only [putT] at hs
        have hlt : t < (sts i).t.length := by
          have := (List.getElem?_eq_some_iff.1 hs.symm).1
          simpa using this
        rw [List.getElem?_set_self hlt] at hs
        cases hs
        have hlt' : t < a.tmps.size := by rw [J.tmps, ← hlen0]; exact hlt
        simp [Act.put, hdt, hlt']
        exact hvr
      · have hr := J.slots k hk t x hx ⟨fun j p' hj hp hpd => ?_, fun j p' hj hp hpd hdj => hc.2 j p' hj hp hpd ((hset j).2 (.inr hdj))⟩
        · have he : (a.put o'.dst val).tmps.getD t undef = a.tmps.getD t undef := by
            cases hd : o'.dst with
            | none => rfl
            | some d =>
              have : d ≠ t := fun e => hdt (by rw [hd, e])
              simp [Act.put, Array.getElem?_setIfInBounds_ne this]
          rw [he]
          exact hr.ext E'
        · rcases (hset j).1 (hc.1 j p' hj hp hpd) with e | h
          · subst e; rw [ho'] at hp; cases hp; exact absurd hpd hdt
          · exact h
    · rcases (hset j).1 hd with rfl | hdj
      · rw [ho] at hp; cases hp; exact (hset e.on).2 (.inr (hedges e he hb))
      · exact (hset e.on).2 (.inr (J.closed j p hp hdj e he hb))
  -- the operands
  obtain ⟨hdst, hcc, hgd⟩ := hco
  have hslot : ∀ t ∈ o'.reads, ∀ x, (sts i).t[t]? = some x → RepV B w H μ x (a.tmps.getD t undef) := fun t ht x hx => J.slots i (by omega) t x hx (hcurT t ht)
  let ρ' : Opd → AV := fun x => match x with
    | .t m => if m ∈ o'.reads then (sts i).t.getD m .undef else .undef
    | .k v => v
  have hρ : ∀ x ∈ o'.o.operands, Opd.ev (sts i).t x = ρ' x := by
    intro x hx
    cases x with
    | k v => rfl
    | t m =>
      have : m ∈ o'.reads := by
        unfold OpR.reads
        exact List.mem_append_left _ (List.mem_filterMap.2 ⟨.t m, hx, rfl⟩)
      simp only [Opd.ev, ρ', if_pos this]
  have hOp : Opds B w H μ ρ' a := by
    intro x x' hx
    cases x with
    | tmp m =>
      simp only [cOpd, Option.some.injEq] at hx
      subst hx
      simp only [ρ', Act.eval]
      split
      · rename_i hm
        cases hi : (sts i).t[m]? with
        | none => simp [List.getD, hi]; trivial
        | some y => simp only [List.getD, hi, Option.getD_some]; exact hslot m hm y hi
      · trivial
    | const v =>
      simp only [cOpd] at hx
      obtain ⟨a', h1, rfl⟩ := Option.map_eq_some_iff.1 hx
      exact constAV_rep h1
    | func f =>
      simp only [cOpd, Option.some.injEq] at hx
      subst hx
      exact ⟨#[], rfl, .nil⟩
    | global g => simp [cOpd] at hx
  unfold wpOp
  rw [ho]
  simp only
  obtain ⟨dst, op, ty, pos, after, guard⟩ := o
  simp only at hdst hcc hgd
  have run : (∃ v H', Step P (Opd.ev (sts i).t) H o'.o v H' ∧ (⟨(sts (i + 1)).t, Hn⟩ : St) = ⟨putT (sts i).t o'.dst v, H'⟩) → ({ dst, op, type := ty, pos, after, guard } : Oper).wp P a w K Q := by
    rintro ⟨v, H', hs, he⟩
    have hs' := hs.congr hρ
    simp only [St.mk.injEq] at he
    obtain ⟨he1, he2⟩ := he
    refine step_wp J.rel hcc hOp hs' fun val w' μ' R' E' hv => ?_
    rw [← hdst]
    rw [← he2] at R' E' hv
    exact hK _ _ _ _ (fin v val w' μ' he1 R' E' hv)
  have skip : (⟨(sts (i + 1)).t, Hn⟩ : St) = ⟨putT (sts i).t o'.dst (.tup []), H⟩ → K (a.put dst undef) w := by
    intro he
    simp only [St.mk.injEq] at he
    obtain ⟨he1, hh⟩ := he
    rw [← hdst]
    refine hK _ _ Hn μ (fin (.tup []) undef w μ he1 ?_ ?_ repV_undef)
    · rw [hh]; exact J.rel
    · rw [hh]; exact Ext.refl _ _ _ _
  unfold GStep at G
  cases hg' : o'.guard with
  | none =>
    cases guard with
    | some _ => simp [hg'] at hgd
    | none =>
      rw [if_pos (by simp [Region.wanted])]
      simp only [hg'] at G
      exact .inl (run G)
  | some p =>
    obtain ⟨tt, want⟩ := p
    cases guard with
    | none => simp [hg'] at hgd
    | some q =>
      obtain ⟨j, want'⟩ := q
      simp only [hg'] at hgd G
      obtain ⟨rfl, hj⟩ := hgd
      have htr : tt ∈ o'.reads := by unfold OpR.reads; rw [hg']; simp
      split at G
      · rename_i b hb
        have hs := slot_of_getD hb (by simp)
        have W := (wanted_slot (ops := ops) hs (by rw [J.tmps, hlen0]) (hslot tt htr _ hs) (o := { dst, op, type := ty, pos, after, guard := some (j, want') }) rfl hj).1 b rfl
        rw [W]
        rcases G with ⟨e, G⟩ | ⟨e, G⟩
        · rw [if_pos (by simp [e])]; exact .inl (run G)
        · rw [if_neg (by simp [e])]; exact skip G
      · rename_i hb
        have hs := slot_of_getD hb (by simp)
        have W := (wanted_slot (ops := ops) hs (by rw [J.tmps, hlen0]) (hslot tt htr _ hs) (o := { dst, op, type := ty, pos, after, guard := some (j, want') }) rfl hj).2 rfl
        rw [W, if_neg (by simp)]
        exact skip G
      · exact G.elim



/-- The new variable is made. -/
theorem dinv_stepA {w0 : World} {H0 : List Blk} {μ0 : Mu} {a0 : Act} (hp0 : H0.length ≤ p) (hD : DOk ops os' D) (hops : All2 (COper P ops) os' ops.toList) (hn : n = ops.size)
    (G3 : Reg3 P n os' D sts p A dA zs)
    {listed : Array Bool} {a : Act} {w : World} {H : List Blk} {μ : Mu} (J : DInv3 B n os' ops sts p A w0 H0 μ0 a0 listed a w H μ) (hi : A ∈ Region.ready .any ops listed)
    {K : Act → World → Prop} {Q : Exit → Act → World → Prop} (hK : ∀ a' w' H' μ', DInv3 B n os' ops sts p A w0 H0 μ0 a0 (listed.setIfInBounds A true) a' w' H' μ' → K a' w') : wpOp P ops Q A K a w := by
  obtain ⟨hin, hnot, o, ho, hedges⟩ := ready_mem hi
  have hil : A < os'.length := by rw [hD.len]; exact hin
  have ho' := G3.opA
  have hco : COper P ops ⟨some dA, .alloc zs, none⟩ o := by
    obtain ⟨o2, h2, h3⟩ := hops.get ho'
    have : ops.toList[A]? = some o := by simpa using ho
    rw [this] at h2; cases h2; exact h3
  have hnd : ¬ done listed A := by unfold done; rw [hnot]; simp
  have hclosed := fun i j => D_done hD J.closed i j
  have hpost : ∀ j, A ∈ D j → ¬ done listed j := fun j hj hdj => hnd (hclosed j A hdj hj)
  have hil2 : A < listed.size := by rw [J.size, hn]; exact hin
  have hset := fun j => done_set (listed := listed) hil2 j
  have hdn : done (listed.setIfInBounds A true) A := (hset A).2 (.inl rfl)
  have hquietA : ¬ loud sts A := fun h => h (by rw [G3.stA])
  obtain ⟨q, h1, h2, h3⟩ := cur_exists hD G3.loudo hclosed n (Nat.le_refl _)
  have hcq : curH n sts (done listed) q := ⟨fun j hj _ hlj => h2 j hj hlj, fun j hj hjn hlj => h3 j hj hjn hlj⟩
  have hHq : (sts q).h.set p .dead = H := by rw [← J.heap q h1 hcq, view_f hnd]
  obtain ⟨c1, c2⟩ := G3.cell _ hclosed hnd q h1 hcq
  have hpl : p < (sts q).h.length := (List.getElem?_eq_some_iff.1 c1).1
  have hp : H[p]? = some .dead := by rw [← hHq]; simp [hpl]
  have hm : ∀ (b : Nat) k, H[b]? = some k → missB p k = true := by
    intro b k hk
    by_cases e : b = p
    · subst e; rw [hp] at hk; cases hk; rfl
    · rw [← hHq, List.getElem?_set_ne (Ne.symm e)] at hk
      exact c2 b k e hk
  have hlen0 : (sts A).t.length = (sts 0).t.length := len_same3 G3.put A (by omega)
  obtain ⟨hdst, hcc, hgd⟩ := hco
  unfold wpOp
  rw [ho]
  simp only
  obtain ⟨dst, op, ty, pos, after, guard⟩ := o
  simp only at hdst hcc hgd
  cases guard with
  | some q => simp at hgd
  | none =>
  rw [if_pos (by simp [Region.wanted])]
  refine .inl ?_
  cases hcc with
  | op hcc =>
  cases hcc with
  | @alloc t i z _ _ hi hz hcs =>
  obtain ⟨μ', R', Y⟩ := J.rel.place (p := p) hp hm (zs := zs) (cur := z.cells) (T := t) (fun B w H μ => consts_rep hcs)
  have hrun : (execOp a.eval { dst, op := .alloc t, type := ty, pos, after, guard := none }).run P w = .ok (.value (.pointer (some ⟨w.heap.size, 0, none⟩))) (w.alloc (.cells z.cells t)) := by
    simp [execOp, Instr.alloc, zeroValue, typeInfo, hi, hz, newVar, newRow]
  unfold Oper.wp
  rw [hrun]
  simp only [Oper.upon]
  refine hK _ _ (H.set p (.cells zs)) μ' ⟨by simp [J.size], R', fun k hk hc => ?_, by cases dst <;> simp [Act.put, J.tmps], fun k hk t x hx hc => ?_, by rw [← J.defers]; cases dst <;> rfl, Y.ext J.ext hp0, fun j o2 ho2 hd e he hb => ?_⟩
  · have hcl : curH n sts (done listed) k := by
      refine ⟨fun j hj hjn hlj => ?_, fun j hj hjn hlj hdj => hc.2 j hj hjn hlj ((hset j).2 (.inr hdj))⟩
      rcases (hset j).1 (hc.1 j hj hjn hlj) with e | h
      · subst e; exact absurd hlj hquietA
      · exact h
    have := J.heap k hk hcl
    rw [view_f hnd] at this
    rw [view_t hdn, ← this, List.set_set]
    have hc1 := (G3.cell _ hclosed hnd k hk hcl).1
    have hkl : p < (sts k).h.length := (List.getElem?_eq_some_iff.1 hc1).1
    rw [List.getElem?_eq_getElem hkl] at hc1
    rw [← Option.some.inj hc1, List.set_getElem_self]
  · by_cases hdt : dA = t
    · subst hdt
      have hik : A < k := by
        rcases Nat.lt_or_ge A k with h | h
        · exact h
        · exact absurd hdn (hc.2 A _ h ho' rfl)
      have hs := slot_same3 (os' := os') G3.put dA (k - (A + 1)) (A + 1) (by have := hD.len; omega) fun j p' hj hj2 hp' hpd => by
        have hdj := hc.1 j p' (by omega) hp' hpd
        rcases (hset j).1 hdj with e | hdj
        · omega
        · exact hpost j (hD.writes A _ ho' j p' hp' dA rfl hpd (by omega)) hdj
      rw [show A + 1 + (k - (A + 1)) = k by omega, hx, G3.stA] at hs
      simp only at hs
      have hlt : dA < (sts A).t.length := by
        have := (List.getElem?_eq_some_iff.1 hs.symm).1
        simpa using this
      rw [List.getElem?_set_self hlt] at hs
      cases hs
      have hlt' : dA < a.tmps.size := by rw [J.tmps, ← hlen0]; exact hlt
      rw [← hdst]
      simp [Act.put, hlt']
      refine ⟨rfl, ?_⟩
      simp only [RepR0]
      rw [Y.at']
      exact ⟨_, _, Y.mup, rfl⟩
    · have hct : curT os' (done listed) t k := by
        refine ⟨fun j p' hj hp' hpd => ?_, fun j p' hj hp' hpd hdj => hc.2 j p' hj hp' hpd ((hset j).2 (.inr hdj))⟩
        rcases (hset j).1 (hc.1 j p' hj hp' hpd) with e | h
        · subst e; rw [ho'] at hp'; cases hp'; simp only [Option.some.injEq] at hpd; exact absurd hpd hdt
        · exact h
      have hr := J.slots k hk t x hx hct
      have he : (a.put dst (.pointer (some ⟨w.heap.size, 0, none⟩))).tmps.getD t undef = a.tmps.getD t undef := by
        rw [← hdst]
        simp [Act.put, Array.getElem?_setIfInBounds_ne hdt]
      rw [he]
      exact Y.repV (G3.slot _ hclosed hnd k hk t x hx hct) hr
  · rcases (hset j).1 hd with rfl | hdj
    · rw [ho] at ho2; cases ho2; exact (hset e.on).2 (.inr (hedges e he hb))
    · exact (hset e.on).2 (.inr (J.closed j o2 ho2 hdj e he hb))

theorem dinv_all3 {w0 : World} {H0 : List Blk} {μ0 : Mu} {a0 : Act} (hp0 : H0.length ≤ p) (hD : DOk ops os' D) (hops : All2 (COper P ops) os' ops.toList) (hn : n = ops.size)
    (G3 : Reg3 P n os' D sts p A dA zs)
    {listed : Array Bool} {a : Act} {w : World} {H : List Blk} {μ : Mu} (J : DInv3 B n os' ops sts p A w0 H0 μ0 a0 listed a w H μ) {i : Nat} (hi : i ∈ Region.ready .any ops listed)
    {K : Act → World → Prop} {Q : Exit → Act → World → Prop} (hK : ∀ a' w' H' μ', DInv3 B n os' ops sts p A w0 H0 μ0 a0 (listed.setIfInBounds i true) a' w' H' μ' → K a' w') : wpOp P ops Q i K a w := by
  by_cases e : i = A
  · subst e; exact dinv_stepA hp0 hD hops hn G3 J hi hK
  · exact dinv_step3 hD hops hn G3 J hi e hK

theorem drawn_any3 {w0 : World} {H0 : List Blk} {μ0 : Mu} {a0 : Act} (hD : DOk ops os' D) (hops : All2 (COper P ops) os' ops.toList) (hn : n = ops.size)
    (hp0 : H0.length ≤ p) (G3 : Reg3 P n os' D sts p A dA zs)
    {Q : Exit → Act → World → Prop} (hQ : ∀ a w H μ listed, (∀ i, i < n → done listed i) → DInv3 B n os' ops sts p A w0 H0 μ0 a0 listed a w H μ → Q .normal a w) :
    ∀ (fuel : Nat) (listed : Array Bool) (a : Act) (w : World) (H : List Blk) (μ : Mu), undone n listed = fuel → DInv3 B n os' ops sts p A w0 H0 μ0 a0 listed a w H μ → wpAny P .any ops Q fuel listed a w := by
  have full : ∀ (listed : Array Bool) (a : Act) (w : World) (H : List Blk) (μ : Mu), DInv3 B n os' ops sts p A w0 H0 μ0 a0 listed a w H μ → Region.ready .any ops listed = [] → ∀ i, i < n → done listed i := by
    intro listed a w H μ J hr i
    induction i using Nat.strongRecOn with
    | ind i ih =>
      intro hi
      have hin : i < ops.size := by omega
      have hil : i < listed.size := by rw [J.size]; exact hi
      have hnm : i ∉ Region.ready .any ops listed := by rw [hr]; simp
      unfold Region.ready at hnm
      simp only [List.mem_filter, List.mem_range, Bool.and_eq_true, Bool.not_eq_true', not_and] at hnm
      have h2 := hnm hin
      have ho : ops[i]? = some ops[i] := Array.getElem?_eq_getElem hin
      have hall : (ops[i].after.all fun e => !Region.binds .any e || listed.getD e.on false) = true := by
        rw [Array.all_eq_true_iff_forall_mem]
        intro e he
        cases hb : Region.binds .any e with
        | false => rfl
        | true =>
          have hlt := hD.small i _ ho e he hb
          have := ih e.on hlt (by omega)
          unfold done at this
          simp [Array.getD_eq_getD_getElem?, this]
      have hd : listed[i]? = some listed[i] := Array.getElem?_eq_getElem hil
      unfold done
      cases hb : listed[i] with
      | true => rw [hd, hb]
      | false =>
        have := h2 (by simp [Array.getD_eq_getD_getElem?, hd, hb])
        simp only [ho, Option.map_some, Option.getD_some] at this
        exact absurd hall this
  intro fuel
  induction fuel with
  | zero =>
    intro listed a w H μ hu J
    have hall : ∀ i, i < n → done listed i := by
      intro i hi
      unfold undone at hu
      have := List.eq_nil_of_length_eq_zero hu
      rw [List.filter_eq_nil_iff] at this
      have := this i (List.mem_range.2 hi)
      unfold done
      simpa using this
    refine ⟨?_, hQ a w H μ listed hall J⟩
    cases hr : Region.ready .any ops listed with
    | nil => rfl
    | cons i is =>
      obtain ⟨h1, h2, _⟩ := ready_mem (ops := ops) (listed := listed) (i := i) (by rw [hr]; simp)
      have := hall i (by omega)
      unfold done at this
      rw [h2] at this
      cases this
  | succ fuel ih =>
    intro listed a w H μ hu J
    refine ⟨fun hr => hQ a w H μ listed (full listed a w H μ J hr) J, fun i hi => ?_⟩
    refine dinv_all3 hp0 hD hops hn G3 J hi fun a' w' H' μ' J' => ih _ a' w' H' μ' ?_ J'
    obtain ⟨h1, h2, _⟩ := ready_mem hi
    have hil : i < listed.size := by rw [J.size]; omega
    have := filter_flip (p := fun i => listed[i]? != some true) (q := fun j => (listed.setIfInBounds i true)[j]? != some true) (List.nodup_range (n := n)) (i := i) (List.mem_range.2 (by omega)) (by rw [h2]; rfl) (by simp [hil])
      (fun j _ hj => by rw [Array.getElem?_setIfInBounds_ne (fun e => hj e.symm)])
    unfold undone at hu ⊢
    omega


/-- Such a region, in the text's order. 'c' is the new variable's block; 'made': it is made already. -/
def dopsWp3 (P : Program) (lo lo2 : Nat → Bool) (h0 : List Blk) (zs : List AV) (dA : Nat) : Bool → Nat → List OpR → (St → Prop) → St → Prop
  | made, _, [], K, st => made = true ∧ K st
  | made, i, o :: os, K, st =>
    if lo i = true then made = true ∧ (∀ k, k ≤ os.length → lo (i + k) = true) ∧ dopsWp P lo i (o :: os) K st
    else
      (made = false ∧ o = ⟨some dA, .alloc zs, none⟩ ∧ dopsWp3 P lo lo2 h0 zs dA true (i + 1) os K ⟨st.t.set dA (.pbox h0.length 0), st.h⟩) ∨
      (o.guard = none ∧ ∃ v, missV h0.length v = true ∧ (∀ L, Step P (Opd.ev st.t) (h0 ++ .cells zs :: L) o.o v (h0 ++ .cells zs :: L)) ∧ (∀ L, Step P (Opd.ev st.t) (h0 ++ .dead :: L) o.o v (h0 ++ .dead :: L)) ∧
        dopsWp3 P lo lo2 h0 zs dA made (i + 1) os K ⟨putT st.t o.dst v, st.h⟩) ∨
      (o.guard = none ∧ lo2 i = true ∧ ∃ v L1, missV h0.length v = true ∧ (∀ k ∈ L1, missB h0.length k = true) ∧ Step P (Opd.ev st.t) st.h o.o v (st.h ++ L1) ∧
        Step P (Opd.ev st.t) (st.h.set h0.length .dead) o.o v (st.h.set h0.length .dead ++ L1) ∧ dopsWp3 P lo lo2 h0 zs dA made (i + 1) os K ⟨putT st.t o.dst v, st.h ++ L1⟩)

/-- What is known of one operation ahead of the ordered ones. -/
def Mid3 (P : Program) (lo2 : Nat → Bool) (h0 : List Blk) (zs : List AV) (i : Nat) (sts : Nat → St) (k : Nat) (o : OpR) : Prop :=
  (lo2 (i + k) = true ∧ GStep P o (sts k) (sts (k + 1)) ∧ GStep P o ⟨(sts k).t, (sts k).h.set h0.length .dead⟩ ⟨(sts (k + 1)).t, (sts (k + 1)).h.set h0.length .dead⟩) ∨
  (¬ loud sts k ∧ ∀ L, GStep P o ⟨(sts k).t, h0 ++ .cells zs :: L⟩ ⟨(sts (k + 1)).t, h0 ++ .cells zs :: L⟩ ∧ GStep P o ⟨(sts k).t, h0 ++ .dead :: L⟩ ⟨(sts (k + 1)).t, h0 ++ .dead :: L⟩)

theorem put_miss {p : Nat} {t : List AV} {dst : Option Nat} {v : AV} (hv : missV p v = true) {j : Nat} {x : AV} (hx : (putT t dst v)[j]? = some x) : missV p x = true ∨ t[j]? = some x := by
  cases dst with
  | none => exact .inr hx
  | some d =>
    by_cases e : d = j
    · subst e
      have hl : d < t.length := by have := (List.getElem?_eq_some_iff.1 hx).1; simpa [putT] using this
      simp only [putT, List.getElem?_set_self hl, Option.some.injEq] at hx
      subst hx
      exact .inl hv
    · simp only [putT, List.getElem?_set_ne e] at hx
      exact .inr hx

theorem set_cat {h0 : List Blk} {c : Blk} {L : List Blk} : (h0 ++ c :: L).set h0.length .dead = h0 ++ .dead :: L := by
  rw [List.set_append_right _ _ (Nat.le_refl _)]; simp

/-- Behind the new variable. -/
theorem dops3b_trace {lo lo2 : Nat → Bool} {h0 : List Blk} : ∀ {os : List OpR} {i : Nat} {K : St → Prop} {st : St}, dopsWp3 P lo lo2 h0 zs dA true i os K st → (∃ L, st.h = h0 ++ .cells zs :: L ∧ ∀ b ∈ L, missB h0.length b = true) →
    (∀ (t : Nat) x, st.t[t]? = some x → dA ≠ t → missV h0.length x = true) →
    ∃ (sts : Nat → St) (m : Nat), sts 0 = st ∧ (∀ k o, os[k]? = some o → GStep P o (sts k) (sts (k + 1))) ∧ K (sts os.length) ∧ m ≤ os.length ∧ (∀ k, m ≤ k → k < os.length → lo (i + k) = true) ∧
      (∀ k, k ≤ m → ∃ L, (sts k).h = h0 ++ .cells zs :: L ∧ ∀ b ∈ L, missB h0.length b = true) ∧ (∀ k o, k < m → os[k]? = some o → Mid3 P lo2 h0 zs i sts k o) ∧
      (∀ k, k ≤ m → ∀ (t : Nat) x, (sts k).t[t]? = some x → dA ≠ t → missV h0.length x = true) := by
  intro os
  induction os with
  | nil =>
    intro i K st h hb hs
    exact ⟨fun _ => st, 0, rfl, by simp, h.2, Nat.le_refl _, by intro k _ hk; simp at hk, fun k _ => hb, by intro k o hk; omega, fun k _ => hs⟩
  | cons o os ih =>
    intro i K st h hb hs
    unfold dopsWp3 at h
    split at h
    · obtain ⟨-, hall, h⟩ := h
      obtain ⟨sts, e0, e1, e2⟩ := dops_trace h
      refine ⟨sts, 0, e0, fun k o' hk => (e1 k o' hk).1, e2, Nat.zero_le _, fun k _ hk => hall k (by simp at hk; omega), fun k hk => ?_, by intro k o hk; omega, fun k hk => ?_⟩
      · have : k = 0 := by omega
        subst this
        rw [e0]; exact hb
      · have : k = 0 := by omega
        subst this
        rw [e0]; exact hs
    · have step : ∀ (v : AV) (L1 : List Blk), missV h0.length v = true → (∀ k ∈ L1, missB h0.length k = true) → GStep P o st ⟨putT st.t o.dst v, st.h ++ L1⟩ →
          dopsWp3 P lo lo2 h0 zs dA true (i + 1) os K ⟨putT st.t o.dst v, st.h ++ L1⟩ →
          (lo2 i = true ∧ GStep P o ⟨st.t, st.h.set h0.length .dead⟩ ⟨putT st.t o.dst v, (st.h ++ L1).set h0.length .dead⟩ ∨
            L1 = [] ∧ ∀ L, GStep P o ⟨st.t, h0 ++ .cells zs :: L⟩ ⟨putT st.t o.dst v, h0 ++ .cells zs :: L⟩ ∧ GStep P o ⟨st.t, h0 ++ .dead :: L⟩ ⟨putT st.t o.dst v, h0 ++ .dead :: L⟩) →
          ∃ (sts : Nat → St) (m : Nat), sts 0 = st ∧ (∀ k o', (o :: os)[k]? = some o' → GStep P o' (sts k) (sts (k + 1))) ∧ K (sts (o :: os).length) ∧ m ≤ (o :: os).length ∧ (∀ k, m ≤ k → k < (o :: os).length → lo (i + k) = true) ∧
            (∀ k, k ≤ m → ∃ L, (sts k).h = h0 ++ .cells zs :: L ∧ ∀ b ∈ L, missB h0.length b = true) ∧ (∀ k o', k < m → (o :: os)[k]? = some o' → Mid3 P lo2 h0 zs i sts k o') ∧
            (∀ k, k ≤ m → ∀ (t : Nat) x, (sts k).t[t]? = some x → dA ≠ t → missV h0.length x = true) := by
        intro v L1 hv hL1 hg hk hmid
        obtain ⟨L0, hL0, hL0m⟩ := hb
        obtain ⟨sts, m, e0, e1, e2, e3, e4, e5, e6, e7⟩ := ih hk ⟨L0 ++ L1, by simp [hL0], fun b hb' => by
          rcases List.mem_append.1 hb' with h | h
          · exact hL0m b h
          · exact hL1 b h⟩ (fun t x hx hne => (put_miss hv hx).elim id fun h => hs t x h hne)
        refine ⟨fun | 0 => st | k + 1 => sts k, m + 1, rfl, fun k o' hk' => ?_, e2, by simp; omega, fun k hk' hkl => ?_, fun k hk' => ?_, fun k o' hk' ho' => ?_, fun k hk' => ?_⟩
        · cases k with
          | zero => simp at hk'; subst hk'; simp only [e0]; exact hg
          | succ k => exact e1 k o' (by simpa using hk')
        · cases k with
          | zero => omega
          | succ k => have := e4 k (by omega) (by simpa using hkl); rwa [show i + 1 + k = i + (k + 1) by omega] at this
        · cases k with
          | zero => exact ⟨L0, hL0, hL0m⟩
          | succ k => exact e5 k (by omega)
        · cases k with
          | zero =>
            simp at ho'; subst ho'
            rcases hmid with ⟨h1, h2⟩ | ⟨h1, h2⟩
            · refine .inl ⟨h1, ?_, ?_⟩
              · simp only [e0]; exact hg
              · simp only [e0]; exact h2
            · subst h1
              refine .inr ⟨fun hl => hl (by simp only [e0, List.append_nil]), fun L => ?_⟩
              simp only [e0]; exact h2 L
          | succ k =>
            rcases e6 k o' (by omega) (by simpa using ho') with ⟨f1, f2, f3⟩ | ⟨f1, f2⟩
            · rw [show i + 1 + k = i + (k + 1) by omega] at f1; exact .inl ⟨f1, f2, f3⟩
            · exact .inr ⟨f1, f2⟩
        · cases k with
          | zero => exact hs
          | succ k => exact e7 k (by omega)
      rcases h with ⟨h, -⟩ | ⟨hg, v, hv, hL, hD, h⟩ | ⟨hg, hu, v, L1, hv, hL1, hst, hsd, h⟩
      · cases h
      · obtain ⟨L0, hL0, -⟩ := id hb
        refine step v [] hv (by simp) ?_ (by simpa using h) (.inr ⟨rfl, fun L => ⟨?_, ?_⟩⟩)
        · simp only [GStep, hg, List.append_nil]
          have := hL L0
          rw [← hL0] at this
          exact ⟨v, _, this, rfl⟩
        · simp only [GStep, hg]; exact ⟨v, _, hL L, rfl⟩
        · simp only [GStep, hg]; exact ⟨v, _, hD L, rfl⟩
      · refine step v L1 hv hL1 ?_ h (.inl ⟨hu, ?_⟩)
        · simp only [GStep, hg]; exact ⟨v, _, hst, rfl⟩
        · obtain ⟨L0, hL0, -⟩ := id hb
          have hlt : h0.length < st.h.length := by rw [hL0]; simp
          simp only [GStep, hg]
          rw [List.set_append_left _ _ hlt]
          exact ⟨v, _, hsd, rfl⟩

/-- Ahead of it. -/
theorem dops3_trace {lo lo2 : Nat → Bool} {h0 : List Blk} : ∀ {os : List OpR} {i : Nat} {K : St → Prop} {st : St}, dopsWp3 P lo lo2 h0 zs dA false i os K st → (∃ L, st.h = h0 ++ .cells zs :: L ∧ ∀ b ∈ L, missB h0.length b = true) →
    (∀ (t : Nat) x, st.t[t]? = some x → missV h0.length x = true) →
    ∃ (sts : Nat → St) (m A : Nat), sts 0 = st ∧ A < m ∧ os[A]? = some ⟨some dA, .alloc zs, none⟩ ∧ sts (A + 1) = ⟨(sts A).t.set dA (.pbox h0.length 0), (sts A).h⟩ ∧ (∀ k o, os[k]? = some o → k ≠ A → GStep P o (sts k) (sts (k + 1))) ∧ K (sts os.length) ∧ m ≤ os.length ∧
      (∀ k, m ≤ k → k < os.length → lo (i + k) = true) ∧ (∀ k, k ≤ m → ∃ L, (sts k).h = h0 ++ .cells zs :: L ∧ ∀ b ∈ L, missB h0.length b = true) ∧ (∀ k o, k < m → k ≠ A → os[k]? = some o → Mid3 P lo2 h0 zs i sts k o) ∧
      (∀ k, k ≤ m → ∀ (t : Nat) x, (sts k).t[t]? = some x → (k ≤ A ∨ dA ≠ t) → missV h0.length x = true) := by
  intro os
  induction os with
  | nil => intro i K st h; exact absurd h.1 (by simp)
  | cons o os ih =>
    intro i K st h hb hs
    unfold dopsWp3 at h
    split at h
    · exact absurd h.1 (by simp)
    · have step : ∀ (v : AV) (L1 : List Blk), missV h0.length v = true → (∀ k ∈ L1, missB h0.length k = true) → GStep P o st ⟨putT st.t o.dst v, st.h ++ L1⟩ →
          dopsWp3 P lo lo2 h0 zs dA false (i + 1) os K ⟨putT st.t o.dst v, st.h ++ L1⟩ →
          (lo2 i = true ∧ GStep P o ⟨st.t, st.h.set h0.length .dead⟩ ⟨putT st.t o.dst v, (st.h ++ L1).set h0.length .dead⟩ ∨
            L1 = [] ∧ ∀ L, GStep P o ⟨st.t, h0 ++ .cells zs :: L⟩ ⟨putT st.t o.dst v, h0 ++ .cells zs :: L⟩ ∧ GStep P o ⟨st.t, h0 ++ .dead :: L⟩ ⟨putT st.t o.dst v, h0 ++ .dead :: L⟩) →
          ∃ (sts : Nat → St) (m A : Nat), sts 0 = st ∧ A < m ∧ (o :: os)[A]? = some ⟨some dA, .alloc zs, none⟩ ∧ sts (A + 1) = ⟨(sts A).t.set dA (.pbox h0.length 0), (sts A).h⟩ ∧ (∀ k o', (o :: os)[k]? = some o' → k ≠ A → GStep P o' (sts k) (sts (k + 1))) ∧ K (sts (o :: os).length) ∧ m ≤ (o :: os).length ∧
            (∀ k, m ≤ k → k < (o :: os).length → lo (i + k) = true) ∧ (∀ k, k ≤ m → ∃ L, (sts k).h = h0 ++ .cells zs :: L ∧ ∀ b ∈ L, missB h0.length b = true) ∧ (∀ k o', k < m → k ≠ A → (o :: os)[k]? = some o' → Mid3 P lo2 h0 zs i sts k o') ∧
            (∀ k, k ≤ m → ∀ (t : Nat) x, (sts k).t[t]? = some x → (k ≤ A ∨ dA ≠ t) → missV h0.length x = true) := by
        intro v L1 hv hL1 hg hk hmid
        obtain ⟨L0, hL0, hL0m⟩ := hb
        obtain ⟨sts, m, A, e0, eA, eO, eS, e1, e2, e3, e4, e5, e6, e7⟩ := ih hk ⟨L0 ++ L1, by simp [hL0], fun b hb' => by
          rcases List.mem_append.1 hb' with h | h
          · exact hL0m b h
          · exact hL1 b h⟩ (fun t x hx => (put_miss hv hx).elim id fun h => hs t x h)
        refine ⟨fun | 0 => st | k + 1 => sts k, m + 1, A + 1, rfl, by omega, by simpa using eO, eS, fun k o' hk' hkA => ?_, e2, by simp; omega, fun k hk' hkl => ?_, fun k hk' => ?_, fun k o' hk' hkA ho' => ?_, fun k hk' t x hx ht => ?_⟩
        · cases k with
          | zero => simp at hk'; subst hk'; simp only [e0]; exact hg
          | succ k => exact e1 k o' (by simpa using hk') (by omega)
        · cases k with
          | zero => omega
          | succ k => have := e4 k (by omega) (by simpa using hkl); rwa [show i + 1 + k = i + (k + 1) by omega] at this
        · cases k with
          | zero => exact ⟨L0, hL0, hL0m⟩
          | succ k => exact e5 k (by omega)
        · cases k with
          | zero =>
            simp at ho'; subst ho'
            rcases hmid with ⟨h1, h2⟩ | ⟨h1, h2⟩
            · refine .inl ⟨h1, ?_, ?_⟩
              · simp only [e0]; exact hg
              · simp only [e0]; exact h2
            · subst h1
              refine .inr ⟨fun hl => hl (by simp only [e0, List.append_nil]), fun L => ?_⟩
              simp only [e0]; exact h2 L
          | succ k =>
            rcases e6 k o' (by omega) (by omega) (by simpa using ho') with ⟨f1, f2, f3⟩ | ⟨f1, f2⟩
            · rw [show i + 1 + k = i + (k + 1) by omega] at f1; exact .inl ⟨f1, f2, f3⟩
            · exact .inr ⟨f1, f2⟩
        · cases k with
          | zero => exact hs t x hx
          | succ k => exact e7 k (by omega) t x hx (ht.imp (by omega) id)
      rcases h with ⟨-, rfl, h⟩ | ⟨hg, v, hv, hL, hD, h⟩ | ⟨hg, hu, v, L1, hv, hL1, hst, hsd, h⟩
      · obtain ⟨L0, hL0, hL0m⟩ := hb
        obtain ⟨sts, m, e0, e1, e2, e3, e4, e5, e6, e7⟩ := dops3b_trace h ⟨L0, hL0, hL0m⟩ (fun t x hx hne => by
          simp only [List.getElem?_set_ne hne] at hx
          exact hs t x hx)
        refine ⟨fun | 0 => st | k + 1 => sts k, m + 1, 0, rfl, by omega, by simp, e0, fun k o' hk' hkA => ?_, e2, by simp; omega, fun k hk' hkl => ?_, fun k hk' => ?_, fun k o' hk' hkA ho' => ?_, fun k hk' t x hx ht => ?_⟩
        · cases k with
          | zero => exact absurd rfl hkA
          | succ k => exact e1 k o' (by simpa using hk')
        · cases k with
          | zero => omega
          | succ k => have := e4 k (by omega) (by simpa using hkl); rwa [show i + 1 + k = i + (k + 1) by omega] at this
        · cases k with
          | zero => exact ⟨L0, hL0, hL0m⟩
          | succ k => exact e5 k (by omega)
        · cases k with
          | zero => exact absurd rfl hkA
          | succ k =>
            rcases e6 k o' (by omega) (by simpa using ho') with ⟨f1, f2, f3⟩ | ⟨f1, f2⟩
            · rw [show i + 1 + k = i + (k + 1) by omega] at f1; exact .inl ⟨f1, f2, f3⟩
            · exact .inr ⟨f1, f2⟩
        · cases k with
          | zero => exact hs t x hx
          | succ k => exact e7 k (by omega) t x hx (ht.resolve_left (by omega))
      · obtain ⟨L0, hL0, -⟩ := id hb
        refine step v [] hv (by simp) ?_ (by simpa using h) (.inr ⟨rfl, fun L => ⟨?_, ?_⟩⟩)
        · simp only [GStep, hg, List.append_nil]
          have := hL L0
          rw [← hL0] at this
          exact ⟨v, _, this, rfl⟩
        · simp only [GStep, hg]; exact ⟨v, _, hL L, rfl⟩
        · simp only [GStep, hg]; exact ⟨v, _, hD L, rfl⟩
      · refine step v L1 hv hL1 ?_ h (.inl ⟨hu, ?_⟩)
        · simp only [GStep, hg]; exact ⟨v, _, hst, rfl⟩
        · obtain ⟨L0, hL0, -⟩ := id hb
          have hlt : h0.length < st.h.length := by rw [hL0]; simp
          simp only [GStep, hg]
          rw [List.set_append_left _ _ hlt]
          exact ⟨v, _, hsd, rfl⟩

theorem GStep.put {o : OpR} {st st' : St} (h : GStep P o st st') : ∃ v, st'.t = putT st.t o.dst v := gstep_slot h

theorem dops_sound3 {lo lo2 : Nat → Bool} (hlo2 : ∀ k, k < ops.size → lo2 k = true → ∀ j, j < ops.size → lo2 j = true → j ≠ k → j ∈ D k ∨ k ∈ D j) (hlo : ∀ k, k < ops.size → lo k = true → ∀ j, j < ops.size → j ≠ k → j ∈ D k ∨ k ∈ D j) (hD : DOk ops os' D) (hops : All2 (COper P ops) os' ops.toList)
    (hmix : P.follows .mixedOrders = true) {Q : Exit → Act → World → Prop} {K : St → Prop} {st : St} {w : World} {μ : Mu} {a : Act} (hk : dopsWp3 P lo lo2 st.h zs dA false 0 os' K ⟨st.t, st.h ++ [.cells zs]⟩) (R : Rel B w st.h μ) (hs : Slots B w st.h μ st.t a) {id : Nat}
    (hQ : ∀ st' a' w' μ', K st' → Rel B w' st'.h μ' → Slots B w' st'.h μ' st'.t a' → a'.defers = a.defers → Ext B w st.h μ w' st'.h μ' → Q .normal a' w') : (Code.region id ops true).wp P Q a w := by
  obtain ⟨sts, m, A, h0, hAm, hO, hS, h1, h2, hm, hm2, hm3, hm4, hm5⟩ := dops3_trace hk ⟨[], by simp⟩ (fun t x hx => missV_old (hs.2 t x hx))
  have hL := hD.len
  have hle : m ≤ ops.size := by omega
  have hlo' : ∀ k, m ≤ k → k < ops.size → lo k = true := fun k h h' => by have := hm2 k h (by omega); rwa [Nat.zero_add] at this
  have hAn : A < ops.size := by omega
  -- what stands behind 'm' waits for 'A'
  have hAD : ∀ k, m ≤ k → k < ops.size → A ∈ D k := fun k h h' => by
    rcases hlo k h' (hlo' k h h') A hAn (by omega) with e | e
    · exact e
    · have := D_lt hD A k e; omega
  have hquietA : ¬ loud sts A := fun h => h (by rw [hS])
  have hls : ∀ k, k < m → loud sts k → lo2 k = true := fun k hkm hlk => by
    have hkA : k ≠ A := fun e => hquietA (e ▸ hlk)
    rcases hm4 k _ hkm hkA (List.getElem?_eq_getElem (by omega)) with h | h
    · have := h.1; rwa [Nat.zero_add] at this
    · exact absurd hlk h.1
  have hloud : ∀ k, k < ops.size → loud sts k → ∀ j, j < ops.size → loud sts j → j ≠ k → j ∈ D k ∨ k ∈ D j := by
    intro k hkn hlk j hjn hlj hjk
    by_cases h : m ≤ k
    · exact hlo k hkn (hlo' k h hkn) j hjn hjk
    · by_cases h' : m ≤ j
      · exact (hlo j hjn (hlo' j h' hjn) k hkn (fun e => hjk e.symm)).symm
      · exact hlo2 k hkn (hls k (by omega) hlk) j hjn (hls j (by omega) hlj) hjk
  have hput : ∀ (k : Nat) o, os'[k]? = some o → ∃ v, (sts (k + 1)).t = putT (sts k).t o.dst v := by
    intro k o ho
    by_cases e : k = A
    · subst e
      rw [hO] at ho; cases ho
      exact ⟨.pbox st.h.length 0, by rw [hS]; rfl⟩
    · exact (h1 k o ho e).put
  have hkill : ∀ k, k ≤ m → ∃ L, (sts k).h = st.h ++ .cells zs :: L ∧ (sts k).h.set st.h.length .dead = st.h ++ .dead :: L := fun k hk => by
    obtain ⟨L, e, -⟩ := hm3 k hk
    exact ⟨L, e, by rw [e, set_cat]⟩
  have G3 : Reg3 P ops.size os' D sts st.h.length A dA zs := by
    refine ⟨hput, hloud, ?_, ?_, hO, hS, ?_, ?_⟩
    · intro k o ho hkA d hd
      by_cases hdd : d
      · rw [view_t hdd, view_t hdd]; exact h1 k o ho hkA
      · have hkn : k < ops.size := by have := (List.getElem?_eq_some_iff.1 ho).1; omega
        have hkm : k < m := by
          rcases Nat.lt_or_ge k m with h | h
          · exact h
          · exact absurd (hd (hAD k h hkn)) hdd
        rw [view_f hdd, view_f hdd]
        rcases hm4 k o hkm hkA ho with ⟨-, -, h⟩ | ⟨hq, h⟩
        · exact h
        · obtain ⟨L, e1, e2⟩ := hkill k (by omega)
          have hq' : (sts (k + 1)).h = (sts k).h := Classical.not_not.1 hq
          rw [hq', e2]
          exact (h L).2
    · intro j hjn hjA hqj d hd q hqn c1 c2 o' ho'
      have stab : (∀ k, k < ops.size → loud sts k → j ≠ k → j ∈ D k ∨ k ∈ D j) → (sts q).h = (sts j).h := by
        intro hall
        rcases Nat.lt_or_ge q j with h | h
        · have := heap_same (sts := sts) (j - q) q fun k hk hkj hlk => by
            rcases hall k (by omega) hlk (by omega) with e | e
            · have := D_lt hD k j e; omega
            · exact c2 k (by omega) hlk hk e
          rw [show q + (j - q) = j by omega] at this
          exact this.symm
        · have := heap_same (sts := sts) (q - j) j fun k hk hkq hlk => by
            by_cases e : k = j
            · subst e; exact hqj hlk
            · rcases hall k (by omega) hlk (fun e' => e e'.symm) with e | e
              · exact c1 k (by omega) hlk (by omega) e
              · have := D_lt hD j k e; omega
          rw [show j + (q - j) = q by omega] at this
          exact this
      have hq' : (sts (j + 1)).h = (sts j).h := Classical.not_not.1 hqj
      by_cases h : m ≤ j
      · have hdd : d := hd (hAD j h hjn)
        have hsame := stab fun k hk _ hjk => (hlo j hjn (hlo' j h hjn) k hk (fun e => hjk e.symm)).symm
        rw [view_t hdd, hsame]
        have := h1 j o' ho' hjA
        have e : sts (j + 1) = ⟨(sts (j + 1)).t, (sts j).h⟩ := by rw [← hq']
        rw [e] at this
        exact this
      · rcases hm4 j o' (by omega) hjA ho' with ⟨e, g1, g2⟩ | ⟨-, g⟩
        · rw [Nat.zero_add] at e
          have hsame := stab fun k hk hlk hjk => by
            by_cases h' : m ≤ k
            · exact hlo k hk (hlo' k h' hk) j hjn hjk
            · exact hlo2 k hk (hls k (by omega) hlk) j hjn e hjk
          rw [hsame]
          by_cases hdd : d
          · rw [view_t hdd]
            have e2 : sts (j + 1) = ⟨(sts (j + 1)).t, (sts j).h⟩ := by rw [← hq']
            rw [e2] at g1
            exact g1
          · rw [view_f hdd]
            rw [hq'] at g2
            exact g2
        · have hqm : ∃ L, (sts q).h = st.h ++ .cells zs :: L := by
            rcases Nat.lt_or_ge m q with h3 | h3
            · have := heap_same (sts := sts) (q - m) m fun k hk hkq hlk => by
                rcases hlo k (by omega) (hlo' k hk (by omega)) j hjn (by omega) with e1 | e1
                · exact c1 k (by omega) hlk (by omega) e1
                · have := D_lt hD j k e1; omega
              rw [show m + (q - m) = q by omega] at this
              rw [this]
              obtain ⟨L, e, -⟩ := hm3 m (Nat.le_refl _)
              exact ⟨L, e⟩
            · obtain ⟨L, e, -⟩ := hm3 q h3
              exact ⟨L, e⟩
          obtain ⟨L, hL2⟩ := hqm
          rw [hL2]
          by_cases hdd : d
          · rw [view_t hdd]; exact (g L).1
          · rw [view_f hdd, set_cat]; exact (g L).2
    · intro dn hcl hnd q hqn hcq
      have hq : ∃ q', q' ≤ m ∧ (sts q).h = (sts q').h := by
        rcases Nat.lt_or_ge m q with h3 | h3
        · refine ⟨m, Nat.le_refl _, ?_⟩
          have := heap_same (sts := sts) (q - m) m fun k hk hkq hlk => hnd (hcl k A (hcq.1 k (by omega) (by omega) hlk) (hAD k hk (by omega)))
          rwa [show m + (q - m) = q by omega] at this
        · exact ⟨q, h3, rfl⟩
      obtain ⟨q', hq', e⟩ := hq
      obtain ⟨L, e2, hLm⟩ := hm3 q' hq'
      rw [e, e2]
      refine ⟨by simp, fun b k hb hk => ?_⟩
      rcases Nat.lt_or_ge b st.h.length with h | h
      · rw [List.getElem?_append_left h] at hk
        exact R.missB_old hk
      · rw [List.getElem?_append_right h] at hk
        obtain ⟨c, hc⟩ : ∃ c, b - st.h.length = c + 1 := ⟨b - st.h.length - 1, by omega⟩
        rw [hc, List.getElem?_cons_succ] at hk
        exact hLm k (List.mem_of_getElem? hk)
    · intro dn hcl hnd k hkn t x hx hct
      have key : ∀ k', k' ≤ m → (sts k').t[t]? = some x → (k' ≤ A ∨ dA ≠ t) → missV st.h.length x = true := fun k' hk' hx' h => hm5 k' hk' t x hx' h
      have hdt : A < k → dA ≠ t := fun h e => hnd (hct.1 A _ h hO (by simp [e]))
      rcases Nat.lt_or_ge m k with h3 | h3
      · have := slot_same3 (os' := os') hput t (k - m) m (by omega) fun j p' hj hjk hp hpd => hnd (hcl j A (hct.1 j p' (by omega) hp hpd) (hAD j hj (by omega)))
        rw [show m + (k - m) = k by omega, hx] at this
        exact key m (Nat.le_refl _) this.symm (.inr (hdt (by omega)))
      · refine key k h3 hx ?_
        rcases Nat.lt_or_ge A k with h | h
        · exact .inr (hdt h)
        · exact .inl h
  obtain ⟨R0, E0⟩ := R.push .dead rfl
  obtain ⟨R1, E1⟩ := R0.world (w' := { w with drawn := w.drawn + 1 }) ((Below.refl _ _).drew)
  have EE := E0.trans E1
  have hnd : ∀ i, ¬ done (Array.replicate ops.size false) i := by
    intro i
    unfold done
    by_cases h : i < ops.size
    · simp [h]
    · simp [h]
  have hfull : (st.h ++ [Blk.cells zs]).set st.h.length .dead = st.h ++ [.dead] := set_cat
  refine wp_region_any hmix (drawn_any3 (B := B) (n := ops.size) (sts := sts) (w0 := w) (H0 := st.h) (μ0 := μ) (a0 := a) hD hops rfl (Nat.le_refl _) G3 ?_ ops.size _ a _ (st.h ++ [.dead]) μ ?_ ?_)
  · intro a' w' H' μ' listed hall J
    have hcH : curH ops.size sts (done listed) os'.length := ⟨fun j _ hjn _ => hall j hjn, fun j hj hjn _ => absurd hjn (by rw [hD.len] at hj; omega)⟩
    have hcT : ∀ t, curT os' (done listed) t os'.length := fun t => ⟨fun j p' hj _ _ => hall j (by rw [← hD.len]; exact hj), fun j p' hj hp _ => absurd (List.getElem?_eq_some_iff.1 hp).1 (by omega)⟩
    have hH := J.heap os'.length (by rw [hD.len]; exact Nat.le_refl _) hcH
    rw [view_t (hall A hAn)] at hH
    refine hQ (sts os'.length) a' w' μ' h2 (by rw [hH]; exact J.rel) ⟨?_, fun t x hx => ?_⟩ J.defers (by rw [hH]; exact J.ext)
    · rw [J.tmps, len_same3 hput os'.length (Nat.le_refl _)]
    · rw [hH]; exact J.slots os'.length (by rw [hD.len]; exact Nat.le_refl _) t x hx (hcT t)
  · unfold undone
    have : ∀ m, ((List.range m).filter fun i => (Array.replicate ops.size false)[i]? != some true).length = m := by
      intro m
      rw [List.filter_eq_self.2]
      · simp
      · intro i _
        by_cases h : i < ops.size
        · simp [h]
        · simp [h]
    exact this ops.size
  · refine ⟨by simp, R1, fun k hk hc => ?_, by rw [h0]; exact hs.1, fun k hk t x hx hc => ?_, rfl, EE, fun i o _ hd => absurd hd (hnd i)⟩
    · have := heap_same (sts := sts) k 0 fun j _ hj hl => hnd j (hc.1 j (by omega) (by omega) hl)
      rw [Nat.zero_add, h0] at this
      rw [view_f (hnd A), this]
      exact hfull
    · have := slot_same3 (os' := os') hput t k 0 (by rw [hD.len]; omega) fun j p' _ hj hp hpd => hnd j (hc.1 j p' (by omega) hp hpd)
      rw [Nat.zero_add, hx, h0] at this
      exact (hs.2 t x this.symm).ext EE

end

/-- The rule for code. -/
theorem cw_dreg3 {P : Program} {n0 : Nat} {lo lo2 : List Bool} {os : List OpR} {Q : Exit → St → Prop} {st : St} (zs : List AV) (dA : Nat)
    (h : dopsWp3 P (fun k => lo.getD k false) (fun k => lo2.getD k false) st.h zs dA false 0 os (Q .normal) ⟨st.t, st.h ++ [.cells zs]⟩) : CW P n0 (.dreg lo lo2 os) Q st := by
  intro code hc B w μ a R S
  cases hc with
  | dreg hlo2 hlo hD ho hmix =>
    exact dops_sound3 (lo := fun k => lo.getD k false) (lo2 := fun k => lo2.getD k false) hlo2 hlo hD ho hmix h R S fun st' a' w' μ' q R' S' d E => ⟨st', μ', q, R', S', d, E.extN n0⟩
end Go.Vm
