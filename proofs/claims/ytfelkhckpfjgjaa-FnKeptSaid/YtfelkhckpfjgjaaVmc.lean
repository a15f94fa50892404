/- A machine of plain values, part c: what the program's operations do, told of plain values. It holds over any program; no condition. -/
import Derived.Test.YtfelkhckpfjgjaaVmb
import Derived.Laws.Sem
set_option linter.unusedSimpArgs false
set_option linter.unusedVariables false
namespace Go.Vm
open Go.RowKit
def optOpd : Option Opd → List Opd
  | some x => [x]
  | none => []
def O.operands : O → List Opd
  | .mov x | .box x | .load _ _ x | .nchk x | .isnil _ x | .not x | .neg x | .conv _ x | .b2s x | .faddr _ x | .fld _ _ _ x | .extr x _ | .len x | .slen x => [x]
  | .pick c a b => [c, a, b]
  | .alloc _ => []
  | .bad => []
  | .cap x => [x]
  | .appz _ _ _ _ s n => [s, n]
  | .chk3 x lo hi mx => [x, lo, hi, mx]
  | .clear _ x => [x]
  | .build _ ps => ps.map fun (_, _, x) => x
  | .bsl _ _ _ _ ps => ps.map fun (_, x) => x
  | .store _ a v => [a, v]
  | .bin _ x y | .beq _ x y | .eqs _ _ x y | .iaddr _ x y | .idxs x y | .append _ _ _ x y | .appends _ _ x y | .copy x y | .min x y | .max x y => [x, y]
  | .mkfn _ cs => cs
  | .mksl _ _ _ _ l c => [l, c]
  | .slice _ x lo hi | .sslice x lo hi => x :: (optOpd lo ++ optOpd hi)
  | .call _ args => args
  | .callv x args => x :: args
theorem map_opt {ρ ρ' : Opd → AV} {lo : Option Opd} (h : ∀ x ∈ optOpd lo, ρ x = ρ' x) : lo.map ρ = lo.map ρ' := by
  cases lo with
  | none => rfl
  | some x => simp [h x (by simp [optOpd])]
theorem eval_congr {ρ ρ' : Opd → AV} {H : List Blk} {o : O} (h : ∀ x ∈ o.operands, ρ x = ρ' x) : o.eval ρ H = o.eval ρ' H := by
  cases o <;> simp only [O.operands, List.mem_cons, List.mem_append, List.not_mem_nil, or_false, forall_eq_or_imp, forall_eq, List.mem_map] at h <;> simp only [O.eval]
  case build zero ps =>
    have : (ps.map fun (x : Nat × Nat × Opd) => (x.1, x.2.1, ρ x.2.2)) = ps.map fun (x : Nat × Nat × Opd) => (x.1, x.2.1, ρ' x.2.2) :=
      List.map_congr_left fun x hx => by rw [h x.2.2 ⟨x, hx, rfl⟩]
    rw [this]
  case bsl e sz n zero ps =>
    have : (ps.map fun (x : Nat × Opd) => (x.1, ρ x.2)) = ps.map fun (x : Nat × Opd) => (x.1, ρ' x.2) :=
      List.map_congr_left fun x hx => by rw [h x.2 ⟨x, hx, rfl⟩]
    rw [this]
  case mkfn f cs =>
    have : cs.map ρ = cs.map ρ' := List.map_congr_left h
    rw [this]
  case slice sz x lo hi =>
    rw [h.1, map_opt (lo := lo) fun y hy => h.2 y (.inl hy), map_opt (lo := hi) fun y hy => h.2 y (.inr hy)]
  case sslice x lo hi =>
    rw [h.1, map_opt (lo := lo) fun y hy => h.2 y (.inl hy), map_opt (lo := hi) fun y hy => h.2 y (.inr hy)]
  case pick c a b => rw [h.1, h.2.1, h.2.2]
  case chk3 x lo hi mx => rw [h.1, h.2.1, h.2.2.1, h.2.2.2]
  all_goals first | rfl | rw [h] | rw [h.1, h.2]
theorem Step.congr {P : Program} {ρ ρ' : Opd → AV} {H H' : List Blk} {o : O} {v : AV} (h : ∀ x ∈ o.operands, ρ x = ρ' x) (s : Step P ρ H o v H') : Step P ρ' H o v H' := by
  cases s with
  | ev he => exact .ev (by rw [← eval_congr h]; exact he)
  | evZ he ht hl => exact .evZ (by rw [← eval_congr h]; exact he) ht hl
  | allocP hq hk hk2 => exact .allocP hq hk hk2
  | @callPl f args r r' k q ok hq hk hk2 hv => have e : args.map ρ = args.map ρ' := List.map_congr_left h; exact .callPl (e ▸ ok) hq hk hk2 hv
  | evX hx hb ht hc hne =>
    simp only [O.operands, optOpd, List.mem_cons, List.mem_append, List.not_mem_nil, or_false, forall_eq_or_imp, forall_eq] at h
    exact .evX (by rw [← h.1]; exact hx) hb ht (by rw [← h.2.1, ← h.2.2]; exact hc) hne
  | evP he hq hk hk2 hv => exact .evP (by rw [← eval_congr h]; exact he) hq hk hk2 hv
  | @callS f args pargs r hl ok hs => have e : args.map ρ = args.map ρ' := List.map_congr_left h; exact .callS (e ▸ hl) ok hs
  | @callP f args r hp ok => have e : args.map ρ = args.map ρ' := List.map_congr_left h; exact .callP (e ▸ hp) (e ▸ ok)
  | @callZ f args pargs r bs hl ok => have e : args.map ρ = args.map ρ' := List.map_congr_left h; exact .callZ bs (e ▸ hl) ok
  | @callH f args r H' ok => have e : args.map ρ = args.map ρ' := List.map_congr_left h; exact .callH (e ▸ ok)
  | @callvS x f caps args pargs r hx hc hl ok hs =>
    simp only [O.operands, List.mem_cons, forall_eq_or_imp] at h
    have e : args.map ρ = args.map ρ' := List.map_congr_left h.2
    exact .callvS (h.1 ▸ hx) hc (e ▸ hl) ok hs
  | @callvH x f caps args r H' hx hc ok =>
    simp only [O.operands, List.mem_cons, forall_eq_or_imp] at h
    have e : args.map ρ = args.map ρ' := List.map_congr_left h.2
    exact .callvH (h.1 ▸ hx) hc (e ▸ ok)
def OpR.reads (o : OpR) : List Nat :=
  (o.o.operands.filterMap fun | .t n => some n | .k _ => none) ++ (match o.guard with | some (t, _) => [t] | none => [])
def GStep (P : Program) (o : OpR) (st st' : St) : Prop :=
  match o.guard with
  | none => ∃ v H', Step P (Opd.ev st.t) st.h o.o v H' ∧ st' = ⟨putT st.t o.dst v, H'⟩
  | some (t, want) => match st.t.getD t .undef with
    | .bool b => (b = want ∧ ∃ v H', Step P (Opd.ev st.t) st.h o.o v H' ∧ st' = ⟨putT st.t o.dst v, H'⟩) ∨ (b ≠ want ∧ st' = ⟨putT st.t o.dst (.tup []), st.h⟩)
    | .tup [] => st' = ⟨putT st.t o.dst (.tup []), st.h⟩
    | _ => False
def dopsWp (P : Program) (lo : Nat → Bool) : Nat → List OpR → (St → Prop) → St → Prop
  | _, [], K, st => K st
  | i, o :: os, K, st => match o.guard with
    | none => ∃ v H', Step P (Opd.ev st.t) st.h o.o v H' ∧ (lo i = true ∨ H' = st.h) ∧ dopsWp P lo (i + 1) os K ⟨putT st.t o.dst v, H'⟩
    | some (t, want) => match st.t.getD t .undef with
      | .bool b => (b = want → ∃ v H', Step P (Opd.ev st.t) st.h o.o v H' ∧ (lo i = true ∨ H' = st.h) ∧ dopsWp P lo (i + 1) os K ⟨putT st.t o.dst v, H'⟩) ∧
          (b ≠ want → dopsWp P lo (i + 1) os K ⟨putT st.t o.dst (.tup []), st.h⟩)
      | .tup [] => dopsWp P lo (i + 1) os K ⟨putT st.t o.dst (.tup []), st.h⟩
      | _ => False
theorem dops_trace {P : Program} {lo : Nat → Bool} : ∀ {os : List OpR} {i : Nat} {K : St → Prop} {st : St}, dopsWp P lo i os K st →
    ∃ sts : Nat → St, sts 0 = st ∧ (∀ k o, os[k]? = some o → GStep P o (sts k) (sts (k + 1)) ∧ (lo (i + k) = true ∨ (sts (k + 1)).h = (sts k).h)) ∧ K (sts os.length) := by
  intro os
  induction os with
  | nil => intro i K st h; exact ⟨fun _ => st, rfl, by simp, h⟩
  | cons o os ih =>
    intro i K st h
    have next : ∀ st1 : St, GStep P o st st1 → (lo i = true ∨ st1.h = st.h) → dopsWp P lo (i + 1) os K st1 →
        ∃ sts : Nat → St, sts 0 = st ∧ (∀ k o', (o :: os)[k]? = some o' → GStep P o' (sts k) (sts (k + 1)) ∧ (lo (i + k) = true ∨ (sts (k + 1)).h = (sts k).h)) ∧ K (sts (o :: os).length) := by
      intro st1 hg hl hd
      obtain ⟨sts, h0, h1, h2⟩ := ih hd
      refine ⟨fun | 0 => st | k + 1 => sts k, rfl, fun k o' hk => ?_, h2⟩
      cases k with
      | zero => simp at hk; subst hk; simp only [h0]; exact ⟨hg, hl⟩
      | succ k =>
        simp at hk
        have := h1 k o' hk
        rw [show i + 1 + k = i + (k + 1) by omega] at this
        exact this
    simp only [dopsWp] at h
    cases hg : o.guard with
    | none =>
      simp only [hg] at h
      obtain ⟨v, H', hs, hl, hd⟩ := h
      exact next _ (by simp only [GStep, hg]; exact ⟨v, H', hs, rfl⟩) hl hd
    | some p =>
      obtain ⟨t, want⟩ := p
      simp only [hg] at h
      split at h
      · rename_i b hb
        by_cases e : b = want
        · obtain ⟨v, H', hs, hl, hd⟩ := h.1 e
          exact next _ (by simp only [GStep, hg, hb]; exact .inl ⟨e, v, H', hs, rfl⟩) hl hd
        · exact next ⟨putT st.t o.dst (.tup []), st.h⟩ (by simp only [GStep, hg, hb]; exact .inr ⟨e, trivial⟩) (.inr rfl) (h.2 e)
      · rename_i hb
        exact next ⟨putT st.t o.dst (.tup []), st.h⟩ (by simp only [GStep, hg, hb]) (.inr rfl) h
      · exact h.elim
section
variable {P : Program} {B : Base} {n : Nat} {ops : Array Oper} {os' : List OpR} {D : Nat → List Nat} {sts : Nat → St}
structure DOk (ops : Array Oper) (os' : List OpR) (D : Nat → List Nat) : Prop where
  len : os'.length = ops.size
  small : ∀ i o, ops[i]? = some o → ∀ e ∈ o.after, Region.binds .any e = true → e.on < i
  tab : ∀ i j, j ∈ D i → ∃ o e, ops[i]? = some o ∧ e ∈ o.after ∧ Region.binds .any e = true ∧ (e.on = j ∨ j ∈ D e.on)
  reads : ∀ (i : Nat) o', os'[i]? = some o' → ∀ t ∈ o'.reads, ∀ (j : Nat) p', os'[j]? = some p' → p'.dst = some t → j ≠ i → (j < i → j ∈ D i) ∧ (i < j → i ∈ D j)
  writes : ∀ (i : Nat) o', os'[i]? = some o' → ∀ (j : Nat) p', os'[j]? = some p' → ∀ t, o'.dst = some t → p'.dst = some t → i < j → i ∈ D j
def loud (sts : Nat → St) (j : Nat) : Prop := (sts (j + 1)).h ≠ (sts j).h
def done (listed : Array Bool) (i : Nat) : Prop := listed[i]? = some true
def curT (os' : List OpR) (dn : Nat → Prop) (t k : Nat) : Prop :=
  (∀ (j : Nat) p', j < k → os'[j]? = some p' → p'.dst = some t → dn j) ∧ (∀ (j : Nat) p', k ≤ j → os'[j]? = some p' → p'.dst = some t → ¬ dn j)
def curH (n : Nat) (sts : Nat → St) (dn : Nat → Prop) (k : Nat) : Prop :=
  (∀ j, j < k → j < n → loud sts j → dn j) ∧ (∀ j, k ≤ j → j < n → loud sts j → ¬ dn j)
theorem D_lt (h : DOk ops os' D) : ∀ i j, j ∈ D i → j < i := by
  intro i
  induction i using Nat.strongRecOn with
  | ind i ih =>
    intro j hj
    obtain ⟨o, e, ho, he, hb, hor⟩ := h.tab i j hj
    have hlt := h.small i o ho e he hb
    rcases hor with rfl | hor
    · exact hlt
    · exact Nat.lt_trans (ih e.on hlt j hor) hlt
theorem D_done (h : DOk ops os' D) {dn : Nat → Prop} (hcl : ∀ i o, ops[i]? = some o → dn i → ∀ e ∈ o.after, Region.binds .any e = true → dn e.on) : ∀ i j, dn i → j ∈ D i → dn j := by
  intro i
  induction i using Nat.strongRecOn with
  | ind i ih =>
    intro j hi hj
    obtain ⟨o, e, ho, he, hb, hor⟩ := h.tab i j hj
    have hlt := h.small i o ho e he hb
    have hd := hcl i o ho hi e he hb
    rcases hor with rfl | hor
    · exact hd
    · exact ih e.on hlt j hd hor
theorem heap_same {sts : Nat → St} : ∀ (d a : Nat), (∀ j, a ≤ j → j < a + d → ¬ loud sts j) → (sts (a + d)).h = (sts a).h
  | 0, a, _ => rfl
  | d + 1, a, h => by
    have h1 := heap_same d a fun j hj hj2 => h j hj (by omega)
    have h2 : (sts (a + d + 1)).h = (sts (a + d)).h := Classical.not_not.1 (h (a + d) (by omega) (by omega))
    rw [show a + (d + 1) = a + d + 1 by omega, h2, h1]
theorem gstep_slot {P : Program} {o : OpR} {st st' : St} (h : GStep P o st st') : ∃ v, st'.t = putT st.t o.dst v := by
  unfold GStep at h
  split at h
  · obtain ⟨v, H', _, rfl⟩ := h; exact ⟨v, rfl⟩
  · split at h
    · rcases h with ⟨_, v, H', _, rfl⟩ | ⟨_, rfl⟩
      · exact ⟨v, rfl⟩
      · exact ⟨_, rfl⟩
    · subst h; exact ⟨_, rfl⟩
    · exact h.elim
theorem putT_other {t : List AV} {dst : Option Nat} {v : AV} {i : Nat} (h : dst ≠ some i) : (putT t dst v)[i]? = t[i]? := by
  cases dst with
  | none => rfl
  | some d => simp only [putT]; exact List.getElem?_set_ne (fun e => h (by rw [e]))
theorem putT_length {t : List AV} {dst : Option Nat} {v : AV} : (putT t dst v).length = t.length := by cases dst <;> simp [putT]
theorem slot_same {P : Program} {sts : Nat → St} (hst : ∀ (k : Nat) o, os'[k]? = some o → GStep P o (sts k) (sts (k + 1))) (t : Nat) :
    ∀ (d a : Nat), a + d ≤ os'.length → (∀ (j : Nat) p', a ≤ j → j < a + d → os'[j]? = some p' → p'.dst ≠ some t) → (sts (a + d)).t[t]? = (sts a).t[t]?
  | 0, a, _, _ => rfl
  | d + 1, a, hn, h => by
    have h1 := slot_same hst t d a (by omega) fun j p' hj hj2 => h j p' hj (by omega)
    have hlt : a + d < os'.length := by omega
    obtain ⟨v, hv⟩ := gstep_slot (hst (a + d) _ (List.getElem?_eq_getElem hlt))
    rw [show a + (d + 1) = a + d + 1 by omega, hv, putT_other (h (a + d) _ (by omega) (by omega) (List.getElem?_eq_getElem hlt)), h1]
theorem len_same {P : Program} {sts : Nat → St} (hst : ∀ (k : Nat) o, os'[k]? = some o → GStep P o (sts k) (sts (k + 1))) : ∀ k, k ≤ os'.length → (sts k).t.length = (sts 0).t.length
  | 0, _ => rfl
  | k + 1, h => by
    obtain ⟨v, hv⟩ := gstep_slot (hst k _ (List.getElem?_eq_getElem (by omega)))
    rw [hv, putT_length, len_same hst k (by omega)]
structure DInv (B : Base) (n : Nat) (os' : List OpR) (ops : Array Oper) (sts : Nat → St) (w0 : World) (H0 : List Blk) (μ0 : Mu) (a0 : Act) (listed : Array Bool) (a : Act) (w : World) (H : List Blk) (μ : Mu) : Prop where
  size : listed.size = n
  rel : Rel B w H μ
  heap : ∀ k, k ≤ n → curH n sts (done listed) k → (sts k).h = H
  tmps : a.tmps.size = (sts 0).t.length
  slots : ∀ k, k ≤ n → ∀ t x, (sts k).t[t]? = some x → curT os' (done listed) t k → RepV B w H μ x (a.tmps.getD t undef)
  defers : a.defers = a0.defers
  ext : Ext B w0 H0 μ0 w H μ
  closed : ∀ i o, ops[i]? = some o → done listed i → ∀ e ∈ o.after, Region.binds .any e = true → done listed e.on
theorem ready_mem {listed : Array Bool} {i : Nat} (h : i ∈ Region.ready .any ops listed) : i < ops.size ∧ listed[i]? = some false ∧ ∃ o, ops[i]? = some o ∧ ∀ e ∈ o.after, Region.binds .any e = true → done listed e.on := by
  unfold Region.ready at h
  simp only [List.mem_filter, List.mem_range, Bool.and_eq_true, Bool.not_eq_true'] at h
  obtain ⟨h1, h2, h3⟩ := h
  refine ⟨h1, ?_, ?_⟩
  · cases hl : listed[i]? with
    | none => simp [Array.getD_eq_getD_getElem?, hl] at h2
    | some b => simp [Array.getD_eq_getD_getElem?, hl] at h2; rw [h2]
  · cases ho : ops[i]? with
    | none => simp [ho] at h3
    | some o =>
      simp only [ho, Option.map_some, Option.getD_some] at h3
      refine ⟨o, rfl, fun e he hb => ?_⟩
      have := Array.all_eq_true_iff_forall_mem.1 h3 e he
      simp only [hb, Bool.not_true, Bool.false_or] at this
      unfold done
      cases hl : listed[e.on]? with
      | none => simp [Array.getD_eq_getD_getElem?, hl] at this
      | some b => simp [Array.getD_eq_getD_getElem?, hl] at this; rw [this]
theorem done_set {listed : Array Bool} {i : Nat} (hi : i < listed.size) (j : Nat) : done (listed.setIfInBounds i true) j ↔ (j = i ∨ done listed j) := by
  unfold done
  by_cases h : j = i
  · subst h; simp [hi]
  · rw [Array.getElem?_setIfInBounds_ne (fun e => h e.symm)]
    simp [h]
theorem wanted_slot {ops : Array Oper} {a : Act} {t : List AV} {tt : Nat} {x : AV} (hs : t[tt]? = some x) (hsz : a.tmps.size = t.length) {B : Base} {w : World} {H : List Blk} {μ : Mu}
    (hr : RepV B w H μ x (a.tmps.getD tt undef)) {o : Oper} {j : Nat} {want : Bool} (hg : o.guard = some (j, want)) (hj : (ops[j]?).bind (·.dst) = some tt) :
    (∀ b, x = .bool b → Region.wanted o (yielded ops a.tmps) = decide (b = want)) ∧ (x = .tup [] → Region.wanted o (yielded ops a.tmps) = false) := by
  have hlt : tt < a.tmps.size := by rw [hsz]; exact (List.getElem?_eq_some_iff.1 hs).1
  constructor
  · rintro b rfl
    have hr' := hr.bool_inv
    have hv : a.tmps[tt]? = some (.bool b) := by
      rw [Array.getElem?_eq_getElem hlt]
      simpa [hlt] using hr'
    simp only [Region.wanted, hg, yielded, hj, Option.bind_some, hv]
    by_cases e : b = want <;> simp [e]
  · rintro rfl
    obtain ⟨vs, hv1, hv2⟩ := hr
    have hv : a.tmps[tt]? = some (.tuple vs) := by
      rw [Array.getElem?_eq_getElem hlt]
      simpa [hlt] using hv1
    simp only [Region.wanted, hg, yielded, hj, Option.bind_some, hv]
    rfl
def Stab (P : Program) (n : Nat) (os' : List OpR) (D : Nat → List Nat) (sts : Nat → St) (j : Nat) : Prop :=
  ∀ q, q ≤ n → (∀ k, k < n → loud sts k → k < q → j ∉ D k) → (∀ k, k < n → loud sts k → q ≤ k → k ∉ D j) → ∀ o', os'[j]? = some o' → GStep P o' ⟨(sts j).t, (sts q).h⟩ ⟨(sts (j + 1)).t, (sts q).h⟩
theorem cur_exists (hD : DOk ops os' D) {dn : Nat → Prop} (hl : ∀ k, k < n → loud sts k → ∀ j, j < n → loud sts j → j ≠ k → j ∈ D k ∨ k ∈ D j) (hcl : ∀ i j, dn i → j ∈ D i → dn j) : ∀ b, b ≤ n → ∃ q, q ≤ b ∧ (∀ j, j < q → loud sts j → dn j) ∧ (∀ j, q ≤ j → j < b → loud sts j → ¬ dn j)
  | 0, _ => ⟨0, Nat.le_refl _, by intro j hj; omega, by intro j _ hj; omega⟩
  | b + 1, hb => by
    obtain ⟨q, h1, h2, h3⟩ := cur_exists hD hl hcl b (by omega)
    by_cases h : loud sts b ∧ dn b
    · refine ⟨b + 1, Nat.le_refl _, fun j hj hlj => ?_, by intro j _ hj; omega⟩
      by_cases e : j = b
      · subst e; exact h.2
      · rcases hl b (by omega) h.1 j (by omega) hlj e with h4 | h4
        · exact hcl b j h.2 h4
        · have := D_lt hD j b h4; omega
    · refine ⟨q, by omega, h2, fun j hj hjb hlj hdj => ?_⟩
      by_cases e : j = b
      · subst e; exact h ⟨hlj, hdj⟩
      · exact h3 j hj (by omega) hlj hdj
theorem dinv_step {w0 : World} {H0 : List Blk} {μ0 : Mu} {a0 : Act} (hD : DOk ops os' D) (hops : All2 (COper P ops) os' ops.toList) (hn : n = ops.size)
    (hst : ∀ (k : Nat) o, os'[k]? = some o → GStep P o (sts k) (sts (k + 1))) (hloud : ∀ k, k < n → loud sts k → ∀ j, j < n → loud sts j → j ≠ k → j ∈ D k ∨ k ∈ D j) (hquiet : ∀ j, j < n → ¬ loud sts j → Stab P n os' D sts j)
    {listed : Array Bool} {a : Act} {w : World} {H : List Blk} {μ : Mu} (J : DInv B n os' ops sts w0 H0 μ0 a0 listed a w H μ) {i : Nat} (hi : i ∈ Region.ready .any ops listed)
    {K : Act → World → Prop} {Q : Exit → Act → World → Prop} (hK : ∀ a' w' H' μ', DInv B n os' ops sts w0 H0 μ0 a0 (listed.setIfInBounds i true) a' w' H' μ' → K a' w') : wpOp P ops Q i K a w := by
  obtain ⟨hin, hnot, o, ho, hedges⟩ := ready_mem hi
  have hil : i < os'.length := by rw [hD.len]; exact hin
  obtain ⟨o', ho'⟩ : ∃ o', os'[i]? = some o' := ⟨_, List.getElem?_eq_getElem hil⟩
  have hco : COper P ops o' o := by
    obtain ⟨o2, h2, h3⟩ := hops.get ho'
    have : ops.toList[i]? = some o := by simpa using ho
    rw [this] at h2; cases h2; exact h3
  have hnd : ¬ done listed i := by unfold done; rw [hnot]; simp
  have hpre : ∀ j, j ∈ D i → done listed j := by
    intro j hj
    obtain ⟨o2, e, ho2, he, hb, hor⟩ := hD.tab i j hj
    rw [ho] at ho2; cases ho2
    rcases hor with rfl | hor
    · exact hedges e he hb
    · exact D_done hD J.closed e.on j (hedges e he hb) hor
  have hpost : ∀ j, i ∈ D j → ¬ done listed j := fun j hj hdj => hnd (D_done hD J.closed j i hdj hj)
  have hcurT : ∀ t ∈ o'.reads, curT os' (done listed) t i := by
    intro t ht
    refine ⟨fun j p' hj hp hd => ?_, fun j p' hj hp hd => ?_⟩
    · exact hpre j ((hD.reads i o' ho' t ht j p' hp hd (by omega)).1 hj)
    · by_cases e : j = i
      · subst e; exact hnd
      · exact hpost j ((hD.reads i o' ho' t ht j p' hp hd e).2 (by omega))
  have hin' : i < n := by omega
  have G0 : ∃ Hn, GStep P o' ⟨(sts i).t, H⟩ ⟨(sts (i + 1)).t, Hn⟩ ∧ (loud sts i → Hn = (sts (i + 1)).h) ∧ (¬ loud sts i → Hn = H) := by
    by_cases hl : loud sts i
    · have hcurH : curH n sts (done listed) i := by
        refine ⟨fun j hj hjn hlj => ?_, fun j hj hjn hlj => ?_⟩
        · rcases hloud j hjn hlj i hin' hl (by omega) with h | h
          · exact absurd (D_lt hD j i h) (by omega)
          · exact hpre j h
        · by_cases e : j = i
          · subst e; exact hnd
          · rcases hloud j hjn hlj i hin' hl (fun e' => e e'.symm) with h | h
            · exact hpost j h
            · exact absurd (D_lt hD i j h) (by omega)
      have hH : (sts i).h = H := J.heap i (by omega) hcurH
      refine ⟨(sts (i + 1)).h, ?_, fun _ => rfl, fun h => absurd hl h⟩
      rw [← hH]
      exact hst i o' ho'
    · obtain ⟨q, h1, h2, h3⟩ := cur_exists hD hloud (D_done hD J.closed) n (Nat.le_refl _)
      have hq : (sts q).h = H := J.heap q h1 ⟨fun j hj _ hlj => h2 j hj hlj, fun j hj hjn hlj => h3 j hj hjn hlj⟩
      have := hquiet i hin' hl q h1 (fun k _ hlk hkq hik => hnd (D_done hD J.closed k i (h2 k hkq hlk) hik)) (fun k hkn hlk hqk hki => h3 k hqk hkn hlk (hpre k hki)) o' ho'
      rw [hq] at this
      exact ⟨H, this, fun h => absurd h hl, fun _ => rfl⟩
  obtain ⟨Hn, G, hHl, hHq⟩ := G0
  have hlen0 : (sts i).t.length = (sts 0).t.length := len_same hst i (by omega)
  have hil2 : i < listed.size := by rw [J.size, hn]; exact hin
  have fin : ∀ (v : AV) (val : Value) (w' : World) (μ' : Mu), (sts (i + 1)).t = putT (sts i).t o'.dst v → Rel B w' Hn μ' → Ext B w H μ w' Hn μ' → RepV B w' Hn μ' v val →
      DInv B n os' ops sts w0 H0 μ0 a0 (listed.setIfInBounds i true) (a.put o'.dst val) w' Hn μ' := by
    intro v val w' μ' hv R' E' hvr
    have hset := fun j => done_set (listed := listed) hil2 j
    refine ⟨by simp [J.size], R', fun k hk hc => ?_, by cases o'.dst <;> simp [Act.put, J.tmps], fun k hk t x hx hc => ?_, by rw [← J.defers]; cases o'.dst <;> rfl, J.ext.trans E', fun j p hp hd e he hb => ?_⟩
    · by_cases hl : loud sts i
      · have hik : i < k := by
          rcases Nat.lt_or_ge i k with h | h
          · exact h
          · exact absurd ((hset i).2 (.inl rfl)) (hc.2 i h (by omega) hl)
        have := heap_same (sts := sts) (k - (i + 1)) (i + 1) fun j hj hj2 hlj => by
          have hdj := hc.1 j (by omega) (by omega) hlj
          rcases (hset j).1 hdj with e | hdj
          · omega
          · rcases hloud j (by omega) hlj i (by omega) hl (by omega) with h | h
            · exact hpost j h hdj
            · exact absurd (D_lt hD i j h) (by omega)
        rw [hHl hl]
        rwa [show i + 1 + (k - (i + 1)) = k by omega] at this
      · rw [hHq hl]
        refine J.heap k hk ⟨fun j hj hjn hlj => ?_, fun j hj hjn hlj hdj => hc.2 j hj hjn hlj ((hset j).2 (.inr hdj))⟩
        rcases (hset j).1 (hc.1 j hj hjn hlj) with e | h
        · subst e; exact absurd hlj hl
        · exact h
    · by_cases hdt : o'.dst = some t
      · have hik : i < k := by
          rcases Nat.lt_or_ge i k with h | h
          · exact h
          · exact absurd ((hset i).2 (.inl rfl)) (hc.2 i o' h ho' hdt)
        have hs := slot_same (os' := os') hst t (k - (i + 1)) (i + 1) (by have := hD.len; omega) fun j p' hj hj2 hp hpd => by
          have hdj := hc.1 j p' (by omega) hp hpd
          rcases (hset j).1 hdj with e | hdj
          · omega
          · exact hpost j (hD.writes i o' ho' j p' hp t hdt hpd (by omega)) hdj
        rw [show i + 1 + (k - (i + 1)) = k by omega, hx, hv, hdt] at hs
        simp only [putT] at hs
        have hlt : t < (sts i).t.length := by
          have := (List.getElem?_eq_some_iff.1 hs.symm).1
          simpa using this
        rw [List.getElem?_set_self hlt] at hs
        cases hs
        have hlt' : t < a.tmps.size := by rw [J.tmps, ← hlen0]; exact hlt
        simp [Act.put, hdt, hlt']
        exact hvr
      · have hr := J.slots k hk t x hx ⟨fun j p' hj hp hpd => ?_, fun j p' hj hp hpd hdj => hc.2 j p' hj hp hpd ((hset j).2 (.inr hdj))⟩
        · have he : (a.put o'.dst val).tmps.getD t undef = a.tmps.getD t undef := by
            cases hd : o'.dst with
            | none => rfl
            | some d =>
              have : d ≠ t := fun e => hdt (by rw [hd, e])
              simp [Act.put, Array.getElem?_setIfInBounds_ne this]
          rw [he]
          exact hr.ext E'
        · rcases (hset j).1 (hc.1 j p' hj hp hpd) with e | h
          · subst e; rw [ho'] at hp; cases hp; exact absurd hpd hdt
          · exact h
    · rcases (hset j).1 hd with rfl | hdj
      · rw [ho] at hp; cases hp; exact (hset e.on).2 (.inr (hedges e he hb))
      · exact (hset e.on).2 (.inr (J.closed j p hp hdj e he hb))
  obtain ⟨hdst, hcc, hgd⟩ := hco
  have hslot : ∀ t ∈ o'.reads, ∀ x, (sts i).t[t]? = some x → RepV B w H μ x (a.tmps.getD t undef) := fun t ht x hx => J.slots i (by omega) t x hx (hcurT t ht)
  let ρ' : Opd → AV := fun x => match x with
    | .t m => if m ∈ o'.reads then (sts i).t.getD m .undef else .undef
    | .k v => v
  have hρ : ∀ x ∈ o'.o.operands, Opd.ev (sts i).t x = ρ' x := by
    intro x hx
    cases x with
    | k v => rfl
    | t m =>
      have : m ∈ o'.reads := by
        unfold OpR.reads
        exact List.mem_append_left _ (List.mem_filterMap.2 ⟨.t m, hx, rfl⟩)
      simp only [Opd.ev, ρ', if_pos this]
  have hOp : Opds B w H μ ρ' a := by
    intro x x' hx
    cases x with
    | tmp m =>
      simp only [cOpd, Option.some.injEq] at hx
      subst hx
      simp only [ρ', Act.eval]
      split
      · rename_i hm
        cases hi : (sts i).t[m]? with
        | none => simp [List.getD, hi]; trivial
        | some y => simp only [List.getD, hi, Option.getD_some]; exact hslot m hm y hi
      · trivial
    | const v =>
      simp only [cOpd] at hx
      obtain ⟨a', h1, rfl⟩ := Option.map_eq_some_iff.1 hx
      exact constAV_rep h1
    | func f =>
      simp only [cOpd, Option.some.injEq] at hx
      subst hx
      exact ⟨#[], rfl, .nil⟩
    | global g => simp [cOpd] at hx
  unfold wpOp
  rw [ho]
  simp only
  obtain ⟨dst, op, ty, pos, after, guard⟩ := o
  simp only at hdst hcc hgd
  have run : (∃ v H', Step P (Opd.ev (sts i).t) H o'.o v H' ∧ (⟨(sts (i + 1)).t, Hn⟩ : St) = ⟨putT (sts i).t o'.dst v, H'⟩) → ({ dst, op, type := ty, pos, after, guard } : Oper).wp P a w K Q := by
    rintro ⟨v, H', hs, he⟩
    have hs' := hs.congr hρ
    simp only [St.mk.injEq] at he
    obtain ⟨he1, he2⟩ := he
    refine step_wp J.rel hcc hOp hs' fun val w' μ' R' E' hv => ?_
    rw [← hdst]
    rw [← he2] at R' E' hv
    exact hK _ _ _ _ (fin v val w' μ' he1 R' E' hv)
  have skip : (⟨(sts (i + 1)).t, Hn⟩ : St) = ⟨putT (sts i).t o'.dst (.tup []), H⟩ → K (a.put dst undef) w := by
    intro he
    simp only [St.mk.injEq] at he
    obtain ⟨he1, hh⟩ := he
    rw [← hdst]
    refine hK _ _ Hn μ (fin (.tup []) undef w μ he1 ?_ ?_ repV_undef)
    · rw [hh]; exact J.rel
    · rw [hh]; exact Ext.refl _ _ _ _
  unfold GStep at G
  cases hg' : o'.guard with
  | none =>
    cases guard with
    | some _ => simp [hg'] at hgd
    | none =>
      rw [if_pos (by simp [Region.wanted])]
      simp only [hg'] at G
      exact .inl (run G)
  | some p =>
    obtain ⟨tt, want⟩ := p
    cases guard with
    | none => simp [hg'] at hgd
    | some q =>
      obtain ⟨j, want'⟩ := q
      simp only [hg'] at hgd G
      obtain ⟨rfl, hj⟩ := hgd
      have htr : tt ∈ o'.reads := by unfold OpR.reads; rw [hg']; simp
      split at G
      · rename_i b hb
        have hs := slot_of_getD hb (by simp)
        have W := (wanted_slot (ops := ops) hs (by rw [J.tmps, hlen0]) (hslot tt htr _ hs) (o := { dst, op, type := ty, pos, after, guard := some (j, want') }) rfl hj).1 b rfl
        rw [W]
        rcases G with ⟨e, G⟩ | ⟨e, G⟩
        · rw [if_pos (by simp [e])]; exact .inl (run G)
        · rw [if_neg (by simp [e])]; exact skip G
      · rename_i hb
        have hs := slot_of_getD hb (by simp)
        have W := (wanted_slot (ops := ops) hs (by rw [J.tmps, hlen0]) (hslot tt htr _ hs) (o := { dst, op, type := ty, pos, after, guard := some (j, want') }) rfl hj).2 rfl
        rw [W, if_neg (by simp)]
        exact skip G
      · exact G.elim
def undone (n : Nat) (listed : Array Bool) : Nat := ((List.range n).filter fun i => listed[i]? != some true).length
theorem filter_flip {p q : Nat → Bool} : ∀ {l : List Nat} {i : Nat}, l.Nodup → i ∈ l → p i = true → q i = false → (∀ j ∈ l, j ≠ i → q j = p j) → (l.filter p).length = (l.filter q).length + 1
  | [], _, _, h, _, _, _ => by simp at h
  | a :: l, i, hnd, hm, hp, hq, hs => by
    have hnd' := List.nodup_cons.1 hnd
    by_cases e : a = i
    · subst e
      have hsame : l.filter p = l.filter q := List.filter_congr fun j hj => (hs j (by simp [hj]) (fun e => hnd'.1 (e ▸ hj))).symm
      simp [hp, hq, hsame]
    · have hm' : i ∈ l := by
        rcases List.mem_cons.1 hm with h | h
        · exact absurd h.symm e
        · exact h
      have ih := filter_flip hnd'.2 hm' hp hq fun j hj => hs j (by simp [hj])
      have ha := hs a (by simp) e
      simp only [List.filter_cons, ha]
      cases p a <;> simp [ih]
theorem drawn_any {w0 : World} {H0 : List Blk} {μ0 : Mu} {a0 : Act} (hD : DOk ops os' D) (hops : All2 (COper P ops) os' ops.toList) (hn : n = ops.size)
    (hst : ∀ (k : Nat) o, os'[k]? = some o → GStep P o (sts k) (sts (k + 1))) (hloud : ∀ k, k < n → loud sts k → ∀ j, j < n → loud sts j → j ≠ k → j ∈ D k ∨ k ∈ D j) (hquiet : ∀ j, j < n → ¬ loud sts j → Stab P n os' D sts j)
    {Q : Exit → Act → World → Prop} (hQ : ∀ a w H μ listed, (∀ i, i < n → done listed i) → DInv B n os' ops sts w0 H0 μ0 a0 listed a w H μ → Q .normal a w) :
    ∀ (fuel : Nat) (listed : Array Bool) (a : Act) (w : World) (H : List Blk) (μ : Mu), undone n listed = fuel → DInv B n os' ops sts w0 H0 μ0 a0 listed a w H μ → wpAny P .any ops Q fuel listed a w := by
  have full : ∀ (listed : Array Bool) (a : Act) (w : World) (H : List Blk) (μ : Mu), DInv B n os' ops sts w0 H0 μ0 a0 listed a w H μ → Region.ready .any ops listed = [] → ∀ i, i < n → done listed i := by
    intro listed a w H μ J hr i
    induction i using Nat.strongRecOn with
    | ind i ih =>
      intro hi
      have hin : i < ops.size := by omega
      have hil : i < listed.size := by rw [J.size]; exact hi
      have hnm : i ∉ Region.ready .any ops listed := by rw [hr]; simp
      unfold Region.ready at hnm
      simp only [List.mem_filter, List.mem_range, Bool.and_eq_true, Bool.not_eq_true', not_and] at hnm
      have h2 := hnm hin
      have ho : ops[i]? = some ops[i] := Array.getElem?_eq_getElem hin
      have hall : (ops[i].after.all fun e => !Region.binds .any e || listed.getD e.on false) = true := by
        rw [Array.all_eq_true_iff_forall_mem]
        intro e he
        cases hb : Region.binds .any e with
        | false => rfl
        | true =>
          have hlt := hD.small i _ ho e he hb
          have := ih e.on hlt (by omega)
          unfold done at this
          simp [Array.getD_eq_getD_getElem?, this]
      have hd : listed[i]? = some listed[i] := Array.getElem?_eq_getElem hil
      unfold done
      cases hb : listed[i] with
      | true => rw [hd, hb]
      | false =>
        have := h2 (by simp [Array.getD_eq_getD_getElem?, hd, hb])
        simp only [ho, Option.map_some, Option.getD_some] at this
        exact absurd hall this
  intro fuel
  induction fuel with
  | zero =>
    intro listed a w H μ hu J
    have hall : ∀ i, i < n → done listed i := by
      intro i hi
      unfold undone at hu
      have := List.eq_nil_of_length_eq_zero hu
      rw [List.filter_eq_nil_iff] at this
      have := this i (List.mem_range.2 hi)
      unfold done
      simpa using this
    refine ⟨?_, hQ a w H μ listed hall J⟩
    cases hr : Region.ready .any ops listed with
    | nil => rfl
    | cons i is =>
      obtain ⟨h1, h2, _⟩ := ready_mem (ops := ops) (listed := listed) (i := i) (by rw [hr]; simp)
      have := hall i (by omega)
      unfold done at this
      rw [h2] at this
      cases this
  | succ fuel ih =>
    intro listed a w H μ hu J
    refine ⟨fun hr => hQ a w H μ listed (full listed a w H μ J hr) J, fun i hi => ?_⟩
    refine dinv_step hD hops hn hst hloud hquiet J hi fun a' w' H' μ' J' => ih _ a' w' H' μ' ?_ J'
    obtain ⟨h1, h2, _⟩ := ready_mem hi
    have hil : i < listed.size := by rw [J.size]; omega
    have := filter_flip (p := fun i => listed[i]? != some true) (q := fun j => (listed.setIfInBounds i true)[j]? != some true) (List.nodup_range (n := n)) (i := i) (List.mem_range.2 (by omega)) (by rw [h2]; rfl) (by simp [hil])
      (fun j _ hj => by rw [Array.getElem?_setIfInBounds_ne (fun e => hj e.symm)])
    unfold undone at hu ⊢
    omega
theorem stab_ordered (hD : DOk ops os' D) (hst : ∀ (k : Nat) o, os'[k]? = some o → GStep P o (sts k) (sts (k + 1))) {j : Nat} (hj : j < ops.size) (hq : ¬ loud sts j)
    (hall : ∀ k, k < ops.size → loud sts k → j ≠ k → j ∈ D k ∨ k ∈ D j) : Stab P ops.size os' D sts j := by
  intro q hqn h1 h2 o' ho'
  have hsame : (sts q).h = (sts j).h := by
    rcases Nat.lt_or_ge q j with h | h
    · have := heap_same (sts := sts) (j - q) q fun k hk hkj hlk => by
        rcases hall k (by omega) hlk (by omega) with e | e
        · have := D_lt hD k j e; omega
        · exact h2 k (by omega) hlk hk e
      rw [show q + (j - q) = j by omega] at this
      exact this.symm
    · have := heap_same (sts := sts) (q - j) j fun k hk hkq hlk => by
        by_cases e : k = j
        · subst e; exact hq hlk
        · rcases hall k (by omega) hlk (fun e' => e e'.symm) with e | e
          · exact h1 k (by omega) hlk (by omega) e
          · have := D_lt hD j k e; omega
      rw [show j + (q - j) = q by omega] at this
      exact this
  have hq' : (sts (j + 1)).h = (sts j).h := Classical.not_not.1 hq
  have := hst j o' ho'
  rw [hsame]
  have e : sts (j + 1) = ⟨(sts (j + 1)).t, (sts j).h⟩ := by rw [← hq']
  rw [e] at this
  exact this
theorem dops_sound {lo : Nat → Bool} (hlo : ∀ k, k < ops.size → lo k = true → ∀ j, j < ops.size → j ≠ k → j ∈ D k ∨ k ∈ D j) (hD : DOk ops os' D) (hops : All2 (COper P ops) os' ops.toList)
    (hmix : P.follows .mixedOrders = true) {Q : Exit → Act → World → Prop} {K : St → Prop} {st : St} {w : World} {μ : Mu} {a : Act} (hk : dopsWp P lo 0 os' K st) (R : Rel B w st.h μ) (hs : Slots B w st.h μ st.t a) {id : Nat}
    (hQ : ∀ st' a' w' μ', K st' → Rel B w' st'.h μ' → Slots B w' st'.h μ' st'.t a' → a'.defers = a.defers → Ext B w st.h μ w' st'.h μ' → Q .normal a' w') : (Code.region id ops true).wp P Q a w := by
  obtain ⟨sts, h0, h1, h2⟩ := dops_trace hk
  subst h0
  have hst : ∀ (k : Nat) o, os'[k]? = some o → GStep P o (sts k) (sts (k + 1)) := fun k o ho => (h1 k o ho).1
  have hloud0 : ∀ k, k < ops.size → loud sts k → ∀ j, j < ops.size → j ≠ k → j ∈ D k ∨ k ∈ D j := by
    intro k hkn hl
    have hkl : k < os'.length := by rw [hD.len]; exact hkn
    rcases (h1 k _ (List.getElem?_eq_getElem hkl)).2 with h | h
    · rw [Nat.zero_add] at h; exact hlo k hkn h
    · exact absurd h hl
  have hloud : ∀ k, k < ops.size → loud sts k → ∀ j, j < ops.size → loud sts j → j ≠ k → j ∈ D k ∨ k ∈ D j := fun k hk hl j hj _ hjk => hloud0 k hk hl j hj hjk
  have hquiet : ∀ j, j < ops.size → ¬ loud sts j → Stab P ops.size os' D sts j := fun j hj hq => stab_ordered hD hst hj hq fun k hk hl hjk => hloud0 k hk hl j hj hjk
  obtain ⟨R1, E1⟩ := R.world (w' := { w with drawn := w.drawn + 1 }) ((Below.refl _ _).drew)
  refine wp_region_any hmix (drawn_any (B := B) (n := ops.size) (sts := sts) (w0 := w) (H0 := (sts 0).h) (μ0 := μ) (a0 := a) hD hops rfl hst hloud hquiet ?_ ops.size _ a _ (sts 0).h μ ?_ ?_)
  · intro a' w' H' μ' listed hall J
    have hcH : curH ops.size sts (done listed) os'.length := ⟨fun j _ hjn _ => hall j hjn, fun j hj hjn _ => absurd hjn (by rw [hD.len] at hj; omega)⟩
    have hcT : ∀ t, curT os' (done listed) t os'.length := fun t => ⟨fun j p' hj _ _ => hall j (by rw [← hD.len]; exact hj), fun j p' hj hp _ => absurd (List.getElem?_eq_some_iff.1 hp).1 (by omega)⟩
    have hH := J.heap os'.length (by rw [hD.len]; exact Nat.le_refl _) hcH
    refine hQ (sts os'.length) a' w' μ' h2 (by rw [hH]; exact J.rel) ⟨?_, fun t x hx => ?_⟩ J.defers (by rw [hH]; exact J.ext)
    · rw [J.tmps, len_same hst os'.length (Nat.le_refl _)]
    · rw [hH]; exact J.slots os'.length (by rw [hD.len]; exact Nat.le_refl _) t x hx (hcT t)
  · unfold undone
    have : ∀ m, ((List.range m).filter fun i => (Array.replicate ops.size false)[i]? != some true).length = m := by
      intro m
      rw [List.filter_eq_self.2]
      · simp
      · intro i _
        by_cases h : i < ops.size
        · simp [h]
        · simp [h]
    exact this ops.size
  · have hnd : ∀ i, ¬ done (Array.replicate ops.size false) i := by
      intro i
      unfold done
      by_cases h : i < ops.size
      · simp [h]
      · simp [h]
    refine ⟨by simp, R1, fun k hk hc => ?_, hs.1, fun k hk t x hx hc => ?_, rfl, E1, fun i o _ hd => absurd hd (hnd i)⟩
    · have := heap_same (sts := sts) k 0 fun j _ hj hl => hnd j (hc.1 j (by omega) (by omega) hl)
      simpa using this
    · have := slot_same (os' := os') hst t k 0 (by rw [hD.len]; omega) fun j p' _ hj hp hpd => hnd j (hc.1 j p' (by omega) hp hpd)
      rw [Nat.zero_add, hx] at this
      exact (hs.2 t x this.symm).ext E1
def dopsWp1 (P : Program) (lo : Nat → Bool) (h0 : List Blk) : Bool → Nat → List OpR → (St → Prop) → St → Prop
  | _, _, [], K, st => K st
  | used, i, o :: os, K, st =>
    if lo i = true then (∀ k, k ≤ os.length → lo (i + k) = true) ∧ dopsWp P lo i (o :: os) K st
    else match o.guard with
      | some _ => False
      | none => (∃ v, (∀ L, Step P (Opd.ev st.t) (h0 ++ L) o.o v (h0 ++ L)) ∧ dopsWp1 P lo h0 used (i + 1) os K ⟨putT st.t o.dst v, st.h⟩) ∨
          (used = false ∧ ∃ v L, Step P (Opd.ev st.t) st.h o.o v (st.h ++ L) ∧ dopsWp1 P lo h0 true (i + 1) os K ⟨putT st.t o.dst v, st.h ++ L⟩)
theorem dops1_trace {lo : Nat → Bool} {h0 : List Blk} : ∀ {os : List OpR} {used : Bool} {i : Nat} {K : St → Prop} {st : St}, dopsWp1 P lo h0 used i os K st → (∃ L, st.h = h0 ++ L) →
    ∃ (sts : Nat → St) (m s : Nat), sts 0 = st ∧ (∀ k o, os[k]? = some o → GStep P o (sts k) (sts (k + 1))) ∧ K (sts os.length) ∧ m ≤ os.length ∧ (∀ k, m ≤ k → k < os.length → lo (i + k) = true) ∧
      (∀ k, k ≤ m → ∃ L, (sts k).h = h0 ++ L) ∧ (∀ k, k < m → (k ≠ s ∨ used = true) → ¬ loud sts k ∧ ∀ o, os[k]? = some o → ∀ L, GStep P o ⟨(sts k).t, h0 ++ L⟩ ⟨(sts (k + 1)).t, h0 ++ L⟩) := by
  intro os
  induction os with
  | nil =>
    intro used i K st h hb
    exact ⟨fun _ => st, 0, 0, rfl, by simp, h, Nat.le_refl _, by intro k _ hk; simp at hk, fun k _ => hb, by intro k hk; omega⟩
  | cons o os ih =>
    intro used i K st h hb
    unfold dopsWp1 at h
    split at h
    · obtain ⟨hall, h⟩ := h
      obtain ⟨sts, e0, e1, e2⟩ := dops_trace h
      refine ⟨sts, 0, 0, e0, fun k o' hk => (e1 k o' hk).1, e2, Nat.zero_le _, fun k _ hk => hall k (by simp at hk; omega), fun k hk => ?_, by intro k hk; omega⟩
      have : k = 0 := by omega
      subst this
      rw [e0]; exact hb
    · cases hg : o.guard with
      | some p => simp [hg] at h
      | none =>
        simp only [hg] at h
        rcases h with ⟨v, hv, h⟩ | ⟨hu, v, L1, hv, h⟩
        · obtain ⟨sts, m, s, e0, e1, e2, e3, e4, e5, e6⟩ := ih h hb
          refine ⟨fun | 0 => st | k + 1 => sts k, m + 1, s + 1, rfl, fun k o' hk => ?_, e2, by simp; omega, fun k hk hkl => ?_, fun k hk => ?_, fun k hk hks => ?_⟩
          · cases k with
            | zero =>
              simp at hk; subst hk
              obtain ⟨L, hL⟩ := hb
              simp only [e0, GStep, hg]
              have := hv L
              rw [← hL] at this
              exact ⟨v, st.h, this, rfl⟩
            | succ k => exact e1 k o' (by simpa using hk)
          · cases k with
            | zero => omega
            | succ k => have := e4 k (by omega) (by simpa using hkl); rwa [show i + 1 + k = i + (k + 1) by omega] at this
          · cases k with
            | zero => exact hb
            | succ k => exact e5 k (by omega)
          · cases k with
            | zero =>
              refine ⟨fun hl => hl (by simp only [e0]), fun o' ho' L => ?_⟩
              simp at ho'; subst ho'
              simp only [e0, GStep, hg]
              exact ⟨v, _, hv L, rfl⟩
            | succ k =>
              obtain ⟨f1, f2⟩ := e6 k (by omega) (hks.imp (fun h e => h (by omega)) id)
              exact ⟨f1, fun o' ho' L => f2 o' (by simpa using ho') L⟩
        · obtain ⟨L0, hL0⟩ := hb
          obtain ⟨sts, m, s, e0, e1, e2, e3, e4, e5, e6⟩ := ih h ⟨L0 ++ L1, by simp only; rw [hL0, List.append_assoc]⟩
          refine ⟨fun | 0 => st | k + 1 => sts k, m + 1, 0, rfl, fun k o' hk => ?_, e2, by simp; omega, fun k hk hkl => ?_, fun k hk => ?_, fun k hk hks => ?_⟩
          · cases k with
            | zero =>
              simp at hk; subst hk
              simp only [e0, GStep, hg]
              exact ⟨v, _, hv, rfl⟩
            | succ k => exact e1 k o' (by simpa using hk)
          · cases k with
            | zero => omega
            | succ k => have := e4 k (by omega) (by simpa using hkl); rwa [show i + 1 + k = i + (k + 1) by omega] at this
          · cases k with
            | zero => exact ⟨L0, hL0⟩
            | succ k => exact e5 k (by omega)
          · cases k with
            | zero => rcases hks with h | h
                      · exact absurd rfl h
                      · rw [hu] at h; cases h
            | succ k =>
              obtain ⟨f1, f2⟩ := e6 k (by omega) (.inr rfl)
              exact ⟨f1, fun o' ho' L => f2 o' (by simpa using ho') L⟩
theorem dops_sound1 {lo : Nat → Bool} (hlo : ∀ k, k < ops.size → lo k = true → ∀ j, j < ops.size → j ≠ k → j ∈ D k ∨ k ∈ D j) (hD : DOk ops os' D) (hops : All2 (COper P ops) os' ops.toList)
    (hmix : P.follows .mixedOrders = true) {Q : Exit → Act → World → Prop} {K : St → Prop} {st : St} {w : World} {μ : Mu} {a : Act} (hk : dopsWp1 P lo st.h false 0 os' K st) (R : Rel B w st.h μ) (hs : Slots B w st.h μ st.t a) {id : Nat}
    (hQ : ∀ st' a' w' μ', K st' → Rel B w' st'.h μ' → Slots B w' st'.h μ' st'.t a' → a'.defers = a.defers → Ext B w st.h μ w' st'.h μ' → Q .normal a' w') : (Code.region id ops true).wp P Q a w := by
  obtain ⟨sts, m, s, h0, h1, h2, hm, hm2, hm3, hm4⟩ := dops1_trace hk ⟨[], by simp⟩
  have hL := hD.len
  have hst := h1
  have hle : m ≤ ops.size := by omega
  have hlo' : ∀ k, m ≤ k → k < ops.size → lo k = true := fun k h h' => by have := hm2 k h (by omega); rwa [Nat.zero_add] at this
  have hls : ∀ k, k < m → loud sts k → k = s := fun k hkm hlk => by
    by_cases e : k = s
    · exact e
    · exact absurd hlk (hm4 k hkm (.inl e)).1
  have hloud : ∀ k, k < ops.size → loud sts k → ∀ j, j < ops.size → loud sts j → j ≠ k → j ∈ D k ∨ k ∈ D j := by
    intro k hkn hlk j hjn hlj hjk
    by_cases h : m ≤ k
    · exact hlo k hkn (hlo' k h hkn) j hjn hjk
    · by_cases h' : m ≤ j
      · exact (hlo j hjn (hlo' j h' hjn) k hkn (fun e => hjk e.symm)).symm
      · have := hls k (by omega) hlk
        have := hls j (by omega) hlj
        omega
  have hquiet : ∀ j, j < ops.size → ¬ loud sts j → Stab P ops.size os' D sts j := by
    intro j hjn hqj
    by_cases h : m ≤ j
    · exact stab_ordered hD hst hjn hqj fun k hk _ hjk => (hlo j hjn (hlo' j h hjn) k hk (fun e => hjk e.symm)).symm
    · by_cases e : j = s
      · refine stab_ordered hD hst hjn hqj fun k hk hlk hjk => ?_
        by_cases h' : m ≤ k
        · exact hlo k hk (hlo' k h' hk) j hjn hjk
        · have := hls k (by omega) hlk
          omega
      · intro q hqn c1 c2 o' ho'
        have hq : ∃ L, (sts q).h = (st.h) ++ L := by
          rcases Nat.lt_or_ge m q with h3 | h3
          · have := heap_same (sts := sts) (q - m) m fun k hk hkq hlk => by
              rcases hlo k (by omega) (hlo' k hk (by omega)) j hjn (by omega) with e1 | e1
              · exact c1 k (by omega) hlk (by omega) e1
              · have := D_lt hD j k e1; omega
            rw [show m + (q - m) = q by omega] at this
            rw [this]; exact hm3 m (Nat.le_refl _)
          · exact hm3 q h3
        obtain ⟨L, hL2⟩ := hq
        rw [hL2]
        exact (hm4 j (by omega) (.inl e)).2 o' ho' L
  subst h0
  obtain ⟨R1, E1⟩ := R.world (w' := { w with drawn := w.drawn + 1 }) ((Below.refl _ _).drew)
  refine wp_region_any hmix (drawn_any (B := B) (n := ops.size) (sts := sts) (w0 := w) (H0 := (sts 0).h) (μ0 := μ) (a0 := a) hD hops rfl hst hloud hquiet ?_ ops.size _ a _ (sts 0).h μ ?_ ?_)
  · intro a' w' H' μ' listed hall J
    have hcH : curH ops.size sts (done listed) os'.length := ⟨fun j _ hjn _ => hall j hjn, fun j hj hjn _ => absurd hjn (by rw [hD.len] at hj; omega)⟩
    have hcT : ∀ t, curT os' (done listed) t os'.length := fun t => ⟨fun j p' hj _ _ => hall j (by rw [← hD.len]; exact hj), fun j p' hj hp _ => absurd (List.getElem?_eq_some_iff.1 hp).1 (by omega)⟩
    have hH := J.heap os'.length (by rw [hD.len]; exact Nat.le_refl _) hcH
    refine hQ (sts os'.length) a' w' μ' h2 (by rw [hH]; exact J.rel) ⟨?_, fun t x hx => ?_⟩ J.defers (by rw [hH]; exact J.ext)
    · rw [J.tmps, len_same hst os'.length (Nat.le_refl _)]
    · rw [hH]; exact J.slots os'.length (by rw [hD.len]; exact Nat.le_refl _) t x hx (hcT t)
  · unfold undone
    have : ∀ m, ((List.range m).filter fun i => (Array.replicate ops.size false)[i]? != some true).length = m := by
      intro m
      rw [List.filter_eq_self.2]
      · simp
      · intro i _
        by_cases h : i < ops.size
        · simp [h]
        · simp [h]
    exact this ops.size
  · have hnd : ∀ i, ¬ done (Array.replicate ops.size false) i := by
      intro i
      unfold done
      by_cases h : i < ops.size
      · simp [h]
      · simp [h]
    refine ⟨by simp, R1, fun k hk hc => ?_, hs.1, fun k hk t x hx hc => ?_, rfl, E1, fun i o _ hd => absurd hd (hnd i)⟩
    · have := heap_same (sts := sts) k 0 fun j _ hj hl => hnd j (hc.1 j (by omega) (by omega) hl)
      simpa using this
    · have := slot_same (os' := os') hst t k 0 (by rw [hD.len]; omega) fun j p' _ hj hp hpd => hnd j (hc.1 j p' (by omega) hp hpd)
      rw [Nat.zero_add, hx] at this
      exact (hs.2 t x this.symm).ext E1
def dopsWp2 (P : Program) (lo lo2 : Nat → Bool) (h0 : List Blk) : Nat → List OpR → (St → Prop) → St → Prop
  | _, [], K, st => K st
  | i, o :: os, K, st =>
    if lo i = true then (∀ k, k ≤ os.length → lo (i + k) = true) ∧ dopsWp P lo i (o :: os) K st
    else match o.guard with
      | some _ => False
      | none => (∃ v, (∀ L, Step P (Opd.ev st.t) (h0 ++ L) o.o v (h0 ++ L)) ∧ dopsWp2 P lo lo2 h0 (i + 1) os K ⟨putT st.t o.dst v, st.h⟩) ∨
          (lo2 i = true ∧ ∃ v L, Step P (Opd.ev st.t) st.h o.o v (st.h ++ L) ∧ dopsWp2 P lo lo2 h0 (i + 1) os K ⟨putT st.t o.dst v, st.h ++ L⟩)
theorem dops2_trace {lo lo2 : Nat → Bool} {h0 : List Blk} : ∀ {os : List OpR} {i : Nat} {K : St → Prop} {st : St}, dopsWp2 P lo lo2 h0 i os K st → (∃ L, st.h = h0 ++ L) →
    ∃ (sts : Nat → St) (m : Nat), sts 0 = st ∧ (∀ k o, os[k]? = some o → GStep P o (sts k) (sts (k + 1))) ∧ K (sts os.length) ∧ m ≤ os.length ∧ (∀ k, m ≤ k → k < os.length → lo (i + k) = true) ∧
      (∀ k, k ≤ m → ∃ L, (sts k).h = h0 ++ L) ∧ (∀ k, k < m → lo2 (i + k) = true ∨ (¬ loud sts k ∧ ∀ o, os[k]? = some o → ∀ L, GStep P o ⟨(sts k).t, h0 ++ L⟩ ⟨(sts (k + 1)).t, h0 ++ L⟩)) := by
  intro os
  induction os with
  | nil =>
    intro i K st h hb
    exact ⟨fun _ => st, 0, rfl, by simp, h, Nat.le_refl _, by intro k _ hk; simp at hk, fun k _ => hb, by intro k hk; omega⟩
  | cons o os ih =>
    intro i K st h hb
    unfold dopsWp2 at h
    split at h
    · obtain ⟨hall, h⟩ := h
      obtain ⟨sts, e0, e1, e2⟩ := dops_trace h
      refine ⟨sts, 0, e0, fun k o' hk => (e1 k o' hk).1, e2, Nat.zero_le _, fun k _ hk => hall k (by simp at hk; omega), fun k hk => ?_, by intro k hk; omega⟩
      have : k = 0 := by omega
      subst this
      rw [e0]; exact hb
    · cases hg : o.guard with
      | some p => simp [hg] at h
      | none =>
        simp only [hg] at h
        rcases h with ⟨v, hv, h⟩ | ⟨hu, v, L1, hv, h⟩
        · obtain ⟨sts, m, e0, e1, e2, e3, e4, e5, e6⟩ := ih h hb
          refine ⟨fun | 0 => st | k + 1 => sts k, m + 1, rfl, fun k o' hk => ?_, e2, by simp; omega, fun k hk hkl => ?_, fun k hk => ?_, fun k hk => ?_⟩
          · cases k with
            | zero =>
              simp at hk; subst hk
              obtain ⟨L, hL⟩ := hb
              simp only [e0, GStep, hg]
              have := hv L
              rw [← hL] at this
              exact ⟨v, st.h, this, rfl⟩
            | succ k => exact e1 k o' (by simpa using hk)
          · cases k with
            | zero => omega
            | succ k => have := e4 k (by omega) (by simpa using hkl); rwa [show i + 1 + k = i + (k + 1) by omega] at this
          · cases k with
            | zero => exact hb
            | succ k => exact e5 k (by omega)
          · cases k with
            | zero =>
              refine .inr ⟨fun hl => hl (by simp only [e0]), fun o' ho' L => ?_⟩
              simp at ho'; subst ho'
              simp only [e0, GStep, hg]
              exact ⟨v, _, hv L, rfl⟩
            | succ k =>
              rcases e6 k (by omega) with f | ⟨f1, f2⟩
              · rw [show i + 1 + k = i + (k + 1) by omega] at f; exact .inl f
              · exact .inr ⟨f1, fun o' ho' L => f2 o' (by simpa using ho') L⟩
        · obtain ⟨L0, hL0⟩ := hb
          obtain ⟨sts, m, e0, e1, e2, e3, e4, e5, e6⟩ := ih h ⟨L0 ++ L1, by simp only; rw [hL0, List.append_assoc]⟩
          refine ⟨fun | 0 => st | k + 1 => sts k, m + 1, rfl, fun k o' hk => ?_, e2, by simp; omega, fun k hk hkl => ?_, fun k hk => ?_, fun k hk => ?_⟩
          · cases k with
            | zero =>
              simp at hk; subst hk
              simp only [e0, GStep, hg]
              exact ⟨v, _, hv, rfl⟩
            | succ k => exact e1 k o' (by simpa using hk)
          · cases k with
            | zero => omega
            | succ k => have := e4 k (by omega) (by simpa using hkl); rwa [show i + 1 + k = i + (k + 1) by omega] at this
          · cases k with
            | zero => exact ⟨L0, hL0⟩
            | succ k => exact e5 k (by omega)
          · cases k with
            | zero => exact .inl hu
            | succ k =>
              rcases e6 k (by omega) with f | ⟨f1, f2⟩
              · rw [show i + 1 + k = i + (k + 1) by omega] at f; exact .inl f
              · exact .inr ⟨f1, fun o' ho' L => f2 o' (by simpa using ho') L⟩
theorem dops_sound2 {lo lo2 : Nat → Bool} (hlo2 : ∀ k, k < ops.size → lo2 k = true → ∀ j, j < ops.size → lo2 j = true → j ≠ k → j ∈ D k ∨ k ∈ D j) (hlo : ∀ k, k < ops.size → lo k = true → ∀ j, j < ops.size → j ≠ k → j ∈ D k ∨ k ∈ D j) (hD : DOk ops os' D) (hops : All2 (COper P ops) os' ops.toList)
    (hmix : P.follows .mixedOrders = true) {Q : Exit → Act → World → Prop} {K : St → Prop} {st : St} {w : World} {μ : Mu} {a : Act} (hk : dopsWp2 P lo lo2 st.h 0 os' K st) (R : Rel B w st.h μ) (hs : Slots B w st.h μ st.t a) {id : Nat}
    (hQ : ∀ st' a' w' μ', K st' → Rel B w' st'.h μ' → Slots B w' st'.h μ' st'.t a' → a'.defers = a.defers → Ext B w st.h μ w' st'.h μ' → Q .normal a' w') : (Code.region id ops true).wp P Q a w := by
  obtain ⟨sts, m, h0, h1, h2, hm, hm2, hm3, hm4⟩ := dops2_trace hk ⟨[], by simp⟩
  have hL := hD.len
  have hst := h1
  have hle : m ≤ ops.size := by omega
  have hlo' : ∀ k, m ≤ k → k < ops.size → lo k = true := fun k h h' => by have := hm2 k h (by omega); rwa [Nat.zero_add] at this
  have hls : ∀ k, k < m → loud sts k → lo2 k = true := fun k hkm hlk => by
    rcases hm4 k hkm with h | h
    · rwa [Nat.zero_add] at h
    · exact absurd hlk h.1
  have hloud : ∀ k, k < ops.size → loud sts k → ∀ j, j < ops.size → loud sts j → j ≠ k → j ∈ D k ∨ k ∈ D j := by
    intro k hkn hlk j hjn hlj hjk
    by_cases h : m ≤ k
    · exact hlo k hkn (hlo' k h hkn) j hjn hjk
    · by_cases h' : m ≤ j
      · exact (hlo j hjn (hlo' j h' hjn) k hkn (fun e => hjk e.symm)).symm
      · exact hlo2 k hkn (hls k (by omega) hlk) j hjn (hls j (by omega) hlj) hjk
  have hquiet : ∀ j, j < ops.size → ¬ loud sts j → Stab P ops.size os' D sts j := by
    intro j hjn hqj
    by_cases h : m ≤ j
    · exact stab_ordered hD hst hjn hqj fun k hk _ hjk => (hlo j hjn (hlo' j h hjn) k hk (fun e => hjk e.symm)).symm
    · rcases hm4 j (by omega) with e | e
      · rw [Nat.zero_add] at e
        refine stab_ordered hD hst hjn hqj fun k hk hlk hjk => ?_
        by_cases h' : m ≤ k
        · exact hlo k hk (hlo' k h' hk) j hjn hjk
        · exact hlo2 k hk (hls k (by omega) hlk) j hjn e hjk
      · intro q hqn c1 c2 o' ho'
        have hq : ∃ L, (sts q).h = (st.h) ++ L := by
          rcases Nat.lt_or_ge m q with h3 | h3
          · have := heap_same (sts := sts) (q - m) m fun k hk hkq hlk => by
              rcases hlo k (by omega) (hlo' k hk (by omega)) j hjn (by omega) with e1 | e1
              · exact c1 k (by omega) hlk (by omega) e1
              · have := D_lt hD j k e1; omega
            rw [show m + (q - m) = q by omega] at this
            rw [this]; exact hm3 m (Nat.le_refl _)
          · exact hm3 q h3
        obtain ⟨L, hL2⟩ := hq
        rw [hL2]
        exact e.2 o' ho' L
  subst h0
  obtain ⟨R1, E1⟩ := R.world (w' := { w with drawn := w.drawn + 1 }) ((Below.refl _ _).drew)
  refine wp_region_any hmix (drawn_any (B := B) (n := ops.size) (sts := sts) (w0 := w) (H0 := (sts 0).h) (μ0 := μ) (a0 := a) hD hops rfl hst hloud hquiet ?_ ops.size _ a _ (sts 0).h μ ?_ ?_)
  · intro a' w' H' μ' listed hall J
    have hcH : curH ops.size sts (done listed) os'.length := ⟨fun j _ hjn _ => hall j hjn, fun j hj hjn _ => absurd hjn (by rw [hD.len] at hj; omega)⟩
    have hcT : ∀ t, curT os' (done listed) t os'.length := fun t => ⟨fun j p' hj _ _ => hall j (by rw [← hD.len]; exact hj), fun j p' hj hp _ => absurd (List.getElem?_eq_some_iff.1 hp).1 (by omega)⟩
    have hH := J.heap os'.length (by rw [hD.len]; exact Nat.le_refl _) hcH
    refine hQ (sts os'.length) a' w' μ' h2 (by rw [hH]; exact J.rel) ⟨?_, fun t x hx => ?_⟩ J.defers (by rw [hH]; exact J.ext)
    · rw [J.tmps, len_same hst os'.length (Nat.le_refl _)]
    · rw [hH]; exact J.slots os'.length (by rw [hD.len]; exact Nat.le_refl _) t x hx (hcT t)
  · unfold undone
    have : ∀ m, ((List.range m).filter fun i => (Array.replicate ops.size false)[i]? != some true).length = m := by
      intro m
      rw [List.filter_eq_self.2]
      · simp
      · intro i _
        by_cases h : i < ops.size
        · simp [h]
        · simp [h]
    exact this ops.size
  · have hnd : ∀ i, ¬ done (Array.replicate ops.size false) i := by
      intro i
      unfold done
      by_cases h : i < ops.size
      · simp [h]
      · simp [h]
    refine ⟨by simp, R1, fun k hk hc => ?_, hs.1, fun k hk t x hx hc => ?_, rfl, E1, fun i o _ hd => absurd hd (hnd i)⟩
    · have := heap_same (sts := sts) k 0 fun j _ hj hl => hnd j (hc.1 j (by omega) (by omega) hl)
      simpa using this
    · have := slot_same (os' := os') hst t k 0 (by rw [hD.len]; omega) fun j p' _ hj hp hpd => hnd j (hc.1 j p' (by omega) hp hpd)
      rw [Nat.zero_add, hx] at this
      exact (hs.2 t x this.symm).ext E1
end
end Go.Vm
namespace Go.Vm
open Go.RowKit
inductive C where
  | skip
  | seq (a b : C)
  | cond (x : Opd) (a b : C)
  | block (id : Nat) (c : C)
  | loop (c : C)
  | exit (id : Nat)
  | ret
  | reg (os : List OpR)
  | dreg (lo lo2 : List Bool) (os : List OpR)
  deriving Inhabited
inductive CCode (P : Program) : C → Code → Prop where
  | skip : CCode P .skip .skip
  | seq {a b a' b'} (h : CCode P a a') (k : CCode P b b') : CCode P (.seq a b) (.seq a' b')
  | cond {x x' a b a' b'} (hx : cOpd x' = some x) (h : CCode P a a') (k : CCode P b b') : CCode P (.cond x a b) (.cond x' a' b')
  | block {id c c'} (h : CCode P c c') : CCode P (.block id c) (.block id c')
  | loop {c c'} (h : CCode P c c') : CCode P (.loop c) (.loop c')
  | exit {id} : CCode P (.exit id) (.exit id)
  | ret : CCode P .ret .ret
  | reg {os id ops} (h : All2 (COper P ops) os ops.toList) : CCode P (.reg os) (.region id ops false)
  | dreg {D : List (List Nat)} {lo lo2 : List Bool} {os id ops} (hlo2 : ∀ k, k < ops.size → lo2.getD k false = true → ∀ j, j < ops.size → lo2.getD j false = true → j ≠ k → j ∈ D.getD k [] ∨ k ∈ D.getD j []) (hlo : ∀ k, k < ops.size → lo.getD k false = true → ∀ j, j < ops.size → j ≠ k → j ∈ D.getD k [] ∨ k ∈ D.getD j []) (hD : DOk ops os fun i => D.getD i [])
      (h : All2 (COper P ops) os ops.toList) (hmix : P.follows .mixedOrders = true) : CCode P (.dreg lo lo2 os) (.region id ops true)
structure ExtN (n0 : Nat) (B : Base) (w : World) (H : List Blk) (μ : Mu) (w' : World) (H' : List Blk) (μ' : Mu) : Prop where
  imm : ∀ g, Imm B w H μ g → Imm B w' H' μ' g ∧ w'.heap[g]? = w.heap[g]?
  blk : ∀ b k, b < n0 → H[b]? = some k → ∃ k', H'[b]? = some k' ∧ Blk.turns (μ' b = μ b) (μ' b = none) k k'
section
variable {P : Program} {B : Base} {w w' w'' : World} {H H' H'' : List Blk} {μ μ' μ'' : Mu} {n0 : Nat}
theorem Ext.extN (n0 : Nat) (h : Ext B w H μ w' H' μ') : ExtN n0 B w H μ w' H' μ' := ⟨h.imm, fun b k _ hk => h.blk b k hk⟩
theorem ExtN.ext (hn : H.length ≤ n0) (h : ExtN n0 B w H μ w' H' μ') : Ext B w H μ w' H' μ' :=
  ⟨h.imm, fun b k hk => h.blk b k (by have := (List.getElem?_eq_some_iff.1 hk).1; omega) hk⟩
theorem ExtN.refl : ExtN n0 B w H μ w H μ := (Ext.refl B w H μ).extN n0
theorem ExtN.trans (h : ExtN n0 B w H μ w' H' μ') (k : ExtN n0 B w' H' μ' w'' H'' μ'') : ExtN n0 B w H μ w'' H'' μ'' := by
  refine ⟨fun g hg => ?_, fun b x hb hx => ?_⟩
  · obtain ⟨h1, h2⟩ := h.imm g hg
    obtain ⟨k1, k2⟩ := k.imm g h1
    exact ⟨k1, k2.trans h2⟩
  · obtain ⟨y, hy, ht⟩ := h.blk b x hb hx
    obtain ⟨z, hz, ht'⟩ := k.blk b y hb hy
    exact ⟨z, hz, Blk.turns_trans (fun p q => q.trans p) (fun p q => q.trans p) (fun q => q) ht ht'⟩
end
def Weak (n0 : Nat) (st st' : St) : Prop :=
  ∀ (B : Base) (w : World) (μ : Mu) (a : Act), Rel B w st.h μ → Slots B w st.h μ st.t a → ∃ μ', Rel B w st'.h μ' ∧ Slots B w st'.h μ' st'.t a ∧ ExtN n0 B w st.h μ w st'.h μ'
theorem Weak.refl (n0 : Nat) (st : St) : Weak n0 st st := fun _ _ μ _ R S => ⟨μ, R, S, ExtN.refl⟩
theorem Weak.trans {n0 : Nat} {st st' st'' : St} (h : Weak n0 st st') (k : Weak n0 st' st'') : Weak n0 st st'' := by
  intro B w μ a R S
  obtain ⟨μ1, R1, S1, E1⟩ := h B w μ a R S
  obtain ⟨μ2, R2, S2, E2⟩ := k B w μ1 a R1 S1
  exact ⟨μ2, R2, S2, E1.trans E2⟩
def Post (n0 : Nat) (Q : Exit → St → Prop) (B : Base) (w : World) (H : List Blk) (μ : Mu) (a : Act) (e : Exit) (a' : Act) (w' : World) : Prop :=
  ∃ st' μ', Q e st' ∧ Rel B w' st'.h μ' ∧ Slots B w' st'.h μ' st'.t a' ∧ a'.defers = a.defers ∧ ExtN n0 B w H μ w' st'.h μ'
def CW (P : Program) (n0 : Nat) (c : C) (Q : Exit → St → Prop) (st : St) : Prop :=
  ∀ code, CCode P c code → ∀ (B : Base) (w : World) (μ : Mu) (a : Act), Rel B w st.h μ → Slots B w st.h μ st.t a → code.wp P (Post n0 Q B w st.h μ a) a w
def thenS (n : St → Prop) (Q : Exit → St → Prop) : Exit → St → Prop
  | .normal, st => n st
  | e, st => Q e st
def inB (id : Nat) (Q : Exit → St → Prop) : Exit → St → Prop
  | .exit i, st => if i = id then Q .normal st else Q (.exit i) st
  | e, st => Q e st
section rules
variable {P : Program} {n0 : Nat} {Q Q' : Exit → St → Prop} {st st' : St}
theorem cw_skip (h : Q .normal st) : CW P n0 .skip Q st := by
  intro code hc B w μ a R S
  cases hc
  exact wp_skip ⟨st, μ, h, R, S, rfl, ExtN.refl⟩
theorem cw_exit {id : Nat} (h : Q (.exit id) st) : CW P n0 (.exit id) Q st := by
  intro code hc B w μ a R S
  cases hc
  exact wp_exit ⟨st, μ, h, R, S, rfl, ExtN.refl⟩
theorem cw_ret (h : Q .ret st) : CW P n0 .ret Q st := by
  intro code hc B w μ a R S
  cases hc
  exact wp_ret ⟨st, μ, h, R, S, rfl, ExtN.refl⟩
theorem cw_mono {c : C} (h : CW P n0 c Q st) (hq : ∀ e st, Q e st → Q' e st) : CW P n0 c Q' st := by
  intro code hc B w μ a R S
  refine wp_mono (h code hc B w μ a R S) ?_
  rintro e a' w' ⟨st', μ', q, r⟩
  exact ⟨st', μ', hq _ _ q, r⟩
theorem cw_weak {c : C} (hw : Weak n0 st st') (h : CW P n0 c Q st') : CW P n0 c Q st := by
  intro code hc B w μ a R S
  obtain ⟨μ1, R1, S1, E1⟩ := hw B w μ a R S
  refine wp_mono (h code hc B w μ1 a R1 S1) ?_
  rintro e a' w' ⟨st', μ', q, R', S', d, E'⟩
  exact ⟨st', μ', q, R', S', d, E1.trans E'⟩
theorem cw_post {c : C} (h : CW P n0 c (fun e st => ∃ st', Weak n0 st st' ∧ Q e st') st) : CW P n0 c Q st := by
  intro code hc B w μ a R S
  refine wp_mono (h code hc B w μ a R S) ?_
  rintro e a' w' ⟨st1, μ1, ⟨st2, hw, q⟩, R1, S1, d, E1⟩
  obtain ⟨μ2, R2, S2, E2⟩ := hw B w' μ1 a' R1 S1
  exact ⟨st2, μ2, q, R2, S2, d, E1.trans E2⟩
theorem cw_seq {x y : C} (h : CW P n0 x (thenS (CW P n0 y Q) Q) st) : CW P n0 (.seq x y) Q st := by
  intro code hc B w μ a R S
  cases hc with
  | seq hx hy =>
    refine wp_seq (wp_mono (h _ hx B w μ a R S) ?_)
    rintro e a' w' ⟨st1, μ1, q, R1, S1, d1, E1⟩
    cases e with
    | normal =>
      simp only [Exit.then, thenS] at q ⊢
      refine wp_mono (q _ hy B w' μ1 a' R1 S1) ?_
      rintro e a'' w'' ⟨st2, μ2, q2, R2, S2, d2, E2⟩
      exact ⟨st2, μ2, q2, R2, S2, d2.trans d1, E1.trans E2⟩
    | _ => exact ⟨st1, μ1, q, R1, S1, d1, E1⟩
theorem cw_cond {x : Opd} {c d : C} {b : Bool} (hx : x.ev st.t = .bool b) (h1 : b = true → CW P n0 c Q st) (h2 : b = false → CW P n0 d Q st) : CW P n0 (.cond x c d) Q st := by
  intro code hc B w μ a R S
  cases hc with
  | cond hx' hc' hd' =>
    have hv := S.opds _ _ hx'
    rw [hx] at hv
    refine wp_cond_split hv.bool_inv (fun e => h1 e _ hc' B w μ a R S) (fun e => h2 e _ hd' B w μ a R S)
theorem cw_block {id : Nat} {c : C} (h : CW P n0 c (inB id Q) st) : CW P n0 (.block id c) Q st := by
  intro code hc B w μ a R S
  cases hc with
  | block hc' =>
    refine wp_block (wp_mono (h _ hc' B w μ a R S) ?_)
    rintro e a' w' ⟨st1, μ1, q, rest⟩
    cases e with
    | exit i =>
      simp only [Exit.inBlock, inB] at q ⊢
      split
      · rename_i hi
        rw [if_pos hi] at q
        exact ⟨st1, μ1, q, rest⟩
      · rename_i hi
        rw [if_neg hi] at q
        exact ⟨st1, μ1, q, rest⟩
    | _ => exact ⟨st1, μ1, q, rest⟩
theorem cw_reg {os : List OpR} (h : opsWp P os (Q .normal) st) : CW P n0 (.reg os) Q st := by
  intro code hc B w μ a R S
  cases hc with
  | reg ho =>
    exact wp_region_list (ops_sound ho h R S fun st' a' w' μ' q R' S' d E => ⟨st', μ', q, R', S', d, E.extN n0⟩)
theorem cw_dreg {lo lo2 : List Bool} {os : List OpR} (h : dopsWp P (fun k => lo.getD k false) 0 os (Q .normal) st) : CW P n0 (.dreg lo lo2 os) Q st := by
  intro code hc B w μ a R S
  cases hc with
  | dreg hlo2 hlo hD ho hmix =>
    exact dops_sound (lo := fun k => lo.getD k false) hlo hD ho hmix h R S fun st' a' w' μ' q R' S' d E => ⟨st', μ', q, R', S', d, E.extN n0⟩
theorem cw_dreg1 {lo lo2 : List Bool} {os : List OpR} (h : dopsWp1 P (fun k => lo.getD k false) st.h false 0 os (Q .normal) st) : CW P n0 (.dreg lo lo2 os) Q st := by
  intro code hc B w μ a R S
  cases hc with
  | dreg hlo2 hlo hD ho hmix =>
    exact dops_sound1 (lo := fun k => lo.getD k false) hlo hD ho hmix h R S fun st' a' w' μ' q R' S' d E => ⟨st', μ', q, R', S', d, E.extN n0⟩
theorem cw_dreg2 {lo lo2 : List Bool} {os : List OpR} (h : dopsWp2 P (fun k => lo.getD k false) (fun k => lo2.getD k false) st.h 0 os (Q .normal) st) : CW P n0 (.dreg lo lo2 os) Q st := by
  intro code hc B w μ a R S
  cases hc with
  | dreg hlo2 hlo hD ho hmix =>
    exact dops_sound2 (lo := fun k => lo.getD k false) (lo2 := fun k => lo2.getD k false) hlo2 hlo hD ho hmix h R S fun st' a' w' μ' q R' S' d E => ⟨st', μ', q, R', S', d, E.extN n0⟩
theorem cw_loop {α : Type} (s : α → St) (I : α → Prop) (m : α → Nat) (a0 : α) (hI : I a0) (h0 : Weak n0 st (s a0)) {c : C}
    (round : ∀ a, I a → CW P n0 c (thenS (fun st' => ∃ a', I a' ∧ m a' < m a ∧ Weak n0 st' (s a')) Q) (s a)) : CW P n0 (.loop c) Q st := by
  intro code hc B w μ act R S
  cases hc with
  | @loop _ c' hc' =>
    let J : Nat → Act → World → Prop := fun k act' w' => ∃ a μ', m a = k ∧ I a ∧ Rel B w' (s a).h μ' ∧ Slots B w' (s a).h μ' (s a).t act' ∧ act'.defers = act.defers ∧ ExtN n0 B w st.h μ w' (s a).h μ'
    have least : ∀ act' w', (∃ k, J k act' w') → ∃ k, J k act' w' ∧ ∀ j, J j act' w' → k ≤ j := by
      intro act' w' ⟨k, hk⟩
      induction k using Nat.strongRecOn with
      | ind k ih =>
        by_cases h : ∃ j, j < k ∧ J j act' w'
        · obtain ⟨j, hj, hJ⟩ := h; exact ih j hj hJ
        · exact ⟨k, hk, fun j hJ => Nat.le_of_not_lt fun hlt => h ⟨j, hlt, hJ⟩⟩
    let mu : Act → World → Nat := fun act' w' => open Classical in if h : ∃ k, J k act' w' then (least act' w' h).choose else 0
    have hmu : ∀ act' w', (∃ k, J k act' w') → J (mu act' w') act' w' ∧ ∀ j, J j act' w' → mu act' w' ≤ j := by
      intro act' w' h
      simp only [mu, dif_pos h]
      exact (least act' w' h).choose_spec
    obtain ⟨μ0, R0, S0, E0⟩ := h0 B w μ act R S
    refine wp_loop (fun act' w' => ∃ k, J k act' w') mu ⟨m a0, a0, μ0, rfl, hI, R0, S0, rfl, E0⟩ ?_
    intro act' w' hJ
    obtain ⟨⟨a, μ1, hm, hIa, R1, S1, d1, E1⟩, _⟩ := hmu act' w' hJ
    refine wp_mono (round a hIa _ hc' B w' μ1 act' R1 S1) ?_
    rintro e act2 w2 ⟨st2, μ2, q, R2, S2, d2, E2⟩
    cases e with
    | normal =>
      simp only [Exit.then, thenS] at q ⊢
      obtain ⟨a', hI', hlt, hw⟩ := q
      obtain ⟨μ3, R3, S3, E3⟩ := hw B w2 μ2 act2 R2 S2
      have hJ' : J (m a') act2 w2 := ⟨a', μ3, rfl, hI', R3, S3, d2.trans d1, (E1.trans E2).trans E3⟩
      refine ⟨⟨_, hJ'⟩, ?_⟩
      have := (hmu act2 w2 ⟨_, hJ'⟩).2 _ hJ'
      omega
    | _ => exact ⟨st2, μ2, q, R2, S2, d2.trans d1, E1.trans E2⟩
theorem cw_cut {x y : C} (J : St → Prop) (h : CW P n0 x (thenS J Q) st) (k : ∀ st, J st → CW P n0 y Q st) : CW P n0 (.seq x y) Q st :=
  cw_seq (cw_mono h fun e st q => by cases e <;> first | exact k st q | exact q)
theorem cw_cut_weak {α : Type} (s : α → St) (I : α → Prop) {x y : C} (h : CW P n0 x (thenS (fun st' => ∃ a, I a ∧ Weak n0 st' (s a)) Q) st) (k : ∀ a, I a → CW P n0 y Q (s a)) : CW P n0 (.seq x y) Q st :=
  cw_cut _ h fun _ ⟨a, hI, hw⟩ => cw_weak hw (k a hI)
end rules
end Go.Vm
namespace Go.Vm
open Go.RowKit
section
variable {P : Program} {B : Base} {w w' : World} {H H' H2 : List Blk} {μ μ' : Mu} {n n0 : Nat}
theorem weak_seal (n : Nat) {t t' : List AV} {H H' : List Blk} (hn : n0 ≤ n) (hH : All2 (SlB n H) (H.take n) H') (ht : All2 (SlV n H) t t') : Weak n0 ⟨t, H⟩ ⟨t', H'⟩ := by
  intro B w μ a R S
  have Z : Sealed n B w H H' μ := by
    constructor
    · intro b k hb hk
      exact hH.get (i := b) (a := k) (by rw [List.getElem?_take]; simp [hb, hk])
    · intro b k' hk'
      obtain ⟨k, hk, hs⟩ := hH.get_r hk'
      rw [List.getElem?_take] at hk
      split at hk
      · rename_i hlt
        exact ⟨hlt, k, hk, hs⟩
      · cases hk
  refine ⟨μ, ⟨R.below, R.n0, fun b k' hk' => ?_, fun b b' k k' g c c' hb hb' hk hk' hm hm' => ?_, fun b k g c hb hk hm => ?_⟩, ⟨?_, fun i x hx => ?_⟩, ⟨fun g hg => ⟨Z.imm hg, rfl⟩, fun b k hb hk => ?_⟩⟩
  · obtain ⟨_, k, hk, hs⟩ := Z.back b k' hk'
    exact Z.blk R hs (R.blk b k hk)
  · obtain ⟨_, k1, h1, s1⟩ := Z.back b k hb
    obtain ⟨_, k2, h2, s2⟩ := Z.back b' k' hb'
    exact R.inj b b' k1 k2 g c c' h1 h2 (s1.live hk) (s2.live hk') hm hm'
  · obtain ⟨_, k1, h1, s1⟩ := Z.back b k hb
    exact R.own b k1 g c h1 (s1.live hk) hm
  · have := S.1; simp only at this ⊢; rw [this, ht.length]
  · obtain ⟨y, hy, hs⟩ := ht.get_r hx
    exact Z.v R hs (S.2 i y hy)
  · obtain ⟨k', hk', hs⟩ := Z.get b k (by omega) hk
    refine ⟨k', hk', ?_⟩
    cases k' with
    | void => cases k <;> first | trivial | exact hs.elim
    | dead => cases k <;> trivial
    | nrow => cases k <;> first | trivial | exact hs.elim
    | cells cs' => cases k <;> first | exact hs.elim | exact ⟨hs.length, by trivial⟩
    | row ow' e' sz' els' =>
      cases k with
      | row ow e sz els =>
        have hl := SlB.row_len hs
        exact ⟨hs.2.1.symm, hs.2.2.1.symm, by omega, fun _ => rfl⟩
      | _ => exact hs.elim
end
end Go.Vm
namespace Go.Vm
open Go.RowKit
inductive Res where
  | tmp (t : Nat)
  | cell (n : Nat) (agg : Bool) (a : Nat)
  deriving Inhabited
inductive CRes (P : Program) : Res → ResultVar → Prop where
  | tmp {t} : CRes P (.tmp t) (.tmp t)
  | cell {n agg a t} (hs : sizeOf? P t = some n) (ha : aggOf? P t = some agg) : CRes P (.cell n agg a) (.cell a t)
def Res.val (st : St) : Res → Option AV
  | .tmp t => some (st.t.getD t .undef)
  | .cell n agg a => (cellsAt st.h n (st.t.getD a .undef)).bind (mkv agg)
structure F where
  nt : Nat
  rs : List Res
  c : C
  deriving Inhabited
def FOk (P : Program) (f : Nat) (F : F) : Prop :=
  ∃ fn code, P.funcs[f]? = some fn ∧ fn.body = some code ∧ fn.ntmps = F.nt ∧ All2 (CRes P) F.rs fn.results.toList ∧ CCode P F.c code
def frame (n : Nat) (args : List AV) : List AV := args ++ List.replicate (n - args.length) .undef
def vals (st : St) : List Res → Option (List AV)
  | [] => some []
  | r :: rs => match r.val st, vals st rs with
    | some v, some vs => some (v :: vs)
    | _, _ => none
def one (vs : List AV) : AV := match vs with | [v] => v | vs => .tup vs
def retP (rs : List Res) (r : AV) : Exit → St → Prop
  | .normal, st | .ret, st => ∃ xs ys, vals st rs = some xs ∧ lendAll (fun _ _ => true) st.h xs = some ys ∧ r = one ys
  | _, _ => False
def retH (rs : List Res) (r : AV) (H' : List Blk) : Exit → St → Prop
  | .normal, st | .ret, st => ∃ xs, vals st rs = some xs ∧ (∀ x ∈ xs, ∀ ys, x ≠ .tup ys) ∧ r = one xs ∧ st.h = H'
  | _, _ => False
section
variable {P : Program} {B : Base} {w w' : World} {H H' H2 : List Blk} {μ μ' : Mu}
def resRun (a : Act) : ResultVar → Sem Value
  | .tmp t => pure (a.tmps.getD t undef)
  | .cell x ty => do loadVar ty (← asAddr (a.tmps.getD x undef))
theorem results_def (fn : Func) (a : Act) : results fn a.tmps = (do let vs ← fn.results.mapM (resRun a); pure (if h : vs.size = 1 then vs[0] else .tuple vs)) := by
  unfold results
  congr 1
theorem res_run (R : Rel B w H μ) {t : List AV} {a : Act} (S : Slots B w H μ t a) {r : Res} {rv : ResultVar} (h : CRes P r rv) {v : AV} (hv : r.val ⟨t, H⟩ = some v) :
    ∃ val, (resRun a rv).run P w = .ok val w ∧ RepV B w H μ v val := by
  cases h with
  | @tmp i =>
    simp only [Res.val, Option.some.injEq] at hv
    subst hv
    exact ⟨_, rfl, S.opds (.tmp i) (.t i) rfl⟩
  | @cell n agg x ty hs ha =>
    simp only [Res.val] at hv
    have hx := S.opds (.tmp x) (.t x) rfl
    simp only [Opd.ev, Act.eval] at hx
    cases hc : Vm.cellsAt H n (t.getD x .undef) with
    | none => rw [hc] at hv; cases hv
    | some cs =>
      simp only [hc, Option.bind_some] at hv
      obtain ⟨g, o, us, he, hl, h2, h3⟩ := R.cellsAt hx hc
      obtain ⟨val, hr, hvl⟩ := RepU.mkv hv h2
      refine ⟨val, ?_, hr.repV fun xs e => mkv_tup (e ▸ hv) us h2⟩
      simp [resRun, he, asAddr, run_loadVar_vm hs ha (h2.length.symm.trans hl) h3 hvl]
theorem results_run (R : Rel B w H μ) {t : List AV} {a : Act} (S : Slots B w H μ t a) : ∀ {rs : List Res} {rvs : List ResultVar}, All2 (CRes P) rs rvs → ∀ {xs : List AV}, vals ⟨t, H⟩ rs = some xs →
    ∃ us, (rvs.mapM (resRun a)).run P w = .ok us w ∧ All2 (RepV B w H μ) xs us
  | _, _, .nil, xs, h => by simp only [vals, Option.some.injEq] at h; subst h; exact ⟨[], rfl, .nil⟩
  | r :: rs, rv :: rvs, .cons h k, xs, hx => by
    simp only [vals] at hx
    split at hx
    · rename_i v vs h1 h2
      simp only [Option.some.injEq] at hx; subst hx
      obtain ⟨u, hu, hr⟩ := res_run R S h h1
      obtain ⟨us, hus, hrs⟩ := results_run R S k h2
      refine ⟨u :: us, ?_, .cons hr hrs⟩
      rw [List.mapM_cons]
      simp only [Sem.run_bind, hu]
      simp [hus]
    · cases hx
theorem results_one (R : Rel B w H μ) {t : List AV} {a : Act} (S : Slots B w H μ t a) {fn : Func} {rs : List Res} (h : All2 (CRes P) rs fn.results.toList) {xs : List AV} (hx : vals ⟨t, H⟩ rs = some xs) :
    ∃ us val, (results fn a.tmps).run P w = .ok val w ∧ All2 (RepV B w H μ) xs us ∧ ((∃ u, us = [u] ∧ val = u) ∨ (us.length ≠ 1 ∧ val = .tuple us.toArray)) := by
  obtain ⟨us, hus, hrs⟩ := results_run R S h hx
  refine ⟨us, if h : us.toArray.size = 1 then us.toArray[0] else .tuple us.toArray, ?_, hrs, ?_⟩
  · rw [results_def, Array.mapM_eq_mapM_toList]
    simp only [Sem.run_bind]
    have : (List.toArray <$> (fn.results.toList.mapM (resRun a))).run P w = .ok us.toArray w := by
      rw [map_eq_pure_bind]
      simp only [Sem.run_bind, hus]
      simp
    rw [this]
    simp
  · match us with
    | [] => right; simp
    | [u] => left; exact ⟨u, rfl, by simp⟩
    | _ :: _ :: _ => right; simp
theorem RepV.repU' {v : AV} {val : Value} (h : RepV B w H μ v val) (ht : ∀ xs, v ≠ .tup xs) : RepU B w H μ v val := by
  cases v <;> first | exact h | exact absurd rfl (ht _)
theorem frame_slots {fn : Func} {args : List AV} {vs : Array Value} (h : All2 (RepV B w H μ) args vs.toList) :
    Slots B w H μ (frame fn.ntmps args) { tmps := vs ++ Array.replicate (fn.ntmps - vs.size) undef, defers := [] } := by
  have hl : args.length = vs.size := by simpa using h.length
  refine ⟨by simp [frame, hl], fun i x hx => ?_⟩
  unfold frame at hx
  rcases Nat.lt_or_ge i args.length with hi | hi
  · rw [List.getElem?_append_left hi] at hx
    obtain ⟨v, hv, hr⟩ := h.get hx
    have : (vs ++ Array.replicate (fn.ntmps - vs.size) undef).getD i undef = v := by
      have hi' : i < vs.size := by omega
      simp only [Array.getElem?_toList] at hv
      rw [Array.getD_eq_getD_getElem?, Array.getElem?_append_left hi', hv]
      rfl
    rw [this]; exact hr
  · rw [List.getElem?_append_right hi] at hx
    rw [List.getElem?_replicate] at hx
    split at hx
    · cases hx; trivial
    · cases hx
theorem PureV.rep0 {N : Nat → Prop} (hN : ∀ g, N g → g < w.heap.size) {a : AV} {v : Value} (h : PureV w N a v) : RepV ⟨w, N⟩ w [] (fun _ => none) a v := by
  refine PureV.repV (h.mono (fun g hg => ⟨.inl hg, hN g hg, ?_⟩) (fun _ _ => rfl))
  rintro ⟨b, c, hm, _⟩
  cases hm
theorem rel0 (w : World) {N : Nat → Prop} (hN : ∀ g, N g → g < w.heap.size) : Rel ⟨w, N⟩ w [] (fun _ => none) :=
  ⟨Below.refl _ _, hN, by simp, by simp, by simp⟩
theorem lendAll_len {m : Nat → Blk → Bool} {H : List Blk} : ∀ {xs ys : List AV}, lendAll m H xs = some ys → ys.length = xs.length
  | [], ys, h => by simp only [lendAll, Option.some.injEq] at h; subst h; rfl
  | x :: xs, ys, h => by
    simp only [lendAll] at h
    split at h
    · rename_i h1 h2
      simp only [Option.some.injEq] at h; subst h
      simp [lendAll_len h2]
    · cases h
theorem PureV.pureU {N : Nat → Prop} {a : AV} {v : Value} (h : PureV w N a v) (ht : ∀ xs, a ≠ .tup xs) : PureU w N a v := by
  cases a <;> first | exact h | exact absurd rfl (ht _)
theorem lend_tup {m : Nat → Blk → Bool} {H : List Blk} {a : AV} {xs : List AV} (h : lend m H a = some (.tup xs)) {N : Nat → Prop} {v : Value} (L : ∀ n, Lends B w H μ N m n) (r : RepV B w H μ a v) : False := by
  cases a with
  | agg cs => simp only [lend] at h; obtain ⟨_, _, h⟩ := Option.map_eq_some_iff.1 h; cases h
  | undef => simp [lend] at h
  | tup _ => simp [lend] at h
  | _ =>
    simp only [lend] at h
    have := (L 20).c h r
    cases this
theorem Ok.of_cw {f : Nat} {Fn : F} (hF : FOk P f Fn) {args : List AV} {r : AV} (h : CW P 0 Fn.c (retP Fn.rs r) ⟨frame Fn.nt args, []⟩) : Ok P f args r := by
  obtain ⟨fn, code, hf, hb, hn, hr, hc⟩ := hF
  intro w N vs hN ha
  have R0 := rel0 w hN
  have S0 := frame_slots (fn := fn) (B := ⟨w, N⟩) (w := w) (H := []) (μ := fun _ => none) (ha.mono fun _ _ h => PureV.rep0 hN h)
  rw [hn] at S0
  refine calls_of_wp hf hb (wp_mono (h code hc ⟨w, N⟩ w (fun _ => none) _ R0 (by rw [hn]; exact S0)) ?_)
  rintro e a' w' ⟨st', μ', q, R', S', d, E⟩
  have fin : (∃ xs ys, vals st' Fn.rs = some xs ∧ lendAll (fun _ _ => true) st'.h xs = some ys ∧ r = one ys) →
      a'.defers = [] ∧ ∃ v, (results fn a'.tmps).run P w' = .ok v w' ∧ ∃ v', Ending.returned v = .returned v' ∧ Below w.heap.size w w' ∧ PureV w' (fun g => N g ∨ (w.heap.size ≤ g ∧ g < w'.heap.size)) r v' := by
    rintro ⟨xs, ys, hx, hl, rfl⟩
    refine ⟨d, ?_⟩
    obtain ⟨us, val, hrun, hrs, hval⟩ := results_one R' S' hr hx
    refine ⟨val, hrun, val, rfl, R'.below, ?_⟩
    have L := fun n => lends R' (N := fun g => N g ∨ (w.heap.size ≤ g ∧ g < w'.heap.size)) (m := fun _ _ => true)
      (fun g hg => hg.1.elim (fun h => .inl h) fun h => .inr ⟨h, hg.2.1⟩)
      (fun b k g c hb hk _ hm => .inr ⟨R'.own b k g c hb hk hm, (R'.blk b k hb).lt hk hm⟩) n
    have hp := lendAll_sound L hl hrs
    have hlen := lendAll_len hl
    rcases hval with ⟨u, rfl, rfl⟩ | ⟨hne, rfl⟩
    · cases hp with
      | cons hh t => cases t; exact hh
    · have hly : ys.length ≠ 1 := by rw [hlen, hrs.length]; exact hne
      have hone : one ys = .tup ys := by
        match ys, hly with
        | [], _ => rfl
        | [_], h => exact absurd rfl h
        | _ :: _ :: _, _ => rfl
      rw [hone]
      refine ⟨us.toArray, rfl, ?_⟩
      have : ∀ {xs ys : List AV} {us : List Value}, lendAll (fun _ _ => true) st'.h xs = some ys → All2 (RepV ⟨w, N⟩ w' st'.h μ') xs us →
          All2 (PureU w' (fun g => N g ∨ (w.heap.size ≤ g ∧ g < w'.heap.size))) ys us := by
        intro xs
        induction xs with
        | nil => intro ys us h r; simp only [lendAll, Option.some.injEq] at h; subst h; cases r; exact .nil
        | cons x xs ih =>
          intro ys us h r
          simp only [lendAll] at h
          split at h
          · rename_i c' cs' h1 h2
            simp only [Option.some.injEq] at h; subst h
            cases r with
            | cons r t => exact .cons ((lend_sound L h1 r).pureU fun xs e => lend_tup (e ▸ h1) L r) (ih h2 t)
          · cases h
      exact this hl hrs
  cases e with
  | normal => exact fin q
  | ret => exact fin q
  | _ => exact q.elim
theorem OkH.of_cw {f : Nat} {Fn : F} (hF : FOk P f Fn) {args : List AV} {H H' : List Blk} {r : AV}
    (h : CW P H.length Fn.c (fun e st => ∃ st', Weak H.length st st' ∧ retH Fn.rs r H' e st') ⟨frame Fn.nt args, H⟩) : OkH P f args H r H' := by
  obtain ⟨fn, code, hf, hb, hn, hr, hc⟩ := hF
  intro B w μ vs R ha
  have S0 := frame_slots (fn := fn) ha
  rw [hn] at S0
  refine calls_of_wp hf hb (wp_mono (cw_post h code hc B w μ _ R (by rw [hn]; exact S0)) ?_)
  rintro e a' w' ⟨st', μ', q, R', S', d, E⟩
  have fin : (∃ xs, vals st' Fn.rs = some xs ∧ (∀ x ∈ xs, ∀ ys, x ≠ .tup ys) ∧ r = one xs ∧ st'.h = H') →
      a'.defers = [] ∧ ∃ v, (results fn a'.tmps).run P w' = .ok v w' ∧ ∃ v' μ', Ending.returned v = .returned v' ∧ Rel B w' H' μ' ∧ Ext B w H μ w' H' μ' ∧ RepV B w' H' μ' r v' := by
    rintro ⟨xs, hx, hnt, rfl, rfl⟩
    refine ⟨d, ?_⟩
    obtain ⟨us, val, hrun, hrs, hval⟩ := results_one R' S' hr hx
    refine ⟨val, hrun, val, μ', rfl, R', E.ext (Nat.le_refl _), ?_⟩
    rcases hval with ⟨u, rfl, rfl⟩ | ⟨hne, rfl⟩
    · cases hrs with
      | cons hh t => cases t; exact hh
    · have hly : xs.length ≠ 1 := by rw [hrs.length]; exact hne
      have hone : one xs = .tup xs := by
        match xs, hly with
        | [], _ => rfl
        | [_], h => exact absurd rfl h
        | _ :: _ :: _, _ => rfl
      rw [hone]
      exact ⟨us.toArray, rfl, hrs.mono_mem fun a ha b hab => hab.repU' (hnt a ha)⟩
  cases e with
  | normal => exact fin q
  | ret => exact fin q
  | _ => exact q.elim
end
end Go.Vm
namespace Go.Vm
open Go.RowKit
def mapO {α β : Type} (f : α → Option β) : List α → Option (List β)
  | [] => some []
  | a :: as => match f a with
    | none => none
    | some b => match mapO f as with
      | none => none
      | some bs => some (b :: bs)
theorem mapO_all {α β : Type} {f : α → Option β} : ∀ {as : List α} {bs : List β}, mapO f as = some bs → All2 (fun b a => f a = some b) bs as
  | [], bs, h => by simp only [mapO, Option.some.injEq] at h; subst h; exact .nil
  | a :: as, bs, h => by
    simp only [mapO] at h
    split at h
    · cases h
    · rename_i b hb
      split at h
      · cases h
      · rename_i bs' hbs
        simp only [Option.some.injEq] at h; subst h
        exact .cons hb (mapO_all hbs)
def isSlice (P : Program) (t : TypeId) : Option Nat :=
  match P.underlying t with
  | some (.slice e) => some e
  | _ => none
theorem isSlice_eq {P : Program} {t e : Nat} (h : isSlice P t = some e) : P.underlying t = some (.slice e) := by
  unfold isSlice at h
  split at h
  · rename_i e' he; cases h; exact he
  · cases h
def isStruct (P : Program) (t : TypeId) : Option (Array Field) :=
  match P.underlying t with
  | some (.struct fs) => some fs
  | _ => none
theorem isStruct_eq {P : Program} {t : Nat} {fs : Array Field} (h : isStruct P t = some fs) : P.underlying t = some (.struct fs) := by
  unfold isStruct at h
  split at h
  · rename_i e' he; cases h; exact he
  · cases h
def isInt (P : Program) (t : TypeId) : Option IntKind :=
  match P.underlying t with
  | some (.int k) => some k
  | _ => none
theorem isInt_eq {P : Program} {t : Nat} {k : IntKind} (h : isInt P t = some k) : P.underlying t = some (.int k) := by
  unfold isInt at h
  split at h
  · rename_i e' he; cases h; exact he
  · cases h
def isString (P : Program) (t : TypeId) : Bool :=
  match P.underlying t with
  | some .string => true
  | _ => false
theorem isString_eq {P : Program} {t : Nat} (h : isString P t = true) : P.underlying t = some .string := by
  unfold isString at h
  split at h
  · rename_i he; exact he
  · cases h
def isBool (P : Program) (t : TypeId) : Bool :=
  match P.underlying t with
  | some .bool => true
  | _ => false
theorem isBool_eq {P : Program} {t : Nat} (h : isBool P t = true) : P.underlying t = some .bool := by
  unfold isBool at h
  split at h
  · rename_i he; exact he
  · cases h
def isNilSlice : Operand → Bool
  | .const (.slice none 0 0) => true
  | _ => false
theorem isNilSlice_eq {x : Operand} (h : isNilSlice x = true) : x = .const (.slice none 0 0) := by
  unfold isNilSlice at h
  split at h
  · rfl
  · cases h
def optO (f : Operand → Option Opd) : Option Operand → Option (Option Opd)
  | none => some none
  | some x => (f x).map some
theorem optO_eq {x : Option Operand} {y : Option Opd} (h : optO cOpd x = some y) : x.map cOpd = y.map some := by
  cases x with
  | none => simp only [optO, Option.some.injEq] at h; subst h; rfl
  | some x => simp only [optO, Option.map_eq_some_iff] at h; obtain ⟨z, hz, rfl⟩ := h; simp [hz]
def cBuild (P : Program) (t : TypeId) (ps : List (Nat × Operand)) : Option O :=
  match isStruct P t, P.info? t with
  | some fs, some i => match i.zero with
    | some z => match z.cells.toList.mapM const1, mapO (fun (y : Nat × Operand) => match fs[y.1]? with
        | some f => match sizeOf? P f.type, cOpd y.2 with
          | some n, some x => some (f.offset, n, x)
          | _, _ => none
        | none => none) ps with
      | some zero, some ps' => if fs.toList.all (fun f => (sizeOf? P f.type).isSome) then some (.build zero ps') else none
      | _, _ => none
    | none => none
  | _, _ => none
def cBsl (P : Program) (t : TypeId) (n : Nat) (ps : List (Nat × Operand)) : Option O :=
  match isSlice P t with
  | some e => match P.info? e with
    | some i => match i.zero with
      | some z => match constAV z with
        | some zero => match zero.stored, mapO (fun (y : Nat × Operand) => (cOpd y.2).map fun x => (y.1, x)) ps with
          | some zc, some ps' => if zc.length = i.size ∧ n * i.size ≤ 16777216 ∧ n ≤ 16777216 then some (.bsl e i.size n zero ps') else none
          | _, _ => none
        | none => none
      | none => none
    | none => none
  | none => none
def cMksl (P : Program) (t : TypeId) (l c : Operand) : Option O :=
  match isSlice P t with
  | some e => match P.info? e with
    | some i => match i.zero with
      | some z => match constAV z with
        | some zero => match zero.stored, cOpd l, cOpd c with
          | some zc, some l', some c' => if zc.length = i.size then some (.mksl e i.size i.bytes zero l' c') else none
          | _, _, _ => none
        | none => none
      | none => none
    | none => none
  | none => none
def cBin (P : Program) (op : BinOp) (t : TypeId) (x y : Operand) : Option O :=
  match op with
  | .eql => if isNilSlice y then match isSlice P t, cOpd x with
      | some _, some x' => some (.isnil false x')
      | _, _ => none
    else match cOpd x, cOpd y with
      | some x', some y' => if isBool P t then some (.beq false x' y') else some (.bin .eql x' y')
      | _, _ => none
  | .neq => if isNilSlice y then match isSlice P t, cOpd x with
      | some _, some x' => some (.isnil true x')
      | _, _ => none
    else match cOpd x, cOpd y with
      | some x', some y' => if isBool P t then some (.beq true x' y') else some (.bin .neq x' y')
      | _, _ => none
  | op => match cOpd x, cOpd y with
      | some x', some y' => some (.bin op x' y')
      | _, _ => none
def cConv (P : Program) (s d : TypeId) (x : Operand) : Option O :=
  match cOpd x with
  | some x' => match isInt P s, isInt P d with
    | some _, some k => some (.conv k x')
    | _, _ => match isSlice P s with
      | some e => if isString P d then match isInt P e with
          | some .u8 => some (.b2s x')
          | _ => none
        else none
      | none => none
  | none => none
def cSlice (P : Program) (t : TypeId) (x : Operand) (lo hi : Option Operand) : Option O :=
  match cOpd x, optO cOpd lo, optO cOpd hi with
  | some x', some lo', some hi' => match isSlice P t with
    | some e => match sizeOf? P e with
      | some n => some (.slice n x' lo' hi')
      | none => none
    | none => if isString P t then some (.sslice x' lo' hi') else none
  | _, _, _ => none
def cFaddr (P : Program) (s : TypeId) (x : Operand) (k : Nat) : Option O :=
  match isStruct P s, cOpd x with
  | some fs, some x' => match fs[k]? with
    | some f => match sizeOf? P f.type with
      | some n => if n ≠ 0 then some (.faddr f.offset x') else none
      | none => none
    | none => none
  | _, _ => none
def cFld (P : Program) (s : TypeId) (x : Operand) (k : Nat) : Option O :=
  match isStruct P s, cOpd x with
  | some fs, some x' => match fs[k]? with
    | some f => match sizeOf? P f.type, aggOf? P f.type with
      | some n, some agg => if agg = false → n = 1 then some (.fld f.offset n agg x') else none
      | _, _ => none
    | none => none
  | _, _ => none
def cAppend (P : Program) (s x : Operand) (t u : TypeId) : Option O :=
  match cOpd s, cOpd x, isSlice P t with
  | some s', some x', some e => match P.info? e with
    | some i => match i.zero with
      | some z => if t = u then (if z.cells.size = i.size ∧ 0 < i.bytes then some (.append e i.size i.bytes s' x') else none)
        else if isString P u then match z with
          | .int .u8 n => if n = 0 ∧ i.size = 1 ∧ i.bytes = 1 then some (.appends e 1 s' x') else none
          | _ => none
        else none
      | none => none
    | none => none
  | _, _, _ => none
def cCall (P : Program) (c : Call) : Option O :=
  match c.callee with
  | .value (.func f) => if callable P f then (mapO cOpd c.args.toList).map (.call f) else none
  | .value (.tmp t) => (mapO cOpd c.args.toList).map (.callv (.t t))
  | .builtin .len => match c.args.toList, c.argTypes.toList with
    | [x], [t] => match cOpd x with
      | some x' => if isString P t then some (.slen x') else match isSlice P t with
        | some _ => some (.len x')
        | none => none
      | none => none
    | _, _ => none
  | .builtin .append => match c.args.toList, c.argTypes.toList with
    | [s, x], [t, u] => cAppend P s x t u
    | _, _ => none
  | .builtin .copy => match c.args.toList, c.argTypes.toList with
    | [d, x], [t, _] => match cOpd d, cOpd x, isSlice P t with
      | some d', some x', some e => if sizeOf? P e = some 1 then some (.copy d' x') else none
      | _, _, _ => none
    | _, _ => none
  | .builtin .min => match c.args.toList with
    | [x, y] => match cOpd x, cOpd y with
      | some x', some y' => some (.min x' y')
      | _, _ => none
    | _ => none
  | .builtin .max => match c.args.toList with
    | [x, y] => match cOpd x, cOpd y with
      | some x', some y' => some (.max x' y')
      | _, _ => none
    | _ => none
  | _ => none
def cOp (P : Program) : Op → Option O
  | .move x => (cOpd x).map .mov
  | .assign x => (cOpd x).map .mov
  | .pick c a b => match cOpd c, cOpd a, cOpd b with
    | some c', some a', some b' => some (.pick c' a' b')
    | _, _, _ => none
  | .alloc t => match P.info? t with
    | some i => match i.zero with
      | some z => (z.cells.toList.mapM const1).map .alloc
      | none => none
    | none => none
  | .box _ x => (cOpd x).map .box
  | .build t ps => cBuild P t ps.toList
  | .buildSlice t n ps => cBsl P t n ps.toList
  | .load t a => match sizeOf? P t, aggOf? P t, cOpd a with
    | some n, some agg, some a' => some (.load n agg a')
    | _, _, _ => none
  | .store t a v => match sizeOf? P t, cOpd a, cOpd v with
    | some n, some a', some v' => some (.store n a' v')
    | _, _, _ => none
  | .nilCheck x => (cOpd x).map .nchk
  | .binOp op t x y _ => cBin P op t x y
  | .unOp .not _ x => (cOpd x).map .not
  | .unOp .neg _ x => (cOpd x).map .neg
  | .convert s d x => cConv P s d x
  | .makeFunc (.func f) first cs => if first.size = 0 then (mapO cOpd cs.toList).map (.mkfn f) else none
  | .makeSlice t l c => cMksl P t l c
  | .slice t x lo hi none => cSlice P t x lo hi
  | .fieldAddr s x k => cFaddr P s x k
  | .field s x k => cFld P s x k
  | .indexAddr t x i => match isSlice P t, cOpd x, cOpd i with
    | some e, some x', some i' => match sizeOf? P e with
      | some n => some (.iaddr n x' i')
      | none => none
    | _, _, _ => none
  | .index t x i => match cOpd x, cOpd i with
    | some x', some i' => if isString P t then some (.idxs x' i') else none
    | _, _ => none
  | .extract x k => (cOpd x).map fun x' => .extr x' k
  | .call c => cCall P c
  | _ => none
section
variable {P : Program}
theorem cBuild_ok {t : Nat} {ps : Array (Nat × Operand)} {ty : Nat} {o : O} (h : cBuild P t ps.toList = some o) : COp P (.build t ps) ty o := by
  unfold cBuild at h
  split at h
  · rename_i fs i hu hi
    split at h
    · rename_i z hz
      split at h
      · rename_i zero ps' hc hp
        split at h
        · rename_i hall
          simp only [Option.some.injEq] at h; subst h
          have e : ps = ps.toList.toArray := by simp
          rw [e]
          refine COp.build (isStruct_eq hu) hi hz hc (fun f hf => List.all_eq_true.1 hall f hf) ((mapO_all hp).mono fun b a hab => ?_)
          obtain ⟨k, y⟩ := a
          simp only at hab
          split at hab
          · rename_i f hf
            split at hab
            · rename_i n x hn hx
              simp only [Option.some.injEq] at hab; subst hab
              exact ⟨⟨f, hf, rfl, hn⟩, hx⟩
            · cases hab
          · cases hab
        · cases h
      · cases h
    · cases h
  · cases h
theorem cBsl_ok {t n : Nat} {ps : Array (Nat × Operand)} {ty : Nat} {o : O} (h : cBsl P t n ps.toList = some o) : COp P (.buildSlice t n ps) ty o := by
  unfold cBsl at h
  repeat' (split at h <;> try cases h)
  rename_i zc ps' hs hp hcond
  have e : ps = ps.toList.toArray := by simp
  rw [e]
  refine COp.bsl (isSlice_eq (by assumption)) (by assumption) (by assumption) (by assumption) hs hcond.1 hcond.2.1 hcond.2.2 ((mapO_all hp).mono fun b a hab => ?_)
  obtain ⟨k, y⟩ := a
  simp only [Option.map_eq_some_iff] at hab
  obtain ⟨x, hx, rfl⟩ := hab
  exact ⟨rfl, hx⟩
theorem cMksl_ok {t : Nat} {l c : Operand} {ty : Nat} {o : O} (h : cMksl P t l c = some o) : COp P (.makeSlice t l c) ty o := by
  unfold cMksl at h
  repeat' (split at h <;> try cases h)
  rename_i zc l' c' hs hl hc' hcond
  exact COp.mksl (isSlice_eq (by assumption)) (by assumption) (by assumption) (by assumption) hs hcond hl hc'
theorem cBin_ok {op : BinOp} {t ty2 : Nat} {x y : Operand} {ty : Nat} {o : O} (h : cBin P op t x y = some o) : COp P (.binOp op t x y ty2) ty o := by
  unfold cBin at h
  split at h
  · split at h
    · rename_i hn
      split at h
      · rename_i hu hx
        cases h
        rw [isNilSlice_eq hn]
        exact COp.eqnil (isSlice_eq hu) hx
      · cases h
    · split at h
      · rename_i hx hy
        split at h
        · rename_i hb; cases h; exact COp.beq (isBool_eq hb) hx hy
        · cases h; exact COp.bin hx hy
      · cases h
  · split at h
    · rename_i hn
      split at h
      · rename_i hu hx
        cases h
        rw [isNilSlice_eq hn]
        exact COp.nenil (isSlice_eq hu) hx
      · cases h
    · split at h
      · rename_i hx hy
        split at h
        · rename_i hb; cases h; exact COp.bne (isBool_eq hb) hx hy
        · cases h; exact COp.bin hx hy
      · cases h
  · split at h
    · rename_i hx hy; cases h; exact COp.bin hx hy
    · cases h
theorem cConv_ok {s d : Nat} {x : Operand} {ty : Nat} {o : O} (h : cConv P s d x = some o) : COp P (.convert s d x) ty o := by
  unfold cConv at h
  split at h
  · rename_i x' hx
    split at h
    · rename_i hs hd; cases h; exact COp.conv (isInt_eq hs) (isInt_eq hd) hx
    · split at h
      · rename_i e he
        split at h
        · rename_i hd
          split at h
          · rename_i hk; cases h; exact COp.b2s (isSlice_eq he) (isString_eq hd) (isInt_eq hk) hx
          · cases h
        · cases h
      · cases h
  · cases h
theorem cSlice_ok {t : Nat} {x : Operand} {lo hi : Option Operand} {ty : Nat} {o : O} (h : cSlice P t x lo hi = some o) : COp P (.slice t x lo hi none) ty o := by
  unfold cSlice at h
  split at h
  · rename_i hx hl hh
    split at h
    · rename_i e he
      split at h
      · rename_i n hn; cases h; exact COp.slice (isSlice_eq he) hn hx (optO_eq hl) (optO_eq hh)
      · cases h
    · split at h
      · rename_i hs; cases h; exact COp.sslice (isString_eq hs) hx (optO_eq hl) (optO_eq hh)
      · cases h
  · cases h
theorem cFaddr_ok {s : Nat} {x : Operand} {k : Nat} {ty : Nat} {o : O} (h : cFaddr P s x k = some o) : COp P (.fieldAddr s x k) ty o := by
  unfold cFaddr at h
  repeat' (split at h <;> try cases h)
  rename_i n hn hne
  exact COp.faddr (isStruct_eq (by assumption)) (by assumption) hn hne (by assumption)
theorem cFld_ok {s : Nat} {x : Operand} {k : Nat} {ty : Nat} {o : O} (h : cFld P s x k = some o) : COp P (.field s x k) ty o := by
  unfold cFld at h
  repeat' (split at h <;> try cases h)
  rename_i n agg hn ha hc
  exact COp.fld (isStruct_eq (by assumption)) (by assumption) hn ha hc (by assumption)
theorem cAppend_ok {s x : Operand} {t u : Nat} {ty : Nat} {o : O} (h : cAppend P s x t u = some o) : COp P (.call { callee := .builtin .append, args := #[s, x], argTypes := #[t, u] }) ty o := by
  unfold cAppend at h
  split at h
  · rename_i s' x' e hs hx he
    split at h
    · rename_i i hi
      split at h
      · rename_i z hz
        split at h
        · rename_i htu
          subst htu
          split at h
          · rename_i hc; cases h; exact COp.append (isSlice_eq he) hi hz hc.1 hc.2 hs hx
          · cases h
        · split at h
          · rename_i hu
            split at h
            · split at h
              · rename_i hc
                cases h
                obtain ⟨rfl, h1, h2⟩ := hc
                exact COp.appends (isSlice_eq he) (isString_eq hu) hi hz h1 h2 hs hx
              · cases h
            · cases h
          · cases h
      · cases h
    · cases h
  · cases h
theorem toArr1 {α : Type} {a : Array α} {x : α} (h : a.toList = [x]) : a = #[x] := by
  apply Array.toList_inj.1; simpa using h
theorem toArr2 {α : Type} {a : Array α} {x y : α} (h : a.toList = [x, y]) : a = #[x, y] := by
  apply Array.toList_inj.1; simpa using h
theorem cCall_ok {c : Call} {ty : Nat} {o : O} (h : cCall P c = some o) : CO P (.call c) ty o := by
  obtain ⟨callee, args, ts⟩ := c
  unfold cCall at h
  simp only at h
  split at h
  · split at h
    · rename_i hc
      obtain ⟨as, ha, rfl⟩ := Option.map_eq_some_iff.1 h
      have e : args = args.toList.toArray := by simp
      rw [e]
      exact .call hc (mapO_all ha)
    · cases h
  · obtain ⟨as, ha, rfl⟩ := Option.map_eq_some_iff.1 h
    have e : args = args.toList.toArray := by simp
    rw [e]
    exact .callv (mapO_all ha)
  · split at h
    · rename_i x t e1 e2
      rw [toArr1 e1, toArr1 e2]
      split at h
      · rename_i x' hx
        split at h
        · rename_i hs; cases h; exact .op (.slen (isString_eq hs) hx)
        · split at h
          · rename_i e he; cases h; exact .op (.len (isSlice_eq he) hx)
          · cases h
      · cases h
    · cases h
  · split at h
    · rename_i s x t u e1 e2
      rw [toArr2 e1, toArr2 e2]
      exact .op (cAppend_ok h)
    · cases h
  · split at h
    · rename_i d x t u e1 e2
      rw [toArr2 e1, toArr2 e2]
      split at h
      · rename_i hd hx he
        split at h
        · rename_i hs; cases h; exact .op (.copy (isSlice_eq he) hs hd hx)
        · cases h
      · cases h
    · cases h
  · split at h
    · rename_i x y e1
      rw [toArr2 e1]
      split at h
      · rename_i hx hy; cases h; exact .op (.min hx hy)
      · cases h
    · cases h
  · split at h
    · rename_i x y e1
      rw [toArr2 e1]
      split at h
      · rename_i hx hy; cases h; exact .op (.max hx hy)
      · cases h
    · cases h
  · cases h
theorem cOp_ok {op : Op} {ty : Nat} {o : O} (h : cOp P op = some o) : CO P op ty o := by
  unfold cOp at h
  split at h
  · obtain ⟨x', hx, rfl⟩ := Option.map_eq_some_iff.1 h; exact .op (.mov hx)
  · obtain ⟨x', hx, rfl⟩ := Option.map_eq_some_iff.1 h; exact .op (.asg hx)
  · split at h
    · rename_i h1 h2 h3; cases h; exact .op (.pick h1 h2 h3)
    · cases h
  · split at h
    · rename_i i hi
      split at h
      · rename_i z hz
        obtain ⟨zs, hzs, rfl⟩ := Option.map_eq_some_iff.1 h
        exact .op (.alloc hi hz hzs)
      · cases h
    · cases h
  · obtain ⟨x', hx, rfl⟩ := Option.map_eq_some_iff.1 h; exact .op (.box hx)
  · exact .op (cBuild_ok h)
  · exact .op (cBsl_ok h)
  · split at h
    · rename_i h1 h2 h3; cases h; exact .op (.load h1 h2 h3)
    · cases h
  · split at h
    · rename_i h1 h2 h3; cases h; exact .op (.store h1 h2 h3)
    · cases h
  · obtain ⟨x', hx, rfl⟩ := Option.map_eq_some_iff.1 h; exact .op (.nchk hx)
  · exact .op (cBin_ok h)
  · obtain ⟨x', hx, rfl⟩ := Option.map_eq_some_iff.1 h; exact .op (.not hx)
  · obtain ⟨x', hx, rfl⟩ := Option.map_eq_some_iff.1 h; exact .op (.neg hx)
  · exact .op (cConv_ok h)
  · rename_i f first cs
    split at h
    · rename_i hz
      obtain ⟨as, ha, rfl⟩ := Option.map_eq_some_iff.1 h
      have e : cs = cs.toList.toArray := by simp
      have e2 : first = #[] := Array.eq_empty_of_size_eq_zero hz
      rw [e, e2]
      exact .op (.mkfn (mapO_all ha))
    · cases h
  · exact .op (cMksl_ok h)
  · exact .op (cSlice_ok h)
  · exact .op (cFaddr_ok h)
  · exact .op (cFld_ok h)
  · split at h
    · rename_i he hx hi
      split at h
      · rename_i n hn; cases h; exact .op (.iaddr (isSlice_eq he) hn hx hi)
      · cases h
    · cases h
  · split at h
    · rename_i hx hi
      split at h
      · rename_i hs; cases h; exact .op (.idxs (isString_eq hs) hx hi)
      · cases h
    · cases h
  · obtain ⟨x', hx, rfl⟩ := Option.map_eq_some_iff.1 h; exact .op (.extr hx)
  · exact cCall_ok h
  · cases h
end
end Go.Vm
namespace Go.Vm
open Go.RowKit
def cExtra (P : Program) : Op → O
  | .slice t x (some lo) (some hi) (some mx) => match isSlice P t, cOpd x, cOpd lo, cOpd hi, cOpd mx with
    | some e, some x', some lo', some hi', some mx' => match sizeOf? P e with
      | some _ => .chk3 x' lo' hi' mx'
      | none => .bad
    | _, _, _, _, _ => .bad
  | .call c => match c.callee, c.args.toList, c.argTypes.toList with
    | .builtin .clear, [x], [t] => match cOpd x, isSlice P t with
      | some x', some e => match P.info? e with
        | some i => match i.zero with
          | some z => match constAV z with
            | some zero => match zero.stored with
              | some zc => if zc.length = 1 then .clear zero x' else .bad
              | none => .bad
            | none => .bad
          | none => .bad
        | none => .bad
      | _, _ => .bad
    | .builtin .cap, [x], [t] => match cOpd x, isSlice P t with
      | some x', some _ => .cap x'
      | _, _ => .bad
    | .builtin .append, [s, x], [t, u] => match cOpd s, cOpd x, isSlice P t, P.underlying u with
      | some s', some x', some e, some (.int _) => match P.info? e with
        | some i => match i.zero with
          | some z => match constAV z with
            | some zero => match zero.stored with
              | some zc => if zc.length = i.size then .appz e i.size i.bytes zero s' x' else .bad
              | none => .bad
            | none => .bad
          | none => .bad
        | none => .bad
      | _, _, _, _ => .bad
    | _, _, _ => .bad
  | _ => .bad
def cEqs (P : Program) (ne : Bool) (t : TypeId) (x y : Operand) : Option O :=
  match P.underlying t, flatFields P 0 (P.fieldsOf t).toList, cOpd x, cOpd y with
  | some (.struct _), some ks, some x', some y' => if P.stoodInHeld t = false ∧ P.eqGuardType P.depth t = false then some (.eqs ne ks x' y') else none
  | _, _, _, _ => none
def cOpX (P : Program) (op : Op) : O := match op with
  | .binOp .eql t x y z => match cEqs P false t x y with
    | some o => o
    | none => (cOp P (.binOp .eql t x y z)).getD .bad
  | .binOp .neq t x y z => match cEqs P true t x y with
    | some o => o
    | none => (cOp P (.binOp .neq t x y z)).getD .bad
  | op => match cOp P op with
    | some o => o
    | none => cExtra P op
theorem cEqs_ok {P : Program} {t : TypeId} {x y : Operand} {z : TypeId} {ty : Nat} {o : O} {ne : Bool} (h : cEqs P ne t x y = some o) : COp P (.binOp (if ne then .neq else .eql) t x y z) ty o := by
  unfold cEqs at h
  split at h
  · rename_i fs ks x' y' hu hf hx hy
    split at h
    · rename_i hc
      cases h
      have hu' : P.underlying t = some (.struct (P.fieldsOf t)) := by unfold Program.fieldsOf; rw [hu]
      cases ne
      · exact .eqs hu' hf hc.1 hc.2 hx hy
      · exact .nes hu' hf hc.1 hc.2 hx hy
    · cases h
  · cases h
theorem getD_bad {P : Program} {op : Op} {ty : Nat} : CO P op ty ((cOp P op).getD .bad) := by
  cases h : cOp P op with
  | none => exact .op .bad
  | some o => exact cOp_ok h
theorem cExtra_ok {P : Program} {op : Op} {ty : Nat} : CO P op ty (cExtra P op) := by
  unfold cExtra
  split
  · split
    · rename_i e x' lo' hi' mx' he hx h1 h2 h3
      split
      · rename_i n hs; exact .op (.chk3 (isSlice_eq he) hs hx h1 h2 h3)
      · exact .op .bad
    · exact .op .bad
  · rename_i c
    obtain ⟨callee, args, ts⟩ := c
    simp only
    split
    · rename_i x t e1 e2
      rw [toArr1 e1, toArr1 e2]
      split
      · rename_i x' e hx he
        split
        · rename_i i hi
          split
          · rename_i z hz
            split
            · rename_i zero hc
              split
              · rename_i zc hst
                split
                · rename_i hl; exact .op (.clear (isSlice_eq he) hi hz hc hst hl hx)
                · exact .op .bad
              · exact .op .bad
            · exact .op .bad
          · exact .op .bad
        · exact .op .bad
      · exact .op .bad
    · rename_i x t e1 e2
      rw [toArr1 e1, toArr1 e2]
      split
      · rename_i hx hs; exact .op (.cap (isSlice_eq hs) hx)
      · exact .op .bad
    · rename_i s x t u e1 e2
      rw [toArr2 e1, toArr2 e2]
      split
      · rename_i hs hx he hk
        split
        · rename_i i hi
          split
          · rename_i z hz
            split
            · rename_i zero hc
              split
              · rename_i zc hst
                split
                · rename_i hl; exact .op (.appz (isSlice_eq he) hk hi hz hc hst hl hs hx)
                · exact .op .bad
              · exact .op .bad
            · exact .op .bad
          · exact .op .bad
        · exact .op .bad
      · exact .op .bad
    · exact .op .bad
  · exact .op .bad
theorem cOpX_ok {P : Program} {op : Op} {ty : Nat} : CO P op ty (cOpX P op) := by
  unfold cOpX
  split
  · split
    · rename_i h; exact .op (cEqs_ok (ne := false) h)
    · exact getD_bad
  · split
    · rename_i h; exact .op (cEqs_ok (ne := true) h)
    · exact getD_bad
  · split
    · rename_i h; exact cOp_ok h
    · exact cExtra_ok
def cOper (P : Program) (ops : Array Oper) (o : Oper) : Option OpR :=
  match some (cOpX P o.op) with
  | some o' => match o.guard with
    | none => some ⟨o.dst, o', none⟩
    | some (j, w) => match (ops[j]?).bind (·.dst) with
      | some t => some ⟨o.dst, o', some (t, w)⟩
      | none => none
  | none => none
theorem cOper_ok {P : Program} {ops : Array Oper} {o : Oper} {o' : OpR} (h : cOper P ops o = some o') : COper P ops o' o := by
  unfold cOper at h
  split at h
  · rename_i oo ho
    split at h
    · rename_i hg
      cases h
      exact ⟨rfl, (Option.some.inj ho ▸ cOpX_ok), by rw [hg]; trivial⟩
    · rename_i j w hg
      split at h
      · rename_i t ht
        cases h
        exact ⟨rfl, (Option.some.inj ho ▸ cOpX_ok), by rw [hg]; exact ⟨rfl, ht⟩⟩
      · cases h
  · cases h
def edges (o : Oper) : List Nat := (o.after.toList.filter fun e => Region.binds .any e).map (·.on)
def uni : List Nat → List Nat → List Nat
  | [], l => l
  | x :: xs, l => uni xs (if l.contains x then l else x :: l)
def clos : List Oper → List (List Nat) → List (List Nat)
  | [], D => D
  | o :: os, D => clos os (D ++ [(edges o).foldl (fun l e => uni (e :: D.getD e []) l) []])
def ordered (D : List (List Nat)) (i j : Nat) : Bool := (D.getD i []).contains j || (D.getD j []).contains i
def dokB (ops : List Oper) (os : List OpR) (D : List (List Nat)) : Bool :=
  ops.zipIdx.all (fun (o, i) => (edges o).all (· < i) && (D.getD i []).all fun j => (edges o).any fun e => e == j || (D.getD e []).contains j) &&
  D.length == ops.length &&
  os.zipIdx.all fun (o, i) => os.zipIdx.all fun (p, j) =>
    match p.dst with
    | some t => (j == i || !(o.reads.contains t) || (if j < i then (D.getD i []).contains j else (D.getD j []).contains i)) &&
        (match o.dst with | some t' => t' != t || !(decide (i < j)) || (D.getD j []).contains i | none => true)
    | none => true
theorem zipIdx_get {α : Type} {l : List α} {i : Nat} {a : α} (h : l[i]? = some a) : (a, i) ∈ l.zipIdx := by
  rw [List.mem_zipIdx_iff_getElem?]; exact h
theorem edges_mem {o : Oper} {e : Edge} (he : e ∈ o.after) (hb : Region.binds .any e = true) : e.on ∈ edges o := by
  unfold edges
  exact List.mem_map.2 ⟨e, List.mem_filter.2 ⟨by simpa using he, hb⟩, rfl⟩
theorem mem_edges {o : Oper} {n : Nat} (h : n ∈ edges o) : ∃ e, e ∈ o.after ∧ Region.binds .any e = true ∧ e.on = n := by
  unfold edges at h
  obtain ⟨e, he, rfl⟩ := List.mem_map.1 h
  obtain ⟨h1, h2⟩ := List.mem_filter.1 he
  exact ⟨e, by simpa using h1, h2, rfl⟩
theorem dokB_ok {ops : Array Oper} {os : List OpR} {D : List (List Nat)} (hlen : os.length = ops.size) (h : dokB ops.toList os D = true) : DOk ops os fun i => D.getD i [] := by
  unfold dokB at h
  simp only [Bool.and_eq_true, List.all_eq_true, decide_eq_true_eq] at h
  obtain ⟨⟨h1, hl⟩, h2⟩ := h
  have hl' : D.length = ops.size := by simpa using hl
  have key : ∀ (i : Nat) o', os[i]? = some o' → ∀ (j : Nat) p', os[j]? = some p' → ∀ t, p'.dst = some t →
      (j = i ∨ t ∉ o'.reads ∨ (j < i ∧ j ∈ D.getD i []) ∨ (i < j ∧ i ∈ D.getD j [])) ∧ (∀ t', o'.dst = some t' → t' ≠ t ∨ ¬ i < j ∨ i ∈ D.getD j []) := by
    intro i o' ho j p' hp t ht
    have := h2 (o', i) (zipIdx_get ho) (p', j) (zipIdx_get hp)
    simp only [ht, Bool.and_eq_true, Bool.or_eq_true, beq_iff_eq, Bool.not_eq_true', List.contains_iff_mem] at this
    obtain ⟨k1, k2⟩ := this
    refine ⟨?_, fun t' ht' => ?_⟩
    · rcases k1 with (k1 | k1) | k1
      · exact .inl k1
      · exact .inr (.inl (fun hm => by simp [hm] at k1))
      · by_cases hji : j < i
        · rw [if_pos hji] at k1; exact .inr (.inr (.inl ⟨hji, List.contains_iff_mem.1 k1⟩))
        · rw [if_neg hji] at k1
          by_cases e : j = i
          · exact .inl e
          · exact .inr (.inr (.inr ⟨by omega, List.contains_iff_mem.1 k1⟩))
    · simp only [ht'] at k2
      simp only [Bool.or_eq_true, bne_iff_ne, ne_eq, Bool.not_eq_true', decide_eq_false_iff_not, List.contains_iff_mem] at k2
      rcases k2 with (k2 | k2) | k2
      · exact .inl k2
      · exact .inr (.inl k2)
      · exact .inr (.inr k2)
  refine ⟨hlen, fun i o ho e he hb => ?_, fun i j hj => ?_, fun i o' ho t ht j p' hp hd hne => ?_, fun i o' ho j p' hp t ht hd hlt => ?_⟩
  · have := (h1 (o, i) (zipIdx_get (by simpa using ho))).1 e.on (edges_mem he hb)
    simpa using this
  · have hi : i < ops.size := by
      rcases Nat.lt_or_ge i ops.size with h | h
      · exact h
      · simp [List.getD, List.getElem?_eq_none (show D.length ≤ i by omega)] at hj
    have := (h1 (ops[i], i) (zipIdx_get (by simp [hi]))).2 j hj
    simp only [List.any_eq_true, Bool.or_eq_true, beq_iff_eq, List.contains_iff_mem] at this
    obtain ⟨n, hn, hor⟩ := this
    obtain ⟨e, he, hb, rfl⟩ := mem_edges hn
    exact ⟨ops[i], e, by simp [hi], he, hb, hor⟩
  · rcases (key i o' ho j p' hp t hd).1 with h | h | h | h
    · exact absurd h hne
    · exact absurd ht h
    · exact ⟨fun _ => h.2, fun h' => absurd h' (by omega)⟩
    · exact ⟨fun h' => absurd h' (by omega), fun _ => h.2⟩
  · rcases (key i o' ho j p' hp t hd).2 t ht with h | h | h
    · exact absurd rfl h
    · exact absurd hlt h
    · exact h
def louds (n : Nat) (D : List (List Nat)) : List Bool := (List.range n).map fun k => (List.range n).all fun j => j == k || ordered D k j
theorem louds_ok {n : Nat} {D : List (List Nat)} {k : Nat} (hk : k < n) (h : (louds n D).getD k false = true) : ∀ j, j < n → j ≠ k → j ∈ D.getD k [] ∨ k ∈ D.getD j [] := by
  intro j hj hne
  unfold louds at h
  rw [List.getD_eq_getElem?_getD, List.getElem?_map, List.getElem?_range hk] at h
  simp only [Option.map_some, Option.getD_some, List.all_eq_true, List.mem_range] at h
  have := h j hj
  simp only [Bool.or_eq_true, beq_iff_eq, ordered, List.contains_iff_mem] at this
  rcases this with h | h
  · exact absurd h hne
  · exact h
def O.isLay : O → Bool
  | .call .. | .callv .. | .alloc .. => true
  | _ => false
def grp (os : List OpR) (D : List (List Nat)) : List Bool :=
  let g := os.zipIdx.foldl (fun acc (o, i) => if o.o.isLay && acc.all (fun j => ordered D i j) then i :: acc else acc) []
  (List.range os.length).map fun i => g.contains i
def pairsB (n : Nat) (D : List (List Nat)) (l : List Bool) : Bool := (List.range n).all fun k => (List.range n).all fun j => j == k || !(l.getD k false) || !(l.getD j false) || ordered D k j
theorem pairs_ok {n : Nat} {D : List (List Nat)} {l : List Bool} (h : pairsB n D l = true) : ∀ k, k < n → l.getD k false = true → ∀ j, j < n → l.getD j false = true → j ≠ k → j ∈ D.getD k [] ∨ k ∈ D.getD j [] := by
  intro k hk hl j hj hl2 hne
  unfold pairsB at h
  simp only [List.all_eq_true, List.mem_range] at h
  have := h k hk j hj
  simp only [hl, hl2, Bool.or_eq_true, beq_iff_eq, ordered, List.contains_iff_mem, Bool.not_true] at this
  rcases this with ((h | h) | h) | h
  · exact absurd h hne
  · cases h
  · cases h
  · exact h
def cReg (P : Program) (ops : Array Oper) (draw : Bool) : Option C :=
  match mapO (cOper P ops) ops.toList with
  | some os => if draw then
      let D := clos ops.toList []
      if dokB ops.toList os D && P.follows .mixedOrders && pairsB ops.size D (grp os D) then some (.dreg (louds ops.size D) (grp os D) os) else none
    else some (.reg os)
  | none => none
def cCode (P : Program) : Code → Option C
  | .skip => some .skip
  | .region _ ops draw => cReg P ops draw
  | .seq a b => match cCode P a, cCode P b with
    | some a', some b' => some (.seq a' b')
    | _, _ => none
  | .cond x a b => match cOpd x, cCode P a, cCode P b with
    | some x', some a', some b' => some (.cond x' a' b')
    | _, _, _ => none
  | .block id c => (cCode P c).map (.block id)
  | .loop c => (cCode P c).map .loop
  | .exit id => some (.exit id)
  | .ret => some .ret
  | _ => none
theorem cReg_ok {P : Program} {ops : Array Oper} {draw : Bool} {id : Nat} {c : C} (h : cReg P ops draw = some c) : CCode P c (.region id ops draw) := by
  unfold cReg at h
  split at h
  · rename_i os ho
    have hall := (mapO_all ho).mono fun b a hab => cOper_ok hab
    cases draw with
    | false =>
      simp only [Bool.false_eq_true, if_false, Option.some.injEq] at h; subst h
      exact .reg hall
    | true =>
      simp only [if_true] at h
      split at h
      · rename_i hc
        simp only [Option.some.injEq] at h; subst h
        simp only [Bool.and_eq_true] at hc
        have hlen : os.length = ops.size := by have := hall.length; simpa using this
        exact .dreg (D := clos ops.toList []) (pairs_ok hc.2) (fun k hk hl j hj hne => louds_ok hk hl j hj hne) (dokB_ok hlen hc.1.1) hall hc.1.2
      · cases h
  · cases h
theorem cCode_ok {P : Program} : ∀ {code : Code} {c : C}, cCode P code = some c → CCode P c code := by
  intro code
  induction code with
  | skip => intro c h; cases h; exact .skip
  | region id ops draw => intro c h; exact cReg_ok h
  | seq a b iha ihb =>
    intro c h
    simp only [cCode] at h
    split at h
    · rename_i h1 h2; cases h; exact .seq (iha h1) (ihb h2)
    · cases h
  | cond x a b iha ihb =>
    intro c h
    simp only [cCode] at h
    split at h
    · rename_i hx h1 h2; cases h; exact .cond hx (iha h1) (ihb h2)
    · cases h
  | block id b ih =>
    intro c h
    simp only [cCode] at h
    obtain ⟨c', hc, rfl⟩ := Option.map_eq_some_iff.1 h
    exact .block (ih hc)
  | loop b ih =>
    intro c h
    simp only [cCode] at h
    obtain ⟨c', hc, rfl⟩ := Option.map_eq_some_iff.1 h
    exact .loop (ih hc)
  | exit id => intro c h; cases h; exact .exit
  | ret => intro c h; cases h; exact .ret
  | _ => intro c h; simp [cCode] at h
def cRes (P : Program) : ResultVar → Option Res
  | .tmp t => some (.tmp t)
  | .cell a t => match sizeOf? P t, aggOf? P t with
    | some n, some agg => some (.cell n agg a)
    | _, _ => none
def cFn (P : Program) (fn : Func) : Option F :=
  match fn.body with
  | some code => match cCode P code, mapO (cRes P) fn.results.toList with
    | some c, some rs => some ⟨fn.ntmps, rs, c⟩
    | _, _ => none
  | none => none
theorem fok {P : Program} {f : Nat} {fn : Func} {Fn : F} (hf : P.funcs[f]? = some fn) (h : cFn P fn = some Fn) : FOk P f Fn := by
  unfold cFn at h
  split at h
  · rename_i code hb
    split at h
    · rename_i c rs hc hr
      simp only [Option.some.injEq] at h; subst h
      refine ⟨fn, code, hf, hb, rfl, (mapO_all hr).mono fun b a hab => ?_, cCode_ok hc⟩
      cases a with
      | tmp t => simp only [cRes, Option.some.injEq] at hab; subst hab; exact .tmp
      | cell x t =>
        simp only [cRes] at hab
        split at hab
        · rename_i h1 h2; cases hab; exact .cell h1 h2
        · cases hab
    · cases h
  · cases h
end Go.Vm
