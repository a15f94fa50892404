/- A machine of plain values, part d: what the program's operations do, told of plain values. It holds over any program; no condition. -/
import Derived.Test.YtfelkhckpfjgjaaVmc
set_option linter.unusedSimpArgs false
set_option linter.unusedVariables false
namespace Go.Vm
open Go.RowKit
structure Ct where
  f : Nat
  α : Type
  pre : α → Prop
  args : α → List AV
  res : α → AV
def Ct.Ok (P : Program) (c : Ct) : Prop := ∀ x, c.pre x → Vm.Ok P c.f (c.args x) (c.res x)
def tabW : List Ct → Nat → List AV → (AV → Prop) → Prop
  | [], _, _, _ => False
  | c :: cs, f, args, K => if c.f = f then ∃ x, c.pre x ∧ args = c.args x ∧ K (c.res x) else tabW cs f args K
structure CtH where
  f : Nat
  α : Type
  pre : α → List Blk → Prop
  args : α → List AV
  res : α → List Blk → AV
  heap : α → List Blk → List Blk
def CtH.Ok (P : Program) (c : CtH) : Prop := ∀ x H, c.pre x H → Vm.OkH P c.f (c.args x) H (c.res x H) (c.heap x H)
structure Tab where
  s : List Ct
  h : List CtH
def TabOkS (P : Program) (T : List Ct) : Prop := ∀ c ∈ T, c.Ok P
def TabOk (P : Program) (T : Tab) : Prop := TabOkS P T.s ∧ ∀ c ∈ T.h, c.Ok P
def tabH : List CtH → Nat → List AV → List Blk → (AV → List Blk → Prop) → Prop → Prop
  | [], _, _, _, _, D => D
  | c :: cs, f, vs, H, K, D => if c.f = f then ∃ x, vs = c.args x ∧ c.pre x H ∧ K (c.res x H) (c.heap x H) else tabH cs f vs H K D
theorem tabH_ok {P : Program} : ∀ {hs : List CtH}, (∀ c ∈ hs, c.Ok P) → ∀ {f : Nat} {vs : List AV} {H : List Blk} {K : AV → List Blk → Prop} {D : Prop}, tabH hs f vs H K D → (∃ r H', OkH P f vs H r H' ∧ K r H') ∨ D
  | [], _, f, vs, H, K, D, h => .inr h
  | c :: cs, hT, f, vs, H, K, D, h => by
    simp only [tabH] at h
    split at h
    · rename_i hf
      subst hf
      obtain ⟨x, rfl, hp, hk⟩ := h
      exact .inl ⟨_, _, hT c (by simp) x H hp, hk⟩
    · exact tabH_ok (fun d hd => hT d (by simp [hd])) h
theorem tabW_ok {P : Program} : ∀ {T : List Ct}, TabOkS P T → ∀ {f : Nat} {args : List AV} {K : AV → Prop}, tabW T f args K → ∃ r, Ok P f args r ∧ K r
  | [], _, _, _, _, h => h.elim
  | c :: cs, hT, f, args, K, h => by
    simp only [tabW] at h
    split at h
    · rename_i hf
      subst hf
      obtain ⟨x, hp, rfl, hk⟩ := h
      exact ⟨_, hT c (by simp) x hp, hk⟩
    · exact tabW_ok (fun d hd => hT d (by simp [hd])) h
def kont (n : (St → Prop) → St → Prop) (K : St → Prop) (t : List AV) (dst : Option Nat) (v : AV) (H : List Blk) : Prop := n K ⟨putT t dst v, H⟩
def evK : Option (AV × List Blk) → (AV → List Blk → Prop) → Prop
  | some (v, H'), K => K v H'
  | none, _ => False
theorem evK_ex {r : Option (AV × List Blk)} {K : AV → List Blk → Prop} (h : evK r K) : ∃ v H', r = some (v, H') ∧ K v H' := by
  cases r with
  | none => exact h.elim
  | some p => exact ⟨p.1, p.2, rfl, h⟩
def callK (T : Tab) (f : Nat) (vs : List AV) (H : List Blk) (K : AV → List Blk → Prop) : Prop :=
  tabH T.h f vs H K (∃ pargs, lendAll (fun _ _ => true) H vs = some pargs ∧ tabW T.s f pargs fun r =>
    if r.scalar = true then K r H else (lendAll (fun _ k => k.frozen) (freezeOn (vs.flatMap AV.refs) 0 H) vs = some pargs ∧ K r (freezeOn (vs.flatMap AV.refs) 0 H)))
def callvK (P : Program) (T : Tab) (x : AV) (vs : List AV) (H : List Blk) (K : AV → List Blk → Prop) : Prop :=
  match x with
  | .fn f caps => callable P f = true ∧ tabH T.h f (vs ++ caps) H K (∃ pargs, lendAll (fun _ _ => true) H (vs ++ caps) = some pargs ∧ tabW T.s f pargs fun r => r.scalar = true ∧ K r H)
  | _ => False
def stepK (P : Program) (T : Tab) (t : List AV) (H : List Blk) (o : O) (K : AV → List Blk → Prop) : Prop :=
  match o with
  | .call f args => callK T f (args.map (Opd.ev t)) H K
  | .callv x args => callvK P T (x.ev t) (args.map (Opd.ev t)) H K
  | o => evK (o.eval (Opd.ev t) H) K
theorem stepK_ok {P : Program} {T : Tab} (hT : TabOk P T) {t : List AV} {H : List Blk} {o : O} {K : AV → List Blk → Prop} (h : stepK P T t H o K) : ∃ v H', Step P (Opd.ev t) H o v H' ∧ K v H' := by
  have hev : evK (o.eval (Opd.ev t) H) K → ∃ v H', Step P (Opd.ev t) H o v H' ∧ K v H' := by
    intro h; obtain ⟨v, H', h1, h2⟩ := evK_ex h; exact ⟨v, H', .ev h1, h2⟩
  cases o with
  | call f args =>
    rcases tabH_ok hT.2 h with ⟨r, H', hok, hr⟩ | ⟨pargs, h1, h2⟩
    · exact ⟨r, H', .callH hok, hr⟩
    obtain ⟨r, hok, hr⟩ := tabW_ok hT.1 h2
    split at hr
    · rename_i hs; exact ⟨r, H, .callS h1 hok hs, hr⟩
    · exact ⟨r, _, .callZ _ hr.1 hok, hr.2⟩
  | callv x args =>
    simp only [stepK] at h
    unfold callvK at h
    split at h
    · rename_i f caps hx
      obtain ⟨hc, h⟩ := h
      rcases tabH_ok hT.2 h with ⟨r, H', hok, hr⟩ | ⟨pargs, h1, h2⟩
      · exact ⟨r, H', .callvH hx hc hok, hr⟩
      obtain ⟨r, hok, hr⟩ := tabW_ok hT.1 h2
      exact ⟨r, H, .callvS hx hc h1 hok hr.1, hr.2⟩
    · exact h.elim
  | _ => exact hev h
def opsK (P : Program) (T : Tab) : List OpR → (St → Prop) → St → Prop
  | [], K, st => K st
  | o :: os, K, st => match o.guard with
    | none => stepK P T st.t st.h o.o (kont (opsK P T os) K st.t o.dst)
    | some (t, want) => match st.t.getD t .undef with
      | .bool b => (b = want → stepK P T st.t st.h o.o (kont (opsK P T os) K st.t o.dst)) ∧ (b ≠ want → opsK P T os K ⟨putT st.t o.dst (.tup []), st.h⟩)
      | .tup [] => opsK P T os K ⟨putT st.t o.dst (.tup []), st.h⟩
      | _ => False
theorem opsK_ok {P : Program} {T : Tab} (hT : TabOk P T) : ∀ {os : List OpR} {K : St → Prop} {st : St}, opsK P T os K st → opsWp P os K st := by
  intro os
  induction os with
  | nil => intro K st h; exact h
  | cons o os ih =>
    intro K st h
    simp only [opsK, opsWp] at h ⊢
    have run : stepK P T st.t st.h o.o (kont (opsK P T os) K st.t o.dst) → ∃ v H', Step P (Opd.ev st.t) st.h o.o v H' ∧ opsWp P os K ⟨putT st.t o.dst v, H'⟩ := by
      intro h
      obtain ⟨v, H', h1, h2⟩ := stepK_ok hT h
      exact ⟨v, H', h1, ih h2⟩
    cases hg : o.guard with
    | none => simp only [hg] at h ⊢; exact .inl (run h)
    | some p =>
      obtain ⟨t, want⟩ := p
      simp only [hg] at h ⊢
      split at h
      · rename_i hb; simp only [hb]; exact ⟨fun e => run (h.1 e), fun e => ih (h.2 e)⟩
      · rename_i hb; simp only [hb]; exact ih h
      · exact h.elim
def kontD (lo : Bool) (H0 : List Blk) (n : (St → Prop) → St → Prop) (K : St → Prop) (t : List AV) (dst : Option Nat) (v : AV) (H : List Blk) : Prop := (lo = true ∨ H = H0) ∧ n K ⟨putT t dst v, H⟩
def O.isBsl : O → Bool
  | .bsl .. => true
  | _ => false
def freshK (P : Program) (t : List AV) (H : List Blk) (o : O) (K : AV → List Blk → Prop) : Prop :=
  ∃ v H' a', o.eval (Opd.ev t) H = some (v, H') ∧ H'.take H.length = H ∧ lend (newer H.length) H' v = some a' ∧ K a' H
def stepD (P : Program) (T : Tab) (lo : Bool) (t : List AV) (H : List Blk) (o : O) (K : AV → List Blk → Prop) : Prop :=
  if (!lo && o.isBsl) = true then freshK P t H o K else stepK P T t H o K
theorem stepD_ok {P : Program} {T : Tab} (hT : TabOk P T) {lo : Bool} {t : List AV} {H : List Blk} {o : O} {K : AV → List Blk → Prop} (h : stepD P T lo t H o K) : ∃ v H', Step P (Opd.ev t) H o v H' ∧ K v H' := by
  unfold stepD at h
  split at h
  · obtain ⟨v, H', a', h1, h2, h3, h4⟩ := h
    exact ⟨a', H, .evZ h1 h2 h3, h4⟩
  · exact stepK_ok hT h
def dopsK (P : Program) (T : Tab) : List OpR → List Bool → (St → Prop) → St → Prop
  | [], _, K, st => K st
  | o :: os, lo, K, st => match o.guard with
    | none => stepD P T (lo.headD false) st.t st.h o.o (kontD (lo.headD false) st.h (dopsK P T os lo.tail) K st.t o.dst)
    | some (t, want) => match st.t.getD t .undef with
      | .bool b => (b = want → stepK P T st.t st.h o.o (kontD (lo.headD false) st.h (dopsK P T os lo.tail) K st.t o.dst)) ∧ (b ≠ want → dopsK P T os lo.tail K ⟨putT st.t o.dst (.tup []), st.h⟩)
      | .tup [] => dopsK P T os lo.tail K ⟨putT st.t o.dst (.tup []), st.h⟩
      | _ => False
theorem dopsK_ok {P : Program} {T : Tab} (hT : TabOk P T) : ∀ {os : List OpR} {lo : List Bool} {K : St → Prop} {st : St}, dopsK P T os lo K st → ∀ {i : Nat} {f : Nat → Bool}, (∀ j, f (i + j) = lo.getD j false) → dopsWp P f i os K st := by
  intro os
  induction os with
  | nil => intro lo K st h i f _; exact h
  | cons o os ih =>
    intro lo K st h i f hf
    simp only [dopsK, dopsWp] at h ⊢
    have hf0 : f i = lo.headD false := by have := hf 0; simpa [List.headD_eq_head?_getD, List.getD, List.head?_eq_getElem?] using this
    have hft : ∀ j, f (i + 1 + j) = lo.tail.getD j false := by
      intro j
      rw [show i + 1 + j = i + (j + 1) by omega, hf]
      simp [List.getD]
    have run : stepK P T st.t st.h o.o (kontD (lo.headD false) st.h (dopsK P T os lo.tail) K st.t o.dst) → ∃ v H', Step P (Opd.ev st.t) st.h o.o v H' ∧ (f i = true ∨ H' = st.h) ∧ dopsWp P f (i + 1) os K ⟨putT st.t o.dst v, H'⟩ := by
      intro h
      obtain ⟨v, H', h1, h2, h3⟩ := stepK_ok hT h
      exact ⟨v, H', h1, by rw [hf0]; exact h2, ih h3 hft⟩
    have runD : stepD P T (lo.headD false) st.t st.h o.o (kontD (lo.headD false) st.h (dopsK P T os lo.tail) K st.t o.dst) → ∃ v H', Step P (Opd.ev st.t) st.h o.o v H' ∧ (f i = true ∨ H' = st.h) ∧ dopsWp P f (i + 1) os K ⟨putT st.t o.dst v, H'⟩ := by
      intro h
      obtain ⟨v, H', h1, h2, h3⟩ := stepD_ok hT h
      exact ⟨v, H', h1, by rw [hf0]; exact h2, ih h3 hft⟩
    cases hg : o.guard with
    | none => simp only [hg] at h ⊢; exact runD h
    | some p =>
      obtain ⟨t, want⟩ := p
      simp only [hg] at h ⊢
      split at h
      · rename_i hb; simp only [hb]; exact ⟨fun e => run (h.1 e), fun e => ih (h.2 e) hft⟩
      · rename_i hb; simp only [hb]; exact ih h hft
      · exact h.elim
def isH (T : Tab) : O → Bool
  | .call f _ => T.h.any fun c => c.f == f
  | _ => false
def O.isAlloc : O → Bool
  | .alloc _ => true
  | _ => false
def isL (T : Tab) (o : O) : Bool := isH T o || o.isAlloc
def hasAl : List Bool → List OpR → Bool
  | b :: lo, o :: os => (!b && o.o.isAlloc) || hasAl lo os
  | _, _ => false
def needs1 (T : Tab) (lo : List Bool) (os : List OpR) : Bool := (os.zip lo).any fun p => !p.2 && isH T p.1.o
def dops1K (P : Program) (T : Tab) (h0 : List Blk) : Bool → List OpR → List Bool → (St → Prop) → St → Prop
  | _, [], _, K, st => K st
  | used, o :: os, lo, K, st =>
    if lo.headD false = true then ((lo.all id && decide (os.length < lo.length)) = true ∧ dopsK P T (o :: os) lo K st)
    else match o.guard with
      | some _ => False
      | none => if isL T o.o = true then used = false ∧ stepK P T st.t st.h o.o (fun v H' => H'.take st.h.length = st.h ∧ dops1K P T h0 true os lo.tail K ⟨putT st.t o.dst v, H'⟩)
        else ∃ v, (∀ L, stepK P T st.t (h0 ++ L) o.o (fun v' H' => v' = v ∧ H' = h0 ++ L)) ∧ dops1K P T h0 used os lo.tail K ⟨putT st.t o.dst v, st.h⟩
theorem all_getD {lo : List Bool} (h : lo.all id = true) {k : Nat} (hk : k < lo.length) : lo.getD k false = true := by
  have := List.all_eq_true.1 h lo[k] (List.getElem_mem hk)
  simpa [List.getD, hk] using this
theorem dops1K_ok {P : Program} {T : Tab} (hT : TabOk P T) {h0 : List Blk} : ∀ {os : List OpR} {used : Bool} {lo : List Bool} {K : St → Prop} {st : St}, dops1K P T h0 used os lo K st → ∀ {i : Nat} {f : Nat → Bool}, (∀ j, f (i + j) = lo.getD j false) → dopsWp1 P f h0 used i os K st := by
  intro os
  induction os with
  | nil => intro used lo K st h i f _; exact h
  | cons o os ih =>
    intro used lo K st h i f hf
    have hf0 : f i = lo.headD false := by have := hf 0; simpa [List.headD_eq_head?_getD, List.getD, List.head?_eq_getElem?] using this
    have hft : ∀ j, f (i + 1 + j) = lo.tail.getD j false := by
      intro j
      rw [show i + 1 + j = i + (j + 1) by omega, hf]
      simp [List.getD]
    unfold dops1K at h
    unfold dopsWp1
    rw [hf0]
    split at h
    · rename_i hl
      rw [if_pos hl]
      obtain ⟨ha, hd⟩ := h
      simp only [Bool.and_eq_true, decide_eq_true_eq] at ha
      exact ⟨fun k hk => by rw [hf]; exact all_getD ha.1 (by omega), dopsK_ok hT hd hf⟩
    · rename_i hl
      rw [if_neg hl]
      cases hg : o.guard with
      | some p => simp [hg] at h
      | none =>
        simp only [hg] at h ⊢
        split at h
        · obtain ⟨hu, hs⟩ := h
          obtain ⟨v, H', h1, h2, h3⟩ := stepK_ok hT hs
          have e : H' = st.h ++ H'.drop st.h.length := by
            have := List.take_append_drop st.h.length H'
            rw [h2] at this; exact this.symm
          rw [e] at h1 h3
          exact .inr ⟨hu, v, _, h1, ih h3 hft⟩
        · obtain ⟨v, hv, hk⟩ := h
          refine .inl ⟨v, fun L => ?_, ih hk hft⟩
          obtain ⟨v', H', h1, rfl, rfl⟩ := stepK_ok hT (hv L)
          exact h1
def dops2K (P : Program) (T : Tab) (h0 : List Blk) : List OpR → List Bool → List Bool → (St → Prop) → St → Prop
  | [], _, _, K, st => K st
  | o :: os, lo, lo2, K, st =>
    if lo.headD false = true then ((lo.all id && decide (os.length < lo.length)) = true ∧ dopsK P T (o :: os) lo K st)
    else match o.guard with
      | some _ => False
      | none => if isL T o.o = true then lo2.headD false = true ∧ stepK P T st.t st.h o.o (fun v H' => H'.take st.h.length = st.h ∧ dops2K P T h0 os lo.tail lo2.tail K ⟨putT st.t o.dst v, H'⟩)
        else ∃ v, (∀ L, stepK P T st.t (h0 ++ L) o.o (fun v' H' => v' = v ∧ H' = h0 ++ L)) ∧ dops2K P T h0 os lo.tail lo2.tail K ⟨putT st.t o.dst v, st.h⟩
theorem dops2K_ok {P : Program} {T : Tab} (hT : TabOk P T) {h0 : List Blk} : ∀ {os : List OpR} {lo lo2 : List Bool} {K : St → Prop} {st : St}, dops2K P T h0 os lo lo2 K st → ∀ {i : Nat} {f : Nat → Bool}, (∀ j, f (i + j) = lo.getD j false) → ∀ {f2 : Nat → Bool}, (∀ j, f2 (i + j) = lo2.getD j false) → dopsWp2 P f f2 h0 i os K st := by
  intro os
  induction os with
  | nil => intro lo lo2 K st h i f _ f2 _; exact h
  | cons o os ih =>
    intro lo lo2 K st h i f hf f2 hf2
    have hf0 : f i = lo.headD false := by have := hf 0; simpa [List.headD_eq_head?_getD, List.getD, List.head?_eq_getElem?] using this
    have hft : ∀ j, f (i + 1 + j) = lo.tail.getD j false := by
      intro j
      rw [show i + 1 + j = i + (j + 1) by omega, hf]
      simp [List.getD]
    have hg0 : f2 i = lo2.headD false := by have := hf2 0; simpa [List.headD_eq_head?_getD, List.getD, List.head?_eq_getElem?] using this
    have hgt : ∀ j, f2 (i + 1 + j) = lo2.tail.getD j false := by
      intro j
      rw [show i + 1 + j = i + (j + 1) by omega, hf2]
      simp [List.getD]
    unfold dops2K at h
    unfold dopsWp2
    rw [hf0]
    split at h
    · rename_i hl
      rw [if_pos hl]
      obtain ⟨ha, hd⟩ := h
      simp only [Bool.and_eq_true, decide_eq_true_eq] at ha
      exact ⟨fun k hk => by rw [hf]; exact all_getD ha.1 (by omega), dopsK_ok hT hd hf⟩
    · rename_i hl
      rw [if_neg hl]
      cases hg : o.guard with
      | some p => simp [hg] at h
      | none =>
        simp only [hg] at h ⊢
        split at h
        · obtain ⟨hu, hs⟩ := h
          obtain ⟨v, H', h1, h2, h3⟩ := stepK_ok hT hs
          have e : H' = st.h ++ H'.drop st.h.length := by
            have := List.take_append_drop st.h.length H'
            rw [h2] at this; exact this.symm
          rw [e] at h1 h3
          exact .inr ⟨by rw [hg0]; exact hu, v, _, h1, ih h3 hft hgt⟩
        · obtain ⟨v, hv, hk⟩ := h
          refine .inl ⟨v, fun L => ?_, ih hk hft hgt⟩
          obtain ⟨v', H', h1, rfl, rfl⟩ := stepK_ok hT (hv L)
          exact h1
def condK : AV → Prop → Prop → Prop
  | .bool b, p, q => (b = true → p) ∧ (b = false → q)
  | _, _, _ => False
def go (P : Program) (T : Tab) (n0 : Nat) : C → (Exit → St → Prop) → St → Prop
  | .skip, Q, st => Q .normal st
  | .seq a b, Q, st => go P T n0 a (thenS (go P T n0 b Q) Q) st
  | .cond x a b, Q, st => condK (x.ev st.t) (go P T n0 a Q st) (go P T n0 b Q st)
  | .block id c, Q, st => go P T n0 c (inB id Q) st
  | .loop c, Q, st => CW P n0 (.loop c) Q st
  | .exit id, Q, st => Q (.exit id) st
  | .ret, Q, st => Q .ret st
  | .reg os, Q, st => opsK P T os (Q .normal) st
  | .dreg lo lo2 os, Q, st => if needs1 T lo os = true then dops2K P T st.h os lo lo2 (Q .normal) st else if hasAl lo os = true then dops1K P T st.h false os lo (Q .normal) st else dopsK P T os lo (Q .normal) st
theorem go_ok {P : Program} {T : Tab} {n0 : Nat} (hT : TabOk P T) : ∀ {c : C} {Q : Exit → St → Prop} {st : St}, go P T n0 c Q st → CW P n0 c Q st := by
  intro c
  induction c with
  | skip => intro Q st h; exact cw_skip h
  | seq a b iha ihb =>
    intro Q st h
    refine cw_seq (cw_mono (iha h) fun e st q => ?_)
    cases e <;> first | exact ihb q | exact q
  | cond x a b iha ihb =>
    intro Q st h
    simp only [go] at h
    unfold condK at h
    split at h
    · rename_i hx
      exact cw_cond hx (fun e => iha (h.1 e)) (fun e => ihb (h.2 e))
    · exact h.elim
  | block id c ih => intro Q st h; exact cw_block (ih h)
  | loop c ih => intro Q st h; exact h
  | exit id => intro Q st h; exact cw_exit h
  | ret => intro Q st h; exact cw_ret h
  | reg os => intro Q st h; exact cw_reg (opsK_ok hT h)
  | dreg lo lo2 os =>
    intro Q st h
    simp only [go] at h
    split at h
    · exact cw_dreg2 (dops2K_ok hT h (fun j => by rw [Nat.zero_add]) fun j => by rw [Nat.zero_add])
    split at h
    · exact cw_dreg1 (dops1K_ok hT h fun j => by rw [Nat.zero_add])
    · exact cw_dreg (dopsK_ok hT h fun j => by rw [Nat.zero_add])
end Go.Vm
namespace Go.Vm
open Go.RowKit
def nfC : AV → Bool
  | .int .. | .bool _ | .str _ | .nilp | .hole | .pro _ => true
  | .sl .any sz l => match l with | [] => sz == 0 | _ :: _ => true
  | _ => false
def nfE : AV → Bool
  | .agg cs => cs.all nfC
  | a => nfC a
class Enc {α : Type} (sz : outParam Nat) (f : α → AV) : Prop where
  inj : ∀ x y, f x = f y → x = y
  size : ∀ x, (f x).cells.length = sz
  nf : ∀ x, nfE (f x) = true
def encL {α : Type} (sz : Nat) (f : α → AV) (xs : List α) : AV := mksl sz (xs.map f)
def encInt (n : Int) : AV := .int .i64 n
theorem mksl_inj {sz : Nat} {l l' : List AV} (h : mksl sz l = mksl sz l') : l = l' := by unfold mksl at h; injection h
instance : Enc 1 encInt := ⟨fun _ _ h => by cases h; rfl, fun _ => rfl, fun _ => rfl⟩
theorem map_inj_enc {α : Type} {f : α → AV} (hf : ∀ x y, f x = f y → x = y) : ∀ {xs ys : List α}, xs.map f = ys.map f → xs = ys
  | [], [], _ => rfl
  | [], _ :: _, h => by simp at h
  | _ :: _, [], h => by simp at h
  | x :: xs, y :: ys, h => by
    simp only [List.map_cons, List.cons.injEq] at h
    rw [hf x y h.1, map_inj_enc hf h.2]
section
variable {α : Type} {sz : Nat} {f : α → AV}
theorem encL_inj [Enc sz f] {xs ys : List α} : (encL sz f xs = encL sz f ys) = (xs = ys) :=
  propext ⟨fun h => map_inj_enc Enc.inj (mksl_inj h), fun h => by rw [h]⟩
instance encL_enc [Enc sz f] : Enc 1 (encL sz f) := ⟨fun x y h => by rwa [encL_inj] at h, fun _ => rfl, fun x => by cases x <;> rfl⟩
variable {P : Program} {T : Tab} {t : List AV} {H : List Blk} {K : AV → List Blk → Prop}
theorem stepK_mov {x : Opd} : stepK P T t H (.mov x) K = K (x.ev t) H := by simp [stepK, evK, O.eval]
theorem stepK_pick {c a b : Opd} : stepK P T t H (.pick c a b) K = ∃ q, c.ev t = .bool q ∧ K (if q then a.ev t else b.ev t) H := by
  simp only [stepK, O.eval]
  generalize c.ev t = v
  cases v <;> simp [evK]
theorem stepK_alloc {z : List AV} : stepK P T t H (.alloc z) K = (z.all AV.isCell = true ∧ K (.pbox (H.length + nils z) 0) (H ++ List.replicate (nils z) .nrow ++ [.cells (nilfy H.length z)])) := by
  simp only [stepK, O.eval]
  by_cases h : z.all AV.isCell = true
  · rw [if_pos h]; simp only [h, true_and, evK]
  · rw [if_neg h]; simp only [h, evK, false_and]; simp
def boxK (H : List Blk) (K : AV → List Blk → Prop) (cs : List AV) : Prop := K (.pbox (H.length + nils cs) 0) (H ++ List.replicate (nils cs) .nrow ++ [.cells (nilfy H.length cs)])
theorem stepK_box {x : Opd} : stepK P T t H (.box x) K = ∃ cs, (x.ev t).stored = some cs ∧ boxK H K cs := by
  simp only [stepK, O.eval]
  cases (x.ev t).stored <;> simp [evK, boxK]
def aggK (H : List Blk) (K : AV → List Blk → Prop) (cs : List AV) : Prop := K (.agg cs) H
theorem stepK_build {z : List AV} {ps : List (Nat × Nat × Opd)} : stepK P T t H (.build z ps) K = (z.all AV.isCell = true ∧ ∃ cs, fillAV z (ps.map fun (o, n, x) => (o, n, x.ev t)) = some cs ∧ aggK H K cs) := by
  simp only [stepK, O.eval]
  by_cases h : z.all AV.isCell = true
  · rw [if_pos h]; simp only [h, true_and]; cases fillAV z (ps.map fun (o, n, x) => (o, n, x.ev t)) <;> simp [evK, aggK]
  · rw [if_neg h]; simp only [h, evK, false_and]; simp
def bslK (H : List Blk) (K : AV → List Blk → Prop) (e sz m : Nat) (els : List AV) : Prop := K (.slref H.length 0 m m) (H ++ [.row true e sz els])
theorem stepK_bsl {e sz m : Nat} {z : AV} {ps : List (Nat × Opd)} : stepK P T t H (.bsl e sz m z ps) K = ∃ zc, z.stored = some zc ∧ zc.length = sz ∧ ∃ els, fillEls sz (List.replicate m z) (ps.map fun (i, x) => (i, x.ev t)) = some els ∧ bslK H K e sz m els := by
  simp only [stepK, O.eval]
  cases h : z.stored with
  | none => simp [evK]
  | some zc =>
    simp only [Option.some.injEq, exists_eq_left']
    by_cases hl : zc.length = sz
    · simp only [hl, if_true, true_and]; cases fillEls sz (List.replicate m z) (ps.map fun (i, x) => (i, x.ev t)) <;> simp [evK, bslK]
    · simp [hl, evK]
def valK (H : List Blk) (K : AV → List Blk → Prop) : Option AV → Prop
  | some v => K v H
  | none => False
theorem valK_some {v : AV} : valK H K (some v) = K v H := by simp [valK]
theorem valK_none : valK H K none = False := by simp [valK]
theorem valK_ite {c : Prop} [Decidable c] {r : Option AV} : valK H K (if c then r else none) = (c ∧ valK H K r) := by
  by_cases h : c <;> simp [h, valK]
theorem valK_iten {c : Prop} [Decidable c] {r : Option AV} : valK H K (if c then none else r) = (¬ c ∧ valK H K r) := by
  by_cases h : c <;> simp [h, valK]
theorem valK_match {β : Type} {o : Option β} {g : β → Option AV} : valK H K (o.bind g) = ∃ b, o = some b ∧ valK H K (g b) := by
  cases o <;> simp [valK]
theorem evK_map {r : Option AV} : evK (r.map fun v => (v, H)) K = valK H K r := by
  cases r <;> simp [evK, valK]
def loadK (H : List Blk) (K : AV → List Blk → Prop) (agg : Bool) (cs : List AV) : Prop := if agg = true then K (.agg cs) H else match cs with | [c] => K c H | _ => False
theorem stepK_load {n : Nat} {agg : Bool} {a : Opd} : stepK P T t H (.load n agg a) K = ∃ cs, cellsAt H n (a.ev t) = some cs ∧ loadK H K agg cs := by
  simp only [stepK, O.eval, evK_map, valK_match]
  congr 1; funext cs; congr 1
  unfold loadK mkv
  cases agg with
  | true => simp [valK]
  | false => match cs with
    | [] => simp [valK]
    | [c] => simp [valK]
    | _ :: _ :: _ => simp [valK]
def storeK (H : List Blk) (K : AV → List Blk → Prop) (n : Nat) (a : AV) (cs : List AV) : Prop := cs.length = n ∧ ∃ H', setAt (H ++ List.replicate (nils cs) .nrow) (nilfy H.length cs) a = some H' ∧ K (.tup []) H'
theorem stepK_store {n : Nat} {a v : Opd} : stepK P T t H (.store n a v) K = ∃ cs, (v.ev t).stored = some cs ∧ storeK H K n (a.ev t) cs := by
  simp only [stepK, O.eval]
  cases h : (v.ev t).stored with
  | none => simp [evK]
  | some cs =>
    simp only [Option.some.injEq, exists_eq_left', storeK]
    by_cases hl : cs.length = n
    · simp only [hl, if_true, true_and]; cases setAt (H ++ List.replicate (nils cs) .nrow) (nilfy H.length cs) (a.ev t) <;> simp [evK]
    · simp [hl, evK]
theorem stepK_bin {op : BinOp} {x y : Opd} : stepK P T t H (.bin op x y) K = valK H K (binAV op (x.ev t) (y.ev t)) := by simp only [stepK, O.eval, evK_map]
theorem stepK_beq {ne : Bool} {x y : Opd} : stepK P T t H (.beq ne x y) K = ∃ p q, x.ev t = .bool p ∧ y.ev t = .bool q ∧ K (.bool (decide (p = q) != ne)) H := by
  simp only [stepK, O.eval]
  generalize x.ev t = a
  generalize y.ev t = b
  cases a <;> cases b <;> simp [evK]
theorem stepK_isnil {ne : Bool} {x : Opd} : stepK P T t H (.isnil ne x) K = ∃ b, nilOf H (x.ev t) = some b ∧ K (.bool (b != ne)) H := by
  simp only [stepK, O.eval]
  cases nilOf H (x.ev t) <;> simp [evK]
theorem stepK_not {x : Opd} : stepK P T t H (.not x) K = ∃ b, x.ev t = .bool b ∧ K (.bool (!b)) H := by
  simp only [stepK, O.eval]
  generalize x.ev t = a
  cases a <;> simp [evK]
theorem stepK_conv {k : IntKind} {x : Opd} : stepK P T t H (.conv k x) K = ∃ k' n, x.ev t = .int k' n ∧ K (.int k (k.wrap n)) H := by
  simp only [stepK, O.eval]
  generalize x.ev t = a
  cases a <;> simp [evK]
  exact ⟨fun h => ⟨_, _, ⟨rfl, rfl⟩, h⟩, fun ⟨_, _, ⟨h1, h2⟩, h⟩ => by subst h1; subst h2; exact h⟩
def AV.isFn : AV → Bool
  | .fn .. => true
  | _ => false
def capOk (v : AV) : Bool := v.isCell && !v.isFn
theorem stepK_mkfn {g : Nat} {cs : List Opd} : stepK P T t H (.mkfn g cs) K = ((cs.map (Opd.ev t)).all capOk = true ∧ K (.fn g (cs.map (Opd.ev t))) H) := by
  simp only [stepK, O.eval]
  have e : (fun v : AV => v.isCell && !(match v with | .fn .. => true | _ => false)) = capOk := by funext v; cases v <;> rfl
  by_cases h : (cs.map (Opd.ev t)).all capOk = true
  · have h' := h
    rw [← e] at h'
    simp only [h, true_and]
    change evK (if _ then _ else _) K = _
    refine propext ⟨fun hk => ?_, fun hk => ?_⟩
    · split at hk
      · exact hk
      · exact hk.elim
    · split
      · exact hk
      · rename_i hn; exact absurd h' hn
  · have h' := h
    rw [← e] at h'
    refine propext ⟨fun hk => ?_, fun hk => absurd hk.1 h⟩
    split at hk
    · rename_i hn; exact absurd hn h'
    · exact hk.elim
theorem stepK_slice {s : Nat} {x : Opd} {lo hi : Option Opd} : stepK P T t H (.slice s x lo hi) K = valK H K (sliceAV H s (lo.map (Opd.ev t)) (hi.map (Opd.ev t)) (x.ev t)) := by simp only [stepK, O.eval, evK_map]
theorem stepK_sslice {x : Opd} {lo hi : Option Opd} : stepK P T t H (.sslice x lo hi) K = ∃ l, x.ev t = .str l ∧ ∃ p, cutOf l.length (lo.map (Opd.ev t)) (hi.map (Opd.ev t)) = some p ∧ K (.str ((l.take p.2).drop p.1)) H := by
  simp only [stepK, O.eval]
  generalize x.ev t = a
  cases a <;> try (simp [evK]; done)
  rename_i s
  simp only [AV.str.injEq, exists_eq_left']
  cases h : cutOf s.length (lo.map (Opd.ev t)) (hi.map (Opd.ev t)) with
  | none => simp [evK]
  | some p => simp only [Option.map_some, evK, Option.some.injEq, exists_eq_left']
theorem stepK_faddr {off : Nat} {x : Opd} : stepK P T t H (.faddr off x) K = valK H K (faddrAV H off (x.ev t)) := by simp only [stepK, O.eval, evK_map]
theorem stepK_iaddr {s : Nat} {x i : Opd} : stepK P T t H (.iaddr s x i) K = valK H K (iaddrAV H s (x.ev t) (i.ev t)) := by simp only [stepK, O.eval, evK_map]
theorem stepK_extr {x : Opd} {i : Nat} : stepK P T t H (.extr x i) K = ∃ xs v, x.ev t = .tup xs ∧ xs[i]? = some v ∧ K v H := by
  simp only [stepK, O.eval]
  generalize x.ev t = a
  cases a <;> try (simp [evK]; done)
  rename_i xs
  cases h : xs[i]? <;> simp [evK, h]
theorem stepK_len {x : Opd} : stepK P T t H (.len x) K = ∃ n, lenOf H (x.ev t) = some n ∧ K (.int .i64 n) H := by
  simp only [stepK, O.eval]
  cases lenOf H (x.ev t) <;> simp [evK]
def appK (H : List Blk) (K : AV → List Blk → Prop) (e s b : Nat) (v : AV) (xs : List AV) : Prop := evK (appendAV H e s b v xs) K
theorem stepK_append {e s b : Nat} {x y : Opd} : stepK P T t H (.append e s b x y) K = ∃ xs, elsOf H s (y.ev t) = some xs ∧ appK H K e s b (x.ev t) xs := by
  simp only [stepK, O.eval, appK]
  cases elsOf H s (y.ev t) <;> simp [evK]
theorem stepK_call {g : Nat} {args : List Opd} : stepK P T t H (.call g args) K = callK T g (args.map (Opd.ev t)) H K := (rfl)
theorem stepK_callv {x : Opd} {args : List Opd} : stepK P T t H (.callv x args) K = callvK P T (x.ev t) (args.map (Opd.ev t)) H K := (rfl)
end
end Go.Vm
namespace Go.Vm
open Go.RowKit
section
variable {α : Type} {sz : Nat} {f : α → AV} {xs ys : List α} {H : List Blk} {K : AV → List Blk → Prop}
theorem ev_t {t : List AV} {n : Nat} : Opd.ev t (.t n) = t.getD n .undef := (rfl)
theorem ev_k {t : List AV} {v : AV} : Opd.ev t (.k v) = v := (rfl)
theorem putT_some {t : List AV} {d : Nat} {v : AV} : putT t (some d) v = t.set d v := (rfl)
theorem putT_none {t : List AV} {v : AV} : putT t none v = t := (rfl)
theorem kont_eq {n : (St → Prop) → St → Prop} {k : St → Prop} {t : List AV} {dst : Option Nat} {v : AV} : kont n k t dst v H = n k ⟨putT t dst v, H⟩ := (rfl)
theorem kontD_eq {lo : Bool} {H0 : List Blk} {n : (St → Prop) → St → Prop} {k : St → Prop} {t : List AV} {dst : Option Nat} {v : AV} : kontD lo H0 n k t dst v H = ((lo = true ∨ H = H0) ∧ n k ⟨putT t dst v, H⟩) := (rfl)
theorem thenS_normal {n : St → Prop} {Q : Exit → St → Prop} {st : St} : thenS n Q .normal st = n st := (rfl)
theorem thenS_ret {n : St → Prop} {Q : Exit → St → Prop} {st : St} : thenS n Q .ret st = Q .ret st := (rfl)
theorem thenS_exit {n : St → Prop} {Q : Exit → St → Prop} {st : St} {i : Nat} : thenS n Q (.exit i) st = Q (.exit i) st := (rfl)
theorem inB_normal {id : Nat} {Q : Exit → St → Prop} {st : St} : inB id Q .normal st = Q .normal st := (rfl)
theorem inB_ret {id : Nat} {Q : Exit → St → Prop} {st : St} : inB id Q .ret st = Q .ret st := (rfl)
theorem inB_exit {id i : Nat} {Q : Exit → St → Prop} {st : St} : inB id Q (.exit i) st = if i = id then Q .normal st else Q (.exit i) st := (rfl)
section
variable {P : Program} {T : Tab} {n0 : Nat} {Q : Exit → St → Prop} {st : St}
theorem go_skip : go P T n0 .skip Q st = Q .normal st := by simp only [go]
theorem go_seq {a b : C} : go P T n0 (.seq a b) Q st = go P T n0 a (thenS (go P T n0 b Q) Q) st := by simp only [go]
def condG (P : Program) (T : Tab) (n0 : Nat) (v : AV) (a b : C) (Q : Exit → St → Prop) (st : St) : Prop :=
  match v with
  | .bool c => (c = true → go P T n0 a Q st) ∧ (c = false → go P T n0 b Q st)
  | _ => False
theorem condG_t {a b : C} : condG P T n0 (.bool true) a b Q st = go P T n0 a Q st := by simp [condG]
theorem condG_f {a b : C} : condG P T n0 (.bool false) a b Q st = go P T n0 b Q st := by simp [condG]
theorem condG_b {a b : C} {c : Bool} : condG P T n0 (.bool c) a b Q st = ((c = true → go P T n0 a Q st) ∧ (c = false → go P T n0 b Q st)) := (rfl)
theorem go_cond {x : Opd} {a b : C} {t : List AV} : go P T n0 (.cond x a b) Q ⟨t, H⟩ = condG P T n0 (x.ev t) a b Q ⟨t, H⟩ := by
  simp only [go, condG]
  generalize x.ev t = v
  cases v <;> rfl
theorem go_block {id : Nat} {c : C} : go P T n0 (.block id c) Q st = go P T n0 c (inB id Q) st := by simp only [go]
theorem go_loop {c : C} : go P T n0 (.loop c) Q st = CW P n0 (.loop c) Q st := by simp only [go]
theorem go_exit {id : Nat} : go P T n0 (.exit id) Q st = Q (.exit id) st := by simp only [go]
theorem go_ret : go P T n0 .ret Q st = Q .ret st := by simp only [go]
theorem go_reg {os : List OpR} : go P T n0 (.reg os) Q st = opsK P T os (Q .normal) st := by simp only [go]
theorem go_dreg {lo lo2 : List Bool} {os : List OpR} : go P T n0 (.dreg lo lo2 os) Q st = if needs1 T lo os = true then dops2K P T st.h os lo lo2 (Q .normal) st else if hasAl lo os = true then dops1K P T st.h false os lo (Q .normal) st else dopsK P T os lo (Q .normal) st := by simp only [go]
theorem hasAl_nil {lo : List Bool} : hasAl lo [] = false := by cases lo <;> rfl
theorem hasAl_cons {b : Bool} {lo : List Bool} {d : Option Nat} {o : O} {g : Option (Nat × Bool)} {os : List OpR} : hasAl (b :: lo) (⟨d, o, g⟩ :: os) = ((!b && o.isAlloc) || hasAl lo os) := (rfl)
theorem isL_eq {o : O} : isL T o = (isH T o || o.isAlloc) := (rfl)
theorem needs1_nil {s : List Ct} {lo : List Bool} {os : List OpR} : needs1 ⟨s, []⟩ lo os = false := by
  unfold needs1
  rw [List.any_eq_false]
  intro p _
  cases p.1.o <;> simp [isH]
theorem opsK_nil {k : St → Prop} : opsK P T [] k st = k st := (rfl)
theorem opsK_cons {d : Option Nat} {o : O} {os : List OpR} {k : St → Prop} {t : List AV} : opsK P T (⟨d, o, none⟩ :: os) k ⟨t, H⟩ = stepK P T t H o (kont (opsK P T os) k t d) := (rfl)
theorem set_self {t : List AV} {g : Nat} {b : Bool} (h : t.getD g .undef = .bool b) : t.set g (.bool b) = t := by
  have hg : t[g]? = some (.bool b) := slot_of_getD h (by simp)
  obtain ⟨hlt, he⟩ := List.getElem?_eq_some_iff.1 hg
  apply List.ext_getElem?
  intro i
  by_cases hi : g = i
  · subst hi; rw [List.getElem?_set_self hlt, hg]
  · rw [List.getElem?_set_ne hi]
def guardK (P : Program) (T : Tab) (v : AV) (want : Bool) (g : Nat) (d : Option Nat) (o : O) (os : List OpR) (k : St → Prop) (t : List AV) (H : List Blk) : Prop :=
  match v with
  | .bool b => (b = want → stepK P T (t.set g (.bool want)) H o (kont (opsK P T os) k (t.set g (.bool want)) d)) ∧ (b = !want → opsK P T os k ⟨putT (t.set g (.bool !want)) d (.tup []), H⟩)
  | .tup [] => opsK P T os k ⟨putT t d (.tup []), H⟩
  | _ => False
theorem guardK_t {g : Nat} {d : Option Nat} {o : O} {os : List OpR} {k : St → Prop} {t : List AV} : guardK P T (.bool true) true g d o os k t H = stepK P T (t.set g (.bool true)) H o (kont (opsK P T os) k (t.set g (.bool true)) d) := by simp [guardK]
theorem guardK_f {g : Nat} {d : Option Nat} {o : O} {os : List OpR} {k : St → Prop} {t : List AV} : guardK P T (.bool false) false g d o os k t H = stepK P T (t.set g (.bool false)) H o (kont (opsK P T os) k (t.set g (.bool false)) d) := by simp [guardK]
theorem guardK_tf {g : Nat} {d : Option Nat} {o : O} {os : List OpR} {k : St → Prop} {t : List AV} : guardK P T (.bool true) false g d o os k t H = opsK P T os k ⟨putT (t.set g (.bool true)) d (.tup []), H⟩ := by simp [guardK]
theorem guardK_ft {g : Nat} {d : Option Nat} {o : O} {os : List OpR} {k : St → Prop} {t : List AV} : guardK P T (.bool false) true g d o os k t H = opsK P T os k ⟨putT (t.set g (.bool false)) d (.tup []), H⟩ := by simp [guardK]
theorem guardK_b {b want : Bool} {g : Nat} {d : Option Nat} {o : O} {os : List OpR} {k : St → Prop} {t : List AV} : guardK P T (.bool b) want g d o os k t H =
  ((b = want → stepK P T (t.set g (.bool want)) H o (kont (opsK P T os) k (t.set g (.bool want)) d)) ∧ (b = !want → opsK P T os k ⟨putT (t.set g (.bool !want)) d (.tup []), H⟩)) := (rfl)
theorem guardK_tup {want : Bool} {g : Nat} {d : Option Nat} {o : O} {os : List OpR} {k : St → Prop} {t : List AV} : guardK P T (.tup []) want g d o os k t H = opsK P T os k ⟨putT t d (.tup []), H⟩ := (rfl)
theorem opsK_guard {d : Option Nat} {o : O} {os : List OpR} {k : St → Prop} {t : List AV} {g : Nat} {want : Bool} :
    opsK P T (⟨d, o, some (g, want)⟩ :: os) k ⟨t, H⟩ = guardK P T (t.getD g .undef) want g d o os k t H := by
  simp only [opsK, guardK]
  generalize hv : t.getD g .undef = v
  cases v with
  | tup l => cases l <;> rfl
  | bool b =>
    have h := set_self hv
    cases b <;> cases want <;> simp [h]
  | _ => rfl
theorem dopsK_nil {lo : List Bool} {k : St → Prop} : dopsK P T [] lo k st = k st := (rfl)
theorem dopsK_cons {d : Option Nat} {o : O} {os : List OpR} {lo : List Bool} {k : St → Prop} {t : List AV} : dopsK P T (⟨d, o, none⟩ :: os) lo k ⟨t, H⟩ = stepD P T (lo.headD false) t H o (kontD (lo.headD false) H (dopsK P T os lo.tail) k t d) := (rfl)
theorem stepD_eq {lo : Bool} {o : O} {t : List AV} : stepD P T lo t H o K = if (!lo && o.isBsl) = true then freshK P t H o K else stepK P T t H o K := (rfl)
theorem lendEls_len {m : Nat → Blk → Bool} {n : Nat} : ∀ {es l : List AV}, lendEls m H n es = some l → l.length = es.length := by
  intro es
  induction es with
  | nil => intro l h; simp only [lendEls, Option.some.injEq] at h; subst h; rfl
  | cons a es ih =>
    intro l h
    cases a <;> simp only [lendEls] at h <;> split at h <;> first | (cases h; done) | (simp only [Option.some.injEq] at h; subst h; rename_i h2; simp [ih h2]; done) | (simp at h)
def mk0 (m sz : Nat) (l : List AV) : AV := .sl .any (match m with | 0 => 0 | _ + 1 => sz) l
theorem mk0_1 {sz : Nat} {l : List AV} : mk0 1 sz l = .sl .any sz l := (rfl)
theorem mk0_4 {sz : Nat} {l : List AV} : mk0 4 sz l = .sl .any sz l := (rfl)
theorem freshK_bsl {t : List AV} {e sz m : Nat} {z : AV} {ps : List (Nat × Opd)} : freshK P t H (.bsl e sz m z ps) K = ∃ zc, z.stored = some zc ∧ zc.length = sz ∧ ∃ els, fillEls sz (List.replicate m z) (ps.map fun (i, x) => (i, x.ev t)) = some els ∧ els.length = m ∧ ∃ l, lendEls (newer H.length) (H ++ [.row true e sz els]) 19 els = some l ∧ l.length = m ∧ K (mk0 m sz l) H := by
  apply propext
  constructor
  · rintro ⟨v, H', a', h1, h2, h3, h4⟩
    simp only [O.eval] at h1
    cases hz : z.stored with
    | none => simp [hz] at h1
    | some zc =>
      simp only [hz] at h1
      by_cases hl : zc.length = sz
      · rw [if_pos hl] at h1
        obtain ⟨els, hf, he⟩ := Option.map_eq_some_iff.1 h1
        simp only [Prod.mk.injEq] at he
        obtain ⟨rfl, rfl⟩ := he
        simp only [lend, lendC, List.getElem?_append_right (Nat.le_refl _), Nat.sub_self, List.getElem?_cons_zero, newer, Nat.le_refl, decide_true, true_and, Nat.zero_add] at h3
        by_cases hm : els.length = m
        · simp only [hm, Nat.le_refl, and_self, if_true, List.drop_zero] at h3
          rw [List.take_of_length_le (by omega)] at h3
          obtain ⟨l, hl1, rfl⟩ := Option.map_eq_some_iff.1 h3
          have hll := lendEls_len hl1
          refine ⟨zc, rfl, hl, els, hf, hm, l, hl1, by omega, ?_⟩
          have : mksl sz l = mk0 m sz l := by
            unfold mksl mk0
            cases l <;> cases m <;> first | rfl | (simp at hll; omega)
          rw [← this]; exact h4
        · simp [hm] at h3
      · simp [hl] at h1
  · rintro ⟨zc, hz, hl, els, hf, hm, l, hl1, hll, hk⟩
    have : mksl sz l = mk0 m sz l := by
      unfold mksl mk0
      cases l <;> cases m <;> first | rfl | (simp at hll)
    refine ⟨.slref H.length 0 m m, H ++ [.row true e sz els], mksl sz l, ?_, by simp, ?_, by rw [this]; exact hk⟩
    · simp only [O.eval, hz]
      rw [if_pos hl, hf]; rfl
    · simp only [lend, lendC, List.getElem?_append_right (Nat.le_refl _), Nat.sub_self, List.getElem?_cons_zero, newer, Nat.le_refl, decide_true, true_and, Nat.zero_add, hm, and_self, if_true, List.drop_zero]
      rw [List.take_of_length_le (by omega)]
      first | (rw [hl1]; rfl) | (erw [hl1]; rfl)
def dguardK (P : Program) (T : Tab) (v : AV) (want : Bool) (g : Nat) (d : Option Nat) (o : O) (os : List OpR) (lo : List Bool) (k : St → Prop) (t : List AV) (H : List Blk) : Prop :=
  match v with
  | .bool b => (b = want → stepK P T (t.set g (.bool want)) H o (kontD (lo.headD false) H (dopsK P T os lo.tail) k (t.set g (.bool want)) d)) ∧ (b = !want → dopsK P T os lo.tail k ⟨putT (t.set g (.bool !want)) d (.tup []), H⟩)
  | .tup [] => dopsK P T os lo.tail k ⟨putT t d (.tup []), H⟩
  | _ => False
theorem dguardK_t {g : Nat} {d : Option Nat} {o : O} {os : List OpR} {lo : List Bool} {k : St → Prop} {t : List AV} : dguardK P T (.bool true) true g d o os lo k t H = stepK P T (t.set g (.bool true)) H o (kontD (lo.headD false) H (dopsK P T os lo.tail) k (t.set g (.bool true)) d) := by simp [dguardK]
theorem dguardK_f {g : Nat} {d : Option Nat} {o : O} {os : List OpR} {lo : List Bool} {k : St → Prop} {t : List AV} : dguardK P T (.bool false) false g d o os lo k t H = stepK P T (t.set g (.bool false)) H o (kontD (lo.headD false) H (dopsK P T os lo.tail) k (t.set g (.bool false)) d) := by simp [dguardK]
theorem dguardK_tf {g : Nat} {d : Option Nat} {o : O} {os : List OpR} {lo : List Bool} {k : St → Prop} {t : List AV} : dguardK P T (.bool true) false g d o os lo k t H = dopsK P T os lo.tail k ⟨putT (t.set g (.bool true)) d (.tup []), H⟩ := by simp [dguardK]
theorem dguardK_ft {g : Nat} {d : Option Nat} {o : O} {os : List OpR} {lo : List Bool} {k : St → Prop} {t : List AV} : dguardK P T (.bool false) true g d o os lo k t H = dopsK P T os lo.tail k ⟨putT (t.set g (.bool false)) d (.tup []), H⟩ := by simp [dguardK]
theorem dguardK_b {b want : Bool} {g : Nat} {d : Option Nat} {o : O} {os : List OpR} {lo : List Bool} {k : St → Prop} {t : List AV} : dguardK P T (.bool b) want g d o os lo k t H =
  ((b = want → stepK P T (t.set g (.bool want)) H o (kontD (lo.headD false) H (dopsK P T os lo.tail) k (t.set g (.bool want)) d)) ∧ (b = !want → dopsK P T os lo.tail k ⟨putT (t.set g (.bool !want)) d (.tup []), H⟩)) := (rfl)
theorem dopsK_guard {d : Option Nat} {o : O} {os : List OpR} {lo : List Bool} {k : St → Prop} {t : List AV} {g : Nat} {want : Bool} :
    dopsK P T (⟨d, o, some (g, want)⟩ :: os) lo k ⟨t, H⟩ = dguardK P T (t.getD g .undef) want g d o os lo k t H := by
  simp only [dopsK, dguardK]
  generalize hv : t.getD g .undef = v
  cases v with
  | tup l => cases l <;> rfl
  | bool b =>
    have h := set_self hv
    cases b <;> cases want <;> simp [h]
  | _ => rfl
def retK (vs pargs : List AV) (H : List Blk) (K : AV → List Blk → Prop) (r : AV) : Prop :=
  if r.scalar = true then K r H else (lendAll (fun _ k => k.frozen) (freezeOn (vs.flatMap AV.refs) 0 H) vs = some pargs ∧ K r (freezeOn (vs.flatMap AV.refs) 0 H))
theorem callK_ret {g : Nat} {vs : List AV} : callK T g vs H K = tabH T.h g vs H K (∃ pargs, lendAll (fun _ _ => true) H vs = some pargs ∧ tabW T.s g pargs (retK vs pargs H K)) := (rfl)
theorem callvK_fn {f : Nat} {caps vs : List AV} : callvK P T (.fn f caps) vs H K = (callable P f = true ∧ tabH T.h f (vs ++ caps) H K (∃ pargs, lendAll (fun _ _ => true) H (vs ++ caps) = some pargs ∧ tabW T.s f pargs fun r => r.scalar = true ∧ K r H)) := (rfl)
theorem tabH_nil {g : Nat} {vs : List AV} {D : Prop} : tabH [] g vs H K D = D := (rfl)
theorem tabH_cons {c : CtH} {cs : List CtH} {g : Nat} {vs : List AV} {D : Prop} : tabH (c :: cs) g vs H K D = if c.f = g then ∃ x, vs = c.args x ∧ c.pre x H ∧ K (c.res x H) (c.heap x H) else tabH cs g vs H K D := (rfl)
theorem tabW_nil {g : Nat} {args : List AV} {k : AV → Prop} : tabW [] g args k = False := (rfl)
theorem tabW_cons {c : Ct} {cs : List Ct} {g : Nat} {args : List AV} {k : AV → Prop} : tabW (c :: cs) g args k = if c.f = g then ∃ x, args = c.args x ∧ c.pre x ∧ k (c.res x) else tabW cs g args k := by
  simp only [tabW, and_left_comm]
end
theorem cw_round {P : Program} {n0 : Nat} {Q : Exit → St → Prop} {st : St} {β : Type} (s : β → St) (I : β → Prop) (m : β → Nat) (a0 : β) (hI : I a0) (h0 : Weak n0 st (s a0)) {c : C}
    (round : ∀ N : β → St → Prop, (∀ a a' st', I a' → m a' < m a → Weak n0 st' (s a') → N a st') → ∀ a, I a → CW P n0 c (thenS (N a) Q) (s a)) : CW P n0 (.loop c) Q st :=
  cw_loop s I m a0 hI h0 fun a ha => round (fun a st' => ∃ a', I a' ∧ m a' < m a ∧ Weak n0 st' (s a')) (fun _ a' _ h1 h2 h3 => ⟨a', h1, h2, h3⟩) a ha
theorem elsOf_encL : elsOf H sz (encL sz f xs) = some (xs.map f) := by
  unfold encL mksl elsOf
  cases xs <;> simp
theorem lenOf_encL : lenOf H (encL sz f xs) = some (xs.length : Int) := by simp [encL, mksl, lenOf]
theorem cells_encL : (encL sz f xs).cells = [encL sz f xs] := (rfl)
theorem stored_encL : (encL sz f xs).stored = some [encL sz f xs] := (rfl)
theorem isCell_encL : (encL sz f xs).isCell = true := (rfl)
theorem refs_encL : (encL sz f xs).refs = [] := (rfl)
theorem refs1_encL : (encL sz f xs).refs1 = [] := (rfl)
theorem scalar_encL : (encL sz f xs).scalar = false := (rfl)
theorem nils_encL {r : List AV} : nils (encL sz f xs :: r) = nils r := by unfold encL mksl; simp [nils]
theorem nilfy_encL {n : Nat} {r : List AV} : nilfy n (encL sz f xs :: r) = encL sz f xs :: nilfy n r := by unfold encL mksl; simp [nilfy]
theorem encL_nil : encL sz f [] = .sl .any 0 [] := (rfl)
theorem lendC_encL {m : Nat → Blk → Bool} {n : Nat} : lendC m H n (encL sz f xs) = some (encL sz f xs) := by
  unfold encL
  rw [show mksl sz (xs.map f) = .sl .any (match xs.map f with | [] => 0 | _ :: _ => sz) (xs.map f) from rfl]
  unfold lendC
  cases xs <;> simp [mksl]
theorem lend_encL {m : Nat → Blk → Bool} : lend m H (encL sz f xs) = some (encL sz f xs) := lendC_encL
theorem iaddr_encL {k : IntKind} {n : Int} [Enc sz f] : valK H K (iaddrAV H sz (encL sz f xs) (.int k n)) = (0 ≤ n ∧ ∃ x, xs[n.toNat]? = some x ∧ K (.pro (f x).cells) H) := by
  unfold encL mksl iaddrAV
  cases xs with
  | nil =>
    simp only [List.map_nil, List.length_nil, valK_ite]
    refine propext ⟨fun h => ?_, fun h => ?_⟩
    · have := h.1.2; simp at this; omega
    · obtain ⟨_, y, hy, _⟩ := h; simp at hy
  | cons x xs =>
    simp only [List.map_cons, valK_ite, true_and]
    refine propext ⟨?_, ?_⟩
    · rintro ⟨⟨h0, h1⟩, hk⟩
      have hlt : n.toNat < (x :: xs).length := by simp only [List.length_cons, List.length_map] at h1 ⊢; omega
      refine ⟨h0, (x :: xs)[n.toNat], by simp only [List.getElem?_eq_getElem hlt], ?_⟩
      rw [← List.map_cons, List.getD_eq_getElem?_getD, List.getElem?_map, List.getElem?_eq_getElem hlt] at hk
      exact hk
    · rintro ⟨h0, y, hy, hk⟩
      have hlt := (List.getElem?_eq_some_iff.1 hy).1
      refine ⟨⟨h0, by simp only [List.length_cons, List.length_map] at hlt ⊢; omega⟩, ?_⟩
      rw [← List.map_cons, List.getD_eq_getElem?_getD, List.getElem?_map, hy]
      exact hk
theorem slice_encL {lo hi : Option AV} : valK H K (sliceAV H sz lo hi (encL sz f xs)) = ∃ p, cutOf xs.length lo hi = some p ∧ K (encL sz f ((xs.take p.2).drop p.1)) H := by
  unfold encL sliceAV
  rw [show mksl sz (xs.map f) = .sl .any (match xs.map f with | [] => 0 | _ :: _ => sz) (xs.map f) from rfl]
  simp only
  have hc : ((match xs.map f with | [] => 0 | _ :: _ => sz) = sz ∨ xs.map f = []) := by cases xs <;> simp
  rw [if_pos hc, List.length_map]
  cases h : cutOf xs.length lo hi with
  | none => simp [valK]
  | some p =>
    simp only [Option.map_some, valK, Option.some.injEq, exists_eq_left', List.map_drop, List.map_take]
    cases xs with
    | nil => simp [mksl]
    | cons x xs => rfl
theorem lendC_nf {m : Nat → Blk → Bool} {n : Nat} : ∀ {c : AV}, nfC c = true → lendC m H n c = some c := by
  intro c hc
  cases c <;> try (first | (unfold lendC; rfl) | (simp [nfC] at hc; done))
  rename_i k s l
  cases k <;> simp [nfC] at hc
  cases l with
  | nil => simp at hc; subst hc; unfold lendC; rfl
  | cons a as => unfold lendC; rfl
theorem lendCs_nf {m : Nat → Blk → Bool} {n : Nat} : ∀ {cs : List AV}, cs.all nfC = true → lendCs m H n cs = some cs
  | [], _ => by unfold lendCs; rfl
  | c :: cs, h => by
    simp only [List.all_cons, Bool.and_eq_true] at h
    unfold lendCs
    rw [lendC_nf h.1, lendCs_nf h.2]
theorem nfE_cell {e : AV} (h : ∀ cs, e ≠ .agg cs) : nfE e = nfC e := by
  cases e <;> first | rfl | exact absurd rfl (h _)
theorem lendEls_nf {m : Nat → Blk → Bool} {n : Nat} : ∀ {es : List AV}, (∀ e ∈ es, nfE e = true) → lendEls m H n es = some es
  | [], _ => by unfold lendEls; rfl
  | e :: es, h => by
    have h1 := h e (by simp)
    have h2 := lendEls_nf (m := m) (n := n) (es := es) fun x hx => h x (List.mem_cons_of_mem _ hx)
    cases e with
    | agg cs => unfold lendEls; rw [lendCs_nf (by simpa [nfE] using h1), h2]
    | _ =>
      rw [nfE_cell (by simp)] at h1
      have h1' := lendC_nf (m := m) (n := n) (H := H) h1
      unfold lendEls
      rw [h1', h2]
theorem lendEls_map {m : Nat → Blk → Bool} {n : Nat} [Enc sz f] : lendEls m H n (xs.map f) = some (xs.map f) :=
  lendEls_nf fun e he => by
    obtain ⟨x, _, rfl⟩ := List.mem_map.1 he
    exact Enc.nf x
theorem lendEls_append {m : Nat → Blk → Bool} {n : Nat} : ∀ {as bs : List AV}, lendEls m H n (as ++ bs) = (lendEls m H n as).bind fun a => (lendEls m H n bs).map (a ++ ·)
  | [], bs => by simp [lendEls]
  | a :: as, bs => by
    have ih := lendEls_append (m := m) (n := n) (as := as) (bs := bs)
    cases a <;> (simp only [List.cons_append, lendEls, ih]; cases lendEls m H n as <;> simp <;> cases lendEls m H n bs <;> simp) <;> split <;> simp_all
theorem belowC_nf {n : Nat} {c : AV} (h : nfC c = true) : belowC n c = true := by cases c <;> simp [nfC] at h <;> rfl
theorem belowEls_map {n : Nat} [Enc sz f] : belowEls n (xs.map f) = true := by
  unfold belowEls
  rw [List.all_eq_true]
  intro e he
  obtain ⟨x, _, rfl⟩ := List.mem_map.1 he
  have := Enc.nf (f := f) x
  generalize f x = v at this
  cases v with
  | agg cs =>
    simp only [nfE, List.all_eq_true] at this
    simp only [belowE, List.all_eq_true]
    exact fun c hc => belowC_nf (this c hc)
  | _ => rw [nfE_cell (by simp)] at this; exact belowC_nf (n := n) this
theorem belowEls_append {n : Nat} {as bs : List AV} : belowEls n (as ++ bs) = (belowEls n as && belowEls n bs) := by simp [belowEls]
theorem lendEls_cons_enc {m : Nat → Blk → Bool} {n : Nat} [Enc sz f] (x : α) (l : List AV) : lendEls m H n (f x :: l) = (lendEls m H n l).map (f x :: ·) := by
  have := lendEls_append (m := m) (n := n) (H := H) (as := [x].map f) (bs := l)
  rw [lendEls_map] at this
  simpa using this
theorem belowEls_set {n i : Nat} {l : List AV} {a : AV} (h : belowEls n l = true) (ha : belowE n a = true) : belowEls n (l.set i a) = true := by
  unfold belowEls at h ⊢
  rw [List.all_eq_true] at h ⊢
  intro x hx
  rcases List.mem_or_eq_of_mem_set hx with h1 | h1
  · exact h x h1
  · rw [h1]; exact ha
theorem belowEls_nil {n : Nat} : belowEls n [] = true := (rfl)
theorem belowEls_cons {n : Nat} {a : AV} {as : List AV} : belowEls n (a :: as) = (belowE n a && belowEls n as) := by simp [belowEls]
theorem belowC_encL {n : Nat} : belowC n (encL sz f xs) = true := (rfl)
theorem all2_nil {α β : Type} {R : α → β → Prop} : All2 R [] [] = True := by simp [All2.nil]
theorem all2_cons {α β : Type} {R : α → β → Prop} {a : α} {b : β} {as : List α} {bs : List β} : All2 R (a :: as) (b :: bs) = (R a b ∧ All2 R as bs) :=
  propext ⟨fun h => by cases h; exact ⟨by assumption, by assumption⟩, fun h => .cons h.1 h.2⟩
theorem freezeOn_nil {i : Nat} : freezeOn [] i H = H := by
  induction H generalizing i with
  | nil => (rfl)
  | cons k ks ih => simp only [freezeOn]; rw [ih]; simp
theorem SlV_undef {n : Nat} {x : AV} : SlV n H x .undef = True := by cases x <;> (rfl)
theorem SlV_agg {n : Nat} {a b : List AV} : SlV n H (.agg a) (.agg b) = All2 (SlC n H) a b := (rfl)
theorem SlV_cell {n : Nat} {x x' : AV} (h : x.isCell = true) (h' : x'.isCell = true) : SlV n H x x' = SlC n H x x' := by
  cases x <;> cases x' <;> first | rfl | (simp [AV.isCell] at h; done) | (simp [AV.isCell] at h'; done)
theorem SlE_cell {n : Nat} {x x' : AV} (h : x.isCell = true) (h' : x'.isCell = true) : SlE n H x x' = SlC n H x x' := by
  cases x <;> cases x' <;> first | rfl | (simp [AV.isCell] at h; done) | (simp [AV.isCell] at h'; done)
theorem SlB_dead {n : Nat} {k : Blk} : SlB n H k .dead = True := by cases k <;> (rfl)
theorem SlB_nrow {n : Nat} : SlB n H .nrow .nrow = True := (rfl)
theorem SlB_cells {n : Nat} {a b : List AV} : SlB n H (.cells a) (.cells b) = All2 (SlC n H) a b := (rfl)
theorem SlB_row {n e s e' s' : Nat} {ow ow' : Bool} {a b : List AV} : SlB n H (.row ow e s a) (.row ow' e' s' b) =
  ((ow' = true → ow = true) ∧ e' = e ∧ s' = s ∧ ((b = a ∧ belowEls n a = true) ∨ All2 (SlE n H) a b)) := (rfl)
def slots (n : Nat) (l : List (Nat × AV)) : List AV := l.foldl (fun t p => t.set p.1 p.2) (List.replicate n .undef)
theorem mksl_map {l : List α} : mksl sz (l.map f) = encL sz f l := (rfl)
theorem mksl_nil : mksl sz [] = .sl .any 0 [] := (rfl)
theorem encL_eq_nil : (encL sz f xs = .sl .any 0 []) = (xs = []) := by cases xs <;> simp [encL, mksl]
theorem nil_eq_encL : (.sl .any 0 [] = encL sz f xs) = (xs = []) := by cases xs <;> simp [encL, mksl]
theorem take_map_len {l : List α} : (l.map f).take l.length = l.map f := by rw [← List.map_take, List.take_length]
theorem encInt_eq {n : Int} : encInt n = .int .i64 n := (rfl)
theorem ex_swap {β γ : Type} {R : β → γ → Prop} {p : γ → Prop} : (∃ b, (∃ a, R a b) ∧ p b) = ∃ a, ∃ b, R a b ∧ p b :=
  propext ⟨fun ⟨b, ⟨a, h⟩, k⟩ => ⟨a, b, h, k⟩, fun ⟨a, b, h, k⟩ => ⟨b, ⟨a, h⟩, k⟩⟩
theorem nfC_encL : nfC (encL sz f xs) = true := by
  unfold encL mksl; cases xs <;> rfl
theorem wrap_i64 {n : Int} (h1 : -9223372036854775808 ≤ n) (h2 : n ≤ 9223372036854775807) : IntKind.i64.wrap n = n := by
  unfold IntKind.wrap
  have h3 : (2 : Int) ^ IntKind.i64.bits = 18446744073709551616 := (rfl)
  have h4 : (2 : Int) ^ (IntKind.i64.bits - 1) = 9223372036854775808 := (rfl)
  simp only [h3, h4, IntKind.signed, Bool.true_and, decide_eq_true_eq]
  split <;> omega
end
end Go.Vm
namespace Go.Vm
open Go.RowKit
def lendRow (m : Nat → Blk → Bool) (H : List Blk) (d b off len tot : Nat) : Option Blk → Option AV
  | some .nrow => if len = 0 then some (mksl 0 []) else none
  | some (.row ow e sz els) => if m b (.row ow e sz els) = true ∧ els.length = tot ∧ off + len ≤ tot then (lendEls m H d ((els.drop off).take len)).map (mksl sz) else none
  | _ => none
def lendBox (m : Nat → Blk → Bool) (H : List Blk) (d b off : Nat) : Option Blk → Option AV
  | some (.cells cs) => if m b (.cells cs) = true then (lendCs m H d (cs.drop off)).map .pro else none
  | _ => none
def isCells : Option Blk → Bool
  | some (.cells _) => true
  | _ => false
def isRow (tot : Nat) : Option Blk → Bool
  | some (.row _ _ _ els) => els.length == tot
  | _ => false
def isNR (tot : Nat) : Option Blk → Bool
  | some .nrow => true
  | some (.row _ _ _ els) => els.length == tot
  | _ => false
def elsRow (s off len tot : Nat) : Option Blk → Option (List AV)
  | some .nrow => if off = 0 ∧ len = 0 ∧ tot = 0 then some [] else none
  | some (.row _ _ sz' els) => if sz' = s ∧ els.length = tot ∧ off + len ≤ tot then some ((els.drop off).take len) else none
  | _ => none
def cellsBox (n off : Nat) : Option Blk → Option (List AV)
  | some (.cells cs) => if off + n ≤ cs.length then some ((cs.drop off).take n) else none
  | _ => none
def cellsRow (n i off tot : Nat) : Option Blk → Option (List AV)
  | some (.row _ _ _ els) => if els.length = tot then (els[i]?).bind fun x => if off + n ≤ x.cells.length then some ((x.cells.drop off).take n) else none else none
  | _ => none
def setBox (H : List Blk) (vs : List AV) (b off : Nat) : Option Blk → Option (List Blk)
  | some (.cells cs) => if off + vs.length ≤ cs.length then some (H.set b (.cells (cs.take off ++ vs ++ cs.drop (off + vs.length)))) else none
  | _ => none
def setRow (H : List Blk) (vs : List AV) (b i off tot : Nat) : Option Blk → Option (List Blk)
  | some (.row true e sz els) => if els.length = tot then (els[i]?).bind fun x => if off + vs.length ≤ x.cells.length then
            some (H.set b (.row true e sz (els.set i (x.withCells (x.cells.take off ++ vs ++ x.cells.drop (off + vs.length)))))) else none else none
  | _ => none
def nilRow (tot : Nat) : Option Blk → Option Bool
  | some .nrow => some true
  | some (.row _ _ _ els) => if els.length = tot ∧ 0 < tot then some false else none
  | _ => none
def iaddrRow (s b off len tot : Nat) (n : Int) : Option Blk → Option AV
  | some (.row _ _ sz' els) => if sz' = s ∧ els.length = tot ∧ off + len ≤ tot ∧ 0 ≤ n ∧ n < len then some (.prow b (off + n.toNat) 0 tot) else none
  | _ => none
def sliceRow (s : Nat) (lo hi : Option AV) (b off len tot : Nat) : Option Blk → Option AV
  | some (.row _ _ sz' els) => if sz' = s ∧ els.length = tot then (cutOf len lo hi).map fun p => .slref b (off + p.1) (p.2 - p.1) tot else none
  | _ => none
def appRow (H : List Blk) (e s b c len tot : Nat) (xs : List AV) : Option Blk → Option (AV × List Blk)
  | some .nrow => if len = 0 ∧ tot = 0 ∧ xs.length * b ≤ 140737488355328 then some (.slref c 0 xs.length xs.length, H.set c (.row true e s xs)) else none
  | some (.row true e' sz' els) =>
      if e' = e ∧ sz' = s ∧ els.length = tot ∧ len ≤ tot ∧ (len + xs.length) * b ≤ 140737488355328 then
        if len + xs.length ≤ tot then some (.slref c 0 (len + xs.length) tot, H.set c (.row true e s (els.take len ++ xs ++ els.drop (len + xs.length))))
        else some (.slref c 0 (len + xs.length) (len + xs.length), H.set c (.row true e s (els.take len ++ xs)))
      else none
  | _ => none
theorem z_isCell_hole  : AV.isCell AV.hole = true := (rfl)
theorem z_nils_hole  (r : List AV) : nils (AV.hole :: r) = nils r := by simp [nils]
theorem z_nilfy_hole (d : Nat)  (r : List AV) : nilfy d (AV.hole :: r) = AV.hole :: nilfy d r := by simp [nilfy]
theorem z_cells_int (k : IntKind) (n : Int) : AV.cells (AV.int k n) = [(AV.int k n)] := (rfl)
theorem z_stored_int (k : IntKind) (n : Int) : AV.stored (AV.int k n) = some [(AV.int k n)] := (rfl)
theorem z_isCell_int (k : IntKind) (n : Int) : AV.isCell (AV.int k n) = true := (rfl)
theorem z_scalar_int (k : IntKind) (n : Int) : AV.scalar (AV.int k n) = true := by simp [AV.scalar]
theorem z_refs_int (k : IntKind) (n : Int) : AV.refs (AV.int k n) = [] := (rfl)
theorem z_lend_int (m : Nat → Blk → Bool) (H : List Blk) (k : IntKind) (n : Int) : lend m H (AV.int k n) = lendC m H 20 (AV.int k n) := (rfl)
theorem z_lendC_int (m : Nat → Blk → Bool) (H : List Blk) (d : Nat) (k : IntKind) (n : Int) : lendC m H d (AV.int k n) = some (AV.int k n) := by unfold lendC; exact (rfl)
theorem z_nils_int (k : IntKind) (n : Int) (r : List AV) : nils ((AV.int k n) :: r) = nils r := by simp [nils]
theorem z_nilfy_int (d : Nat) (k : IntKind) (n : Int) (r : List AV) : nilfy d ((AV.int k n) :: r) = (AV.int k n) :: nilfy d r := by simp [nilfy]
theorem z_isCell_bool (b : Bool) : AV.isCell (AV.bool b) = true := (rfl)
theorem z_scalar_bool (b : Bool) : AV.scalar (AV.bool b) = true := by simp [AV.scalar]
theorem z_lend_bool (m : Nat → Blk → Bool) (H : List Blk) (b : Bool) : lend m H (AV.bool b) = lendC m H 20 (AV.bool b) := (rfl)
theorem z_lendC_bool (m : Nat → Blk → Bool) (H : List Blk) (d : Nat) (b : Bool) : lendC m H d (AV.bool b) = some (AV.bool b) := by unfold lendC; exact (rfl)
theorem z_cells_str (s : List UInt8) : AV.cells (AV.str s) = [(AV.str s)] := (rfl)
theorem z_stored_str (s : List UInt8) : AV.stored (AV.str s) = some [(AV.str s)] := (rfl)
theorem z_isCell_str (s : List UInt8) : AV.isCell (AV.str s) = true := (rfl)
theorem z_scalar_str (s : List UInt8) : AV.scalar (AV.str s) = true := by simp [AV.scalar]
theorem z_lend_str (m : Nat → Blk → Bool) (H : List Blk) (s : List UInt8) : lend m H (AV.str s) = lendC m H 20 (AV.str s) := (rfl)
theorem z_lendC_str (m : Nat → Blk → Bool) (H : List Blk) (d : Nat) (s : List UInt8) : lendC m H d (AV.str s) = some (AV.str s) := by unfold lendC; exact (rfl)
theorem z_stored_sl (k : Nk) (sz : Nat) (l : List AV) : AV.stored (AV.sl k sz l) = some [(AV.sl k sz l)] := (rfl)
theorem z_isCell_sl (k : Nk) (sz : Nat) (l : List AV) : AV.isCell (AV.sl k sz l) = true := (rfl)
theorem z_lend_sl (m : Nat → Blk → Bool) (H : List Blk) (k : Nk) (sz : Nat) (l : List AV) : lend m H (AV.sl k sz l) = lendC m H 20 (AV.sl k sz l) := (rfl)
theorem z_lendC_sl (m : Nat → Blk → Bool) (H : List Blk) (d : Nat) (k : Nk) (sz : Nat) (l : List AV) : lendC m H d (AV.sl k sz l) = some (mksl sz l) := by unfold lendC; exact (rfl)
theorem z_cells_slref (b off len tot : Nat) : AV.cells (AV.slref b off len tot) = [(AV.slref b off len tot)] := (rfl)
theorem z_stored_slref (b off len tot : Nat) : AV.stored (AV.slref b off len tot) = some [(AV.slref b off len tot)] := (rfl)
theorem z_isCell_slref (b off len tot : Nat) : AV.isCell (AV.slref b off len tot) = true := (rfl)
theorem z_refs_slref (b off len tot : Nat) : AV.refs (AV.slref b off len tot) = [b] := (rfl)
theorem z_lend_slref (m : Nat → Blk → Bool) (H : List Blk) (b off len tot : Nat) : lend m H (AV.slref b off len tot) = lendC m H 20 (AV.slref b off len tot) := (rfl)
theorem z_lendC_slref (m : Nat → Blk → Bool) (H : List Blk) (d : Nat) (b off len tot : Nat) : lendC m H (d + 1) (AV.slref b off len tot) = lendRow m H d b off len tot H[b]? := by unfold lendC lendRow; rfl
theorem z_nils_slref (b off len tot : Nat) (r : List AV) : nils ((AV.slref b off len tot) :: r) = nils r := by simp [nils]
theorem z_nilfy_slref (d : Nat) (b off len tot : Nat) (r : List AV) : nilfy d ((AV.slref b off len tot) :: r) = (AV.slref b off len tot) :: nilfy d r := by simp [nilfy]
theorem z_isCell_pbox (b off : Nat) : AV.isCell (AV.pbox b off) = true := (rfl)
theorem z_lend_pbox (m : Nat → Blk → Bool) (H : List Blk) (b off : Nat) : lend m H (AV.pbox b off) = lendC m H 20 (AV.pbox b off) := (rfl)
theorem z_lendC_pbox (m : Nat → Blk → Bool) (H : List Blk) (d : Nat) (b off : Nat) : lendC m H (d + 1) (AV.pbox b off) = lendBox m H d b off H[b]? := by unfold lendC lendBox; rfl
theorem z_stored_fn (f : Nat) (caps : List AV) : AV.stored (AV.fn f caps) = some [(AV.fn f caps)] := (rfl)
theorem z_isCell_fn (f : Nat) (caps : List AV) : AV.isCell (AV.fn f caps) = true := (rfl)
theorem z_lend_fn (m : Nat → Blk → Bool) (H : List Blk) (f : Nat) (caps : List AV) : lend m H (AV.fn f caps) = lendC m H 20 (AV.fn f caps) := (rfl)
theorem z_lendC_fn (m : Nat → Blk → Bool) (H : List Blk) (d : Nat) (f : Nat) (caps : List AV) : lendC m H (d + 1) (AV.fn f caps) = (lendCs m H d caps).map (.fn f) := by unfold lendC; exact (rfl)
theorem z_nils_fn (f : Nat) (caps : List AV) (r : List AV) : nils ((AV.fn f caps) :: r) = nils r := by simp [nils]
theorem z_nilfy_fn (d : Nat) (f : Nat) (caps : List AV) (r : List AV) : nilfy d ((AV.fn f caps) :: r) = (AV.fn f caps) :: nilfy d r := by simp [nilfy]
theorem z_cells_agg (cs : List AV) : AV.cells (AV.agg cs) = cs := (rfl)
theorem z_stored_agg (cs : List AV) : AV.stored (AV.agg cs) = if cs.all AV.isCell then some cs else none := (rfl)
theorem z_scalar_agg (cs : List AV) : AV.scalar (AV.agg cs) = scalarL cs := by simp [AV.scalar]
theorem z_refs_agg (cs : List AV) : AV.refs (AV.agg cs) = cs.flatMap AV.refs1 := (rfl)
theorem z_lend_agg (m : Nat → Blk → Bool) (H : List Blk) (cs : List AV) : lend m H (AV.agg cs) = (lendCs m H 20 cs).map .agg := (rfl)
theorem z_scalar_tup (vs : List AV) : AV.scalar (AV.tup vs) = scalarL vs := by simp [AV.scalar]
theorem z_nils_sl_any (sz : Nat) (l r : List AV) : nils (.sl .any sz l :: r) = nils r := by simp [nils]
theorem z_nilfy_sl_any (d sz : Nat) (l r : List AV) : nilfy d (.sl .any sz l :: r) = .sl .any sz l :: nilfy d r := by simp [nilfy]
theorem z_nils_sl_nil (sz : Nat) (r : List AV) : nils (.sl .nil sz [] :: r) = nils r + 1 := by simp [nils]
theorem z_nilfy_sl_nil (d sz : Nat) (r : List AV) : nilfy d (.sl .nil sz [] :: r) = .slref d 0 0 0 :: nilfy (d + 1) r := by simp [nilfy]
theorem z_nils_nil : nils [] = 0 := (rfl)
theorem z_nilfy_nil (d : Nat) : nilfy d [] = [] := by simp [nilfy]
theorem z_lendCs_nil (m : Nat → Blk → Bool) (H : List Blk) (d : Nat) : lendCs m H d [] = some [] := by unfold lendCs; rfl
theorem z_lendCs_cons (m : Nat → Blk → Bool) (H : List Blk) (d : Nat) (c : AV) (cs : List AV) : lendCs m H d (c :: cs) = (lendC m H d c).bind fun c' => (lendCs m H d cs).map (c' :: ·) := by
  conv => lhs; unfold lendCs
  cases lendC m H d c <;> simp <;> cases lendCs m H d cs <;> simp
theorem z_lendEls_nil (m : Nat → Blk → Bool) (H : List Blk) (d : Nat) : lendEls m H d [] = some [] := by unfold lendEls; rfl
theorem z_lendEls_int (m : Nat → Blk → Bool) (H : List Blk) (d : Nat) (k : IntKind) (n : Int) (es : List AV) : lendEls m H d ((AV.int k n) :: es) = (lendC m H d (AV.int k n)).bind fun c' => (lendEls m H d es).map (c' :: ·) := by
  conv => lhs; unfold lendEls
  cases lendC m H d (AV.int k n) <;> simp <;> cases lendEls m H d es <;> simp
theorem z_lendAll_nil (m : Nat → Blk → Bool) (H : List Blk) : lendAll m H [] = some [] := (rfl)
theorem z_lendAll_cons (m : Nat → Blk → Bool) (H : List Blk) (a : AV) (as : List AV) : lendAll m H (a :: as) = (lend m H a).bind fun a' => (lendAll m H as).map (a' :: ·) := by
  conv => lhs; unfold lendAll
  cases lend m H a <;> simp <;> cases lendAll m H as <;> simp
theorem z_nfC_int (k : IntKind) (n : Int) : nfC (AV.int k n) = true := (rfl)
theorem z_nfC_str (s : List UInt8) : nfC (AV.str s) = true := (rfl)
theorem z_nfE_agg (cs : List AV) : nfE (AV.agg cs) = cs.all nfC := (rfl)
theorem z_belowC_undef (q : Nat)  : belowC q AV.undef = true := (rfl)
theorem z_belowC_hole (q : Nat)  : belowC q AV.hole = true := (rfl)
theorem z_belowC_int (q : Nat) (k : IntKind) (n : Int) : belowC q (AV.int k n) = true := (rfl)
theorem z_belowE_int (q : Nat) (k : IntKind) (n : Int) : belowE q (AV.int k n) = true := (rfl)
theorem z_belowC_bool (q : Nat) (b : Bool) : belowC q (AV.bool b) = true := (rfl)
theorem z_belowC_str (q : Nat) (s : List UInt8) : belowC q (AV.str s) = true := (rfl)
theorem z_belowC_nilp (q : Nat)  : belowC q AV.nilp = true := (rfl)
theorem z_belowC_sl (q : Nat) (k : Nk) (sz : Nat) (l : List AV) : belowC q (AV.sl k sz l) = true := (rfl)
theorem z_belowC_pro (q : Nat) (cs : List AV) : belowC q (AV.pro cs) = true := (rfl)
theorem z_belowC_slref (q : Nat) (b off len tot : Nat) : belowC q (AV.slref b off len tot) = decide (b < q) := (rfl)
theorem z_belowC_pbox (q : Nat) (b off : Nat) : belowC q (AV.pbox b off) = decide (b < q) := (rfl)
theorem z_belowC_prow (q : Nat) (b i off tot : Nat) : belowC q (AV.prow b i off tot) = decide (b < q) := (rfl)
theorem z_belowC_fn (q : Nat) (f : Nat) (caps : List AV) : belowC q (AV.fn f caps) = caps.all (belowR q) := (rfl)
theorem z_belowE_agg (q : Nat) (cs : List AV) : belowE q (AV.agg cs) = cs.all (belowC q) := (rfl)
theorem z_belowC_tup (q : Nat) (vs : List AV) : belowC q (AV.tup vs) = true := (rfl)
theorem z_lenOf_sl (H : List Blk) (k : Nk) (sz : Nat) (l : List AV) : lenOf H (.sl k sz l) = some (l.length : Int) := (rfl)
theorem z_lenOf_slref (H : List Blk) (b off len tot : Nat) : lenOf H (.slref b off len tot) = if fresh H (.slref b off len tot) = true then some (len : Int) else none := (rfl)
theorem z_fresh_pbox (H : List Blk) (b off : Nat) : fresh H (.pbox b off) = isCells H[b]? := by unfold fresh isCells; rfl
theorem z_fresh_prow (H : List Blk) (b i off tot : Nat) : fresh H (.prow b i off tot) = isRow tot H[b]? := by unfold fresh isRow; rfl
theorem z_fresh_slref (H : List Blk) (b off len tot : Nat) : fresh H (.slref b off len tot) = isNR tot H[b]? := by unfold fresh isNR; rfl
theorem z_elsOf_sl (H : List Blk) (s : Nat) (k : Nk) (sz : Nat) (l : List AV) : elsOf H s (.sl k sz l) = if sz = s ∨ l = [] then some l else none := (rfl)
theorem z_elsOf_slref (H : List Blk) (s : Nat) (b off len tot : Nat) : elsOf H s (.slref b off len tot) = elsRow s off len tot H[b]? := by unfold elsOf elsRow; rfl
theorem z_cellsAt_pro (H : List Blk) (n : Nat) (cs : List AV) : cellsAt H n (.pro cs) = if n ≤ cs.length then some (cs.take n) else none := (rfl)
theorem z_cellsAt_pbox (H : List Blk) (n b off : Nat) : cellsAt H n (.pbox b off) = cellsBox n off H[b]? := by unfold cellsAt cellsBox; rfl
theorem z_cellsAt_prow (H : List Blk) (n b i off tot : Nat) : cellsAt H n (.prow b i off tot) = cellsRow n i off tot H[b]? := by
  simp only [cellsAt, cellsRow]
  generalize H[b]? = o
  rcases o with _ | (_ | _ | cs | ⟨ow, e, sz, els⟩) <;> try rfl
  simp only
  split
  · cases els[i]? <;> rfl
  · rfl
theorem z_setAt_pbox (H : List Blk) (vs : List AV) (b off : Nat) : setAt H vs (.pbox b off) = setBox H vs b off H[b]? := by unfold setAt setBox; rfl
theorem z_setAt_prow (H : List Blk) (vs : List AV) (b i off tot : Nat) : setAt H vs (.prow b i off tot) = setRow H vs b i off tot H[b]? := by
  simp only [setAt, setRow]
  generalize H[b]? = o
  rcases o with _ | (_ | _ | cs | ⟨ow, e, sz, els⟩) <;> try rfl
  cases ow <;> try rfl
  simp only
  split
  · cases els[i]? <;> rfl
  · rfl
theorem z_faddr_pro (H : List Blk) (off : Nat) (cs : List AV) : faddrAV H off (.pro cs) = some (.pro (cs.drop off)) := by simp [faddrAV, fresh]
theorem z_faddr_pbox (H : List Blk) (off b o : Nat) : faddrAV H off (.pbox b o) = if isCells H[b]? = true then some (.pbox b (o + off)) else none := by unfold faddrAV; rw [z_fresh_pbox]
theorem z_faddr_prow (H : List Blk) (off b i o tot : Nat) : faddrAV H off (.prow b i o tot) = if isRow tot H[b]? = true then some (.prow b i (o + off) tot) else none := by unfold faddrAV; rw [z_fresh_prow]
theorem z_nilOf_nil (H : List Blk) (sz : Nat) : nilOf H (.sl .nil sz []) = some true := (rfl)
theorem z_nilOf_slref (H : List Blk) (b off len tot : Nat) : nilOf H (.slref b off len tot) = nilRow tot H[b]? := by unfold nilOf nilRow; rfl
theorem z_iaddr_sl (H : List Blk) (s : Nat) (k : Nk) (sz : Nat) (l : List AV) (q : IntKind) (n : Int) : iaddrAV H s (.sl k sz l) (.int q n) = if sz = s ∧ 0 ≤ n ∧ n < l.length then some (.pro (l.getD n.toNat .undef).cells) else none := (rfl)
theorem z_iaddr_slref (H : List Blk) (s b off len tot : Nat) (q : IntKind) (n : Int) : iaddrAV H s (.slref b off len tot) (.int q n) = iaddrRow s b off len tot n H[b]? := by unfold iaddrAV iaddrRow; rfl
theorem z_slice_slref (H : List Blk) (s : Nat) (lo hi : Option AV) (b off len tot : Nat) : sliceAV H s lo hi (.slref b off len tot) = sliceRow s lo hi b off len tot H[b]? := by unfold sliceAV sliceRow; rfl
theorem z_bin_add (k : IntKind) (x y : Int) : binAV .add (.int k x) (.int k y) = intBin .add k x y := by simp [binAV]
theorem z_bin_sub (k : IntKind) (x y : Int) : binAV .sub (.int k x) (.int k y) = intBin .sub k x y := by simp [binAV]
theorem z_bin_mul (k : IntKind) (x y : Int) : binAV .mul (.int k x) (.int k y) = intBin .mul k x y := by simp [binAV]
theorem z_bin_rem (k : IntKind) (x y : Int) : binAV .rem (.int k x) (.int k y) = intBin .rem k x y := by simp [binAV]
theorem z_bin_and (k : IntKind) (x y : Int) : binAV .and (.int k x) (.int k y) = intBin .and k x y := by simp [binAV]
theorem z_bin_xor (k : IntKind) (x y : Int) : binAV .xor (.int k x) (.int k y) = intBin .xor k x y := by simp [binAV]
theorem z_bin_eql (k : IntKind) (x y : Int) : binAV .eql (.int k x) (.int k y) = intBin .eql k x y := by simp [binAV]
theorem z_bin_neq (k : IntKind) (x y : Int) : binAV .neq (.int k x) (.int k y) = intBin .neq k x y := by simp [binAV]
theorem z_bin_lss (k : IntKind) (x y : Int) : binAV .lss (.int k x) (.int k y) = intBin .lss k x y := by simp [binAV]
theorem z_bin_leq (k : IntKind) (x y : Int) : binAV .leq (.int k x) (.int k y) = intBin .leq k x y := by simp [binAV]
theorem z_bin_gtr (k : IntKind) (x y : Int) : binAV .gtr (.int k x) (.int k y) = intBin .gtr k x y := by simp [binAV]
theorem z_bin_geq (k : IntKind) (x y : Int) : binAV .geq (.int k x) (.int k y) = intBin .geq k x y := by simp [binAV]
theorem z_bin_shr (k k' : IntKind) (x y : Int) : binAV .shr (.int k x) (.int k' y) = intBin .shr k x y := (rfl)
theorem z_bin_str (op : BinOp) (x y : List UInt8) : binAV op (.str x) (.str y) = strBin op x y := by cases op <;> rfl
theorem z_app_nil (H : List Blk) (e s b sz : Nat) (xs : List AV) : appendAV H e s b (.sl .nil sz []) xs = if xs.length * b ≤ 140737488355328 then some (.slref H.length 0 xs.length xs.length, H ++ [.row true e s xs]) else none := (rfl)
theorem z_app_slref (H : List Blk) (e s b c len tot : Nat) (xs : List AV) : appendAV H e s b (.slref c 0 len tot) xs = appRow H e s b c len tot xs H[c]? := by unfold appendAV appRow; rfl
theorem z_withCells_agg (a cs : List AV) : AV.withCells (.agg a) cs = .agg cs := by cases cs <;> rfl
theorem z_withCells_int (k : IntKind) (n : Int) (c : AV) : AV.withCells (.int k n) [c] = c := (rfl)
theorem z_withCells_slref (b o l t : Nat) (c : AV) : AV.withCells (.slref b o l t) [c] = c := (rfl)
attribute [simp] go_skip go_seq go_cond go_block go_loop go_exit go_ret go_reg go_dreg needs1_nil hasAl_nil hasAl_cons isL_eq O.isAlloc condG_t condG_f opsK_nil opsK_cons opsK_guard guardK_t guardK_f guardK_tf guardK_ft guardK_tup dopsK_nil dopsK_cons stepD_eq O.isBsl freshK_bsl mk0_1 mk0_4 newer dopsK_guard dguardK_t dguardK_f dguardK_tf dguardK_ft stepK_mov stepK_pick stepK_alloc stepK_box stepK_build stepK_bsl stepK_load stepK_store stepK_bin stepK_beq stepK_isnil stepK_not stepK_conv stepK_mkfn stepK_slice stepK_sslice stepK_faddr stepK_iaddr stepK_extr stepK_len stepK_append stepK_call stepK_callv ev_t ev_k putT_some putT_none kont_eq kontD_eq thenS_normal thenS_ret thenS_exit inB_normal inB_ret inB_exit callK_ret callvK_fn tabH_nil tabH_cons retK tabW_nil tabW_cons boxK aggK bslK loadK storeK appK evK valK_some valK_none valK_ite valK_iten evK_map elsOf_encL lenOf_encL cells_encL stored_encL isCell_encL refs_encL refs1_encL scalar_encL nils_encL nilfy_encL lendC_encL lend_encL iaddr_encL slice_encL lendEls_map lendEls_append belowEls_map belowEls_append belowEls_nil belowEls_cons belowC_encL all2_nil all2_cons encL_inj z_isCell_hole z_nils_hole z_nilfy_hole z_cells_int z_stored_int z_isCell_int z_scalar_int z_refs_int z_lend_int z_lendC_int z_nils_int z_nilfy_int z_isCell_bool z_scalar_bool z_lend_bool z_lendC_bool z_cells_str z_stored_str z_isCell_str z_scalar_str z_lend_str z_lendC_str z_stored_sl z_isCell_sl z_lend_sl z_lendC_sl z_cells_slref z_stored_slref z_isCell_slref z_refs_slref z_lend_slref z_lendC_slref z_nils_slref z_nilfy_slref z_isCell_pbox z_lend_pbox z_lendC_pbox z_stored_fn z_isCell_fn z_lend_fn z_lendC_fn z_nils_fn z_nilfy_fn z_cells_agg z_stored_agg z_scalar_agg z_refs_agg z_lend_agg z_scalar_tup z_nils_sl_any z_nilfy_sl_any z_nils_sl_nil z_nilfy_sl_nil z_nils_nil z_nilfy_nil z_lendCs_nil z_lendCs_cons z_lendEls_nil z_lendEls_int z_lendAll_nil z_lendAll_cons z_nfC_int z_nfC_str z_nfE_agg z_belowC_undef z_belowC_hole z_belowC_int z_belowE_int z_belowC_bool z_belowC_str z_belowC_nilp z_belowC_sl z_belowC_pro z_belowC_slref z_belowC_pbox z_belowC_prow z_belowC_fn z_belowE_agg z_belowC_tup z_lenOf_sl z_lenOf_slref z_fresh_pbox z_fresh_prow z_fresh_slref z_elsOf_sl z_elsOf_slref z_cellsAt_pro z_cellsAt_pbox z_cellsAt_prow z_setAt_pbox z_setAt_prow z_faddr_pro z_faddr_pbox z_faddr_prow z_nilOf_nil z_nilOf_slref z_iaddr_sl z_iaddr_slref z_slice_slref z_bin_add z_bin_sub z_bin_mul z_bin_rem z_bin_and z_bin_xor z_bin_eql z_bin_neq z_bin_lss z_bin_leq z_bin_gtr z_bin_geq z_bin_shr z_bin_str z_app_nil z_app_slref z_withCells_agg z_withCells_int z_withCells_slref lendRow lendBox isCells isRow isNR elsRow cellsBox cellsRow setBox setRow nilRow iaddrRow sliceRow appRow scalarL freezeOn mkv intBin strBin cutOf hiOf loOf natOf fillAV fillEls one vals Res.val retP frame freezeOn_nil SlV_undef SlV_agg SlV_cell SlE_cell SlB_dead SlB_nrow SlB_cells SlB_row SlC slots List.foldl mksl_map and_assoc nfC_encL take_map_len encInt_eq Option.bind_eq_some_iff Option.map_eq_some_iff ex_swap belowEls_set wrap_i64 mksl_nil encL_eq_nil nil_eq_encL encL_nil
attribute [simp low] condG_b guardK_b dguardK_b
end Go.Vm
