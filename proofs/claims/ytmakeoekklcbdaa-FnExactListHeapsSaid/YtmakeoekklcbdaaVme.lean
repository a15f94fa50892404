/- A machine of plain values, part e: what the program's operations do, told of plain values. It holds over any program; no condition. -/
import Derived.Test.YtmakeoekklcbdaaVmd
import Derived.WalkKit
import Derived.ProofKit
import Derived.OpenShut
import Derived.ShutString
import Derived.ChangeOld
import Derived.Below
import Derived.SizedLaws
import Derived.Carry
set_option linter.unusedSimpArgs false
set_option linter.unusedVariables false
namespace Go.Vm
open Go.RowKit

def isAgg' (P : Program) (t : TypeId) : Bool :=
  match P.underlying t with
  | some (.struct _) => true
  | _ => false

def mkE (agg : Bool) (cs : List AV) : AV := if agg then .agg cs else cs.headD .hole

/-- The forms that a value of a type has, told without blocks. -/
def TyN (P : Program) : Nat → TypeId → List AV → Prop
  | 0, _, _ => False
  | n + 1, t, as => match P.underlying t with
    | some .bool => ∃ b, as = [.bool b]
    | some (.int k) => ∃ i, as = [.int k i] ∧ (Lit.int k i).wf = true
    | some .string => ∃ s : List UInt8, as = [.str s] ∧ s.length ≤ maxLen
    | some (.slice e) => ∃ css : List (List AV), as = [mksl (P.cellsOf e) (css.map (mkE (isAgg' P e)))] ∧ css.length ≤ maxLen ∧ ∀ cs ∈ css, TyN P n e cs
    | some (.struct fs) => ∃ ass : List (List AV), as = ass.flatten ∧ All2 (fun a t => TyN P n t a) ass (fs.toList.map (·.type))
    | _ => False

def contigB (P : Program) : Nat → Nat → List Field → Bool
  | n, o, [] => o == n
  | n, o, f :: fs => f.offset == o && contigB P n (o + P.cellsOf f.type) fs

/-- Types of numbers, truth values, strings, slices and structs of such. -/
def plainB (P : Program) (T : List TypeId) : Bool :=
  T.all fun t => match P.underlying t with
    | some .bool | some (.int _) | some .string => P.cellsOf t == 1
    | some (.slice e) => T.contains e && decide (0 < P.cellsOf e) && P.cellsOf t == 1
    | some (.struct fs) => (fs.toList.all fun f => T.contains f.type) && contigB P (P.cellsOf t) 0 fs.toList
    | _ => false

section
variable {H : Type} {enc : TypeId × Value → H} {P : Program} {w : World} {sp : Nat → Bool} {T : List TypeId}

theorem mapM_all2 {α β : Type} {f : α → Option β} : ∀ {as : List α} {bs : List β}, as.mapM f = some bs → All2 (fun a b => f a = some b) as bs
  | [], bs, h => by simp at h; subst h; exact .nil
  | a :: as, bs, h => by
    simp only [List.mapM_cons, Option.bind_eq_bind, Option.bind_eq_some_iff] at h
    obtain ⟨b, hb, cs, hc, he⟩ := h
    simp only [Option.pure_def, Option.some.injEq] at he
    subst he
    exact .cons hb (mapM_all2 hc)

theorem cells_get {a : Addr} {n : Nat} {vs : List Value} (h : w.cells? 0 a n = some vs) : vs.length = n ∧ ∀ (j : Nat) (v : Value), vs[j]? = some v → w.cell? (a.add j) = some v := by
  unfold World.cells? at h
  rw [if_pos (Nat.zero_le _)] at h
  have h1 := mapM_all2 h
  refine ⟨by rw [← h1.length]; simp, fun j v hv => ?_⟩
  obtain ⟨k, hk, hkv⟩ := h1.get_r hv
  rw [List.getElem?_range (by have := (List.getElem?_eq_some_iff.1 hv).1; rw [← h1.length] at this; simpa using this)] at hk
  cases hk
  exact hkv

theorem cell_spot {a : Addr} {v : Value} (h : w.cell? a = some v) : a.spot = none ∧ a.block < w.heap.size := by
  unfold World.cell? at h
  split at h
  · rename_i c _ _ hb
    split at h
    · cases h
    · rename_i hs
      refine ⟨by cases e : a.spot <;> simp_all, (Array.getElem?_eq_some_iff.1 hb).1⟩
  · cases h

theorem mkE_cells {agg : Bool} {cs : List AV} {vs : List Value} {N : Nat → Prop} (h : All2 (RepC w N) cs vs) (h1 : agg = false → cs.length = 1) : (mkE agg cs).cells = cs := by
  cases agg with
  | true => rfl
  | false =>
    match cs, h1 rfl with
    | [c], _ => cases h with | cons h t => exact h.cells1

def TypeDesc.isStruct : TypeDesc → Bool
  | .struct _ => true
  | _ => false

theorem isAgg_eq {t : TypeId} {d : TypeDesc} (hu : P.underlying t = some d) : isAgg' P t = TypeDesc.isStruct d := by
  unfold isAgg'; rw [hu]; cases d <;> rfl

/-- What can be read through has a form without blocks. -/
theorem trod_ty (hT : plainB P T = true) : ∀ (n : Nat) (t : TypeId) (cs : List Value) (x : DataW H × List MemPlace), t ∈ T → DataW.trod enc P w 0 sp true n t cs = some x →
    ∃ as, All2 (RepC w (fun g => g < w.heap.size)) as cs ∧ TyN P n t as ∧ cs.length = P.cellsOf t ∧ (isAgg' P t = false → cs.length = 1) := by
  intro n
  induction n with
  | zero => intro t cs x _ h; simp [DataW.trod] at h
  | succ n ih =>
    intro t cs x ht h
    have hp := List.all_eq_true.1 hT t ht
    have hsome : ∃ d, P.underlying t = some d := by
      cases hu : P.underlying t with
      | none => simp [hu] at hp
      | some d => exact ⟨d, rfl⟩
    obtain ⟨d, hu⟩ := hsome
    have hag := isAgg_eq hu
    rw [hag]
    simp only [TyN, hu] at hp ⊢
    cases d with
    | bool =>
      simp only at hp ⊢
      obtain ⟨b, rfl, _⟩ := DataW.trod_bool hu h
      exact ⟨[.bool b], .cons .bool .nil, ⟨b, rfl⟩, (by simpa using (eq_of_beq hp).symm), fun _ => rfl⟩
    | int k =>
      simp only at hp ⊢
      obtain ⟨i, rfl, _, hw⟩ := DataW.trod_int hu h
      exact ⟨[.int k i], .cons .int .nil, ⟨i, rfl, hw⟩, (by simpa using (eq_of_beq hp).symm), fun _ => rfl⟩
    | string =>
      simp only at hp ⊢
      obtain ⟨s, rfl, _, hw⟩ := DataW.trod_string hu h
      exact ⟨[.str s.data.toList], .cons (.str rfl) .nil, ⟨_, rfl, by simpa using hw⟩, (by simpa using (eq_of_beq hp).symm), fun _ => rfl⟩
    | slice e =>
      simp only [Bool.and_eq_true, decide_eq_true_eq] at hp ⊢
      obtain ⟨⟨he, hpos⟩, hc1⟩ := hp
      have he : e ∈ T := by simpa using he
      rcases DataW.trod_slice hu h with ⟨rfl, _⟩ | ⟨a, len, cap, elems, rest, m, hm, rfl, _, _, hlc, hcm, hel, heach, _, _⟩
      · refine ⟨[mksl (P.cellsOf e) []], .cons (.nilSl (by simp)) .nil, ⟨[], rfl, by simp, by simp⟩, (by simpa using (eq_of_beq hc1).symm), fun _ => rfl⟩
      · obtain rfl : m = n := by omega
        have each : ∀ i, i < len → ∃ vs as, w.cells? 0 (a.add (i * P.cellsOf e)) (P.cellsOf e) = some vs ∧ All2 (RepC w (fun g => g < w.heap.size)) as vs ∧ TyN P m e as ∧ (isAgg' P e = false → vs.length = 1) := by
          intro i hi
          have h1 := heach i hi
          rw [List.getElem?_eq_getElem (by omega)] at h1
          obtain ⟨vs, h2, h3⟩ := Option.bind_eq_some_iff.1 h1
          obtain ⟨as, h4, h5, _, h6⟩ := ih e vs _ he h3
          exact ⟨vs, as, h2, h4, h5, h6⟩
        have hspot : 0 < len → a.spot = none := by
          intro hl
          obtain ⟨vs, as, h2, _⟩ := each 0 hl
          obtain ⟨g1, g2⟩ := cells_get h2
          have := (cell_spot (g2 0 vs[0] (List.getElem?_eq_getElem (by omega)))).1
          simpa [Addr.add] using this
        have build : ∀ (k i : Nat), i + k = len → ∃ css : List (List AV), css.length = k ∧ (∀ cs ∈ css, TyN P m e cs) ∧ (0 < k → a.spot = none) ∧ (∀ x ∈ css.map (mkE (isAgg' P e)), x.cells.length = P.cellsOf e) ∧
            RepE w (fun g => g < w.heap.size) (P.cellsOf e) (css.map (mkE (isAgg' P e))) a.block (a.off + i * P.cellsOf e) := by
          intro k
          induction k with
          | zero => intro i _; exact ⟨[], rfl, by simp, by simp, by simp, .nil⟩
          | succ k ihk =>
            intro i hik
            obtain ⟨css, c1, c2, c3, c4, c5⟩ := ihk (i + 1) (by omega)
            obtain ⟨vs, as, h2, h4, h5, h6⟩ := each i (by omega)
            obtain ⟨g1, g2⟩ := cells_get h2
            have hv0 : vs[0]? = some vs[0] := List.getElem?_eq_getElem (by omega)
            obtain ⟨s1, s2⟩ := cell_spot (g2 0 _ hv0)
            have hmk : (mkE (isAgg' P e) as).cells = as := mkE_cells h4 fun h => by rw [h4.length]; exact h6 h
            have hlen : as.length = P.cellsOf e := by rw [h4.length, g1]
            have s3 := hspot (by omega)
            refine ⟨as :: css, by simp [c1], ?_, fun _ => s3, ?_, ?_⟩
            · intro cs hcs
              rcases List.mem_cons.1 hcs with rfl | hcs
              · exact h5
              · exact c2 cs hcs
            · intro x hx
              rw [List.map_cons] at hx
              rcases List.mem_cons.1 hx with rfl | hx
              · rw [hmk, hlen]
              · exact c4 x hx
            · rw [List.map_cons]
              refine .cons (by rw [hmk, hlen]) ?_ (by rwa [show a.off + i * P.cellsOf e + P.cellsOf e = a.off + (i + 1) * P.cellsOf e by rw [Nat.add_mul]; omega])
              rw [hmk]
              obtain ⟨ab, ao, asp⟩ := a
              simp only at s3
              subst s3
              simp only [Addr.add_lit] at s2 g2
              exact RepL.of_all ab s2 _ h4 g2
        obtain ⟨css, c1, c2, c3, c4, c5⟩ := build len 0 (by omega)
        refine ⟨[mksl (P.cellsOf e) (css.map (mkE (isAgg' P e)))], .cons ?_ .nil, ⟨css, rfl, by omega, c2⟩, (by simpa using (eq_of_beq hc1).symm), fun _ => rfl⟩
        refine RepC.mksl (k := .any) ?_
        cases len with
        | zero =>
          have : css = [] := List.eq_nil_of_length_eq_zero c1
          subst this
          exact .slE (by simp) hcm
        | succ len =>
          have hs := c3 (by omega)
          obtain ⟨ab, ao, asp⟩ := a
          simp only at hs
          subst hs
          refine .sl (by simp) (by simp [c1]) (by simp [c1]; omega) hcm (by simpa using c5)
    | struct fs =>
      simp only [Bool.and_eq_true] at hp ⊢
      obtain ⟨hTs, hcontig⟩ := hp
      obtain ⟨xs, m, hm, _, hlen, hxl, heach⟩ := DataW.trod_struct hu h
      obtain rfl : m = n := by omega
      have walk : ∀ (fl : List Field) (o : Nat), contigB P (P.cellsOf t) o fl = true → (∀ f ∈ fl, f ∈ fs.toList) → o ≤ cs.length →
          ∃ ass : List (List AV), All2 (fun a t => TyN P m t a) ass (fl.map (·.type)) ∧ All2 (RepC w (fun g => g < w.heap.size)) ass.flatten (cs.drop o) := by
        intro fl
        induction fl with
        | nil =>
          intro o ho _ _
          simp only [contigB, beq_iff_eq] at ho
          refine ⟨[], .nil, ?_⟩
          rw [List.drop_of_length_le (by omega)]
          exact .nil
        | cons f fl ihf =>
          intro o ho hmem hol
          simp only [contigB, Bool.and_eq_true, beq_iff_eq] at ho
          obtain ⟨rfl, ho⟩ := ho
          have hf := hmem f (by simp)
          obtain ⟨i, hi, hfi⟩ := List.getElem_of_mem hf
          have hi' : fs[i]? = some f := by
            rw [← Array.getElem?_toList, List.getElem?_eq_getElem hi, hfi]
          have h1 := heach i f hi'
          rw [List.getElem?_eq_getElem (by rw [hxl]; simpa using hi)] at h1
          have hft : f.type ∈ T := by
            have := List.all_eq_true.1 hTs f hf
            simpa using this
          obtain ⟨as, h4, h5, h6, _⟩ := ih f.type _ _ hft h1
          have h6' : f.offset + P.cellsOf f.type ≤ cs.length := by
            simp only [List.length_take, List.length_drop] at h6
            have : 0 < P.cellsOf f.type ∨ P.cellsOf f.type = 0 := by omega
            omega
          obtain ⟨ass, k1, k2⟩ := ihf (f.offset + P.cellsOf f.type) ho (fun g hg => hmem g (by simp [hg])) h6'
          refine ⟨as :: ass, .cons h5 k1, ?_⟩
          rw [List.flatten_cons]
          have := h4.append k2
          rwa [← List.drop_drop, List.take_append_drop] at this
      obtain ⟨ass, k1, k2⟩ := walk fs.toList 0 hcontig (fun f hf => hf) (Nat.zero_le _)
      rw [List.drop_zero] at k2
      exact ⟨ass.flatten, k2, ⟨ass, rfl, k1⟩, hlen, fun h => by cases h⟩
    | _ => simp at hp
end
end Go.Vm

namespace Go.Vm
open Go.RowKit Go.ChangeShapes Go.WideShapes Go.ChangeAt

def argE (P : Program) : List (List AV) → List TypeId → List AV
  | as :: ass, t :: ts => mkE (isAgg' P t) as :: argE P ass ts
  | _, _ => []

section
variable {H : Type} {enc : TypeId × Value → H} {P : Program} {w : World} {T : List TypeId}

theorem arg_pure (hT : plainB P T = true) {t : TypeId} (ht : t ∈ T) {r : Reach} {b : Nat} {v : Value} {d : DataW H} {ps : List MemPlace} (hv : Value.okWide P w r b t v) (h : DataW.Trod enc P w 0 (fun _ => true) true t v d ps) :
    ∃ n as, TyN P n t as ∧ PureV w (fun g => g < w.heap.size) (mkE (isAgg' P t) as) v := by
  obtain ⟨n, hn⟩ := h
  obtain ⟨as, h1, h2, h3, h4⟩ := trod_ty hT n t _ _ ht hn
  refine ⟨n, as, h2, ?_⟩
  have hp := List.all_eq_true.1 hT t ht
  unfold Value.okWide at hv
  cases hu : P.underlying t with
  | none => simp [hu] at hp
  | some dd =>
    have hag := isAgg_eq hu
    simp only [hu] at hp hv
    have one : isAgg' P t = false → v.cells.toList = [v] → PureV w (fun g => g < w.heap.size) (mkE (isAgg' P t) as) v := by
      intro e hc
      rw [hc] at h1
      rw [e]
      cases h1 with
      | cons h1 t1 =>
        cases t1
        exact lendC_cell h1
    cases dd with
    | struct fs =>
      obtain ⟨cs, rfl, _⟩ := hv
      rw [show isAgg' P t = true by rw [hag]; rfl]
      exact ⟨cs, rfl, by simpa [Value.cells] using h1⟩
    | bool =>
      obtain ⟨x, hx, _⟩ := DataW.trod_bool hu hn
      refine one (by rw [hag]; rfl) ?_
      cases v <;> simp_all [Value.cells, Cell.okWide, Cell.ok]
    | int k =>
      obtain ⟨x, hx, _⟩ := DataW.trod_int hu hn
      refine one (by rw [hag]; rfl) ?_
      cases v <;> simp_all [Value.cells, Cell.okWide, Cell.ok]
    | string =>
      obtain ⟨x, hx, _⟩ := DataW.trod_string hu hn
      refine one (by rw [hag]; rfl) ?_
      cases v <;> simp_all [Value.cells, Cell.okWide, Cell.ok]
    | slice e =>
      refine one (by rw [hag]; rfl) ?_
      cases v <;> simp_all [Value.cells, Cell.okWide, Cell.ok]
    | _ => simp at hp

theorem args_pure (hT : plainB P T = true) {r : Reach} {b : Nat} : ∀ {ts : List TypeId} {vs : List Value} {ds : List (DataW H)} {ps : List MemPlace}, (∀ t ∈ ts, t ∈ T) →
    (∀ (j : Nat) t v, ts[j]? = some t → vs[j]? = some v → Value.okWide P w r b t v) → DataW.TrodAll enc P w 0 (fun _ => true) true ts vs ds ps →
    ∃ ass, All2 (fun as t => ∃ n, TyN P n t as) ass ts ∧ All2 (PureV w (fun g => g < w.heap.size)) (argE P ass ts) vs ∧ ds.length = ts.length
  | [], [], [], ps, _, _, _ => ⟨[], .nil, .nil, rfl⟩
  | t :: ts, v :: vs, d :: ds, ps, hsub, hok, ⟨p, q, h1, h2, _⟩ => by
    obtain ⟨n, as, k1, k2⟩ := arg_pure hT (hsub t (by simp)) (hok 0 t v rfl rfl) h1
    obtain ⟨ass, l1, l2, l3⟩ := args_pure hT (fun u hu => hsub u (by simp [hu])) (fun j u x hu hx => hok (j + 1) u x (by simpa using hu) (by simpa using hx)) h2
    exact ⟨as :: ass, .cons ⟨n, k1⟩ l1, .cons k2 l2, by simp [l3]⟩
  | [], [], _ :: _, _, _, _, h => h.elim
  | [], _ :: _, _, _, _, _, h => by cases h
  | _ :: _, [], _, _, _, _, h => by cases h
  | _ :: _, _ :: _, [], _, _, _, h => by cases h

theorem args_again (hl : laidOutB P = true) {w' : World} (hb : Below w.heap.size w w') : ∀ {ts : List TypeId} {vs : List Value} {ds : List (DataW H)} {ps : List MemPlace},
    (∀ t ∈ ts, P.readableRec t = true ∧ t < P.types.size) → DataW.TrodAll enc P w 0 (fun _ => true) true ts vs ds ps → DataW.TrodAll enc P w' 0 (fun b => decide (b < w.heap.size)) true ts vs ds ps
  | [], [], [], ps, _, h => h
  | t :: ts, v :: vs, d :: ds, ps, hsub, ⟨p, q, h1, h2, e⟩ => by
    obtain ⟨n, hn⟩ := h1
    exact ⟨p, q, Below.trod hl (hsub t (by simp)).1 (hsub t (by simp)).2 ⟨n, hn⟩ hb (DataW.trod_lt n t _ _ hn), args_again hl hb (fun u hu => hsub u (by simp [hu])) h2, e⟩
  | [], [], _ :: _, _, _, h => h.elim
  | [], _ :: _, _, _, _, h => by cases h
  | _ :: _, [], _, _, _, h => by cases h
  | _ :: _, _ :: _, [], _, _, h => by cases h

theorem law_lift {C : Checked} {os : Os} {f : FuncId} {fn : Func} {s : ChangeSpec} {conds : List PathCond} {tb : TypeId}
    (own : ownKnob C.prog.godebug = none) (started : os.Started) (hinit : C.prog.inits.idxOf? f = none) (hf : C.prog.funcs[f]? = some fn)
    (wit : ∃ (w : World) (tape : Tape) (i : Input), w.os = os ∧ World.Shaped C.prog (w.forCall tape i) ∧ i.vars = [] ∧ Input.okWide C.prog (w.forCall tape i) Reach.any w.heap.size f i ∧
      ChangeSpec.pre6 enc C.prog fn s conds false (w.forCall tape i).memory i.args ∧ ({} : Assume).holds C.prog (lone (Frame.enter C.prog f i.args CallKind.normal) [] (w.forCall tape i)))
    (hv : s.vars = []) (hfn : ∀ (ds : List (DataW H)), ds.length = fn.params.toList.length → s.fn H ds = { results := [.lit (.bool true)], args := ds })
    (hres : fn.resultTypes = #[tb]) (htb : C.prog.underlying tb = some .bool)
    (hT : plainB C.prog T = true) (hsub : ∀ t ∈ fn.params.toList, t ∈ T) (hl : laidOutB C.prog = true) (hr : ∀ t ∈ fn.params.toList, C.prog.readableRec t = true ∧ t < C.prog.types.size)
    (ok : ∀ ass, All2 (fun as t => ∃ n, TyN C.prog n t as) ass fn.params.toList → Ok C.prog f (argE C.prog ass fn.params.toList) (.bool true)) :
    ReturnsInHanded {} C os f .any (ChangeSpec.pre6 enc C.prog fn s conds false) (ChangeSpec.post enc C.prog fn s false true false false) := by
  refine returnsInHanded_of_change_sized own started hinit hf wit ?_
  intro W base args ds gs before hval hW hcnd hsz _
  have hW' := hW
  obtain ⟨p, q, hA, hV, rfl, hfz, hnd⟩ := hW
  have hgs : gs = [] ∧ q = [] := by
    rw [hv] at hV
    cases gs with
    | nil => exact ⟨rfl, hV⟩
    | cons => exact hV.elim
  obtain ⟨rfl, rfl⟩ := hgs
  obtain ⟨ass, h1, h2, h3⟩ := args_pure hT hsub (fun j t v ht hx => hval j t v (by simpa using ht) (by simpa using hx)) hA
  refine (ok ass h1 W (fun g => g < W.heap.size) args (fun _ h => h) h2).mono fun e W' ⟨v, he, bel, hp⟩ => ?_
  subst he
  have hvb : v = .bool true := by
    have : RepC W' _ (.bool true) v := hp
    cases this
    rfl
  subst hvb
  refine ⟨_, rfl, ds, [], p ++ [], [], p, [], hW', ?_, ?_, ?_, bel.frame _, fun h => by cases h⟩
  · rw [hres, List.append_nil, hfn ds h3]
    exact trodAll_mk1 (shut_bool htb _)
  · rw [List.append_nil, hfn ds h3]
    exact args_again hl bel hr hA
  · rw [hv, List.append_nil, hfn ds h3]
    rfl
end
end Go.Vm

namespace Go.Vm
open Go.RowKit

mutual
def lensOk : AV → Prop
  | .sl _ _ l => l.length ≤ maxLen ∧ lensOkL l
  | .pro cs => lensOkL cs
  | .agg cs => lensOkL cs
  | .tup vs => lensOkL vs
  | _ => True
def lensOkL : List AV → Prop
  | [] => True
  | a :: as => lensOk a ∧ lensOkL as
end

theorem lensOkL_mem : ∀ {l : List AV}, lensOkL l ↔ ∀ a ∈ l, lensOk a
  | [] => by simp [lensOkL]
  | a :: as => by simp only [lensOkL, List.mem_cons, forall_eq_or_imp, lensOkL_mem (l := as)]

section
variable {w : World} {N : Nat → Prop} {P : Program}

theorem lensOk_cells {a : AV} (h : lensOkL a.cells) : lensOk a := by
  cases a <;> simp only [AV.cells, lensOkL, and_true] at h <;> first | exact h | (simp only [lensOk]; exact h)

mutual
theorem RepC.lens : ∀ {a : AV} {v : Value}, RepC w N a v → lensOk a
  | _, _, .hole _ => by simp [lensOk]
  | _, _, .int => by simp [lensOk]
  | _, _, .bool => by simp [lensOk]
  | _, _, .str _ => by simp [lensOk]
  | _, _, .nilp => by simp [lensOk]
  | _, _, .nilSl _ => by simp [lensOk, lensOkL]
  | _, _, .slE _ _ => by simp [lensOk, lensOkL]
  | _, _, .sl _ _ hc hm h => by
    have := RepE.lens h
    simp only [lensOk]
    exact ⟨Nat.le_trans hc hm, this⟩
  | _, _, .pro h => by
    have := RepL.lens h
    simpa only [lensOk] using this
  | _, _, .fn _ => by simp [lensOk]
theorem RepL.lens : ∀ {as : List AV} {g o : Nat}, RepL w N as g o → lensOkL as
  | _, _, _, .nil => by simp [lensOkL]
  | _, _, _, .cons _ _ h t => by
    simp only [lensOkL]
    exact ⟨RepC.lens h, RepL.lens t⟩
theorem RepE.lens : ∀ {sz : Nat} {as : List AV} {g o : Nat}, RepE w N sz as g o → lensOkL as
  | _, _, _, _, .nil => by simp [lensOkL]
  | _, _, _, _, .cons _ h t => by
    simp only [lensOkL]
    exact ⟨lensOk_cells (RepL.lens h), RepE.lens t⟩
end

theorem PureU.lens {a : AV} {v : Value} (h : PureU w N a v) : lensOk a := by
  cases a with
  | undef => simp [lensOk]
  | agg cs =>
    obtain ⟨vs, _, hc⟩ := h
    simp only [lensOk, lensOkL_mem]
    intro c hcm
    obtain ⟨i, hi, he⟩ := List.getElem_of_mem hcm
    obtain ⟨b, _, hb⟩ := hc.get (List.getElem?_eq_getElem hi)
    rw [he] at hb
    exact hb.lens
  | _ => simp only [PureU] at h; exact h.lens

theorem PureV.lens {a : AV} {v : Value} (h : PureV w N a v) : lensOk a := by
  cases a with
  | tup xs =>
    obtain ⟨vs, _, hc⟩ := h
    simp only [lensOk, lensOkL_mem]
    intro c hcm
    obtain ⟨i, hi, he⟩ := List.getElem_of_mem hcm
    obtain ⟨b, _, hb⟩ := hc.get (List.getElem?_eq_getElem hi)
    rw [he] at hb
    exact hb.lens
  | _ => simp only [PureV] at h; exact PureU.lens h

theorem Ok.lens {f : Nat} {args : List AV} {r : AV} (h : lensOkL args → Ok P f args r) : Ok P f args r := by
  intro w N vs hN ha
  refine h ?_ w N vs hN ha
  rw [lensOkL_mem]
  intro a hm
  obtain ⟨i, hi, he⟩ := List.getElem_of_mem hm
  obtain ⟨b, _, hb⟩ := ha.get (List.getElem?_eq_getElem hi)
  rw [he] at hb
  exact PureV.lens hb

theorem lensOk_encL {α : Type} {sz : Nat} {f : α → AV} {xs : List α} : lensOk (encL sz f xs) ↔ xs.length ≤ 9223372036854775807 ∧ ∀ x ∈ xs, lensOk (f x) := by
  unfold encL mksl
  simp only [lensOk, lensOkL_mem, List.length_map, List.mem_map, forall_exists_index, and_imp, forall_apply_eq_imp_iff₂]
  exact Iff.rfl
theorem lensOk_int {k : IntKind} {n : Int} : lensOk (.int k n) ↔ True := by simp [lensOk]
theorem lensOk_bool {b : Bool} : lensOk (.bool b) ↔ True := by simp [lensOk]
theorem lensOk_str {s : List UInt8} : lensOk (.str s) ↔ True := by simp [lensOk]
theorem lensOk_agg {cs : List AV} : lensOk (.agg cs) ↔ lensOkL cs := by simp [lensOk]
theorem lensOkL_nil : lensOkL [] ↔ True := by simp [lensOkL]
theorem lensOkL_cons {a : AV} {as : List AV} : lensOkL (a :: as) ↔ lensOk a ∧ lensOkL as := by simp [lensOkL]
end

/-! forms of a type, one by one -/
section
variable {P : Program} {t : TypeId} {n : Nat} {as : List AV}
theorem ty_int {k : IntKind} (hu : P.underlying t = some (.int k)) (h : TyN P n t as) : ∃ i, as = [.int k i] ∧ (Lit.int k i).wf = true := by
  cases n with
  | zero => exact h.elim
  | succ n => simpa only [TyN, hu] using h
theorem ty_str (hu : P.underlying t = some .string) (h : TyN P n t as) : ∃ s : List UInt8, as = [.str s] := by
  cases n with
  | zero => exact h.elim
  | succ n =>
    simp only [TyN, hu] at h
    obtain ⟨s, e, _⟩ := h
    exact ⟨s, e⟩
theorem ty_bool (hu : P.underlying t = some .bool) (h : TyN P n t as) : ∃ b, as = [.bool b] := by
  cases n with
  | zero => exact h.elim
  | succ n => simpa only [TyN, hu] using h
theorem map_dec {α : Type} {f : α → AV} {b : Bool} : ∀ {css : List (List AV)}, (∀ cs ∈ css, ∃ x, mkE b cs = f x) → ∃ xs : List α, css.map (mkE b) = xs.map f
  | [], _ => ⟨[], rfl⟩
  | c :: cs, h => by
    obtain ⟨x, hx⟩ := h c (by simp)
    obtain ⟨xs, hxs⟩ := map_dec (f := f) (b := b) (css := cs) fun d hd => h d (by simp [hd])
    exact ⟨x :: xs, by simp [hx, hxs]⟩
theorem ty_slice {e : TypeId} {sz : Nat} {b : Bool} {α : Type} (f : α → AV) (hu : P.underlying t = some (.slice e)) (hc : P.cellsOf e = sz) (hag : isAgg' P e = b)
    (dec : ∀ m cs, m < n → TyN P m e cs → ∃ x, mkE b cs = f x) (h : TyN P n t as) : ∃ xs : List α, as = [encL sz f xs] := by
  cases n with
  | zero => exact h.elim
  | succ n =>
    simp only [TyN, hu, hc, hag] at h
    obtain ⟨css, rfl, _, hall⟩ := h
    obtain ⟨xs, hxs⟩ := map_dec (f := f) (b := b) fun cs hcs => dec n cs (by omega) (hall cs hcs)
    exact ⟨xs, by rw [hxs]; rfl⟩
theorem ty_struct {fs : Array Field} {ts : List TypeId} (hu : P.underlying t = some (.struct fs)) (hf : fs.toList.map (·.type) = ts) (h : TyN P n t as) :
    ∃ m ass, m < n ∧ as = ass.flatten ∧ All2 (fun a t => TyN P m t a) ass ts := by
  cases n with
  | zero => exact h.elim
  | succ n =>
    simp only [TyN, hu, hf] at h
    obtain ⟨ass, e, h⟩ := h
    exact ⟨n, ass, by omega, e, h⟩
end

/-- Contracts, told one by one. -/
theorem tab_nil {P : Program} : TabOk P ⟨[], []⟩ := ⟨by intro c hc; simp at hc, by intro c hc; simp at hc⟩
theorem tab_cons {P : Program} {c : Ct} {s : List Ct} {h : List CtH} (hc : c.Ok P) (k : TabOk P ⟨s, h⟩) : TabOk P ⟨c :: s, h⟩ := by
  refine ⟨fun d hd => ?_, k.2⟩
  rcases List.mem_cons.1 hd with rfl | hd
  · exact hc
  · exact k.1 d hd
theorem tab_h {P : Program} {c : CtH} {s : List Ct} {h : List CtH} (hc : c.Ok P) (k : TabOk P ⟨s, h⟩) : TabOk P ⟨s, c :: h⟩ := by
  refine ⟨k.1, fun d hd => ?_⟩
  rcases List.mem_cons.1 hd with rfl | hd
  · exact hc
  · exact k.2 d hd
end Go.Vm

namespace Go.Vm
open Go.RowKit
section
variable {P : Program}
theorem OkH.of_cw' {f : Nat} {Fn : F} (hF : FOk P f Fn) {args : List AV} {H H' : List Blk} {r : AV} (h : CW P H.length Fn.c (retH Fn.rs r H') ⟨frame Fn.nt args, H⟩) : OkH P f args H r H' :=
  OkH.of_cw hF (cw_mono h fun _ st q => ⟨st, Weak.refl _ _, q⟩)
end
theorem all2_back {α β : Type} {R : α → β → Prop} : ∀ {as : List α} {bs : List β}, All2 R as bs → ∀ {i : Nat} {b : β}, bs[i]? = some b → ∃ a, as[i]? = some a ∧ R a b
  | _, _, .nil, i, b, h => by simp at h
  | _, _, .cons hh t, 0, b, h => by simp at h; subst h; exact ⟨_, by simp, hh⟩
  | _, _, .cons hh t, i + 1, b, h => by
    obtain ⟨a, h1, h2⟩ := all2_back t (i := i) (by simpa using h)
    exact ⟨a, by simpa using h1, h2⟩
/-- Slots given up. -/
def Less (x y : AV) : Prop := y = .undef ∨ y = x
theorem less_undef (x : AV) : Less x .undef := .inl rfl
theorem less_refl (x : AV) : Less x x := .inr rfl
theorem weak_slots {n0 : Nat} {t t' : List AV} {H : List Blk} (h : All2 Less t t') : Weak n0 ⟨t, H⟩ ⟨t', H⟩ := by
  intro B w μ a R S
  refine ⟨μ, R, ⟨S.1.trans h.length, fun i x hx => ?_⟩, ExtN.refl⟩
  obtain ⟨y, hy, hxy⟩ := all2_back h hx
  rcases hxy with rfl | rfl
  · exact trivial
  · exact S.2 i _ hy
theorem getH0 {α : Type} (H l : List α) : (H ++ l)[H.length]? = l[0]? := by rw [List.getElem?_append_right (Nat.le_refl _), Nat.sub_self]
theorem getHk {α : Type} (H l : List α) (k : Nat) : (H ++ l)[H.length + k]? = l[k]? := by rw [List.getElem?_append_right (by omega)]; congr 1; omega
theorem setH0 {α : Type} (H l : List α) (x : α) : (H ++ l).set H.length x = H ++ l.set 0 x := by rw [List.set_append_right _ _ (by omega)]; simp
theorem setHk {α : Type} (H l : List α) (k : Nat) (x : α) : (H ++ l).set (H.length + k) x = H ++ l.set k x := by rw [List.set_append_right _ _ (by omega)]; congr 2; omega
/-- A nil row becomes a row without elements. -/
theorem weak_row {n0 : Nat} {t : List AV} {H : List Blk} (b e sz : Nat) (h : H[b]? = some .nrow) : Weak n0 ⟨t, H⟩ ⟨t, H.set b (.row true e sz [])⟩ := by
  intro B w μ a R S
  have hlt := (List.getElem?_eq_some_iff.1 h).1
  let μ' : Mu := fun x => if x = b then none else μ x
  have hget : ∀ b' k, (H.set b (.row true e sz []))[b']? = some k → (b' = b ∧ k = .row true e sz []) ∨ (b' ≠ b ∧ H[b']? = some k) := by
    intro b' k hb
    by_cases he : b' = b
    · subst he
      rw [List.getElem?_set_self hlt] at hb
      cases hb
      exact .inl ⟨rfl, rfl⟩
    · rw [List.getElem?_set_ne (fun e => he e.symm)] at hb
      exact .inr ⟨he, hb⟩
  have hown : ∀ g, Owned (H.set b (.row true e sz [])) μ' g → Owned H μ g := by
    intro g ho
    obtain ⟨b', c, k, hm, hb, hk⟩ := owned_iff.1 ho
    rcases hget b' k hb with ⟨rfl, _⟩ | ⟨hne, hb'⟩
    · simp [μ'] at hm
    · simp only [μ', if_neg hne] at hm
      exact owned_iff.2 ⟨b', c, k, hm, hb', hk⟩
  have E : Ext B w H μ w (H.set b (.row true e sz [])) μ' := by
    refine ⟨fun g hg => ⟨⟨hg.1, hg.2.1, fun h => hg.2.2 (hown g h)⟩, rfl⟩, fun b' k hb => ?_⟩
    by_cases he : b' = b
    · subst he
      rw [h] at hb
      cases hb
      exact ⟨.row true e sz [], by rw [List.getElem?_set_self hlt], fun _ => by simp [μ']⟩
    · exact ⟨k, by rw [List.getElem?_set_ne (fun e => he e.symm)]; exact hb, Blk.turns_refl (by simp only [μ', if_neg he]) k⟩
  refine ⟨μ', ⟨R.below, R.n0, fun b' k hb => ?_, fun b1 b2 k k' g c c' hb hb' hk hk' hm hm' => ?_, fun b' k g c hb hk hm => ?_⟩, S.ext E, E.extN n0⟩
  · rcases hget b' k hb with ⟨rfl, rfl⟩ | ⟨hne, hb'⟩
    · exact ⟨by simp, .inl ⟨by simp [μ'], rfl⟩⟩
    · exact (R.blk b' k hb').carry E (fun _ => by simp only [μ', if_neg hne]) fun _ _ _ _ => rfl
  · rcases hget b1 k hb with ⟨rfl, rfl⟩ | ⟨hne, hb1⟩
    · simp [μ'] at hm
    · rcases hget b2 k' hb' with ⟨rfl, rfl⟩ | ⟨hne', hb2⟩
      · simp [μ'] at hm'
      · simp only [μ', if_neg hne, if_neg hne'] at hm hm'
        exact R.inj b1 b2 k k' g c c' hb1 hb2 hk hk' hm hm'
  · rcases hget b' k hb with ⟨rfl, rfl⟩ | ⟨hne, hb1⟩
    · simp [μ'] at hm
    · simp only [μ', if_neg hne] at hm
      exact R.own b' k g c hb1 hk hm
/-! A function that works on its caller's blocks: those of the caller name none of its own. -/
theorem belowR_mono {n m : Nat} (h : n ≤ m) {a : AV} (ha : belowR n a = true) : belowR m a = true := by
  cases a <;> simp_all [belowR] <;> omega
theorem belowC_mono {n m : Nat} (h : n ≤ m) {a : AV} (ha : belowC n a = true) : belowC m a = true := by
  cases a with
  | fn f caps =>
    simp only [belowC, List.all_eq_true] at ha ⊢
    exact fun x hx => belowR_mono h (ha x hx)
  | _ => simp only [belowC] at ha ⊢; exact belowR_mono h ha
theorem belowE_mono {n m : Nat} (h : n ≤ m) {a : AV} (ha : belowE n a = true) : belowE m a = true := by
  cases a with
  | agg cs =>
    simp only [belowE, List.all_eq_true] at ha ⊢
    exact fun x hx => belowC_mono h (ha x hx)
  | _ => simp only [belowE] at ha ⊢; exact belowC_mono h ha
theorem below_blk2 {B : Base} {w : World} {H : List Blk} {μ : Mu} {n : Nat} (hn : H.length ≤ n) {H2 : List Blk} {b : Nat} {k : Blk} (r : BlkOk B w H μ b k) : SlB n H2 k k := by
  cases k with
  | dead => trivial
  | nrow => trivial
  | cells cs =>
    obtain ⟨g, c, T, vs, h1, h2, h3⟩ := r
    exact all2_self fun x hx => .inr (.inl ⟨rfl, belowC_mono hn (below_As h3 x hx)⟩)
  | row ow e sz els =>
    refine ⟨fun h => h, rfl, rfl, .inl ⟨rfl, ?_⟩⟩
    obtain ⟨_, ⟨_, rfl⟩ | ⟨g, cap, cur, h1, h2, h3, h4, h5, h6⟩⟩ := r
    · rfl
    · simp only [belowEls, List.all_eq_true]
      intro x hx
      have hx' : ∀ c ∈ x.cells, belowC H.length c = true := fun c hc => below_As h6 c (by unfold flat; exact List.mem_flatMap.2 ⟨x, hx, hc⟩)
      refine belowE_mono hn ?_
      cases x with
      | agg cs => simpa [belowE, AV.cells] using hx'
      | _ => first | (simp [belowE, AV.cells]; done) | simpa [belowE, AV.cells] using hx'
/-- Blocks that name one another only. -/
def SelfB (H : List Blk) : Prop := ∀ n, H.length ≤ n → ∀ H2, All2 (SlB n H2) H H
theorem rel_self {B : Base} {w : World} {H : List Blk} {μ : Mu} (R : Rel B w H μ) : SelfB H := by
  intro n hn H2
  refine all2_self fun k hk => ?_
  obtain ⟨b, hb, rfl⟩ := List.mem_iff_getElem.1 hk
  exact below_blk2 hn (R.blk b _ (List.getElem?_eq_getElem hb))
section
variable {P : Program}
theorem OkH.of_self {f : Nat} {args : List AV} {H H' : List Blk} {r : AV} (h : SelfB H → OkH P f args H r H') : OkH P f args H r H' := by
  intro B w μ vs R ha
  exact h (rel_self R) B w μ vs R ha
end
theorem weak_sealH {n0 : Nat} (j : Nat) {H X X' : List Blk} {t t' : List AV} (hB : SelfB H) (hn : n0 ≤ H.length) (hX : All2 (SlB (H.length + j) (H ++ X)) (X.take j) X') (ht : All2 (SlV (H.length + j) (H ++ X)) t t') : Weak n0 ⟨t, H ++ X⟩ ⟨t', H ++ X'⟩ := by
  refine weak_seal (H.length + j) (by omega) ?_ ht
  rw [List.take_append, List.take_of_length_le (by omega), show H.length + j - H.length = j by omega]
  exact (hB _ (by omega) _).append hX
end Go.Vm

namespace Go.Vm
open Go.RowKit

mutual
/-- Blocks have other numbers. -/
def sh (n : Nat) : AV → AV
  | .slref b o l t => .slref (n + b) o l t
  | .pbox b o => .pbox (n + b) o
  | .prow b i o t => .prow (n + b) i o t
  | .agg cs => .agg (shL n cs)
  | .tup cs => .tup (shL n cs)
  | a => a
def shL (n : Nat) : List AV → List AV
  | [] => []
  | a :: as => sh n a :: shL n as
end
def shB (n : Nat) : Blk → Blk
  | .cells cs => .cells (shL n cs)
  | .row ow e sz els => .row ow e sz (shL n els)
  | k => k
mutual
/-- A value that says nothing of memory but of its own blocks. -/
def ownV : AV → Bool
  | .int .. | .bool _ | .str _ | .nilp | .hole => true
  | .sl _ _ [] => true
  | .slref .. | .pbox .. | .prow .. => true
  | .agg cs => ownVL cs
  | .tup cs => ownVL cs
  | _ => false
def ownVL : List AV → Bool
  | [] => true
  | a :: as => ownV a && ownVL as
end
def ownB : Blk → Bool
  | .cells cs => ownVL cs
  | .row _ _ _ els => ownVL els
  | _ => true

theorem shL_map (n : Nat) : ∀ l : List AV, shL n l = l.map (sh n)
  | [] => rfl
  | a :: as => by simp [shL, shL_map n as]
theorem ownVL_all : ∀ l : List AV, ownVL l = l.all ownV
  | [] => rfl
  | a :: as => by simp [ownVL, ownVL_all as]
theorem sh_cells (n : Nat) (a : AV) : (sh n a).cells = a.cells.map (sh n) := by
  cases a <;> simp [sh, AV.cells, shL_map]
theorem flat_sh (n : Nat) : ∀ els : List AV, flat (els.map (sh n)) = (flat els).map (sh n)
  | [] => rfl
  | a :: as => by simp only [List.map_cons, flat_cons, sh_cells, flat_sh n as, List.map_append]
theorem own_cells {a : AV} (h : ownV a = true) : ∀ c ∈ a.cells, ownV c = true := by
  cases a with
  | agg cs => simpa [ownV, ownVL_all, AV.cells] using h
  | _ => simpa [AV.cells] using h
theorem own_flat {els : List AV} (h : ∀ x ∈ els, ownV x = true) : ∀ c ∈ flat els, ownV c = true := by
  intro c hc
  simp only [flat, List.mem_flatMap] at hc
  obtain ⟨x, hx, hc⟩ := hc
  exact own_cells (h x hx) c hc
theorem All2.map2 {α β γ : Type} {R : α → β → Prop} {S : γ → β → Prop} {f : α → γ} : ∀ {as : List α} {bs : List β}, All2 R as bs → (∀ a ∈ as, ∀ b, R a b → S (f a) b) → All2 S (as.map f) bs
  | _, _, .nil, _ => .nil
  | _, _, .cons h t, k => .cons (k _ (by simp) _ h) (All2.map2 t fun a ha => k a (by simp [ha]))

section
variable {P : Program} {B B1 : Base} {w w' : World} {H H1 H2 : List Blk} {μ μ1 μ2 : Mu} {n : Nat}

theorem shB_live (k : Blk) : (shB n k).live = k.live := by cases k <;> rfl
theorem shB_owned (k : Blk) : (shB n k).owned = k.owned := by cases k <;> rfl

/-- The blocks behind the first ones are those of another heap. -/
structure Beyond (n : Nat) (H1 H2 : List Blk) (μ1 μ2 : Mu) : Prop where
  h : ∀ b k, H1[b]? = some k → H2[n + b]? = some (shB n k)
  m : ∀ b, μ2 (n + b) = μ1 b

theorem Beyond.repR (Y : Beyond n H1 H2 μ1 μ2) {a : AV} {v : Value} (ho : ownV a = true) (r : RepR B1 w H1 μ1 a v) : RepR B w H2 μ2 (sh n a) v := by
  refine ⟨r.1, ?_⟩
  have r2 := r.2
  cases a with
  | slref b off len tot =>
    simp only [RepR0, sh] at r2 ⊢
    cases hb : H1[b]? with
    | none => simp [hb] at r2
    | some k =>
      rw [Y.h b k hb, Y.m b]
      rw [hb] at r2
      cases k with
      | row ow e sz els => simp only [shB, shL_map, List.length_map] at r2 ⊢; exact r2
      | _ => exact r2
  | pbox b off =>
    simp only [RepR0, sh] at r2 ⊢
    cases hb : H1[b]? with
    | none => simp [hb] at r2
    | some k =>
      rw [Y.h b k hb, Y.m b]
      rw [hb] at r2
      cases k <;> exact r2
  | prow b i off tot =>
    simp only [RepR0, sh] at r2 ⊢
    cases hb : H1[b]? with
    | none => simp [hb] at r2
    | some k =>
      rw [Y.h b k hb, Y.m b]
      rw [hb] at r2
      cases k with
      | row ow e sz els => simp only [shB, shL_map, List.length_map] at r2 ⊢; exact r2
      | _ => exact r2
  | sl k sz l =>
    cases l with
    | cons _ _ => simp [ownV] at ho
    | nil =>
      simp only [RepR0, sh] at r2 ⊢
      cases r2 with
      | nilSl h => exact .nilSl h
      | slE hk hm => exact .slE hk hm
      | sl hk hn hc hm h => exact .sl hk hn hc hm .nil
  | int k n => simp only [RepR0, sh] at r2 ⊢; cases r2; constructor
  | bool b => simp only [RepR0, sh] at r2 ⊢; cases r2; constructor
  | str s => simp only [RepR0, sh] at r2 ⊢; cases r2; constructor; assumption
  | nilp => simp only [RepR0, sh] at r2 ⊢; cases r2; constructor
  | hole => simp only [RepR0, sh] at r2 ⊢; cases r2; constructor; assumption
  | tup cs => simp only [RepR0] at r2; cases r2
  | agg cs => simp only [RepR0] at r2; cases r2
  | _ => simp [ownV] at ho

theorem Beyond.repA (Y : Beyond n H1 H2 μ1 μ2) {a : AV} {v : Value} (ho : ownV a = true) (r : RepA B1 w H1 μ1 a v) : RepA B w H2 μ2 (sh n a) v := by
  cases a with
  | fn f caps => simp [ownV] at ho
  | _ => simp only [RepA] at r; exact (Y.repR ho r).repA

theorem Beyond.repAs (Y : Beyond n H1 H2 μ1 μ2) {as : List AV} {vs : List Value} (ho : ∀ a ∈ as, ownV a = true) (r : All2 (RepA B1 w H1 μ1) as vs) : All2 (RepA B w H2 μ2) (as.map (sh n)) vs :=
  r.map2 fun a ha b hab => Y.repA (ho a ha) hab

theorem Beyond.repU (Y : Beyond n H1 H2 μ1 μ2) {a : AV} {v : Value} (ho : ownV a = true) (r : RepU B1 w H1 μ1 a v) : RepU B w H2 μ2 (sh n a) v := by
  cases a with
  | undef => simp [ownV] at ho
  | agg cs =>
    obtain ⟨vs, rfl, hc⟩ := r
    refine ⟨vs, rfl, ?_⟩
    rw [shL_map]
    exact Y.repAs (by simpa [ownV, ownVL_all] using ho) hc
  | tup cs => exact absurd (show RepC w (Imm B1 w H1 μ1) (.tup cs) v from by simp only [RepU, RepA] at r; exact r.2) (by intro h; cases h)
  | _ => simp only [RepU] at r; exact Y.repA ho r

theorem Beyond.repV (Y : Beyond n H1 H2 μ1 μ2) {a : AV} {v : Value} (ho : ownV a = true) (r : RepV B1 w H1 μ1 a v) : RepV B w H2 μ2 (sh n a) v := by
  cases a with
  | tup cs =>
    obtain ⟨vs, rfl, hc⟩ := r
    refine ⟨vs, rfl, ?_⟩
    rw [shL_map]
    have ho : ∀ a ∈ cs, ownV a = true := by simpa [ownV, ownVL_all] using ho
    exact hc.map2 fun a ha b hab => Y.repU (ho a ha) hab
  | agg cs => exact Y.repU (a := .agg cs) ho r
  | undef => simp [ownV] at ho
  | _ => simp only [RepV] at r; exact Y.repU ho r

theorem Beyond.blk (Y : Beyond n H1 H2 μ1 μ2) {b : Nat} {k : Blk} (ho : ownB k = true) (r : BlkOk B1 w H1 μ1 b k) : BlkOk B w H2 μ2 (n + b) (shB n k) := by
  cases k with
  | dead => trivial
  | nrow => trivial
  | cells cs =>
    obtain ⟨g, c, T, vs, h1, h2, h3⟩ := r
    refine ⟨g, c, T, vs, (Y.m b).trans h1, h2, ?_⟩
    rw [shL_map]
    exact Y.repAs (by simpa [ownB, ownVL_all] using ho) h3
  | row ow e sz els =>
    have ho : ∀ x ∈ els, ownV x = true := by simpa [ownB, ownVL_all] using ho
    obtain ⟨h0, h1⟩ := r
    simp only [shB, BlkOk, shL_map]
    refine ⟨fun x hx => ?_, ?_⟩
    · obtain ⟨y, hy, rfl⟩ := List.mem_map.1 hx
      rw [sh_cells, List.length_map]; exact h0 y hy
    · rcases h1 with ⟨h1, rfl⟩ | ⟨g, cap, cur, h1, h2, h3, h4, h5, h6⟩
      · exact .inl ⟨(Y.m b).trans h1, rfl⟩
      · refine .inr ⟨g, cap, cur, (Y.m b).trans h1, h2, by simpa using h3, h4, h5, ?_⟩
        rw [flat_sh, List.length_map]
        exact Y.repAs (own_flat ho) h6

/-- What a call makes lies behind what was there. -/
theorem Rel.beyond (R : Rel B w H μ) {N : Nat → Prop} (hb : Below w.heap.size w w') (R1 : Rel ⟨w, N⟩ w' H1 μ1) (ho : ∀ k ∈ H1, ownB k = true) :
    ∃ μ2, Rel B w' (H ++ H1.map (shB H.length)) μ2 ∧ Ext B w H μ w' (H ++ H1.map (shB H.length)) μ2 ∧ Beyond H.length H1 (H ++ H1.map (shB H.length)) μ1 μ2 := by
  let μ2 : Mu := fun b => if b < H.length then μ b else μ1 (b - H.length)
  have hm1 : ∀ b, μ2 (H.length + b) = μ1 b := fun b => by simp only [μ2]; rw [if_neg (by omega)]; congr 1; omega
  have hget : ∀ b k, (H ++ H1.map (shB H.length))[b]? = some k → (b < H.length ∧ H[b]? = some k ∧ μ2 b = μ b) ∨ ∃ b' k', b = H.length + b' ∧ H1[b']? = some k' ∧ k = shB H.length k' := by
    intro b k hk
    rcases Nat.lt_or_ge b H.length with hlt | hge
    · rw [List.getElem?_append_left hlt] at hk
      exact .inl ⟨hlt, hk, by simp [μ2, hlt]⟩
    · rw [List.getElem?_append_right hge, List.getElem?_map] at hk
      obtain ⟨k', h1, h2⟩ := Option.map_eq_some_iff.1 hk
      exact .inr ⟨b - H.length, k', by omega, h1, h2.symm⟩
  have Y : Beyond H.length H1 (H ++ H1.map (shB H.length)) μ1 μ2 := ⟨fun b k hk => by rw [getHk, List.getElem?_map, hk]; rfl, hm1⟩
  have hown : ∀ g, g < w.heap.size → Owned (H ++ H1.map (shB H.length)) μ2 g → Owned H μ g := by
    intro g hg hO
    obtain ⟨b, c, k, hm, hk, hko⟩ := owned_iff.1 hO
    rcases hget b k hk with ⟨_, hk', hmb⟩ | ⟨b', k', rfl, hk', rfl⟩
    · rw [hmb] at hm
      exact owned_iff.2 ⟨b, c, k, hm, hk', hko⟩
    · rw [hm1] at hm
      rw [shB_owned] at hko
      have := R1.own b' k' g c hk' (Blk.live_of_owned hko) hm
      simp only at this
      omega
  have E : Ext B w H μ w' (H ++ H1.map (shB H.length)) μ2 := by
    refine ⟨fun g hg => ⟨⟨hg.1, Nat.lt_of_lt_of_le hg.2.1 hb.size, fun h => hg.2.2 (hown g hg.2.1 h)⟩, hb.block g hg.2.1⟩, fun b k hk => ?_⟩
    have hlt : b < H.length := (List.getElem?_eq_some_iff.1 hk).1
    exact ⟨k, by rw [List.getElem?_append_left hlt]; exact hk, Blk.turns_refl (by simp [μ2, hlt]) k⟩
  refine ⟨μ2, ⟨R.below.trans (hb.mono R.size), R.n0, fun b k hk => ?_, fun b b' k k' g c c' hk hk' hl hl' hm hm' => ?_, fun b k g c hk hl hm => ?_⟩, E, Y⟩
  · rcases hget b k hk with ⟨_, hk', hmb⟩ | ⟨b', k', rfl, hk', rfl⟩
    · exact (R.blk b k hk').carry E (fun _ => hmb) fun g c hl hmg => hb.block g ((R.blk b k hk').lt hl hmg)
    · exact Y.blk (ho k' (List.mem_of_getElem? hk')) (R1.blk b' k' hk')
  · rcases hget b k hk with ⟨_, h1, m1⟩ | ⟨d, kd, rfl, h1, rfl⟩
    · rw [m1] at hm
      rcases hget b' k' hk' with ⟨_, h2, m2⟩ | ⟨d', kd', rfl, h2, rfl⟩
      · rw [m2] at hm'
        exact R.inj b b' k k' g c c' h1 h2 hl hl' hm hm'
      · rw [hm1] at hm'
        rw [shB_live] at hl'
        have q1 := R1.own d' kd' g c' h2 hl' hm'
        have q2 := (R.blk b k h1).lt hl hm
        simp only at q1
        omega
    · rw [hm1] at hm
      rw [shB_live] at hl
      rcases hget b' k' hk' with ⟨_, h2, m2⟩ | ⟨d', kd', rfl, h2, rfl⟩
      · rw [m2] at hm'
        have q1 := R1.own d kd g c h1 hl hm
        have q2 := (R.blk b' k' h2).lt hl' hm'
        simp only at q1
        omega
      · rw [hm1] at hm'
        rw [shB_live] at hl'
        rw [R1.inj d d' kd kd' g c c' h1 h2 hl hl' hm hm']
  · rcases hget b k hk with ⟨_, h1, m1⟩ | ⟨d, kd, rfl, h1, rfl⟩
    · rw [m1] at hm
      exact R.own b k g c h1 hl hm
    · rw [hm1] at hm
      rw [shB_live] at hl
      exact Nat.le_trans R.size (R1.own d kd g c h1 hl hm)

/-- A function that is told over no blocks, called with what is lent. -/
theorem OkH.fresh {f : Nat} {args pargs : List AV} {r : AV} (ok : OkH P f pargs [] r H1) (hr : ownV r = true) (ho : ∀ k ∈ H1, ownB k = true) (hl : lendAll (fun _ _ => true) H args = some pargs) :
    OkH P f args H (sh H.length r) (H ++ H1.map (shB H.length)) := by
  intro B w μ vs R ha
  have L := fun n => lends R (N := fun g => g < w.heap.size) (m := fun _ _ => true) (fun g hg => hg.2.1) (fun b k g c hb hk _ hm => (R.blk b k hb).lt hk hm) n
  have hp := lendAll_sound L hl ha
  refine (ok ⟨w, fun g => g < w.heap.size⟩ w (fun _ => none) vs (rel0 w fun _ h => h) (hp.mono fun _ _ h => PureV.rep0 (fun _ h => h) h)).mono ?_
  rintro e w' ⟨v, μ1, rfl, R1, _, hv⟩
  obtain ⟨μ2, R2, E2, Y⟩ := R.beyond R1.below R1 ho
  exact ⟨v, μ2, rfl, R2, E2, Y.repV hr hv⟩

/-- What is told with its blocks, told without. -/
theorem Ok.of_okH {f : Nat} {args : List AV} {r r' : AV} (ok : OkH P f args [] r H1) (hl : lend (fun _ _ => true) H1 r = some r') : Ok P f args r' := by
  intro w N vs hN ha
  refine (ok ⟨w, N⟩ w (fun _ => none) vs (rel0 w hN) (ha.mono fun _ _ h => PureV.rep0 hN h)).mono ?_
  rintro e w' ⟨v, μ1, rfl, R1, _, hv⟩
  have L := fun n => lends R1 (N := fun g => N g ∨ (w.heap.size ≤ g ∧ g < w'.heap.size)) (m := fun _ _ => true)
      (fun g hg => hg.1.elim (fun h => .inl h) fun h => .inr ⟨h, hg.2.1⟩)
      (fun b k g c hb hk _ hm => .inr ⟨R1.own b k g c hb hk hm, (R1.blk b k hb).lt hk hm⟩) n
  exact ⟨v, rfl, R1.below, lend_sound L hl hv⟩

def lendT (m : Nat → Blk → Bool) (H : List Blk) : AV → Option AV
  | .tup xs => (lendAll m H xs).map .tup
  | a => lend m H a
theorem Ok.of_okHT {f : Nat} {args : List AV} {xs ys : List AV} (ok : OkH P f args [] (.tup xs) H1) (hl : lendAll (fun _ _ => true) H1 xs = some ys) : Ok P f args (.tup ys) := by
  intro w N vs hN ha
  refine (ok ⟨w, N⟩ w (fun _ => none) vs (rel0 w hN) (ha.mono fun _ _ h => PureV.rep0 hN h)).mono ?_
  rintro e w' ⟨v, μ1, rfl, R1, _, us, rfl, hv⟩
  have L := fun n => lends R1 (N := fun g => N g ∨ (w.heap.size ≤ g ∧ g < w'.heap.size)) (m := fun _ _ => true)
      (fun g hg => hg.1.elim (fun h => .inl h) fun h => .inr ⟨h, hg.2.1⟩)
      (fun b k g c hb hk _ hm => .inr ⟨R1.own b k g c hb hk hm, (R1.blk b k hb).lt hk hm⟩) n
  refine ⟨_, rfl, R1.below, us, rfl, ?_⟩
  have : ∀ {xs ys : List AV} {us : List Value}, lendAll (fun _ _ => true) H1 xs = some ys → All2 (RepU ⟨w, N⟩ w' H1 μ1) xs us →
      All2 (PureU w' (fun g => N g ∨ (w.heap.size ≤ g ∧ g < w'.heap.size))) ys us := by
    intro xs
    induction xs with
    | nil => intro ys us h r; simp only [lendAll, Option.some.injEq] at h; subst h; cases r; exact .nil
    | cons x xs ih =>
      intro ys us h r
      simp only [lendAll] at h
      split at h
      · rename_i c' cs' h1 h2
        simp only [Option.some.injEq] at h; subst h
        cases r with
        | cons r t =>
          have hx : ∀ zs, x ≠ .tup zs := by
            rintro zs rfl
            exact absurd (show RepC _ _ (.tup zs) _ from by simp only [RepU, RepA] at r; exact r.2) (by intro h; cases h)
          have rv : RepV ⟨w, N⟩ w' H1 μ1 x _ := r.repV hx
          exact .cons ((lend_sound L h1 rv).pureU fun xs e => lend_tup (e ▸ h1) L rv) (ih h2 t)
      · cases h
  exact this hl hv

/-- What is told of a slice with no word of nil: of each of both kinds. -/
theorem PureU_any {N : Nat → Prop} {v : Value} {sz : Nat} (h : PureV w N (.sl .any sz []) v) : PureV w N (.sl .nil sz []) v ∨ PureV w N (.sl .non sz []) v := by
  simp only [PureV, PureU] at h ⊢
  cases h with
  | nilSl _ => exact .inl (.nilSl (by simp))
  | slE _ hm => exact .inr (.slE (by simp) hm)
  | sl hk hn hc hm h => exact .inr (.sl (by simp) hn hc hm .nil)

end

/-- What is known of a function whose result lies in blocks of its own. -/
structure CtN where
  f : Nat
  α : Type
  pre : α → Prop
  args : α → List AV
  res : α → AV
  new : α → List Blk

structure CtN.Ok (P : Program) (c : CtN) : Prop where
  ok : ∀ x, c.pre x → OkH P c.f (c.args x) [] (c.res x) (c.new x)
  res : ∀ x, c.pre x → ownV (c.res x) = true
  new : ∀ x, c.pre x → ∀ k ∈ c.new x, ownB k = true

/-- Its contract for a caller with blocks. -/
@[simp] def CtN.h (c : CtN) : CtH := ⟨c.f, c.α × List AV, fun x H => lendAll (fun _ _ => true) H x.2 = some (c.args x.1) ∧ c.pre x.1, fun x => x.2, fun x H => sh H.length (c.res x.1), fun x H => H ++ (c.new x.1).map (shB H.length)⟩
theorem CtN.hok {P : Program} {c : CtN} (h : c.Ok P) : c.h.Ok P := by
  rintro ⟨x, vs⟩ H ⟨h2, h1⟩
  exact (h.ok x h1).fresh (h.res x h1) (h.new x h1) h2

@[simp] theorem sh_int {n : Nat} {k : IntKind} {i : Int} : sh n (.int k i) = .int k i := by simp [sh]
@[simp] theorem sh_bool {n : Nat} {b : Bool} : sh n (.bool b) = .bool b := by simp [sh]
@[simp] theorem sh_str {n : Nat} {s : List UInt8} : sh n (.str s) = .str s := by simp [sh]
@[simp] theorem sh_sl {n : Nat} {k : Nk} {sz : Nat} {l : List AV} : sh n (.sl k sz l) = .sl k sz l := by simp [sh]
@[simp] theorem sh_slref {n b o l t : Nat} : sh n (.slref b o l t) = .slref (n + b) o l t := by simp [sh]
@[simp] theorem sh_agg {n : Nat} {cs : List AV} : sh n (.agg cs) = .agg (shL n cs) := by simp [sh]
@[simp] theorem sh_tup {n : Nat} {cs : List AV} : sh n (.tup cs) = .tup (shL n cs) := by simp [sh]
@[simp] theorem shL_nil {n : Nat} : shL n [] = [] := by simp [shL]
@[simp] theorem shL_cons {n : Nat} {a : AV} {as : List AV} : shL n (a :: as) = sh n a :: shL n as := by simp [shL]
@[simp] theorem shB_dead {n : Nat} : shB n .dead = .dead := by simp [shB]
@[simp] theorem shB_nrow {n : Nat} : shB n .nrow = .nrow := by simp [shB]
@[simp] theorem shB_cells {n : Nat} {cs : List AV} : shB n (.cells cs) = .cells (shL n cs) := by simp [shB]
@[simp] theorem shB_row {n : Nat} {ow : Bool} {e sz : Nat} {els : List AV} : shB n (.row ow e sz els) = .row ow e sz (shL n els) := by simp [shB]
@[simp] theorem shL_ints {n : Nat} {xs : List Int} : shL n (xs.map encInt) = xs.map encInt := by
  rw [shL_map, List.map_map]; congr 1
@[simp] theorem ownVL_ints {xs : List Int} : ownVL (xs.map encInt) = true := by
  rw [ownVL_all]; simp only [List.all_eq_true, List.mem_map]; rintro _ ⟨x, _, rfl⟩; rfl
end Go.Vm
