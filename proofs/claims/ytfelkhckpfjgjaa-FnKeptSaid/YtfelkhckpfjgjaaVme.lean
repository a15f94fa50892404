/- A machine of plain values, part e: what the program's operations do, told of plain values. It holds over any program; no condition. -/
import Derived.Test.YtfelkhckpfjgjaaVmd
import Derived.WalkKit
import Derived.ProofKit
import Derived.OpenShut
import Derived.ShutString
import Derived.ChangeOld
import Derived.Below
import Derived.SizedLaws
import Derived.Carry
set_option linter.unusedSimpArgs false
set_option linter.unusedVariables false
namespace Go.Vm
open Go.RowKit
def isAgg' (P : Program) (t : TypeId) : Bool :=
  match P.underlying t with
  | some (.struct _) => true
  | _ => false
def mkE (agg : Bool) (cs : List AV) : AV := if agg then .agg cs else cs.headD .hole
def TyN (P : Program) : Nat → TypeId → List AV → Prop
  | 0, _, _ => False
  | n + 1, t, as => match P.underlying t with
    | some .bool => ∃ b, as = [.bool b]
    | some (.int k) => ∃ i, as = [.int k i] ∧ (Lit.int k i).wf = true
    | some .string => ∃ s : List UInt8, as = [.str s] ∧ s.length ≤ maxLen
    | some (.slice e) => ∃ css : List (List AV), as = [mksl (P.cellsOf e) (css.map (mkE (isAgg' P e)))] ∧ css.length ≤ maxLen ∧ ∀ cs ∈ css, TyN P n e cs
    | some (.struct fs) => ∃ ass : List (List AV), as = ass.flatten ∧ All2 (fun a t => TyN P n t a) ass (fs.toList.map (·.type))
    | _ => False
def contigB (P : Program) : Nat → Nat → List Field → Bool
  | n, o, [] => o == n
  | n, o, f :: fs => f.offset == o && contigB P n (o + P.cellsOf f.type) fs
def plainB (P : Program) (T : List TypeId) : Bool :=
  T.all fun t => match P.underlying t with
    | some .bool | some (.int _) | some .string => P.cellsOf t == 1
    | some (.slice e) => T.contains e && decide (0 < P.cellsOf e) && P.cellsOf t == 1
    | some (.struct fs) => (fs.toList.all fun f => T.contains f.type) && contigB P (P.cellsOf t) 0 fs.toList
    | _ => false
section
variable {H : Type} {enc : TypeId × Value → H} {P : Program} {w : World} {sp : Nat → Bool} {T : List TypeId}
theorem mapM_all2 {α β : Type} {f : α → Option β} : ∀ {as : List α} {bs : List β}, as.mapM f = some bs → All2 (fun a b => f a = some b) as bs
  | [], bs, h => by simp at h; subst h; exact .nil
  | a :: as, bs, h => by
    simp only [List.mapM_cons, Option.bind_eq_bind, Option.bind_eq_some_iff] at h
    obtain ⟨b, hb, cs, hc, he⟩ := h
    simp only [Option.pure_def, Option.some.injEq] at he
    subst he
    exact .cons hb (mapM_all2 hc)
theorem cells_get {a : Addr} {n : Nat} {vs : List Value} (h : w.cells? 0 a n = some vs) : vs.length = n ∧ ∀ (j : Nat) (v : Value), vs[j]? = some v → w.cell? (a.add j) = some v := by
  unfold World.cells? at h
  rw [if_pos (Nat.zero_le _)] at h
  have h1 := mapM_all2 h
  refine ⟨by rw [← h1.length]; simp, fun j v hv => ?_⟩
  obtain ⟨k, hk, hkv⟩ := h1.get_r hv
  rw [List.getElem?_range (by have := (List.getElem?_eq_some_iff.1 hv).1; rw [← h1.length] at this; simpa using this)] at hk
  cases hk
  exact hkv
theorem cell_spot {a : Addr} {v : Value} (h : w.cell? a = some v) : a.spot = none ∧ a.block < w.heap.size := by
  unfold World.cell? at h
  split at h
  · rename_i c _ _ hb
    split at h
    · cases h
    · rename_i hs
      refine ⟨by cases e : a.spot <;> simp_all, (Array.getElem?_eq_some_iff.1 hb).1⟩
  · cases h
theorem mkE_cells {agg : Bool} {cs : List AV} {vs : List Value} {N : Nat → Prop} (h : All2 (RepC w N) cs vs) (h1 : agg = false → cs.length = 1) : (mkE agg cs).cells = cs := by
  cases agg with
  | true => rfl
  | false =>
    match cs, h1 rfl with
    | [c], _ => cases h with | cons h t => exact h.cells1
def TypeDesc.isStruct : TypeDesc → Bool
  | .struct _ => true
  | _ => false
theorem isAgg_eq {t : TypeId} {d : TypeDesc} (hu : P.underlying t = some d) : isAgg' P t = TypeDesc.isStruct d := by
  unfold isAgg'; rw [hu]; cases d <;> rfl
theorem trod_ty (hT : plainB P T = true) : ∀ (n : Nat) (t : TypeId) (cs : List Value) (x : DataW H × List MemPlace), t ∈ T → DataW.trod enc P w 0 sp true n t cs = some x →
    ∃ as, All2 (RepC w (fun g => g < w.heap.size)) as cs ∧ TyN P n t as ∧ cs.length = P.cellsOf t ∧ (isAgg' P t = false → cs.length = 1) := by
  intro n
  induction n with
  | zero => intro t cs x _ h; simp [DataW.trod] at h
  | succ n ih =>
    intro t cs x ht h
    have hp := List.all_eq_true.1 hT t ht
    have hsome : ∃ d, P.underlying t = some d := by
      cases hu : P.underlying t with
      | none => simp [hu] at hp
      | some d => exact ⟨d, rfl⟩
    obtain ⟨d, hu⟩ := hsome
    have hag := isAgg_eq hu
    rw [hag]
    simp only [TyN, hu] at hp ⊢
    cases d with
    | bool =>
      simp only at hp ⊢
      obtain ⟨b, rfl, _⟩ := DataW.trod_bool hu h
      exact ⟨[.bool b], .cons .bool .nil, ⟨b, rfl⟩, (by simpa using (eq_of_beq hp).symm), fun _ => rfl⟩
    | int k =>
      simp only at hp ⊢
      obtain ⟨i, rfl, _, hw⟩ := DataW.trod_int hu h
      exact ⟨[.int k i], .cons .int .nil, ⟨i, rfl, hw⟩, (by simpa using (eq_of_beq hp).symm), fun _ => rfl⟩
    | string =>
      simp only at hp ⊢
      obtain ⟨s, rfl, _, hw⟩ := DataW.trod_string hu h
      exact ⟨[.str s.data.toList], .cons (.str rfl) .nil, ⟨_, rfl, by simpa using hw⟩, (by simpa using (eq_of_beq hp).symm), fun _ => rfl⟩
    | slice e =>
      simp only [Bool.and_eq_true, decide_eq_true_eq] at hp ⊢
      obtain ⟨⟨he, hpos⟩, hc1⟩ := hp
      have he : e ∈ T := by simpa using he
      rcases DataW.trod_slice hu h with ⟨rfl, _⟩ | ⟨a, len, cap, elems, rest, m, hm, rfl, _, _, hlc, hcm, hel, heach, _, _⟩
      · refine ⟨[mksl (P.cellsOf e) []], .cons (.nilSl (by simp)) .nil, ⟨[], rfl, by simp, by simp⟩, (by simpa using (eq_of_beq hc1).symm), fun _ => rfl⟩
      · obtain rfl : m = n := by omega
        have each : ∀ i, i < len → ∃ vs as, w.cells? 0 (a.add (i * P.cellsOf e)) (P.cellsOf e) = some vs ∧ All2 (RepC w (fun g => g < w.heap.size)) as vs ∧ TyN P m e as ∧ (isAgg' P e = false → vs.length = 1) := by
          intro i hi
          have h1 := heach i hi
          rw [List.getElem?_eq_getElem (by omega)] at h1
          obtain ⟨vs, h2, h3⟩ := Option.bind_eq_some_iff.1 h1
          obtain ⟨as, h4, h5, _, h6⟩ := ih e vs _ he h3
          exact ⟨vs, as, h2, h4, h5, h6⟩
        have hspot : 0 < len → a.spot = none := by
          intro hl
          obtain ⟨vs, as, h2, _⟩ := each 0 hl
          obtain ⟨g1, g2⟩ := cells_get h2
          have := (cell_spot (g2 0 vs[0] (List.getElem?_eq_getElem (by omega)))).1
          simpa [Addr.add] using this
        have build : ∀ (k i : Nat), i + k = len → ∃ css : List (List AV), css.length = k ∧ (∀ cs ∈ css, TyN P m e cs) ∧ (0 < k → a.spot = none) ∧ (∀ x ∈ css.map (mkE (isAgg' P e)), x.cells.length = P.cellsOf e) ∧
            RepE w (fun g => g < w.heap.size) (P.cellsOf e) (css.map (mkE (isAgg' P e))) a.block (a.off + i * P.cellsOf e) := by
          intro k
          induction k with
          | zero => intro i _; exact ⟨[], rfl, by simp, by simp, by simp, .nil⟩
          | succ k ihk =>
            intro i hik
            obtain ⟨css, c1, c2, c3, c4, c5⟩ := ihk (i + 1) (by omega)
            obtain ⟨vs, as, h2, h4, h5, h6⟩ := each i (by omega)
            obtain ⟨g1, g2⟩ := cells_get h2
            have hv0 : vs[0]? = some vs[0] := List.getElem?_eq_getElem (by omega)
            obtain ⟨s1, s2⟩ := cell_spot (g2 0 _ hv0)
            have hmk : (mkE (isAgg' P e) as).cells = as := mkE_cells h4 fun h => by rw [h4.length]; exact h6 h
            have hlen : as.length = P.cellsOf e := by rw [h4.length, g1]
            have s3 := hspot (by omega)
            refine ⟨as :: css, by simp [c1], ?_, fun _ => s3, ?_, ?_⟩
            · intro cs hcs
              rcases List.mem_cons.1 hcs with rfl | hcs
              · exact h5
              · exact c2 cs hcs
            · intro x hx
              rw [List.map_cons] at hx
              rcases List.mem_cons.1 hx with rfl | hx
              · rw [hmk, hlen]
              · exact c4 x hx
            · rw [List.map_cons]
              refine .cons (by rw [hmk, hlen]) ?_ (by rwa [show a.off + i * P.cellsOf e + P.cellsOf e = a.off + (i + 1) * P.cellsOf e by rw [Nat.add_mul]; omega])
              rw [hmk]
              obtain ⟨ab, ao, asp⟩ := a
              simp only at s3
              subst s3
              simp only [Addr.add_lit] at s2 g2
              exact RepL.of_all ab s2 _ h4 g2
        obtain ⟨css, c1, c2, c3, c4, c5⟩ := build len 0 (by omega)
        refine ⟨[mksl (P.cellsOf e) (css.map (mkE (isAgg' P e)))], .cons ?_ .nil, ⟨css, rfl, by omega, c2⟩, (by simpa using (eq_of_beq hc1).symm), fun _ => rfl⟩
        refine RepC.mksl (k := .any) ?_
        cases len with
        | zero =>
          have : css = [] := List.eq_nil_of_length_eq_zero c1
          subst this
          exact .slE (by simp) hcm
        | succ len =>
          have hs := c3 (by omega)
          obtain ⟨ab, ao, asp⟩ := a
          simp only at hs
          subst hs
          refine .sl (by simp) (by simp [c1]) (by simp [c1]; omega) hcm (by simpa using c5)
    | struct fs =>
      simp only [Bool.and_eq_true] at hp ⊢
      obtain ⟨hTs, hcontig⟩ := hp
      obtain ⟨xs, m, hm, _, hlen, hxl, heach⟩ := DataW.trod_struct hu h
      obtain rfl : m = n := by omega
      have walk : ∀ (fl : List Field) (o : Nat), contigB P (P.cellsOf t) o fl = true → (∀ f ∈ fl, f ∈ fs.toList) → o ≤ cs.length →
          ∃ ass : List (List AV), All2 (fun a t => TyN P m t a) ass (fl.map (·.type)) ∧ All2 (RepC w (fun g => g < w.heap.size)) ass.flatten (cs.drop o) := by
        intro fl
        induction fl with
        | nil =>
          intro o ho _ _
          simp only [contigB, beq_iff_eq] at ho
          refine ⟨[], .nil, ?_⟩
          rw [List.drop_of_length_le (by omega)]
          exact .nil
        | cons f fl ihf =>
          intro o ho hmem hol
          simp only [contigB, Bool.and_eq_true, beq_iff_eq] at ho
          obtain ⟨rfl, ho⟩ := ho
          have hf := hmem f (by simp)
          obtain ⟨i, hi, hfi⟩ := List.getElem_of_mem hf
          have hi' : fs[i]? = some f := by
            rw [← Array.getElem?_toList, List.getElem?_eq_getElem hi, hfi]
          have h1 := heach i f hi'
          rw [List.getElem?_eq_getElem (by rw [hxl]; simpa using hi)] at h1
          have hft : f.type ∈ T := by
            have := List.all_eq_true.1 hTs f hf
            simpa using this
          obtain ⟨as, h4, h5, h6, _⟩ := ih f.type _ _ hft h1
          have h6' : f.offset + P.cellsOf f.type ≤ cs.length := by
            simp only [List.length_take, List.length_drop] at h6
            have : 0 < P.cellsOf f.type ∨ P.cellsOf f.type = 0 := by omega
            omega
          obtain ⟨ass, k1, k2⟩ := ihf (f.offset + P.cellsOf f.type) ho (fun g hg => hmem g (by simp [hg])) h6'
          refine ⟨as :: ass, .cons h5 k1, ?_⟩
          rw [List.flatten_cons]
          have := h4.append k2
          rwa [← List.drop_drop, List.take_append_drop] at this
      obtain ⟨ass, k1, k2⟩ := walk fs.toList 0 hcontig (fun f hf => hf) (Nat.zero_le _)
      rw [List.drop_zero] at k2
      exact ⟨ass.flatten, k2, ⟨ass, rfl, k1⟩, hlen, fun h => by cases h⟩
    | _ => simp at hp
end
end Go.Vm
namespace Go.Vm
open Go.RowKit Go.ChangeShapes Go.WideShapes Go.ChangeAt
def argE (P : Program) : List (List AV) → List TypeId → List AV
  | as :: ass, t :: ts => mkE (isAgg' P t) as :: argE P ass ts
  | _, _ => []
section
variable {H : Type} {enc : TypeId × Value → H} {P : Program} {w : World} {T : List TypeId}
theorem arg_pure (hT : plainB P T = true) {t : TypeId} (ht : t ∈ T) {r : Reach} {b : Nat} {v : Value} {d : DataW H} {ps : List MemPlace} (hv : Value.okWide P w r b t v) (h : DataW.Trod enc P w 0 (fun _ => true) true t v d ps) :
    ∃ n as, TyN P n t as ∧ PureV w (fun g => g < w.heap.size) (mkE (isAgg' P t) as) v := by
  obtain ⟨n, hn⟩ := h
  obtain ⟨as, h1, h2, h3, h4⟩ := trod_ty hT n t _ _ ht hn
  refine ⟨n, as, h2, ?_⟩
  have hp := List.all_eq_true.1 hT t ht
  unfold Value.okWide at hv
  cases hu : P.underlying t with
  | none => simp [hu] at hp
  | some dd =>
    have hag := isAgg_eq hu
    simp only [hu] at hp hv
    have one : isAgg' P t = false → v.cells.toList = [v] → PureV w (fun g => g < w.heap.size) (mkE (isAgg' P t) as) v := by
      intro e hc
      rw [hc] at h1
      rw [e]
      cases h1 with
      | cons h1 t1 =>
        cases t1
        exact lendC_cell h1
    cases dd with
    | struct fs =>
      obtain ⟨cs, rfl, _⟩ := hv
      rw [show isAgg' P t = true by rw [hag]; rfl]
      exact ⟨cs, rfl, by simpa [Value.cells] using h1⟩
    | bool =>
      obtain ⟨x, hx, _⟩ := DataW.trod_bool hu hn
      refine one (by rw [hag]; rfl) ?_
      cases v <;> simp_all [Value.cells, Cell.okWide, Cell.ok]
    | int k =>
      obtain ⟨x, hx, _⟩ := DataW.trod_int hu hn
      refine one (by rw [hag]; rfl) ?_
      cases v <;> simp_all [Value.cells, Cell.okWide, Cell.ok]
    | string =>
      obtain ⟨x, hx, _⟩ := DataW.trod_string hu hn
      refine one (by rw [hag]; rfl) ?_
      cases v <;> simp_all [Value.cells, Cell.okWide, Cell.ok]
    | slice e =>
      refine one (by rw [hag]; rfl) ?_
      cases v <;> simp_all [Value.cells, Cell.okWide, Cell.ok]
    | _ => simp at hp
theorem args_pure (hT : plainB P T = true) {r : Reach} {b : Nat} : ∀ {ts : List TypeId} {vs : List Value} {ds : List (DataW H)} {ps : List MemPlace}, (∀ t ∈ ts, t ∈ T) →
    (∀ (j : Nat) t v, ts[j]? = some t → vs[j]? = some v → Value.okWide P w r b t v) → DataW.TrodAll enc P w 0 (fun _ => true) true ts vs ds ps →
    ∃ ass, All2 (fun as t => ∃ n, TyN P n t as) ass ts ∧ All2 (PureV w (fun g => g < w.heap.size)) (argE P ass ts) vs ∧ ds.length = ts.length
  | [], [], [], ps, _, _, _ => ⟨[], .nil, .nil, rfl⟩
  | t :: ts, v :: vs, d :: ds, ps, hsub, hok, ⟨p, q, h1, h2, _⟩ => by
    obtain ⟨n, as, k1, k2⟩ := arg_pure hT (hsub t (by simp)) (hok 0 t v rfl rfl) h1
    obtain ⟨ass, l1, l2, l3⟩ := args_pure hT (fun u hu => hsub u (by simp [hu])) (fun j u x hu hx => hok (j + 1) u x (by simpa using hu) (by simpa using hx)) h2
    exact ⟨as :: ass, .cons ⟨n, k1⟩ l1, .cons k2 l2, by simp [l3]⟩
  | [], [], _ :: _, _, _, _, h => h.elim
  | [], _ :: _, _, _, _, _, h => by cases h
  | _ :: _, [], _, _, _, _, h => by cases h
  | _ :: _, _ :: _, [], _, _, _, h => by cases h
theorem args_again (hl : laidOutB P = true) {w' : World} (hb : Below w.heap.size w w') : ∀ {ts : List TypeId} {vs : List Value} {ds : List (DataW H)} {ps : List MemPlace},
    (∀ t ∈ ts, P.readableRec t = true ∧ t < P.types.size) → DataW.TrodAll enc P w 0 (fun _ => true) true ts vs ds ps → DataW.TrodAll enc P w' 0 (fun b => decide (b < w.heap.size)) true ts vs ds ps
  | [], [], [], ps, _, h => h
  | t :: ts, v :: vs, d :: ds, ps, hsub, ⟨p, q, h1, h2, e⟩ => by
    obtain ⟨n, hn⟩ := h1
    exact ⟨p, q, Below.trod hl (hsub t (by simp)).1 (hsub t (by simp)).2 ⟨n, hn⟩ hb (DataW.trod_lt n t _ _ hn), args_again hl hb (fun u hu => hsub u (by simp [hu])) h2, e⟩
  | [], [], _ :: _, _, _, h => h.elim
  | [], _ :: _, _, _, _, h => by cases h
  | _ :: _, [], _, _, _, h => by cases h
  | _ :: _, _ :: _, [], _, _, h => by cases h
theorem law_lift {C : Checked} {os : Os} {f : FuncId} {fn : Func} {s : ChangeSpec} {conds : List PathCond} {tb : TypeId}
    (own : ownKnob C.prog.godebug = none) (started : os.Started) (hinit : C.prog.inits.idxOf? f = none) (hf : C.prog.funcs[f]? = some fn)
    (wit : ∃ (w : World) (tape : Tape) (i : Input), w.os = os ∧ World.Shaped C.prog (w.forCall tape i) ∧ i.vars = [] ∧ Input.okWide C.prog (w.forCall tape i) Reach.any w.heap.size f i ∧
      ChangeSpec.pre6 enc C.prog fn s conds false (w.forCall tape i).memory i.args ∧ ({} : Assume).holds C.prog (lone (Frame.enter C.prog f i.args CallKind.normal) [] (w.forCall tape i)))
    (hv : s.vars = []) (hfn : ∀ (ds : List (DataW H)), ds.length = fn.params.toList.length → s.fn H ds = { results := [.lit (.bool true)], args := ds })
    (hres : fn.resultTypes = #[tb]) (htb : C.prog.underlying tb = some .bool)
    (hT : plainB C.prog T = true) (hsub : ∀ t ∈ fn.params.toList, t ∈ T) (hl : laidOutB C.prog = true) (hr : ∀ t ∈ fn.params.toList, C.prog.readableRec t = true ∧ t < C.prog.types.size)
    (ok : ∀ ass, All2 (fun as t => ∃ n, TyN C.prog n t as) ass fn.params.toList → Ok C.prog f (argE C.prog ass fn.params.toList) (.bool true)) :
    ReturnsInHanded {} C os f .any (ChangeSpec.pre6 enc C.prog fn s conds false) (ChangeSpec.post enc C.prog fn s false true false false) := by
  refine returnsInHanded_of_change_sized own started hinit hf wit ?_
  intro W base args ds gs before hval hW hcnd hsz _
  have hW' := hW
  obtain ⟨p, q, hA, hV, rfl, hfz, hnd⟩ := hW
  have hgs : gs = [] ∧ q = [] := by
    rw [hv] at hV
    cases gs with
    | nil => exact ⟨rfl, hV⟩
    | cons => exact hV.elim
  obtain ⟨rfl, rfl⟩ := hgs
  obtain ⟨ass, h1, h2, h3⟩ := args_pure hT hsub (fun j t v ht hx => hval j t v (by simpa using ht) (by simpa using hx)) hA
  refine (ok ass h1 W (fun g => g < W.heap.size) args (fun _ h => h) h2).mono fun e W' ⟨v, he, bel, hp⟩ => ?_
  subst he
  have hvb : v = .bool true := by
    have : RepC W' _ (.bool true) v := hp
    cases this
    rfl
  subst hvb
  refine ⟨_, rfl, ds, [], p ++ [], [], p, [], hW', ?_, ?_, ?_, bel.frame _, fun h => by cases h⟩
  · rw [hres, List.append_nil, hfn ds h3]
    exact trodAll_mk1 (shut_bool htb _)
  · rw [List.append_nil, hfn ds h3]
    exact args_again hl bel hr hA
  · rw [hv, List.append_nil, hfn ds h3]
    rfl
end
end Go.Vm
namespace Go.Vm
open Go.RowKit
mutual
def lensOk : AV → Prop
  | .sl _ _ l => l.length ≤ maxLen ∧ lensOkL l
  | .pro cs => lensOkL cs
  | .agg cs => lensOkL cs
  | .tup vs => lensOkL vs
  | _ => True
def lensOkL : List AV → Prop
  | [] => True
  | a :: as => lensOk a ∧ lensOkL as
end
theorem lensOkL_mem : ∀ {l : List AV}, lensOkL l ↔ ∀ a ∈ l, lensOk a
  | [] => by simp [lensOkL]
  | a :: as => by simp only [lensOkL, List.mem_cons, forall_eq_or_imp, lensOkL_mem (l := as)]
section
variable {w : World} {N : Nat → Prop} {P : Program}
theorem lensOk_cells {a : AV} (h : lensOkL a.cells) : lensOk a := by
  cases a <;> simp only [AV.cells, lensOkL, and_true] at h <;> first | exact h | (simp only [lensOk]; exact h)
mutual
theorem RepC.lens : ∀ {a : AV} {v : Value}, RepC w N a v → lensOk a
  | _, _, .hole _ => by simp [lensOk]
  | _, _, .int => by simp [lensOk]
  | _, _, .bool => by simp [lensOk]
  | _, _, .str _ => by simp [lensOk]
  | _, _, .nilp => by simp [lensOk]
  | _, _, .nilSl _ => by simp [lensOk, lensOkL]
  | _, _, .slE _ _ => by simp [lensOk, lensOkL]
  | _, _, .sl _ _ hc hm h => by
    have := RepE.lens h
    simp only [lensOk]
    exact ⟨Nat.le_trans hc hm, this⟩
  | _, _, .pro h => by
    have := RepL.lens h
    simpa only [lensOk] using this
  | _, _, .fn _ => by simp [lensOk]
theorem RepL.lens : ∀ {as : List AV} {g o : Nat}, RepL w N as g o → lensOkL as
  | _, _, _, .nil => by simp [lensOkL]
  | _, _, _, .cons _ _ h t => by
    simp only [lensOkL]
    exact ⟨RepC.lens h, RepL.lens t⟩
theorem RepE.lens : ∀ {sz : Nat} {as : List AV} {g o : Nat}, RepE w N sz as g o → lensOkL as
  | _, _, _, _, .nil => by simp [lensOkL]
  | _, _, _, _, .cons _ h t => by
    simp only [lensOkL]
    exact ⟨lensOk_cells (RepL.lens h), RepE.lens t⟩
end
theorem PureU.lens {a : AV} {v : Value} (h : PureU w N a v) : lensOk a := by
  cases a with
  | undef => simp [lensOk]
  | agg cs =>
    obtain ⟨vs, _, hc⟩ := h
    simp only [lensOk, lensOkL_mem]
    intro c hcm
    obtain ⟨i, hi, he⟩ := List.getElem_of_mem hcm
    obtain ⟨b, _, hb⟩ := hc.get (List.getElem?_eq_getElem hi)
    rw [he] at hb
    exact hb.lens
  | _ => simp only [PureU] at h; exact h.lens
theorem PureV.lens {a : AV} {v : Value} (h : PureV w N a v) : lensOk a := by
  cases a with
  | tup xs =>
    obtain ⟨vs, _, hc⟩ := h
    simp only [lensOk, lensOkL_mem]
    intro c hcm
    obtain ⟨i, hi, he⟩ := List.getElem_of_mem hcm
    obtain ⟨b, _, hb⟩ := hc.get (List.getElem?_eq_getElem hi)
    rw [he] at hb
    exact hb.lens
  | _ => simp only [PureV] at h; exact PureU.lens h
theorem Ok.lens {f : Nat} {args : List AV} {r : AV} (h : lensOkL args → Ok P f args r) : Ok P f args r := by
  intro w N vs hN ha
  refine h ?_ w N vs hN ha
  rw [lensOkL_mem]
  intro a hm
  obtain ⟨i, hi, he⟩ := List.getElem_of_mem hm
  obtain ⟨b, _, hb⟩ := ha.get (List.getElem?_eq_getElem hi)
  rw [he] at hb
  exact PureV.lens hb
theorem lensOk_encL {α : Type} {sz : Nat} {f : α → AV} {xs : List α} : lensOk (encL sz f xs) ↔ xs.length ≤ 9223372036854775807 ∧ ∀ x ∈ xs, lensOk (f x) := by
  unfold encL mksl
  simp only [lensOk, lensOkL_mem, List.length_map, List.mem_map, forall_exists_index, and_imp, forall_apply_eq_imp_iff₂]
  exact Iff.rfl
theorem lensOkL_cons {a : AV} {as : List AV} : lensOkL (a :: as) ↔ lensOk a ∧ lensOkL as := by simp [lensOkL]
end
section
variable {P : Program} {t : TypeId} {n : Nat} {as : List AV}
theorem ty_int {k : IntKind} (hu : P.underlying t = some (.int k)) (h : TyN P n t as) : ∃ i, as = [.int k i] ∧ (Lit.int k i).wf = true := by
  cases n with
  | zero => exact h.elim
  | succ n => simpa only [TyN, hu] using h
theorem map_dec {α : Type} {f : α → AV} {b : Bool} : ∀ {css : List (List AV)}, (∀ cs ∈ css, ∃ x, mkE b cs = f x) → ∃ xs : List α, css.map (mkE b) = xs.map f
  | [], _ => ⟨[], rfl⟩
  | c :: cs, h => by
    obtain ⟨x, hx⟩ := h c (by simp)
    obtain ⟨xs, hxs⟩ := map_dec (f := f) (b := b) (css := cs) fun d hd => h d (by simp [hd])
    exact ⟨x :: xs, by simp [hx, hxs]⟩
theorem ty_slice {e : TypeId} {sz : Nat} {b : Bool} {α : Type} (f : α → AV) (hu : P.underlying t = some (.slice e)) (hc : P.cellsOf e = sz) (hag : isAgg' P e = b)
    (dec : ∀ m cs, m < n → TyN P m e cs → ∃ x, mkE b cs = f x) (h : TyN P n t as) : ∃ xs : List α, as = [encL sz f xs] := by
  cases n with
  | zero => exact h.elim
  | succ n =>
    simp only [TyN, hu, hc, hag] at h
    obtain ⟨css, rfl, _, hall⟩ := h
    obtain ⟨xs, hxs⟩ := map_dec (f := f) (b := b) fun cs hcs => dec n cs (by omega) (hall cs hcs)
    exact ⟨xs, by rw [hxs]; rfl⟩
end
theorem tab_nil {P : Program} : TabOk P ⟨[], []⟩ := ⟨by intro c hc; simp at hc, by intro c hc; simp at hc⟩
theorem tab_cons {P : Program} {c : Ct} {s : List Ct} {h : List CtH} (hc : c.Ok P) (k : TabOk P ⟨s, h⟩) : TabOk P ⟨c :: s, h⟩ := by
  refine ⟨fun d hd => ?_, k.2⟩
  rcases List.mem_cons.1 hd with rfl | hd
  · exact hc
  · exact k.1 d hd
theorem tab_h {P : Program} {c : CtH} {s : List Ct} {h : List CtH} (hc : c.Ok P) (k : TabOk P ⟨s, h⟩) : TabOk P ⟨s, c :: h⟩ := by
  refine ⟨k.1, fun d hd => ?_⟩
  rcases List.mem_cons.1 hd with rfl | hd
  · exact hc
  · exact k.2 d hd
end Go.Vm
namespace Go.Vm
open Go.RowKit
section
variable {P : Program}
theorem OkH.of_cw' {f : Nat} {Fn : F} (hF : FOk P f Fn) {args : List AV} {H H' : List Blk} {r : AV} (h : CW P H.length Fn.c (retH Fn.rs r H') ⟨frame Fn.nt args, H⟩) : OkH P f args H r H' :=
  OkH.of_cw hF (cw_mono h fun _ st q => ⟨st, Weak.refl _ _, q⟩)
end
theorem all2_back {α β : Type} {R : α → β → Prop} : ∀ {as : List α} {bs : List β}, All2 R as bs → ∀ {i : Nat} {b : β}, bs[i]? = some b → ∃ a, as[i]? = some a ∧ R a b
  | _, _, .nil, i, b, h => by simp at h
  | _, _, .cons hh t, 0, b, h => by simp at h; subst h; exact ⟨_, by simp, hh⟩
  | _, _, .cons hh t, i + 1, b, h => by
    obtain ⟨a, h1, h2⟩ := all2_back t (i := i) (by simpa using h)
    exact ⟨a, by simpa using h1, h2⟩
def Less (x y : AV) : Prop := y = .undef ∨ y = x
theorem less_undef (x : AV) : Less x .undef := .inl rfl
theorem less_refl (x : AV) : Less x x := .inr rfl
theorem weak_slots {n0 : Nat} {t t' : List AV} {H : List Blk} (h : All2 Less t t') : Weak n0 ⟨t, H⟩ ⟨t', H⟩ := by
  intro B w μ a R S
  refine ⟨μ, R, ⟨S.1.trans h.length, fun i x hx => ?_⟩, ExtN.refl⟩
  obtain ⟨y, hy, hxy⟩ := all2_back h hx
  rcases hxy with rfl | rfl
  · exact trivial
  · exact S.2 i _ hy
theorem getH0 {α : Type} (H l : List α) : (H ++ l)[H.length]? = l[0]? := by rw [List.getElem?_append_right (Nat.le_refl _), Nat.sub_self]
theorem getHk {α : Type} (H l : List α) (k : Nat) : (H ++ l)[H.length + k]? = l[k]? := by rw [List.getElem?_append_right (by omega)]; congr 1; omega
theorem setH0 {α : Type} (H l : List α) (x : α) : (H ++ l).set H.length x = H ++ l.set 0 x := by rw [List.set_append_right _ _ (by omega)]; simp
theorem setHk {α : Type} (H l : List α) (k : Nat) (x : α) : (H ++ l).set (H.length + k) x = H ++ l.set k x := by rw [List.set_append_right _ _ (by omega)]; congr 2; omega
theorem weak_row {n0 : Nat} {t : List AV} {H : List Blk} (b e sz : Nat) (h : H[b]? = some .nrow) : Weak n0 ⟨t, H⟩ ⟨t, H.set b (.row true e sz [])⟩ := by
  intro B w μ a R S
  have hlt := (List.getElem?_eq_some_iff.1 h).1
  let μ' : Mu := fun x => if x = b then none else μ x
  have hget : ∀ b' k, (H.set b (.row true e sz []))[b']? = some k → (b' = b ∧ k = .row true e sz []) ∨ (b' ≠ b ∧ H[b']? = some k) := by
    intro b' k hb
    by_cases he : b' = b
    · subst he
      rw [List.getElem?_set_self hlt] at hb
      cases hb
      exact .inl ⟨rfl, rfl⟩
    · rw [List.getElem?_set_ne (fun e => he e.symm)] at hb
      exact .inr ⟨he, hb⟩
  have hown : ∀ g, Owned (H.set b (.row true e sz [])) μ' g → Owned H μ g := by
    intro g ho
    obtain ⟨b', c, k, hm, hb, hk⟩ := owned_iff.1 ho
    rcases hget b' k hb with ⟨rfl, _⟩ | ⟨hne, hb'⟩
    · simp [μ'] at hm
    · simp only [μ', if_neg hne] at hm
      exact owned_iff.2 ⟨b', c, k, hm, hb', hk⟩
  have E : Ext B w H μ w (H.set b (.row true e sz [])) μ' := by
    refine ⟨fun g hg => ⟨⟨hg.1, hg.2.1, fun h => hg.2.2 (hown g h)⟩, rfl⟩, fun b' k hb => ?_⟩
    by_cases he : b' = b
    · subst he
      rw [h] at hb
      cases hb
      exact ⟨.row true e sz [], by rw [List.getElem?_set_self hlt], fun _ => by simp [μ']⟩
    · exact ⟨k, by rw [List.getElem?_set_ne (fun e => he e.symm)]; exact hb, Blk.turns_refl (by simp only [μ', if_neg he]) k⟩
  refine ⟨μ', ⟨R.below, R.n0, fun b' k hb => ?_, fun b1 b2 k k' g c c' hb hb' hk hk' hm hm' => ?_, fun b' k g c hb hk hm => ?_⟩, S.ext E, E.extN n0⟩
  · rcases hget b' k hb with ⟨rfl, rfl⟩ | ⟨hne, hb'⟩
    · exact ⟨by simp, .inl ⟨by simp [μ'], rfl⟩⟩
    · exact (R.blk b' k hb').carry E (fun _ => by simp only [μ', if_neg hne]) fun _ _ _ _ => rfl
  · rcases hget b1 k hb with ⟨rfl, rfl⟩ | ⟨hne, hb1⟩
    · simp [μ'] at hm
    · rcases hget b2 k' hb' with ⟨rfl, rfl⟩ | ⟨hne', hb2⟩
      · simp [μ'] at hm'
      · simp only [μ', if_neg hne, if_neg hne'] at hm hm'
        exact R.inj b1 b2 k k' g c c' hb1 hb2 hk hk' hm hm'
  · rcases hget b' k hb with ⟨rfl, rfl⟩ | ⟨hne, hb1⟩
    · simp [μ'] at hm
    · simp only [μ', if_neg hne] at hm
      exact R.own b' k g c hb1 hk hm
theorem belowR_mono {n m : Nat} (h : n ≤ m) {a : AV} (ha : belowR n a = true) : belowR m a = true := by
  cases a <;> simp_all [belowR] <;> omega
theorem belowC_mono {n m : Nat} (h : n ≤ m) {a : AV} (ha : belowC n a = true) : belowC m a = true := by
  cases a with
  | fn f caps =>
    simp only [belowC, List.all_eq_true] at ha ⊢
    exact fun x hx => belowR_mono h (ha x hx)
  | _ => simp only [belowC] at ha ⊢; exact belowR_mono h ha
theorem belowE_mono {n m : Nat} (h : n ≤ m) {a : AV} (ha : belowE n a = true) : belowE m a = true := by
  cases a with
  | agg cs =>
    simp only [belowE, List.all_eq_true] at ha ⊢
    exact fun x hx => belowC_mono h (ha x hx)
  | _ => simp only [belowE] at ha ⊢; exact belowC_mono h ha
theorem below_blk2 {B : Base} {w : World} {H : List Blk} {μ : Mu} {n : Nat} (hn : H.length ≤ n) {H2 : List Blk} {b : Nat} {k : Blk} (r : BlkOk B w H μ b k) : SlB n H2 k k := by
  cases k with
  | void => trivial
  | dead => trivial
  | nrow => trivial
  | cells cs =>
    obtain ⟨g, c, T, vs, h1, h2, h3⟩ := r
    exact all2_self fun x hx => .inr (.inl ⟨rfl, belowC_mono hn (below_As h3 x hx)⟩)
  | row ow e sz els =>
    refine ⟨fun h => h, rfl, rfl, .inl ⟨rfl, ?_⟩⟩
    obtain ⟨_, ⟨_, rfl⟩ | ⟨g, cap, cur, h1, h2, h3, h4, h5, h6⟩⟩ := r
    · rfl
    · simp only [belowEls, List.all_eq_true]
      intro x hx
      have hx' : ∀ c ∈ x.cells, belowC H.length c = true := fun c hc => below_As h6 c (by unfold flat; exact List.mem_flatMap.2 ⟨x, hx, hc⟩)
      refine belowE_mono hn ?_
      cases x with
      | agg cs => simpa [belowE, AV.cells] using hx'
      | _ => first | (simp [belowE, AV.cells]; done) | simpa [belowE, AV.cells] using hx'
def SelfB (H : List Blk) : Prop := ∀ n, H.length ≤ n → ∀ H2, All2 (SlB n H2) H H
theorem rel_self {B : Base} {w : World} {H : List Blk} {μ : Mu} (R : Rel B w H μ) : SelfB H := by
  intro n hn H2
  refine all2_self fun k hk => ?_
  obtain ⟨b, hb, rfl⟩ := List.mem_iff_getElem.1 hk
  exact below_blk2 hn (R.blk b _ (List.getElem?_eq_getElem hb))
section
variable {P : Program}
theorem OkH.of_self {f : Nat} {args : List AV} {H H' : List Blk} {r : AV} (h : SelfB H → OkH P f args H r H') : OkH P f args H r H' := by
  intro B w μ vs R ha
  exact h (rel_self R) B w μ vs R ha
end
theorem weak_sealH {n0 : Nat} (j : Nat) {H X X' : List Blk} {t t' : List AV} (hB : SelfB H) (hn : n0 ≤ H.length) (hX : All2 (SlB (H.length + j) (H ++ X)) (X.take j) X') (ht : All2 (SlV (H.length + j) (H ++ X)) t t') : Weak n0 ⟨t, H ++ X⟩ ⟨t', H ++ X'⟩ := by
  refine weak_seal (H.length + j) (by omega) ?_ ht
  rw [List.take_append, List.take_of_length_le (by omega), show H.length + j - H.length = j by omega]
  exact (hB _ (by omega) _).append hX
end Go.Vm
namespace Go.Vm
open Go.RowKit
mutual
def sh (n : Nat) : AV → AV
  | .slref b o l t => .slref (n + b) o l t
  | .pbox b o => .pbox (n + b) o
  | .prow b i o t => .prow (n + b) i o t
  | .agg cs => .agg (shL n cs)
  | .tup cs => .tup (shL n cs)
  | a => a
def shL (n : Nat) : List AV → List AV
  | [] => []
  | a :: as => sh n a :: shL n as
end
def shB (n : Nat) : Blk → Blk
  | .cells cs => .cells (shL n cs)
  | .row ow e sz els => .row ow e sz (shL n els)
  | k => k
mutual
def ownV : AV → Bool
  | .int .. | .bool _ | .str _ | .nilp | .hole => true
  | .sl _ _ [] => true
  | .slref .. | .pbox .. | .prow .. => true
  | .agg cs => ownVL cs
  | .tup cs => ownVL cs
  | _ => false
def ownVL : List AV → Bool
  | [] => true
  | a :: as => ownV a && ownVL as
end
def ownB : Blk → Bool
  | .cells cs => ownVL cs
  | .row _ _ _ els => ownVL els
  | _ => true
theorem shL_map (n : Nat) : ∀ l : List AV, shL n l = l.map (sh n)
  | [] => rfl
  | a :: as => by simp [shL, shL_map n as]
theorem ownVL_all : ∀ l : List AV, ownVL l = l.all ownV
  | [] => rfl
  | a :: as => by simp [ownVL, ownVL_all as]
theorem sh_cells (n : Nat) (a : AV) : (sh n a).cells = a.cells.map (sh n) := by
  cases a <;> simp [sh, AV.cells, shL_map]
theorem flat_sh (n : Nat) : ∀ els : List AV, flat (els.map (sh n)) = (flat els).map (sh n)
  | [] => rfl
  | a :: as => by simp only [List.map_cons, flat_cons, sh_cells, flat_sh n as, List.map_append]
theorem own_cells {a : AV} (h : ownV a = true) : ∀ c ∈ a.cells, ownV c = true := by
  cases a with
  | agg cs => simpa [ownV, ownVL_all, AV.cells] using h
  | _ => simpa [AV.cells] using h
theorem own_flat {els : List AV} (h : ∀ x ∈ els, ownV x = true) : ∀ c ∈ flat els, ownV c = true := by
  intro c hc
  simp only [flat, List.mem_flatMap] at hc
  obtain ⟨x, hx, hc⟩ := hc
  exact own_cells (h x hx) c hc
theorem All2.map2 {α β γ : Type} {R : α → β → Prop} {S : γ → β → Prop} {f : α → γ} : ∀ {as : List α} {bs : List β}, All2 R as bs → (∀ a ∈ as, ∀ b, R a b → S (f a) b) → All2 S (as.map f) bs
  | _, _, .nil, _ => .nil
  | _, _, .cons h t, k => .cons (k _ (by simp) _ h) (All2.map2 t fun a ha => k a (by simp [ha]))
section
variable {P : Program} {B B1 : Base} {w w' : World} {H H1 H2 : List Blk} {μ μ1 μ2 : Mu} {n : Nat}
theorem shB_live (k : Blk) : (shB n k).live = k.live := by cases k <;> rfl
theorem shB_owned (k : Blk) : (shB n k).owned = k.owned := by cases k <;> rfl
structure Beyond (n : Nat) (H1 H2 : List Blk) (μ1 μ2 : Mu) : Prop where
  h : ∀ b k, H1[b]? = some k → H2[n + b]? = some (shB n k)
  m : ∀ b, μ2 (n + b) = μ1 b
theorem Beyond.repR (Y : Beyond n H1 H2 μ1 μ2) {a : AV} {v : Value} (ho : ownV a = true) (r : RepR B1 w H1 μ1 a v) : RepR B w H2 μ2 (sh n a) v := by
  refine ⟨r.1, ?_⟩
  have r2 := r.2
  cases a with
  | slref b off len tot =>
    simp only [RepR0, sh] at r2 ⊢
    cases hb : H1[b]? with
    | none => simp [hb] at r2
    | some k =>
      rw [Y.h b k hb, Y.m b]
      rw [hb] at r2
      cases k with
      | row ow e sz els => simp only [shB, shL_map, List.length_map] at r2 ⊢; exact r2
      | _ => exact r2
  | pbox b off =>
    simp only [RepR0, sh] at r2 ⊢
    cases hb : H1[b]? with
    | none => simp [hb] at r2
    | some k =>
      rw [Y.h b k hb, Y.m b]
      rw [hb] at r2
      cases k <;> exact r2
  | prow b i off tot =>
    simp only [RepR0, sh] at r2 ⊢
    cases hb : H1[b]? with
    | none => simp [hb] at r2
    | some k =>
      rw [Y.h b k hb, Y.m b]
      rw [hb] at r2
      cases k with
      | row ow e sz els => simp only [shB, shL_map, List.length_map] at r2 ⊢; exact r2
      | _ => exact r2
  | sl k sz l =>
    cases l with
    | cons _ _ => simp [ownV] at ho
    | nil =>
      simp only [RepR0, sh] at r2 ⊢
      cases r2 with
      | nilSl h => exact .nilSl h
      | slE hk hm => exact .slE hk hm
      | sl hk hn hc hm h => exact .sl hk hn hc hm .nil
  | int k n => simp only [RepR0, sh] at r2 ⊢; cases r2; constructor
  | bool b => simp only [RepR0, sh] at r2 ⊢; cases r2; constructor
  | str s => simp only [RepR0, sh] at r2 ⊢; cases r2; constructor; assumption
  | nilp => simp only [RepR0, sh] at r2 ⊢; cases r2; constructor
  | hole => simp only [RepR0, sh] at r2 ⊢; cases r2; constructor; assumption
  | tup cs => simp only [RepR0] at r2; cases r2
  | agg cs => simp only [RepR0] at r2; cases r2
  | _ => simp [ownV] at ho
theorem Beyond.repA (Y : Beyond n H1 H2 μ1 μ2) {a : AV} {v : Value} (ho : ownV a = true) (r : RepA B1 w H1 μ1 a v) : RepA B w H2 μ2 (sh n a) v := by
  cases a with
  | fn f caps => simp [ownV] at ho
  | _ => simp only [RepA] at r; exact (Y.repR ho r).repA
theorem Beyond.repAs (Y : Beyond n H1 H2 μ1 μ2) {as : List AV} {vs : List Value} (ho : ∀ a ∈ as, ownV a = true) (r : All2 (RepA B1 w H1 μ1) as vs) : All2 (RepA B w H2 μ2) (as.map (sh n)) vs :=
  r.map2 fun a ha b hab => Y.repA (ho a ha) hab
theorem Beyond.repU (Y : Beyond n H1 H2 μ1 μ2) {a : AV} {v : Value} (ho : ownV a = true) (r : RepU B1 w H1 μ1 a v) : RepU B w H2 μ2 (sh n a) v := by
  cases a with
  | undef => simp [ownV] at ho
  | agg cs =>
    obtain ⟨vs, rfl, hc⟩ := r
    refine ⟨vs, rfl, ?_⟩
    rw [shL_map]
    exact Y.repAs (by simpa [ownV, ownVL_all] using ho) hc
  | tup cs => exact absurd (show RepC w (Imm B1 w H1 μ1) (.tup cs) v from by simp only [RepU, RepA] at r; exact r.2) (by intro h; cases h)
  | _ => simp only [RepU] at r; exact Y.repA ho r
theorem Beyond.repV (Y : Beyond n H1 H2 μ1 μ2) {a : AV} {v : Value} (ho : ownV a = true) (r : RepV B1 w H1 μ1 a v) : RepV B w H2 μ2 (sh n a) v := by
  cases a with
  | tup cs =>
    obtain ⟨vs, rfl, hc⟩ := r
    refine ⟨vs, rfl, ?_⟩
    rw [shL_map]
    have ho : ∀ a ∈ cs, ownV a = true := by simpa [ownV, ownVL_all] using ho
    exact hc.map2 fun a ha b hab => Y.repU (ho a ha) hab
  | agg cs => exact Y.repU (a := .agg cs) ho r
  | undef => simp [ownV] at ho
  | _ => simp only [RepV] at r; exact Y.repU ho r
theorem Beyond.blk (Y : Beyond n H1 H2 μ1 μ2) {b : Nat} {k : Blk} (ho : ownB k = true) (r : BlkOk B1 w H1 μ1 b k) : BlkOk B w H2 μ2 (n + b) (shB n k) := by
  cases k with
  | void => trivial
  | dead => trivial
  | nrow => trivial
  | cells cs =>
    obtain ⟨g, c, T, vs, h1, h2, h3⟩ := r
    refine ⟨g, c, T, vs, (Y.m b).trans h1, h2, ?_⟩
    rw [shL_map]
    exact Y.repAs (by simpa [ownB, ownVL_all] using ho) h3
  | row ow e sz els =>
    have ho : ∀ x ∈ els, ownV x = true := by simpa [ownB, ownVL_all] using ho
    obtain ⟨h0, h1⟩ := r
    simp only [shB, BlkOk, shL_map]
    refine ⟨fun x hx => ?_, ?_⟩
    · obtain ⟨y, hy, rfl⟩ := List.mem_map.1 hx
      rw [sh_cells, List.length_map]; exact h0 y hy
    · rcases h1 with ⟨h1, rfl⟩ | ⟨g, cap, cur, h1, h2, h3, h4, h5, h6⟩
      · exact .inl ⟨(Y.m b).trans h1, rfl⟩
      · refine .inr ⟨g, cap, cur, (Y.m b).trans h1, h2, by simpa using h3, h4, h5, ?_⟩
        rw [flat_sh, List.length_map]
        exact Y.repAs (own_flat ho) h6
theorem Rel.beyond (R : Rel B w H μ) {N : Nat → Prop} (hb : Below w.heap.size w w') (R1 : Rel ⟨w, N⟩ w' H1 μ1) (ho : ∀ k ∈ H1, ownB k = true) :
    ∃ μ2, Rel B w' (H ++ H1.map (shB H.length)) μ2 ∧ Ext B w H μ w' (H ++ H1.map (shB H.length)) μ2 ∧ Beyond H.length H1 (H ++ H1.map (shB H.length)) μ1 μ2 := by
  let μ2 : Mu := fun b => if b < H.length then μ b else μ1 (b - H.length)
  have hm1 : ∀ b, μ2 (H.length + b) = μ1 b := fun b => by simp only [μ2]; rw [if_neg (by omega)]; congr 1; omega
  have hget : ∀ b k, (H ++ H1.map (shB H.length))[b]? = some k → (b < H.length ∧ H[b]? = some k ∧ μ2 b = μ b) ∨ ∃ b' k', b = H.length + b' ∧ H1[b']? = some k' ∧ k = shB H.length k' := by
    intro b k hk
    rcases Nat.lt_or_ge b H.length with hlt | hge
    · rw [List.getElem?_append_left hlt] at hk
      exact .inl ⟨hlt, hk, by simp [μ2, hlt]⟩
    · rw [List.getElem?_append_right hge, List.getElem?_map] at hk
      obtain ⟨k', h1, h2⟩ := Option.map_eq_some_iff.1 hk
      exact .inr ⟨b - H.length, k', by omega, h1, h2.symm⟩
  have Y : Beyond H.length H1 (H ++ H1.map (shB H.length)) μ1 μ2 := ⟨fun b k hk => by rw [getHk, List.getElem?_map, hk]; rfl, hm1⟩
  have hown : ∀ g, g < w.heap.size → Owned (H ++ H1.map (shB H.length)) μ2 g → Owned H μ g := by
    intro g hg hO
    obtain ⟨b, c, k, hm, hk, hko⟩ := owned_iff.1 hO
    rcases hget b k hk with ⟨_, hk', hmb⟩ | ⟨b', k', rfl, hk', rfl⟩
    · rw [hmb] at hm
      exact owned_iff.2 ⟨b, c, k, hm, hk', hko⟩
    · rw [hm1] at hm
      rw [shB_owned] at hko
      have := R1.own b' k' g c hk' (Blk.live_of_owned hko) hm
      simp only at this
      omega
  have E : Ext B w H μ w' (H ++ H1.map (shB H.length)) μ2 := by
    refine ⟨fun g hg => ⟨⟨hg.1, Nat.lt_of_lt_of_le hg.2.1 hb.size, fun h => hg.2.2 (hown g hg.2.1 h)⟩, hb.block g hg.2.1⟩, fun b k hk => ?_⟩
    have hlt : b < H.length := (List.getElem?_eq_some_iff.1 hk).1
    exact ⟨k, by rw [List.getElem?_append_left hlt]; exact hk, Blk.turns_refl (by simp [μ2, hlt]) k⟩
  refine ⟨μ2, ⟨R.below.trans (hb.mono R.size), R.n0, fun b k hk => ?_, fun b b' k k' g c c' hk hk' hl hl' hm hm' => ?_, fun b k g c hk hl hm => ?_⟩, E, Y⟩
  · rcases hget b k hk with ⟨_, hk', hmb⟩ | ⟨b', k', rfl, hk', rfl⟩
    · exact (R.blk b k hk').carry E (fun _ => hmb) fun g c hl hmg => hb.block g ((R.blk b k hk').lt hl hmg)
    · exact Y.blk (ho k' (List.mem_of_getElem? hk')) (R1.blk b' k' hk')
  · rcases hget b k hk with ⟨_, h1, m1⟩ | ⟨d, kd, rfl, h1, rfl⟩
    · rw [m1] at hm
      rcases hget b' k' hk' with ⟨_, h2, m2⟩ | ⟨d', kd', rfl, h2, rfl⟩
      · rw [m2] at hm'
        exact R.inj b b' k k' g c c' h1 h2 hl hl' hm hm'
      · rw [hm1] at hm'
        rw [shB_live] at hl'
        have q1 := R1.own d' kd' g c' h2 hl' hm'
        have q2 := (R.blk b k h1).lt hl hm
        simp only at q1
        omega
    · rw [hm1] at hm
      rw [shB_live] at hl
      rcases hget b' k' hk' with ⟨_, h2, m2⟩ | ⟨d', kd', rfl, h2, rfl⟩
      · rw [m2] at hm'
        have q1 := R1.own d kd g c h1 hl hm
        have q2 := (R.blk b' k' h2).lt hl' hm'
        simp only at q1
        omega
      · rw [hm1] at hm'
        rw [shB_live] at hl'
        rw [R1.inj d d' kd kd' g c c' h1 h2 hl hl' hm hm']
  · rcases hget b k hk with ⟨_, h1, m1⟩ | ⟨d, kd, rfl, h1, rfl⟩
    · rw [m1] at hm
      exact R.own b k g c h1 hl hm
    · rw [hm1] at hm
      rw [shB_live] at hl
      exact Nat.le_trans R.size (R1.own d kd g c h1 hl hm)
theorem OkH.fresh {f : Nat} {args pargs : List AV} {r : AV} (ok : OkH P f pargs [] r H1) (hr : ownV r = true) (ho : ∀ k ∈ H1, ownB k = true) (hl : lendAll (fun _ _ => true) H args = some pargs) :
    OkH P f args H (sh H.length r) (H ++ H1.map (shB H.length)) := by
  intro B w μ vs R ha
  have L := fun n => lends R (N := fun g => g < w.heap.size) (m := fun _ _ => true) (fun g hg => hg.2.1) (fun b k g c hb hk _ hm => (R.blk b k hb).lt hk hm) n
  have hp := lendAll_sound L hl ha
  refine (ok ⟨w, fun g => g < w.heap.size⟩ w (fun _ => none) vs (rel0 w fun _ h => h) (hp.mono fun _ _ h => PureV.rep0 (fun _ h => h) h)).mono ?_
  rintro e w' ⟨v, μ1, rfl, R1, _, hv⟩
  obtain ⟨μ2, R2, E2, Y⟩ := R.beyond R1.below R1 ho
  exact ⟨v, μ2, rfl, R2, E2, Y.repV hr hv⟩
theorem Ok.of_okH {f : Nat} {args : List AV} {r r' : AV} (ok : OkH P f args [] r H1) (hl : lend (fun _ _ => true) H1 r = some r') : Ok P f args r' := by
  intro w N vs hN ha
  refine (ok ⟨w, N⟩ w (fun _ => none) vs (rel0 w hN) (ha.mono fun _ _ h => PureV.rep0 hN h)).mono ?_
  rintro e w' ⟨v, μ1, rfl, R1, _, hv⟩
  have L := fun n => lends R1 (N := fun g => N g ∨ (w.heap.size ≤ g ∧ g < w'.heap.size)) (m := fun _ _ => true)
      (fun g hg => hg.1.elim (fun h => .inl h) fun h => .inr ⟨h, hg.2.1⟩)
      (fun b k g c hb hk _ hm => .inr ⟨R1.own b k g c hb hk hm, (R1.blk b k hb).lt hk hm⟩) n
  exact ⟨v, rfl, R1.below, lend_sound L hl hv⟩
theorem Ok.of_okHT {f : Nat} {args : List AV} {xs ys : List AV} (ok : OkH P f args [] (.tup xs) H1) (hl : lendAll (fun _ _ => true) H1 xs = some ys) : Ok P f args (.tup ys) := by
  intro w N vs hN ha
  refine (ok ⟨w, N⟩ w (fun _ => none) vs (rel0 w hN) (ha.mono fun _ _ h => PureV.rep0 hN h)).mono ?_
  rintro e w' ⟨v, μ1, rfl, R1, _, us, rfl, hv⟩
  have L := fun n => lends R1 (N := fun g => N g ∨ (w.heap.size ≤ g ∧ g < w'.heap.size)) (m := fun _ _ => true)
      (fun g hg => hg.1.elim (fun h => .inl h) fun h => .inr ⟨h, hg.2.1⟩)
      (fun b k g c hb hk _ hm => .inr ⟨R1.own b k g c hb hk hm, (R1.blk b k hb).lt hk hm⟩) n
  refine ⟨_, rfl, R1.below, us, rfl, ?_⟩
  have : ∀ {xs ys : List AV} {us : List Value}, lendAll (fun _ _ => true) H1 xs = some ys → All2 (RepU ⟨w, N⟩ w' H1 μ1) xs us →
      All2 (PureU w' (fun g => N g ∨ (w.heap.size ≤ g ∧ g < w'.heap.size))) ys us := by
    intro xs
    induction xs with
    | nil => intro ys us h r; simp only [lendAll, Option.some.injEq] at h; subst h; cases r; exact .nil
    | cons x xs ih =>
      intro ys us h r
      simp only [lendAll] at h
      split at h
      · rename_i c' cs' h1 h2
        simp only [Option.some.injEq] at h; subst h
        cases r with
        | cons r t =>
          have hx : ∀ zs, x ≠ .tup zs := by
            rintro zs rfl
            exact absurd (show RepC _ _ (.tup zs) _ from by simp only [RepU, RepA] at r; exact r.2) (by intro h; cases h)
          have rv : RepV ⟨w, N⟩ w' H1 μ1 x _ := r.repV hx
          exact .cons ((lend_sound L h1 rv).pureU fun xs e => lend_tup (e ▸ h1) L rv) (ih h2 t)
      · cases h
  exact this hl hv
end
structure CtN where
  f : Nat
  α : Type
  pre : α → Prop
  args : α → List AV
  res : α → AV
  new : α → List Blk
structure CtN.Ok (P : Program) (c : CtN) : Prop where
  ok : ∀ x, c.pre x → OkH P c.f (c.args x) [] (c.res x) (c.new x)
  res : ∀ x, c.pre x → ownV (c.res x) = true
  new : ∀ x, c.pre x → ∀ k ∈ c.new x, ownB k = true
@[simp] def CtN.h (c : CtN) : CtH := ⟨c.f, c.α × List AV, fun x H => lendAll (fun _ _ => true) H x.2 = some (c.args x.1) ∧ c.pre x.1, fun x => x.2, fun x H => sh H.length (c.res x.1), fun x H => H ++ (c.new x.1).map (shB H.length)⟩
theorem CtN.hok {P : Program} {c : CtN} (h : c.Ok P) : c.h.Ok P := by
  rintro ⟨x, vs⟩ H ⟨h2, h1⟩
  exact (h.ok x h1).fresh (h.res x h1) (h.new x h1) h2
@[simp] theorem sh_int {n : Nat} {k : IntKind} {i : Int} : sh n (.int k i) = .int k i := by simp [sh]
@[simp] theorem sh_slref {n b o l t : Nat} : sh n (.slref b o l t) = .slref (n + b) o l t := by simp [sh]
@[simp] theorem sh_agg {n : Nat} {cs : List AV} : sh n (.agg cs) = .agg (shL n cs) := by simp [sh]
@[simp] theorem shL_nil {n : Nat} : shL n [] = [] := by simp [shL]
@[simp] theorem shL_cons {n : Nat} {a : AV} {as : List AV} : shL n (a :: as) = sh n a :: shL n as := by simp [shL]
@[simp] theorem shB_dead {n : Nat} : shB n .dead = .dead := by simp [shB]
@[simp] theorem shB_cells {n : Nat} {cs : List AV} : shB n (.cells cs) = .cells (shL n cs) := by simp [shB]
@[simp] theorem shB_row {n : Nat} {ow : Bool} {e sz : Nat} {els : List AV} : shB n (.row ow e sz els) = .row ow e sz (shL n els) := by simp [shB]
@[simp] theorem shL_ints {n : Nat} {xs : List Int} : shL n (xs.map encInt) = xs.map encInt := by
  rw [shL_map, List.map_map]; congr 1
@[simp] theorem ownVL_ints {xs : List Int} : ownVL (xs.map encInt) = true := by
  rw [ownVL_all]; simp only [List.all_eq_true, List.mem_map]; rintro _ ⟨x, _, rfl⟩; rfl
end Go.Vm
namespace Go.Vm
open Go.RowKit
section
variable {P : Program} {B : Base} {n : Nat} {ops : Array Oper} {os' : List OpR} {D : Nat → List Nat} {sts : Nat → St}
def dopsWp6 (P : Program) (lo lo2 : Nat → Bool) (S : List Blk → Prop) : Nat → List OpR → (St → Prop) → St → Prop
  | _, [], K, st => K st
  | i, o :: os, K, st =>
    ((∀ k, k ≤ os.length → lo (i + k) = true) ∧ dopsWp P lo i (o :: os) K st) ∨
    (∃ st', (∀ G, S G → GStep P o ⟨st.t, G⟩ ⟨st'.t, G⟩) ∧ st'.h = st.h ∧ dopsWp6 P lo lo2 S (i + 1) os K st') ∨
    (lo2 i = true ∧ ∃ st', GStep P o st st' ∧ S st'.h ∧ dopsWp6 P lo lo2 S (i + 1) os K st')
theorem dops6_trace {lo lo2 : Nat → Bool} {S : List Blk → Prop} : ∀ {os : List OpR} {i : Nat} {K : St → Prop} {st : St}, dopsWp6 P lo lo2 S i os K st → S st.h →
    ∃ (sts : Nat → St) (m : Nat), sts 0 = st ∧ (∀ k o, os[k]? = some o → GStep P o (sts k) (sts (k + 1))) ∧ K (sts os.length) ∧ m ≤ os.length ∧ (∀ k, m ≤ k → k < os.length → lo (i + k) = true) ∧
      (∀ k, k ≤ m → S (sts k).h) ∧ (∀ k, k < m → lo2 (i + k) = true ∨ (¬ loud sts k ∧ ∀ o, os[k]? = some o → ∀ G, S G → GStep P o ⟨(sts k).t, G⟩ ⟨(sts (k + 1)).t, G⟩)) := by
  intro os
  induction os with
  | nil =>
    intro i K st h hb
    exact ⟨fun _ => st, 0, rfl, by simp, h, Nat.le_refl _, by intro k _ hk; simp at hk, fun k _ => hb, by intro k hk; omega⟩
  | cons o os ih =>
    intro i K st h hb
    unfold dopsWp6 at h
    rcases h with ⟨hall, h⟩ | ⟨st', hv, he, h⟩ | ⟨hu, st', hv, hS1, h⟩
    · obtain ⟨sts, e0, e1, e2⟩ := dops_trace h
      refine ⟨sts, 0, e0, fun k o' hk => (e1 k o' hk).1, e2, Nat.zero_le _, fun k _ hk => hall k (by simp at hk; omega), fun k hk => ?_, by intro k hk; omega⟩
      have : k = 0 := by omega
      subst this
      rw [e0]; exact hb
    · obtain ⟨sts, m, e0, e1, e2, e3, e4, e5, e6⟩ := ih h (by rw [he]; exact hb)
      refine ⟨fun | 0 => st | k + 1 => sts k, m + 1, rfl, fun k o' hk => ?_, e2, by simp; omega, fun k hk hkl => ?_, fun k hk => ?_, fun k hk => ?_⟩
      · cases k with
        | zero =>
          simp at hk; subst hk
          have := hv _ hb
          simp only [e0]
          obtain ⟨t', h'⟩ := st'
          simp only at he this ⊢
          subst he
          exact this
        | succ k => exact e1 k o' (by simpa using hk)
      · cases k with
        | zero => omega
        | succ k => have := e4 k (by omega) (by simpa using hkl); rwa [show i + 1 + k = i + (k + 1) by omega] at this
      · cases k with
        | zero => exact hb
        | succ k => exact e5 k (by omega)
      · cases k with
        | zero =>
          refine .inr ⟨fun hl => hl (by simp only [e0, he]), fun o' ho' G hG => ?_⟩
          simp at ho'; subst ho'
          simp only [e0]
          exact hv G hG
        | succ k =>
          rcases e6 k (by omega) with f | ⟨f1, f2⟩
          · rw [show i + 1 + k = i + (k + 1) by omega] at f; exact .inl f
          · exact .inr ⟨f1, fun o' ho' L => f2 o' (by simpa using ho') L⟩
    · obtain ⟨sts, m, e0, e1, e2, e3, e4, e5, e6⟩ := ih h hS1
      refine ⟨fun | 0 => st | k + 1 => sts k, m + 1, rfl, fun k o' hk => ?_, e2, by simp; omega, fun k hk hkl => ?_, fun k hk => ?_, fun k hk => ?_⟩
      · cases k with
        | zero =>
          simp at hk; subst hk
          simp only [e0]
          exact hv
        | succ k => exact e1 k o' (by simpa using hk)
      · cases k with
        | zero => omega
        | succ k => have := e4 k (by omega) (by simpa using hkl); rwa [show i + 1 + k = i + (k + 1) by omega] at this
      · cases k with
        | zero => exact hb
        | succ k => exact e5 k (by omega)
      · cases k with
        | zero => exact .inl hu
        | succ k =>
          rcases e6 k (by omega) with f | ⟨f1, f2⟩
          · rw [show i + 1 + k = i + (k + 1) by omega] at f; exact .inl f
          · exact .inr ⟨f1, fun o' ho' L => f2 o' (by simpa using ho') L⟩
theorem dops_sound6 {lo lo2 : Nat → Bool} (hlo2 : ∀ k, k < ops.size → lo2 k = true → ∀ j, j < ops.size → lo2 j = true → j ≠ k → j ∈ D k ∨ k ∈ D j) (hlo : ∀ k, k < ops.size → lo k = true → ∀ j, j < ops.size → j ≠ k → j ∈ D k ∨ k ∈ D j) (hD : DOk ops os' D) (hops : All2 (COper P ops) os' ops.toList)
    (hmix : P.follows .mixedOrders = true) {Q : Exit → Act → World → Prop} {K : St → Prop} {st : St} {w : World} {μ : Mu} {a : Act} {S : List Blk → Prop} (hS : S st.h) (hk : dopsWp6 P lo lo2 S 0 os' K st) (R : Rel B w st.h μ) (hs : Slots B w st.h μ st.t a) {id : Nat}
    (hQ : ∀ st' a' w' μ', K st' → Rel B w' st'.h μ' → Slots B w' st'.h μ' st'.t a' → a'.defers = a.defers → Ext B w st.h μ w' st'.h μ' → Q .normal a' w') : (Code.region id ops true).wp P Q a w := by
  obtain ⟨sts, m, h0, h1, h2, hm, hm2, hm3, hm4⟩ := dops6_trace hk hS
  have hL := hD.len
  have hst := h1
  have hle : m ≤ ops.size := by omega
  have hlo' : ∀ k, m ≤ k → k < ops.size → lo k = true := fun k h h' => by have := hm2 k h (by omega); rwa [Nat.zero_add] at this
  have hls : ∀ k, k < m → loud sts k → lo2 k = true := fun k hkm hlk => by
    rcases hm4 k hkm with h | h
    · rwa [Nat.zero_add] at h
    · exact absurd hlk h.1
  have hloud : ∀ k, k < ops.size → loud sts k → ∀ j, j < ops.size → loud sts j → j ≠ k → j ∈ D k ∨ k ∈ D j := by
    intro k hkn hlk j hjn hlj hjk
    by_cases h : m ≤ k
    · exact hlo k hkn (hlo' k h hkn) j hjn hjk
    · by_cases h' : m ≤ j
      · exact (hlo j hjn (hlo' j h' hjn) k hkn (fun e => hjk e.symm)).symm
      · exact hlo2 k hkn (hls k (by omega) hlk) j hjn (hls j (by omega) hlj) hjk
  have hquiet : ∀ j, j < ops.size → ¬ loud sts j → Stab P ops.size os' D sts j := by
    intro j hjn hqj
    by_cases h : m ≤ j
    · exact stab_ordered hD hst hjn hqj fun k hk _ hjk => (hlo j hjn (hlo' j h hjn) k hk (fun e => hjk e.symm)).symm
    · rcases hm4 j (by omega) with e | e
      · rw [Nat.zero_add] at e
        refine stab_ordered hD hst hjn hqj fun k hk hlk hjk => ?_
        by_cases h' : m ≤ k
        · exact hlo k hk (hlo' k h' hk) j hjn hjk
        · exact hlo2 k hk (hls k (by omega) hlk) j hjn e hjk
      · intro q hqn c1 c2 o' ho'
        have hq : S (sts q).h := by
          rcases Nat.lt_or_ge m q with h3 | h3
          · have := heap_same (sts := sts) (q - m) m fun k hk hkq hlk => by
              rcases hlo k (by omega) (hlo' k hk (by omega)) j hjn (by omega) with e1 | e1
              · exact c1 k (by omega) hlk (by omega) e1
              · have := D_lt hD j k e1; omega
            rw [show m + (q - m) = q by omega] at this
            rw [this]; exact hm3 m (Nat.le_refl _)
          · exact hm3 q h3
        exact e.2 o' ho' _ hq
  subst h0
  obtain ⟨R1, E1⟩ := R.world (w' := { w with drawn := w.drawn + 1 }) ((Below.refl _ _).drew)
  refine wp_region_any hmix (drawn_any (B := B) (n := ops.size) (sts := sts) (w0 := w) (H0 := (sts 0).h) (μ0 := μ) (a0 := a) hD hops rfl hst hloud hquiet ?_ ops.size _ a _ (sts 0).h μ ?_ ?_)
  · intro a' w' H' μ' listed hall J
    have hcH : curH ops.size sts (done listed) os'.length := ⟨fun j _ hjn _ => hall j hjn, fun j hj hjn _ => absurd hjn (by rw [hD.len] at hj; omega)⟩
    have hcT : ∀ t, curT os' (done listed) t os'.length := fun t => ⟨fun j p' hj _ _ => hall j (by rw [← hD.len]; exact hj), fun j p' hj hp _ => absurd (List.getElem?_eq_some_iff.1 hp).1 (by omega)⟩
    have hH := J.heap os'.length (by rw [hD.len]; exact Nat.le_refl _) hcH
    refine hQ (sts os'.length) a' w' μ' h2 (by rw [hH]; exact J.rel) ⟨?_, fun t x hx => ?_⟩ J.defers (by rw [hH]; exact J.ext)
    · rw [J.tmps, len_same hst os'.length (Nat.le_refl _)]
    · rw [hH]; exact J.slots os'.length (by rw [hD.len]; exact Nat.le_refl _) t x hx (hcT t)
  · unfold undone
    have : ∀ m, ((List.range m).filter fun i => (Array.replicate ops.size false)[i]? != some true).length = m := by
      intro m
      rw [List.filter_eq_self.2]
      · simp
      · intro i _
        by_cases h : i < ops.size
        · simp [h]
        · simp [h]
    exact this ops.size
  · have hnd : ∀ i, ¬ done (Array.replicate ops.size false) i := by
      intro i
      unfold done
      by_cases h : i < ops.size
      · simp [h]
      · simp [h]
    refine ⟨by simp, R1, fun k hk hc => ?_, hs.1, fun k hk t x hx hc => ?_, rfl, E1, fun i o _ hd => absurd hd (hnd i)⟩
    · have := heap_same (sts := sts) k 0 fun j _ hj hl => hnd j (hc.1 j (by omega) (by omega) hl)
      simpa using this
    · have := slot_same (os' := os') hst t k 0 (by rw [hD.len]; omega) fun j p' _ hj hp hpd => hnd j (hc.1 j p' (by omega) hp hpd)
      rw [Nat.zero_add, hx] at this
      exact (hs.2 t x this.symm).ext E1
end
theorem cw_dreg6 {P : Program} {n0 : Nat} {lo lo2 : List Bool} {os : List OpR} {Q : Exit → St → Prop} {st : St} (S : List Blk → Prop) (hS : S st.h) (h : dopsWp6 P (fun k => lo.getD k false) (fun k => lo2.getD k false) S 0 os (Q .normal) st) : CW P n0 (.dreg lo lo2 os) Q st := by
  intro code hc B w μ a R S'
  cases hc with
  | dreg hlo2 hlo hD ho hmix =>
    exact dops_sound6 (lo := fun k => lo.getD k false) (lo2 := fun k => lo2.getD k false) hlo2 hlo hD ho hmix hS h R S' fun st' a' w' μ' q R' S' d E => ⟨st', μ', q, R', S', d, E.extN n0⟩
def InS (p : Nat) (h0 G : List Blk) : Prop := ∃ x T, G = h0.set p x ++ T
theorem InS.refl (p : Nat) (h : List Blk) : InS p h h := by
  rcases Nat.lt_or_ge p h.length with hp | hp
  · exact ⟨h[p], [], by simp⟩
  · exact ⟨.dead, [], by rw [List.set_eq_of_length_le hp]; simp⟩
def isPre : List Blk → List Blk → Prop
  | [], _ => True
  | a :: as, b :: bs => a = b ∧ isPre as bs
  | _ :: _, [] => False
theorem isPre_ex : ∀ {l m : List Blk}, isPre l m → ∃ T, m = l ++ T
  | [], m, _ => ⟨m, rfl⟩
  | a :: as, b :: bs, h => by
    obtain ⟨rfl, h2⟩ := h
    obtain ⟨T, rfl⟩ := isPre_ex h2
    exact ⟨T, rfl⟩
theorem isPre_self : ∀ {l : List Blk}, isPre l l
  | [] => trivial
  | _ :: _ => ⟨rfl, isPre_self⟩
theorem inS_app {p : Nat} {H : List Blk} {a b : Blk} {L M : List Blk} (hp : p < H.length) (h : isPre L M) : InS p (H.set p a ++ L) (H.set p b ++ M) := by
  obtain ⟨T, rfl⟩ := isPre_ex h
  exact ⟨b, T, by rw [List.set_append_left _ _ (by simpa using hp), List.set_set, List.append_assoc]⟩
theorem inS_set {p : Nat} {H : List Blk} {a b : Blk} : InS p (H.set p a) (H.set p b) := ⟨b, [], by rw [List.set_set]; simp⟩
def quietK (P : Program) (T : Tab) (p : Nat) (h0 : List Blk) (t : List AV) (o : O) (K : AV → Prop) : Prop :=
  ∃ v, (∀ x L, (if o.isBsl = true then freshK P t (h0.set p x ++ L) o (fun v' H' => v' = v ∧ H' = h0.set p x ++ L) else stepK P T t (h0.set p x ++ L) o (fun v' H' => v' = v ∧ H' = h0.set p x ++ L))) ∧ K v
theorem quietK_ok {P : Program} {T : Tab} (hT : TabOk P T) {p : Nat} {h0 : List Blk} {t : List AV} {o : O} {K : AV → Prop} (h : quietK P T p h0 t o K) : ∃ v, (∀ G, InS p h0 G → Step P (Opd.ev t) G o v G) ∧ K v := by
  obtain ⟨v, h1, h2⟩ := h
  refine ⟨v, ?_, h2⟩
  rintro G ⟨x, L, rfl⟩
  have := h1 x L
  split at this
  · obtain ⟨v', H', a', k1, k2, k3, rfl, k5⟩ := this
    exact .evZ k1 k2 k3
  · obtain ⟨v', H', k1, rfl, rfl⟩ := stepK_ok hT this
    exact k1
def dops6K (P : Program) (T : Tab) (p : Nat) (h0 : List Blk) : List OpR → List Bool → List Bool → (St → Prop) → St → Prop
  | [], _, _, K, st => K st
  | o :: os, lo, lo2, K, st =>
    if lo.headD false = true ∧ (lo.all id && decide (os.length < lo.length)) = true then dopsK P T (o :: os) lo K st
    else if isL T o.o = true then match o.guard with
      | none => lo2.headD false = true ∧ stepK P T st.t st.h o.o (fun v H' => InS p h0 H' ∧ dops6K P T p h0 os lo.tail lo2.tail K ⟨putT st.t o.dst v, H'⟩)
      | some (t, want) => match st.t.getD t .undef with
        | .bool b => (b = want → lo2.headD false = true ∧ stepK P T st.t st.h o.o (fun v H' => InS p h0 H' ∧ dops6K P T p h0 os lo.tail lo2.tail K ⟨putT st.t o.dst v, H'⟩)) ∧ (b ≠ want → dops6K P T p h0 os lo.tail lo2.tail K ⟨putT st.t o.dst (.tup []), st.h⟩)
        | .tup [] => dops6K P T p h0 os lo.tail lo2.tail K ⟨putT st.t o.dst (.tup []), st.h⟩
        | _ => False
    else match o.guard with
      | none => quietK P T p h0 st.t o.o (fun v => dops6K P T p h0 os lo.tail lo2.tail K ⟨putT st.t o.dst v, st.h⟩)
      | some (t, want) => match st.t.getD t .undef with
        | .bool b => (b = want → quietK P T p h0 st.t o.o (fun v => dops6K P T p h0 os lo.tail lo2.tail K ⟨putT st.t o.dst v, st.h⟩)) ∧ (b ≠ want → dops6K P T p h0 os lo.tail lo2.tail K ⟨putT st.t o.dst (.tup []), st.h⟩)
        | .tup [] => dops6K P T p h0 os lo.tail lo2.tail K ⟨putT st.t o.dst (.tup []), st.h⟩
        | _ => False
theorem dops6K_ok {P : Program} {T : Tab} (hT : TabOk P T) {p : Nat} {h0 : List Blk} : ∀ {os : List OpR} {lo lo2 : List Bool} {K : St → Prop} {st : St}, dops6K P T p h0 os lo lo2 K st → ∀ {i : Nat} {f : Nat → Bool}, (∀ j, f (i + j) = lo.getD j false) → ∀ {f2 : Nat → Bool}, (∀ j, f2 (i + j) = lo2.getD j false) → dopsWp6 P f f2 (InS p h0) i os K st := by
  intro os
  induction os with
  | nil => intro lo lo2 K st h i f _ f2 _; exact h
  | cons o os ih =>
    intro lo lo2 K st h i f hf f2 hf2
    have hf0 : f i = lo.headD false := by have := hf 0; simpa [List.headD_eq_head?_getD, List.getD, List.head?_eq_getElem?] using this
    have hft : ∀ j, f (i + 1 + j) = lo.tail.getD j false := by
      intro j
      rw [show i + 1 + j = i + (j + 1) by omega, hf]
      simp [List.getD]
    have hg0 : f2 i = lo2.headD false := by have := hf2 0; simpa [List.headD_eq_head?_getD, List.getD, List.head?_eq_getElem?] using this
    have hgt : ∀ j, f2 (i + 1 + j) = lo2.tail.getD j false := by
      intro j
      rw [show i + 1 + j = i + (j + 1) by omega, hf2]
      simp [List.getD]
    unfold dops6K at h
    unfold dopsWp6
    split at h
    · rename_i hl
      obtain ⟨_, ha⟩ := hl
      simp only [Bool.and_eq_true, decide_eq_true_eq] at ha
      exact .inl ⟨fun k hk => by rw [hf]; exact all_getD ha.1 (by omega), dopsK_ok hT h hf⟩
    · refine .inr ?_
      split at h
      · have run : lo2.headD false = true ∧ stepK P T st.t st.h o.o (fun v H' => InS p h0 H' ∧ dops6K P T p h0 os lo.tail lo2.tail K ⟨putT st.t o.dst v, H'⟩) →
            f2 i = true ∧ ∃ v H', Step P (Opd.ev st.t) st.h o.o v H' ∧ InS p h0 H' ∧ dopsWp6 P f f2 (InS p h0) (i + 1) os K ⟨putT st.t o.dst v, H'⟩ := by
          rintro ⟨hu, hs⟩
          obtain ⟨v, H', h1, h2, h3⟩ := stepK_ok hT hs
          exact ⟨by rw [hg0]; exact hu, v, H', h1, h2, ih h3 hft hgt⟩
        cases hg : o.guard with
        | none =>
          simp only [hg] at h
          obtain ⟨hu, v, H', h1, h2, h3⟩ := run h
          exact .inr ⟨hu, _, by simp only [GStep, hg]; exact ⟨v, H', h1, rfl⟩, h2, h3⟩
        | some q =>
          obtain ⟨t, want⟩ := q
          simp only [hg] at h
          split at h
          · rename_i b hb
            by_cases e : b = want
            · obtain ⟨hu, v, H', h1, h2, h3⟩ := run (h.1 e)
              exact .inr ⟨hu, _, by simp only [GStep, hg, hb]; exact .inl ⟨e, v, H', h1, rfl⟩, h2, h3⟩
            · exact .inl ⟨⟨putT st.t o.dst (.tup []), st.h⟩, fun G _ => by simp only [GStep, hg, hb]; exact .inr ⟨e, trivial⟩, rfl, ih (h.2 e) hft hgt⟩
          · rename_i hb
            exact .inl ⟨⟨putT st.t o.dst (.tup []), st.h⟩, fun G _ => by simp only [GStep, hg, hb], rfl, ih h hft hgt⟩
          · exact h.elim
      · refine .inl ?_
        have run : quietK P T p h0 st.t o.o (fun v => dops6K P T p h0 os lo.tail lo2.tail K ⟨putT st.t o.dst v, st.h⟩) →
            ∃ v, (∀ G, InS p h0 G → Step P (Opd.ev st.t) G o.o v G) ∧ dopsWp6 P f f2 (InS p h0) (i + 1) os K ⟨putT st.t o.dst v, st.h⟩ := by
          intro h
          obtain ⟨v, h1, h2⟩ := quietK_ok hT h
          exact ⟨v, h1, ih h2 hft hgt⟩
        cases hg : o.guard with
        | none =>
          simp only [hg] at h
          obtain ⟨v, h1, h2⟩ := run h
          exact ⟨⟨putT st.t o.dst v, st.h⟩, fun G hG => by simp only [GStep, hg]; exact ⟨v, G, h1 G hG, rfl⟩, rfl, h2⟩
        | some q =>
          obtain ⟨t, want⟩ := q
          simp only [hg] at h
          split at h
          · rename_i b hb
            by_cases e : b = want
            · obtain ⟨v, h1, h2⟩ := run (h.1 e)
              exact ⟨⟨putT st.t o.dst v, st.h⟩, fun G hG => by simp only [GStep, hg, hb]; exact .inl ⟨e, v, G, h1 G hG, rfl⟩, rfl, h2⟩
            · exact ⟨⟨putT st.t o.dst (.tup []), st.h⟩, fun G _ => by simp only [GStep, hg, hb]; exact .inr ⟨e, trivial⟩, rfl, ih (h.2 e) hft hgt⟩
          · rename_i hb
            exact ⟨⟨putT st.t o.dst (.tup []), st.h⟩, fun G _ => by simp only [GStep, hg, hb], rfl, ih h hft hgt⟩
          · exact h.elim
def goC (P : Program) (T : Tab) (p : Nat) (n0 : Nat) : C → (Exit → St → Prop) → St → Prop
  | .skip, Q, st => Q .normal st
  | .seq a b, Q, st => goC P T p n0 a (thenS (goC P T p n0 b Q) Q) st
  | .cond x a b, Q, st => condK (x.ev st.t) (goC P T p n0 a Q st) (goC P T p n0 b Q st)
  | .block id c, Q, st => goC P T p n0 c (inB id Q) st
  | .loop c, Q, st => CW P n0 (.loop c) Q st
  | .exit id, Q, st => Q (.exit id) st
  | .ret, Q, st => Q .ret st
  | .reg os, Q, st => opsK P T os (Q .normal) st
  | .dreg lo lo2 os, Q, st => if needs1 T lo os = true then dops6K P T p st.h os lo lo2 (Q .normal) st else if hasAl lo os = true then dops1K P T st.h false os lo (Q .normal) st else dopsK P T os lo (Q .normal) st
theorem goC_ok {P : Program} {T : Tab} {n0 : Nat} (hT : TabOk P T) (p : Nat) : ∀ {c : C} {Q : Exit → St → Prop} {st : St}, goC P T p n0 c Q st → CW P n0 c Q st := by
  intro c
  induction c with
  | skip => intro Q st h; exact cw_skip h
  | seq a b iha ihb =>
    intro Q st h
    refine cw_seq (cw_mono (iha h) fun e st q => ?_)
    cases e <;> first | exact ihb q | exact q
  | cond x a b iha ihb =>
    intro Q st h
    simp only [goC] at h
    unfold condK at h
    split at h
    · rename_i hx
      exact cw_cond hx (fun e => iha (h.1 e)) (fun e => ihb (h.2 e))
    · exact h.elim
  | block id c ih => intro Q st h; exact cw_block (ih h)
  | loop c ih => intro Q st h; exact h
  | exit id => intro Q st h; exact cw_exit h
  | ret => intro Q st h; exact cw_ret h
  | reg os => intro Q st h; exact cw_reg (opsK_ok hT h)
  | dreg lo lo2 os =>
    intro Q st h
    simp only [goC] at h
    split at h
    · exact cw_dreg6 (InS p st.h) (InS.refl _ _) (dops6K_ok hT h (fun j => by rw [Nat.zero_add]) fun j => by rw [Nat.zero_add])
    split at h
    · exact cw_dreg1 (dops1K_ok hT h fun j => by rw [Nat.zero_add])
    · exact cw_dreg (dopsK_ok hT h fun j => by rw [Nat.zero_add])
section
variable {P : Program} {T : Tab} {p n0 : Nat} {Q : Exit → St → Prop} {st : St} {H : List Blk}
theorem goC_skip : goC P T p n0 .skip Q st = Q .normal st := by simp only [goC]
theorem goC_seq {a b : C} : goC P T p n0 (.seq a b) Q st = goC P T p n0 a (thenS (goC P T p n0 b Q) Q) st := by simp only [goC]
def condC (P : Program) (T : Tab) (p n0 : Nat) (v : AV) (a b : C) (Q : Exit → St → Prop) (st : St) : Prop :=
  match v with
  | .bool c => (c = true → goC P T p n0 a Q st) ∧ (c = false → goC P T p n0 b Q st)
  | _ => False
theorem condC_t {a b : C} : condC P T p n0 (.bool true) a b Q st = goC P T p n0 a Q st := by simp [condC]
theorem condC_f {a b : C} : condC P T p n0 (.bool false) a b Q st = goC P T p n0 b Q st := by simp [condC]
theorem condC_b {a b : C} {c : Bool} : condC P T p n0 (.bool c) a b Q st = ((c = true → goC P T p n0 a Q st) ∧ (c = false → goC P T p n0 b Q st)) := (rfl)
theorem goC_cond {x : Opd} {a b : C} {t : List AV} : goC P T p n0 (.cond x a b) Q ⟨t, H⟩ = condC P T p n0 (x.ev t) a b Q ⟨t, H⟩ := by
  simp only [goC, condC]
  generalize x.ev t = v
  cases v <;> rfl
theorem goC_ret : goC P T p n0 .ret Q st = Q .ret st := by simp only [goC]
theorem goC_reg {os : List OpR} : goC P T p n0 (.reg os) Q st = opsK P T os (Q .normal) st := by simp only [goC]
theorem goC_dreg {lo lo2 : List Bool} {os : List OpR} {t : List AV} : goC P T p n0 (.dreg lo lo2 os) Q ⟨t, H⟩ = if needs1 T lo os = true then dops6K P T p H os lo lo2 (Q .normal) ⟨t, H⟩ else if hasAl lo os = true then dops1K P T H false os lo (Q .normal) ⟨t, H⟩ else dopsK P T os lo (Q .normal) ⟨t, H⟩ := by simp only [goC]
variable {h0 : List Blk} {d : Option Nat} {o : O} {os : List OpR} {lo lo2 : List Bool} {k : St → Prop} {t : List AV}
def one6 (P : Program) (T : Tab) (p : Nat) (h0 : List Blk) (d : Option Nat) (o : O) (os : List OpR) (lo lo2 : List Bool) (k : St → Prop) (t : List AV) (H : List Blk) : Prop :=
  if isL T o = true then lo2.headD false = true ∧ stepK P T t H o (fun v H' => InS p h0 H' ∧ dops6K P T p h0 os lo.tail lo2.tail k ⟨putT t d v, H'⟩)
  else quietK P T p h0 t o (fun v => dops6K P T p h0 os lo.tail lo2.tail k ⟨putT t d v, H⟩)
theorem one6_eq : one6 P T p h0 d o os lo lo2 k t H =
  if isL T o = true then lo2.headD false = true ∧ stepK P T t H o (fun v H' => InS p h0 H' ∧ dops6K P T p h0 os lo.tail lo2.tail k ⟨putT t d v, H'⟩)
  else quietK P T p h0 t o (fun v => dops6K P T p h0 os lo.tail lo2.tail k ⟨putT t d v, H⟩) := (rfl)
theorem dops6K_cons : dops6K P T p h0 (⟨d, o, none⟩ :: os) lo lo2 k ⟨t, H⟩ =
    if lo.headD false = true ∧ (lo.all id && decide (os.length < lo.length)) = true then dopsK P T (⟨d, o, none⟩ :: os) lo k ⟨t, H⟩
    else one6 P T p h0 d o os lo lo2 k t H := (rfl)
variable {g : Nat} {want b : Bool}
theorem quietK_eq {K : AV → Prop} : quietK P T p h0 t o K = ∃ v, (∀ x L, (if o.isBsl = true then freshK P t (h0.set p x ++ L) o (fun v' H' => v' = v ∧ H' = h0.set p x ++ L) else stepK P T t (h0.set p x ++ L) o (fun v' H' => v' = v ∧ H' = h0.set p x ++ L))) ∧ K v := (rfl)
end
attribute [simp] goC_skip goC_seq goC_cond goC_ret goC_reg goC_dreg condC_t condC_f dops6K_cons one6_eq quietK_eq isPre_self inS_set inS_app
attribute [simp low] condC_b
end Go.Vm
namespace Go.Vm
open Go.RowKit
section
variable {P : Program} {B : Base} {n : Nat} {ops : Array Oper} {os' : List OpR} {D : Nat → List Nat} {ts : Nat → List AV} {Hd : (Nat → Prop) → List Blk → Prop}
structure Gen (P : Program) (os' : List OpR) (D : Nat → List Nat) (ts : Nat → List AV) (Hd : (Nat → Prop) → List Blk → Prop) : Prop where
  put : ∀ (k : Nat) o, os'[k]? = some o → ∃ v, ts (k + 1) = putT (ts k) o.dst v
  step : ∀ (i : Nat) o', os'[i]? = some o' → ∀ (dn : Nat → Prop) (H : List Blk), (∀ i j, dn i → j ∈ D i → dn j) → ¬ dn i → (∀ j, j ∈ D i → dn j) → Hd dn H → ∃ Hn, GStep P o' ⟨ts i, H⟩ ⟨ts (i + 1), Hn⟩ ∧ Hd (fun j => j = i ∨ dn j) Hn
theorem slot_same8 (hst : ∀ (k : Nat) o, os'[k]? = some o → ∃ v, ts (k + 1) = putT (ts k) o.dst v) (t : Nat) :
    ∀ (d a : Nat), a + d ≤ os'.length → (∀ (j : Nat) p', a ≤ j → j < a + d → os'[j]? = some p' → p'.dst ≠ some t) → (ts (a + d))[t]? = (ts a)[t]?
  | 0, a, _, _ => rfl
  | d + 1, a, hn, h => by
    have h1 := slot_same8 hst t d a (by omega) fun j p' hj hj2 => h j p' hj (by omega)
    have hlt : a + d < os'.length := by omega
    obtain ⟨v, hv⟩ := hst (a + d) _ (List.getElem?_eq_getElem hlt)
    rw [show a + (d + 1) = a + d + 1 by omega, hv, putT_other (h (a + d) _ (by omega) (by omega) (List.getElem?_eq_getElem hlt)), h1]
theorem len_same8 (hst : ∀ (k : Nat) o, os'[k]? = some o → ∃ v, ts (k + 1) = putT (ts k) o.dst v) : ∀ k, k ≤ os'.length → (ts k).length = (ts 0).length
  | 0, _ => rfl
  | k + 1, h => by
    obtain ⟨v, hv⟩ := hst k _ (List.getElem?_eq_getElem (by omega))
    rw [hv, putT_length, len_same8 hst k (by omega)]
structure DInv8 (B : Base) (n : Nat) (os' : List OpR) (ops : Array Oper) (ts : Nat → List AV) (Hd : (Nat → Prop) → List Blk → Prop) (w0 : World) (H0 : List Blk) (μ0 : Mu) (a0 : Act) (listed : Array Bool) (a : Act) (w : World) (H : List Blk) (μ : Mu) : Prop where
  size : listed.size = n
  rel : Rel B w H μ
  heap : Hd (done listed) H
  tmps : a.tmps.size = (ts 0).length
  slots : ∀ k, k ≤ n → ∀ t x, (ts k)[t]? = some x → curT os' (done listed) t k → RepV B w H μ x (a.tmps.getD t undef)
  defers : a.defers = a0.defers
  ext : Ext B w0 H0 μ0 w H μ
  closed : ∀ i o, ops[i]? = some o → done listed i → ∀ e ∈ o.after, Region.binds .any e = true → done listed e.on
theorem dinv_step8 {w0 : World} {H0 : List Blk} {μ0 : Mu} {a0 : Act} (hD : DOk ops os' D) (hops : All2 (COper P ops) os' ops.toList) (hn : n = ops.size) (X : Gen P os' D ts Hd)
    {listed : Array Bool} {a : Act} {w : World} {H : List Blk} {μ : Mu} (J : DInv8 B n os' ops ts Hd w0 H0 μ0 a0 listed a w H μ) {i : Nat} (hi : i ∈ Region.ready .any ops listed)
    {K : Act → World → Prop} {Q : Exit → Act → World → Prop} (hK : ∀ a' w' H' μ', DInv8 B n os' ops ts Hd w0 H0 μ0 a0 (listed.setIfInBounds i true) a' w' H' μ' → K a' w') : wpOp P ops Q i K a w := by
  obtain ⟨hin, hnot, o, ho, hedges⟩ := ready_mem hi
  have hil : i < os'.length := by rw [hD.len]; exact hin
  obtain ⟨o', ho'⟩ : ∃ o', os'[i]? = some o' := ⟨_, List.getElem?_eq_getElem hil⟩
  have hco : COper P ops o' o := by
    obtain ⟨o2, h2, h3⟩ := hops.get ho'
    have : ops.toList[i]? = some o := by simpa using ho
    rw [this] at h2; cases h2; exact h3
  have hnd : ¬ done listed i := by unfold done; rw [hnot]; simp
  have hpre : ∀ j, j ∈ D i → done listed j := by
    intro j hj
    obtain ⟨o2, e, ho2, he, hb, hor⟩ := hD.tab i j hj
    rw [ho] at ho2; cases ho2
    rcases hor with rfl | hor
    · exact hedges e he hb
    · exact D_done hD J.closed e.on j (hedges e he hb) hor
  have hpost : ∀ j, i ∈ D j → ¬ done listed j := fun j hj hdj => hnd (D_done hD J.closed j i hdj hj)
  have hcurT : ∀ t ∈ o'.reads, curT os' (done listed) t i := by
    intro t ht
    refine ⟨fun j p' hj hp hd => ?_, fun j p' hj hp hd => ?_⟩
    · exact hpre j ((hD.reads i o' ho' t ht j p' hp hd (by omega)).1 hj)
    · by_cases e : j = i
      · subst e; exact hnd
      · exact hpost j ((hD.reads i o' ho' t ht j p' hp hd e).2 (by omega))
  have hin' : i < n := by omega
  obtain ⟨Hn, G, hHd⟩ := X.step i o' ho' (done listed) H (fun i j => D_done hD J.closed i j) hnd hpre J.heap
  have hlen0 : (ts i).length = (ts 0).length := len_same8 X.put i (by omega)
  have hil2 : i < listed.size := by rw [J.size, hn]; exact hin
  have fin : ∀ (v : AV) (val : Value) (w' : World) (μ' : Mu), (ts (i + 1)) = putT (ts i) o'.dst v → Rel B w' Hn μ' → Ext B w H μ w' Hn μ' → RepV B w' Hn μ' v val →
      DInv8 B n os' ops ts Hd w0 H0 μ0 a0 (listed.setIfInBounds i true) (a.put o'.dst val) w' Hn μ' := by
    intro v val w' μ' hv R' E' hvr
    have hset := fun j => done_set (listed := listed) hil2 j
    refine ⟨by simp [J.size], R', ?_, by cases o'.dst <;> simp [Act.put, J.tmps], fun k hk t x hx hc => ?_, by rw [← J.defers]; cases o'.dst <;> rfl, J.ext.trans E', fun j p hp hd e he hb => ?_⟩
    · have : done (listed.setIfInBounds i true) = fun j => j = i ∨ done listed j := funext fun j => propext (hset j)
      rw [this]; exact hHd
    · by_cases hdt : o'.dst = some t
      · have hik : i < k := by
          rcases Nat.lt_or_ge i k with h | h
          · exact h
          · exact absurd ((hset i).2 (.inl rfl)) (hc.2 i o' h ho' hdt)
        have hs := slot_same8 (os' := os') X.put t (k - (i + 1)) (i + 1) (by have := hD.len; omega) fun j p' hj hj2 hp hpd => by
          have hdj := hc.1 j p' (by omega) hp hpd
          rcases (hset j).1 hdj with e | hdj
          · omega
          · exact hpost j (hD.writes i o' ho' j p' hp t hdt hpd (by omega)) hdj
        rw [show i + 1 + (k - (i + 1)) = k by omega, hx, hv, hdt] at hs
        simp only [putT] at hs
        have hlt : t < (ts i).length := by
          have := (List.getElem?_eq_some_iff.1 hs.symm).1
          simpa using this
        rw [List.getElem?_set_self hlt] at hs
        cases hs
        have hlt' : t < a.tmps.size := by rw [J.tmps, ← hlen0]; exact hlt
        simp [Act.put, hdt, hlt']
        exact hvr
      · have hr := J.slots k hk t x hx ⟨fun j p' hj hp hpd => ?_, fun j p' hj hp hpd hdj => hc.2 j p' hj hp hpd ((hset j).2 (.inr hdj))⟩
        · have he : (a.put o'.dst val).tmps.getD t undef = a.tmps.getD t undef := by
            cases hd : o'.dst with
            | none => rfl
            | some d =>
              have : d ≠ t := fun e => hdt (by rw [hd, e])
              simp [Act.put, Array.getElem?_setIfInBounds_ne this]
          rw [he]
          exact hr.ext E'
        · rcases (hset j).1 (hc.1 j p' hj hp hpd) with e | h
          · subst e; rw [ho'] at hp; cases hp; exact absurd hpd hdt
          · exact h
    · rcases (hset j).1 hd with rfl | hdj
      · rw [ho] at hp; cases hp; exact (hset e.on).2 (.inr (hedges e he hb))
      · exact (hset e.on).2 (.inr (J.closed j p hp hdj e he hb))
  obtain ⟨hdst, hcc, hgd⟩ := hco
  have hslot : ∀ t ∈ o'.reads, ∀ x, (ts i)[t]? = some x → RepV B w H μ x (a.tmps.getD t undef) := fun t ht x hx => J.slots i (by omega) t x hx (hcurT t ht)
  let ρ' : Opd → AV := fun x => match x with
    | .t m => if m ∈ o'.reads then (ts i).getD m .undef else .undef
    | .k v => v
  have hρ : ∀ x ∈ o'.o.operands, Opd.ev (ts i) x = ρ' x := by
    intro x hx
    cases x with
    | k v => rfl
    | t m =>
      have : m ∈ o'.reads := by
        unfold OpR.reads
        exact List.mem_append_left _ (List.mem_filterMap.2 ⟨.t m, hx, rfl⟩)
      simp only [Opd.ev, ρ', if_pos this]
  have hOp : Opds B w H μ ρ' a := by
    intro x x' hx
    cases x with
    | tmp m =>
      simp only [cOpd, Option.some.injEq] at hx
      subst hx
      simp only [ρ', Act.eval]
      split
      · rename_i hm
        cases hi : (ts i)[m]? with
        | none => simp [List.getD, hi]; trivial
        | some y => simp only [List.getD, hi, Option.getD_some]; exact hslot m hm y hi
      · trivial
    | const v =>
      simp only [cOpd] at hx
      obtain ⟨a', h1, rfl⟩ := Option.map_eq_some_iff.1 hx
      exact constAV_rep h1
    | func f =>
      simp only [cOpd, Option.some.injEq] at hx
      subst hx
      exact ⟨#[], rfl, .nil⟩
    | global g => simp [cOpd] at hx
  unfold wpOp
  rw [ho]
  simp only
  obtain ⟨dst, op, ty, pos, after, guard⟩ := o
  simp only at hdst hcc hgd
  have run : (∃ v H', Step P (Opd.ev (ts i)) H o'.o v H' ∧ (⟨(ts (i + 1)), Hn⟩ : St) = ⟨putT (ts i) o'.dst v, H'⟩) → ({ dst, op, type := ty, pos, after, guard } : Oper).wp P a w K Q := by
    rintro ⟨v, H', hs, he⟩
    have hs' := hs.congr hρ
    simp only [St.mk.injEq] at he
    obtain ⟨he1, he2⟩ := he
    refine step_wp J.rel hcc hOp hs' fun val w' μ' R' E' hv => ?_
    rw [← hdst]
    rw [← he2] at R' E' hv
    exact hK _ _ _ _ (fin v val w' μ' he1 R' E' hv)
  have skip : (⟨(ts (i + 1)), Hn⟩ : St) = ⟨putT (ts i) o'.dst (.tup []), H⟩ → K (a.put dst undef) w := by
    intro he
    simp only [St.mk.injEq] at he
    obtain ⟨he1, hh⟩ := he
    rw [← hdst]
    refine hK _ _ Hn μ (fin (.tup []) undef w μ he1 ?_ ?_ repV_undef)
    · rw [hh]; exact J.rel
    · rw [hh]; exact Ext.refl _ _ _ _
  unfold GStep at G
  cases hg' : o'.guard with
  | none =>
    cases guard with
    | some _ => simp [hg'] at hgd
    | none =>
      rw [if_pos (by simp [Region.wanted])]
      simp only [hg'] at G
      exact .inl (run G)
  | some p =>
    obtain ⟨tt, want⟩ := p
    cases guard with
    | none => simp [hg'] at hgd
    | some q =>
      obtain ⟨j, want'⟩ := q
      simp only [hg'] at hgd G
      obtain ⟨rfl, hj⟩ := hgd
      have htr : tt ∈ o'.reads := by unfold OpR.reads; rw [hg']; simp
      split at G
      · rename_i b hb
        have hs := slot_of_getD hb (by simp)
        have W := (wanted_slot (ops := ops) hs (by rw [J.tmps, hlen0]) (hslot tt htr _ hs) (o := { dst, op, type := ty, pos, after, guard := some (j, want') }) rfl hj).1 b rfl
        rw [W]
        rcases G with ⟨e, G⟩ | ⟨e, G⟩
        · rw [if_pos (by simp [e])]; exact .inl (run G)
        · rw [if_neg (by simp [e])]; exact skip G
      · rename_i hb
        have hs := slot_of_getD hb (by simp)
        have W := (wanted_slot (ops := ops) hs (by rw [J.tmps, hlen0]) (hslot tt htr _ hs) (o := { dst, op, type := ty, pos, after, guard := some (j, want') }) rfl hj).2 rfl
        rw [W, if_neg (by simp)]
        exact skip G
      · exact G.elim
theorem drawn_any8 {w0 : World} {H0 : List Blk} {μ0 : Mu} {a0 : Act} (hD : DOk ops os' D) (hops : All2 (COper P ops) os' ops.toList) (hn : n = ops.size)
    (X : Gen P os' D ts Hd)
    {Q : Exit → Act → World → Prop} (hQ : ∀ a w H μ listed, (∀ i, i < n → done listed i) → DInv8 B n os' ops ts Hd w0 H0 μ0 a0 listed a w H μ → Q .normal a w) :
    ∀ (fuel : Nat) (listed : Array Bool) (a : Act) (w : World) (H : List Blk) (μ : Mu), undone n listed = fuel → DInv8 B n os' ops ts Hd w0 H0 μ0 a0 listed a w H μ → wpAny P .any ops Q fuel listed a w := by
  have full : ∀ (listed : Array Bool) (a : Act) (w : World) (H : List Blk) (μ : Mu), DInv8 B n os' ops ts Hd w0 H0 μ0 a0 listed a w H μ → Region.ready .any ops listed = [] → ∀ i, i < n → done listed i := by
    intro listed a w H μ J hr i
    induction i using Nat.strongRecOn with
    | ind i ih =>
      intro hi
      have hin : i < ops.size := by omega
      have hil : i < listed.size := by rw [J.size]; exact hi
      have hnm : i ∉ Region.ready .any ops listed := by rw [hr]; simp
      unfold Region.ready at hnm
      simp only [List.mem_filter, List.mem_range, Bool.and_eq_true, Bool.not_eq_true', not_and] at hnm
      have h2 := hnm hin
      have ho : ops[i]? = some ops[i] := Array.getElem?_eq_getElem hin
      have hall : (ops[i].after.all fun e => !Region.binds .any e || listed.getD e.on false) = true := by
        rw [Array.all_eq_true_iff_forall_mem]
        intro e he
        cases hb : Region.binds .any e with
        | false => rfl
        | true =>
          have hlt := hD.small i _ ho e he hb
          have := ih e.on hlt (by omega)
          unfold done at this
          simp [Array.getD_eq_getD_getElem?, this]
      have hd : listed[i]? = some listed[i] := Array.getElem?_eq_getElem hil
      unfold done
      cases hb : listed[i] with
      | true => rw [hd, hb]
      | false =>
        have := h2 (by simp [Array.getD_eq_getD_getElem?, hd, hb])
        simp only [ho, Option.map_some, Option.getD_some] at this
        exact absurd hall this
  intro fuel
  induction fuel with
  | zero =>
    intro listed a w H μ hu J
    have hall : ∀ i, i < n → done listed i := by
      intro i hi
      unfold undone at hu
      have := List.eq_nil_of_length_eq_zero hu
      rw [List.filter_eq_nil_iff] at this
      have := this i (List.mem_range.2 hi)
      unfold done
      simpa using this
    refine ⟨?_, hQ a w H μ listed hall J⟩
    cases hr : Region.ready .any ops listed with
    | nil => rfl
    | cons i is =>
      obtain ⟨h1, h2, _⟩ := ready_mem (ops := ops) (listed := listed) (i := i) (by rw [hr]; simp)
      have := hall i (by omega)
      unfold done at this
      rw [h2] at this
      cases this
  | succ fuel ih =>
    intro listed a w H μ hu J
    refine ⟨fun hr => hQ a w H μ listed (full listed a w H μ J hr) J, fun i hi => ?_⟩
    refine dinv_step8 hD hops hn X J hi fun a' w' H' μ' J' => ih _ a' w' H' μ' ?_ J'
    obtain ⟨h1, h2, _⟩ := ready_mem hi
    have hil : i < listed.size := by rw [J.size]; omega
    have := filter_flip (p := fun i => listed[i]? != some true) (q := fun j => (listed.setIfInBounds i true)[j]? != some true) (List.nodup_range (n := n)) (i := i) (List.mem_range.2 (by omega)) (by rw [h2]; rfl) (by simp [hil])
      (fun j _ hj => by rw [Array.getElem?_setIfInBounds_ne (fun e => hj e.symm)])
    unfold undone at hu ⊢
    omega
theorem gen_sound (hD : DOk ops os' D) (hops : All2 (COper P ops) os' ops.toList) (hmix : P.follows .mixedOrders = true) {Q : Exit → Act → World → Prop} {K : St → Prop} {st : St} {w : World} {μ : Mu} {a : Act}
    (X : Gen P os' D ts Hd) (h0 : ts 0 = st.t) (hs0 : Hd (fun _ => False) st.h) (hK : ∀ dn H, (∀ i, i < ops.size → dn i) → Hd dn H → K ⟨ts os'.length, H⟩) (R : Rel B w st.h μ) (hs : Slots B w st.h μ st.t a) {id : Nat}
    (hQ : ∀ st' a' w' μ', K st' → Rel B w' st'.h μ' → Slots B w' st'.h μ' st'.t a' → a'.defers = a.defers → Ext B w st.h μ w' st'.h μ' → Q .normal a' w') : (Code.region id ops true).wp P Q a w := by
  obtain ⟨R1, E1⟩ := R.world (w' := { w with drawn := w.drawn + 1 }) ((Below.refl _ _).drew)
  refine wp_region_any hmix (drawn_any8 (B := B) (n := ops.size) (ts := ts) (Hd := Hd) (w0 := w) (H0 := st.h) (μ0 := μ) (a0 := a) hD hops rfl X ?_ ops.size _ a _ st.h μ ?_ ?_)
  · intro a' w' H' μ' listed hall J
    have hcT : ∀ t, curT os' (done listed) t os'.length := fun t => ⟨fun j p' hj _ _ => hall j (by rw [← hD.len]; exact hj), fun j p' hj hp _ => absurd (List.getElem?_eq_some_iff.1 hp).1 (by omega)⟩
    refine hQ ⟨ts os'.length, H'⟩ a' w' μ' (hK _ _ hall J.heap) J.rel ⟨?_, fun t x hx => ?_⟩ J.defers J.ext
    · rw [J.tmps, len_same8 X.put os'.length (Nat.le_refl _)]
    · exact J.slots os'.length (by rw [hD.len]; exact Nat.le_refl _) t x hx (hcT t)
  · unfold undone
    have : ∀ m, ((List.range m).filter fun i => (Array.replicate ops.size false)[i]? != some true).length = m := by
      intro m
      rw [List.filter_eq_self.2]
      · simp
      · intro i _
        by_cases h : i < ops.size
        · simp [h]
        · simp [h]
    exact this ops.size
  · have hnd : ∀ i, ¬ done (Array.replicate ops.size false) i := by
      intro i
      unfold done
      by_cases h : i < ops.size
      · simp [h]
      · simp [h]
    have hdn : done (Array.replicate ops.size false) = fun _ => False := funext fun i => propext ⟨fun h => hnd i h, fun h => h.elim⟩
    refine ⟨by simp, R1, by rw [hdn]; exact hs0, by rw [h0]; exact hs.1, fun k hk t x hx hc => ?_, rfl, E1, fun i o _ hd => absurd hd (hnd i)⟩
    have := slot_same8 (os' := os') X.put t k 0 (by rw [hD.len]; omega) fun j p' _ hj hp hpd => hnd j (hc.1 j p' (by omega) hp hpd)
    rw [Nat.zero_add, hx, h0] at this
    exact (hs.2 t x this.symm).ext E1
end
end Go.Vm
namespace Go.Vm
open Go.RowKit
theorem weak_void {n0 : Nat} {t : List AV} {H : List Blk} : Weak n0 ⟨t, H⟩ ⟨t, H ++ [.void]⟩ := by
  intro B w μ a R S
  obtain ⟨R1, E1⟩ := R.push .void rfl
  exact ⟨μ, R1, ⟨S.1, fun i x hx => (S.2 i x hx).ext E1⟩, E1.extN n0⟩
def depF (os : List OpR) : Nat → Nat → Nat → Bool
  | 0, _, _ => false
  | f + 1, i, j => match os[i]? with
    | some o => (List.range i).any fun m => (match (os[m]?).bind (·.dst) with | some t => o.reads.contains t | none => false) && (m == j || depF os f m j)
    | none => false
def ordF (os : List OpR) (lo2 : Nat → Bool) (i x : Nat) : Bool := (lo2 i && lo2 x) || depF os os.length i x || depF os os.length x i
section
variable {P : Program} {B : Base} {ops : Array Oper} {os' : List OpR} {D : Nat → List Nat}
theorem depF_step {f i j : Nat} (h : depF os' (f + 1) i j = true) : ∃ o m p t, os'[i]? = some o ∧ m < i ∧ os'[m]? = some p ∧ p.dst = some t ∧ t ∈ o.reads ∧ (m = j ∨ depF os' f m j = true) := by
  unfold depF at h
  cases ho : os'[i]? with
  | none => simp [ho] at h
  | some o =>
    simp only [ho, List.any_eq_true, List.mem_range, Bool.and_eq_true, Bool.or_eq_true, beq_iff_eq] at h
    obtain ⟨m, hm, h1, h2⟩ := h
    cases hp : os'[m]? with
    | none => simp [hp] at h1
    | some p =>
      simp only [hp, Option.bind_some] at h1
      cases hd : p.dst with
      | none => simp [hd] at h1
      | some t =>
        simp only [hd, List.contains_iff_mem] at h1
        exact ⟨o, m, p, t, rfl, hm, hp, hd, h1, h2⟩
theorem depF_lt : ∀ {f i j : Nat}, depF os' f i j = true → j < i
  | 0, _, _, h => by simp [depF] at h
  | f + 1, i, j, h => by
    obtain ⟨o, m, p, t, -, hm, -, -, -, h2⟩ := depF_step h
    rcases h2 with rfl | h2
    · exact hm
    · have := depF_lt h2; omega
theorem depF_done (hD : DOk ops os' D) {dn : Nat → Prop} (hcl : ∀ i j, dn i → j ∈ D i → dn j) : ∀ {f i j : Nat}, depF os' f i j = true → (∀ x, x ∈ D i → dn x) → dn j
  | 0, _, _, h, _ => by simp [depF] at h
  | f + 1, i, j, h, hp => by
    obtain ⟨o, m, p, t, ho, hm, hpp, hd, ht, h2⟩ := depF_step h
    have hdm : dn m := hp m ((hD.reads i o ho t ht m p hpp hd (by omega)).1 hm)
    rcases h2 with rfl | h2
    · exact hdm
    · exact depF_done hD hcl h2 fun x hx => hcl m x hdm hx
theorem ordF_done (hD : DOk ops os' D) {lo2 : Nat → Bool} (hlo2 : ∀ k, k < ops.size → lo2 k = true → ∀ j, j < ops.size → lo2 j = true → j ≠ k → j ∈ D k ∨ k ∈ D j) {dn : Nat → Prop} (hcl : ∀ i j, dn i → j ∈ D i → dn j) {i x : Nat}
    (hi : i < ops.size) (hx : x < ops.size) (hnd : ¬ dn i) (hp : ∀ j, j ∈ D i → dn j) (hne : x ≠ i) (h : ordF os' lo2 i x = true) : (x < i → dn x) ∧ (i < x → ¬ dn x) := by
  unfold ordF at h
  simp only [Bool.or_eq_true, Bool.and_eq_true] at h
  rcases h with (⟨h1, h2⟩ | h) | h
  · rcases hlo2 i hi h1 x hx h2 hne with h3 | h3
    · have := D_lt hD i x h3
      exact ⟨fun _ => hp x h3, fun h => by omega⟩
    · have := D_lt hD x i h3
      exact ⟨fun h => by omega, fun _ hd => hnd (hcl x i hd h3)⟩
  · have := depF_lt h
    exact ⟨fun _ => depF_done hD hcl h hp, fun h => by omega⟩
  · have := depF_lt h
    exact ⟨fun h => by omega, fun _ hd => hnd (depF_done hD hcl h fun y hy => hcl x y hd hy)⟩
def Ag (kn : Nat → Bool) (T Z : List Blk) : Prop := Z.length = T.length ∧ ∀ j, kn j = true → Z[j]? = T[j]?
def dopsWp8 (P : Program) (lo : Nat → Bool) (lc : Nat → Option Nat) (kn : Nat → Nat → Bool) (Hb : List Blk) : Nat → List OpR → (St → Prop) → List Blk → List AV → Prop
  | _, [], K, T, t => K ⟨t, Hb ++ T⟩
  | i, o :: os, K, T, t =>
    ((∀ k, k ≤ os.length → lo (i + k) = true) ∧ dopsWp P lo i (o :: os) K ⟨t, Hb ++ T⟩) ∨
    (lc i = none ∧ ∃ t', (∀ Z, Ag (kn i) T Z → GStep P o ⟨t, Hb ++ Z⟩ ⟨t', Hb ++ Z⟩) ∧ dopsWp8 P lo lc kn Hb (i + 1) os K T t') ∨
    (∃ j k t', lc i = some j ∧ kn i j = true ∧ j < T.length ∧ (∀ Z, Ag (kn i) T Z → GStep P o ⟨t, Hb ++ Z⟩ ⟨t', Hb ++ Z.set j k⟩) ∧ dopsWp8 P lo lc kn Hb (i + 1) os K (T.set j k) t')
def effT (lc : Nat → Option Nat) (ct : Nat → Blk) (k : Nat) (Z : List Blk) : List Blk := match lc k with
  | none => Z
  | some j => Z.set j (ct k)
theorem effT_len {lc : Nat → Option Nat} {ct : Nat → Blk} {k : Nat} {Z : List Blk} : (effT lc ct k Z).length = Z.length := by
  unfold effT; split <;> simp
theorem effT_get {lc : Nat → Option Nat} {ct : Nat → Blk} {k j : Nat} {Z : List Blk} (h : lc k ≠ some j) : (effT lc ct k Z)[j]? = Z[j]? := by
  unfold effT
  split
  · rfl
  · rename_i j' hj
    exact List.getElem?_set_ne fun e => h (by rw [hj, e])
structure Tr8 (P : Program) (lo : Nat → Bool) (lc : Nat → Option Nat) (kn : Nat → Nat → Bool) (Hb : List Blk) (i : Nat) (os : List OpR) (K : St → Prop) (T : List Blk) (t : List AV) (sts : Nat → St) (Tt : Nat → List Blk) (ct : Nat → Blk) (m : Nat) : Prop where
  z : sts 0 = ⟨t, Hb ++ T⟩
  tz : Tt 0 = T
  fin : K (sts os.length)
  le : m ≤ os.length
  lo' : ∀ k, m ≤ k → k < os.length → lo (i + k) = true
  put : ∀ (k : Nat) o, os[k]? = some o → GStep P o (sts k) (sts (k + 1))
  h : ∀ k, k ≤ m → (sts k).h = Hb ++ Tt k ∧ (Tt k).length = T.length
  tail : ∀ k, k < m → Tt (k + 1) = effT (fun x => lc (i + x)) ct k (Tt k)
  st : ∀ k, k < m → ∀ o, os[k]? = some o → ∀ Z, Ag (kn (i + k)) (Tt k) Z → GStep P o ⟨(sts k).t, Hb ++ Z⟩ ⟨(sts (k + 1)).t, Hb ++ effT (fun x => lc (i + x)) ct k Z⟩
  own : ∀ k, k < m → ∀ j, lc (i + k) = some j → kn (i + k) j = true ∧ j < T.length
theorem dops8_trace {lo : Nat → Bool} {lc : Nat → Option Nat} {kn : Nat → Nat → Bool} {Hb : List Blk} : ∀ {os : List OpR} {i : Nat} {K : St → Prop} {T : List Blk} {t : List AV}, dopsWp8 P lo lc kn Hb i os K T t →
    ∃ sts Tt ct m, Tr8 P lo lc kn Hb i os K T t sts Tt ct m := by
  intro os
  induction os with
  | nil =>
    intro i K T t h
    exact ⟨fun _ => ⟨t, Hb ++ T⟩, fun _ => T, fun _ => .dead, 0, rfl, rfl, h, Nat.le_refl _, by intro k _ hk; simp at hk, by simp, fun k hk => ⟨rfl, rfl⟩, by intro k hk; omega, by intro k hk; omega, by intro k hk; omega⟩
  | cons o os ih =>
    intro i K T t h
    unfold dopsWp8 at h
    rcases h with ⟨hall, h⟩ | ⟨hl, t', hv, h⟩ | ⟨j, c, t', hl, hkn, hjl, hv, h⟩
    · obtain ⟨sts, e0, e1, e2⟩ := dops_trace h
      refine ⟨sts, fun _ => T, fun _ => .dead, 0, e0, rfl, e2, Nat.zero_le _, fun k _ hk => hall k (by simp at hk; omega), fun k o' hk => (e1 k o' hk).1, fun k hk => ?_, by intro k hk; omega, by intro k hk; omega, by intro k hk; omega⟩
      have : k = 0 := by omega
      subst this
      rw [e0]; exact ⟨rfl, rfl⟩
    · obtain ⟨sts, Tt, ct, m, X⟩ := ih h
      have hz : ∀ Z, effT (fun x => lc (i + x)) (fun | 0 => .dead | k + 1 => ct k) 0 Z = Z := fun Z => by simp [effT, hl]
      have hs : ∀ k Z, effT (fun x => lc (i + x)) (fun | 0 => .dead | k + 1 => ct k) (k + 1) Z = effT (fun x => lc (i + 1 + x)) ct k Z := fun k Z => by
        unfold effT; simp only [show i + (k + 1) = i + 1 + k by omega]
      refine ⟨fun | 0 => ⟨t, Hb ++ T⟩ | k + 1 => sts k, fun | 0 => T | k + 1 => Tt k, fun | 0 => .dead | k + 1 => ct k, m + 1, rfl, rfl, X.fin, by have := X.le; simp; omega, fun k hk hkl => ?_, fun k o' hk => ?_, fun k hk => ?_, fun k hk => ?_, fun k hk o' ho' Z hZ => ?_, fun k hk j hj => ?_⟩
      · cases k with
        | zero => omega
        | succ k => have := X.lo' k (by omega) (by simpa using hkl); rwa [show i + 1 + k = i + (k + 1) by omega] at this
      · cases k with
        | zero =>
          simp at hk; subst hk
          simp only [X.z]
          exact hv T ⟨rfl, fun _ _ => rfl⟩
        | succ k => exact X.put k o' (by simpa using hk)
      · cases k with
        | zero => exact ⟨rfl, rfl⟩
        | succ k => exact X.h k (by omega)
      · cases k with
        | zero => simp only [hz]; exact X.tz
        | succ k => simp only [hs]; exact X.tail k (by omega)
      · cases k with
        | zero =>
          simp at ho'; subst ho'
          simp only [X.z, hz]
          exact hv Z hZ
        | succ k =>
          simp only [hs]
          exact X.st k (by omega) o' (by simpa using ho') Z (by rw [show i + 1 + k = i + (k + 1) by omega]; exact hZ)
      · cases k with
        | zero => rw [Nat.add_zero, hl] at hj; cases hj
        | succ k => rw [show i + (k + 1) = i + 1 + k by omega] at hj ⊢; exact X.own k (by omega) j hj
    · obtain ⟨sts, Tt, ct, m, X⟩ := ih h
      have hz : ∀ Z, effT (fun x => lc (i + x)) (fun | 0 => c | k + 1 => ct k) 0 Z = Z.set j c := fun Z => by simp [effT, hl]
      have hs : ∀ k Z, effT (fun x => lc (i + x)) (fun | 0 => c | k + 1 => ct k) (k + 1) Z = effT (fun x => lc (i + 1 + x)) ct k Z := fun k Z => by
        unfold effT; simp only [show i + (k + 1) = i + 1 + k by omega]
      refine ⟨fun | 0 => ⟨t, Hb ++ T⟩ | k + 1 => sts k, fun | 0 => T | k + 1 => Tt k, fun | 0 => c | k + 1 => ct k, m + 1, rfl, rfl, X.fin, by have := X.le; simp; omega, fun k hk hkl => ?_, fun k o' hk => ?_, fun k hk => ?_, fun k hk => ?_, fun k hk o' ho' Z hZ => ?_, fun k hk j' hj' => ?_⟩
      · cases k with
        | zero => omega
        | succ k => have := X.lo' k (by omega) (by simpa using hkl); rwa [show i + 1 + k = i + (k + 1) by omega] at this
      · cases k with
        | zero =>
          simp at hk; subst hk
          simp only [X.z]
          exact hv T ⟨rfl, fun _ _ => rfl⟩
        | succ k => exact X.put k o' (by simpa using hk)
      · cases k with
        | zero => exact ⟨rfl, rfl⟩
        | succ k =>
          obtain ⟨a, b⟩ := X.h k (by omega)
          exact ⟨a, by rw [b]; simp⟩
      · cases k with
        | zero => simp only [hz]; exact X.tz
        | succ k => simp only [hs]; exact X.tail k (by omega)
      · cases k with
        | zero =>
          simp at ho'; subst ho'
          simp only [X.z, hz]
          exact hv Z hZ
        | succ k =>
          simp only [hs]
          exact X.st k (by omega) o' (by simpa using ho') Z (by rw [show i + 1 + k = i + (k + 1) by omega]; exact hZ)
      · cases k with
        | zero =>
          rw [Nat.add_zero, hl] at hj'; cases hj'
          exact ⟨hkn, hjl⟩
        | succ k =>
          rw [show i + (k + 1) = i + 1 + k by omega] at hj' ⊢
          obtain ⟨a, b⟩ := X.own k (by omega) j' hj'
          exact ⟨a, by simpa using b⟩
open Classical in
noncomputable def viewT (lc : Nat → Option Nat) (ct : Nat → Blk) (T : List Blk) (dn : Nat → Prop) : Nat → List Blk
  | 0 => T
  | k + 1 => if dn k then effT lc ct k (viewT lc ct T dn k) else viewT lc ct T dn k
theorem gstep_put {o : OpR} {st st' : St} (h : GStep P o st st') : ∃ v, st'.t = putT st.t o.dst v := gstep_slot h
def chk8 (os : List OpR) (lo2 : Nat → Bool) (lc : Nat → Option Nat) (kn : Nat → Nat → Bool) : Bool :=
  (List.range os.length).all fun i => (List.range os.length).all fun x => match lc x with
    | some j => !(kn i j) || x == i || ordF os lo2 i x
    | none => true
theorem dops_sound8 {lo lo2 : Nat → Bool} {lc : Nat → Option Nat} {kn : Nat → Nat → Bool} {Hb T : List Blk} (hlo2 : ∀ k, k < ops.size → lo2 k = true → ∀ j, j < ops.size → lo2 j = true → j ≠ k → j ∈ D k ∨ k ∈ D j)
    (hlo : ∀ k, k < ops.size → lo k = true → ∀ j, j < ops.size → j ≠ k → j ∈ D k ∨ k ∈ D j) (hD : DOk ops os' D) (hops : All2 (COper P ops) os' ops.toList) (hmix : P.follows .mixedOrders = true) (hchk : chk8 os' lo2 lc kn = true)
    {Q : Exit → Act → World → Prop} {K : St → Prop} {st : St} {w : World} {μ : Mu} {a : Act} (hst : st.h = Hb ++ T) (hk : dopsWp8 P lo lc kn Hb 0 os' K T st.t) (R : Rel B w st.h μ) (hs : Slots B w st.h μ st.t a) {id : Nat}
    (hQ : ∀ st' a' w' μ', K st' → Rel B w' st'.h μ' → Slots B w' st'.h μ' st'.t a' → a'.defers = a.defers → Ext B w st.h μ w' st'.h μ' → Q .normal a' w') : (Code.region id ops true).wp P Q a w := by
  obtain ⟨sts, Tt, ct, m, X⟩ := dops8_trace hk
  have hL := hD.len
  have hle : m ≤ ops.size := by have := X.le; omega
  have hlo' : ∀ k, m ≤ k → k < ops.size → lo k = true := fun k h h' => by have := X.lo' k h (by omega); rwa [Nat.zero_add] at this
  have hlc : (fun x => lc (0 + x)) = lc := funext fun x => by rw [Nat.zero_add]
  have hTl := X.tail
  have hSt := X.st
  have hOw := X.own
  simp only [Nat.zero_add] at hTl hSt hOw
  have hvl : ∀ dn k, (viewT lc ct T dn k).length = T.length := by
    intro dn k
    induction k with
    | zero => rfl
    | succ k ih =>
      unfold viewT
      split
      · rw [effT_len, ih]
      · exact ih
  have hall : ∀ dn k, k ≤ m → (∀ x, x < k → dn x) → viewT lc ct T dn k = Tt k := by
    intro dn k hk h
    induction k with
    | zero => exact X.tz.symm
    | succ k ih =>
      unfold viewT
      rw [if_pos (h k (by omega)), ih (by omega) (fun x hx => h x (by omega)), hTl k (by omega)]
  let Hd : (Nat → Prop) → List Blk → Prop := fun dn H =>
    (∃ i, m ≤ i ∧ i ≤ ops.size ∧ (∀ k, k < ops.size → (dn k ↔ k < i)) ∧ H = (sts i).h) ∨ ((∃ k, k < m ∧ ¬ dn k) ∧ (∀ k, m ≤ k → k < ops.size → ¬ dn k) ∧ H = Hb ++ viewT lc ct T dn m)
  have hG : Gen P os' D (fun k => (sts k).t) Hd := by
    refine ⟨fun k o ho => gstep_put (X.put k o ho), fun i o' ho' dn H hcl hnd hpre hH => ?_⟩
    have hin : i < ops.size := by rw [← hL]; exact (List.getElem?_eq_some_iff.1 ho').1
    by_cases him : m ≤ i
    · have hbef : ∀ j, j < i → dn j := fun j hj => by
        rcases hlo i hin (hlo' i him hin) j (by omega) (by omega) with h | h
        · exact hpre j h
        · have := D_lt hD j i h; omega
      have haft : ∀ j, j < ops.size → i < j → ¬ dn j := fun j hj hij hd => by
        rcases hlo i hin (hlo' i him hin) j hj (by omega) with h | h
        · have := D_lt hD i j h; omega
        · exact hnd (hcl j i hd h)
      rcases hH with ⟨i', h1, h2, h3, h4⟩ | ⟨⟨k, h1, h2⟩, -⟩
      · have e : i' = i := by
          have a1 : ¬ i < i' := fun h => hnd ((h3 i hin).2 h)
          rcases Nat.lt_or_ge i' i with h | h
          · have := (h3 i' (by omega)).1 (hbef i' h); omega
          · omega
        subst e
        refine ⟨(sts (i' + 1)).h, ?_, .inl ⟨i' + 1, by omega, by omega, fun k hk => ⟨fun h => ?_, fun h => ?_⟩, rfl⟩⟩
        · rw [h4]; exact X.put i' o' ho'
        · rcases h with h | h
          · omega
          · have := (h3 k hk).1 h; omega
        · by_cases e : k = i'
          · exact .inl e
          · exact .inr (hbef k (by omega))
      · exact absurd (hbef k (by omega)) h2
    · have him : i < m := by omega
      rcases hH with ⟨i', h1, h2, h3, h4⟩ | ⟨-, hno, hH⟩
      · exact absurd ((h3 i hin).2 (by omega)) hnd
      have hord : ∀ j, kn i j = true → ∀ x, x < ops.size → lc x = some j → x ≠ i → (x < i → dn x) ∧ (i < x → ¬ dn x) := by
        intro j hj x hx hlx hne
        refine ordF_done hD hlo2 hcl hin hx hnd hpre hne ?_
        unfold chk8 at hchk
        have := List.all_eq_true.1 hchk i (List.mem_range.2 (by omega))
        have := List.all_eq_true.1 this x (List.mem_range.2 (by omega))
        simp only [hlx, hj, Bool.not_true, Bool.false_or, Bool.or_eq_true, beq_iff_eq] at this
        rcases this with h | h
        · exact absurd h hne
        · exact h
      have hag : Ag (kn i) (Tt i) (viewT lc ct T dn m) := by
        refine ⟨by rw [hvl, (X.h i (by omega)).2], fun j hj => ?_⟩
        have key : ∀ k, k ≤ m → (viewT lc ct T dn k)[j]? = (Tt (min k i))[j]? := by
          intro k hk
          induction k with
          | zero => simp [viewT, X.tz]
          | succ k ih =>
            have ih := ih (by omega)
            unfold viewT
            by_cases hd : dn k
            · rw [if_pos hd]
              have hki : k ≠ i := fun e => hnd (e ▸ hd)
              by_cases hl : lc k = some j
              · have hlt : k < i := by
                  rcases Nat.lt_or_ge i k with h | h
                  · exact absurd hd ((hord j hj k (by omega) hl hki).2 h)
                  · omega
                rw [show min (k + 1) i = k + 1 by omega, hTl k (by omega)]
                unfold effT
                simp only [hl]
                have l1 : j < (viewT lc ct T dn k).length := by rw [hvl]; exact (hOw k (by omega) j hl).2
                have l2 : j < (Tt k).length := by rw [(X.h k (by omega)).2]; exact (hOw k (by omega) j hl).2
                rw [List.getElem?_set_self l1, List.getElem?_set_self l2]
              · rw [effT_get hl, ih]
                rcases Nat.lt_or_ge k i with h | h
                · rw [show min (k + 1) i = k + 1 by omega, show min k i = k by omega, hTl k (by omega), effT_get hl]
                · rw [show min (k + 1) i = min k i by omega]
            · rw [if_neg hd, ih]
              rcases Nat.lt_or_ge k i with h | h
              · have hl : lc k ≠ some j := fun hl => hd ((hord j hj k (by omega) hl (by omega)).1 h)
                rw [show min (k + 1) i = k + 1 by omega, show min k i = k by omega, hTl k (by omega), effT_get hl]
              · rw [show min (k + 1) i = min k i by omega]
        have := key m (Nat.le_refl _)
        rwa [show min m i = i by omega] at this
      have hview : viewT lc ct T (fun j => j = i ∨ dn j) m = effT lc ct i (viewT lc ct T dn m) := by
        have k1 : ∀ k, k ≤ i → viewT lc ct T (fun j => j = i ∨ dn j) k = viewT lc ct T dn k := by
          intro k hk
          induction k with
          | zero => rfl
          | succ k ih =>
            unfold viewT
            rw [ih (by omega)]
            by_cases hd : dn k
            · rw [if_pos (.inr hd), if_pos hd]
            · rw [if_neg (fun h => h.elim (fun e => by omega) hd), if_neg hd]
        have k2 : ∀ d, i + 1 + d ≤ m → viewT lc ct T (fun j => j = i ∨ dn j) (i + 1 + d) = effT lc ct i (viewT lc ct T dn (i + 1 + d)) := by
          intro d hd
          induction d with
          | zero =>
            have e1 : viewT lc ct T (fun j => j = i ∨ dn j) (i + 1 + 0) = effT lc ct i (viewT lc ct T (fun j => j = i ∨ dn j) i) := by
              show viewT lc ct T (fun j => j = i ∨ dn j) (i + 1) = _
              conv => lhs; unfold viewT
              exact if_pos (.inl rfl)
            have e2 : viewT lc ct T dn (i + 1 + 0) = viewT lc ct T dn i := by
              show viewT lc ct T dn (i + 1) = _
              conv => lhs; unfold viewT
              exact if_neg hnd
            rw [e1, e2, k1 i (Nat.le_refl _)]
          | succ d ih =>
            have ih := ih (by omega)
            rw [show i + 1 + (d + 1) = (i + 1 + d) + 1 by omega]
            conv => lhs; unfold viewT
            conv => rhs; rw [viewT]
            by_cases hd2 : dn (i + 1 + d)
            · rw [if_pos (.inr hd2), if_pos hd2, ih]
              unfold effT
              cases h1 : lc i with
              | none => rfl
              | some j =>
                cases h2 : lc (i + 1 + d) with
                | none => rfl
                | some j' =>
                  simp only
                  by_cases e : j = j'
                  · subst e
                    exact absurd hd2 ((hord j (hOw i him j h1).1 (i + 1 + d) (by omega) h2 (by omega)).2 (by omega))
                  · exact List.set_comm _ _ e
            · have : ¬ (i + 1 + d = i ∨ dn (i + 1 + d)) := fun h => h.elim (fun e => by omega) hd2
              rw [if_neg this, if_neg hd2, ih]
        have := k2 (m - (i + 1)) (by omega)
        rwa [show i + 1 + (m - (i + 1)) = m by omega] at this
      refine ⟨Hb ++ effT lc ct i (viewT lc ct T dn m), ?_, ?_⟩
      · rw [hH]; exact hSt i him o' ho' _ hag
      · by_cases hex : ∃ k, k < m ∧ ¬ (k = i ∨ dn k)
        · exact .inr ⟨hex, fun k hk hkn h => h.elim (fun e => by omega) (hno k hk hkn), by rw [hview]⟩
        · have hall' : ∀ x, x < m → (x = i ∨ dn x) := fun x hx => Classical.not_not.1 fun h => hex ⟨x, hx, h⟩
          refine .inl ⟨m, Nat.le_refl _, hle, fun k hk => ⟨fun h => ?_, hall' k⟩, ?_⟩
          · rcases Nat.lt_or_ge k m with h' | h'
            · exact h'
            · exact (h.elim (fun e => by omega) (hno k h' hk)).elim
          · rw [(X.h m (Nat.le_refl _)).1, ← hview, hall _ m (Nat.le_refl _) hall']
  refine gen_sound (ts := fun k => (sts k).t) (Hd := Hd) hD hops hmix hG (by rw [X.z]) ?_ (fun dn H hdn hH => ?_) R hs hQ
  · by_cases hm0 : m = 0
    · exact .inl ⟨0, by omega, by omega, fun k _ => ⟨fun h => h.elim, fun h => by omega⟩, by rw [X.z]; exact hst⟩
    · refine .inr ⟨⟨0, by omega, fun h => h⟩, fun _ _ _ h => h, ?_⟩
      have : ∀ k, viewT lc ct T (fun _ => False) k = T := by
        intro k
        induction k with
        | zero => rfl
        | succ k ih => unfold viewT; rw [if_neg (fun h => h), ih]
      rw [this, hst]
  · rcases hH with ⟨i, h1, h2, h3, h4⟩ | ⟨⟨k, h1, h2⟩, -⟩
    · have e : i = os'.length := by
        rw [hL]
        rcases Nat.lt_or_ge i ops.size with h | h
        · have := (h3 i h).1 (hdn i h); omega
        · omega
      subst e
      rw [h4]
      exact X.fin
    · exact absurd (hdn k (by omega)) h2
end
end Go.Vm
namespace Go.Vm
open Go.RowKit
def allZ : List Bool → List Blk → (List Blk → Prop) → Prop
  | _, [], F => F []
  | k :: ks, b :: T, F => if k = true then allZ ks T (fun Z => F (b :: Z)) else ∀ x, allZ ks T (fun Z => F (x :: Z))
  | [], _ :: T, F => ∀ x, allZ [] T (fun Z => F (x :: Z))
theorem allZ_ok : ∀ {T : List Blk} {ks : List Bool} {F : List Blk → Prop}, allZ ks T F → ∀ Z, Ag (fun j => ks.getD j false) T Z → F Z
  | [], ks, F, h, Z, hZ => by
    have : Z = [] := List.eq_nil_of_length_eq_zero hZ.1
    subst this
    cases ks <;> exact h
  | b :: T, ks, F, h, Z, hZ => by
    cases Z with
    | nil => simp [Ag] at hZ
    | cons z Z =>
      have hl : Z.length = T.length := by simpa using hZ.1
      cases ks with
      | nil => exact allZ_ok (h z) Z ⟨hl, fun j hj => by simp at hj⟩
      | cons k ks =>
        simp only [allZ] at h
        have ht : Ag (fun j => ks.getD j false) T Z := ⟨hl, fun j hj => by
          have := hZ.2 (j + 1) (by simpa using hj)
          simpa using this⟩
        by_cases hk : k = true
        · rw [if_pos hk] at h
          have h0 := hZ.2 0 (by simpa using hk)
          simp only [List.getElem?_cons_zero, Option.some.injEq] at h0
          subst h0
          exact allZ_ok h Z ht
        · rw [if_neg hk] at h
          exact allZ_ok (h z) Z ht
theorem allZ_nil {ks : List Bool} {F : List Blk → Prop} : allZ ks [] F = F [] := by cases ks <;> rfl
theorem allZ_t {ks : List Bool} {b : Blk} {T : List Blk} {F : List Blk → Prop} : allZ (true :: ks) (b :: T) F = allZ ks T (fun Z => F (b :: Z)) := by simp [allZ]
theorem allZ_f {ks : List Bool} {b : Blk} {T : List Blk} {F : List Blk → Prop} : allZ (false :: ks) (b :: T) F = ∀ x, allZ ks T (fun Z => F (x :: Z)) := by simp [allZ]
theorem allZ_e {b : Blk} {T : List Blk} {F : List Blk → Prop} : allZ [] (b :: T) F = ∀ x, allZ [] T (fun Z => F (x :: Z)) := by simp [allZ]
def O.isPl : O → Bool
  | .bsl .. => true
  | .append .. => true
  | .alloc _ => true
  | _ => false
def isVoid : Option Blk → Bool
  | some .void => true
  | _ => false
theorem stepK_pl {P : Program} {Tb : Tab} {t : List AV} {H : List Blk} {o : O} {K : AV → List Blk → Prop} (h : o.isPl = true) : stepK P Tb t H o K = evK (o.eval (Opd.ev t) H) K := by
  cases o <;> simp [O.isPl] at h <;> rfl
def quiet8 (P : Program) (Tb : Tab) (t : List AV) (o : O) (v : AV) (G : List Blk) : Prop :=
  if o.isBsl = true then freshK P t G o (fun v' H' => v' = v ∧ H' = G) else stepK P Tb t G o (fun v' H' => v' = v ∧ H' = G)
def plcK (P : Program) (Tb : Tab) (t : List AV) (q : Nat) (v : AV) (k : Blk) (G : List Blk) : O → Prop
  | .alloc zs => v = .pbox q 0 ∧ k = .cells zs ∧ offB q (.cells zs) = true ∧ offB G.length (.cells zs) = true
  | .call f args => tabH Tb.h f (args.map (Opd.ev t)) G (fun v0 H' => H' = G ++ [k] ∧ placeV G.length q v0 = some v ∧ offB q k = true ∧ offB G.length k = true) False
  | o => o.isPl = true ∧ stepK P Tb t G o (fun v0 H' => H' = G ++ [k] ∧ placeV G.length q v0 = some v ∧ offB q k = true ∧ offB G.length k = true)
theorem plcK_ok {P : Program} {Tb : Tab} (hT : TabOk P Tb) {t : List AV} {q : Nat} {v : AV} {k : Blk} {G : List Blk} {o : O} (hq : G[q]? = some .void) (h : plcK P Tb t q v k G o) : Step P (Opd.ev t) G o v (G.set q k) := by
  have gen : o.isPl = true ∧ stepK P Tb t G o (fun v0 H' => H' = G ++ [k] ∧ placeV G.length q v0 = some v ∧ offB q k = true ∧ offB G.length k = true) → Step P (Opd.ev t) G o v (G.set q k) := by
    rintro ⟨hpl, hs⟩
    rw [stepK_pl hpl] at hs
    obtain ⟨v0, H', k1, rfl, k3, k4, k5⟩ := evK_ex hs
    exact .evP k1 hq k4 k5 k3
  cases o with
  | alloc zs =>
    obtain ⟨rfl, rfl, h1, h2⟩ := h
    exact .allocP hq h1 h2
  | call f args =>
    rcases tabH_ok hT.2 h with ⟨r, H', hok, rfl, k3, k4, k5⟩ | h
    · exact .callPl hok hq k4 k5 k3
    · exact h.elim
  | _ => exact gen h
def loud8 (P : Program) (Tb : Tab) (t : List AV) (o : O) (pl : Bool) (q j : Nat) (v : AV) (k : Blk) (Hb Z : List Blk) : Prop :=
  if pl = true then plcK P Tb t q v k (Hb ++ Z) o
  else stepK P Tb t (Hb ++ Z) o (fun v' H' => v' = v ∧ H' = Hb ++ Z.set j k)
def dops8K (P : Program) (Tb : Tab) (Hb : List Blk) : List OpR → List (Option Nat) → List (List Bool) → List Bool → (St → Prop) → List Blk → List AV → Prop
  | [], _, _, _, K, T, t => K ⟨t, Hb ++ T⟩
  | o :: os, lc, kn, lo, K, T, t =>
    if lo.headD false = true ∧ (lo.all id && decide (os.length < lo.length)) = true then dopsK P Tb (o :: os) lo K ⟨t, Hb ++ T⟩
    else match o.guard with
      | some _ => False
      | none => match lc.headD none with
        | none => ∃ v, allZ (kn.headD []) T (fun Z => quiet8 P Tb t o.o v (Hb ++ Z)) ∧ dops8K P Tb Hb os lc.tail kn.tail lo.tail K T (putT t o.dst v)
        | some j => (kn.headD []).getD j false = true ∧ j < T.length ∧ ∃ v k, allZ (kn.headD []) T (fun Z => loud8 P Tb t o.o (isVoid T[j]?) (Hb.length + j) j v k Hb Z) ∧ dops8K P Tb Hb os lc.tail kn.tail lo.tail K (T.set j k) (putT t o.dst v)
theorem head_getD {α : Type} {l : List α} {d : α} : l.getD 0 d = l.headD d := by cases l <;> rfl
theorem tail_getD {α : Type} {l : List α} {d : α} {j : Nat} : l.getD (j + 1) d = l.tail.getD j d := by cases l <;> simp
theorem dops8K_ok {P : Program} {Tb : Tab} (hT : TabOk P Tb) {Hb : List Blk} : ∀ {os : List OpR} {lc : List (Option Nat)} {kn : List (List Bool)} {lo : List Bool} {K : St → Prop} {T : List Blk} {t : List AV}, dops8K P Tb Hb os lc kn lo K T t →
    ∀ {i : Nat} {f : Nat → Bool}, (∀ j, f (i + j) = lo.getD j false) → ∀ {g : Nat → Option Nat}, (∀ j, g (i + j) = lc.getD j none) → ∀ {e : Nat → Nat → Bool}, (∀ j x, e (i + j) x = (kn.getD j []).getD x false) → dopsWp8 P f g e Hb i os K T t := by
  intro os
  induction os with
  | nil => intro lc kn lo K T t h i f _ g _ e _; exact h
  | cons o os ih =>
    intro lc kn lo K T t h i f hf g hg e he
    have hft : ∀ j, f (i + 1 + j) = lo.tail.getD j false := by
      intro j; rw [show i + 1 + j = i + (j + 1) by omega, hf, tail_getD]
    have hgt : ∀ j, g (i + 1 + j) = lc.tail.getD j none := by
      intro j; rw [show i + 1 + j = i + (j + 1) by omega, hg, tail_getD]
    have het : ∀ j x, e (i + 1 + j) x = (kn.tail.getD j []).getD x false := by
      intro j x; rw [show i + 1 + j = i + (j + 1) by omega, he, tail_getD]
    have hg0 : g i = lc.headD none := by rw [← head_getD, ← hg 0, Nat.add_zero]
    have he0 : e i = fun x => (kn.headD []).getD x false := by funext x; rw [← head_getD, ← he 0 x, Nat.add_zero]
    unfold dops8K at h
    unfold dopsWp8
    split at h
    · rename_i hl
      obtain ⟨_, ha⟩ := hl
      simp only [Bool.and_eq_true, decide_eq_true_eq] at ha
      exact .inl ⟨fun k hk => by rw [hf]; exact all_getD ha.1 (by omega), dopsK_ok hT h hf⟩
    · refine .inr ?_
      cases hgd : o.guard with
      | some p => simp [hgd] at h
      | none =>
        simp only [hgd] at h
        cases hlc : lc.headD none with
        | none =>
          simp only [hlc] at h
          obtain ⟨v, h1, h2⟩ := h
          refine .inl ⟨by rw [hg0, hlc], putT t o.dst v, fun Z hZ => ?_, ih h2 hft hgt het⟩
          rw [he0] at hZ
          have := allZ_ok h1 Z hZ
          unfold quiet8 at this
          simp only [GStep, hgd]
          split at this
          · obtain ⟨v', H', a', k1, k2, k3, rfl, k5⟩ := this
            exact ⟨a', _, .evZ k1 k2 k3, rfl⟩
          · obtain ⟨v', H', k1, rfl, rfl⟩ := stepK_ok hT this
            exact ⟨v', _, k1, rfl⟩
        | some j =>
          simp only [hlc] at h
          obtain ⟨hkn, hj, v, k, h1, h2⟩ := h
          refine .inr ⟨j, k, putT t o.dst v, by rw [hg0, hlc], by rw [he0]; exact hkn, hj, fun Z hZ => ?_, ih h2 hft hgt het⟩
          have hZ' := hZ
          rw [he0] at hZ
          have hZj := hZ.2 j hkn
          have hzl : j < Z.length := by rw [hZ.1]; exact hj
          have := allZ_ok h1 Z hZ
          unfold loud8 at this
          simp only [GStep, hgd]
          have hset : (Hb ++ Z).set (Hb.length + j) k = Hb ++ Z.set j k := by
            rw [List.set_append_right _ _ (by omega)]; congr 2; omega
          split at this
          · rename_i hv
            refine ⟨v, _, ?_, rfl⟩
            rw [← hset]
            refine plcK_ok hT ?_ this
            rw [List.getElem?_append_right (by omega), show Hb.length + j - Hb.length = j by omega, hZj]
            revert hv
            generalize T[j]? = q
            intro hv
            match q, hv with
            | some .void, _ => rfl
          · obtain ⟨v', H', k1, rfl, rfl⟩ := stepK_ok hT this
            exact ⟨v', _, k1, rfl⟩
theorem cw_dreg8K {P : Program} {n0 : Nat} {lo lo2 : List Bool} {os : List OpR} {Q : Exit → St → Prop} {t : List AV} {Tb : Tab} (hT : TabOk P Tb) (Hb T : List Blk) (lc : List (Option Nat)) (kn : List (List Bool))
    (hc : chk8 os (fun k => lo2.getD k false) (fun k => lc.getD k none) (fun i j => (kn.getD i []).getD j false) = true) (h : dops8K P Tb Hb os lc kn lo (Q .normal) T t) : CW P n0 (.dreg lo lo2 os) Q ⟨t, Hb ++ T⟩ := by
  intro code hcc B w μ a R S'
  cases hcc with
  | dreg hlo2 hlo hD ho hmix =>
    exact dops_sound8 (lo := fun k => lo.getD k false) (lo2 := fun k => lo2.getD k false) hlo2 hlo hD ho hmix hc rfl (dops8K_ok hT h (fun j => by rw [Nat.zero_add]) (fun j => by rw [Nat.zero_add]) (fun j x => by rw [Nat.zero_add])) R S'
      fun st' a' w' μ' q R' S' d E => ⟨st', μ', q, R', S', d, E.extN n0⟩
section
variable {P : Program} {Tb : Tab} {Hb : List Blk} {d : Option Nat} {o : O} {os : List OpR} {l : Option Nat} {lc : List (Option Nat)} {kk : List Bool} {kn : List (List Bool)} {lo : List Bool} {K : St → Prop} {T : List Blk} {t : List AV}
theorem dops8K_none : dops8K P Tb Hb (⟨d, o, none⟩ :: os) (none :: lc) (kk :: kn) lo K T t =
    if lo.headD false = true ∧ (lo.all id && decide (os.length < lo.length)) = true then dopsK P Tb (⟨d, o, none⟩ :: os) lo K ⟨t, Hb ++ T⟩
    else ∃ v, allZ kk T (fun Z => quiet8 P Tb t o v (Hb ++ Z)) ∧ dops8K P Tb Hb os lc kn lo.tail K T (putT t d v) := (rfl)
theorem dops8K_some {j : Nat} : dops8K P Tb Hb (⟨d, o, none⟩ :: os) (some j :: lc) (kk :: kn) lo K T t =
    if lo.headD false = true ∧ (lo.all id && decide (os.length < lo.length)) = true then dopsK P Tb (⟨d, o, none⟩ :: os) lo K ⟨t, Hb ++ T⟩
    else (kk.getD j false = true ∧ j < T.length ∧ ∃ v k, allZ kk T (fun Z => loud8 P Tb t o (isVoid T[j]?) (Hb.length + j) j v k Hb Z) ∧ dops8K P Tb Hb os lc kn lo.tail K (T.set j k) (putT t d v)) := (rfl)
theorem dops8K_end : dops8K P Tb Hb (⟨d, o, none⟩ :: os) [] kn lo K T t =
    if lo.headD false = true ∧ (lo.all id && decide (os.length < lo.length)) = true then dopsK P Tb (⟨d, o, none⟩ :: os) lo K ⟨t, Hb ++ T⟩
    else ∃ v, allZ (kn.headD []) T (fun Z => quiet8 P Tb t o v (Hb ++ Z)) ∧ dops8K P Tb Hb os [] kn.tail lo.tail K T (putT t d v) := (rfl)
theorem quiet8_eq {v : AV} {G : List Blk} : quiet8 P Tb t o v G = if o.isBsl = true then freshK P t G o (fun v' H' => v' = v ∧ H' = G) else stepK P Tb t G o (fun v' H' => v' = v ∧ H' = G) := (rfl)
theorem loud8_t {q j : Nat} {v : AV} {k : Blk} {Z : List Blk} : loud8 P Tb t o true q j v k Hb Z = plcK P Tb t q v k (Hb ++ Z) o := by simp [loud8]
theorem plcK_alloc {q : Nat} {v : AV} {k : Blk} {G : List Blk} {zs : List AV} : plcK P Tb t q v k G (.alloc zs) = (v = .pbox q 0 ∧ k = .cells zs ∧ offB q (.cells zs) = true ∧ offB G.length (.cells zs) = true) := (rfl)
theorem plcK_bsl {q : Nat} {v : AV} {k : Blk} {G : List Blk} {e sz m : Nat} {z : AV} {ps : List (Nat × Opd)} : plcK P Tb t q v k G (.bsl e sz m z ps) = stepK P Tb t G (.bsl e sz m z ps) (fun v0 H' => H' = G ++ [k] ∧ placeV G.length q v0 = some v ∧ offB q k = true ∧ offB G.length k = true) := by simp [plcK, O.isPl]
theorem loud8_f {q j : Nat} {v : AV} {k : Blk} {Z : List Blk} : loud8 P Tb t o false q j v k Hb Z = stepK P Tb t (Hb ++ Z) o (fun v' H' => v' = v ∧ H' = Hb ++ Z.set j k) := by simp [loud8]
theorem isVoid_void : isVoid (some .void) = true := (rfl)
theorem isVoid_row {ow : Bool} {e sz : Nat} {els : List AV} : isVoid (some (.row ow e sz els)) = false := (rfl)
theorem isVoid_cells {cs : List AV} : isVoid (some (.cells cs)) = false := (rfl)
theorem placeV_slref {n q of l t : Nat} : placeV n q (.slref n of l t) = some (.slref q of l t) := by simp [placeV]
theorem offB_nil {q e sz : Nat} {ow : Bool} : offB q (.row ow e sz []) = true := (rfl)
end
attribute [simp] allZ_nil allZ_t allZ_f allZ_e O.isPl dops8K_none dops8K_some dops8K_end quiet8_eq loud8_t loud8_f plcK_alloc plcK_bsl isVoid_void isVoid_row isVoid_cells placeV_slref offB_nil
end Go.Vm
namespace Go.Vm
open Go.RowKit
section
variable {P : Program} {B : Base} {ops : Array Oper} {os' : List OpR} {D : Nat → List Nat}
def One (sg : Nat → Bool) (Z : List (List Blk)) : Prop := ∀ j z, sg j = true → Z[j]? = some z → z.length = 1
theorem One.set {sg : Nat → Bool} {Z : List (List Blk)} (h : One sg Z) {j : Nat} {k : List Blk} (hk : sg j = true → k.length = 1) : One sg (Z.set j k) := by
  intro i z hi hz
  by_cases e : j = i
  · subst e
    rw [List.getElem?_set] at hz
    simp only [if_true] at hz
    split at hz
    · cases hz; exact hk hi
    · cases hz
  · rw [List.getElem?_set_ne e] at hz; exact h i z hi hz
def Ag9 (sg kn : Nat → Bool) (T Z : List (List Blk)) : Prop := (Z.length = T.length ∧ ∀ j, kn j = true → Z[j]? = T[j]?) ∧ One sg Z
def dopsWp9 (P : Program) (lo : Nat → Bool) (sg : Nat → Bool) (lc : Nat → Option Nat) (kn : Nat → Nat → Bool) (Hb : List Blk) : Nat → List OpR → (St → Prop) → List (List Blk) → List AV → Prop
  | _, [], K, T, t => K ⟨t, Hb ++ T.flatten⟩
  | i, o :: os, K, T, t =>
    ((∀ k, k ≤ os.length → lo (i + k) = true) ∧ dopsWp P lo i (o :: os) K ⟨t, Hb ++ T.flatten⟩) ∨
    (lc i = none ∧ ∃ t', (∀ Z, Ag9 sg (kn i) T Z → GStep P o ⟨t, Hb ++ Z.flatten⟩ ⟨t', Hb ++ Z.flatten⟩) ∧ dopsWp9 P lo sg lc kn Hb (i + 1) os K T t') ∨
    (∃ j k t', lc i = some j ∧ kn i j = true ∧ j < T.length ∧ (sg j = true → k.length = 1) ∧ (∀ Z, Ag9 sg (kn i) T Z → GStep P o ⟨t, Hb ++ Z.flatten⟩ ⟨t', Hb ++ (Z.set j k).flatten⟩) ∧ dopsWp9 P lo sg lc kn Hb (i + 1) os K (T.set j k) t')
def effT9 (lc : Nat → Option Nat) (ct : Nat → List Blk) (k : Nat) (Z : List (List Blk)) : List (List Blk) := match lc k with
  | none => Z
  | some j => Z.set j (ct k)
theorem effT9_len {lc : Nat → Option Nat} {ct : Nat → List Blk} {k : Nat} {Z : List (List Blk)} : (effT9 lc ct k Z).length = Z.length := by
  unfold effT9; split <;> simp
theorem effT9_get {lc : Nat → Option Nat} {ct : Nat → List Blk} {k j : Nat} {Z : List (List Blk)} (h : lc k ≠ some j) : (effT9 lc ct k Z)[j]? = Z[j]? := by
  unfold effT9
  split
  · rfl
  · rename_i j' hj
    exact List.getElem?_set_ne fun e => h (by rw [hj, e])
structure Tr9 (P : Program) (lo : Nat → Bool) (sg : Nat → Bool) (lc : Nat → Option Nat) (kn : Nat → Nat → Bool) (Hb : List Blk) (i : Nat) (os : List OpR) (K : St → Prop) (T : List (List Blk)) (t : List AV) (sts : Nat → St) (Tt : Nat → List (List Blk)) (ct : Nat → List Blk) (m : Nat) : Prop where
  z : sts 0 = ⟨t, Hb ++ T.flatten⟩
  tz : Tt 0 = T
  fin : K (sts os.length)
  le : m ≤ os.length
  lo' : ∀ k, m ≤ k → k < os.length → lo (i + k) = true
  put : ∀ (k : Nat) o, os[k]? = some o → GStep P o (sts k) (sts (k + 1))
  h : ∀ k, k ≤ m → (sts k).h = Hb ++ (Tt k).flatten ∧ (Tt k).length = T.length
  tail : ∀ k, k < m → Tt (k + 1) = effT9 (fun x => lc (i + x)) ct k (Tt k)
  st : ∀ k, k < m → ∀ o, os[k]? = some o → ∀ Z, Ag9 sg (kn (i + k)) (Tt k) Z → GStep P o ⟨(sts k).t, Hb ++ Z.flatten⟩ ⟨(sts (k + 1)).t, Hb ++ (effT9 (fun x => lc (i + x)) ct k Z).flatten⟩
  own : ∀ k, k < m → ∀ j, lc (i + k) = some j → kn (i + k) j = true ∧ j < T.length ∧ (sg j = true → (ct k).length = 1)
theorem dops9_trace {lo sg : Nat → Bool} {lc : Nat → Option Nat} {kn : Nat → Nat → Bool} {Hb : List Blk} : ∀ {os : List OpR} {i : Nat} {K : St → Prop} {T : List (List Blk)} {t : List AV}, One sg T → dopsWp9 P lo sg lc kn Hb i os K T t →
    ∃ sts Tt ct m, Tr9 P lo sg lc kn Hb i os K T t sts Tt ct m := by
  intro os
  induction os with
  | nil =>
    intro i K T t hone h
    exact ⟨fun _ => ⟨t, Hb ++ T.flatten⟩, fun _ => T, fun _ => [], 0, rfl, rfl, h, Nat.le_refl _, by intro k _ hk; simp at hk, by simp, fun k hk => ⟨rfl, rfl⟩, by intro k hk; omega, by intro k hk; omega, by intro k hk; omega⟩
  | cons o os ih =>
    intro i K T t hone h
    unfold dopsWp9 at h
    rcases h with ⟨hall, h⟩ | ⟨hl, t', hv, h⟩ | ⟨j, c, t', hl, hkn, hjl, hsc, hv, h⟩
    · obtain ⟨sts, e0, e1, e2⟩ := dops_trace h
      refine ⟨sts, fun _ => T, fun _ => [], 0, e0, rfl, e2, Nat.zero_le _, fun k _ hk => hall k (by simp at hk; omega), fun k o' hk => (e1 k o' hk).1, fun k hk => ?_, by intro k hk; omega, by intro k hk; omega, by intro k hk; omega⟩
      have : k = 0 := by omega
      subst this
      rw [e0]; exact ⟨rfl, rfl⟩
    · obtain ⟨sts, Tt, ct, m, X⟩ := ih hone h
      have hz : ∀ Z, effT9 (fun x => lc (i + x)) (fun | 0 => [] | k + 1 => ct k) 0 Z = Z := fun Z => by simp [effT9, hl]
      have hs : ∀ k Z, effT9 (fun x => lc (i + x)) (fun | 0 => [] | k + 1 => ct k) (k + 1) Z = effT9 (fun x => lc (i + 1 + x)) ct k Z := fun k Z => by
        unfold effT9; simp only [show i + (k + 1) = i + 1 + k by omega]
      refine ⟨fun | 0 => ⟨t, Hb ++ T.flatten⟩ | k + 1 => sts k, fun | 0 => T | k + 1 => Tt k, fun | 0 => [] | k + 1 => ct k, m + 1, rfl, rfl, X.fin, by have := X.le; simp; omega, fun k hk hkl => ?_, fun k o' hk => ?_, fun k hk => ?_, fun k hk => ?_, fun k hk o' ho' Z hZ => ?_, fun k hk j hj => ?_⟩
      · cases k with
        | zero => omega
        | succ k => have := X.lo' k (by omega) (by simpa using hkl); rwa [show i + 1 + k = i + (k + 1) by omega] at this
      · cases k with
        | zero =>
          simp at hk; subst hk
          simp only [X.z]
          exact hv T ⟨⟨rfl, fun _ _ => rfl⟩, hone⟩
        | succ k => exact X.put k o' (by simpa using hk)
      · cases k with
        | zero => exact ⟨rfl, rfl⟩
        | succ k => exact X.h k (by omega)
      · cases k with
        | zero => simp only [hz]; exact X.tz
        | succ k => simp only [hs]; exact X.tail k (by omega)
      · cases k with
        | zero =>
          simp at ho'; subst ho'
          simp only [X.z, hz]
          exact hv Z hZ
        | succ k =>
          simp only [hs]
          exact X.st k (by omega) o' (by simpa using ho') Z (by rw [show i + 1 + k = i + (k + 1) by omega]; exact hZ)
      · cases k with
        | zero => rw [Nat.add_zero, hl] at hj; cases hj
        | succ k => rw [show i + (k + 1) = i + 1 + k by omega] at hj ⊢; exact X.own k (by omega) j hj
    · obtain ⟨sts, Tt, ct, m, X⟩ := ih (hone.set hsc) h
      have hz : ∀ Z, effT9 (fun x => lc (i + x)) (fun | 0 => c | k + 1 => ct k) 0 Z = Z.set j c := fun Z => by simp [effT9, hl]
      have hs : ∀ k Z, effT9 (fun x => lc (i + x)) (fun | 0 => c | k + 1 => ct k) (k + 1) Z = effT9 (fun x => lc (i + 1 + x)) ct k Z := fun k Z => by
        unfold effT9; simp only [show i + (k + 1) = i + 1 + k by omega]
      refine ⟨fun | 0 => ⟨t, Hb ++ T.flatten⟩ | k + 1 => sts k, fun | 0 => T | k + 1 => Tt k, fun | 0 => c | k + 1 => ct k, m + 1, rfl, rfl, X.fin, by have := X.le; simp; omega, fun k hk hkl => ?_, fun k o' hk => ?_, fun k hk => ?_, fun k hk => ?_, fun k hk o' ho' Z hZ => ?_, fun k hk j' hj' => ?_⟩
      · cases k with
        | zero => omega
        | succ k => have := X.lo' k (by omega) (by simpa using hkl); rwa [show i + 1 + k = i + (k + 1) by omega] at this
      · cases k with
        | zero =>
          simp at hk; subst hk
          simp only [X.z]
          exact hv T ⟨⟨rfl, fun _ _ => rfl⟩, hone⟩
        | succ k => exact X.put k o' (by simpa using hk)
      · cases k with
        | zero => exact ⟨rfl, rfl⟩
        | succ k =>
          obtain ⟨a, b⟩ := X.h k (by omega)
          exact ⟨a, by rw [b]; simp⟩
      · cases k with
        | zero => simp only [hz]; exact X.tz
        | succ k => simp only [hs]; exact X.tail k (by omega)
      · cases k with
        | zero =>
          simp at ho'; subst ho'
          simp only [X.z, hz]
          exact hv Z hZ
        | succ k =>
          simp only [hs]
          exact X.st k (by omega) o' (by simpa using ho') Z (by rw [show i + 1 + k = i + (k + 1) by omega]; exact hZ)
      · cases k with
        | zero =>
          rw [Nat.add_zero, hl] at hj'; cases hj'
          exact ⟨hkn, hjl, hsc⟩
        | succ k =>
          rw [show i + (k + 1) = i + 1 + k by omega] at hj' ⊢
          obtain ⟨a, b, b2⟩ := X.own k (by omega) j' hj'
          exact ⟨a, by simpa using b, b2⟩
open Classical in
noncomputable def viewT9 (lc : Nat → Option Nat) (ct : Nat → List Blk) (T : List (List Blk)) (dn : Nat → Prop) : Nat → List (List Blk)
  | 0 => T
  | k + 1 => if dn k then effT9 lc ct k (viewT9 lc ct T dn k) else viewT9 lc ct T dn k
theorem dops_sound9 {lo lo2 sg : Nat → Bool} {lc : Nat → Option Nat} {kn : Nat → Nat → Bool} {Hb : List Blk} {T : List (List Blk)} (hone : One sg T) (hlo2 : ∀ k, k < ops.size → lo2 k = true → ∀ j, j < ops.size → lo2 j = true → j ≠ k → j ∈ D k ∨ k ∈ D j)
    (hlo : ∀ k, k < ops.size → lo k = true → ∀ j, j < ops.size → j ≠ k → j ∈ D k ∨ k ∈ D j) (hD : DOk ops os' D) (hops : All2 (COper P ops) os' ops.toList) (hmix : P.follows .mixedOrders = true) (hchk : chk8 os' lo2 lc kn = true)
    {Q : Exit → Act → World → Prop} {K : St → Prop} {st : St} {w : World} {μ : Mu} {a : Act} (hst : st.h = Hb ++ T.flatten) (hk : dopsWp9 P lo sg lc kn Hb 0 os' K T st.t) (R : Rel B w st.h μ) (hs : Slots B w st.h μ st.t a) {id : Nat}
    (hQ : ∀ st' a' w' μ', K st' → Rel B w' st'.h μ' → Slots B w' st'.h μ' st'.t a' → a'.defers = a.defers → Ext B w st.h μ w' st'.h μ' → Q .normal a' w') : (Code.region id ops true).wp P Q a w := by
  obtain ⟨sts, Tt, ct, m, X⟩ := dops9_trace hone hk
  have hL := hD.len
  have hle : m ≤ ops.size := by have := X.le; omega
  have hlo' : ∀ k, m ≤ k → k < ops.size → lo k = true := fun k h h' => by have := X.lo' k h (by omega); rwa [Nat.zero_add] at this
  have hlc : (fun x => lc (0 + x)) = lc := funext fun x => by rw [Nat.zero_add]
  have hTl := X.tail
  have hSt := X.st
  have hOw := X.own
  simp only [Nat.zero_add] at hTl hSt hOw
  have hvl : ∀ dn k, (viewT9 lc ct T dn k).length = T.length := by
    intro dn k
    induction k with
    | zero => rfl
    | succ k ih =>
      unfold viewT9
      split
      · rw [effT9_len, ih]
      · exact ih
  have hall : ∀ dn k, k ≤ m → (∀ x, x < k → dn x) → viewT9 lc ct T dn k = Tt k := by
    intro dn k hk h
    induction k with
    | zero => exact X.tz.symm
    | succ k ih =>
      unfold viewT9
      rw [if_pos (h k (by omega)), ih (by omega) (fun x hx => h x (by omega)), hTl k (by omega)]
  let Hd : (Nat → Prop) → List Blk → Prop := fun dn H =>
    (∃ i, m ≤ i ∧ i ≤ ops.size ∧ (∀ k, k < ops.size → (dn k ↔ k < i)) ∧ H = (sts i).h) ∨ ((∃ k, k < m ∧ ¬ dn k) ∧ (∀ k, m ≤ k → k < ops.size → ¬ dn k) ∧ H = Hb ++ (viewT9 lc ct T dn m).flatten)
  have hG : Gen P os' D (fun k => (sts k).t) Hd := by
    refine ⟨fun k o ho => gstep_put (X.put k o ho), fun i o' ho' dn H hcl hnd hpre hH => ?_⟩
    have hin : i < ops.size := by rw [← hL]; exact (List.getElem?_eq_some_iff.1 ho').1
    by_cases him : m ≤ i
    · have hbef : ∀ j, j < i → dn j := fun j hj => by
        rcases hlo i hin (hlo' i him hin) j (by omega) (by omega) with h | h
        · exact hpre j h
        · have := D_lt hD j i h; omega
      have haft : ∀ j, j < ops.size → i < j → ¬ dn j := fun j hj hij hd => by
        rcases hlo i hin (hlo' i him hin) j hj (by omega) with h | h
        · have := D_lt hD i j h; omega
        · exact hnd (hcl j i hd h)
      rcases hH with ⟨i', h1, h2, h3, h4⟩ | ⟨⟨k, h1, h2⟩, -⟩
      · have e : i' = i := by
          have a1 : ¬ i < i' := fun h => hnd ((h3 i hin).2 h)
          rcases Nat.lt_or_ge i' i with h | h
          · have := (h3 i' (by omega)).1 (hbef i' h); omega
          · omega
        subst e
        refine ⟨(sts (i' + 1)).h, ?_, .inl ⟨i' + 1, by omega, by omega, fun k hk => ⟨fun h => ?_, fun h => ?_⟩, rfl⟩⟩
        · rw [h4]; exact X.put i' o' ho'
        · rcases h with h | h
          · omega
          · have := (h3 k hk).1 h; omega
        · by_cases e : k = i'
          · exact .inl e
          · exact .inr (hbef k (by omega))
      · exact absurd (hbef k (by omega)) h2
    · have him : i < m := by omega
      rcases hH with ⟨i', h1, h2, h3, h4⟩ | ⟨-, hno, hH⟩
      · exact absurd ((h3 i hin).2 (by omega)) hnd
      have hord : ∀ j, kn i j = true → ∀ x, x < ops.size → lc x = some j → x ≠ i → (x < i → dn x) ∧ (i < x → ¬ dn x) := by
        intro j hj x hx hlx hne
        refine ordF_done hD hlo2 hcl hin hx hnd hpre hne ?_
        unfold chk8 at hchk
        have := List.all_eq_true.1 hchk i (List.mem_range.2 (by omega))
        have := List.all_eq_true.1 this x (List.mem_range.2 (by omega))
        simp only [hlx, hj, Bool.not_true, Bool.false_or, Bool.or_eq_true, beq_iff_eq] at this
        rcases this with h | h
        · exact absurd h hne
        · exact h
      have hv1 : ∀ k, k ≤ m → One sg (viewT9 lc ct T dn k) := by
        intro k hk
        induction k with
        | zero => exact hone
        | succ k ih =>
          unfold viewT9
          split
          · unfold effT9
            split
            · exact ih (by omega)
            · rename_i j hj
              exact (ih (by omega)).set (hOw k (by omega) j hj).2.2
          · exact ih (by omega)
      have hag : Ag9 sg (kn i) (Tt i) (viewT9 lc ct T dn m) := by
        refine ⟨⟨by rw [hvl, (X.h i (by omega)).2], fun j hj => ?_⟩, hv1 m (Nat.le_refl _)⟩
        have key : ∀ k, k ≤ m → (viewT9 lc ct T dn k)[j]? = (Tt (min k i))[j]? := by
          intro k hk
          induction k with
          | zero => simp [viewT9, X.tz]
          | succ k ih =>
            have ih := ih (by omega)
            unfold viewT9
            by_cases hd : dn k
            · rw [if_pos hd]
              have hki : k ≠ i := fun e => hnd (e ▸ hd)
              by_cases hl : lc k = some j
              · have hlt : k < i := by
                  rcases Nat.lt_or_ge i k with h | h
                  · exact absurd hd ((hord j hj k (by omega) hl hki).2 h)
                  · omega
                rw [show min (k + 1) i = k + 1 by omega, hTl k (by omega)]
                unfold effT9
                simp only [hl]
                have l1 : j < (viewT9 lc ct T dn k).length := by rw [hvl]; exact (hOw k (by omega) j hl).2.1
                have l2 : j < (Tt k).length := by rw [(X.h k (by omega)).2]; exact (hOw k (by omega) j hl).2.1
                rw [List.getElem?_set_self l1, List.getElem?_set_self l2]
              · rw [effT9_get hl, ih]
                rcases Nat.lt_or_ge k i with h | h
                · rw [show min (k + 1) i = k + 1 by omega, show min k i = k by omega, hTl k (by omega), effT9_get hl]
                · rw [show min (k + 1) i = min k i by omega]
            · rw [if_neg hd, ih]
              rcases Nat.lt_or_ge k i with h | h
              · have hl : lc k ≠ some j := fun hl => hd ((hord j hj k (by omega) hl (by omega)).1 h)
                rw [show min (k + 1) i = k + 1 by omega, show min k i = k by omega, hTl k (by omega), effT9_get hl]
              · rw [show min (k + 1) i = min k i by omega]
        have := key m (Nat.le_refl _)
        rwa [show min m i = i by omega] at this
      have hview : viewT9 lc ct T (fun j => j = i ∨ dn j) m = effT9 lc ct i (viewT9 lc ct T dn m) := by
        have k1 : ∀ k, k ≤ i → viewT9 lc ct T (fun j => j = i ∨ dn j) k = viewT9 lc ct T dn k := by
          intro k hk
          induction k with
          | zero => rfl
          | succ k ih =>
            unfold viewT9
            rw [ih (by omega)]
            by_cases hd : dn k
            · rw [if_pos (.inr hd), if_pos hd]
            · rw [if_neg (fun h => h.elim (fun e => by omega) hd), if_neg hd]
        have k2 : ∀ d, i + 1 + d ≤ m → viewT9 lc ct T (fun j => j = i ∨ dn j) (i + 1 + d) = effT9 lc ct i (viewT9 lc ct T dn (i + 1 + d)) := by
          intro d hd
          induction d with
          | zero =>
            have e1 : viewT9 lc ct T (fun j => j = i ∨ dn j) (i + 1 + 0) = effT9 lc ct i (viewT9 lc ct T (fun j => j = i ∨ dn j) i) := by
              show viewT9 lc ct T (fun j => j = i ∨ dn j) (i + 1) = _
              conv => lhs; unfold viewT9
              exact if_pos (.inl rfl)
            have e2 : viewT9 lc ct T dn (i + 1 + 0) = viewT9 lc ct T dn i := by
              show viewT9 lc ct T dn (i + 1) = _
              conv => lhs; unfold viewT9
              exact if_neg hnd
            rw [e1, e2, k1 i (Nat.le_refl _)]
          | succ d ih =>
            have ih := ih (by omega)
            rw [show i + 1 + (d + 1) = (i + 1 + d) + 1 by omega]
            conv => lhs; unfold viewT9
            conv => rhs; rw [viewT9]
            by_cases hd2 : dn (i + 1 + d)
            · rw [if_pos (.inr hd2), if_pos hd2, ih]
              unfold effT9
              cases h1 : lc i with
              | none => rfl
              | some j =>
                cases h2 : lc (i + 1 + d) with
                | none => rfl
                | some j' =>
                  simp only
                  by_cases e : j = j'
                  · subst e
                    exact absurd hd2 ((hord j (hOw i him j h1).1 (i + 1 + d) (by omega) h2 (by omega)).2 (by omega))
                  · exact List.set_comm _ _ e
            · have : ¬ (i + 1 + d = i ∨ dn (i + 1 + d)) := fun h => h.elim (fun e => by omega) hd2
              rw [if_neg this, if_neg hd2, ih]
        have := k2 (m - (i + 1)) (by omega)
        rwa [show i + 1 + (m - (i + 1)) = m by omega] at this
      refine ⟨Hb ++ (effT9 lc ct i (viewT9 lc ct T dn m)).flatten, ?_, ?_⟩
      · rw [hH]; exact hSt i him o' ho' _ hag
      · by_cases hex : ∃ k, k < m ∧ ¬ (k = i ∨ dn k)
        · exact .inr ⟨hex, fun k hk hkn h => h.elim (fun e => by omega) (hno k hk hkn), by rw [hview]⟩
        · have hall' : ∀ x, x < m → (x = i ∨ dn x) := fun x hx => Classical.not_not.1 fun h => hex ⟨x, hx, h⟩
          refine .inl ⟨m, Nat.le_refl _, hle, fun k hk => ⟨fun h => ?_, hall' k⟩, ?_⟩
          · rcases Nat.lt_or_ge k m with h' | h'
            · exact h'
            · exact (h.elim (fun e => by omega) (hno k h' hk)).elim
          · rw [(X.h m (Nat.le_refl _)).1, ← hview, hall _ m (Nat.le_refl _) hall']
  refine gen_sound (ts := fun k => (sts k).t) (Hd := Hd) hD hops hmix hG (by rw [X.z]) ?_ (fun dn H hdn hH => ?_) R hs hQ
  · by_cases hm0 : m = 0
    · exact .inl ⟨0, by omega, by omega, fun k _ => ⟨fun h => h.elim, fun h => by omega⟩, by rw [X.z]; exact hst⟩
    · refine .inr ⟨⟨0, by omega, fun h => h⟩, fun _ _ _ h => h, ?_⟩
      have : ∀ k, viewT9 lc ct T (fun _ => False) k = T := by
        intro k
        induction k with
        | zero => rfl
        | succ k ih => unfold viewT9; rw [if_neg (fun h => h), ih]
      rw [this, hst]
  · rcases hH with ⟨i, h1, h2, h3, h4⟩ | ⟨⟨k, h1, h2⟩, -⟩
    · have e : i = os'.length := by
        rw [hL]
        rcases Nat.lt_or_ge i ops.size with h | h
        · have := (h3 i h).1 (hdn i h); omega
        · omega
      subst e
      rw [h4]
      exact X.fin
    · exact absurd (hdn k (by omega)) h2
end
end Go.Vm
namespace Go.Vm
open Go.RowKit
def allZ9 : List Bool → List Bool → List (List Blk) → (List (List Blk) → Prop) → Prop
  | _, _, [], F => F []
  | ss, ks, b :: T, F => if ks.headD false = true then allZ9 ss.tail ks.tail T (fun Z => F (b :: Z)) else if ss.headD false = true then ∀ x : Blk, allZ9 ss.tail ks.tail T (fun Z => F ([x] :: Z)) else ∀ x : List Blk, allZ9 ss.tail ks.tail T (fun Z => F (x :: Z))
theorem allZ9_ok : ∀ {T : List (List Blk)} {ss ks : List Bool} {F : List (List Blk) → Prop}, allZ9 ss ks T F → ∀ Z, Ag9 (fun j => ss.getD j false) (fun j => ks.getD j false) T Z → F Z
  | [], ss, ks, F, h, Z, hZ => by
    have : Z = [] := List.eq_nil_of_length_eq_zero hZ.1.1
    subst this
    exact h
  | b :: T, ss, ks, F, h, Z, hZ => by
    cases Z with
    | nil => have := hZ.1.1; simp at this
    | cons z Z =>
      have hl : Z.length = T.length := by simpa using hZ.1.1
      have ht : Ag9 (fun j => ss.tail.getD j false) (fun j => ks.tail.getD j false) T Z := ⟨⟨hl, fun j hj => by
        have := hZ.1.2 (j + 1) (by show ks.getD (j + 1) false = true; rw [tail_getD]; exact hj)
        simpa using this⟩, fun j z' hj hz => hZ.2 (j + 1) z' (by show ss.getD (j + 1) false = true; rw [tail_getD]; exact hj) (by simpa using hz)⟩
      simp only [allZ9] at h
      split at h
      · rename_i hk
        have h0 := hZ.1.2 0 (by show ks.getD 0 false = true; rw [head_getD]; exact hk)
        simp only [List.getElem?_cons_zero, Option.some.injEq] at h0
        subst h0
        exact allZ9_ok h Z ht
      · split at h
        · rename_i hs
          have h1 := hZ.2 0 z (by show ss.getD 0 false = true; rw [head_getD]; exact hs) (by simp)
          obtain ⟨x, rfl⟩ := List.length_eq_one_iff.1 h1
          exact allZ9_ok (h x) Z ht
        · exact allZ9_ok (h z) Z ht
theorem allZ9_nil {ss ks : List Bool} {F : List (List Blk) → Prop} : allZ9 ss ks [] F = F [] := by cases ks <;> cases ss <;> rfl
theorem allZ9_t {s : Bool} {ss ks : List Bool} {b : List Blk} {T : List (List Blk)} {F : List (List Blk) → Prop} : allZ9 (s :: ss) (true :: ks) (b :: T) F = allZ9 ss ks T (fun Z => F (b :: Z)) := by simp [allZ9]
theorem allZ9_ft {ss ks : List Bool} {b : List Blk} {T : List (List Blk)} {F : List (List Blk) → Prop} : allZ9 (true :: ss) (false :: ks) (b :: T) F = ∀ x : Blk, allZ9 ss ks T (fun Z => F ([x] :: Z)) := by simp [allZ9]
theorem allZ9_ff {ss ks : List Bool} {b : List Blk} {T : List (List Blk)} {F : List (List Blk) → Prop} : allZ9 (false :: ss) (false :: ks) (b :: T) F = ∀ x : List Blk, allZ9 ss ks T (fun Z => F (x :: Z)) := by simp [allZ9]
theorem allZ9_et {ss : List Bool} {b : List Blk} {T : List (List Blk)} {F : List (List Blk) → Prop} : allZ9 (true :: ss) [] (b :: T) F = ∀ x : Blk, allZ9 ss [] T (fun Z => F ([x] :: Z)) := by simp [allZ9]
theorem allZ9_ef {ss : List Bool} {b : List Blk} {T : List (List Blk)} {F : List (List Blk) → Prop} : allZ9 (false :: ss) [] (b :: T) F = ∀ x : List Blk, allZ9 ss [] T (fun Z => F (x :: Z)) := by simp [allZ9]
def isVoid1 : Option (List Blk) → Bool
  | some [.void] => true
  | _ => false
theorem isVoid1_eq {o : Option (List Blk)} (h : isVoid1 o = true) : o = some [.void] := by
  unfold isVoid1 at h
  split at h
  · rfl
  · cases h
theorem flat_single : ∀ {Z : List (List Blk)} {j : Nat}, (∀ i, i ≤ j → ∃ x, Z[i]? = some [x]) → ∀ {y : Blk} (b : Blk), Z[j]? = some [y] → Z.flatten[j]? = some y ∧ Z.flatten.set j b = (Z.set j [b]).flatten ∧ j < Z.flatten.length
  | [], j, h, y, b, hj => by simp at hj
  | z :: Z, 0, h, y, b, hj => by
    simp at hj
    subst hj
    simp
  | z :: Z, j + 1, h, y, b, hj => by
    obtain ⟨x, hx⟩ := h 0 (by omega)
    simp at hx
    subst hx
    obtain ⟨h1, h2, h3⟩ := flat_single (Z := Z) (j := j) (fun i hi => by have := h (i + 1) (by omega); simpa using this) b (by simpa using hj)
    simp only [List.flatten_cons, List.cons_append, List.nil_append, List.getElem?_cons_succ, List.set_cons_succ, List.length_cons]
    exact ⟨h1, by rw [h2], by omega⟩
def loud9 (P : Program) (Tb : Tab) (t : List AV) (o : O) (pl : Bool) (q j : Nat) (v : AV) (k : List Blk) (Hb : List Blk) (Z : List (List Blk)) : Prop :=
  if pl = true then ∃ b, k = [b] ∧ plcK P Tb t q v b (Hb ++ Z.flatten) o
  else stepK P Tb t (Hb ++ Z.flatten) o (fun v' H' => v' = v ∧ H' = Hb ++ (Z.set j k).flatten)
def dops9K (P : Program) (Tb : Tab) (Hb : List Blk) (sg : List Bool) : List OpR → List (Option Nat) → List (List Bool) → List Bool → (St → Prop) → List (List Blk) → List AV → Prop
  | [], _, _, _, K, T, t => K ⟨t, Hb ++ T.flatten⟩
  | o :: os, lc, kn, lo, K, T, t =>
    if lo.headD false = true ∧ (lo.all id && decide (os.length < lo.length)) = true then dopsK P Tb (o :: os) lo K ⟨t, Hb ++ T.flatten⟩
    else match o.guard with
      | some _ => False
      | none => match lc.headD none with
        | none => ∃ v, allZ9 sg (kn.headD []) T (fun Z => quiet8 P Tb t o.o v (Hb ++ Z.flatten)) ∧ dops9K P Tb Hb sg os lc.tail kn.tail lo.tail K T (putT t o.dst v)
        | some j => (kn.headD []).getD j false = true ∧ j < T.length ∧ if sg.getD j false = true
            then ((sg.take (j + 1)).all id = true ∧ j < sg.length) ∧ ∃ v b, allZ9 sg (kn.headD []) T (fun Z => loud9 P Tb t o.o (isVoid1 T[j]?) (Hb.length + j) j v [b] Hb Z) ∧ dops9K P Tb Hb sg os lc.tail kn.tail lo.tail K (T.set j [b]) (putT t o.dst v)
            else ∃ v S, allZ9 sg (kn.headD []) T (fun Z => loud9 P Tb t o.o false 0 j v S Hb Z) ∧ dops9K P Tb Hb sg os lc.tail kn.tail lo.tail K (T.set j S) (putT t o.dst v)
theorem dops9K_ok {P : Program} {Tb : Tab} (hT : TabOk P Tb) {Hb : List Blk} {sg : List Bool} : ∀ {os : List OpR} {lc : List (Option Nat)} {kn : List (List Bool)} {lo : List Bool} {K : St → Prop} {T : List (List Blk)} {t : List AV}, dops9K P Tb Hb sg os lc kn lo K T t →
    ∀ {i : Nat} {f : Nat → Bool}, (∀ j, f (i + j) = lo.getD j false) → ∀ {g : Nat → Option Nat}, (∀ j, g (i + j) = lc.getD j none) → ∀ {e : Nat → Nat → Bool}, (∀ j x, e (i + j) x = (kn.getD j []).getD x false) → dopsWp9 P f (fun j => sg.getD j false) g e Hb i os K T t := by
  intro os
  induction os with
  | nil => intro lc kn lo K T t h i f _ g _ e _; exact h
  | cons o os ih =>
    intro lc kn lo K T t h i f hf g hg e he
    have hft : ∀ j, f (i + 1 + j) = lo.tail.getD j false := by
      intro j; rw [show i + 1 + j = i + (j + 1) by omega, hf, tail_getD]
    have hgt : ∀ j, g (i + 1 + j) = lc.tail.getD j none := by
      intro j; rw [show i + 1 + j = i + (j + 1) by omega, hg, tail_getD]
    have het : ∀ j x, e (i + 1 + j) x = (kn.tail.getD j []).getD x false := by
      intro j x; rw [show i + 1 + j = i + (j + 1) by omega, he, tail_getD]
    have hg0 : g i = lc.headD none := by rw [← head_getD, ← hg 0, Nat.add_zero]
    have he0 : e i = fun x => (kn.headD []).getD x false := by funext x; rw [← head_getD, ← he 0 x, Nat.add_zero]
    unfold dops9K at h
    unfold dopsWp9
    split at h
    · rename_i hl
      obtain ⟨_, ha⟩ := hl
      simp only [Bool.and_eq_true, decide_eq_true_eq] at ha
      exact .inl ⟨fun k hk => by rw [hf]; exact all_getD ha.1 (by omega), dopsK_ok hT h hf⟩
    · refine .inr ?_
      cases hgd : o.guard with
      | some p => simp [hgd] at h
      | none =>
        simp only [hgd] at h
        cases hlc : lc.headD none with
        | none =>
          simp only [hlc] at h
          obtain ⟨v, h1, h2⟩ := h
          refine .inl ⟨by rw [hg0, hlc], putT t o.dst v, fun Z hZ => ?_, ih h2 hft hgt het⟩
          rw [he0] at hZ
          have := allZ9_ok h1 Z hZ
          unfold quiet8 at this
          simp only [GStep, hgd]
          split at this
          · obtain ⟨v', H', a', k1, k2, k3, rfl, k5⟩ := this
            exact ⟨a', _, .evZ k1 k2 k3, rfl⟩
          · obtain ⟨v', H', k1, rfl, rfl⟩ := stepK_ok hT this
            exact ⟨v', _, k1, rfl⟩
        | some j =>
          simp only [hlc] at h
          obtain ⟨hkn, hj, h⟩ := h
          split at h
          · rename_i hsg
            obtain ⟨⟨hall, hjs⟩, v, b, h1, h2⟩ := h
            refine .inr ⟨j, [b], putT t o.dst v, by rw [hg0, hlc], by rw [he0]; exact hkn, hj, fun _ => rfl, fun Z hZ => ?_, ih h2 hft hgt het⟩
            rw [he0] at hZ
            have hZj := hZ.1.2 j hkn
            have := allZ9_ok h1 Z hZ
            unfold loud9 at this
            simp only [GStep, hgd]
            split at this
            · rename_i hv
              obtain ⟨b', hb', hpl⟩ := this
              cases hb'
              have hvo := isVoid1_eq hv
              rw [hvo] at hZj
              have hsi : ∀ i, i ≤ j → ∃ x, Z[i]? = some [x] := by
                intro i hi
                have hil : i < Z.length := by rw [hZ.1.1]; omega
                have hz := List.getElem?_eq_getElem hil
                have hsgi : sg.getD i false = true := by
                  have hi2 : i < sg.length := by omega
                  have hm : sg[i] ∈ sg.take (j + 1) := List.mem_take_iff_getElem.2 ⟨i, by omega, rfl⟩
                  have := List.all_eq_true.1 hall _ hm
                  simpa [List.getD, hi2] using this
                have h1 := hZ.2 i _ hsgi hz
                obtain ⟨x, hx⟩ := List.length_eq_one_iff.1 h1
                exact ⟨x, by rw [hz, hx]⟩
              obtain ⟨f1, f2, f3⟩ := flat_single hsi b hZj
              refine ⟨v, _, ?_, rfl⟩
              have hset : (Hb ++ Z.flatten).set (Hb.length + j) b = Hb ++ (Z.set j [b]).flatten := by
                rw [List.set_append_right _ _ (by omega), show Hb.length + j - Hb.length = j by omega, f2]
              rw [← hset]
              refine plcK_ok hT ?_ hpl
              rw [List.getElem?_append_right (by omega), show Hb.length + j - Hb.length = j by omega, f1]
            · obtain ⟨v', H', k1, rfl, rfl⟩ := stepK_ok hT this
              exact ⟨v', _, k1, rfl⟩
          · rename_i hsg
            obtain ⟨v, S, h1, h2⟩ := h
            refine .inr ⟨j, S, putT t o.dst v, by rw [hg0, hlc], by rw [he0]; exact hkn, hj, fun h => absurd h hsg, fun Z hZ => ?_, ih h2 hft hgt het⟩
            rw [he0] at hZ
            have := allZ9_ok h1 Z hZ
            unfold loud9 at this
            rw [if_neg (by simp)] at this
            simp only [GStep, hgd]
            obtain ⟨v', H', k1, rfl, rfl⟩ := stepK_ok hT this
            exact ⟨v', _, k1, rfl⟩
theorem cw_dreg9K {P : Program} {n0 : Nat} {lo lo2 : List Bool} {os : List OpR} {Q : Exit → St → Prop} {t : List AV} {Tb : Tab} (hT : TabOk P Tb) (Hb : List Blk) (sg : List Bool) (T : List (List Blk)) (lc : List (Option Nat)) (kn : List (List Bool)) {H : List Blk} (hH : H = Hb ++ T.flatten) (ho : One (fun j => sg.getD j false) T)
    (hc : chk8 os (fun k => lo2.getD k false) (fun k => lc.getD k none) (fun i j => (kn.getD i []).getD j false) = true) (h : dops9K P Tb Hb sg os lc kn lo (Q .normal) T t) : CW P n0 (.dreg lo lo2 os) Q ⟨t, H⟩ := by
  subst hH
  intro code hcc B w μ a R S'
  cases hcc with
  | dreg hlo2 hlo hD ho' hmix =>
    exact dops_sound9 (lo := fun k => lo.getD k false) (lo2 := fun k => lo2.getD k false) ho hlo2 hlo hD ho' hmix hc rfl (dops9K_ok hT h (fun j => by rw [Nat.zero_add]) (fun j => by rw [Nat.zero_add]) (fun j x => by rw [Nat.zero_add])) R S'
      fun st' a' w' μ' q R' S' d E => ⟨st', μ', q, R', S', d, E.extN n0⟩
theorem one_nil {sg : Nat → Bool} : One sg [] := fun j z _ h => by simp at h
theorem one_cons {sg : Nat → Bool} {z : List Blk} {Z : List (List Blk)} (h : sg 0 = true → z.length = 1) (t : One (fun j => sg (j + 1)) Z) : One sg (z :: Z) := by
  intro j y hs hy
  cases j with
  | zero => simp at hy; subst hy; exact h hs
  | succ j => exact t j y hs (by simpa using hy)
section
variable {P : Program} {Tb : Tab} {Hb : List Blk} {d : Option Nat} {o : O} {os : List OpR} {lc : List (Option Nat)} {kk : List Bool} {kn : List (List Bool)} {lo sg : List Bool} {K : St → Prop} {T : List (List Blk)} {t : List AV}
theorem dops9K_none : dops9K P Tb Hb sg (⟨d, o, none⟩ :: os) (none :: lc) (kk :: kn) lo K T t =
    if lo.headD false = true ∧ (lo.all id && decide (os.length < lo.length)) = true then dopsK P Tb (⟨d, o, none⟩ :: os) lo K ⟨t, Hb ++ T.flatten⟩
    else ∃ v, allZ9 sg kk T (fun Z => quiet8 P Tb t o v (Hb ++ Z.flatten)) ∧ dops9K P Tb Hb sg os lc kn lo.tail K T (putT t d v) := (rfl)
theorem dops9K_some {j : Nat} : dops9K P Tb Hb sg (⟨d, o, none⟩ :: os) (some j :: lc) (kk :: kn) lo K T t =
    if lo.headD false = true ∧ (lo.all id && decide (os.length < lo.length)) = true then dopsK P Tb (⟨d, o, none⟩ :: os) lo K ⟨t, Hb ++ T.flatten⟩
    else (kk.getD j false = true ∧ j < T.length ∧ if sg.getD j false = true
            then ((sg.take (j + 1)).all id = true ∧ j < sg.length) ∧ ∃ v b, allZ9 sg kk T (fun Z => loud9 P Tb t o (isVoid1 T[j]?) (Hb.length + j) j v [b] Hb Z) ∧ dops9K P Tb Hb sg os lc kn lo.tail K (T.set j [b]) (putT t d v)
            else ∃ v S, allZ9 sg kk T (fun Z => loud9 P Tb t o false 0 j v S Hb Z) ∧ dops9K P Tb Hb sg os lc kn lo.tail K (T.set j S) (putT t d v)) := (rfl)
theorem dops9K_end : dops9K P Tb Hb sg (⟨d, o, none⟩ :: os) [] kn lo K T t =
    if lo.headD false = true ∧ (lo.all id && decide (os.length < lo.length)) = true then dopsK P Tb (⟨d, o, none⟩ :: os) lo K ⟨t, Hb ++ T.flatten⟩
    else ∃ v, allZ9 sg (kn.headD []) T (fun Z => quiet8 P Tb t o v (Hb ++ Z.flatten)) ∧ dops9K P Tb Hb sg os [] kn.tail lo.tail K T (putT t d v) := (rfl)
theorem loud9_t {q j : Nat} {v : AV} {b : Blk} {Z : List (List Blk)} : loud9 P Tb t o true q j v [b] Hb Z = plcK P Tb t q v b (Hb ++ Z.flatten) o := by simp [loud9]
theorem loud9_f {q j : Nat} {v : AV} {k : List Blk} {Z : List (List Blk)} : loud9 P Tb t o false q j v k Hb Z = stepK P Tb t (Hb ++ Z.flatten) o (fun v' H' => v' = v ∧ H' = Hb ++ (Z.set j k).flatten) := by simp [loud9]
theorem isVoid1_void : isVoid1 (some [.void]) = true := (rfl)
end
attribute [simp] allZ9_nil allZ9_t allZ9_ft allZ9_ff allZ9_et allZ9_ef dops9K_none dops9K_some dops9K_end loud9_t loud9_f isVoid1_void
end Go.Vm
namespace Go.Vm
open Go.RowKit
section
variable {P : Program} {Tb : Tab} {R : List Blk} {d : Option Nat} {o : O} {os : List OpR} {l : Option Nat} {lc : List (Option Nat)} {kk : List Bool} {kn : List (List Bool)} {lo : List Bool} {K : St → Prop} {T : List Blk} {t : List AV}
end
end Go.Vm
namespace Go.Vm
open Go.RowKit
theorem all2_mk {α β : Type} {R : α → β → Prop} : ∀ {as : List α} {bs : List β}, as.length = bs.length → (∀ (i : Nat) (a : α) (b : β), as[i]? = some a → bs[i]? = some b → R a b) → All2 R as bs
  | [], [], _, _ => .nil
  | a :: as, b :: bs, hl, h => .cons (h 0 a b rfl rfl) (all2_mk (by simpa using hl) fun i x y hx hy => h (i + 1) x y hx hy)
section
variable {P : Program}
theorem OkH.weak {f : Nat} {args : List AV} {H H1 H2 : List Blk} {r r' : AV} (h : OkH P f args H r H1) (hw : Weak H.length ⟨[r], H1⟩ ⟨[r'], H2⟩) : OkH P f args H r' H2 := by
  intro B w μ vs R ha
  refine (h B w μ vs R ha).mono ?_
  rintro e w' ⟨v, μ', rfl, R', E', r1⟩
  obtain ⟨μ2, R2, S2, E2⟩ := hw B w' μ' { tmps := #[v], defers := [] } R' ⟨rfl, fun i x hx => by
    match i, hx with
    | 0, hx => cases hx; exact r1⟩
  exact ⟨v, μ2, rfl, R2, (((E'.extN H.length).trans E2).ext (Nat.le_refl _)), S2.2 0 r' rfl⟩
theorem OkH.weakT {f : Nat} {args : List AV} {H H1 H2 : List Blk} {xs ys : List AV} (h : OkH P f args H (.tup xs) H1) (hw : Weak H.length ⟨xs, H1⟩ ⟨ys, H2⟩) (hx : ∀ x ∈ xs, ∀ z, x ≠ .tup z) (hy : ∀ y ∈ ys, ∀ z, y ≠ .tup z) : OkH P f args H (.tup ys) H2 := by
  intro B w μ vs R ha
  refine (h B w μ vs R ha).mono ?_
  rintro e w' ⟨v, μ', rfl, R', E', us, rfl, r1⟩
  obtain ⟨μ2, R2, S2, E2⟩ := hw B w' μ' { tmps := us, defers := [] } R' ⟨by simpa using r1.length.symm, fun i x hi => by
    obtain ⟨u, hu, ru⟩ := r1.get hi
    have : us.getD i undef = u := by
      simp only [Array.getElem?_toList] at hu
      rw [Array.getD_eq_getD_getElem?, hu]; rfl
    show RepV _ _ _ _ x (us.getD i undef)
    rw [this]
    exact ru.repV (hx x (List.mem_of_getElem? hi))⟩
  refine ⟨_, μ2, rfl, R2, (((E'.extN H.length).trans E2).ext (Nat.le_refl _)), us, rfl, ?_⟩
  obtain ⟨e1, e2⟩ := S2
  refine all2_mk (by simpa using e1.symm) fun i y u hy' hu => ?_
  have := e2 i y hy'
  have h2 : us.getD i undef = u := by
    simp only [Array.getElem?_toList] at hu
    rw [Array.getD_eq_getD_getElem?, hu]; rfl
  simp only at this
  rw [h2] at this
  exact this.repU' (hy y (List.mem_of_getElem? hy'))
end
section
variable {L : Nat} {G G' : List Blk}
theorem lendC_from (h1 : ∀ j, j < L → G'[j]? = some .dead ∨ G'[j]? = none) (h2 : ∀ j, L ≤ j → G'[j]? = G[j]?) : ∀ (n : Nat),
    (∀ c r, lendC (fun _ _ => true) G' n c = some r → lendC (fun b _ => decide (L ≤ b)) G n c = some r) ∧
    (∀ cs rs, lendCs (fun _ _ => true) G' n cs = some rs → lendCs (fun b _ => decide (L ≤ b)) G n cs = some rs) ∧
    (∀ cs rs, lendEls (fun _ _ => true) G' n cs = some rs → lendEls (fun b _ => decide (L ≤ b)) G n cs = some rs) := by
  have key : ∀ n, (∀ c r, lendC (fun _ _ => true) G' n c = some r → lendC (fun b _ => decide (L ≤ b)) G n c = some r) →
      (∀ cs rs, lendCs (fun _ _ => true) G' n cs = some rs → lendCs (fun b _ => decide (L ≤ b)) G n cs = some rs) ∧
      (∀ cs rs, lendEls (fun _ _ => true) G' n cs = some rs → lendEls (fun b _ => decide (L ≤ b)) G n cs = some rs) := by
    intro n hC
    have hCs : ∀ cs rs, lendCs (fun _ _ => true) G' n cs = some rs → lendCs (fun b _ => decide (L ≤ b)) G n cs = some rs := by
      intro cs
      induction cs with
      | nil => intro rs h; simpa [lendCs] using h
      | cons c cs ih =>
        intro rs h
        simp only [lendCs] at h ⊢
        split at h
        · rename_i c' cs' e1 e2
          rw [hC _ _ e1, ih _ e2]; exact h
        · cases h
    refine ⟨hCs, fun cs => ?_⟩
    induction cs with
    | nil => intro rs h; simpa [lendEls] using h
    | cons c cs ih =>
      intro rs h
      cases c with
      | agg xs =>
        simp only [lendEls] at h ⊢
        split at h
        · rename_i c' cs' e1 e2
          rw [hCs _ _ e1, ih _ e2]; exact h
        · cases h
      | _ =>
        simp only [lendEls] at h ⊢
        split at h
        · rename_i c' cs' e1 e2
          rw [hC _ _ e1, ih _ e2]; exact h
        · cases h
  have blk : ∀ (b : Nat) (k : Blk), G'[b]? = some k → k ≠ .dead → L ≤ b ∧ G[b]? = some k := fun b k hb hk => by
    by_cases g : b < L
    · rcases h1 b g with e | e
      · rw [e] at hb; exact absurd (Option.some.inj hb).symm hk
      · rw [e] at hb; cases hb
    · exact ⟨by omega, by rw [← h2 b (by omega)]; exact hb⟩
  intro n
  induction n with
  | zero =>
    have hC : ∀ c r, lendC (fun _ _ => true) G' 0 c = some r → lendC (fun b _ => decide (L ≤ b)) G 0 c = some r := by
      intro c r h
      cases c <;> simp only [lendC] at h ⊢ <;> first | exact h | cases h
    exact ⟨hC, key 0 hC⟩
  | succ n ih =>
    obtain ⟨-, iCs, iEls⟩ := ih
    have hC : ∀ c r, lendC (fun _ _ => true) G' (n + 1) c = some r → lendC (fun b _ => decide (L ≤ b)) G (n + 1) c = some r := by
      intro c r h
      cases c with
      | slref b off len tot =>
        simp only [lendC] at h ⊢
        cases hb : G'[b]? with
        | none => rw [hb] at h; cases h
        | some k =>
          rw [hb] at h
          cases k with
          | nrow =>
            obtain ⟨g1, g2⟩ := blk b _ hb (by simp)
            rw [g2]; exact h
          | row ow e sz els =>
            obtain ⟨g1, g2⟩ := blk b _ hb (by simp)
            rw [g2]
            simp only at h ⊢
            split at h
            · rename_i hc
              obtain ⟨zs, hz, rfl⟩ := Option.map_eq_some_iff.1 h
              rw [if_pos ⟨by simpa using g1, hc.2.1, hc.2.2⟩, iEls _ _ hz]; rfl
            · cases h
          | _ => cases h
      | pbox b off =>
        simp only [lendC] at h ⊢
        cases hb : G'[b]? with
        | none => rw [hb] at h; cases h
        | some k =>
          rw [hb] at h
          cases k with
          | cells cs =>
            obtain ⟨g1, g2⟩ := blk b _ hb (by simp)
            rw [g2]
            simp only [if_true] at h ⊢
            obtain ⟨zs, hz, rfl⟩ := Option.map_eq_some_iff.1 h
            rw [if_pos (by simpa using g1), iCs _ _ hz]; rfl
          | _ => cases h
      | prow b i off tot =>
        simp only [lendC] at h ⊢
        cases hb : G'[b]? with
        | none => rw [hb] at h; cases h
        | some k =>
          rw [hb] at h
          cases k with
          | row ow e sz els =>
            obtain ⟨g1, g2⟩ := blk b _ hb (by simp)
            rw [g2]
            simp only at h ⊢
            split at h
            · rename_i hc
              rw [if_pos ⟨by simpa using g1, hc.2⟩]
              split at h
              · rename_i x hx
                split at h
                · rename_i ho
                  obtain ⟨zs, hz, rfl⟩ := Option.map_eq_some_iff.1 h
                  rw [if_pos ho, iCs _ _ hz]; rfl
                · cases h
              · cases h
            · cases h
          | _ => cases h
      | fn f caps =>
        simp only [lendC] at h ⊢
        obtain ⟨zs, hz, rfl⟩ := Option.map_eq_some_iff.1 h
        rw [iCs _ _ hz]; rfl
      | _ => simp only [lendC] at h ⊢ <;> first | exact h | cases h
    exact ⟨hC, key (n + 1) hC⟩
theorem slC_from {v r : AV} (h : ∀ G' : List Blk, (∀ j, L ≤ j → j < G.length → G'[j]? = G[j]?) → lendC (fun _ _ => true) G' 20 v = some r) : SlC L G v r := by
  right; right
  refine (lendC_from (G' := List.replicate L .dead ++ G.drop L) (fun j hj => .inl ?_) (fun j hj => ?_) 20).1 _ _ (h _ fun j h1 h2 => ?_)
  · rw [List.getElem?_append_left (by simpa using hj)]; simp [hj]
  · rw [List.getElem?_append_right (by simpa using hj), List.getElem?_drop]; congr 1; simp; omega
  · rw [List.getElem?_append_right (by simpa using h1), List.getElem?_drop]; congr 1; simp; omega
end
end Go.Vm
