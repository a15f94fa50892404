/- Formulas evaluated by the reference: the function itself. No condition. -/
import Derived.Test.YtfelkhckpfjgjaaGreatTEJ
import Derived.Test.YtfelkhckpfjgjaaGreatTPT
set_option linter.unusedSimpArgs false
set_option linter.unusedVariables false
namespace Go.Vm
open Go.Proofs
def code_spec_EvalFormula : F := ⟨102,[.tmp 6],.seq (.reg [⟨some 3,.box (.t 0),none⟩,⟨some 4,.box (.t 1),none⟩,⟨some 6,.mov (.k (.int .i64 0)),none⟩]) (.seq (.seq (.dreg [false,false,false,false,false,false,true] [false,false,false,false,false,true,false] [⟨some 7,.faddr 4 (.t 4),none⟩,⟨some 8,.load 1 false (.t 7),none⟩,⟨some 9,.len (.t 8),none⟩,⟨some 10,.faddr 0 (.t 4),none⟩,⟨some 11,.load 1 false (.t 10),none⟩,⟨some 12,.call 112 [.t 11],none⟩,⟨some 13,.bin .neq (.t 9) (.t 12),none⟩]) (.cond (.t 13) (.seq (.reg [⟨some 6,.mov (.k (.int .i64 1)),none⟩]) (.ret)) (.skip))) (.seq (.seq (.reg [⟨some 14,.faddr 0 (.t 4),none⟩,⟨some 15,.load 1 false (.t 14),none⟩]) (.block 0 (.seq (.reg [⟨some 17,.bin .eql (.t 15) (.k (.int .i64 1)),none⟩,⟨some 16,.mov (.t 17),none⟩]) (.cond (.t 16) (.seq (.reg [⟨some 6,.mov (.k (.int .i64 2)),none⟩]) (.ret)) (.seq (.seq (.reg [⟨some 19,.bin .eql (.t 15) (.k (.int .i64 2)),none⟩,⟨some 18,.mov (.t 19),none⟩]) (.cond (.t 18) (.skip) (.seq (.reg [⟨some 20,.bin .eql (.t 15) (.k (.int .i64 3)),none⟩,⟨some 18,.mov (.t 20),none⟩]) (.cond (.t 18) (.skip) (.reg [⟨some 21,.bin .eql (.t 15) (.k (.int .i64 4)),none⟩,⟨some 18,.mov (.t 21),none⟩]))))) (.cond (.t 18) (.seq (.dreg [false,false,false,false,false,false,false,true,true,true] [false,false,false,false,false,false,true,true,true,false] [⟨some 22,.load 2 true (.t 3),none⟩,⟨some 23,.load 5 true (.t 4),none⟩,⟨some 24,.load 2 true (.t 3),none⟩,⟨some 25,.mov (.t 2),none⟩,⟨some 26,.faddr 2 (.t 4),none⟩,⟨some 27,.load 1 false (.t 26),none⟩,⟨some 28,.call 115 [.t 24,.t 25,.t 27],none⟩,⟨some 29,.call 114 [.t 22,.t 23,.t 28],none⟩,⟨some 30,.call 113 [.t 29],none⟩,⟨some 6,.mov (.t 30),none⟩]) (.ret)) (.seq (.seq (.reg [⟨some 32,.bin .eql (.t 15) (.k (.int .i64 5)),none⟩,⟨some 31,.mov (.t 32),none⟩]) (.cond (.t 31) (.skip) (.seq (.reg [⟨some 33,.bin .eql (.t 15) (.k (.int .i64 6)),none⟩,⟨some 31,.mov (.t 33),none⟩]) (.cond (.t 31) (.skip) (.reg [⟨some 34,.bin .eql (.t 15) (.k (.int .i64 7)),none⟩,⟨some 31,.mov (.t 34),none⟩]))))) (.cond (.t 31) (.seq (.dreg [false,false,false,false,false,false,false,false,false,false,false,false,true,true,true] [false,false,false,false,false,false,true,false,false,false,false,true,true,true,false] [⟨some 35,.load 2 true (.t 3),none⟩,⟨some 36,.load 5 true (.t 4),none⟩,⟨some 37,.load 2 true (.t 3),none⟩,⟨some 38,.mov (.t 2),none⟩,⟨some 39,.faddr 2 (.t 4),none⟩,⟨some 40,.load 1 false (.t 39),none⟩,⟨some 41,.call 115 [.t 37,.t 38,.t 40],none⟩,⟨some 42,.load 2 true (.t 3),none⟩,⟨some 43,.mov (.t 2),none⟩,⟨some 44,.faddr 3 (.t 4),none⟩,⟨some 45,.load 1 false (.t 44),none⟩,⟨some 46,.call 115 [.t 42,.t 43,.t 45],none⟩,⟨some 47,.call 116 [.t 35,.t 36,.t 41,.t 46],none⟩,⟨some 48,.call 113 [.t 47],none⟩,⟨some 6,.mov (.t 48),none⟩]) (.ret)) (.seq (.seq (.reg [⟨some 50,.bin .eql (.t 15) (.k (.int .i64 11)),none⟩,⟨some 49,.mov (.t 50),none⟩]) (.cond (.t 49) (.skip) (.reg [⟨some 51,.bin .eql (.t 15) (.k (.int .i64 12)),none⟩,⟨some 49,.mov (.t 51),none⟩]))) (.cond (.t 49) (.seq (.reg [⟨some 52,.load 2 true (.t 3),none⟩,⟨some 53,.load 5 true (.t 4),none⟩,⟨some 54,.mov (.t 2),none⟩,⟨some 55,.call 117 [.t 52,.t 53,.t 54],none⟩,⟨some 6,.mov (.t 55),none⟩]) (.ret)) (.skip))))))))))) (.seq (.seq (.reg [⟨some 56,.faddr 0 (.t 4),none⟩,⟨some 57,.load 1 false (.t 56),none⟩]) (.block 1 (.seq (.reg [⟨some 59,.bin .eql (.t 57) (.k (.int .i64 8)),none⟩,⟨some 58,.mov (.t 59),none⟩]) (.cond (.t 58) (.seq (.dreg [false,false,false,false,false,false,true,true,true] [false,false,false,false,false,false,true,true,false] [⟨some 60,.load 2 true (.t 3),none⟩,⟨some 61,.faddr 4 (.t 4),none⟩,⟨some 62,.load 1 false (.t 61),none⟩,⟨some 63,.iaddr 5 (.t 62) (.k (.int .i64 0)),none⟩,⟨some 64,.load 5 true (.t 63),none⟩,⟨some 65,.mov (.t 2),none⟩,⟨some 66,.call 78 [.t 60,.t 64,.t 65],none⟩,⟨some 67,.call 118 [.t 66],none⟩,⟨some 6,.mov (.t 67),none⟩]) (.ret)) (.seq (.reg [⟨some 69,.bin .eql (.t 57) (.k (.int .i64 9)),none⟩,⟨some 68,.mov (.t 69),none⟩]) (.cond (.t 68) (.seq (.dreg [false,false,false,false,false,false,false,false,false,false,false,false,false,true,true,true] [false,false,false,false,false,false,true,false,false,false,false,false,false,true,true,false] [⟨some 70,.load 2 true (.t 3),none⟩,⟨some 71,.faddr 4 (.t 4),none⟩,⟨some 72,.load 1 false (.t 71),none⟩,⟨some 73,.iaddr 5 (.t 72) (.k (.int .i64 0)),none⟩,⟨some 74,.load 5 true (.t 73),none⟩,⟨some 75,.mov (.t 2),none⟩,⟨some 76,.call 78 [.t 70,.t 74,.t 75],none⟩,⟨some 77,.load 2 true (.t 3),none⟩,⟨some 78,.faddr 4 (.t 4),none⟩,⟨some 79,.load 1 false (.t 78),none⟩,⟨some 80,.iaddr 5 (.t 79) (.k (.int .i64 1)),none⟩,⟨some 81,.load 5 true (.t 80),none⟩,⟨some 82,.mov (.t 2),none⟩,⟨some 83,.call 78 [.t 77,.t 81,.t 82],none⟩,⟨some 84,.call 76 [.t 76,.t 83],none⟩,⟨some 6,.mov (.t 84),none⟩]) (.ret)) (.seq (.reg [⟨some 86,.bin .eql (.t 57) (.k (.int .i64 10)),none⟩,⟨some 85,.mov (.t 86),none⟩]) (.cond (.t 85) (.seq (.dreg [false,false,false,false,false,false,false,false,false,false,false,false,false,true,true,true] [false,false,false,false,false,false,true,false,false,false,false,false,false,true,true,false] [⟨some 87,.load 2 true (.t 3),none⟩,⟨some 88,.faddr 4 (.t 4),none⟩,⟨some 89,.load 1 false (.t 88),none⟩,⟨some 90,.iaddr 5 (.t 89) (.k (.int .i64 0)),none⟩,⟨some 91,.load 5 true (.t 90),none⟩,⟨some 92,.mov (.t 2),none⟩,⟨some 93,.call 78 [.t 87,.t 91,.t 92],none⟩,⟨some 94,.load 2 true (.t 3),none⟩,⟨some 95,.faddr 4 (.t 4),none⟩,⟨some 96,.load 1 false (.t 95),none⟩,⟨some 97,.iaddr 5 (.t 96) (.k (.int .i64 1)),none⟩,⟨some 98,.load 5 true (.t 97),none⟩,⟨some 99,.mov (.t 2),none⟩,⟨some 100,.call 78 [.t 94,.t 98,.t 99],none⟩,⟨some 101,.call 119 [.t 93,.t 100],none⟩,⟨some 6,.mov (.t 101),none⟩]) (.ret)) (.skip))))))))) (.seq (.reg [⟨some 6,.mov (.k (.int .i64 1)),none⟩]) (.ret)))))⟩
theorem fok_spec_EvalFormula : FOk Tryz.prog 78 code_spec_EvalFormula := fok Tryz.func78 (by kernel_rfl)
set_option maxHeartbeats 8000000 in
set_option maxRecDepth 100000 in
theorem ok_sEvalN {R : Strc → Prop} (hP : (ct_sPathR R).Ok Tryz.prog) : ∀ n, (ct_sEvalN R n).Ok Tryz.prog
  | 0 => by rintro ⟨s, f, nodes⟩ ⟨_, _, h, _⟩; change f.size ≤ 0 at h; rw [size_eq] at h; omega
  | n + 1 => by
    have ih := ok_sEvalN hP n
    rintro ⟨s, ⟨kind, k, u, v, args⟩, nodes⟩ ⟨hs, hl, hz0, hR0⟩
    change szStrc s ≤ 1048576 at hs
    change nodes.length ≤ 1048576 at hl
    change (Fm.mk kind k u v args).size ≤ n + 1 at hz0
    change R s ∨ noPathF (.mk kind k u v args) = true at hR0
    have hz := hz0
    have hR := hR0
    have hs2 := strc_le s
    simp only [Fm.size] at hz
    simp only [noPathF, Bool.and_eq_true, decide_eq_true_eq] at hR
    have hT : TabOk Tryz.prog _ := tab_cons ok_sArityOf (tab_cons ok_l13Node (tab_cons ok_l13One (tab_cons (ok_l13Two hP) (tab_cons ok_l13Truth (tab_cons ok_sNotOf (tab_cons ok_sAndOf (tab_cons ok_sOrOf (tab_cons (ok_sOverN ih) (tab_cons ih tab_nil)))))))))
    refine Ok.of_cw fok_spec_EvalFormula ?_
    simp only [code_spec_EvalFormula, frame, List.length_cons, List.length_nil, List.replicate, Nat.reduceSub, Nat.reduceAdd, List.cons_append, List.nil_append]
    refine cw_seq (go_ok hT ?_)
    simp
    refine cw_seq (go_ok hT ?_)
    have hN1 := nodeOf_or s nodes u
    have hN2 := nodeOf_or s nodes v
    by_cases har : arity kind = (args.length : Int)
    case neg =>
      have har2 : ¬ (args.length : Int) = arity kind := fun e => har e.symm
      simp [evalN, har, har2]
    have har2 : (args.length : Int) = arity kind := har.symm
    rcases arity_cases har with ⟨k1, k7, ha⟩ | ⟨rfl, ha⟩ | ⟨rfl, ha⟩ | ⟨rfl, ha⟩ | ⟨rfl, ha⟩ | ⟨rfl, ha⟩
    · have ha0 : args = [] := List.eq_nil_of_length_eq_zero ha
      subst ha0
      have hR2 : R s ∨ kind ≠ 7 := hR.imp id (·.1)
      have n8 : ¬ kind = 8 := by omega
      have n9 : ¬ kind = 9 := by omega
      have n10 : ¬ kind = 10 := by omega
      have n11 : ¬ kind = 11 := by omega
      have n12 : ¬ kind = 12 := by omega
      have hE : evalN s (n + 1) (.mk kind k u v []) nodes = plainT s (.mk kind k u v []) (nodeOf s nodes u) (nodeOf s nodes v) := by simp [evalN, har, n8, n9, n10, n11, n12]
      change go _ _ _ _ (thenS _ (retP _ (.int .i64 (evalN s (n + 1) (.mk kind k u v []) nodes)))) _
      rw [hE]
      have har' : arity kind = 0 := by simpa using har
      simp [har']
      refine cw_seq (go_ok hT ?_)
      by_cases g1 : kind = 1
      · subst g1
        simp [plainT]
      by_cases g4 : kind ≤ 4
      · have hP : plainT s (.mk kind k u v []) (nodeOf s nodes u) (nodeOf s nodes v) = knownT (oneT s (.mk kind k u v []) (nodeOf s nodes u)) := by simp [plainT, g1, g4]
        rw [hP]
        obtain rfl | rfl | rfl : kind = 2 ∨ kind = 3 ∨ kind = 4 := by omega
        all_goals simp [hs, hl, hN1, encFm_agg0]
      · have hP : plainT s (.mk kind k u v []) (nodeOf s nodes u) (nodeOf s nodes v) = knownT (twoT s (.mk kind k u v []) (nodeOf s nodes u) (nodeOf s nodes v)) := by simp [plainT, g1, g4]
        rw [hP]
        obtain rfl | rfl | rfl : kind = 5 ∨ kind = 6 ∨ kind = 7 := by omega
        · simp [hs, hl, hN1, hN2, encFm_agg0]
        · simp [hs, hl, hN1, hN2, encFm_agg0]
        · have hRs : R s := by rcases hR2 with h | h; exact h; exact absurd rfl h
          simp [hs, hl, hN1, hN2, encFm_agg0, hRs]
    · obtain ⟨x, rfl⟩ := List.length_eq_one_iff.1 ha
      simp only [sizes] at hz
      have hx : x.size ≤ n := by omega
      have hRx : R s ∨ noPathF x = true := hR.imp id (fun h => by have := h.2; simp only [noPathS, Bool.and_eq_true] at this; exact this.1)
      simp [har, har2]
      refine cw_seq (go_ok hT ?_)
      simp
      refine cw_seq (go_ok hT ?_)
      simp [evalN, har, hs, hl, fget, hx, hRx]
    · obtain ⟨x, y, rfl⟩ := two_of ha
      simp only [sizes] at hz
      have hx : x.size ≤ n := by omega
      have hy : y.size ≤ n := by omega
      have hRx : R s ∨ noPathF x = true := hR.imp id (fun h => by have := h.2; simp only [noPathS, Bool.and_eq_true] at this; exact this.1)
      have hRy : R s ∨ noPathF y = true := hR.imp id (fun h => by have := h.2; simp only [noPathS, Bool.and_eq_true] at this; exact this.2.1)
      simp [har, har2]
      refine cw_seq (go_ok hT ?_)
      simp
      refine cw_seq (go_ok hT ?_)
      simp [evalN, har, hs, hl, fget, hx, hy, hRx, hRy]
    · obtain ⟨x, y, rfl⟩ := two_of ha
      simp only [sizes] at hz
      have hx : x.size ≤ n := by omega
      have hy : y.size ≤ n := by omega
      have hRx : R s ∨ noPathF x = true := hR.imp id (fun h => by have := h.2; simp only [noPathS, Bool.and_eq_true] at this; exact this.1)
      have hRy : R s ∨ noPathF y = true := hR.imp id (fun h => by have := h.2; simp only [noPathS, Bool.and_eq_true] at this; exact this.2.1)
      simp [har, har2]
      refine cw_seq (go_ok hT ?_)
      simp
      refine cw_seq (go_ok hT ?_)
      simp [evalN, har, hs, hl, fget, hx, hy, hRx, hRy]
    · obtain ⟨x, rfl⟩ := List.length_eq_one_iff.1 ha
      simp [har, har2]
      refine cw_seq (go_ok hT ?_)
      simp [hs, hl]
      exact ⟨hz0, hR0⟩
    · obtain ⟨x, rfl⟩ := List.length_eq_one_iff.1 ha
      simp [har, har2]
      refine cw_seq (go_ok hT ?_)
      simp [hs, hl]
      exact ⟨hz0, hR0⟩
@[simp] noncomputable def ct_sEval (R : Strc → Prop) : Ct := ⟨78, Strc × Fm × List Int, fun x => szStrc x.1 ≤ 1048576 ∧ x.2.2.length ≤ 1048576 ∧ (R x.1 ∨ noPathF x.2.1 = true),
  fun x => [encStrc x.1, encFm x.2.1, encL 1 encInt x.2.2], fun x => .int .i64 (evalT x.1 x.2.1 x.2.2)⟩
theorem ok_sEval {R : Strc → Prop} (hP : (ct_sPathR R).Ok Tryz.prog) : (ct_sEval R).Ok Tryz.prog := fun x h => ok_sEvalN hP x.2.1.size x ⟨h.1, h.2.1, Nat.le_refl _, h.2.2⟩
end Go.Vm
namespace Go.Vm
open Go.Proofs
structure BInv (s : Strc) (v : Int) (i j : Nat) (seen : List Bool) (q : List Int) : Prop where
  len : seen.length = s.nodes.length
  snd : ∀ y, seen[y]? = some true → Rch (edgeG s v) i y
  qs : ∀ x ∈ q, ∃ a : Nat, x = a ∧ a < s.nodes.length ∧ (a = i ∨ seen[a]? = some true)
  nj : seen[j]? ≠ some true
  cl : ∀ a : Nat, a < s.nodes.length → (a = i ∨ seen[a]? = some true) → (a : Int) ∈ q ∨ ∀ y, edgeG s v a y → seen[y]? = some true
structure IInv (s : Strc) (v : Int) (i j x k : Nat) (seen : List Bool) (q : List Int) : Prop where
  len : seen.length = s.nodes.length
  snd : ∀ y, seen[y]? = some true → Rch (edgeG s v) i y
  qs : ∀ x ∈ q, ∃ a : Nat, x = a ∧ a < s.nodes.length ∧ (a = i ∨ seen[a]? = some true)
  nj : seen[j]? ≠ some true
  cl : ∀ a : Nat, a < s.nodes.length → (a = i ∨ seen[a]? = some true) → (a : Int) ∈ q ∨ a = x ∨ ∀ y, edgeG s v a y → seen[y]? = some true
  hx : x < s.nodes.length ∧ (x = i ∨ seen[x]? = some true)
  part : ∀ y, y < k → edgeG s v x y → seen[y]? = some true
section
variable {s : Strc} {v : Int} {i j x k : Nat} {seen : List Bool} {q : List Int}
theorem BInv.start (hi : i < s.nodes.length) : BInv s v i j (List.replicate s.nodes.length false) [(i : Int)] := by
  have hn : ∀ y : Nat, (List.replicate s.nodes.length false)[y]? ≠ some true := by
    intro y
    rw [List.getElem?_replicate]
    split <;> simp
  refine ⟨by simp, fun y h => absurd h (hn y), fun x hx => ?_, hn j, fun a ha h => ?_⟩
  · rw [List.mem_singleton.1 hx]; exact ⟨i, rfl, hi, .inl rfl⟩
  · rcases h with rfl | h
    · exact .inl (by simp)
    · exact absurd h (hn a)
theorem BInv.pop (h : BInv s v i j seen ((x : Int) :: q)) : IInv s v i j x 0 seen q := by
  refine ⟨h.len, h.snd, fun y hy => h.qs y (by simp [hy]), h.nj, fun a ha hs => ?_, ?_, fun y hy => by omega⟩
  · rcases h.cl a ha hs with hm | hm
    · rcases List.mem_cons.1 hm with e | hm
      · exact .inr (.inl (by omega))
      · exact .inl hm
    · exact .inr (.inr hm)
  · obtain ⟨a, e, ha, hs⟩ := h.qs x (by simp)
    have : x = a := by omega
    subst this
    exact ⟨ha, hs⟩
theorem IInv.skip (h : IInv s v i j x k seen q) (hk : seen[k]? = some true ∨ ¬ edgeG s v x k) : IInv s v i j x (k + 1) seen q := by
  refine ⟨h.len, h.snd, h.qs, h.nj, h.cl, h.hx, fun y hy he => ?_⟩
  by_cases e : y = k
  · subst e
    rcases hk with hk | hk
    · exact hk
    · exact absurd he hk
  · exact h.part y (by omega) he
theorem IInv.reach (h : IInv s v i j x k seen q) {y : Nat} (he : edgeG s v x y) : Rch (edgeG s v) i y := by
  rcases h.hx.2 with rfl | hs
  · exact .one he
  · exact .more (h.snd x hs) he
theorem set_true {seen : List Bool} {k a : Nat} (hk : k < seen.length) : (seen.set k true)[a]? = some true ↔ a = k ∨ seen[a]? = some true := by
  by_cases e : k = a
  · subst e; simp [hk]
  · rw [List.getElem?_set_ne e]
    constructor
    · exact .inr
    · rintro (h | h)
      · exact absurd h.symm e
      · exact h
theorem IInv.push (h : IInv s v i j x k seen q) (he : edgeG s v x k) (hj : k ≠ j) : IInv s v i j x (k + 1) (seen.set k true) (q ++ [(k : Int)]) := by
  have hk : k < seen.length := by rw [h.len]; exact he.2.1
  refine ⟨by simp [h.len], fun y hy => ?_, fun z hz => ?_, fun hs => ?_, fun a ha hs => ?_, ⟨h.hx.1, h.hx.2.imp id fun g => (set_true hk).2 (.inr g)⟩, fun y hy hey => ?_⟩
  · rcases (set_true hk).1 hy with rfl | hy
    · exact h.reach he
    · exact h.snd y hy
  · rcases List.mem_append.1 hz with hz | hz
    · obtain ⟨a, e, ha, hs⟩ := h.qs z hz
      exact ⟨a, e, ha, hs.imp id fun g => (set_true hk).2 (.inr g)⟩
    · rw [List.mem_singleton.1 hz]
      exact ⟨k, rfl, he.2.1, .inr ((set_true hk).2 (.inl rfl))⟩
  · rcases (set_true hk).1 hs with e | hs
    · exact hj e.symm
    · exact h.nj hs
  · by_cases e : a = k
    · subst e; exact .inl (by simp)
    · have hs' : a = i ∨ seen[a]? = some true := hs.imp id fun g => ((set_true hk).1 g).resolve_left e
      rcases h.cl a ha hs' with g | g | g
      · exact .inl (List.mem_append.2 (.inl g))
      · exact .inr (.inl g)
      · exact .inr (.inr fun y hy => (set_true hk).2 (.inr (g y hy)))
  · by_cases e : y = k
    · exact (set_true hk).2 (.inl e)
    · exact (set_true hk).2 (.inr (h.part y (by omega) hey))
theorem IInv.done (h : IInv s v i j x k seen q) (hk : s.nodes.length ≤ k) : BInv s v i j seen q := by
  refine ⟨h.len, h.snd, h.qs, h.nj, fun a ha hs => ?_⟩
  rcases h.cl a ha hs with g | rfl | g
  · exact .inl g
  · exact .inr fun y hy => h.part y (by have := hy.2.1; omega) hy
  · exact .inr g
theorem BInv.fin (h : BInv s v i j seen []) (hi : i < s.nodes.length) : rchB s v i j = false := by
  rw [rchB_not]
  intro hr
  have hall : ∀ y, Rch (edgeG s v) i y → seen[y]? = some true := by
    intro y hy
    induction hy with
    | one he => exact (h.cl i hi (.inl rfl)).resolve_left (by simp) _ he
    | more hx he ih => exact (h.cl _ (rch_lt hx) (.inr ih)).resolve_left (by simp) _ he
  exact h.nj (hall j hr)
theorem count_push {seen : List Bool} {k : Nat} (hk : k < seen.length) (hs : seen[k] = false) : (seen.set k true).count false + 1 = seen.count false := by
  rw [List.count_set hk]
  have : 0 < seen.count false := List.count_pos_iff.2 (hs ▸ List.getElem_mem hk)
  simp [hs]
  omega
end
end Go.Vm
