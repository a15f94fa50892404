/- Formulas evaluated by the reference: the function itself. No condition. -/
import Derived.Test.YtfelkhckpfjgjaaTRZ
import Derived.Test.YtfelkhckpfjgjaaTKR
import Derived.Test.YtfelkhckpfjgjaaTEG
import Derived.Test.YtfelkhckpfjgjaaTJI
import Derived.Test.YtfelkhckpfjgjaaTEH
set_option linter.unusedSimpArgs false
set_option linter.unusedVariables false
namespace Go.Vm
open Go.Proofs
def code_spec_EvalFormula : F := ⟨102,[.tmp 6],.seq (.reg [⟨some 3,.box (.t 0),none⟩,⟨some 4,.box (.t 1),none⟩,⟨some 6,.mov (.k (.int .i64 0)),none⟩]) (.seq (.seq (.dreg [false,false,false,false,false,false,true] [false,false,false,false,false,true,false] [⟨some 7,.faddr 4 (.t 4),none⟩,⟨some 8,.load 1 false (.t 7),none⟩,⟨some 9,.len (.t 8),none⟩,⟨some 10,.faddr 0 (.t 4),none⟩,⟨some 11,.load 1 false (.t 10),none⟩,⟨some 12,.call 73 [.t 11],none⟩,⟨some 13,.bin .neq (.t 9) (.t 12),none⟩]) (.cond (.t 13) (.seq (.reg [⟨some 6,.mov (.k (.int .i64 1)),none⟩]) (.ret)) (.skip))) (.seq (.seq (.reg [⟨some 14,.faddr 0 (.t 4),none⟩,⟨some 15,.load 1 false (.t 14),none⟩]) (.block 0 (.seq (.reg [⟨some 17,.bin .eql (.t 15) (.k (.int .i64 1)),none⟩,⟨some 16,.mov (.t 17),none⟩]) (.cond (.t 16) (.seq (.reg [⟨some 6,.mov (.k (.int .i64 2)),none⟩]) (.ret)) (.seq (.seq (.reg [⟨some 19,.bin .eql (.t 15) (.k (.int .i64 2)),none⟩,⟨some 18,.mov (.t 19),none⟩]) (.cond (.t 18) (.skip) (.seq (.reg [⟨some 20,.bin .eql (.t 15) (.k (.int .i64 3)),none⟩,⟨some 18,.mov (.t 20),none⟩]) (.cond (.t 18) (.skip) (.reg [⟨some 21,.bin .eql (.t 15) (.k (.int .i64 4)),none⟩,⟨some 18,.mov (.t 21),none⟩]))))) (.cond (.t 18) (.seq (.dreg [false,false,false,false,false,false,false,true,true,true] [false,false,false,false,false,false,true,true,true,false] [⟨some 22,.load 2 true (.t 3),none⟩,⟨some 23,.load 5 true (.t 4),none⟩,⟨some 24,.load 2 true (.t 3),none⟩,⟨some 25,.mov (.t 2),none⟩,⟨some 26,.faddr 2 (.t 4),none⟩,⟨some 27,.load 1 false (.t 26),none⟩,⟨some 28,.call 76 [.t 24,.t 25,.t 27],none⟩,⟨some 29,.call 75 [.t 22,.t 23,.t 28],none⟩,⟨some 30,.call 74 [.t 29],none⟩,⟨some 6,.mov (.t 30),none⟩]) (.ret)) (.seq (.seq (.reg [⟨some 32,.bin .eql (.t 15) (.k (.int .i64 5)),none⟩,⟨some 31,.mov (.t 32),none⟩]) (.cond (.t 31) (.skip) (.seq (.reg [⟨some 33,.bin .eql (.t 15) (.k (.int .i64 6)),none⟩,⟨some 31,.mov (.t 33),none⟩]) (.cond (.t 31) (.skip) (.reg [⟨some 34,.bin .eql (.t 15) (.k (.int .i64 7)),none⟩,⟨some 31,.mov (.t 34),none⟩]))))) (.cond (.t 31) (.seq (.dreg [false,false,false,false,false,false,false,false,false,false,false,false,true,true,true] [false,false,false,false,false,false,true,false,false,false,false,true,true,true,false] [⟨some 35,.load 2 true (.t 3),none⟩,⟨some 36,.load 5 true (.t 4),none⟩,⟨some 37,.load 2 true (.t 3),none⟩,⟨some 38,.mov (.t 2),none⟩,⟨some 39,.faddr 2 (.t 4),none⟩,⟨some 40,.load 1 false (.t 39),none⟩,⟨some 41,.call 76 [.t 37,.t 38,.t 40],none⟩,⟨some 42,.load 2 true (.t 3),none⟩,⟨some 43,.mov (.t 2),none⟩,⟨some 44,.faddr 3 (.t 4),none⟩,⟨some 45,.load 1 false (.t 44),none⟩,⟨some 46,.call 76 [.t 42,.t 43,.t 45],none⟩,⟨some 47,.call 77 [.t 35,.t 36,.t 41,.t 46],none⟩,⟨some 48,.call 74 [.t 47],none⟩,⟨some 6,.mov (.t 48),none⟩]) (.ret)) (.seq (.seq (.reg [⟨some 50,.bin .eql (.t 15) (.k (.int .i64 11)),none⟩,⟨some 49,.mov (.t 50),none⟩]) (.cond (.t 49) (.skip) (.reg [⟨some 51,.bin .eql (.t 15) (.k (.int .i64 12)),none⟩,⟨some 49,.mov (.t 51),none⟩]))) (.cond (.t 49) (.seq (.reg [⟨some 52,.load 2 true (.t 3),none⟩,⟨some 53,.load 5 true (.t 4),none⟩,⟨some 54,.mov (.t 2),none⟩,⟨some 55,.call 78 [.t 52,.t 53,.t 54],none⟩,⟨some 6,.mov (.t 55),none⟩]) (.ret)) (.skip))))))))))) (.seq (.seq (.reg [⟨some 56,.faddr 0 (.t 4),none⟩,⟨some 57,.load 1 false (.t 56),none⟩]) (.block 1 (.seq (.reg [⟨some 59,.bin .eql (.t 57) (.k (.int .i64 8)),none⟩,⟨some 58,.mov (.t 59),none⟩]) (.cond (.t 58) (.seq (.dreg [false,false,false,false,false,false,true,true,true] [false,false,false,false,false,false,true,true,false] [⟨some 60,.load 2 true (.t 3),none⟩,⟨some 61,.faddr 4 (.t 4),none⟩,⟨some 62,.load 1 false (.t 61),none⟩,⟨some 63,.iaddr 5 (.t 62) (.k (.int .i64 0)),none⟩,⟨some 64,.load 5 true (.t 63),none⟩,⟨some 65,.mov (.t 2),none⟩,⟨some 66,.call 25 [.t 60,.t 64,.t 65],none⟩,⟨some 67,.call 79 [.t 66],none⟩,⟨some 6,.mov (.t 67),none⟩]) (.ret)) (.seq (.reg [⟨some 69,.bin .eql (.t 57) (.k (.int .i64 9)),none⟩,⟨some 68,.mov (.t 69),none⟩]) (.cond (.t 68) (.seq (.dreg [false,false,false,false,false,false,false,false,false,false,false,false,false,true,true,true] [false,false,false,false,false,false,true,false,false,false,false,false,false,true,true,false] [⟨some 70,.load 2 true (.t 3),none⟩,⟨some 71,.faddr 4 (.t 4),none⟩,⟨some 72,.load 1 false (.t 71),none⟩,⟨some 73,.iaddr 5 (.t 72) (.k (.int .i64 0)),none⟩,⟨some 74,.load 5 true (.t 73),none⟩,⟨some 75,.mov (.t 2),none⟩,⟨some 76,.call 25 [.t 70,.t 74,.t 75],none⟩,⟨some 77,.load 2 true (.t 3),none⟩,⟨some 78,.faddr 4 (.t 4),none⟩,⟨some 79,.load 1 false (.t 78),none⟩,⟨some 80,.iaddr 5 (.t 79) (.k (.int .i64 1)),none⟩,⟨some 81,.load 5 true (.t 80),none⟩,⟨some 82,.mov (.t 2),none⟩,⟨some 83,.call 25 [.t 77,.t 81,.t 82],none⟩,⟨some 84,.call 80 [.t 76,.t 83],none⟩,⟨some 6,.mov (.t 84),none⟩]) (.ret)) (.seq (.reg [⟨some 86,.bin .eql (.t 57) (.k (.int .i64 10)),none⟩,⟨some 85,.mov (.t 86),none⟩]) (.cond (.t 85) (.seq (.dreg [false,false,false,false,false,false,false,false,false,false,false,false,false,true,true,true] [false,false,false,false,false,false,true,false,false,false,false,false,false,true,true,false] [⟨some 87,.load 2 true (.t 3),none⟩,⟨some 88,.faddr 4 (.t 4),none⟩,⟨some 89,.load 1 false (.t 88),none⟩,⟨some 90,.iaddr 5 (.t 89) (.k (.int .i64 0)),none⟩,⟨some 91,.load 5 true (.t 90),none⟩,⟨some 92,.mov (.t 2),none⟩,⟨some 93,.call 25 [.t 87,.t 91,.t 92],none⟩,⟨some 94,.load 2 true (.t 3),none⟩,⟨some 95,.faddr 4 (.t 4),none⟩,⟨some 96,.load 1 false (.t 95),none⟩,⟨some 97,.iaddr 5 (.t 96) (.k (.int .i64 1)),none⟩,⟨some 98,.load 5 true (.t 97),none⟩,⟨some 99,.mov (.t 2),none⟩,⟨some 100,.call 25 [.t 94,.t 98,.t 99],none⟩,⟨some 101,.call 81 [.t 93,.t 100],none⟩,⟨some 6,.mov (.t 101),none⟩]) (.ret)) (.skip))))))))) (.seq (.reg [⟨some 6,.mov (.k (.int .i64 1)),none⟩]) (.ret)))))⟩
theorem fok_spec_EvalFormula : FOk Try.prog 25 code_spec_EvalFormula := fok Try.func25 (by kernel_rfl)
def code_spec_HoldsIn : F := ⟨9,[.tmp 4],.seq (.reg [⟨some 2,.box (.t 0),none⟩,⟨some 3,.box (.t 1),none⟩,⟨some 4,.mov (.k (.int .i64 0)),none⟩]) (.seq (.reg [⟨some 5,.load 2 true (.t 2),none⟩,⟨some 6,.load 5 true (.t 3),none⟩,⟨some 7,.bsl 3 1 0 (.int .i64 0) [],none⟩,⟨some 8,.call 25 [.t 5,.t 6,.t 7],none⟩,⟨some 4,.mov (.t 8),none⟩]) (.ret))⟩
theorem fok_spec_HoldsIn : FOk Try.prog 27 code_spec_HoldsIn := fok Try.func27 (by kernel_rfl)
set_option maxHeartbeats 8000000 in
set_option maxRecDepth 100000 in
theorem ok_sEvalN {R : Strc → Prop} (hP : (ct_sPathR R).Ok Try.prog) : ∀ n, (ct_sEvalN R n).Ok Try.prog
  | 0 => by rintro ⟨s, f, nodes⟩ ⟨_, _, h, _⟩; change f.size ≤ 0 at h; rw [size_eq] at h; omega
  | n + 1 => by
    have ih := ok_sEvalN hP n
    rintro ⟨s, ⟨kind, k, u, v, args⟩, nodes⟩ ⟨hs, hl, hz0, hR0⟩
    change szStrc s ≤ 1048576 at hs
    change nodes.length ≤ 1048576 at hl
    change (Fm.mk kind k u v args).size ≤ n + 1 at hz0
    change R s ∨ noPathF (.mk kind k u v args) = true at hR0
    have hz := hz0
    have hR := hR0
    have hs2 := strc_le s
    simp only [Fm.size] at hz
    simp only [noPathF, Bool.and_eq_true, decide_eq_true_eq] at hR
    have hT : TabOk Try.prog _ := tab_cons ok_sArityOf (tab_cons ok_l13Node (tab_cons ok_l13One (tab_cons (ok_l13Two hP) (tab_cons ok_l13Truth (tab_cons ok_sNotOf (tab_cons ok_sAndOf (tab_cons ok_sOrOf (tab_cons (ok_sOverN ih) (tab_cons ih tab_nil)))))))))
    refine Ok.of_cw fok_spec_EvalFormula ?_
    simp only [code_spec_EvalFormula, frame, List.length_cons, List.length_nil, List.replicate, Nat.reduceSub, Nat.reduceAdd, List.cons_append, List.nil_append]
    refine cw_seq (go_ok hT ?_)
    simp
    refine cw_seq (go_ok hT ?_)
    have hN1 := nodeOf_or s nodes u
    have hN2 := nodeOf_or s nodes v
    by_cases har : arity kind = (args.length : Int)
    case neg =>
      have har2 : ¬ (args.length : Int) = arity kind := fun e => har e.symm
      simp [evalN, har, har2]
    have har2 : (args.length : Int) = arity kind := har.symm
    rcases arity_cases har with ⟨k1, k7, ha⟩ | ⟨rfl, ha⟩ | ⟨rfl, ha⟩ | ⟨rfl, ha⟩ | ⟨rfl, ha⟩ | ⟨rfl, ha⟩
    · have ha0 : args = [] := List.eq_nil_of_length_eq_zero ha
      subst ha0
      have hR2 : R s ∨ kind ≠ 7 := hR.imp id (·.1)
      have n8 : ¬ kind = 8 := by omega
      have n9 : ¬ kind = 9 := by omega
      have n10 : ¬ kind = 10 := by omega
      have n11 : ¬ kind = 11 := by omega
      have n12 : ¬ kind = 12 := by omega
      have hE : evalN s (n + 1) (.mk kind k u v []) nodes = plainT s (.mk kind k u v []) (nodeOf s nodes u) (nodeOf s nodes v) := by simp [evalN, har, n8, n9, n10, n11, n12]
      change go _ _ _ _ (thenS _ (retP _ (.int .i64 (evalN s (n + 1) (.mk kind k u v []) nodes)))) _
      rw [hE]
      have har' : arity kind = 0 := by simpa using har
      simp [har']
      refine cw_seq (go_ok hT ?_)
      by_cases g1 : kind = 1
      · subst g1
        simp [plainT]
      by_cases g4 : kind ≤ 4
      · have hP : plainT s (.mk kind k u v []) (nodeOf s nodes u) (nodeOf s nodes v) = knownT (oneT s (.mk kind k u v []) (nodeOf s nodes u)) := by simp [plainT, g1, g4]
        rw [hP]
        obtain rfl | rfl | rfl : kind = 2 ∨ kind = 3 ∨ kind = 4 := by omega
        all_goals simp [hs, hl, hN1, encFm_agg0]
      · have hP : plainT s (.mk kind k u v []) (nodeOf s nodes u) (nodeOf s nodes v) = knownT (twoT s (.mk kind k u v []) (nodeOf s nodes u) (nodeOf s nodes v)) := by simp [plainT, g1, g4]
        rw [hP]
        obtain rfl | rfl | rfl : kind = 5 ∨ kind = 6 ∨ kind = 7 := by omega
        · simp [hs, hl, hN1, hN2, encFm_agg0]
        · simp [hs, hl, hN1, hN2, encFm_agg0]
        · have hRs : R s := by rcases hR2 with h | h; exact h; exact absurd rfl h
          simp [hs, hl, hN1, hN2, encFm_agg0, hRs]
    · obtain ⟨x, rfl⟩ := List.length_eq_one_iff.1 ha
      simp only [sizes] at hz
      have hx : x.size ≤ n := by omega
      have hRx : R s ∨ noPathF x = true := hR.imp id (fun h => by have := h.2; simp only [noPathS, Bool.and_eq_true] at this; exact this.1)
      simp [har, har2]
      refine cw_seq (go_ok hT ?_)
      simp
      refine cw_seq (go_ok hT ?_)
      simp [evalN, har, hs, hl, fget, hx, hRx]
    · obtain ⟨x, y, rfl⟩ := two_of ha
      simp only [sizes] at hz
      have hx : x.size ≤ n := by omega
      have hy : y.size ≤ n := by omega
      have hRx : R s ∨ noPathF x = true := hR.imp id (fun h => by have := h.2; simp only [noPathS, Bool.and_eq_true] at this; exact this.1)
      have hRy : R s ∨ noPathF y = true := hR.imp id (fun h => by have := h.2; simp only [noPathS, Bool.and_eq_true] at this; exact this.2.1)
      simp [har, har2]
      refine cw_seq (go_ok hT ?_)
      simp
      refine cw_seq (go_ok hT ?_)
      simp [evalN, har, hs, hl, fget, hx, hy, hRx, hRy]
    · obtain ⟨x, y, rfl⟩ := two_of ha
      simp only [sizes] at hz
      have hx : x.size ≤ n := by omega
      have hy : y.size ≤ n := by omega
      have hRx : R s ∨ noPathF x = true := hR.imp id (fun h => by have := h.2; simp only [noPathS, Bool.and_eq_true] at this; exact this.1)
      have hRy : R s ∨ noPathF y = true := hR.imp id (fun h => by have := h.2; simp only [noPathS, Bool.and_eq_true] at this; exact this.2.1)
      simp [har, har2]
      refine cw_seq (go_ok hT ?_)
      simp
      refine cw_seq (go_ok hT ?_)
      simp [evalN, har, hs, hl, fget, hx, hy, hRx, hRy]
    · obtain ⟨x, rfl⟩ := List.length_eq_one_iff.1 ha
      simp [har, har2]
      refine cw_seq (go_ok hT ?_)
      simp [hs, hl]
      exact ⟨hz0, hR0⟩
    · obtain ⟨x, rfl⟩ := List.length_eq_one_iff.1 ha
      simp [har, har2]
      refine cw_seq (go_ok hT ?_)
      simp [hs, hl]
      exact ⟨hz0, hR0⟩
@[simp] noncomputable def ct_sEval (R : Strc → Prop) : Ct := ⟨25, Strc × Fm × List Int, fun x => szStrc x.1 ≤ 1048576 ∧ x.2.2.length ≤ 1048576 ∧ (R x.1 ∨ noPathF x.2.1 = true),
  fun x => [encStrc x.1, encFm x.2.1, encL 1 encInt x.2.2], fun x => .int .i64 (evalT x.1 x.2.1 x.2.2)⟩
theorem ok_sEval {R : Strc → Prop} (hP : (ct_sPathR R).Ok Try.prog) : (ct_sEval R).Ok Try.prog := fun x h => ok_sEvalN hP x.2.1.size x ⟨h.1, h.2.1, Nat.le_refl _, h.2.2⟩
@[simp] noncomputable def ct_sHolds (R : Strc → Prop) : Ct := ⟨27, Strc × Fm, fun x => szStrc x.1 ≤ 1048576 ∧ (R x.1 ∨ noPathF x.2 = true),
  fun x => [encStrc x.1, encFm x.2], fun x => .int .i64 (evalT x.1 x.2 [])⟩
theorem ok_sHolds {R : Strc → Prop} (hP : (ct_sPathR R).Ok Try.prog) : (ct_sHolds R).Ok Try.prog := by
  rintro ⟨s, f⟩ ⟨hs, hR⟩
  change szStrc s ≤ 1048576 at hs
  change R s ∨ noPathF f = true at hR
  refine Ok.of_cw fok_spec_HoldsIn (go_ok (tab_cons (ok_sEval hP) tab_nil) ?_)
  simp [code_spec_HoldsIn, List.replicate, hs, hR]
end Go.Vm
namespace Go.Vm
open Go.Proofs
def code_spec_DrawHoldsIn : F := ⟨15,[.cell 2 true 2,.cell 5 true 3],.seq (.reg [⟨some 2,.alloc [(.sl .nil 0 []),(.sl .nil 0 [])],none⟩,⟨some 3,.alloc [(.int .i64 0),(.int .i64 0),(.int .i64 0),(.int .i64 0),(.sl .nil 0 [])],none⟩]) (.seq (.reg [⟨some 8,.mov (.t 0),none⟩,⟨some 9,.call 21 [.t 8],none⟩,⟨some 7,.mov (.t 9),none⟩,⟨some 10,.extr (.t 7) 0,none⟩,⟨some 11,.extr (.t 7) 1,none⟩,⟨some 12,.extr (.t 7) 2,none⟩,⟨some 4,.alloc [(.sl .nil 0 []),(.sl .nil 0 [])],none⟩,⟨some 5,.alloc [(.int .i64 0),(.int .i64 0),(.int .i64 0),(.int .i64 0),(.sl .nil 0 [])],none⟩,⟨none,.store 2 (.t 4) (.t 10),none⟩,⟨none,.store 5 (.t 5) (.t 11),none⟩,⟨some 6,.mov (.t 12),none⟩]) (.seq (.dreg [false,false,false,true] [false,false,false,false] [⟨some 13,.load 2 true (.t 4),none⟩,⟨some 14,.load 5 true (.t 5),none⟩,⟨none,.store 2 (.t 2) (.t 13),none⟩,⟨none,.store 5 (.t 3) (.t 14),none⟩]) (.ret)))⟩
theorem fok_spec_DrawHoldsIn : FOk Try.prog 22 code_spec_DrawHoldsIn := fok Try.func22 (by kernel_rfl)
@[simp] def ct_DrawHolds : Ct := ⟨22, List UInt8, fun bs => bs.length ≤ 1048576, fun bs => [encL 1 encU bs], fun bs => .tup [encStrc (evS bs), encFm (evF bs)]⟩
set_option maxHeartbeats 2000000 in
set_option maxRecDepth 100000 in
theorem ok_DrawHolds : ct_DrawHolds.Ok Try.prog := by
  intro bs hbs
  change List UInt8 at bs
  change bs.length ≤ 1048576 at hbs
  have hT : TabOk Try.prog _ := tab_cons ok_DrawEval tab_nil
  simp only [ct_DrawHolds]
  refine Ok.of_cw fok_spec_DrawHoldsIn ?_
  simp only [code_spec_DrawHoldsIn, frame, List.length_cons, List.length_nil, List.replicate, Nat.reduceSub, Nat.reduceAdd, List.cons_append, List.nil_append]
  refine cw_seq (go_ok hT ?_); simp [List.replicate]
  refine cw_seq (go_ok hT ?_); simp [List.replicate, hbs]
  generalize evS bs = s at *
  generalize evF bs = f at *
  refine cw_seq (cw_dreg8K hT [] _ [none, none, some 2, some 4] [[true, true, false, true, false, true, true, true, true, true], [true, true, false, true, false, true, true, true, true, true], [true, true, true, true, false, true, true, true, true, true], [true, true, false, true, true, true, true, true, true, true]] (by rfl) ?_)
  simp [List.replicate]
  refine go_ok hT ?_
  simp [List.replicate]
  obtain ⟨a, b, d, e, l⟩ := f
  exact ⟨rfl, by simp⟩
def code_spec_DrawPathOf : F := ⟨17,[.cell 2 true 2,.tmp 3,.tmp 4],.seq (.reg [⟨some 2,.alloc [(.sl .nil 0 []),(.sl .nil 0 [])],none⟩,⟨some 3,.mov (.k (.int .i64 0)),none⟩,⟨some 4,.mov (.k (.int .i64 0)),none⟩]) (.seq (.reg [⟨some 9,.mov (.t 0),none⟩,⟨some 10,.call 65 [.t 9],none⟩,⟨some 8,.mov (.t 10),none⟩,⟨some 11,.extr (.t 8) 0,none⟩,⟨some 12,.extr (.t 8) 1,none⟩,⟨some 13,.extr (.t 8) 2,none⟩,⟨some 5,.alloc [(.sl .nil 0 []),(.sl .nil 0 [])],none⟩,⟨none,.store 2 (.t 5) (.t 11),none⟩,⟨some 6,.mov (.t 12),none⟩,⟨some 7,.mov (.t 13),none⟩]) (.seq (.reg [⟨some 14,.load 2 true (.t 5),none⟩,⟨some 15,.mov (.t 6),none⟩,⟨some 16,.mov (.t 7),none⟩,⟨none,.store 2 (.t 2) (.t 14),none⟩,⟨some 3,.mov (.t 15),none⟩,⟨some 4,.mov (.t 16),none⟩]) (.ret)))⟩
theorem fok_spec_DrawPathOf : FOk Try.prog 23 code_spec_DrawPathOf := fok Try.func23 (by kernel_rfl)
@[simp] def ct_DrawPathOf : Ct := ⟨23, List UInt8, fun bs => bs.length ≤ 1048576, fun bs => [encL 1 encU bs], fun bs => .tup [encStrc (drawB2 bs), .int .i64 (drawN1 bs), .int .i64 (drawN2 bs)]⟩
set_option maxHeartbeats 2000000 in
set_option maxRecDepth 100000 in
theorem ok_DrawPathOf : ct_DrawPathOf.Ok Try.prog := by
  intro bs hbs
  change List UInt8 at bs
  change bs.length ≤ 1048576 at hbs
  have hT : TabOk Try.prog _ := tab_cons ok_DrawNextOf tab_nil
  simp only [ct_DrawPathOf]
  refine Ok.of_cw fok_spec_DrawPathOf ?_
  simp only [code_spec_DrawPathOf, frame, List.length_cons, List.length_nil, List.replicate, Nat.reduceSub, Nat.reduceAdd, List.cons_append, List.nil_append]
  refine cw_seq (go_ok hT ?_); simp [List.replicate]
  refine cw_seq (go_ok hT ?_); simp [List.replicate, hbs]
  refine cw_seq (go_ok hT ?_); simp [List.replicate]
  refine go_ok hT ?_
  simp [List.replicate]
  rfl
theorem ok_pEvalK : (ct_pEval truthS).Ok Try.prog := ok_pEval (fun x h => ok_pPathT x ⟨trivial, h.2⟩)
theorem ok_sEvalK : (ct_sEval truthS).Ok Try.prog := ok_sEval ok_sPathT
theorem ok_pHoldsK : (ct_pHolds truthS).Ok Try.prog := ok_pHolds (fun x h => ok_pPathT x ⟨trivial, h.2⟩)
theorem ok_sHoldsK : (ct_sHolds truthS).Ok Try.prog := ok_sHolds ok_sPathT
theorem evS_truth (bs : List UInt8) : truthS (evS bs) := by
  unfold evS ev3
  split
  · exact bent12_truth _
  · exact d12_truth _
def code_spec_IsDefinite : F := ⟨39,[.tmp 2],.seq (.reg [⟨some 1,.box (.t 0),none⟩,⟨some 2,.mov (.k (.bool false)),none⟩]) (.seq (.seq (.reg [⟨some 3,.mov (.k (.int .i64 0)),none⟩]) (.block 0 (.loop (.seq (.seq (.reg [⟨some 5,.mov (.t 3),none⟩,⟨some 6,.faddr 0 (.t 1),none⟩,⟨some 7,.load 1 false (.t 6),none⟩,⟨some 8,.len (.t 7),none⟩,⟨some 9,.bin .lss (.t 5) (.t 8),none⟩]) (.cond (.t 9) (.skip) (.exit 0))) (.seq (.block 1 (.seq (.reg [⟨some 12,.faddr 0 (.t 1),none⟩,⟨some 13,.load 1 false (.t 12),none⟩,⟨some 14,.mov (.t 3),none⟩,⟨some 15,.iaddr 4 (.t 13) (.t 14),none⟩,⟨some 16,.load 4 true (.t 15),none⟩,⟨some 4,.alloc [(.sl .nil 0 []),(.sl .nil 0 []),(.int .i64 0),(.int .i64 0)],none⟩,⟨none,.store 4 (.t 4) (.t 16),none⟩]) (.seq (.reg [⟨some 17,.faddr 2 (.t 4),none⟩,⟨some 18,.load 1 false (.t 17),none⟩,⟨some 19,.bin .eql (.t 18) (.k (.int .i64 1)),none⟩,⟨some 20,.mov (.t 19),none⟩,⟨some 21,.faddr 3 (.t 4),some (20,false)⟩,⟨some 22,.load 1 false (.t 21),some (20,false)⟩,⟨some 23,.bin .eql (.t 22) (.k (.int .i64 1)),some (20,false)⟩,⟨some 24,.pick (.t 20) (.k (.bool true)) (.t 23),none⟩,⟨some 25,.mov (.t 24),none⟩,⟨some 26,.faddr 0 (.t 4),some (25,false)⟩,⟨some 27,.load 1 false (.t 26),some (25,false)⟩,⟨some 28,.call 50 [.t 27,(.k (.int .i64 1))],some (25,false)⟩,⟨some 29,.pick (.t 25) (.k (.bool true)) (.t 28),none⟩,⟨some 30,.mov (.t 29),none⟩,⟨some 31,.faddr 1 (.t 4),some (30,false)⟩,⟨some 32,.load 1 false (.t 31),some (30,false)⟩,⟨some 33,.call 50 [.t 32,(.k (.int .i64 1))],some (30,false)⟩,⟨some 34,.pick (.t 30) (.k (.bool true)) (.t 33),none⟩]) (.cond (.t 34) (.seq (.reg [⟨some 2,.mov (.k (.bool false)),none⟩]) (.ret)) (.skip))))) (.reg [⟨some 10,.mov (.t 3),none⟩,⟨some 11,.bin .add (.t 10) (.k (.int .i64 1)),none⟩,⟨some 3,.mov (.t 11),none⟩])))))) (.seq (.reg [⟨some 35,.faddr 1 (.t 1),none⟩,⟨some 36,.load 1 false (.t 35),none⟩,⟨some 37,.call 50 [.t 36,(.k (.int .i64 1))],none⟩,⟨some 38,.not (.t 37),none⟩,⟨some 2,.mov (.t 38),none⟩]) (.ret)))⟩
theorem fok_spec_IsDefinite : FOk Try.prog 31 code_spec_IsDefinite := fok Try.func31 (by kernel_rfl)
@[simp] def ct_sIsDefK : Ct := ⟨31, Strc, fun x => szStrc x ≤ 1048576, fun x => [encStrc x], fun x => .bool (isDef x)⟩
theorem ok_sIsDefK : ct_sIsDefK.Ok Try.prog := by
  rintro x hx
  change Strc at x
  change szStrc x ≤ 1048576 at hx
  have hs := strc_le x
  refine Ok.of_cw fok_spec_IsDefinite (go_ok (tab_cons ok_l7Has tab_nil) ?_)
  simp [code_spec_IsDefinite, List.replicate]
  refine cw_round (fun (i : Nat) => ⟨slots 39 [(1, .pbox 0 0), (3, .int .i64 i)], [.cells [encL 4 encNode x.nodes, encL 1 encInt x.next]]⟩)
    (fun i => i ≤ x.nodes.length ∧ noHit halfN x.nodes i) (fun i => x.nodes.length - i) 0 ⟨by omega, noHit_zero⟩ ?_ ?_
  · exact weak_seal 1 (by omega) (by simp) (by simp [List.replicate])
  · rintro N hN i ⟨hi, hn⟩
    have hw : IntKind.i64.wrap ((i : Int) + 1) = ((i + 1 : Nat) : Int) := by rw [wrap_i64] <;> omega
    refine go_ok (tab_cons ok_l7Has tab_nil) ?_
    by_cases h : i < x.nodes.length
    · have h2 : ¬ x.nodes.length ≤ i := by omega
      have hd : halfN x.nodes[i] = true → isDef x = false := fun e => by simp [isDef, any_hit h e]
      have hm := node_le (List.getElem_mem h)
      simp [List.replicate, hw, h, h2]
      refine ⟨fun a1 => ⟨fun a2 => ⟨by omega, fun a3 => ⟨by omega, fun e => hd (by simp [halfN, e]), fun a4 => ?_⟩, fun e => hd (by simp [halfN, e])⟩, fun e => hd (by simp [halfN, e])⟩, fun e => hd (by simp [halfN, e])⟩
      refine hN _ (i + 1) _ ⟨by omega, noHit_succ hn h (by simp [halfN, a1, a2, a3, a4])⟩ (by omega) (weak_seal 1 (by omega) ?_ ?_)
      · simp
      · simp [List.replicate]
    · have h2 : x.nodes.length ≤ i := by omega
      simp [List.replicate, h, h2]
      exact ⟨by omega, by simp [isDef, any_none hn h2]⟩
def code_laws_FnEvaluated : F := ⟨154,[.tmp 2],.seq (.reg [⟨some 2,.mov (.k (.bool false)),none⟩]) (.seq (.seq (.reg [⟨some 15,.mov (.t 0),none⟩,⟨some 16,.call 6 [.t 15],none⟩]) (.cond (.t 16) (.seq (.reg [⟨some 2,.mov (.k (.bool true)),none⟩]) (.ret)) (.skip))) (.seq (.reg [⟨some 18,.mov (.t 0),none⟩,⟨some 19,.call 21 [.t 18],none⟩,⟨some 17,.mov (.t 19),none⟩,⟨some 20,.extr (.t 17) 0,none⟩,⟨some 21,.extr (.t 17) 1,none⟩,⟨some 22,.extr (.t 17) 2,none⟩,⟨some 3,.alloc [(.sl .nil 0 []),(.sl .nil 0 [])],none⟩,⟨some 4,.alloc [(.int .i64 0),(.int .i64 0),(.int .i64 0),(.int .i64 0),(.sl .nil 0 [])],none⟩,⟨none,.store 2 (.t 3) (.t 20),none⟩,⟨none,.store 5 (.t 4) (.t 21),none⟩,⟨some 5,.mov (.t 22),none⟩]) (.seq (.reg [⟨some 24,.mov (.t 0),none⟩,⟨some 25,.call 22 [.t 24],none⟩,⟨some 23,.mov (.t 25),none⟩,⟨some 26,.extr (.t 23) 0,none⟩,⟨some 27,.extr (.t 23) 1,none⟩,⟨some 6,.alloc [(.sl .nil 0 []),(.sl .nil 0 [])],none⟩,⟨some 7,.alloc [(.int .i64 0),(.int .i64 0),(.int .i64 0),(.int .i64 0),(.sl .nil 0 [])],none⟩,⟨none,.store 2 (.t 6) (.t 26),none⟩,⟨none,.store 5 (.t 7) (.t 27),none⟩]) (.seq (.reg [⟨some 29,.mov (.t 0),none⟩,⟨some 30,.call 23 [.t 29],none⟩,⟨some 28,.mov (.t 30),none⟩,⟨some 31,.extr (.t 28) 0,none⟩,⟨some 32,.extr (.t 28) 1,none⟩,⟨some 33,.extr (.t 28) 2,none⟩,⟨some 8,.alloc [(.sl .nil 0 []),(.sl .nil 0 [])],none⟩,⟨none,.store 2 (.t 8) (.t 31),none⟩,⟨some 9,.mov (.t 32),none⟩,⟨some 10,.mov (.t 33),none⟩]) (.seq (.reg [⟨some 34,.load 2 true (.t 3),none⟩,⟨some 35,.load 5 true (.t 4),none⟩,⟨some 36,.mov (.t 5),none⟩,⟨some 37,.call 24 [.t 34,.t 35,.t 36],none⟩,⟨some 11,.mov (.t 37),none⟩]) (.seq (.seq (.dreg [false,false,false,false,false,true,true,false,false,false,false,false,true,true,true,true,false,false,false,false,false,false,false,true,true,true,true,true,true,true,true] [false,false,false,false,true,false,false,false,false,true,false,false,true,false,false,false,false,false,false,true,false,false,false,true,false,false,false,false,true,false,false] [⟨some 38,.mov (.t 11),none⟩,⟨some 39,.load 2 true (.t 3),none⟩,⟨some 40,.load 5 true (.t 4),none⟩,⟨some 41,.mov (.t 5),none⟩,⟨some 42,.call 25 [.t 39,.t 40,.t 41],none⟩,⟨some 43,.bin .neq (.t 38) (.t 42),none⟩,⟨some 44,.mov (.t 43),none⟩,⟨some 45,.load 2 true (.t 6),some (44,false)⟩,⟨some 46,.load 5 true (.t 7),some (44,false)⟩,⟨some 47,.call 26 [.t 45,.t 46],some (44,false)⟩,⟨some 48,.load 2 true (.t 6),some (44,false)⟩,⟨some 49,.load 5 true (.t 7),some (44,false)⟩,⟨some 50,.call 27 [.t 48,.t 49],some (44,false)⟩,⟨some 51,.bin .neq (.t 47) (.t 50),some (44,false)⟩,⟨some 52,.pick (.t 44) (.k (.bool true)) (.t 51),none⟩,⟨some 53,.mov (.t 52),none⟩,⟨some 54,.load 2 true (.t 8),some (53,false)⟩,⟨some 55,.mov (.t 9),some (53,false)⟩,⟨some 56,.mov (.t 10),some (53,false)⟩,⟨some 57,.call 28 [.t 54,.t 55,.t 56],some (53,false)⟩,⟨some 58,.load 2 true (.t 8),some (53,false)⟩,⟨some 59,.mov (.t 9),some (53,false)⟩,⟨some 60,.mov (.t 10),some (53,false)⟩,⟨some 61,.call 29 [.t 58,.t 59,.t 60],some (53,false)⟩,⟨some 62,.bin .neq (.t 57) (.t 61),some (53,false)⟩,⟨some 63,.pick (.t 53) (.k (.bool true)) (.t 62),none⟩,⟨some 64,.mov (.t 63),none⟩,⟨some 65,.mov (.t 11),some (64,false)⟩,⟨some 66,.call 30 [.t 65],some (64,false)⟩,⟨some 67,.not (.t 66),some (64,false)⟩,⟨some 68,.pick (.t 64) (.k (.bool true)) (.t 67),none⟩]) (.cond (.t 68) (.seq (.reg [⟨some 2,.mov (.k (.bool false)),none⟩]) (.ret)) (.skip))) (.seq (.reg [⟨some 69,.faddr 0 (.t 3),none⟩,⟨some 70,.load 1 false (.t 69),none⟩,⟨some 71,.len (.t 70),none⟩,⟨some 12,.mov (.t 71),none⟩]) (.seq (.reg [⟨some 72,.mov (.t 12),none⟩,⟨some 73,.bin .sub (.t 72) (.k (.int .i64 1)),none⟩,⟨some 74,.mov (.t 12),none⟩,⟨some 75,.bin .quo (.t 74) (.k (.int .i64 2)),none⟩,⟨some 76,.bsl 3 1 4 (.int .i64 0) [(0,(.k (.int .i64 0))),(1,.t 73),(2,.t 75),(3,(.k (.int .i64 0)))],none⟩,⟨some 13,.mov (.t 76),none⟩]) (.seq (.seq (.reg [⟨some 77,.mov (.t 12),none⟩,⟨some 78,.bin .gtr (.t 77) (.k (.int .i64 0)),none⟩,⟨some 79,.mov (.t 78),none⟩,⟨some 80,.load 2 true (.t 3),some (79,true)⟩,⟨some 81,.call 31 [.t 80],some (79,true)⟩,⟨some 82,.pick (.t 79) (.t 81) (.k (.bool false)),none⟩,⟨some 83,.mov (.t 82),none⟩,⟨some 84,.load 2 true (.t 3),some (83,true)⟩,⟨some 85,.call 19 [(.k (.int .i64 3)),.t 84],some (83,true)⟩,⟨some 86,.pick (.t 83) (.t 85) (.k (.bool false)),none⟩,⟨some 87,.mov (.t 86),none⟩,⟨some 88,.load 5 true (.t 4),some (87,true)⟩,⟨some 89,.call 32 [(.k (.int .i64 3)),.t 88],some (87,true)⟩,⟨some 90,.pick (.t 87) (.t 89) (.k (.bool false)),none⟩,⟨some 91,.mov (.t 90),none⟩,⟨some 92,.load 2 true (.t 3),some (91,true)⟩,⟨some 93,.load 5 true (.t 4),some (91,true)⟩,⟨some 94,.mov (.t 13),some (91,true)⟩,⟨some 95,.call 24 [.t 92,.t 93,.t 94],some (91,true)⟩,⟨some 96,.bin .eql (.t 95) (.k (.int .i64 1)),some (91,true)⟩,⟨some 97,.pick (.t 91) (.t 96) (.k (.bool false)),none⟩]) (.cond (.t 97) (.seq (.reg [⟨some 2,.mov (.k (.bool false)),none⟩]) (.ret)) (.skip))) (.seq (.seq (.reg [⟨some 14,.mov (.k (.int .i64 0)),none⟩]) (.block 0 (.loop (.seq (.seq (.reg [⟨some 98,.mov (.t 14),none⟩,⟨some 99,.faddr 0 (.t 8),none⟩,⟨some 100,.load 1 false (.t 99),none⟩,⟨some 101,.len (.t 100),none⟩,⟨some 102,.bin .lss (.t 98) (.t 101),none⟩]) (.cond (.t 102) (.skip) (.exit 0))) (.seq (.block 1 (.seq (.dreg [false,false,false,false,false,false,false,false,false,false,false,false,true,true,true,true,true,true,true,true,true,true,true,false,false,false,false,true,true,true,false,false,false,false,true,true,true,true,true,true,true,false,false,false,true,true,true,true,true] [false,false,false,true,false,false,false,true,true,false,false,false,true,false,false,false,false,false,false,false,false,false,false,false,false,false,false,false,false,false,false,false,false,false,false,false,false,false,true,false,false,false,false,false,false,false,false,false,false] [⟨some 105,.load 2 true (.t 8),none⟩,⟨some 106,.mov (.t 9),none⟩,⟨some 107,.mov (.t 10),none⟩,⟨some 108,.call 28 [.t 105,.t 106,.t 107],none⟩,⟨some 109,.load 2 true (.t 8),none⟩,⟨some 110,.mov (.t 10),none⟩,⟨some 111,.mov (.t 14),none⟩,⟨some 112,.call 34 [.t 109,.t 110,.t 111],none⟩,⟨some 113,.call 33 [.t 108,.t 112],none⟩,⟨some 114,.load 2 true (.t 8),none⟩,⟨some 115,.mov (.t 9),none⟩,⟨some 116,.mov (.t 14),none⟩,⟨some 117,.call 28 [.t 114,.t 115,.t 116],none⟩,⟨some 118,.bin .gtr (.t 113) (.t 117),none⟩,⟨some 119,.mov (.t 118),none⟩,⟨some 120,.mov (.t 9),some (119,true)⟩,⟨some 121,.bin .geq (.t 120) (.k (.int .i64 0)),some (119,true)⟩,⟨some 122,.pick (.t 119) (.t 121) (.k (.bool false)),none⟩,⟨some 123,.mov (.t 122),none⟩,⟨some 124,.mov (.t 10),some (123,true)⟩,⟨some 125,.bin .geq (.t 124) (.k (.int .i64 0)),some (123,true)⟩,⟨some 126,.pick (.t 123) (.t 125) (.k (.bool false)),none⟩,⟨some 127,.mov (.t 126),none⟩,⟨some 128,.mov (.t 9),some (127,true)⟩,⟨some 129,.faddr 0 (.t 8),some (127,true)⟩,⟨some 130,.load 1 false (.t 129),some (127,true)⟩,⟨some 131,.len (.t 130),some (127,true)⟩,⟨some 132,.bin .lss (.t 128) (.t 131),some (127,true)⟩,⟨some 133,.pick (.t 127) (.t 132) (.k (.bool false)),none⟩,⟨some 134,.mov (.t 133),none⟩,⟨some 135,.mov (.t 10),some (134,true)⟩,⟨some 136,.faddr 0 (.t 8),some (134,true)⟩,⟨some 137,.load 1 false (.t 136),some (134,true)⟩,⟨some 138,.len (.t 137),some (134,true)⟩,⟨some 139,.bin .lss (.t 135) (.t 138),some (134,true)⟩,⟨some 140,.pick (.t 134) (.t 139) (.k (.bool false)),none⟩,⟨some 141,.mov (.t 140),none⟩,⟨some 142,.load 2 true (.t 8),some (141,true)⟩,⟨some 143,.call 19 [(.k (.int .i64 3)),.t 142],some (141,true)⟩,⟨some 144,.pick (.t 141) (.t 143) (.k (.bool false)),none⟩,⟨some 145,.mov (.t 144),none⟩,⟨some 146,.faddr 0 (.t 8),some (145,true)⟩,⟨some 147,.load 1 false (.t 146),some (145,true)⟩,⟨some 148,.mov (.t 9),some (145,true)⟩,⟨some 149,.iaddr 4 (.t 147) (.t 148),some (145,true)⟩,⟨some 150,.faddr 3 (.t 149),some (145,true)⟩,⟨some 151,.load 1 false (.t 150),some (145,true)⟩,⟨some 152,.bin .eql (.t 151) (.k (.int .i64 0)),some (145,true)⟩,⟨some 153,.pick (.t 145) (.t 152) (.k (.bool false)),none⟩]) (.cond (.t 153) (.seq (.reg [⟨some 2,.mov (.k (.bool false)),none⟩]) (.ret)) (.skip)))) (.reg [⟨some 103,.mov (.t 14),none⟩,⟨some 104,.bin .add (.t 103) (.k (.int .i64 1)),none⟩,⟨some 14,.mov (.t 104),none⟩])))))) (.seq (.reg [⟨some 2,.mov (.k (.bool true)),none⟩]) (.ret))))))))))))⟩
theorem fok_laws_FnEvaluated : FOk Try.prog 4 code_laws_FnEvaluated := fok Try.func4 (by kernel_rfl)
def tl8 : C → C
  | .seq _ (.seq _ (.seq _ (.seq _ (.seq _ (.seq _ (.seq _ (.seq _ (.seq _ (.seq _ x))))))))) => x
  | c => c
set_option maxHeartbeats 8000000 in
set_option maxRecDepth 100000 in
theorem ok_lawEvaluated (bs : List UInt8) : Ok Try.prog 4 [encL 1 encU bs] (.bool true) := by
  by_cases hbs : bs.length ≤ 1048576
  case neg =>
    have hb2 : 1048576 < bs.length := by omega
    refine Ok.of_cw fok_laws_FnEvaluated (go_ok (tab_cons ok_bigK tab_nil) ?_)
    simp [code_laws_FnEvaluated, List.replicate, hb2]
  have hb2 : ¬ 1048576 < bs.length := by omega
  have hT : TabOk Try.prog _ := tab_cons ok_bigK (tab_cons ok_DrawEval (tab_cons ok_DrawHolds (tab_cons ok_DrawPathOf (tab_cons ok_pEvalK (tab_cons ok_sEvalK (tab_cons ok_pHoldsK (tab_cons ok_sHoldsK (tab_cons ok_pPathT (tab_cons ok_sPathT (tab_cons ok_pIsTruth (tab_cons ok_sIsDefK (tab_cons ok_sIsStructure (tab_cons ok_IsFormula (tab_cons ok_pNextOf (tab_cons ok_pAndOf tab_nil)))))))))))))))
  obtain ⟨z1, z2⟩ := evS_ok bs
  have z3 := evS_truth bs
  have z4 : (evF bs).size ≤ 1048576 := Nat.le_trans (evF_ok bs) (by omega)
  have z5 : (evN bs).length ≤ 1048576 := Nat.le_trans (evN_len bs) (by omega)
  obtain ⟨z6, z7⟩ := bent12_sz (cur0 bs)
  have z6 : szStrc (drawB2 bs) ≤ 1048576 := z6
  have z7 : (drawB2 bs).nodes.length ≤ 10 := z7
  have z8 : truthS (drawB2 bs) := bent12_truth _
  have z9 : 0 < (evS bs).nodes.length → isDef (evS bs) = true → structB 3 (evS bs) = true → isFmB 3 (evF bs) = true → ¬ evalT (evS bs) (evF bs) [0, ((evS bs).nodes.length : Int) - 1, ((evS bs).nodes.length : Int) / 2, 0] = 1 := fun h1 h2 h3 h4 => by
    unfold isFmB at h4
    simp only [Bool.and_eq_true] at h4
    refine eval_def h3 h2 _ _ _ (Nat.le_refl _) h4.2 ⟨rfl, fun x hx => ?_⟩
    simp only [List.mem_cons, List.not_mem_nil, or_false] at hx
    rcases hx with rfl | rfl | rfl | rfl
    · exact ⟨0, rfl, h1⟩
    · exact ⟨(evS bs).nodes.length - 1, by omega, by omega⟩
    · exact ⟨(evS bs).nodes.length / 2, by omega, by omega⟩
    · exact ⟨0, rfl, h1⟩
  have zT := evalN_truth (evS bs) (evF bs).size (evF bs) (evN bs)
  have zT : isTruth (evalT (evS bs) (evF bs) (evN bs)) = true := zT
  refine Ok.of_cw fok_laws_FnEvaluated ?_
  simp only [code_laws_FnEvaluated, frame, List.length_cons, List.length_nil, List.replicate, Nat.reduceSub, Nat.reduceAdd, List.cons_append, List.nil_append]
  refine cw_seq (go_ok hT ?_); simp [List.replicate]
  refine cw_seq (go_ok hT ?_); simp [List.replicate, hbs, hb2]
  refine cw_seq (go_ok hT ?_); simp [List.replicate, hbs]
  refine cw_seq (go_ok hT ?_); simp [List.replicate, hbs]
  refine cw_seq (go_ok hT ?_); simp [List.replicate, hbs]
  generalize evS bs = s at *
  generalize evF bs = f at *
  generalize evN bs = ns at *
  generalize drawB2 bs = y at *
  generalize drawN1 bs = i at *
  generalize drawN2 bs = j at *
  obtain ⟨kind, k, u, w, l⟩ := f
  refine cw_seq (go_ok hT ?_); simp [List.replicate, z1, z3, z5]
  refine cw_seq (cw_seq (go_ok hT ?_)); simp (maxSteps := 4000000) [List.replicate, z1, z3, z5, z6, z8, zT]
  refine go_ok hT ?_; simp [List.replicate]
  refine cw_weak (weak_less (n0 := 0) (t' := slots 154 [(3, .pbox 2 0), (4, .pbox 4 0), (8, .pbox 12 0), (9, .int .i64 i), (10, .int .i64 j)]) (H' := [.dead, .dead, .cells [encL 4 encNode s.nodes, encL 1 encInt s.next], .dead, .cells [.int .i64 kind, .int .i64 k, .int .i64 u, .int .i64 w, encL 5 encFm l], .dead, .dead, .dead, .dead, .dead, .dead, .dead, .cells [encL 4 encNode y.nodes, encL 1 encInt y.next]]) (by simp) (by simp [List.replicate])) ?_
  clear zT
  have loop : ∀ t X, All2 (SlV 13 ([.dead, .dead, .cells [encL 4 encNode s.nodes, encL 1 encInt s.next], .dead, .cells [.int .i64 kind, .int .i64 k, .int .i64 u, .int .i64 w, encL 5 encFm l], .dead, .dead, .dead, .dead, .dead, .dead, .dead, .cells [encL 4 encNode y.nodes, encL 1 encInt y.next]] ++ X)) t (slots 154 [(8, .pbox 12 0), (9, .int .i64 i), (10, .int .i64 j)]) → CW Try.prog 0 (tl8 code_laws_FnEvaluated.c) (retP code_laws_FnEvaluated.rs (.bool true)) ⟨t, [.dead, .dead, .cells [encL 4 encNode s.nodes, encL 1 encInt s.next], .dead, .cells [.int .i64 kind, .int .i64 k, .int .i64 u, .int .i64 w, encL 5 encFm l], .dead, .dead, .dead, .dead, .dead, .dead, .dead, .cells [encL 4 encNode y.nodes, encL 1 encInt y.next]] ++ X⟩ := by
    intro t X ht
    refine cw_weak (weak_seal (n0 := 0) 13 (by omega) (H' := [.dead, .dead, .dead, .dead, .dead, .dead, .dead, .dead, .dead, .dead, .dead, .dead, .cells [encL 4 encNode y.nodes, encL 1 encInt y.next]]) (by simp) ht) ?_
    clear ht
    simp only [code_laws_FnEvaluated, tl8]
    refine cw_seq (cw_seq (go_ok hT ?_)); simp [List.replicate]
    refine cw_block (cw_round (fun (p : Nat) => ⟨slots 154 [(8, .pbox 12 0), (9, .int .i64 i), (10, .int .i64 j), (14, .int .i64 p)], [.dead, .dead, .dead, .dead, .dead, .dead, .dead, .dead, .dead, .dead, .dead, .dead, .cells [encL 4 encNode y.nodes, encL 1 encInt y.next]]⟩)
      (fun p => p ≤ y.nodes.length) (fun p => y.nodes.length - p) 0 (by simp) ?_ ?_)
    · exact weak_less (by simp) (by simp [List.replicate])
    rintro N hN p hp
    change p ≤ y.nodes.length at hp
    have hwp : IntKind.i64.wrap ((p : Int) + 1) = ((p + 1 : Nat) : Int) := by rw [wrap_i64] <;> omega
    refine cw_seq (cw_seq (go_ok hT ?_))
    by_cases q : p < y.nodes.length
    · have q2 : ¬ y.nodes.length ≤ p := by omega
      simp [List.replicate, q, q2]
      refine go_ok hT ?_; simp [List.replicate]
      by_cases hr : (0 ≤ i ∧ i < y.nodes.length) ∧ 0 ≤ j ∧ j < y.nodes.length
      · have hle : andT (pathT y i j) (nextOf y j p) ≤ pathT y i p := by
          obtain ⟨⟨a1, a2⟩, a3, a4⟩ := hr
          have := path_step z8 (i := i.toNat) (j := j.toNat) (k := p) (by omega) (by omega) q
          rw [Int.toNat_of_nonneg a1, Int.toNat_of_nonneg a3] at this
          omega
        have hgt : ¬ pathT y i p < andT (pathT y i j) (nextOf y j p) := by omega
        refine cw_seq (cw_block (cw_seq (go_ok hT ?_))); simp (maxSteps := 4000000) [List.replicate, z6, z8, hgt, hle]
        refine go_ok hT ?_; simp [List.replicate]
        refine go_ok hT ?_; simp [List.replicate, hwp]
        exact hN p (p + 1) _ (by show p + 1 ≤ y.nodes.length; omega) (by omega) (weak_less (by simp) (by simp [List.replicate]))
      · by_cases hgt : pathT y i p < andT (pathT y i j) (nextOf y j p)
        · have hle : ¬ andT (pathT y i j) (nextOf y j p) ≤ pathT y i p := by omega
          by_cases i0 : 0 ≤ i
          · by_cases j0 : 0 ≤ j
            · by_cases i1 : i < y.nodes.length
              · have j1 : ¬ j < y.nodes.length := fun h => hr ⟨⟨i0, i1⟩, j0, h⟩
                have j2 : (y.nodes.length : Int) ≤ j := by omega
                have i2 : ¬ (y.nodes.length : Int) ≤ i := by omega
                refine cw_seq (cw_block (cw_seq (go_ok hT ?_))); simp (maxSteps := 4000000) [List.replicate, z6, z8, hgt, hle, i0, j0, i1, i2, j1, j2]
                refine go_ok hT ?_; simp [List.replicate]
                refine go_ok hT ?_; simp [List.replicate, hwp]
                exact hN p (p + 1) _ (by show p + 1 ≤ y.nodes.length; omega) (by omega) (weak_less (by simp) (by simp [List.replicate]))
              · have i2 : (y.nodes.length : Int) ≤ i := by omega
                refine cw_seq (cw_block (cw_seq (go_ok hT ?_))); simp (maxSteps := 4000000) [List.replicate, z6, z8, hgt, hle, i0, j0, i1, i2]
                refine go_ok hT ?_; simp [List.replicate]
                refine go_ok hT ?_; simp [List.replicate, hwp]
                exact hN p (p + 1) _ (by show p + 1 ≤ y.nodes.length; omega) (by omega) (weak_less (by simp) (by simp [List.replicate]))
            · have j3 : j < 0 := by omega
              refine cw_seq (cw_block (cw_seq (go_ok hT ?_))); simp (maxSteps := 4000000) [List.replicate, z6, z8, hgt, hle, i0, j0, j3]
              refine go_ok hT ?_; simp [List.replicate]
              refine go_ok hT ?_; simp [List.replicate, hwp]
              exact hN p (p + 1) _ (by show p + 1 ≤ y.nodes.length; omega) (by omega) (weak_less (by simp) (by simp [List.replicate]))
          · have i3 : i < 0 := by omega
            refine cw_seq (cw_block (cw_seq (go_ok hT ?_))); simp (maxSteps := 4000000) [List.replicate, z6, z8, hgt, hle, i0, i3]
            refine go_ok hT ?_; simp [List.replicate]
            refine go_ok hT ?_; simp [List.replicate, hwp]
            exact hN p (p + 1) _ (by show p + 1 ≤ y.nodes.length; omega) (by omega) (weak_less (by simp) (by simp [List.replicate]))
        · have hle : andT (pathT y i j) (nextOf y j p) ≤ pathT y i p := by omega
          refine cw_seq (cw_block (cw_seq (go_ok hT ?_))); simp (maxSteps := 4000000) [List.replicate, z6, z8, hgt, hle]
          refine go_ok hT ?_; simp [List.replicate]
          refine go_ok hT ?_; simp [List.replicate, hwp]
          exact hN p (p + 1) _ (by show p + 1 ≤ y.nodes.length; omega) (by omega) (weak_less (by simp) (by simp [List.replicate]))
    · have e : p = y.nodes.length := by omega
      subst e
      simp [List.replicate]
      refine go_ok hT ?_; simp [List.replicate]
      refine go_ok hT ?_; simp [List.replicate]
  simp only [code_laws_FnEvaluated, tl8] at loop
  refine cw_seq (go_ok hT ?_); simp [List.replicate]
  have hw1 : IntKind.i64.wrap ((s.nodes.length : Int) - 1) = (s.nodes.length : Int) - 1 := by rw [wrap_i64] <;> omega
  have hw2 : IntKind.i64.wrap ((s.nodes.length : Int) / 2) = (s.nodes.length : Int) / 2 := by rw [wrap_i64] <;> omega
  refine cw_seq (go_ok hT ?_); simp [List.replicate, hw1, hw2]
  by_cases n0 : 0 < s.nodes.length
  case neg =>
    refine cw_seq (cw_seq (go_ok hT ?_)); simp (maxSteps := 4000000) [List.replicate, n0]
    refine go_ok hT ?_; simp [List.replicate]
    refine loop _ [.row true 3 1 [.int .i64 0, .int .i64 ((s.nodes.length : Int) - 1), .int .i64 ((s.nodes.length : Int) / 2), .int .i64 0]] ?_; simp [List.replicate]
  cases hd : isDef s
  · refine cw_seq (cw_seq (go_ok hT ?_)); simp (maxSteps := 4000000) [List.replicate, n0, z1, hd]
    refine go_ok hT ?_; simp [List.replicate]
    refine loop _ [.row true 3 1 [.int .i64 0, .int .i64 ((s.nodes.length : Int) - 1), .int .i64 ((s.nodes.length : Int) / 2), .int .i64 0]] ?_; simp [List.replicate]
  cases hs : structB 3 s
  · refine cw_seq (cw_seq (go_ok hT ?_)); simp (maxSteps := 4000000) [List.replicate, n0, z1, hd, hs]
    refine go_ok hT ?_; simp [List.replicate]
    refine loop _ [.row true 3 1 [.int .i64 0, .int .i64 ((s.nodes.length : Int) - 1), .int .i64 ((s.nodes.length : Int) / 2), .int .i64 0]] ?_; simp [List.replicate]
  cases hf : isFmB 3 (.mk kind k u w l)
  · refine cw_seq (cw_seq (go_ok hT ?_)); simp (maxSteps := 4000000) [List.replicate, n0, z1, hd, hs, hf, z4]
    refine go_ok hT ?_; simp [List.replicate]
    refine loop _ [.row true 3 1 [.int .i64 0, .int .i64 ((s.nodes.length : Int) - 1), .int .i64 ((s.nodes.length : Int) / 2), .int .i64 0]] ?_; simp [List.replicate]
  have he := z9 n0 hd hs hf
  refine cw_seq (cw_seq (go_ok hT ?_)); simp (maxSteps := 4000000) [List.replicate, n0, z1, hd, hs, hf, z4, z3]
  refine ⟨[0, (s.nodes.length : Int) - 1, (s.nodes.length : Int) / 2, 0], rfl, by simp, ?_⟩
  refine go_ok hT ?_; simp [List.replicate, he]
  refine loop _ [.row true 3 1 [.int .i64 0, .int .i64 ((s.nodes.length : Int) - 1), .int .i64 ((s.nodes.length : Int) / 2), .int .i64 0]] ?_; simp [List.replicate]
end Go.Vm
