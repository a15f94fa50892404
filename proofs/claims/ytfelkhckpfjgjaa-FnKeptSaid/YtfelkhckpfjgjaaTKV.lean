/- Formulas evaluated by the reference: the function itself. No condition. -/
import Derived.Test.YtfelkhckpfjgjaaTRZ
import Derived.Test.YtfelkhckpfjgjaaTKU
import Derived.Test.YtfelkhckpfjgjaaTKR
import Derived.Test.YtfelkhckpfjgjaaTKL
import Derived.Test.YtfelkhckpfjgjaaTKE
import Derived.Test.YtfelkhckpfjgjaaTRY
set_option linter.unusedSimpArgs false
set_option linter.unusedVariables false
namespace Go.Vm
open Go.Proofs
def code_spec_EvalFormula : F := ⟨102,[.tmp 6],.seq (.reg [⟨some 3,.box (.t 0),none⟩,⟨some 4,.box (.t 1),none⟩,⟨some 6,.mov (.k (.int .i64 0)),none⟩]) (.seq (.seq (.dreg [false,false,false,false,false,false,true] [false,false,false,false,false,true,false] [⟨some 7,.faddr 4 (.t 4),none⟩,⟨some 8,.load 1 false (.t 7),none⟩,⟨some 9,.len (.t 8),none⟩,⟨some 10,.faddr 0 (.t 4),none⟩,⟨some 11,.load 1 false (.t 10),none⟩,⟨some 12,.call 73 [.t 11],none⟩,⟨some 13,.bin .neq (.t 9) (.t 12),none⟩]) (.cond (.t 13) (.seq (.reg [⟨some 6,.mov (.k (.int .i64 1)),none⟩]) (.ret)) (.skip))) (.seq (.seq (.reg [⟨some 14,.faddr 0 (.t 4),none⟩,⟨some 15,.load 1 false (.t 14),none⟩]) (.block 0 (.seq (.reg [⟨some 17,.bin .eql (.t 15) (.k (.int .i64 1)),none⟩,⟨some 16,.mov (.t 17),none⟩]) (.cond (.t 16) (.seq (.reg [⟨some 6,.mov (.k (.int .i64 2)),none⟩]) (.ret)) (.seq (.seq (.reg [⟨some 19,.bin .eql (.t 15) (.k (.int .i64 2)),none⟩,⟨some 18,.mov (.t 19),none⟩]) (.cond (.t 18) (.skip) (.seq (.reg [⟨some 20,.bin .eql (.t 15) (.k (.int .i64 3)),none⟩,⟨some 18,.mov (.t 20),none⟩]) (.cond (.t 18) (.skip) (.reg [⟨some 21,.bin .eql (.t 15) (.k (.int .i64 4)),none⟩,⟨some 18,.mov (.t 21),none⟩]))))) (.cond (.t 18) (.seq (.dreg [false,false,false,false,false,false,false,true,true,true] [false,false,false,false,false,false,true,true,true,false] [⟨some 22,.load 2 true (.t 3),none⟩,⟨some 23,.load 5 true (.t 4),none⟩,⟨some 24,.load 2 true (.t 3),none⟩,⟨some 25,.mov (.t 2),none⟩,⟨some 26,.faddr 2 (.t 4),none⟩,⟨some 27,.load 1 false (.t 26),none⟩,⟨some 28,.call 76 [.t 24,.t 25,.t 27],none⟩,⟨some 29,.call 75 [.t 22,.t 23,.t 28],none⟩,⟨some 30,.call 74 [.t 29],none⟩,⟨some 6,.mov (.t 30),none⟩]) (.ret)) (.seq (.seq (.reg [⟨some 32,.bin .eql (.t 15) (.k (.int .i64 5)),none⟩,⟨some 31,.mov (.t 32),none⟩]) (.cond (.t 31) (.skip) (.seq (.reg [⟨some 33,.bin .eql (.t 15) (.k (.int .i64 6)),none⟩,⟨some 31,.mov (.t 33),none⟩]) (.cond (.t 31) (.skip) (.reg [⟨some 34,.bin .eql (.t 15) (.k (.int .i64 7)),none⟩,⟨some 31,.mov (.t 34),none⟩]))))) (.cond (.t 31) (.seq (.dreg [false,false,false,false,false,false,false,false,false,false,false,false,true,true,true] [false,false,false,false,false,false,true,false,false,false,false,true,true,true,false] [⟨some 35,.load 2 true (.t 3),none⟩,⟨some 36,.load 5 true (.t 4),none⟩,⟨some 37,.load 2 true (.t 3),none⟩,⟨some 38,.mov (.t 2),none⟩,⟨some 39,.faddr 2 (.t 4),none⟩,⟨some 40,.load 1 false (.t 39),none⟩,⟨some 41,.call 76 [.t 37,.t 38,.t 40],none⟩,⟨some 42,.load 2 true (.t 3),none⟩,⟨some 43,.mov (.t 2),none⟩,⟨some 44,.faddr 3 (.t 4),none⟩,⟨some 45,.load 1 false (.t 44),none⟩,⟨some 46,.call 76 [.t 42,.t 43,.t 45],none⟩,⟨some 47,.call 77 [.t 35,.t 36,.t 41,.t 46],none⟩,⟨some 48,.call 74 [.t 47],none⟩,⟨some 6,.mov (.t 48),none⟩]) (.ret)) (.seq (.seq (.reg [⟨some 50,.bin .eql (.t 15) (.k (.int .i64 11)),none⟩,⟨some 49,.mov (.t 50),none⟩]) (.cond (.t 49) (.skip) (.reg [⟨some 51,.bin .eql (.t 15) (.k (.int .i64 12)),none⟩,⟨some 49,.mov (.t 51),none⟩]))) (.cond (.t 49) (.seq (.reg [⟨some 52,.load 2 true (.t 3),none⟩,⟨some 53,.load 5 true (.t 4),none⟩,⟨some 54,.mov (.t 2),none⟩,⟨some 55,.call 78 [.t 52,.t 53,.t 54],none⟩,⟨some 6,.mov (.t 55),none⟩]) (.ret)) (.skip))))))))))) (.seq (.seq (.reg [⟨some 56,.faddr 0 (.t 4),none⟩,⟨some 57,.load 1 false (.t 56),none⟩]) (.block 1 (.seq (.reg [⟨some 59,.bin .eql (.t 57) (.k (.int .i64 8)),none⟩,⟨some 58,.mov (.t 59),none⟩]) (.cond (.t 58) (.seq (.dreg [false,false,false,false,false,false,true,true,true] [false,false,false,false,false,false,true,true,false] [⟨some 60,.load 2 true (.t 3),none⟩,⟨some 61,.faddr 4 (.t 4),none⟩,⟨some 62,.load 1 false (.t 61),none⟩,⟨some 63,.iaddr 5 (.t 62) (.k (.int .i64 0)),none⟩,⟨some 64,.load 5 true (.t 63),none⟩,⟨some 65,.mov (.t 2),none⟩,⟨some 66,.call 25 [.t 60,.t 64,.t 65],none⟩,⟨some 67,.call 79 [.t 66],none⟩,⟨some 6,.mov (.t 67),none⟩]) (.ret)) (.seq (.reg [⟨some 69,.bin .eql (.t 57) (.k (.int .i64 9)),none⟩,⟨some 68,.mov (.t 69),none⟩]) (.cond (.t 68) (.seq (.dreg [false,false,false,false,false,false,false,false,false,false,false,false,false,true,true,true] [false,false,false,false,false,false,true,false,false,false,false,false,false,true,true,false] [⟨some 70,.load 2 true (.t 3),none⟩,⟨some 71,.faddr 4 (.t 4),none⟩,⟨some 72,.load 1 false (.t 71),none⟩,⟨some 73,.iaddr 5 (.t 72) (.k (.int .i64 0)),none⟩,⟨some 74,.load 5 true (.t 73),none⟩,⟨some 75,.mov (.t 2),none⟩,⟨some 76,.call 25 [.t 70,.t 74,.t 75],none⟩,⟨some 77,.load 2 true (.t 3),none⟩,⟨some 78,.faddr 4 (.t 4),none⟩,⟨some 79,.load 1 false (.t 78),none⟩,⟨some 80,.iaddr 5 (.t 79) (.k (.int .i64 1)),none⟩,⟨some 81,.load 5 true (.t 80),none⟩,⟨some 82,.mov (.t 2),none⟩,⟨some 83,.call 25 [.t 77,.t 81,.t 82],none⟩,⟨some 84,.call 80 [.t 76,.t 83],none⟩,⟨some 6,.mov (.t 84),none⟩]) (.ret)) (.seq (.reg [⟨some 86,.bin .eql (.t 57) (.k (.int .i64 10)),none⟩,⟨some 85,.mov (.t 86),none⟩]) (.cond (.t 85) (.seq (.dreg [false,false,false,false,false,false,false,false,false,false,false,false,false,true,true,true] [false,false,false,false,false,false,true,false,false,false,false,false,false,true,true,false] [⟨some 87,.load 2 true (.t 3),none⟩,⟨some 88,.faddr 4 (.t 4),none⟩,⟨some 89,.load 1 false (.t 88),none⟩,⟨some 90,.iaddr 5 (.t 89) (.k (.int .i64 0)),none⟩,⟨some 91,.load 5 true (.t 90),none⟩,⟨some 92,.mov (.t 2),none⟩,⟨some 93,.call 25 [.t 87,.t 91,.t 92],none⟩,⟨some 94,.load 2 true (.t 3),none⟩,⟨some 95,.faddr 4 (.t 4),none⟩,⟨some 96,.load 1 false (.t 95),none⟩,⟨some 97,.iaddr 5 (.t 96) (.k (.int .i64 1)),none⟩,⟨some 98,.load 5 true (.t 97),none⟩,⟨some 99,.mov (.t 2),none⟩,⟨some 100,.call 25 [.t 94,.t 98,.t 99],none⟩,⟨some 101,.call 81 [.t 93,.t 100],none⟩,⟨some 6,.mov (.t 101),none⟩]) (.ret)) (.skip))))))))) (.seq (.reg [⟨some 6,.mov (.k (.int .i64 1)),none⟩]) (.ret)))))⟩
theorem fok_spec_EvalFormula : FOk Try.prog 25 code_spec_EvalFormula := fok Try.func25 (by kernel_rfl)
set_option maxHeartbeats 8000000 in
set_option maxRecDepth 100000 in
theorem ok_sEvalN {R : Strc → Prop} (hP : (ct_sPathR R).Ok Try.prog) : ∀ n, (ct_sEvalN R n).Ok Try.prog
  | 0 => by rintro ⟨s, f, nodes⟩ ⟨_, _, h, _⟩; change f.size ≤ 0 at h; rw [size_eq] at h; omega
  | n + 1 => by
    have ih := ok_sEvalN hP n
    rintro ⟨s, ⟨kind, k, u, v, args⟩, nodes⟩ ⟨hs, hl, hz0, hR0⟩
    change szStrc s ≤ 1048576 at hs
    change nodes.length ≤ 1048576 at hl
    change (Fm.mk kind k u v args).size ≤ n + 1 at hz0
    change R s ∨ noPathF (.mk kind k u v args) = true at hR0
    have hz := hz0
    have hR := hR0
    have hs2 := strc_le s
    simp only [Fm.size] at hz
    simp only [noPathF, Bool.and_eq_true, decide_eq_true_eq] at hR
    have hT : TabOk Try.prog _ := tab_cons ok_sArityOf (tab_cons ok_l13Node (tab_cons ok_l13One (tab_cons (ok_l13Two hP) (tab_cons ok_l13Truth (tab_cons ok_sNotOf (tab_cons ok_sAndOf (tab_cons ok_sOrOf (tab_cons (ok_sOverN ih) (tab_cons ih tab_nil)))))))))
    refine Ok.of_cw fok_spec_EvalFormula ?_
    simp only [code_spec_EvalFormula, frame, List.length_cons, List.length_nil, List.replicate, Nat.reduceSub, Nat.reduceAdd, List.cons_append, List.nil_append]
    refine cw_seq (go_ok hT ?_)
    simp
    refine cw_seq (go_ok hT ?_)
    have hN1 := nodeOf_or s nodes u
    have hN2 := nodeOf_or s nodes v
    by_cases har : arity kind = (args.length : Int)
    case neg =>
      have har2 : ¬ (args.length : Int) = arity kind := fun e => har e.symm
      simp [evalN, har, har2]
    have har2 : (args.length : Int) = arity kind := har.symm
    rcases arity_cases har with ⟨k1, k7, ha⟩ | ⟨rfl, ha⟩ | ⟨rfl, ha⟩ | ⟨rfl, ha⟩ | ⟨rfl, ha⟩ | ⟨rfl, ha⟩
    · have ha0 : args = [] := List.eq_nil_of_length_eq_zero ha
      subst ha0
      have hR2 : R s ∨ kind ≠ 7 := hR.imp id (·.1)
      have n8 : ¬ kind = 8 := by omega
      have n9 : ¬ kind = 9 := by omega
      have n10 : ¬ kind = 10 := by omega
      have n11 : ¬ kind = 11 := by omega
      have n12 : ¬ kind = 12 := by omega
      have hE : evalN s (n + 1) (.mk kind k u v []) nodes = plainT s (.mk kind k u v []) (nodeOf s nodes u) (nodeOf s nodes v) := by simp [evalN, har, n8, n9, n10, n11, n12]
      change go _ _ _ _ (thenS _ (retP _ (.int .i64 (evalN s (n + 1) (.mk kind k u v []) nodes)))) _
      rw [hE]
      have har' : arity kind = 0 := by simpa using har
      simp [har']
      refine cw_seq (go_ok hT ?_)
      by_cases g1 : kind = 1
      · subst g1
        simp [plainT]
      by_cases g4 : kind ≤ 4
      · have hP : plainT s (.mk kind k u v []) (nodeOf s nodes u) (nodeOf s nodes v) = knownT (oneT s (.mk kind k u v []) (nodeOf s nodes u)) := by simp [plainT, g1, g4]
        rw [hP]
        obtain rfl | rfl | rfl : kind = 2 ∨ kind = 3 ∨ kind = 4 := by omega
        all_goals simp [hs, hl, hN1, encFm_agg0]
      · have hP : plainT s (.mk kind k u v []) (nodeOf s nodes u) (nodeOf s nodes v) = knownT (twoT s (.mk kind k u v []) (nodeOf s nodes u) (nodeOf s nodes v)) := by simp [plainT, g1, g4]
        rw [hP]
        obtain rfl | rfl | rfl : kind = 5 ∨ kind = 6 ∨ kind = 7 := by omega
        · simp [hs, hl, hN1, hN2, encFm_agg0]
        · simp [hs, hl, hN1, hN2, encFm_agg0]
        · have hRs : R s := by rcases hR2 with h | h; exact h; exact absurd rfl h
          simp [hs, hl, hN1, hN2, encFm_agg0, hRs]
    · obtain ⟨x, rfl⟩ := List.length_eq_one_iff.1 ha
      simp only [sizes] at hz
      have hx : x.size ≤ n := by omega
      have hRx : R s ∨ noPathF x = true := hR.imp id (fun h => by have := h.2; simp only [noPathS, Bool.and_eq_true] at this; exact this.1)
      simp [har, har2]
      refine cw_seq (go_ok hT ?_)
      simp
      refine cw_seq (go_ok hT ?_)
      simp [evalN, har, hs, hl, fget, hx, hRx]
    · obtain ⟨x, y, rfl⟩ := two_of ha
      simp only [sizes] at hz
      have hx : x.size ≤ n := by omega
      have hy : y.size ≤ n := by omega
      have hRx : R s ∨ noPathF x = true := hR.imp id (fun h => by have := h.2; simp only [noPathS, Bool.and_eq_true] at this; exact this.1)
      have hRy : R s ∨ noPathF y = true := hR.imp id (fun h => by have := h.2; simp only [noPathS, Bool.and_eq_true] at this; exact this.2.1)
      simp [har, har2]
      refine cw_seq (go_ok hT ?_)
      simp
      refine cw_seq (go_ok hT ?_)
      simp [evalN, har, hs, hl, fget, hx, hy, hRx, hRy]
    · obtain ⟨x, y, rfl⟩ := two_of ha
      simp only [sizes] at hz
      have hx : x.size ≤ n := by omega
      have hy : y.size ≤ n := by omega
      have hRx : R s ∨ noPathF x = true := hR.imp id (fun h => by have := h.2; simp only [noPathS, Bool.and_eq_true] at this; exact this.1)
      have hRy : R s ∨ noPathF y = true := hR.imp id (fun h => by have := h.2; simp only [noPathS, Bool.and_eq_true] at this; exact this.2.1)
      simp [har, har2]
      refine cw_seq (go_ok hT ?_)
      simp
      refine cw_seq (go_ok hT ?_)
      simp [evalN, har, hs, hl, fget, hx, hy, hRx, hRy]
    · obtain ⟨x, rfl⟩ := List.length_eq_one_iff.1 ha
      simp [har, har2]
      refine cw_seq (go_ok hT ?_)
      simp [hs, hl]
      exact ⟨hz0, hR0⟩
    · obtain ⟨x, rfl⟩ := List.length_eq_one_iff.1 ha
      simp [har, har2]
      refine cw_seq (go_ok hT ?_)
      simp [hs, hl]
      exact ⟨hz0, hR0⟩
@[simp] noncomputable def ct_sEval (R : Strc → Prop) : Ct := ⟨25, Strc × Fm × List Int, fun x => szStrc x.1 ≤ 1048576 ∧ x.2.2.length ≤ 1048576 ∧ (R x.1 ∨ noPathF x.2.1 = true),
  fun x => [encStrc x.1, encFm x.2.1, encL 1 encInt x.2.2], fun x => .int .i64 (evalT x.1 x.2.1 x.2.2)⟩
theorem ok_sEval {R : Strc → Prop} (hP : (ct_sPathR R).Ok Try.prog) : (ct_sEval R).Ok Try.prog := fun x h => ok_sEvalN hP x.2.1.size x ⟨h.1, h.2.1, Nat.le_refl _, h.2.2⟩
end Go.Vm
namespace Go.Vm
open Go.Proofs
theorem ok_sEvalQ : (ct_sEval truthS).Ok Try.prog := ok_sEval ok_sPathT
def idxK (n : Nat) (x : Int) : Int := (if x < 0 then 0 else x) % n
theorem idxK_lt {n : Nat} (h : 0 < n) (x : Int) : 0 ≤ idxK n x ∧ idxK n x < n := by
  unfold idxK
  exact ⟨Int.emod_nonneg _ (by omega), Int.emod_lt_of_pos _ (by omega)⟩
def aK (m ns : List Int) (k : Nat) : List Int := (ns.take k).map fun x => idxK m.length x
def bK (m ns : List Int) (k : Nat) : List Int := (ns.take k).map fun x => m.getD (idxK m.length x).toNat 0
theorem aK_succ {m ns : List Int} {k : Nat} (h : k < ns.length) : aK m ns (k + 1) = aK m ns k ++ [idxK m.length ns[k]] := by
  unfold aK; rw [List.take_succ_eq_append_getElem h, List.map_append]; rfl
theorem bK_succ {m ns : List Int} {k : Nat} (h : k < ns.length) : bK m ns (k + 1) = bK m ns k ++ [m.getD (idxK m.length ns[k]).toNat 0] := by
  unfold bK; rw [List.take_succ_eq_append_getElem h, List.map_append]; rfl
theorem aK_len {m ns : List Int} {k : Nat} (h : k ≤ ns.length) : (aK m ns k).length = k := by unfold aK; simp; omega
theorem bK_len {m ns : List Int} {k : Nat} (h : k ≤ ns.length) : (bK m ns k).length = k := by unfold bK; simp; omega
theorem relK {s : Strc} {m ns : List Int} {k : Nat} (hk : k ≤ ns.length) (hm : 0 < m.length ∨ k = 0) (hl : m.length = s.nodes.length) (hf : ∀ i, i < s.nodes.length → m.getD i 0 = (((m.getD i 0).toNat : Nat) : Int)) : relN s (fun i => (m.getD i 0).toNat) (aK m ns k) (bK m ns k) := by
  refine ⟨by rw [aK_len hk, bK_len hk], fun j hj => ?_⟩
  rw [aK_len hk] at hj
  have hm : 0 < m.length := by rcases hm with h | h <;> omega
  have hj2 : j < ns.length := by omega
  obtain ⟨i0, i1⟩ := idxK_lt hm ns[j]
  right
  refine ⟨(idxK m.length ns[j]).toNat, by omega, ?_, ?_⟩
  · unfold aK
    simp [List.getD_eq_getElem?_getD, hj, hj2]
    omega
  · rw [← hf _ (by omega)]
    unfold bK
    simp [List.getD_eq_getElem?_getD, hj, hj2]
def code_laws_FnKept : F := ⟨104,[.tmp 2],.seq (.reg [⟨some 2,.mov (.k (.bool false)),none⟩]) (.seq (.seq (.reg [⟨some 16,.mov (.t 0),none⟩,⟨some 17,.call 6 [.t 16],none⟩]) (.cond (.t 17) (.seq (.reg [⟨some 2,.mov (.k (.bool true)),none⟩]) (.ret)) (.skip))) (.seq (.reg [⟨some 19,.mov (.t 0),none⟩,⟨some 20,.call 8 [.t 19],none⟩,⟨some 18,.mov (.t 20),none⟩,⟨some 21,.extr (.t 18) 0,none⟩,⟨some 22,.extr (.t 18) 1,none⟩,⟨some 3,.alloc [(.sl .nil 0 []),(.sl .nil 0 [])],none⟩,⟨some 4,.alloc [(.sl .nil 0 []),(.sl .nil 0 [])],none⟩,⟨none,.store 2 (.t 3) (.t 21),none⟩,⟨none,.store 2 (.t 4) (.t 22),none⟩]) (.seq (.reg [⟨some 24,.load 2 true (.t 3),none⟩,⟨some 25,.load 2 true (.t 4),none⟩,⟨some 26,.call 9 [.t 24,.t 25],none⟩,⟨some 23,.mov (.t 26),none⟩,⟨some 27,.extr (.t 23) 0,none⟩,⟨some 28,.extr (.t 23) 1,none⟩,⟨some 5,.mov (.t 27),none⟩,⟨some 6,.mov (.t 28),none⟩]) (.seq (.reg [⟨some 30,.load 2 true (.t 3),none⟩,⟨some 31,.load 2 true (.t 4),none⟩,⟨some 32,.call 10 [.t 30,.t 31],none⟩,⟨some 29,.mov (.t 32),none⟩,⟨some 33,.extr (.t 29) 0,none⟩,⟨some 34,.extr (.t 29) 1,none⟩,⟨some 7,.mov (.t 33),none⟩,⟨some 8,.mov (.t 34),none⟩]) (.seq (.seq (.reg [⟨some 35,.mov (.t 6),none⟩,⟨some 36,.mov (.t 8),none⟩,⟨some 37,.beq true (.t 35) (.t 36),none⟩]) (.cond (.t 37) (.seq (.reg [⟨some 2,.mov (.k (.bool false)),none⟩]) (.ret)) (.skip))) (.seq (.reg [⟨some 39,.mov (.t 0),none⟩,⟨some 40,.call 21 [.t 39],none⟩,⟨some 38,.mov (.t 40),none⟩,⟨some 41,.extr (.t 38) 0,none⟩,⟨some 42,.extr (.t 38) 1,none⟩,⟨some 43,.extr (.t 38) 2,none⟩,⟨some 9,.alloc [(.sl .nil 0 []),(.sl .nil 0 [])],none⟩,⟨some 10,.alloc [(.int .i64 0),(.int .i64 0),(.int .i64 0),(.int .i64 0),(.sl .nil 0 [])],none⟩,⟨none,.store 2 (.t 9) (.t 41),none⟩,⟨none,.store 5 (.t 10) (.t 42),none⟩,⟨some 11,.mov (.t 43),none⟩]) (.seq (.seq (.reg [⟨some 44,.mov (.t 6),none⟩,⟨some 45,.not (.t 44),none⟩,⟨some 46,.mov (.t 45),none⟩,⟨some 47,.load 2 true (.t 3),some (46,false)⟩,⟨some 48,.call 19 [(.k (.int .i64 3)),.t 47],some (46,false)⟩,⟨some 49,.not (.t 48),some (46,false)⟩,⟨some 50,.pick (.t 46) (.k (.bool true)) (.t 49),none⟩,⟨some 51,.mov (.t 50),none⟩,⟨some 52,.load 2 true (.t 4),some (51,false)⟩,⟨some 53,.call 19 [(.k (.int .i64 3)),.t 52],some (51,false)⟩,⟨some 54,.not (.t 53),some (51,false)⟩,⟨some 55,.pick (.t 51) (.k (.bool true)) (.t 54),none⟩,⟨some 56,.mov (.t 55),none⟩,⟨some 57,.load 5 true (.t 10),some (56,false)⟩,⟨some 58,.call 32 [(.k (.int .i64 3)),.t 57],some (56,false)⟩,⟨some 59,.not (.t 58),some (56,false)⟩,⟨some 60,.pick (.t 56) (.k (.bool true)) (.t 59),none⟩]) (.cond (.t 60) (.seq (.reg [⟨some 2,.mov (.k (.bool true)),none⟩]) (.ret)) (.skip))) (.seq (.reg [⟨some 61,.bsl 3 1 0 (.int .i64 0) [],none⟩,⟨some 12,.mov (.t 61),none⟩]) (.seq (.reg [⟨some 62,.bsl 3 1 0 (.int .i64 0) [],none⟩,⟨some 13,.mov (.t 62),none⟩]) (.seq (.seq (.reg [⟨some 14,.mov (.k (.int .i64 0)),none⟩]) (.block 0 (.loop (.seq (.seq (.reg [⟨some 63,.mov (.t 14),none⟩,⟨some 64,.mov (.t 11),none⟩,⟨some 65,.len (.t 64),none⟩,⟨some 66,.bin .lss (.t 63) (.t 65),none⟩,⟨some 67,.mov (.t 66),none⟩,⟨some 68,.mov (.t 5),some (67,true)⟩,⟨some 69,.len (.t 68),some (67,true)⟩,⟨some 70,.bin .gtr (.t 69) (.k (.int .i64 0)),some (67,true)⟩,⟨some 71,.pick (.t 67) (.t 70) (.k (.bool false)),none⟩]) (.cond (.t 71) (.skip) (.exit 0))) (.seq (.block 1 (.seq (.reg [⟨some 74,.mov (.t 11),none⟩,⟨some 75,.mov (.t 14),none⟩,⟨some 76,.iaddr 1 (.t 74) (.t 75),none⟩,⟨some 77,.load 1 false (.t 76),none⟩,⟨some 15,.mov (.t 77),none⟩]) (.seq (.seq (.reg [⟨some 78,.mov (.t 15),none⟩,⟨some 79,.bin .lss (.t 78) (.k (.int .i64 0)),none⟩]) (.cond (.t 79) (.reg [⟨some 15,.mov (.k (.int .i64 0)),none⟩]) (.skip))) (.seq (.reg [⟨some 80,.mov (.t 15),none⟩,⟨some 81,.mov (.t 5),none⟩,⟨some 82,.len (.t 81),none⟩,⟨some 83,.bin .rem (.t 80) (.t 82),none⟩,⟨some 15,.mov (.t 83),none⟩]) (.seq (.reg [⟨some 84,.mov (.t 12),none⟩,⟨some 85,.mov (.t 15),none⟩,⟨some 86,.bsl 3 1 1 (.int .i64 0) [(0,.t 85)],none⟩,⟨some 87,.append 3 1 8 (.t 84) (.t 86),none⟩,⟨some 12,.mov (.t 87),none⟩]) (.reg [⟨some 88,.mov (.t 13),none⟩,⟨some 89,.mov (.t 5),none⟩,⟨some 90,.mov (.t 15),none⟩,⟨some 91,.iaddr 1 (.t 89) (.t 90),none⟩,⟨some 92,.load 1 false (.t 91),none⟩,⟨some 93,.bsl 3 1 1 (.int .i64 0) [(0,.t 92)],none⟩,⟨some 94,.append 3 1 8 (.t 88) (.t 93),none⟩,⟨some 13,.mov (.t 94),none⟩])))))) (.reg [⟨some 72,.mov (.t 14),none⟩,⟨some 73,.bin .add (.t 72) (.k (.int .i64 1)),none⟩,⟨some 14,.mov (.t 73),none⟩])))))) (.seq (.dreg [false,false,false,false,false,false,false,true,true,true] [false,false,false,true,false,false,false,true,true,false] [⟨some 95,.load 2 true (.t 3),none⟩,⟨some 96,.load 5 true (.t 10),none⟩,⟨some 97,.mov (.t 12),none⟩,⟨some 98,.call 25 [.t 95,.t 96,.t 97],none⟩,⟨some 99,.load 2 true (.t 4),none⟩,⟨some 100,.load 5 true (.t 10),none⟩,⟨some 101,.mov (.t 13),none⟩,⟨some 102,.call 25 [.t 99,.t 100,.t 101],none⟩,⟨some 103,.call 35 [.t 98,.t 102],none⟩,⟨some 2,.mov (.t 103),none⟩]) (.ret))))))))))))⟩
theorem fok_laws_FnKept : FOk Try.prog 5 code_laws_FnKept := fok Try.func5 (by kernel_rfl)
def tlF : C → C
  | .seq _ (.seq _ (.seq _ (.seq _ (.seq _ (.seq _ (.seq _ (.seq _ (.seq _ (.seq _ (.seq _ x)))))))))) => x
  | c => c
set_option maxHeartbeats 8000000 in
set_option maxRecDepth 100000 in
theorem ok_lawKept (bs : List UInt8) : Ok Try.prog 5 [encL 1 encU bs] (.bool true) := by
  by_cases hbs : bs.length ≤ 1048576
  case neg =>
    have hb2 : 1048576 < bs.length := by omega
    refine Ok.of_cw fok_laws_FnKept (go_ok (tab_cons ok_bigK tab_nil) ?_)
    simp [code_laws_FnKept, List.replicate, hb2]
  have hb2 : ¬ 1048576 < bs.length := by omega
  have hT : TabOk Try.prog _ := tab_cons ok_bigK (tab_cons ok_DrawFindEmbedding (tab_cons ok_DrawEval (tab_cons ok_pFindK (tab_cons ok_sFindK (tab_cons ok_sEvalQ (tab_cons ok_sIsStructure (tab_cons ok_IsFormula (tab_cons ok_pIsWithin tab_nil))))))))
  obtain ⟨sh1, sh2⟩ := pair16_sh (cur0 bs)
  have z1 : szStrc (drawF1 bs) ≤ 1048576 := (sh12_sz sh1).1
  have z2 : szStrc (drawF2 bs) ≤ 1048576 := (sh12_sz sh2).1
  have z3 : (drawF1 bs).nodes.length ≤ 10 := by have := sh1.n; show (pair16 (cur0 bs)).2.1.nodes.length ≤ 10; omega
  have z4 : (evF bs).size ≤ 1048576 := Nat.le_trans (evF_ok bs) (by omega)
  have z5 := evN_len bs
  have w1 : emB (drawF1 bs) (drawF2 bs) = true → embB (drawF1 bs) (drawF2 bs) (emL (drawF1 bs) (drawF2 bs)) = true := fun h => embed_good (some_get h)
  refine Ok.of_cw fok_laws_FnKept ?_
  simp only [code_laws_FnKept, frame, List.length_cons, List.length_nil, List.replicate, Nat.reduceSub, Nat.reduceAdd, List.cons_append, List.nil_append]
  refine cw_seq (go_ok hT ?_); simp [List.replicate]
  refine cw_seq (go_ok hT ?_); simp [List.replicate, hbs, hb2]
  refine cw_seq (go_ok hT ?_); simp [List.replicate, hbs]
  generalize drawF1 bs = s at *
  generalize drawF2 bs = t at *
  refine cw_seq (go_ok hT ?_); simp [List.replicate, z1, z2]
  refine cw_seq (go_ok hT ?_); simp [List.replicate, z1, z2]
  refine cw_seq (cw_seq (go_ok hT ?_)); simp [List.replicate]
  refine go_ok hT ?_; simp [List.replicate]
  refine cw_seq (go_ok hT ?_); simp [List.replicate, hbs]
  generalize evF bs = f at *
  generalize evN bs = ns at *
  obtain ⟨kind, k0, u0, v0, l0⟩ := f
  cases hE : emB s t
  · refine cw_seq (cw_seq (go_ok hT ?_)); simp [List.replicate, hE]
    refine go_ok hT ?_; simp [List.replicate]
  cases hs : structB 3 s
  · refine cw_seq (cw_seq (go_ok hT ?_)); simp [List.replicate, hE, z1, hs]
    refine go_ok hT ?_; simp [List.replicate]
  cases ht : structB 3 t
  · refine cw_seq (cw_seq (go_ok hT ?_)); simp [List.replicate, hE, z1, z2, hs, ht]
    refine go_ok hT ?_; simp [List.replicate]
  cases hf : isFmB 3 (.mk kind k0 u0 v0 l0)
  · refine cw_seq (cw_seq (go_ok hT ?_)); simp (maxSteps := 4000000) [List.replicate, hE, z1, z2, hs, ht, hf, z4]
    refine go_ok hT ?_; simp [List.replicate]
  obtain ⟨ml, mf, mE⟩ := emb_of (w1 hE)
  have hfb : formB 3 (.mk kind k0 u0 v0 l0) = true := by
    unfold isFmB at hf
    simp only [Bool.and_eq_true] at hf
    exact hf.2
  have fin : ∀ k, k ≤ ns.length → (0 < (emL s t).length ∨ k = 0) → withinB (evalT s (.mk kind k0 u0 v0 l0) (aK (emL s t) ns k)) (evalT t (.mk kind k0 u0 v0 l0) (bK (emL s t) ns k)) = true := fun k h1 h2 =>
    eval_within hs ht mE _ _ _ _ (Nat.le_refl _) hfb (relK h1 h2 ml mf)
  have hsT := structB_truth hs
  have htT := structB_truth ht
  refine cw_seq (cw_seq (go_ok hT ?_)); simp (maxSteps := 4000000) [List.replicate, hE, z1, z2, hs, ht, hf, z4]
  refine go_ok hT ?_; simp [List.replicate]
  generalize emL s t = m at *
  refine cw_seq (go_ok hT ?_); simp [List.replicate]
  refine cw_seq (go_ok hT ?_); simp [List.replicate]
  refine cw_seq (cw_seq (go_ok hT ?_)); simp [List.replicate]
  refine cw_block (cw_round (fun (k : Nat) => ⟨slots 104 [(3, .pbox 2 0), (4, .pbox 5 0), (5, encL 1 encInt m), (10, .pbox 10 0), (11, encL 1 encInt ns), (12, .slref 11 0 k k), (13, .slref 12 0 k k), (14, .int .i64 k)], [.dead, .dead, .cells [encL 4 encNode s.nodes, encL 1 encInt s.next], .dead, .dead, .cells [encL 4 encNode t.nodes, encL 1 encInt t.next], .dead, .dead, .dead, .dead, .cells [.int .i64 kind, .int .i64 k0, .int .i64 u0, .int .i64 v0, encL 5 encFm l0], .row true 3 1 ((aK m ns k).map encInt), .row true 3 1 ((bK m ns k).map encInt)]⟩)
    (fun k => k ≤ ns.length ∧ (0 < m.length ∨ k = 0)) (fun k => ns.length - k) 0 ⟨by simp, .inr rfl⟩ ?_ ?_)
  · exact weak_less (by simp [aK, bK]) (by simp [List.replicate])
  rintro N hN k ⟨hk, hm0⟩
  have hwk : IntKind.i64.wrap ((k : Int) + 1) = ((k + 1 : Nat) : Int) := by rw [wrap_i64] <;> omega
  have hal := aK_len (m := m) hk
  have hbl := bK_len (m := m) hk
  by_cases q : k < ns.length ∧ 0 < m.length
  · obtain ⟨q1, q3⟩ := q
    have q2 : ¬ ns.length ≤ k := by omega
    have hbb : (k + 1) * 8 ≤ 140737488355328 := by omega
    refine cw_seq (cw_seq (go_ok hT ?_)); simp [List.replicate, q1, q2, q3]
    refine go_ok hT ?_; simp [List.replicate]
    obtain ⟨i0, i1⟩ := idxK_lt q3 ns[k]
    have hds := aK_succ (m := m) q1
    have hdb := bK_succ (m := m) q1
    have hI : idxK m.length ns[k] = (if ns[k] < 0 then 0 else ns[k]) % m.length := rfl
    generalize hxk : ns[k] = x at *
    refine cw_seq (cw_block ?_)
    refine cw_seq (go_ok hT ?_); simp [List.replicate, q1, hxk]
    refine cw_to ⟨slots 104 [(3, .pbox 2 0), (4, .pbox 5 0), (5, encL 1 encInt m), (10, .pbox 10 0), (11, encL 1 encInt ns), (12, .slref 11 0 k k), (13, .slref 12 0 k k), (14, .int .i64 k), (15, .int .i64 (if x < 0 then 0 else x))], [.dead, .dead, .cells [encL 4 encNode s.nodes, encL 1 encInt s.next], .dead, .dead, .cells [encL 4 encNode t.nodes, encL 1 encInt t.next], .dead, .dead, .dead, .dead, .cells [.int .i64 kind, .int .i64 k0, .int .i64 u0, .int .i64 v0, encL 5 encFm l0], .row true 3 1 ((aK m ns k).map encInt), .row true 3 1 ((bK m ns k).map encInt)]⟩ ?_ ?_
    · by_cases x0 : x < 0
      · refine go_ok hT ?_; simp [List.replicate, x0]
        refine weak_less ?_ ?_
        · simp
        · simp [List.replicate]
      · refine go_ok hT ?_; simp [List.replicate, x0]
        refine weak_less ?_ ?_
        · simp
        · simp [List.replicate]
    have hx0 : 0 ≤ (if x < 0 then 0 else x) := by split <;> omega
    generalize (if x < 0 then 0 else x) = x' at *
    refine cw_seq (go_ok hT ?_); simp [List.replicate, q3]
    have hmn : ¬ m = [] := fun h => by rw [h] at q3; simp at q3
    have htm : x'.tmod m.length = idxK m.length x := by rw [hI, Int.tmod_eq_emod_of_nonneg hx0]
    refine ⟨hmn, ?_⟩
    rw [htm]
    generalize idxK m.length x = j at *
    have jl : j.toNat < m.length := by omega
    have jg : m.getD j.toNat 0 = m[j.toNat] := by simp [List.getD_eq_getElem?_getD, jl]
    rw [jg] at hdb
    refine cw_seq (go_ok hT ?_); simp [List.replicate, hal, hbb, app1]
    refine go_ok hT ?_; simp [List.replicate, hbl, hbb, app1, i0, i1, jl]
    refine go_ok hT ?_; simp [List.replicate, hwk]
    refine hN k (k + 1) _ ⟨by show k + 1 ≤ ns.length; omega, .inl q3⟩ (by omega) (weak_seal 13 (by simp) ?_ ?_)
    · rw [hds, hdb, List.take_of_length_le (by simp [hal]), List.take_of_length_le (by simp [hbl])]
      simp
    · simp [List.replicate]
  · have hz : k = ns.length ∨ (k = 0 ∧ m.length = 0) := by omega
    have hfin := fin k hk hm0
    have tail : ∀ t', All2 LessS t' (slots 104 [(3, .pbox 2 0), (4, .pbox 5 0), (10, .pbox 10 0), (12, .slref 11 0 k k), (13, .slref 12 0 k k)]) → CW Try.prog 0 (tlF code_laws_FnKept.c) (retP code_laws_FnKept.rs (.bool true)) ⟨t', [.dead, .dead, .cells [encL 4 encNode s.nodes, encL 1 encInt s.next], .dead, .dead, .cells [encL 4 encNode t.nodes, encL 1 encInt t.next], .dead, .dead, .dead, .dead, .cells [.int .i64 kind, .int .i64 k0, .int .i64 u0, .int .i64 v0, encL 5 encFm l0], .row true 3 1 ((aK m ns k).map encInt), .row true 3 1 ((bK m ns k).map encInt)]⟩ := by
      intro t' ht'
      refine cw_weak (weak_less (n0 := 0) (H' := [.dead, .dead, .cells [encL 4 encNode s.nodes, encL 1 encInt s.next], .dead, .dead, .cells [encL 4 encNode t.nodes, encL 1 encInt t.next], .dead, .dead, .dead, .dead, .cells [.int .i64 kind, .int .i64 k0, .int .i64 u0, .int .i64 v0, encL 5 encFm l0], .row true 3 1 ((aK m ns k).map encInt), .row true 3 1 ((bK m ns k).map encInt)]) (by simp) ht') ?_
      refine cw_weak (weak_seal (n0 := 0) 11 (by simp) (t' := slots 104 [(3, .pbox 2 0), (4, .pbox 5 0), (10, .pbox 10 0), (12, encL 1 encInt (aK m ns k)), (13, encL 1 encInt (bK m ns k))]) (H' := [.dead, .dead, .cells [encL 4 encNode s.nodes, encL 1 encInt s.next], .dead, .dead, .cells [encL 4 encNode t.nodes, encL 1 encInt t.next], .dead, .dead, .dead, .dead, .cells [.int .i64 kind, .int .i64 k0, .int .i64 u0, .int .i64 v0, encL 5 encFm l0]]) (by simp) ?_) ?_
      · have ta : List.take k (List.map encInt (aK m ns k)) = List.map encInt (aK m ns k) := List.take_of_length_le (by simp [hal])
        have tb : List.take k (List.map encInt (bK m ns k)) = List.map encInt (bK m ns k) := List.take_of_length_le (by simp [hbl])
        simp [List.replicate, lendC, hal, hbl, ta, tb]
      simp only [code_laws_FnKept, tlF]
      have la : (aK m ns k).length ≤ 1048576 := by omega
      have lb : (bK m ns k).length ≤ 1048576 := by omega
      generalize aK m ns k = A at *
      generalize bK m ns k = B at *
      refine cw_seq (go_ok hT ?_); simp (maxSteps := 4000000) [List.replicate, z1, z2, hsT, htT, la, lb, hfin]
      refine go_ok hT ?_; simp [List.replicate]
    simp only [code_laws_FnKept, tlF] at tail
    rcases hz with hz | ⟨hz1, hz2⟩
    · have q2 : ns.length ≤ k := by omega
      have q1 : ¬ k < ns.length := by omega
      refine cw_seq (cw_seq (go_ok hT ?_)); simp [List.replicate, q1, q2]
      refine go_ok hT ?_; simp [List.replicate]
      refine tail _ ?_; simp [List.replicate]
    · have hmn : m = [] := List.eq_nil_of_length_eq_zero hz2
      by_cases q1 : k < ns.length
      · have q2 : ¬ ns.length ≤ k := by omega
        refine cw_seq (cw_seq (go_ok hT ?_)); simp [List.replicate, q1, q2, hz2]
        refine go_ok hT ?_; simp [List.replicate]
        refine tail _ ?_; simp [List.replicate]
      · have q2 : ns.length ≤ k := by omega
        refine cw_seq (cw_seq (go_ok hT ?_)); simp [List.replicate, q1, q2]
        refine go_ok hT ?_; simp [List.replicate]
        refine tail _ ?_; simp [List.replicate]
end Go.Vm
