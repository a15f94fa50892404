/- IsDefinite and EqualStructure. No condition. -/
import Derived.Test.YtfelkhckpfjgjaaTIXN
import Derived.Test.YtfelkhckpfjgjaaTTR
import Derived.Test.YtfelkhckpfjgjaaTHP
import Derived.Test.YtfelkhckpfjgjaaTEM
set_option linter.unusedSimpArgs false
set_option linter.unusedVariables false
namespace Go.Vm
open Go.Proofs
end Go.Vm
namespace Go.Vm
open Go.Proofs
def code_spec_l12Truths : F := ⟨16,[.tmp 2],.seq (.reg [⟨some 2,.mov (.k (.bool false)),none⟩]) (.seq (.seq (.reg [⟨some 3,.mov (.k (.int .i64 0)),none⟩]) (.block 0 (.loop (.seq (.seq (.reg [⟨some 4,.mov (.t 3),none⟩,⟨some 5,.mov (.t 0),none⟩,⟨some 6,.len (.t 5),none⟩,⟨some 7,.bin .lss (.t 4) (.t 6),none⟩]) (.cond (.t 7) (.skip) (.exit 0))) (.seq (.block 1 (.seq (.reg [⟨some 10,.mov (.t 0),none⟩,⟨some 11,.mov (.t 3),none⟩,⟨some 12,.iaddr 1 (.t 10) (.t 11),none⟩,⟨some 13,.load 1 false (.t 12),none⟩,⟨some 14,.call 53 [.t 13],none⟩,⟨some 15,.not (.t 14),none⟩]) (.cond (.t 15) (.seq (.reg [⟨some 2,.mov (.k (.bool false)),none⟩]) (.ret)) (.skip)))) (.reg [⟨some 8,.mov (.t 3),none⟩,⟨some 9,.bin .add (.t 8) (.k (.int .i64 1)),none⟩,⟨some 3,.mov (.t 9),none⟩])))))) (.seq (.reg [⟨some 2,.mov (.k (.bool true)),none⟩]) (.ret)))⟩
theorem fok_spec_l12Truths : FOk Try.prog 52 code_spec_l12Truths := fok Try.func52 (by kernel_rfl)
def code_spec_IsStructure : F := ⟨77,[.tmp 4],.seq (.reg [⟨some 3,.box (.t 1),none⟩,⟨some 4,.mov (.k (.bool false)),none⟩]) (.seq (.reg [⟨some 8,.faddr 0 (.t 3),none⟩,⟨some 9,.load 1 false (.t 8),none⟩,⟨some 10,.len (.t 9),none⟩,⟨some 5,.mov (.t 10),none⟩]) (.seq (.seq (.reg [⟨some 6,.mov (.k (.int .i64 0)),none⟩]) (.block 0 (.loop (.seq (.seq (.reg [⟨some 11,.mov (.t 6),none⟩,⟨some 12,.mov (.t 5),none⟩,⟨some 13,.bin .lss (.t 11) (.t 12),none⟩]) (.cond (.t 13) (.skip) (.exit 0))) (.seq (.block 1 (.seq (.reg [⟨some 16,.faddr 0 (.t 3),none⟩,⟨some 17,.load 1 false (.t 16),none⟩,⟨some 18,.mov (.t 6),none⟩,⟨some 19,.iaddr 4 (.t 17) (.t 18),none⟩,⟨some 20,.load 4 true (.t 19),none⟩,⟨some 7,.alloc [(.sl .nil 0 []),(.sl .nil 0 []),(.int .i64 0),(.int .i64 0)],none⟩,⟨none,.store 4 (.t 7) (.t 20),none⟩]) (.seq (.reg [⟨some 21,.faddr 0 (.t 7),none⟩,⟨some 22,.load 1 false (.t 21),none⟩,⟨some 23,.len (.t 22),none⟩,⟨some 24,.mov (.t 0),none⟩,⟨some 25,.bin .neq (.t 23) (.t 24),none⟩,⟨some 26,.mov (.t 25),none⟩,⟨some 27,.faddr 1 (.t 7),some (26,false)⟩,⟨some 28,.load 1 false (.t 27),some (26,false)⟩,⟨some 29,.len (.t 28),some (26,false)⟩,⟨some 30,.mov (.t 0),some (26,false)⟩,⟨some 31,.bin .neq (.t 29) (.t 30),some (26,false)⟩,⟨some 32,.pick (.t 26) (.k (.bool true)) (.t 31),none⟩,⟨some 33,.mov (.t 32),none⟩,⟨some 34,.faddr 0 (.t 7),some (33,false)⟩,⟨some 35,.load 1 false (.t 34),some (33,false)⟩,⟨some 36,.call 52 [.t 35],some (33,false)⟩,⟨some 37,.not (.t 36),some (33,false)⟩,⟨some 38,.pick (.t 33) (.k (.bool true)) (.t 37),none⟩,⟨some 39,.mov (.t 38),none⟩,⟨some 40,.faddr 1 (.t 7),some (39,false)⟩,⟨some 41,.load 1 false (.t 40),some (39,false)⟩,⟨some 42,.call 52 [.t 41],some (39,false)⟩,⟨some 43,.not (.t 42),some (39,false)⟩,⟨some 44,.pick (.t 39) (.k (.bool true)) (.t 43),none⟩,⟨some 45,.mov (.t 44),none⟩,⟨some 46,.faddr 2 (.t 7),some (45,false)⟩,⟨some 47,.load 1 false (.t 46),some (45,false)⟩,⟨some 48,.call 53 [.t 47],some (45,false)⟩,⟨some 49,.not (.t 48),some (45,false)⟩,⟨some 50,.pick (.t 45) (.k (.bool true)) (.t 49),none⟩,⟨some 51,.mov (.t 50),none⟩,⟨some 52,.faddr 3 (.t 7),some (51,false)⟩,⟨some 53,.load 1 false (.t 52),some (51,false)⟩,⟨some 54,.call 48 [.t 53,(.k (.int .i64 0)),(.k (.int .i64 1))],some (51,false)⟩,⟨some 55,.not (.t 54),some (51,false)⟩,⟨some 56,.pick (.t 51) (.k (.bool true)) (.t 55),none⟩]) (.cond (.t 56) (.seq (.reg [⟨some 4,.mov (.k (.bool false)),none⟩]) (.ret)) (.skip))))) (.reg [⟨some 14,.mov (.t 6),none⟩,⟨some 15,.bin .add (.t 14) (.k (.int .i64 1)),none⟩,⟨some 6,.mov (.t 15),none⟩])))))) (.seq (.reg [⟨some 57,.mov (.t 0),none⟩,⟨some 58,.call 48 [.t 57,(.k (.int .i64 1)),(.k (.int .i64 4))],none⟩,⟨some 59,.mov (.t 58),none⟩,⟨some 60,.mov (.t 5),some (59,true)⟩,⟨some 61,.bin .leq (.t 60) (.k (.int .i64 10)),some (59,true)⟩,⟨some 62,.pick (.t 59) (.t 61) (.k (.bool false)),none⟩,⟨some 63,.mov (.t 62),none⟩,⟨some 64,.faddr 1 (.t 3),some (63,true)⟩,⟨some 65,.load 1 false (.t 64),some (63,true)⟩,⟨some 66,.len (.t 65),some (63,true)⟩,⟨some 67,.mov (.t 5),some (63,true)⟩,⟨some 68,.mov (.t 5),some (63,true)⟩,⟨some 69,.bin .mul (.t 67) (.t 68),some (63,true)⟩,⟨some 70,.bin .eql (.t 66) (.t 69),some (63,true)⟩,⟨some 71,.pick (.t 63) (.t 70) (.k (.bool false)),none⟩,⟨some 72,.mov (.t 71),none⟩,⟨some 73,.faddr 1 (.t 3),some (72,true)⟩,⟨some 74,.load 1 false (.t 73),some (72,true)⟩,⟨some 75,.call 52 [.t 74],some (72,true)⟩,⟨some 76,.pick (.t 72) (.t 75) (.k (.bool false)),none⟩,⟨some 4,.mov (.t 76),none⟩]) (.ret))))⟩
theorem fok_spec_IsStructure : FOk Try.prog 19 code_spec_IsStructure := fok Try.func19 (by kernel_rfl)
def notT (a : Int) : Bool := !isTruth a
def truthsB (l : List Int) : Bool := !l.any notT
def badN (v : Int) (x : Node) : Bool := !((((decide ((x.vars.length : Int) = v) && decide ((x.reach.length : Int) = v)) && (truthsB x.vars && truthsB x.reach)) && isTruth x.shared) && (decide (0 ≤ x.many) && decide (x.many ≤ 1)))
def structB (v : Int) (s : Strc) : Bool := (((((decide (1 ≤ v) && decide (v ≤ 4)) && decide ((s.nodes.length : Int) ≤ 10)) && decide ((s.next.length : Int) = (s.nodes.length : Int) * (s.nodes.length : Int))) && truthsB s.next)) && !s.nodes.any (badN v)
@[simp] def ct_l12Truths : Ct := ⟨52, List Int, fun _ => True, fun x => [encL 1 encInt x], fun x => .bool (truthsB x)⟩
theorem ok_l12Truths : ct_l12Truths.Ok Try.prog := by
  rintro xs -
  change List Int at xs
  refine Ok.lens fun hl => Ok.of_cw fok_spec_l12Truths (go_ok tab_nil ?_)
  have hl : lensOkL [encL 1 encInt xs] := hl
  rw [lensOkL_cons, lensOk_encL] at hl
  have hl := hl.1.1
  simp [code_spec_l12Truths, List.replicate]
  refine cw_round (fun (i : Nat) => ⟨slots 16 [(0, encL 1 encInt xs), (3, .int .i64 i)], []⟩)
    (fun i => i ≤ xs.length ∧ noHit notT xs i) (fun i => xs.length - i) 0 ⟨by omega, noHit_zero⟩ ?_ ?_
  · exact weak_seal 0 (by omega) (by simp) (by simp [List.replicate])
  · rintro N hN i ⟨hi, hn⟩
    have hw : i < xs.length → IntKind.i64.wrap ((i : Int) + 1) = ((i + 1 : Nat) : Int) := fun h => by rw [wrap_i64] <;> omega
    refine go_ok (tab_cons ok_sIsTruth tab_nil) ?_
    by_cases h : i < xs.length
    · have h2 : ¬ xs.length ≤ i := by omega
      cases e : isTruth xs[i]
      · have hf : truthsB xs = false := by unfold truthsB; rw [any_hit h (by simp [notT, e])]; rfl
        simp [List.replicate, hw, h, h2, e, hf]
      · simp [List.replicate, hw, h, h2, e]
        refine hN i (i + 1) _ ⟨by omega, noHit_succ hn h (by simp [notT, e])⟩ (by omega) (weak_seal 0 (by omega) ?_ ?_)
        · simp
        · simp [List.replicate]
    · have h2 : xs.length ≤ i := by omega
      have hf : truthsB xs = true := by unfold truthsB; rw [any_none hn h2]; rfl
      simp [List.replicate, h, h2, hf]
@[simp] def ct_sIsStructure : Ct := ⟨19, Int × Strc, fun x => szStrc x.2 ≤ 1048576, fun x => [.int .i64 x.1, encStrc x.2], fun x => .bool (structB x.1 x.2)⟩
set_option maxHeartbeats 4000000 in
set_option maxRecDepth 100000 in
theorem ok_sIsStructure : ct_sIsStructure.Ok Try.prog := by
  rintro ⟨v, ⟨ns, nx⟩⟩ hx
  have hx' : szStrc ⟨ns, nx⟩ ≤ 1048576 := hx
  have hsl := strc_le ⟨ns, nx⟩
  simp only at hsl
  have hmul : IntKind.i64.wrap ((ns.length : Int) * (ns.length : Int)) = (ns.length : Int) * (ns.length : Int) := by
    have h0 : ns.length * ns.length ≤ 1048576 * 1048576 := Nat.mul_le_mul (by omega) (by omega)
    have h1 : ((ns.length * ns.length : Nat) : Int) = (ns.length : Int) * (ns.length : Int) := by push_cast; rfl
    rw [← h1, wrap_i64] <;> omega
  have hT : TabOk Try.prog _ := tab_cons ok_l1In (tab_cons ok_l12Truths (tab_cons ok_sIsTruth tab_nil))
  refine Ok.of_cw fok_spec_IsStructure (go_ok hT ?_)
  simp [code_spec_IsStructure, List.replicate]
  refine cw_round (fun (i : Nat) => ⟨slots 77 [(0, .int .i64 v), (3, .pbox 0 0), (5, .int .i64 ns.length), (6, .int .i64 i)], [.cells [encL 4 encNode ns, encL 1 encInt nx]]⟩)
    (fun i => i ≤ ns.length ∧ noHit (badN v) ns i) (fun i => ns.length - i) 0 ⟨by omega, noHit_zero⟩ ?_ ?_
  · exact weak_seal 1 (by simp) (by simp) (by simp [List.replicate])
  · rintro N hN i ⟨hi, hn⟩
    have hw : IntKind.i64.wrap ((i : Int) + 1) = ((i + 1 : Nat) : Int) := by rw [wrap_i64] <;> omega
    by_cases h : i < ns.length
    · have h2 : ¬ ns.length ≤ i := by omega
      have bad : badN v ns[i] = true → structB v ⟨ns, nx⟩ = false := fun e => by unfold structB; rw [any_hit h e, Bool.and_comm]; rfl
      generalize hnd : ns[i] = nd at *
      obtain ⟨a, b, c, d⟩ := nd
      refine cw_seq (go_ok hT ?_); simp [List.replicate, h, h2]
      refine cw_seq (cw_block ?_)
      refine cw_seq (go_ok hT ?_); simp [List.replicate, h, hnd]
      by_cases q1 : (a.length : Int) = v
      case neg =>
        have hf := bad (by simp [badN, q1])
        refine go_ok hT ?_; simp [List.replicate, q1, hf]
      by_cases q2 : (b.length : Int) = v
      case neg =>
        have hf := bad (by simp [badN, q2])
        refine go_ok hT ?_; simp [List.replicate, q1, q2, hf]
      cases q3 : truthsB a
      case false =>
        have hf := bad (by simp [badN, q3])
        refine go_ok hT ?_; simp [List.replicate, q1, q2, q3, hf]
      cases q4 : truthsB b
      case false =>
        have hf := bad (by simp [badN, q4])
        refine go_ok hT ?_; simp [List.replicate, q1, q2, q3, q4, hf]
      cases q5 : isTruth c
      case false =>
        have hf := bad (by simp [badN, q5])
        refine go_ok hT ?_; simp [List.replicate, q1, q2, q3, q4, q5, hf]
      by_cases q6 : 0 ≤ d
      case neg =>
        have hf := bad (by simp [badN, q6])
        refine go_ok hT ?_; simp [List.replicate, q1, q2, q3, q4, q5, q6, hf]
      by_cases q7 : d ≤ 1
      case neg =>
        have hf := bad (by simp [badN, q7])
        refine go_ok hT ?_; simp [List.replicate, q1, q2, q3, q4, q5, q6, q7, hf]
      have q8 : ¬ (d < 0) := by omega
      have q9 : ¬ (1 < d) := by omega
      have hg : badN v ns[i] = false := by rw [hnd]; simp [badN, q1, q2, q3, q4, q5, q6, q7]
      refine go_ok hT ?_; simp [List.replicate, q1, q2, q3, q4, q5, q6, q7, q8, q9]
      refine go_ok hT ?_; simp [List.replicate, hw]
      refine hN i (i + 1) _ ⟨by omega, noHit_succ hn h hg⟩ (by omega) (weak_seal 1 (by simp) ?_ ?_)
      · simp
      · simp [List.replicate]
    · have h2 : ns.length ≤ i := by omega
      have hany : ns.any (badN v) = false := any_none hn h2
      have hR : structB v ⟨ns, nx⟩ = ((((decide (1 ≤ v) && decide (v ≤ 4)) && decide ((ns.length : Int) ≤ 10)) && decide ((nx.length : Int) = (ns.length : Int) * (ns.length : Int))) && truthsB nx) := by unfold structB; rw [hany]; simp
      refine go_ok hT ?_
      by_cases v1 : 1 ≤ v ∧ v ≤ 4
      case neg =>
        have hf : structB v ⟨ns, nx⟩ = false := by
          rw [hR]
          have : (decide (1 ≤ v) && decide (v ≤ 4)) = false := by simp; omega
          rw [this]; rfl
        have hd : ¬ (1 ≤ v) ∨ ¬ (v ≤ 4) := by omega
        by_cases e1 : 1 ≤ v
        · have e2 : ¬ v ≤ 4 := fun q => v1 ⟨e1, q⟩
          simp [List.replicate, h, h2, hf, e1, e2]
        · simp [List.replicate, h, h2, hf, e1]
      obtain ⟨v1, v2⟩ := v1
      by_cases e1 : (ns.length : Int) ≤ 10
      case neg =>
        have hf : structB v ⟨ns, nx⟩ = false := by rw [hR]; simp [e1]
        simp [List.replicate, h, h2, hf, v1, v2, e1]
      by_cases e2 : (nx.length : Int) = (ns.length : Int) * (ns.length : Int)
      case neg =>
        have hf : structB v ⟨ns, nx⟩ = false := by rw [hR]; simp [e2]
        simp [List.replicate, h, h2, hf, v1, v2, e1, e2, hmul]
      have v3 : ¬ (4 < v) := by omega
      have v4 : ¬ (v < 1) := by omega
      have e3 : ¬ ((10 : Int) < ns.length) := by omega
      simp [List.replicate, h, h2, v1, v2, v3, v4, e1, e2, e3, hmul, hR]
end Go.Vm
