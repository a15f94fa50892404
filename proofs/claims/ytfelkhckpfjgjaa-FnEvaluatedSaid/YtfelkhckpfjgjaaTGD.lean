/- IsStructure of both. No condition. -/
import Derived.Test.YtfelkhckpfjgjaaTTR
import Derived.Test.YtfelkhckpfjgjaaTDE
import Derived.Test.YtfelkhckpfjgjaaTIXI
import Derived.Test.YtfelkhckpfjgjaaTSL
import Derived.Test.YtfelkhckpfjgjaaTSO
import Derived.Test.YtfelkhckpfjgjaaTSQ
import Derived.Test.YtfelkhckpfjgjaaTSZ
set_option linter.unusedSimpArgs false
set_option linter.unusedVariables false
namespace Go.Vm
open Go.Proofs
def code_spec_l12Truths : F := ⟨16,[.tmp 2],.seq (.reg [⟨some 2,.mov (.k (.bool false)),none⟩]) (.seq (.seq (.reg [⟨some 3,.mov (.k (.int .i64 0)),none⟩]) (.block 0 (.loop (.seq (.seq (.reg [⟨some 4,.mov (.t 3),none⟩,⟨some 5,.mov (.t 0),none⟩,⟨some 6,.len (.t 5),none⟩,⟨some 7,.bin .lss (.t 4) (.t 6),none⟩]) (.cond (.t 7) (.skip) (.exit 0))) (.seq (.block 1 (.seq (.reg [⟨some 10,.mov (.t 0),none⟩,⟨some 11,.mov (.t 3),none⟩,⟨some 12,.iaddr 1 (.t 10) (.t 11),none⟩,⟨some 13,.load 1 false (.t 12),none⟩,⟨some 14,.call 53 [.t 13],none⟩,⟨some 15,.not (.t 14),none⟩]) (.cond (.t 15) (.seq (.reg [⟨some 2,.mov (.k (.bool false)),none⟩]) (.ret)) (.skip)))) (.reg [⟨some 8,.mov (.t 3),none⟩,⟨some 9,.bin .add (.t 8) (.k (.int .i64 1)),none⟩,⟨some 3,.mov (.t 9),none⟩])))))) (.seq (.reg [⟨some 2,.mov (.k (.bool true)),none⟩]) (.ret)))⟩
theorem fok_spec_l12Truths : FOk Try.prog 52 code_spec_l12Truths := fok Try.func52 (by kernel_rfl)
def code_spec_IsStructure : F := ⟨77,[.tmp 4],.seq (.reg [⟨some 3,.box (.t 1),none⟩,⟨some 4,.mov (.k (.bool false)),none⟩]) (.seq (.reg [⟨some 8,.faddr 0 (.t 3),none⟩,⟨some 9,.load 1 false (.t 8),none⟩,⟨some 10,.len (.t 9),none⟩,⟨some 5,.mov (.t 10),none⟩]) (.seq (.seq (.reg [⟨some 6,.mov (.k (.int .i64 0)),none⟩]) (.block 0 (.loop (.seq (.seq (.reg [⟨some 11,.mov (.t 6),none⟩,⟨some 12,.mov (.t 5),none⟩,⟨some 13,.bin .lss (.t 11) (.t 12),none⟩]) (.cond (.t 13) (.skip) (.exit 0))) (.seq (.block 1 (.seq (.reg [⟨some 16,.faddr 0 (.t 3),none⟩,⟨some 17,.load 1 false (.t 16),none⟩,⟨some 18,.mov (.t 6),none⟩,⟨some 19,.iaddr 4 (.t 17) (.t 18),none⟩,⟨some 20,.load 4 true (.t 19),none⟩,⟨some 7,.alloc [(.sl .nil 0 []),(.sl .nil 0 []),(.int .i64 0),(.int .i64 0)],none⟩,⟨none,.store 4 (.t 7) (.t 20),none⟩]) (.seq (.reg [⟨some 21,.faddr 0 (.t 7),none⟩,⟨some 22,.load 1 false (.t 21),none⟩,⟨some 23,.len (.t 22),none⟩,⟨some 24,.mov (.t 0),none⟩,⟨some 25,.bin .neq (.t 23) (.t 24),none⟩,⟨some 26,.mov (.t 25),none⟩,⟨some 27,.faddr 1 (.t 7),some (26,false)⟩,⟨some 28,.load 1 false (.t 27),some (26,false)⟩,⟨some 29,.len (.t 28),some (26,false)⟩,⟨some 30,.mov (.t 0),some (26,false)⟩,⟨some 31,.bin .neq (.t 29) (.t 30),some (26,false)⟩,⟨some 32,.pick (.t 26) (.k (.bool true)) (.t 31),none⟩,⟨some 33,.mov (.t 32),none⟩,⟨some 34,.faddr 0 (.t 7),some (33,false)⟩,⟨some 35,.load 1 false (.t 34),some (33,false)⟩,⟨some 36,.call 52 [.t 35],some (33,false)⟩,⟨some 37,.not (.t 36),some (33,false)⟩,⟨some 38,.pick (.t 33) (.k (.bool true)) (.t 37),none⟩,⟨some 39,.mov (.t 38),none⟩,⟨some 40,.faddr 1 (.t 7),some (39,false)⟩,⟨some 41,.load 1 false (.t 40),some (39,false)⟩,⟨some 42,.call 52 [.t 41],some (39,false)⟩,⟨some 43,.not (.t 42),some (39,false)⟩,⟨some 44,.pick (.t 39) (.k (.bool true)) (.t 43),none⟩,⟨some 45,.mov (.t 44),none⟩,⟨some 46,.faddr 2 (.t 7),some (45,false)⟩,⟨some 47,.load 1 false (.t 46),some (45,false)⟩,⟨some 48,.call 53 [.t 47],some (45,false)⟩,⟨some 49,.not (.t 48),some (45,false)⟩,⟨some 50,.pick (.t 45) (.k (.bool true)) (.t 49),none⟩,⟨some 51,.mov (.t 50),none⟩,⟨some 52,.faddr 3 (.t 7),some (51,false)⟩,⟨some 53,.load 1 false (.t 52),some (51,false)⟩,⟨some 54,.call 48 [.t 53,(.k (.int .i64 0)),(.k (.int .i64 1))],some (51,false)⟩,⟨some 55,.not (.t 54),some (51,false)⟩,⟨some 56,.pick (.t 51) (.k (.bool true)) (.t 55),none⟩]) (.cond (.t 56) (.seq (.reg [⟨some 4,.mov (.k (.bool false)),none⟩]) (.ret)) (.skip))))) (.reg [⟨some 14,.mov (.t 6),none⟩,⟨some 15,.bin .add (.t 14) (.k (.int .i64 1)),none⟩,⟨some 6,.mov (.t 15),none⟩])))))) (.seq (.reg [⟨some 57,.mov (.t 0),none⟩,⟨some 58,.call 48 [.t 57,(.k (.int .i64 1)),(.k (.int .i64 4))],none⟩,⟨some 59,.mov (.t 58),none⟩,⟨some 60,.mov (.t 5),some (59,true)⟩,⟨some 61,.bin .leq (.t 60) (.k (.int .i64 10)),some (59,true)⟩,⟨some 62,.pick (.t 59) (.t 61) (.k (.bool false)),none⟩,⟨some 63,.mov (.t 62),none⟩,⟨some 64,.faddr 1 (.t 3),some (63,true)⟩,⟨some 65,.load 1 false (.t 64),some (63,true)⟩,⟨some 66,.len (.t 65),some (63,true)⟩,⟨some 67,.mov (.t 5),some (63,true)⟩,⟨some 68,.mov (.t 5),some (63,true)⟩,⟨some 69,.bin .mul (.t 67) (.t 68),some (63,true)⟩,⟨some 70,.bin .eql (.t 66) (.t 69),some (63,true)⟩,⟨some 71,.pick (.t 63) (.t 70) (.k (.bool false)),none⟩,⟨some 72,.mov (.t 71),none⟩,⟨some 73,.faddr 1 (.t 3),some (72,true)⟩,⟨some 74,.load 1 false (.t 73),some (72,true)⟩,⟨some 75,.call 52 [.t 74],some (72,true)⟩,⟨some 76,.pick (.t 72) (.t 75) (.k (.bool false)),none⟩,⟨some 4,.mov (.t 76),none⟩]) (.ret))))⟩
theorem fok_spec_IsStructure : FOk Try.prog 19 code_spec_IsStructure := fok Try.func19 (by kernel_rfl)
def notT (a : Int) : Bool := !isTruth a
def truthsB (l : List Int) : Bool := !l.any notT
def badN (v : Int) (x : Node) : Bool := !((((decide ((x.vars.length : Int) = v) && decide ((x.reach.length : Int) = v)) && (truthsB x.vars && truthsB x.reach)) && isTruth x.shared) && (decide (0 ≤ x.many) && decide (x.many ≤ 1)))
def structB (v : Int) (s : Strc) : Bool := (((((decide (1 ≤ v) && decide (v ≤ 4)) && decide ((s.nodes.length : Int) ≤ 10)) && decide ((s.next.length : Int) = (s.nodes.length : Int) * (s.nodes.length : Int))) && truthsB s.next)) && !s.nodes.any (badN v)
@[simp] def ct_l12Truths : Ct := ⟨52, List Int, fun _ => True, fun x => [encL 1 encInt x], fun x => .bool (truthsB x)⟩
theorem ok_l12Truths : ct_l12Truths.Ok Try.prog := by
  rintro xs -
  change List Int at xs
  refine Ok.lens fun hl => Ok.of_cw fok_spec_l12Truths (go_ok tab_nil ?_)
  have hl : lensOkL [encL 1 encInt xs] := hl
  rw [lensOkL_cons, lensOk_encL] at hl
  have hl := hl.1.1
  simp [code_spec_l12Truths, List.replicate]
  refine cw_round (fun (i : Nat) => ⟨slots 16 [(0, encL 1 encInt xs), (3, .int .i64 i)], []⟩)
    (fun i => i ≤ xs.length ∧ noHit notT xs i) (fun i => xs.length - i) 0 ⟨by omega, noHit_zero⟩ ?_ ?_
  · exact weak_seal 0 (by omega) (by simp) (by simp [List.replicate])
  · rintro N hN i ⟨hi, hn⟩
    have hw : i < xs.length → IntKind.i64.wrap ((i : Int) + 1) = ((i + 1 : Nat) : Int) := fun h => by rw [wrap_i64] <;> omega
    refine go_ok (tab_cons ok_sIsTruth tab_nil) ?_
    by_cases h : i < xs.length
    · have h2 : ¬ xs.length ≤ i := by omega
      cases e : isTruth xs[i]
      · have hf : truthsB xs = false := by unfold truthsB; rw [any_hit h (by simp [notT, e])]; rfl
        simp [List.replicate, hw, h, h2, e, hf]
      · simp [List.replicate, hw, h, h2, e]
        refine hN i (i + 1) _ ⟨by omega, noHit_succ hn h (by simp [notT, e])⟩ (by omega) (weak_seal 0 (by omega) ?_ ?_)
        · simp
        · simp [List.replicate]
    · have h2 : xs.length ≤ i := by omega
      have hf : truthsB xs = true := by unfold truthsB; rw [any_none hn h2]; rfl
      simp [List.replicate, h, h2, hf]
@[simp] def ct_sIsStructure : Ct := ⟨19, Int × Strc, fun x => szStrc x.2 ≤ 1048576, fun x => [.int .i64 x.1, encStrc x.2], fun x => .bool (structB x.1 x.2)⟩
set_option maxHeartbeats 4000000 in
set_option maxRecDepth 100000 in
theorem ok_sIsStructure : ct_sIsStructure.Ok Try.prog := by
  rintro ⟨v, ⟨ns, nx⟩⟩ hx
  have hx' : szStrc ⟨ns, nx⟩ ≤ 1048576 := hx
  have hsl := strc_le ⟨ns, nx⟩
  simp only at hsl
  have hmul : IntKind.i64.wrap ((ns.length : Int) * (ns.length : Int)) = (ns.length : Int) * (ns.length : Int) := by
    have h0 : ns.length * ns.length ≤ 1048576 * 1048576 := Nat.mul_le_mul (by omega) (by omega)
    have h1 : ((ns.length * ns.length : Nat) : Int) = (ns.length : Int) * (ns.length : Int) := by push_cast; rfl
    rw [← h1, wrap_i64] <;> omega
  have hT : TabOk Try.prog _ := tab_cons ok_l1In (tab_cons ok_l12Truths (tab_cons ok_sIsTruth tab_nil))
  refine Ok.of_cw fok_spec_IsStructure (go_ok hT ?_)
  simp [code_spec_IsStructure, List.replicate]
  refine cw_round (fun (i : Nat) => ⟨slots 77 [(0, .int .i64 v), (3, .pbox 0 0), (5, .int .i64 ns.length), (6, .int .i64 i)], [.cells [encL 4 encNode ns, encL 1 encInt nx]]⟩)
    (fun i => i ≤ ns.length ∧ noHit (badN v) ns i) (fun i => ns.length - i) 0 ⟨by omega, noHit_zero⟩ ?_ ?_
  · exact weak_seal 1 (by simp) (by simp) (by simp [List.replicate])
  · rintro N hN i ⟨hi, hn⟩
    have hw : IntKind.i64.wrap ((i : Int) + 1) = ((i + 1 : Nat) : Int) := by rw [wrap_i64] <;> omega
    by_cases h : i < ns.length
    · have h2 : ¬ ns.length ≤ i := by omega
      have bad : badN v ns[i] = true → structB v ⟨ns, nx⟩ = false := fun e => by unfold structB; rw [any_hit h e, Bool.and_comm]; rfl
      generalize hnd : ns[i] = nd at *
      obtain ⟨a, b, c, d⟩ := nd
      refine cw_seq (go_ok hT ?_); simp [List.replicate, h, h2]
      refine cw_seq (cw_block ?_)
      refine cw_seq (go_ok hT ?_); simp [List.replicate, h, hnd]
      by_cases q1 : (a.length : Int) = v
      case neg =>
        have hf := bad (by simp [badN, q1])
        refine go_ok hT ?_; simp [List.replicate, q1, hf]
      by_cases q2 : (b.length : Int) = v
      case neg =>
        have hf := bad (by simp [badN, q2])
        refine go_ok hT ?_; simp [List.replicate, q1, q2, hf]
      cases q3 : truthsB a
      case false =>
        have hf := bad (by simp [badN, q3])
        refine go_ok hT ?_; simp [List.replicate, q1, q2, q3, hf]
      cases q4 : truthsB b
      case false =>
        have hf := bad (by simp [badN, q4])
        refine go_ok hT ?_; simp [List.replicate, q1, q2, q3, q4, hf]
      cases q5 : isTruth c
      case false =>
        have hf := bad (by simp [badN, q5])
        refine go_ok hT ?_; simp [List.replicate, q1, q2, q3, q4, q5, hf]
      by_cases q6 : 0 ≤ d
      case neg =>
        have hf := bad (by simp [badN, q6])
        refine go_ok hT ?_; simp [List.replicate, q1, q2, q3, q4, q5, q6, hf]
      by_cases q7 : d ≤ 1
      case neg =>
        have hf := bad (by simp [badN, q7])
        refine go_ok hT ?_; simp [List.replicate, q1, q2, q3, q4, q5, q6, q7, hf]
      have q8 : ¬ (d < 0) := by omega
      have q9 : ¬ (1 < d) := by omega
      have hg : badN v ns[i] = false := by rw [hnd]; simp [badN, q1, q2, q3, q4, q5, q6, q7]
      refine go_ok hT ?_; simp [List.replicate, q1, q2, q3, q4, q5, q6, q7, q8, q9]
      refine go_ok hT ?_; simp [List.replicate, hw]
      refine hN i (i + 1) _ ⟨by omega, noHit_succ hn h hg⟩ (by omega) (weak_seal 1 (by simp) ?_ ?_)
      · simp
      · simp [List.replicate]
    · have h2 : ns.length ≤ i := by omega
      have hany : ns.any (badN v) = false := any_none hn h2
      have hR : structB v ⟨ns, nx⟩ = ((((decide (1 ≤ v) && decide (v ≤ 4)) && decide ((ns.length : Int) ≤ 10)) && decide ((nx.length : Int) = (ns.length : Int) * (ns.length : Int))) && truthsB nx) := by unfold structB; rw [hany]; simp
      refine go_ok hT ?_
      by_cases v1 : 1 ≤ v ∧ v ≤ 4
      case neg =>
        have hf : structB v ⟨ns, nx⟩ = false := by
          rw [hR]
          have : (decide (1 ≤ v) && decide (v ≤ 4)) = false := by simp; omega
          rw [this]; rfl
        have hd : ¬ (1 ≤ v) ∨ ¬ (v ≤ 4) := by omega
        by_cases e1 : 1 ≤ v
        · have e2 : ¬ v ≤ 4 := fun q => v1 ⟨e1, q⟩
          simp [List.replicate, h, h2, hf, e1, e2]
        · simp [List.replicate, h, h2, hf, e1]
      obtain ⟨v1, v2⟩ := v1
      by_cases e1 : (ns.length : Int) ≤ 10
      case neg =>
        have hf : structB v ⟨ns, nx⟩ = false := by rw [hR]; simp [e1]
        simp [List.replicate, h, h2, hf, v1, v2, e1]
      by_cases e2 : (nx.length : Int) = (ns.length : Int) * (ns.length : Int)
      case neg =>
        have hf : structB v ⟨ns, nx⟩ = false := by rw [hR]; simp [e2]
        simp [List.replicate, h, h2, hf, v1, v2, e1, e2, hmul]
      have v3 : ¬ (4 < v) := by omega
      have v4 : ¬ (v < 1) := by omega
      have e3 : ¬ ((10 : Int) < ns.length) := by omega
      simp [List.replicate, h, h2, v1, v2, v3, v4, e1, e2, e3, hmul, hR]
end Go.Vm
namespace Go.Vm
open Go.Proofs
def blurS (s : Strc) : Strc := ⟨(groupsF s).map (grpNode s), (groupsF s).flatMap fun a => (groupsF s).map (nextG s a)⟩
def blP (i : Nat) : Nat := 12 * i + 19
def blQ (i : Nat) : Nat := 12 * i + 20
def blB (x : Node) : List Blk := [.dead, .dead, .dead, .dead, .dead, .dead, .dead, .dead, .dead, .dead, .row true 3 1 (x.vars.map encInt), .row true 3 1 (x.reach.map encInt)]
def blX (f : Nat → Node) : Nat → List Blk
  | 0 => []
  | i + 1 => blX f i ++ blB (f i)
def blE (f : Nat → Node) : Nat → List AV
  | 0 => []
  | i + 1 => blE f i ++ [aggN blP blQ i (f i)]
theorem blX_len (f : Nat → Node) : ∀ i, (blX f i).length = 12 * i
  | 0 => rfl
  | i + 1 => by simp [blX, blB, blX_len f i]; omega
theorem blE_len (f : Nat → Node) : ∀ i, (blE f i).length = i
  | 0 => rfl
  | i + 1 => by simp [blE, blE_len f i]
theorem blX_get (f : Nat → Node) : ∀ {i j : Nat}, j < i → ∀ k, k < 12 → (blX f i)[12 * j + k]? = (blB (f j))[k]?
  | 0, j, h, _, _ => by omega
  | i + 1, j, h, k, hk => by
    by_cases e : j = i
    · subst e
      show (blX f j ++ blB (f j))[12 * j + k]? = _
      rw [List.getElem?_append_right (by rw [blX_len]; omega), blX_len]
      congr 1; omega
    · show (blX f i ++ blB (f i))[12 * j + k]? = _
      rw [List.getElem?_append_left (by rw [blX_len]; omega)]
      exact blX_get f (by omega) k hk
theorem blE_get (f : Nat → Node) : ∀ {i j : Nat}, j < i → (blE f i)[j]? = some (aggN blP blQ j (f j))
  | i + 1, j, h => by
    by_cases e : j = i
    · subst e
      show (blE f j ++ [_])[j]? = _
      rw [List.getElem?_append_right (by rw [blE_len]; omega), blE_len]; simp
    · show (blE f i ++ [_])[j]? = _
      rw [List.getElem?_append_left (by rw [blE_len]; omega)]
      exact blE_get f (by omega)
theorem blX_own (f : Nat → Node) : ∀ i, ∀ k ∈ blX f i, ownB k = true
  | 0, k, hk => by cases hk
  | i + 1, k, hk => by
    rcases List.mem_append.1 (show k ∈ blX f i ++ blB (f i) from hk) with h | h
    · exact blX_own f i k h
    · simp only [blB, List.mem_cons, List.not_mem_nil, or_false] at h
      rcases h with rfl | rfl | rfl | rfl | rfl | rfl | rfl | rfl | rfl | rfl | rfl | rfl <;> first | rfl | simp [ownB]
theorem blE_own (f : Nat → Node) : ∀ i, ∀ k ∈ blE f i, ownV k = true
  | 0, k, hk => by cases hk
  | i + 1, k, hk => by
    rcases List.mem_append.1 (show k ∈ blE f i ++ [aggN blP blQ i (f i)] from hk) with h | h
    · exact blE_own f i k h
    · simp only [List.mem_cons, List.not_mem_nil, or_false] at h
      subst h
      simp [aggN, ownV, ownVL]
def nxB (s : Strc) (gs : List (List Int)) : Nat → List Int
  | 0 => []
  | i + 1 => nxB s gs i ++ gs.map (nextG s (gs.getD i []))
theorem nxB_all (s : Strc) (gs : List (List Int)) : nxB s gs gs.length = gs.flatMap fun a => gs.map (nextG s a) := by
  have key : ∀ i, i ≤ gs.length → nxB s gs i = (gs.take i).flatMap fun a => gs.map (nextG s a) := by
    intro i
    induction i with
    | zero => intro _; rfl
    | succ i ih =>
      intro hi
      have e : gs.getD i [] = gs[i] := by simp [List.getD_eq_getElem?_getD, show i < gs.length by omega]
      rw [nxB, ih (by omega), e, List.take_succ_eq_append_getElem (by omega), List.flatMap_append]
      simp
  rw [key _ (Nat.le_refl _), List.take_length]
theorem nxB_len (s : Strc) (gs : List (List Int)) : ∀ i, (nxB s gs i).length = i * gs.length
  | 0 => by simp [nxB]
  | i + 1 => by simp [nxB, nxB_len s gs i]; rw [Nat.add_mul]; omega
theorem nodes_map (s : Strc) (gs : List (List Int)) : gs.map (grpNode s) = (List.range gs.length).map fun i => grpNode s (gs.getD i []) := by
  apply List.ext_getElem
  · simp
  · intro i h1 h2
    have : i < gs.length := by simpa using h1
    simp [List.getD_eq_getElem?_getD, this]
theorem groups_ok (s : Strc) : (groupsF s).length ≤ s.nodes.length ∧ ∀ g ∈ groupsF s, (0 < g.length ∧ g.length ≤ s.nodes.length) ∧ ∀ y ∈ g, 0 ≤ y ∧ y < s.nodes.length := by
  unfold groupsF
  have h := gsOf_ok s (fun i => nodeName s i) s.nodes.length
  generalize gsOf s (fun i => nodeName s i) s.nodes.length = q at *
  obtain ⟨lo, lc, nd, rg, li, ne, el⟩ := h
  refine ⟨by simp [Gs.out]; omega, fun g hg => ?_⟩
  obtain ⟨c, hc, rfl⟩ := List.mem_map.1 hg
  have hl := rg c hc
  have e : q.cr.getD c [] = q.cr[c] := by simp [List.getD_eq_getElem?_getD, hl]
  rw [e]
  have hm : q.cr[c] ∈ q.cr := List.getElem_mem hl
  exact ⟨⟨List.length_pos_iff.2 (ne _ hm), (el _ hm).1⟩, (el _ hm).2⟩
def code_spec_Blur : F := ⟨61,[.cell 2 true 2],.seq (.reg [⟨some 1,.box (.t 0),none⟩,⟨some 2,.alloc [(.sl .nil 0 []),(.sl .nil 0 [])],none⟩]) (.seq (.seq (.reg [⟨some 7,.faddr 0 (.t 1),none⟩,⟨some 8,.load 1 false (.t 7),none⟩,⟨some 9,.len (.t 8),none⟩,⟨some 10,.bin .eql (.t 9) (.k (.int .i64 0)),none⟩]) (.cond (.t 10) (.seq (.reg [⟨some 11,.build [(.sl .nil 0 []),(.sl .nil 0 [])] [],none⟩,⟨none,.store 2 (.t 2) (.t 11),none⟩]) (.ret)) (.skip))) (.seq (.seq (.dreg [false,false,false,true,true] [false,true,false,true,false] [⟨some 12,.load 2 true (.t 1),none⟩,⟨some 13,.call 54 [.t 12],none⟩,⟨some 14,.load 2 true (.t 1),none⟩,⟨some 15,.call 19 [.t 13,.t 14],none⟩,⟨some 16,.not (.t 15),none⟩]) (.cond (.t 16) (.seq (.reg [⟨some 17,.load 2 true (.t 1),none⟩,⟨some 18,.call 55 [.t 17],none⟩,⟨none,.store 2 (.t 2) (.t 18),none⟩]) (.ret)) (.skip))) (.seq (.reg [⟨some 19,.load 2 true (.t 1),none⟩,⟨some 20,.call 56 [.t 19],none⟩,⟨some 3,.mov (.t 20),none⟩]) (.seq (.reg [⟨some 21,.build [(.sl .nil 0 []),(.sl .nil 0 [])] [],none⟩,⟨some 4,.alloc [(.sl .nil 0 []),(.sl .nil 0 [])],none⟩,⟨none,.store 2 (.t 4) (.t 21),none⟩]) (.seq (.seq (.reg [⟨some 5,.mov (.k (.int .i64 0)),none⟩]) (.block 0 (.loop (.seq (.seq (.reg [⟨some 22,.mov (.t 5),none⟩,⟨some 23,.mov (.t 3),none⟩,⟨some 24,.len (.t 23),none⟩,⟨some 25,.bin .lss (.t 22) (.t 24),none⟩]) (.cond (.t 25) (.skip) (.exit 0))) (.seq (.block 1 (.seq (.dreg [false,false,false,false,false,false,false,false,false,true,true,true] [false,false,false,false,false,false,false,true,false,false,false,false] [⟨some 28,.faddr 0 (.t 4),none⟩,⟨some 29,.load 1 false (.t 28),none⟩,⟨some 30,.load 2 true (.t 1),none⟩,⟨some 31,.mov (.t 3),none⟩,⟨some 32,.mov (.t 5),none⟩,⟨some 33,.iaddr 1 (.t 31) (.t 32),none⟩,⟨some 34,.load 1 false (.t 33),none⟩,⟨some 35,.call 57 [.t 30,.t 34],none⟩,⟨some 36,.bsl 61 4 1 (.agg [(.sl .nil 0 []),(.sl .nil 0 []),(.int .i64 0),(.int .i64 0)]) [(0,.t 35)],none⟩,⟨some 37,.append 61 4 64 (.t 29) (.t 36),none⟩,⟨some 38,.faddr 0 (.t 4),none⟩,⟨none,.store 1 (.t 38) (.t 37),none⟩]) (.seq (.reg [⟨some 6,.mov (.k (.int .i64 0)),none⟩]) (.block 2 (.loop (.seq (.seq (.reg [⟨some 39,.mov (.t 6),none⟩,⟨some 40,.mov (.t 3),none⟩,⟨some 41,.len (.t 40),none⟩,⟨some 42,.bin .lss (.t 39) (.t 41),none⟩]) (.cond (.t 42) (.skip) (.exit 2))) (.seq (.block 3 (.dreg [false,false,false,false,false,false,false,false,false,false,false,false,false,true,true,true] [false,false,false,false,false,false,false,false,false,false,false,true,false,false,false,false] [⟨some 45,.faddr 1 (.t 4),none⟩,⟨some 46,.load 1 false (.t 45),none⟩,⟨some 47,.load 2 true (.t 1),none⟩,⟨some 48,.mov (.t 3),none⟩,⟨some 49,.mov (.t 5),none⟩,⟨some 50,.iaddr 1 (.t 48) (.t 49),none⟩,⟨some 51,.load 1 false (.t 50),none⟩,⟨some 52,.mov (.t 3),none⟩,⟨some 53,.mov (.t 6),none⟩,⟨some 54,.iaddr 1 (.t 52) (.t 53),none⟩,⟨some 55,.load 1 false (.t 54),none⟩,⟨some 56,.call 58 [.t 47,.t 51,.t 55],none⟩,⟨some 57,.bsl 3 1 1 (.int .i64 0) [(0,.t 56)],none⟩,⟨some 58,.append 3 1 8 (.t 46) (.t 57),none⟩,⟨some 59,.faddr 1 (.t 4),none⟩,⟨none,.store 1 (.t 59) (.t 58),none⟩])) (.reg [⟨some 43,.mov (.t 6),none⟩,⟨some 44,.bin .add (.t 43) (.k (.int .i64 1)),none⟩,⟨some 6,.mov (.t 44),none⟩])))))))) (.reg [⟨some 26,.mov (.t 5),none⟩,⟨some 27,.bin .add (.t 26) (.k (.int .i64 1)),none⟩,⟨some 5,.mov (.t 27),none⟩])))))) (.seq (.reg [⟨some 60,.load 2 true (.t 4),none⟩,⟨none,.store 2 (.t 2) (.t 60),none⟩]) (.ret)))))))⟩
theorem fok_spec_Blur : FOk Try.prog 20 code_spec_Blur := fok Try.func20 (by kernel_rfl)
def blH (f : Nat → Node) (n : Nat) (ys : List Int) : List Blk := .dead :: .dead :: .dead :: .cells [.slref 7 0 n n, .slref 8 0 ys.length ys.length] :: .dead :: .dead :: .dead :: .row true 61 4 (blE f n) :: .row true 3 1 (ys.map encInt) :: blX f n
set_option maxHeartbeats 8000000 in
set_option maxRecDepth 100000 in
theorem ok_BlurH (ns : List Node) (nx : List Int) (hx : szStrc ⟨ns, nx⟩ ≤ 1048576) (hn : ns.length ≤ 10) (h0 : 0 < ns.length) (hs : structB (nvars ⟨ns, nx⟩) ⟨ns, nx⟩ = true) :
    OkH Try.prog 20 [encStrc ⟨ns, nx⟩] [] (.agg [.slref 7 0 (groupsF ⟨ns, nx⟩).length (groupsF ⟨ns, nx⟩).length, .slref 8 0 (nxB ⟨ns, nx⟩ (groupsF ⟨ns, nx⟩) (groupsF ⟨ns, nx⟩).length).length (nxB ⟨ns, nx⟩ (groupsF ⟨ns, nx⟩) (groupsF ⟨ns, nx⟩).length).length])
      (blH (fun i => grpNode ⟨ns, nx⟩ ((groupsF ⟨ns, nx⟩).getD i [])) (groupsF ⟨ns, nx⟩).length (nxB ⟨ns, nx⟩ (groupsF ⟨ns, nx⟩) (groupsF ⟨ns, nx⟩).length)) := by
  have hgk := groups_ok ⟨ns, nx⟩
  obtain ⟨gs, hgsE⟩ : ∃ gs, groupsF ⟨ns, nx⟩ = gs := ⟨_, rfl⟩
  rw [hgsE] at hgk ⊢
  have hS : TabOk Try.prog _ := tab_cons ok_l15Vars (tab_cons ok_sIsStructure (tab_cons ok_l17Groups tab_nil))
  have hne : ¬ ns = [] := by intro e; subst e; simp at h0
  have hf : ∀ i (h : i < gs.length), (fun i => grpNode ⟨ns, nx⟩ (gs.getD i [])) i = grpNode ⟨ns, nx⟩ gs[i] := fun i h => by simp [List.getD_eq_getElem?_getD, h]
  have hxs : ∀ i (h : i < gs.length), nxB ⟨ns, nx⟩ gs (i + 1) = nxB ⟨ns, nx⟩ gs i ++ gs.map (nextG ⟨ns, nx⟩ gs[i]) := fun i h => by
    have e : gs.getD i [] = gs[i] := by simp [List.getD_eq_getElem?_getD, h]
    rw [nxB, e]
  have hxl := nxB_len ⟨ns, nx⟩ gs
  have hx0 : nxB ⟨ns, nx⟩ gs 0 = [] := rfl
  generalize nxB ⟨ns, nx⟩ gs = Y at *
  generalize (fun i => grpNode ⟨ns, nx⟩ (gs.getD i [])) = f at *
  obtain ⟨hgl, hg⟩ := hgk
  simp only at hgl hg
  refine OkH.of_cw fok_spec_Blur ?_
  simp only [code_spec_Blur, frame, List.length_cons, List.length_nil, List.replicate, Nat.reduceSub, Nat.reduceAdd, List.cons_append, List.nil_append]
  refine cw_seq (go_ok hS ?_); simp [List.replicate]
  refine cw_seq (go_ok hS ?_); simp [List.replicate, hne]
  refine cw_seq (go_ok hS ?_); simp [List.replicate, hx, hs]
  refine cw_seq (go_ok hS ?_); simp [List.replicate, hx, hn]
  rw [hgsE]
  refine cw_seq (go_ok hS ?_); simp [List.replicate]
  refine cw_seq (go_ok hS ?_); simp [List.replicate]
  refine cw_round (fun (i : Nat) => ⟨slots 61 [(1, .pbox 0 0), (2, .pbox 3 0), (3, encL 1 (encL 1 encInt) gs), (4, .pbox 6 0), (5, .int .i64 i)], .cells [encL 4 encNode ns, encL 1 encInt nx] :: .nrow :: .nrow :: .cells [.slref 1 0 0 0, .slref 2 0 0 0] :: .nrow :: .nrow :: .cells [.slref 7 0 i i, .slref 8 0 (Y i).length (Y i).length] :: .row true 61 4 (blE f i) :: .row true 3 1 ((Y i).map encInt) :: blX f i⟩)
    (fun i => i ≤ gs.length) (fun i => gs.length - i) 0 (by simp) ?_ ?_
  · rw [hx0]
    refine (weak_row 7 61 4 rfl).trans ((weak_row 8 3 1 rfl).trans (weak_less ?_ ?_))
    · simp [blE, blX]
    · simp [List.replicate]
  rintro N hN i hi
  change i ≤ gs.length at hi
  have hw : IntKind.i64.wrap ((i : Int) + 1) = ((i + 1 : Nat) : Int) := by rw [wrap_i64] <;> omega
  by_cases q : i < gs.length
  case neg =>
    have e : i = gs.length := by omega
    subst e
    refine go_ok tab_nil ?_
    simp [List.replicate]
    refine go_ok tab_nil ?_
    simp [List.replicate]
    refine ⟨⟨slots 61 [(2, .pbox 3 0)], _⟩, weak_less (H' := blH f gs.length (Y gs.length)) (by simp [blH]) (by simp [List.replicate]), ?_⟩
    simp [retH, List.replicate, blH]
  have q2 : ¬ gs.length ≤ i := by omega
  have hel := blE_len f i
  have hXl := blX_len f i
  have hgi := hg gs[i] (List.getElem_mem q)
  have hXs : blX f (i + 1) = blX f i ++ blB (f i) := rfl
  have hEs : blE f (i + 1) = blE f i ++ [aggN blP blQ i (f i)] := rfl
  have hY := hxs i q
  have hyl := hxl i
  have hfi := hf i q
  have hN' := fun st h => hN i (i + 1) st (by show i + 1 ≤ gs.length; omega) (by omega) h
  rw [hXs, hEs, hY, hfi] at hN'
  clear hN hf hxs hxl hx0 hXs hEs hY
  generalize blX f i = X at *
  generalize blE f i = els at *
  generalize Y i = ys at *
  refine cw_seq (go_ok tab_nil ?_)
  simp [List.replicate, q, q2]
  refine cw_seq (cw_block ?_)
  have hT : TabOk Try.prog _ := tab_h (CtN.hok ok_l17Node) tab_nil
  refine cw_weak weak_void ?_
  refine cw_seq (cw_dreg9K hT _ [true, false] [[.void], []] [none, none, none, none, none, none, none, some 1, some 0] [[], [], [], [], [], [], [], [false, true], [true, true]] (by rfl) (one_cons (fun _ => rfl) (one_cons (by simp) one_nil)) (by rfl) ?_)
  simp [List.replicate, q]
  refine ⟨.agg [encL 4 encNode ns, encL 1 encInt nx], fun x x1 => ⟨_, rfl, rfl⟩, _, _, fun x => ⟨⟨⟨ns, nx⟩, gs[i]⟩, by simp, rfl, hx, hgi.1.1, by have h : gs[i].length ≤ ns.length := hgi.1.2; show gs[i].length ≤ _; omega, hgi.2, rfl, rfl⟩, ?_⟩
  have hb1 : (i + 1) * 64 ≤ 140737488355328 := by omega
  simp only []
  generalize hg1 : grpNode ⟨ns, nx⟩ gs[i] = x at *
  have hno : ¬ i + 1 ≤ i := by omega
  have htk : List.take i els = els := List.take_of_length_le (by omega)
  simp [gnR, gnN, AV.stored, hel, hb1, hno, htk, offB, offE, offC, offR, Nat.add_assoc]
  refine cw_seq (go_ok tab_nil ?_)
  simp [List.replicate]
  refine cw_block (cw_round (fun (p : Nat × List Int) => ⟨slots 61 [(1, .pbox 0 0), (2, .pbox 3 0), (3, encL 1 (encL 1 encInt) gs), (4, .pbox 6 0), (5, .int .i64 i), (6, .int .i64 p.1)], .cells [encL 4 encNode ns, encL 1 encInt nx] :: .nrow :: .nrow :: .cells [.slref 1 0 0 0, .slref 2 0 0 0] :: .nrow :: .nrow :: .cells [.slref 7 0 (i + 1) (i + 1), .slref 8 0 p.2.length p.2.length] :: .row true 61 4 (els ++ [.agg [.slref (X.length + 19) 0 x.vars.length x.vars.length, .slref (X.length + 20) 0 x.reach.length x.reach.length, .int .i64 x.shared, .int .i64 x.many]]) :: .row true 3 1 (p.2.map encInt) :: (X ++ blB x)⟩)
    (fun p => p.1 ≤ gs.length ∧ p.2 = ys ++ (gs.take p.1).map (nextG ⟨ns, nx⟩ gs[i])) (fun p => gs.length - p.1) (0, ys) ⟨by simp, by simp⟩ ?_ ?_)
  · exact weak_less (by simp [blB]) (by simp [List.replicate])
  rintro M hM ⟨d, ws⟩ ⟨hd, hws⟩
  change d ≤ gs.length at hd
  change ws = ys ++ (gs.take d).map (nextG ⟨ns, nx⟩ gs[i]) at hws
  have hwd : IntKind.i64.wrap ((d : Int) + 1) = ((d + 1 : Nat) : Int) := by rw [wrap_i64] <;> omega
  have hwl : ws.length = i * gs.length + d := by rw [hws]; simp; omega
  have hig : i * gs.length ≤ 10 * 10 := Nat.mul_le_mul (by omega) (by omega)
  have hbw : (ws.length + 1) * 8 ≤ 140737488355328 := by omega
  by_cases gd : d < gs.length
  · have gd2 : ¬ gs.length ≤ d := by omega
    have htw : ys ++ (gs.take (d + 1)).map (nextG ⟨ns, nx⟩ gs[i]) = ws ++ [nextG ⟨ns, nx⟩ gs[i] gs[d]] := by
      rw [hws, List.take_succ_eq_append_getElem gd, List.map_append, List.append_assoc]; rfl
    have hgd := hg gs[d] (List.getElem_mem gd)
    have l1 : gs[i].length ≤ 1048576 := by have h : gs[i].length ≤ ns.length := hgi.1.2; omega
    have l2 : gs[d].length ≤ 1048576 := by have h : gs[d].length ≤ ns.length := hgd.1.2; omega
    refine go_ok (tab_cons ok_l17Next tab_nil) ?_
    simp [List.replicate, hwd, gd, gd2, hbw, app1, q]
    refine ⟨[encL 4 encNode ns, encL 1 encInt nx], rfl, [encL 4 encNode ns, encL 1 encInt nx], by simp, ⟨⟨ns, nx⟩, gs[i], gs[d]⟩, rfl, rfl, rfl, hx, hgi.1.1, l1, hgd.1.1, l2, ?_⟩
    refine hM (d, ws) (d + 1, ws ++ [nextG ⟨ns, nx⟩ gs[i] gs[d]]) _ ⟨by show d + 1 ≤ gs.length; omega, htw.symm⟩ (by simp; omega) (weak_less ?_ ?_)
    · simp
    · simp [List.replicate]
  · have e : d = gs.length := by omega
    subst e
    rw [List.take_length] at hws
    refine go_ok tab_nil ?_
    simp [List.replicate]
    refine go_ok tab_nil ?_
    simp [List.replicate, hw]
    exact hN' _ (weak_less (by simp [aggN, blP, blQ, hXl, hws]) (by simp [List.replicate, hws]))
set_option maxHeartbeats 2000000 in
theorem ok_BlurU (nx : List Int) : OkH Try.prog 20 [encStrc ⟨[], nx⟩] [] (.agg [.slref 4 0 0 0, .slref 5 0 0 0]) soU := by
  refine OkH.of_cw fok_spec_Blur ?_
  simp only [code_spec_Blur, frame, List.length_cons, List.length_nil, List.replicate, Nat.reduceSub, Nat.reduceAdd, List.cons_append, List.nil_append]
  refine cw_seq (go_ok tab_nil ?_); simp [List.replicate]
  refine cw_seq (go_ok tab_nil ?_); simp [List.replicate]
  refine ⟨⟨slots 61 [(2, .pbox 3 0)], soU⟩, ?_, ?_⟩
  · refine (weak_row 4 61 4 rfl).trans ((weak_row 5 3 1 rfl).trans (weak_less ?_ ?_))
    · simp [soU]
    · simp [List.replicate]
  · simp [retH, soU, List.replicate]
theorem made_Blur (x : Strc) (hx : szStrc x ≤ 1048576) (hn : x.nodes.length ≤ 10) (hs : x.nodes = [] ∨ structB (nvars x) x = true) : ∃ (a c : Nat) (els : List AV) (p q : Nat → Nat) (N : List Blk),
    OkH Try.prog 20 [encStrc x] [] (.agg [.slref a 0 (blurS x).nodes.length (blurS x).nodes.length, .slref c 0 (blurS x).next.length (blurS x).next.length]) N ∧ (∀ k ∈ N, ownB k = true) ∧
    N[a]? = some (.row true 61 4 els) ∧ NIx N els (blurS x).nodes p q ∧ N[c]? = some (.row true 3 1 ((blurS x).next.map encInt)) ∧ ¬ NIx.own (blurS x).nodes.length p q c := by
  obtain ⟨ns, nx⟩ := x
  by_cases h0 : ns = []
  · subst h0
    have hr : blurS ⟨[], nx⟩ = ⟨[], []⟩ := rfl
    rw [hr]
    exact ⟨4, 5, [], fun i => i, fun i => i, soU, ok_BlurU nx, by simp [soU, ownB, ownVL, ownV], rfl, ⟨rfl, by simp, by simp, by simp, by simp, by simp, by simp⟩, rfl, by simp [NIx.own]⟩
  · have ok := ok_BlurH ns nx hx hn (List.length_pos_iff.2 h0) (hs.resolve_left h0)
    have e1 : (blurS ⟨ns, nx⟩).nodes = (List.range (groupsF ⟨ns, nx⟩).length).map fun i => grpNode ⟨ns, nx⟩ ((groupsF ⟨ns, nx⟩).getD i []) := nodes_map _ _
    have e2 : (blurS ⟨ns, nx⟩).next = nxB ⟨ns, nx⟩ (groupsF ⟨ns, nx⟩) (groupsF ⟨ns, nx⟩).length := (nxB_all _ _).symm
    rw [e1, e2]
    generalize nxB ⟨ns, nx⟩ (groupsF ⟨ns, nx⟩) (groupsF ⟨ns, nx⟩).length = ys at *
    generalize (groupsF ⟨ns, nx⟩).length = n at *
    have hfe : (fun i => grpNode ⟨ns, nx⟩ ((groupsF ⟨ns, nx⟩).getD i [])) = (fun i => grpNode ⟨ns, nx⟩ ((groupsF ⟨ns, nx⟩).getD i [])) := rfl
    generalize (fun i => grpNode ⟨ns, nx⟩ ((groupsF ⟨ns, nx⟩).getD i [])) = f at *
    have hnl : ((List.range n).map f).length = n := by simp
    have hget : ∀ i y, ((List.range n).map f)[i]? = some y → i < n ∧ y = f i := by
      intro i y hy
      have hi := (List.getElem?_eq_some_iff.1 hy).1
      rw [hnl] at hi
      refine ⟨hi, ?_⟩
      simp [hi] at hy
      exact hy.symm
    have hX : ∀ j, (blH f n ys)[j + 9]? = (blX f n)[j]? := fun j => rfl
    refine ⟨7, 8, blE f n, blP, blQ, blH f n ys, by simpa only [hnl] using ok, ?_, rfl, ⟨by rw [blE_len, hnl], fun i y hy => ?_, fun i y hy => ?_, fun i y hy => ?_, fun i j _ _ e => by unfold blP at e; omega, fun i j _ _ e => by unfold blQ at e; omega, fun i j _ _ e => by unfold blP blQ at e; omega⟩, rfl, ?_⟩
    · intro k hk
      simp only [blH, List.mem_cons] at hk
      rcases hk with rfl | rfl | rfl | rfl | rfl | rfl | rfl | rfl | rfl | hk
      · rfl
      · rfl
      · rfl
      · rfl
      · rfl
      · rfl
      · rfl
      · rw [ownB, ownVL_all, List.all_eq_true]; exact blE_own f n
      · simp [ownB]
      · exact blX_own f n k hk
    · obtain ⟨hi, rfl⟩ := hget i y hy
      rw [blE_get f hi]; rfl
    · obtain ⟨hi, rfl⟩ := hget i y hy
      rw [show blP i = (12 * i + 10) + 9 from rfl, hX, blX_get f hi 10 (by omega)]; rfl
    · obtain ⟨hi, rfl⟩ := hget i y hy
      rw [show blQ i = (12 * i + 11) + 9 from rfl, hX, blX_get f hi 11 (by omega)]; rfl
    · rintro ⟨i, _, e | e⟩
      · unfold blP at e; omega
      · unfold blQ at e; omega
end Go.Vm
