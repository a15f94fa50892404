/- PredicateAt. No condition. -/
import Derived.Test.YtfelkhckpfjgjaaTCP
import Derived.Test.YtfelkhckpfjgjaaTTR
set_option linter.unusedSimpArgs false
set_option linter.unusedVariables false
namespace Go.Vm
open Go.Proofs
def code_spec_PredicateAt : F := ⟨58,[.tmp 6],.seq (.reg [⟨some 3,.box (.t 0),none⟩,⟨some 6,.mov (.k (.int .i64 0)),none⟩]) (.seq (.reg [⟨some 8,.load 2 true (.t 3),none⟩,⟨some 9,.call 54 [.t 8],none⟩,⟨some 7,.mov (.t 9),none⟩]) (.seq (.seq (.reg [⟨some 10,.mov (.t 2),none⟩,⟨some 11,.faddr 0 (.t 3),none⟩,⟨some 12,.load 1 false (.t 11),none⟩,⟨some 13,.len (.t 12),none⟩,⟨some 14,.bin .sub (.t 13) (.k (.int .i64 1)),none⟩,⟨some 15,.call 48 [.t 10,(.k (.int .i64 0)),.t 14],none⟩,⟨some 16,.not (.t 15),none⟩]) (.cond (.t 16) (.seq (.reg [⟨some 6,.mov (.k (.int .i64 1)),none⟩]) (.ret)) (.skip))) (.seq (.block 0 (.seq (.reg [⟨some 18,.mov (.t 1),none⟩,⟨some 19,.mov (.t 7),none⟩,⟨some 20,.bin .sub (.t 19) (.k (.int .i64 1)),none⟩,⟨some 21,.call 48 [.t 18,(.k (.int .i64 0)),.t 20],none⟩,⟨some 17,.mov (.t 21),none⟩]) (.cond (.t 17) (.seq (.reg [⟨some 22,.faddr 0 (.t 3),none⟩,⟨some 23,.load 1 false (.t 22),none⟩,⟨some 24,.mov (.t 2),none⟩,⟨some 25,.iaddr 4 (.t 23) (.t 24),none⟩,⟨some 26,.faddr 0 (.t 25),none⟩,⟨some 27,.load 1 false (.t 26),none⟩,⟨some 28,.mov (.t 1),none⟩,⟨some 29,.call 112 [.t 27,.t 28],none⟩,⟨some 6,.mov (.t 29),none⟩]) (.ret)) (.seq (.reg [⟨some 31,.mov (.t 1),none⟩,⟨some 32,.mov (.t 7),none⟩,⟨some 33,.mov (.t 7),none⟩,⟨some 34,.bin .mul (.k (.int .i64 2)) (.t 33),none⟩,⟨some 35,.bin .sub (.t 34) (.k (.int .i64 1)),none⟩,⟨some 36,.call 48 [.t 31,.t 32,.t 35],none⟩,⟨some 30,.mov (.t 36),none⟩]) (.cond (.t 30) (.seq (.reg [⟨some 37,.faddr 0 (.t 3),none⟩,⟨some 38,.load 1 false (.t 37),none⟩,⟨some 39,.mov (.t 2),none⟩,⟨some 40,.iaddr 4 (.t 38) (.t 39),none⟩,⟨some 41,.faddr 1 (.t 40),none⟩,⟨some 42,.load 1 false (.t 41),none⟩,⟨some 43,.mov (.t 1),none⟩,⟨some 44,.mov (.t 7),none⟩,⟨some 45,.bin .sub (.t 43) (.t 44),none⟩,⟨some 46,.call 112 [.t 42,.t 45],none⟩,⟨some 6,.mov (.t 46),none⟩]) (.ret)) (.seq (.reg [⟨some 48,.mov (.t 1),none⟩,⟨some 49,.mov (.t 7),none⟩,⟨some 50,.bin .mul (.k (.int .i64 2)) (.t 49),none⟩,⟨some 51,.bin .eql (.t 48) (.t 50),none⟩,⟨some 47,.mov (.t 51),none⟩]) (.cond (.t 47) (.seq (.reg [⟨some 52,.faddr 0 (.t 3),none⟩,⟨some 53,.load 1 false (.t 52),none⟩,⟨some 54,.mov (.t 2),none⟩,⟨some 55,.iaddr 4 (.t 53) (.t 54),none⟩,⟨some 56,.faddr 2 (.t 55),none⟩,⟨some 57,.load 1 false (.t 56),none⟩,⟨some 6,.mov (.t 57),none⟩]) (.ret)) (.skip)))))))) (.seq (.reg [⟨some 6,.mov (.k (.int .i64 1)),none⟩]) (.ret)))))⟩
theorem fok_spec_PredicateAt : FOk Try.prog 125 code_spec_PredicateAt := fok Try.func125 (by kernel_rfl)
def predAt (x : Strc) (k i : Int) : Int :=
  if 0 ≤ i ∧ i ≤ (x.nodes.length : Int) - 1 then
    if 0 ≤ k ∧ k ≤ (nvars x : Int) - 1 then at1 (x.nodes.getD i.toNat default).vars k
    else if (nvars x : Int) ≤ k ∧ k ≤ 2 * (nvars x : Int) - 1 then at1 (x.nodes.getD i.toNat default).reach (k - nvars x)
    else if k = 2 * (nvars x : Int) then (x.nodes.getD i.toNat default).shared else 1
  else 1
theorem nvars_le (x : Strc) : nvars x ≤ szStrc x := by
  unfold nvars szStrc szNodes
  cases x.nodes with
  | nil => simp
  | cons n a => simp [szNode]; omega
@[simp] def ct_spec_PredicateAt : Ct := ⟨125, Strc × Int × Int, fun x => szStrc x.1 ≤ 1048576, fun x => [encStrc x.1, .int .i64 x.2.1, .int .i64 x.2.2], fun x => .int .i64 (predAt x.1 x.2.1 x.2.2)⟩
theorem ok_spec_PredicateAt : ct_spec_PredicateAt.Ok Try.prog := by
  rintro ⟨x, k, i⟩ hx
  change szStrc x ≤ 1048576 at hx
  refine Ok.of_cw fok_spec_PredicateAt (go_ok (tab_cons ok_l15Vars (tab_cons ok_l1In (tab_cons ok_l13At tab_nil))) ?_)
  have hn := nvars_le x
  have hN : x.nodes.length ≤ szStrc x := by unfold szStrc szNodes; omega
  have w0 : IntKind.i64.wrap ((x.nodes.length : Int) - 1) = (x.nodes.length : Int) - 1 := by rw [wrap_i64] <;> omega
  have w1 : IntKind.i64.wrap ((nvars x : Int) - 1) = (nvars x : Int) - 1 := by rw [wrap_i64] <;> omega
  have w2 : IntKind.i64.wrap (2 * (nvars x : Int)) = 2 * (nvars x : Int) := by rw [wrap_i64] <;> omega
  have w3 : IntKind.i64.wrap (2 * (nvars x : Int) - 1) = 2 * (nvars x : Int) - 1 := by rw [wrap_i64] <;> omega
  have w4 : (nvars x : Int) ≤ k → k ≤ 2 * (nvars x : Int) - 1 → IntKind.i64.wrap (k - nvars x) = k - nvars x := fun _ _ => by rw [wrap_i64] <;> omega
  simp [code_spec_PredicateAt, List.replicate, w0, w1, w2, w3]
  by_cases c : 0 ≤ i ∧ i ≤ (x.nodes.length : Int) - 1
  · obtain ⟨n, hg⟩ : ∃ n, x.nodes[i.toNat]? = some n := ⟨_, List.getElem?_eq_getElem (by omega)⟩
    have hm := node_le (List.mem_of_getElem? hg)
    simp [c, hg, predAt, List.getD_eq_getElem?_getD]
    grind
  · simp [predAt, c]
    grind
end Go.Vm
namespace Go.Vm
open Go.Proofs
def code_spec_NodeName : F := ⟨30,[.tmp 4],.seq (.reg [⟨some 2,.box (.t 0),none⟩,⟨some 4,.mov (.k (.str [])),none⟩]) (.seq (.seq (.reg [⟨some 8,.mov (.t 1),none⟩,⟨some 9,.faddr 0 (.t 2),none⟩,⟨some 10,.load 1 false (.t 9),none⟩,⟨some 11,.len (.t 10),none⟩,⟨some 12,.bin .sub (.t 11) (.k (.int .i64 1)),none⟩,⟨some 13,.call 48 [.t 8,(.k (.int .i64 0)),.t 12],none⟩,⟨some 14,.not (.t 13),none⟩]) (.cond (.t 14) (.seq (.reg [⟨some 4,.mov (.k (.str [])),none⟩]) (.ret)) (.skip))) (.seq (.reg [⟨some 5,.mov (.k (.str [])),none⟩]) (.seq (.reg [⟨some 15,.load 2 true (.t 2),none⟩,⟨some 16,.call 123 [.t 15],none⟩,⟨some 6,.mov (.t 16),none⟩]) (.seq (.seq (.reg [⟨some 7,.mov (.k (.int .i64 0)),none⟩]) (.block 0 (.loop (.seq (.seq (.reg [⟨some 17,.mov (.t 7),none⟩,⟨some 18,.mov (.t 6),none⟩,⟨some 19,.bin .lss (.t 17) (.t 18),none⟩]) (.cond (.t 19) (.skip) (.exit 0))) (.seq (.block 1 (.reg [⟨some 22,.mov (.t 5),none⟩,⟨some 23,.load 2 true (.t 2),none⟩,⟨some 24,.mov (.t 7),none⟩,⟨some 25,.mov (.t 1),none⟩,⟨some 26,.call 125 [.t 23,.t 24,.t 25],none⟩,⟨some 27,.call 124 [.t 26],none⟩,⟨some 28,.bin .add (.t 22) (.t 27),none⟩,⟨some 5,.mov (.t 28),none⟩])) (.reg [⟨some 20,.mov (.t 7),none⟩,⟨some 21,.bin .add (.t 20) (.k (.int .i64 1)),none⟩,⟨some 7,.mov (.t 21),none⟩])))))) (.seq (.reg [⟨some 29,.mov (.t 5),none⟩,⟨some 4,.mov (.t 29),none⟩]) (.ret))))))⟩
theorem fok_spec_NodeName : FOk Try.prog 105 code_spec_NodeName := fok Try.func105 (by kernel_rfl)
def nameTo (x : Strc) (i : Int) (k : Nat) : List UInt8 := (List.range k).flatMap fun (j : Nat) => truthText (predAt x j i)
theorem nameTo_succ (x : Strc) (i : Int) (k : Nat) : nameTo x i (k + 1) = nameTo x i k ++ truthText (predAt x k i) := by
  simp [nameTo, List.range_succ, List.flatMap_append]
theorem nameTo_len (x : Strc) (i : Int) : ∀ k, (nameTo x i k).length ≤ k
  | 0 => by simp [nameTo]
  | k + 1 => by
    rw [nameTo_succ, List.length_append]
    have := nameTo_len x i k
    have := truthText_len (predAt x k i)
    omega
def nodeName (x : Strc) (i : Int) : List UInt8 := if 0 ≤ i ∧ i ≤ (x.nodes.length : Int) - 1 then nameTo x i (2 * nvars x + 1) else []
theorem cntP_eq {x : Strc} (h : szStrc x ≤ 1048576) (h0 : x.nodes ≠ []) : cntP x = ((2 * nvars x + 1 : Nat) : Int) := by
  have hn := nvars_le x
  unfold cntP
  rw [if_neg h0]
  rw [wrap_i64, wrap_i64] <;> (try rw [wrap_i64]) <;> omega
@[simp] def ct_sNodeName : Ct := ⟨105, Strc × Int, fun x => szStrc x.1 ≤ 1048576, fun x => [encStrc x.1, .int .i64 x.2], fun x => .str (nodeName x.1 x.2)⟩
set_option maxHeartbeats 1000000 in
theorem ok_sNodeName : ct_sNodeName.Ok Try.prog := by
  rintro ⟨x, i⟩ hx
  change szStrc x ≤ 1048576 at hx
  have hs := strc_le x
  have hn := nvars_le x
  have w0 : IntKind.i64.wrap ((x.nodes.length : Int) - 1) = (x.nodes.length : Int) - 1 := by rw [wrap_i64] <;> omega
  refine Ok.of_cw fok_spec_NodeName (go_ok (tab_cons ok_l1In (tab_cons ok_spec_Count tab_nil)) ?_)
  by_cases c : 0 ≤ i ∧ i ≤ (x.nodes.length : Int) - 1
  case neg =>
    simp [code_spec_NodeName, List.replicate, w0, nodeName, c]
    exact fun a b => absurd ⟨a, b⟩ c
  have hne : x.nodes ≠ [] := by intro e; rw [e] at c; simp at c; omega
  have hc := cntP_eq hx hne
  have h3 : ¬ ((x.nodes.length : Int) - 1 < i) := by omega
  simp [code_spec_NodeName, List.replicate, w0, nodeName, c.1, c.2, h3, hc]
  refine cw_round (fun (k : Nat) => ⟨slots 30 [(1, .int .i64 i), (2, .pbox 0 0), (5, .str (nameTo x i k)), (6, .int .i64 (2 * (nvars x : Int) + 1)), (7, .int .i64 k)], [.cells [encL 4 encNode x.nodes, encL 1 encInt x.next]]⟩)
    (fun k => k ≤ 2 * nvars x + 1) (fun k => 2 * nvars x + 1 - k) 0 (by omega) ?_ ?_
  · exact weak_seal 1 (by omega) (by simp) (by simp [List.replicate, nameTo])
  · rintro N hN k hk
    have hw : IntKind.i64.wrap ((k : Int) + 1) = ((k + 1 : Nat) : Int) := by rw [wrap_i64] <;> omega
    have hl := nameTo_len x i k
    have hl2 := truthText_len (predAt x k i)
    refine go_ok (tab_cons ok_spec_PredicateAt (tab_cons ok_sTruthText tab_nil)) ?_
    by_cases h : k < 2 * nvars x + 1
    · have h1 : (k : Int) < 2 * (nvars x : Int) + 1 := by omega
      have h2 : ¬ (2 * (nvars x : Int) + 1 ≤ k) := by omega
      simp [List.replicate, hw, h1, h2, hx]
      refine ⟨by omega, hN k (k + 1) _ (by omega) (by omega) (weak_seal 1 (by omega) ?_ ?_)⟩
      · simp
      · simp [List.replicate, nameTo_succ]
    · have e : k = 2 * nvars x + 1 := by omega
      subst e
      simp [List.replicate]
end Go.Vm
