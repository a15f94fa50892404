/- CountPredicates. No condition. -/
import Derived.Test.YtfelkhckpfjgjaaTG
import Derived.Test.YtfelkhckpfjgjaaTTR
set_option linter.unusedSimpArgs false
set_option linter.unusedVariables false
namespace Go.Vm
open Go.Proofs
def code_spec_l15Vars : F := ⟨13,[.tmp 2],.seq (.reg [⟨some 1,.box (.t 0),none⟩,⟨some 2,.mov (.k (.int .i64 0)),none⟩]) (.seq (.seq (.reg [⟨some 3,.faddr 0 (.t 1),none⟩,⟨some 4,.load 1 false (.t 3),none⟩,⟨some 5,.len (.t 4),none⟩,⟨some 6,.bin .eql (.t 5) (.k (.int .i64 0)),none⟩]) (.cond (.t 6) (.seq (.reg [⟨some 2,.mov (.k (.int .i64 0)),none⟩]) (.ret)) (.skip))) (.seq (.reg [⟨some 7,.faddr 0 (.t 1),none⟩,⟨some 8,.load 1 false (.t 7),none⟩,⟨some 9,.iaddr 4 (.t 8) (.k (.int .i64 0)),none⟩,⟨some 10,.faddr 0 (.t 9),none⟩,⟨some 11,.load 1 false (.t 10),none⟩,⟨some 12,.len (.t 11),none⟩,⟨some 2,.mov (.t 12),none⟩]) (.ret)))⟩
theorem fok_spec_l15Vars : FOk Try.prog 54 code_spec_l15Vars := fok Try.func54 (by kernel_rfl)
def code_spec_CountPredicates : F := ⟨11,[.tmp 2],.seq (.reg [⟨some 1,.box (.t 0),none⟩,⟨some 2,.mov (.k (.int .i64 0)),none⟩]) (.seq (.seq (.reg [⟨some 3,.faddr 0 (.t 1),none⟩,⟨some 4,.load 1 false (.t 3),none⟩,⟨some 5,.len (.t 4),none⟩,⟨some 6,.bin .eql (.t 5) (.k (.int .i64 0)),none⟩]) (.cond (.t 6) (.seq (.reg [⟨some 2,.mov (.k (.int .i64 0)),none⟩]) (.ret)) (.skip))) (.seq (.reg [⟨some 7,.load 2 true (.t 1),none⟩,⟨some 8,.call 54 [.t 7],none⟩,⟨some 9,.bin .mul (.k (.int .i64 2)) (.t 8),none⟩,⟨some 10,.bin .add (.t 9) (.k (.int .i64 1)),none⟩,⟨some 2,.mov (.t 10),none⟩]) (.ret)))⟩
theorem fok_spec_CountPredicates : FOk Try.prog 123 code_spec_CountPredicates := fok Try.func123 (by kernel_rfl)
def nvars (x : Strc) : Nat := match x.nodes with | [] => 0 | n :: _ => n.vars.length
@[simp] def ct_l15Vars : Ct := ⟨54, Strc, fun _ => True, fun x => [encStrc x], fun x => .int .i64 (nvars x)⟩
theorem ok_l15Vars : ct_l15Vars.Ok Try.prog := by
  rintro ⟨a, b⟩ -
  refine Ok.of_cw fok_spec_l15Vars (go_ok tab_nil ?_)
  cases a with
  | nil => simp [code_spec_l15Vars, List.replicate, nvars]
  | cons n a => simp [code_spec_l15Vars, List.replicate, nvars]; omega
def cntP (x : Strc) : Int := if x.nodes = [] then 0 else IntKind.i64.wrap (IntKind.i64.wrap (2 * (nvars x : Int)) + 1)
@[simp] def ct_spec_Count : Ct := ⟨123, Strc, fun _ => True, fun x => [encStrc x], fun x => .int .i64 (cntP x)⟩
theorem ok_spec_Count : ct_spec_Count.Ok Try.prog := by
  rintro ⟨a, b⟩ -
  refine Ok.of_cw fok_spec_CountPredicates (go_ok (tab_cons ok_l15Vars tab_nil) ?_)
  simp [code_spec_CountPredicates, List.replicate, cntP]
  exact ⟨fun h k => absurd h k, fun h k => absurd k h⟩
end Go.Vm
namespace Go.Vm
open Go.Proofs
def code_spec_PredicateAt : F := ⟨58,[.tmp 6],.seq (.reg [⟨some 3,.box (.t 0),none⟩,⟨some 6,.mov (.k (.int .i64 0)),none⟩]) (.seq (.reg [⟨some 8,.load 2 true (.t 3),none⟩,⟨some 9,.call 54 [.t 8],none⟩,⟨some 7,.mov (.t 9),none⟩]) (.seq (.seq (.reg [⟨some 10,.mov (.t 2),none⟩,⟨some 11,.faddr 0 (.t 3),none⟩,⟨some 12,.load 1 false (.t 11),none⟩,⟨some 13,.len (.t 12),none⟩,⟨some 14,.bin .sub (.t 13) (.k (.int .i64 1)),none⟩,⟨some 15,.call 48 [.t 10,(.k (.int .i64 0)),.t 14],none⟩,⟨some 16,.not (.t 15),none⟩]) (.cond (.t 16) (.seq (.reg [⟨some 6,.mov (.k (.int .i64 1)),none⟩]) (.ret)) (.skip))) (.seq (.block 0 (.seq (.reg [⟨some 18,.mov (.t 1),none⟩,⟨some 19,.mov (.t 7),none⟩,⟨some 20,.bin .sub (.t 19) (.k (.int .i64 1)),none⟩,⟨some 21,.call 48 [.t 18,(.k (.int .i64 0)),.t 20],none⟩,⟨some 17,.mov (.t 21),none⟩]) (.cond (.t 17) (.seq (.reg [⟨some 22,.faddr 0 (.t 3),none⟩,⟨some 23,.load 1 false (.t 22),none⟩,⟨some 24,.mov (.t 2),none⟩,⟨some 25,.iaddr 4 (.t 23) (.t 24),none⟩,⟨some 26,.faddr 0 (.t 25),none⟩,⟨some 27,.load 1 false (.t 26),none⟩,⟨some 28,.mov (.t 1),none⟩,⟨some 29,.call 112 [.t 27,.t 28],none⟩,⟨some 6,.mov (.t 29),none⟩]) (.ret)) (.seq (.reg [⟨some 31,.mov (.t 1),none⟩,⟨some 32,.mov (.t 7),none⟩,⟨some 33,.mov (.t 7),none⟩,⟨some 34,.bin .mul (.k (.int .i64 2)) (.t 33),none⟩,⟨some 35,.bin .sub (.t 34) (.k (.int .i64 1)),none⟩,⟨some 36,.call 48 [.t 31,.t 32,.t 35],none⟩,⟨some 30,.mov (.t 36),none⟩]) (.cond (.t 30) (.seq (.reg [⟨some 37,.faddr 0 (.t 3),none⟩,⟨some 38,.load 1 false (.t 37),none⟩,⟨some 39,.mov (.t 2),none⟩,⟨some 40,.iaddr 4 (.t 38) (.t 39),none⟩,⟨some 41,.faddr 1 (.t 40),none⟩,⟨some 42,.load 1 false (.t 41),none⟩,⟨some 43,.mov (.t 1),none⟩,⟨some 44,.mov (.t 7),none⟩,⟨some 45,.bin .sub (.t 43) (.t 44),none⟩,⟨some 46,.call 112 [.t 42,.t 45],none⟩,⟨some 6,.mov (.t 46),none⟩]) (.ret)) (.seq (.reg [⟨some 48,.mov (.t 1),none⟩,⟨some 49,.mov (.t 7),none⟩,⟨some 50,.bin .mul (.k (.int .i64 2)) (.t 49),none⟩,⟨some 51,.bin .eql (.t 48) (.t 50),none⟩,⟨some 47,.mov (.t 51),none⟩]) (.cond (.t 47) (.seq (.reg [⟨some 52,.faddr 0 (.t 3),none⟩,⟨some 53,.load 1 false (.t 52),none⟩,⟨some 54,.mov (.t 2),none⟩,⟨some 55,.iaddr 4 (.t 53) (.t 54),none⟩,⟨some 56,.faddr 2 (.t 55),none⟩,⟨some 57,.load 1 false (.t 56),none⟩,⟨some 6,.mov (.t 57),none⟩]) (.ret)) (.skip)))))))) (.seq (.reg [⟨some 6,.mov (.k (.int .i64 1)),none⟩]) (.ret)))))⟩
theorem fok_spec_PredicateAt : FOk Try.prog 125 code_spec_PredicateAt := fok Try.func125 (by kernel_rfl)
def predAt (x : Strc) (k i : Int) : Int :=
  if 0 ≤ i ∧ i ≤ (x.nodes.length : Int) - 1 then
    if 0 ≤ k ∧ k ≤ (nvars x : Int) - 1 then at1 (x.nodes.getD i.toNat default).vars k
    else if (nvars x : Int) ≤ k ∧ k ≤ 2 * (nvars x : Int) - 1 then at1 (x.nodes.getD i.toNat default).reach (k - nvars x)
    else if k = 2 * (nvars x : Int) then (x.nodes.getD i.toNat default).shared else 1
  else 1
theorem nvars_le (x : Strc) : nvars x ≤ szStrc x := by
  unfold nvars szStrc szNodes
  cases x.nodes with
  | nil => simp
  | cons n a => simp [szNode]; omega
@[simp] def ct_spec_PredicateAt : Ct := ⟨125, Strc × Int × Int, fun x => szStrc x.1 ≤ 1048576, fun x => [encStrc x.1, .int .i64 x.2.1, .int .i64 x.2.2], fun x => .int .i64 (predAt x.1 x.2.1 x.2.2)⟩
theorem ok_spec_PredicateAt : ct_spec_PredicateAt.Ok Try.prog := by
  rintro ⟨x, k, i⟩ hx
  change szStrc x ≤ 1048576 at hx
  refine Ok.of_cw fok_spec_PredicateAt (go_ok (tab_cons ok_l15Vars (tab_cons ok_l1In (tab_cons ok_l13At tab_nil))) ?_)
  have hn := nvars_le x
  have hN : x.nodes.length ≤ szStrc x := by unfold szStrc szNodes; omega
  have w0 : IntKind.i64.wrap ((x.nodes.length : Int) - 1) = (x.nodes.length : Int) - 1 := by rw [wrap_i64] <;> omega
  have w1 : IntKind.i64.wrap ((nvars x : Int) - 1) = (nvars x : Int) - 1 := by rw [wrap_i64] <;> omega
  have w2 : IntKind.i64.wrap (2 * (nvars x : Int)) = 2 * (nvars x : Int) := by rw [wrap_i64] <;> omega
  have w3 : IntKind.i64.wrap (2 * (nvars x : Int) - 1) = 2 * (nvars x : Int) - 1 := by rw [wrap_i64] <;> omega
  have w4 : (nvars x : Int) ≤ k → k ≤ 2 * (nvars x : Int) - 1 → IntKind.i64.wrap (k - nvars x) = k - nvars x := fun _ _ => by rw [wrap_i64] <;> omega
  simp [code_spec_PredicateAt, List.replicate, w0, w1, w2, w3]
  by_cases c : 0 ≤ i ∧ i ≤ (x.nodes.length : Int) - 1
  · obtain ⟨n, hg⟩ : ∃ n, x.nodes[i.toNat]? = some n := ⟨_, List.getElem?_eq_getElem (by omega)⟩
    have hm := node_le (List.mem_of_getElem? hg)
    simp [c, hg, predAt, List.getD_eq_getElem?_getD]
    grind
  · simp [predAt, c]
    grind
end Go.Vm
