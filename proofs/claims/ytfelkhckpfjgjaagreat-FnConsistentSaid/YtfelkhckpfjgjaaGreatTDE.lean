/- Searching the nodes by a test. No condition. -/
import Derived.Test.YtfelkhckpfjgjaaGreatTG
import Derived.Test.YtfelkhckpfjgjaaGreatTSL
set_option linter.unusedSimpArgs false
set_option linter.unusedVariables false
namespace Go.Vm
open Go.Proofs
def code_slices_IndexFunc_impl_Node_impl_Node : F := ⟨19,[.tmp 4],.seq (.reg [⟨some 4,.mov (.k (.int .i64 0)),none⟩]) (.seq (.seq (.reg [⟨some 6,.mov (.t 0),none⟩,⟨some 7,.len (.t 6),none⟩,⟨some 8,.mov (.k (.int .i64 0)),none⟩]) (.block 0 (.loop (.seq (.reg [⟨some 9,.bin .lss (.t 8) (.t 7),none⟩]) (.seq (.cond (.t 9) (.skip) (.exit 0)) (.seq (.block 1 (.seq (.reg [⟨some 10,.mov (.t 8),none⟩,⟨some 5,.mov (.t 10),none⟩]) (.seq (.reg [⟨some 11,.mov (.t 1),none⟩,⟨some 12,.mov (.t 0),none⟩,⟨some 13,.mov (.t 5),none⟩,⟨some 14,.iaddr 4 (.t 12) (.t 13),none⟩,⟨some 15,.load 4 true (.t 14),none⟩,⟨some 16,.callv (.t 11) [.t 15],none⟩]) (.cond (.t 16) (.seq (.reg [⟨some 17,.mov (.t 5),none⟩,⟨some 4,.mov (.t 17),none⟩]) (.ret)) (.skip))))) (.reg [⟨some 18,.bin .add (.t 8) (.k (.int .i64 1)),none⟩,⟨some 8,.mov (.t 18),none⟩]))))))) (.seq (.reg [⟨some 4,.mov (.k (.int .i64 (-1))),none⟩]) (.ret)))⟩
theorem fok_slices_IndexFunc_impl_Node_impl_Node : FOk Tryz.prog 46 code_slices_IndexFunc_impl_Node_impl_Node := fok Tryz.func46 (by kernel_rfl)
@[simp] def ct_IndexFuncN : Ct := ⟨46, List Node × Nat × List AV × (Node → Bool), fun x => callable Tryz.prog x.2.1 = true ∧ ((∀ m H, lendCs m H 19 x.2.2.1 = some x.2.2.1) ∧ ∀ m H, lendAll m H x.2.2.1 = some x.2.2.1) ∧ ∀ a ∈ x.1, Ok Tryz.prog x.2.1 (encNode a :: x.2.2.1) (.bool (x.2.2.2 a)), fun x => [encL 4 encNode x.1, .fn x.2.1 x.2.2.1], fun x => .int .i64 (findI x.2.2.2 x.1)⟩
theorem ok_IndexFuncN : ct_IndexFuncN.Ok Tryz.prog := by
  rintro ⟨xs, f, caps, p⟩ ⟨hc, ⟨hlend, hlendA⟩, hok⟩
  change callable Tryz.prog f = true at hc
  change ∀ m H, lendCs m H 19 caps = some caps at hlend
  change ∀ m H, lendAll m H caps = some caps at hlendA
  change ∀ a ∈ xs, Ok Tryz.prog f (encNode a :: caps) (.bool (p a)) at hok
  refine Ok.lens fun hl => Ok.of_cw fok_slices_IndexFunc_impl_Node_impl_Node (go_ok tab_nil ?_)
  have hl : lensOkL [encL 4 encNode xs, .fn f caps] := hl
  rw [lensOkL_cons, lensOk_encL] at hl
  have hl := hl.1.1
  simp [code_slices_IndexFunc_impl_Node_impl_Node, List.replicate]
  refine cw_round (fun (i : Nat) => ⟨slots 19 [(0, encL 4 encNode xs), (1, .fn f caps), (7, .int .i64 xs.length), (8, .int .i64 i)], []⟩)
    (fun i => i ≤ xs.length ∧ noHit p xs i) (fun i => xs.length - i) 0 ⟨by omega, noHit_zero⟩ ?_ ?_
  · refine weak_seal 0 (by omega) (by simp) ?_
    simp [List.replicate, hlend]
  · rintro N hN i ⟨hi, hn⟩
    have hw : i < xs.length → IntKind.i64.wrap ((i : Int) + 1) = ((i + 1 : Nat) : Int) := fun h => by rw [wrap_i64] <;> omega
    refine go_ok (tab_cons (c := ⟨f, {a // a ∈ xs}, fun _ => True, fun a => encNode a.1 :: caps, fun a => .bool (p a.1)⟩) (fun a _ => hok a.1 a.2) tab_nil) ?_
    by_cases h : i < xs.length
    · simp [List.replicate, hw, h, hc, hlend, hlendA]
      refine ⟨fun e => ?_, fun e => ?_⟩
      · rw [findI_hit hn h e]
      · refine hN _ (i + 1) _ ⟨by omega, noHit_succ hn h e⟩ (by omega) (weak_seal 0 (by omega) ?_ ?_)
        · simp
        · simp [List.replicate, hlend]
    · simp [List.replicate, h]
      rw [findI_none hn (by omega)]
end Go.Vm
namespace Go.Vm
open Go.Proofs
def code_impl_IsDefinite_1 : F := ⟨21,[.tmp 2],.seq (.reg [⟨some 1,.box (.t 0),none⟩,⟨some 2,.mov (.k (.bool false)),none⟩]) (.seq (.reg [⟨some 3,.faddr 2 (.t 1),none⟩,⟨some 4,.load 1 false (.t 3),none⟩,⟨some 5,.bin .eql (.t 4) (.k (.int .i64 1)),none⟩,⟨some 6,.mov (.t 5),none⟩,⟨some 7,.faddr 3 (.t 1),some (6,false)⟩,⟨some 8,.load 1 false (.t 7),some (6,false)⟩,⟨some 9,.bin .eql (.t 8) (.k (.int .i64 1)),some (6,false)⟩,⟨some 10,.pick (.t 6) (.k (.bool true)) (.t 9),none⟩,⟨some 11,.mov (.t 10),none⟩,⟨some 12,.faddr 0 (.t 1),some (11,false)⟩,⟨some 13,.load 1 false (.t 12),some (11,false)⟩,⟨some 14,.call 38 [.t 13,(.k (.int .i64 1))],some (11,false)⟩,⟨some 15,.pick (.t 11) (.k (.bool true)) (.t 14),none⟩,⟨some 16,.mov (.t 15),none⟩,⟨some 17,.faddr 1 (.t 1),some (16,false)⟩,⟨some 18,.load 1 false (.t 17),some (16,false)⟩,⟨some 19,.call 38 [.t 18,(.k (.int .i64 1))],some (16,false)⟩,⟨some 20,.pick (.t 16) (.k (.bool true)) (.t 19),none⟩,⟨some 2,.mov (.t 20),none⟩]) (.ret))⟩
theorem fok_impl_IsDefinite_1 : FOk Tryz.prog 102 code_impl_IsDefinite_1 := fok Tryz.func102 (by kernel_rfl)
def code_slices_ContainsFunc_impl_Node_impl_Node : F := ⟨9,[.tmp 4],.seq (.reg [⟨some 4,.mov (.k (.bool false)),none⟩]) (.seq (.reg [⟨some 5,.mov (.t 0),none⟩,⟨some 6,.mov (.t 1),none⟩,⟨some 7,.call 46 [.t 5,.t 6],none⟩,⟨some 8,.bin .geq (.t 7) (.k (.int .i64 0)),none⟩,⟨some 4,.mov (.t 8),none⟩]) (.ret))⟩
theorem fok_slices_ContainsFunc_impl_Node_impl_Node : FOk Tryz.prog 99 code_slices_ContainsFunc_impl_Node_impl_Node := fok Tryz.func99 (by kernel_rfl)
def code_impl_IsDefinite : F := ⟨10,[.tmp 2],.seq (.reg [⟨some 1,.box (.t 0),none⟩,⟨some 2,.mov (.k (.bool false)),none⟩]) (.seq (.seq (.reg [⟨some 3,.faddr 1 (.t 1),none⟩,⟨some 4,.load 1 false (.t 3),none⟩,⟨some 5,.call 38 [.t 4,(.k (.int .i64 1))],none⟩]) (.cond (.t 5) (.seq (.reg [⟨some 2,.mov (.k (.bool false)),none⟩]) (.ret)) (.skip))) (.seq (.reg [⟨some 6,.faddr 0 (.t 1),none⟩,⟨some 7,.load 1 false (.t 6),none⟩,⟨some 8,.call 99 [.t 7,(.k (.fn 102 []))],none⟩,⟨some 9,.not (.t 8),none⟩,⟨some 2,.mov (.t 9),none⟩]) (.ret)))⟩
theorem fok_impl_IsDefinite : FOk Tryz.prog 45 code_impl_IsDefinite := fok Tryz.func45 (by kernel_rfl)
def code_spec_IsDefinite : F := ⟨39,[.tmp 2],.seq (.reg [⟨some 1,.box (.t 0),none⟩,⟨some 2,.mov (.k (.bool false)),none⟩]) (.seq (.seq (.reg [⟨some 3,.mov (.k (.int .i64 0)),none⟩]) (.block 0 (.loop (.seq (.seq (.reg [⟨some 5,.mov (.t 3),none⟩,⟨some 6,.faddr 0 (.t 1),none⟩,⟨some 7,.load 1 false (.t 6),none⟩,⟨some 8,.len (.t 7),none⟩,⟨some 9,.bin .lss (.t 5) (.t 8),none⟩]) (.cond (.t 9) (.skip) (.exit 0))) (.seq (.block 1 (.seq (.reg [⟨some 12,.faddr 0 (.t 1),none⟩,⟨some 13,.load 1 false (.t 12),none⟩,⟨some 14,.mov (.t 3),none⟩,⟨some 15,.iaddr 4 (.t 13) (.t 14),none⟩,⟨some 16,.load 4 true (.t 15),none⟩,⟨some 4,.alloc [(.sl .nil 0 []),(.sl .nil 0 []),(.int .i64 0),(.int .i64 0)],none⟩,⟨none,.store 4 (.t 4) (.t 16),none⟩]) (.seq (.reg [⟨some 17,.faddr 2 (.t 4),none⟩,⟨some 18,.load 1 false (.t 17),none⟩,⟨some 19,.bin .eql (.t 18) (.k (.int .i64 1)),none⟩,⟨some 20,.mov (.t 19),none⟩,⟨some 21,.faddr 3 (.t 4),some (20,false)⟩,⟨some 22,.load 1 false (.t 21),some (20,false)⟩,⟨some 23,.bin .eql (.t 22) (.k (.int .i64 1)),some (20,false)⟩,⟨some 24,.pick (.t 20) (.k (.bool true)) (.t 23),none⟩,⟨some 25,.mov (.t 24),none⟩,⟨some 26,.faddr 0 (.t 4),some (25,false)⟩,⟨some 27,.load 1 false (.t 26),some (25,false)⟩,⟨some 28,.call 62 [.t 27,(.k (.int .i64 1))],some (25,false)⟩,⟨some 29,.pick (.t 25) (.k (.bool true)) (.t 28),none⟩,⟨some 30,.mov (.t 29),none⟩,⟨some 31,.faddr 1 (.t 4),some (30,false)⟩,⟨some 32,.load 1 false (.t 31),some (30,false)⟩,⟨some 33,.call 62 [.t 32,(.k (.int .i64 1))],some (30,false)⟩,⟨some 34,.pick (.t 30) (.k (.bool true)) (.t 33),none⟩]) (.cond (.t 34) (.seq (.reg [⟨some 2,.mov (.k (.bool false)),none⟩]) (.ret)) (.skip))))) (.reg [⟨some 10,.mov (.t 3),none⟩,⟨some 11,.bin .add (.t 10) (.k (.int .i64 1)),none⟩,⟨some 3,.mov (.t 11),none⟩])))))) (.seq (.reg [⟨some 35,.faddr 1 (.t 1),none⟩,⟨some 36,.load 1 false (.t 35),none⟩,⟨some 37,.call 62 [.t 36,(.k (.int .i64 1))],none⟩,⟨some 38,.not (.t 37),none⟩,⟨some 2,.mov (.t 38),none⟩]) (.ret)))⟩
theorem fok_spec_IsDefinite : FOk Tryz.prog 52 code_spec_IsDefinite := fok Tryz.func52 (by kernel_rfl)
def halfN (x : Node) : Bool := x.shared == 1 || x.many == 1 || decide (1 ∈ x.vars) || decide (1 ∈ x.reach)
@[simp] def ct_halfN : Ct := ⟨102, Node, fun _ => True, fun x => [encNode x], fun x => .bool (halfN x)⟩
theorem ok_halfN : ct_halfN.Ok Tryz.prog := by
  rintro ⟨a, b, c, d⟩ -
  refine Ok.of_cw fok_impl_IsDefinite_1 (go_ok (tab_cons ok_ContainsI tab_nil) ?_)
  simp [code_impl_IsDefinite_1, List.replicate, halfN]
  grind
@[simp] def ct_ContainsFuncN : Ct := ⟨99, List Node × Nat × List AV × (Node → Bool), fun x => callable Tryz.prog x.2.1 = true ∧ ((∀ m H, lendCs m H 19 x.2.2.1 = some x.2.2.1) ∧ ∀ m H, lendAll m H x.2.2.1 = some x.2.2.1) ∧ ∀ a ∈ x.1, Ok Tryz.prog x.2.1 (encNode a :: x.2.2.1) (.bool (x.2.2.2 a)), fun x => [encL 4 encNode x.1, .fn x.2.1 x.2.2.1], fun x => .bool (x.1.any x.2.2.2)⟩
theorem ok_ContainsFuncN : ct_ContainsFuncN.Ok Tryz.prog := by
  rintro ⟨xs, f, caps, p⟩ hx
  refine Ok.of_cw fok_slices_ContainsFunc_impl_Node_impl_Node (go_ok (tab_cons ok_IndexFuncN tab_nil) ?_)
  have hA := hx.2.1.1
  have hB := hx.2.1.2
  simp at hA hB
  simp [code_slices_ContainsFunc_impl_Node_impl_Node, List.replicate, hA]
  exact ⟨hx.1, hB, p, hx.2.2, findI_any.symm⟩
def isDef (x : Strc) : Bool := !decide (1 ∈ x.next) && !x.nodes.any halfN
@[simp] def ct_impl_IsDefinite : Ct := ⟨45, Strc, fun _ => True, fun x => [encStrc x], fun x => .bool (isDef x)⟩
theorem ok_impl_IsDefinite : ct_impl_IsDefinite.Ok Tryz.prog := by
  rintro ⟨a, b⟩ -
  refine Ok.of_cw fok_impl_IsDefinite (go_ok (tab_cons ok_ContainsI (tab_cons ok_ContainsFuncN tab_nil)) ?_)
  simp [code_impl_IsDefinite, List.replicate, isDef]
  exact ⟨fun h k => absurd h k, fun h => ⟨by kernel_rfl, halfN, fun n _ => ok_halfN n trivial, by simp [h]⟩⟩
@[simp] def ct_spec_IsDefinite : Ct := ⟨52, Strc, fun x => szStrc x ≤ 1048576, fun x => [encStrc x], fun x => .bool (isDef x)⟩
theorem ok_spec_IsDefinite : ct_spec_IsDefinite.Ok Tryz.prog := by
  rintro x hx
  change Strc at x
  change szStrc x ≤ 1048576 at hx
  have hs := strc_le x
  refine Ok.of_cw fok_spec_IsDefinite (go_ok (tab_cons ok_l7Has tab_nil) ?_)
  simp [code_spec_IsDefinite, List.replicate]
  refine cw_round (fun (i : Nat) => ⟨slots 39 [(1, .pbox 0 0), (3, .int .i64 i)], [.cells [encL 4 encNode x.nodes, encL 1 encInt x.next]]⟩)
    (fun i => i ≤ x.nodes.length ∧ noHit halfN x.nodes i) (fun i => x.nodes.length - i) 0 ⟨by omega, noHit_zero⟩ ?_ ?_
  · exact weak_seal 1 (by omega) (by simp) (by simp [List.replicate])
  · rintro N hN i ⟨hi, hn⟩
    have hw : IntKind.i64.wrap ((i : Int) + 1) = ((i + 1 : Nat) : Int) := by rw [wrap_i64] <;> omega
    refine go_ok (tab_cons ok_l7Has tab_nil) ?_
    by_cases h : i < x.nodes.length
    · have h2 : ¬ x.nodes.length ≤ i := by omega
      have hd : halfN x.nodes[i] = true → isDef x = false := fun e => by simp [isDef, any_hit h e]
      have hm := node_le (List.getElem_mem h)
      simp [List.replicate, hw, h, h2]
      refine ⟨fun a1 => ⟨fun a2 => ⟨by omega, fun a3 => ⟨by omega, fun e => hd (by simp [halfN, e]), fun a4 => ?_⟩, fun e => hd (by simp [halfN, e])⟩, fun e => hd (by simp [halfN, e])⟩, fun e => hd (by simp [halfN, e])⟩
      refine hN _ (i + 1) _ ⟨by omega, noHit_succ hn h (by simp [halfN, a1, a2, a3, a4])⟩ (by omega) (weak_seal 1 (by omega) ?_ ?_)
      · simp
      · simp [List.replicate]
    · have h2 : x.nodes.length ≤ i := by omega
      simp [List.replicate, h, h2]
      exact ⟨by omega, by simp [isDef, any_none hn h2]⟩
end Go.Vm
