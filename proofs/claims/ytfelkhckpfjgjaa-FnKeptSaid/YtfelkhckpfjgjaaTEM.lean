/- What the laws' further size, copy and comparison functions answer. No condition. -/
import Derived.Test.YtfelkhckpfjgjaaTG
import Derived.Test.YtfelkhckpfjgjaaTTR
import Derived.Test.YtfelkhckpfjgjaaTNX
set_option linter.unusedSimpArgs false
set_option linter.unusedVariables false
namespace Go.Vm
open Go.Proofs
end Go.Vm
namespace Go.Vm
open Go.Proofs
theorem all_bad {p : Nat → Bool} {n i : Nat} (h : i < n) (e : p i = false) : (List.range n).all p = false := by
  rw [List.all_eq_false]
  exact ⟨i, by simpa using h, by simp [e]⟩
theorem all_good {p : Nat → Bool} {n : Nat} (h : ∀ j, j < n → p j = true) : (List.range n).all p = true := by
  rw [List.all_eq_true]
  intro j hj
  exact h j (by simpa using hj)
def withinB (a b : Int) : Bool := isTruth a && isTruth b && (decide (b = 1) || decide (a = b))
def listsB (xs ys : List Int) : Bool := decide (xs.length = ys.length) && (List.range xs.length).all fun j => withinB (xs.getD j 0) (ys.getD j 0)
def nodeB (x y : Node) : Bool := listsB x.vars y.vars && listsB x.reach y.reach && withinB x.shared y.shared && withinB x.many y.many
def pairB (s t : Strc) (to : List Int) (i k : Nat) : Bool :=
  withinB (nextOf s i k) (nextOf t (to.getD i 0) (to.getD k 0)) && withinB (nextOf s k i) (nextOf t (to.getD k 0) (to.getD i 0)) && !(decide (k < i) && decide (to.getD k 0 = to.getD i 0) && !decide ((t.nodes.getD (to.getD i 0).toNat default).many = 1))
def fitsB (s t : Strc) (to : List Int) (i : Nat) : Bool := nodeB (s.nodes.getD i default) (t.nodes.getD (to.getD i 0).toNat default) && (List.range (i + 1)).all fun k => pairB s t to i k
def embB (s t : Strc) (to : List Int) : Bool := decide (to.length = s.nodes.length) && ((List.range to.length).all fun i => decide (inN t (to.getD i 0)) && fitsB s t to i) && (List.range t.nodes.length).all fun j => decide ((j : Int) ∈ to)
def code_spec_IsWithin : F := ⟨20,[.tmp 4],.seq (.reg [⟨some 4,.mov (.k (.bool false)),none⟩]) (.seq (.reg [⟨some 5,.mov (.t 0),none⟩,⟨some 6,.call 53 [.t 5],none⟩,⟨some 7,.mov (.t 6),none⟩,⟨some 8,.mov (.t 1),some (7,true)⟩,⟨some 9,.call 53 [.t 8],some (7,true)⟩,⟨some 10,.pick (.t 7) (.t 9) (.k (.bool false)),none⟩,⟨some 11,.mov (.t 10),none⟩,⟨some 12,.mov (.t 1),some (11,true)⟩,⟨some 13,.bin .eql (.t 12) (.k (.int .i64 1)),some (11,true)⟩,⟨some 14,.mov (.t 13),some (11,true)⟩,⟨some 15,.mov (.t 0),some (14,false)⟩,⟨some 16,.mov (.t 1),some (14,false)⟩,⟨some 17,.bin .eql (.t 15) (.t 16),some (14,false)⟩,⟨some 18,.pick (.t 14) (.k (.bool true)) (.t 17),some (11,true)⟩,⟨some 19,.pick (.t 11) (.t 18) (.k (.bool false)),none⟩,⟨some 4,.mov (.t 19),none⟩]) (.ret))⟩
theorem fok_spec_IsWithin : FOk Try.prog 98 code_spec_IsWithin := fok Try.func98 (by kernel_rfl)
def code_impl_IsWithin : F := ⟨20,[.tmp 4],.seq (.reg [⟨some 4,.mov (.k (.bool false)),none⟩]) (.seq (.reg [⟨some 5,.mov (.t 0),none⟩,⟨some 6,.call 30 [.t 5],none⟩,⟨some 7,.mov (.t 6),none⟩,⟨some 8,.mov (.t 1),some (7,true)⟩,⟨some 9,.call 30 [.t 8],some (7,true)⟩,⟨some 10,.pick (.t 7) (.t 9) (.k (.bool false)),none⟩,⟨some 11,.mov (.t 10),none⟩,⟨some 12,.mov (.t 1),some (11,true)⟩,⟨some 13,.bin .eql (.t 12) (.k (.int .i64 1)),some (11,true)⟩,⟨some 14,.mov (.t 13),some (11,true)⟩,⟨some 15,.mov (.t 0),some (14,false)⟩,⟨some 16,.mov (.t 1),some (14,false)⟩,⟨some 17,.bin .eql (.t 15) (.t 16),some (14,false)⟩,⟨some 18,.pick (.t 14) (.k (.bool true)) (.t 17),some (11,true)⟩,⟨some 19,.pick (.t 11) (.t 18) (.k (.bool false)),none⟩,⟨some 4,.mov (.t 19),none⟩]) (.ret))⟩
theorem fok_impl_IsWithin : FOk Try.prog 35 code_impl_IsWithin := fok Try.func35 (by kernel_rfl)
def code_spec_l16Lists : F := ⟨27,[.tmp 4],.seq (.reg [⟨some 4,.mov (.k (.bool false)),none⟩]) (.seq (.seq (.reg [⟨some 6,.mov (.t 0),none⟩,⟨some 7,.len (.t 6),none⟩,⟨some 8,.mov (.t 1),none⟩,⟨some 9,.len (.t 8),none⟩,⟨some 10,.bin .neq (.t 7) (.t 9),none⟩]) (.cond (.t 10) (.seq (.reg [⟨some 4,.mov (.k (.bool false)),none⟩]) (.ret)) (.skip))) (.seq (.seq (.reg [⟨some 5,.mov (.k (.int .i64 0)),none⟩]) (.block 0 (.loop (.seq (.seq (.reg [⟨some 11,.mov (.t 5),none⟩,⟨some 12,.mov (.t 0),none⟩,⟨some 13,.len (.t 12),none⟩,⟨some 14,.bin .lss (.t 11) (.t 13),none⟩]) (.cond (.t 14) (.skip) (.exit 0))) (.seq (.block 1 (.seq (.dreg [false,false,false,false,false,false,false,false,true,true] [false,false,false,false,false,false,false,false,true,false] [⟨some 17,.mov (.t 0),none⟩,⟨some 18,.mov (.t 5),none⟩,⟨some 19,.iaddr 1 (.t 17) (.t 18),none⟩,⟨some 20,.load 1 false (.t 19),none⟩,⟨some 21,.mov (.t 1),none⟩,⟨some 22,.mov (.t 5),none⟩,⟨some 23,.iaddr 1 (.t 21) (.t 22),none⟩,⟨some 24,.load 1 false (.t 23),none⟩,⟨some 25,.call 98 [.t 20,.t 24],none⟩,⟨some 26,.not (.t 25),none⟩]) (.cond (.t 26) (.seq (.reg [⟨some 4,.mov (.k (.bool false)),none⟩]) (.ret)) (.skip)))) (.reg [⟨some 15,.mov (.t 5),none⟩,⟨some 16,.bin .add (.t 15) (.k (.int .i64 1)),none⟩,⟨some 5,.mov (.t 16),none⟩])))))) (.seq (.reg [⟨some 4,.mov (.k (.bool true)),none⟩]) (.ret))))⟩
theorem fok_spec_l16Lists : FOk Try.prog 118 code_spec_l16Lists := fok Try.func118 (by kernel_rfl)
def code_spec_l16Node : F := ⟨31,[.tmp 4],.seq (.reg [⟨some 2,.box (.t 0),none⟩,⟨some 3,.box (.t 1),none⟩,⟨some 4,.mov (.k (.bool false)),none⟩]) (.seq (.reg [⟨some 5,.faddr 0 (.t 2),none⟩,⟨some 6,.load 1 false (.t 5),none⟩,⟨some 7,.faddr 0 (.t 3),none⟩,⟨some 8,.load 1 false (.t 7),none⟩,⟨some 9,.call 118 [.t 6,.t 8],none⟩,⟨some 10,.mov (.t 9),none⟩,⟨some 11,.faddr 1 (.t 2),some (10,true)⟩,⟨some 12,.load 1 false (.t 11),some (10,true)⟩,⟨some 13,.faddr 1 (.t 3),some (10,true)⟩,⟨some 14,.load 1 false (.t 13),some (10,true)⟩,⟨some 15,.call 118 [.t 12,.t 14],some (10,true)⟩,⟨some 16,.pick (.t 10) (.t 15) (.k (.bool false)),none⟩,⟨some 17,.mov (.t 16),none⟩,⟨some 18,.faddr 2 (.t 2),some (17,true)⟩,⟨some 19,.load 1 false (.t 18),some (17,true)⟩,⟨some 20,.faddr 2 (.t 3),some (17,true)⟩,⟨some 21,.load 1 false (.t 20),some (17,true)⟩,⟨some 22,.call 98 [.t 19,.t 21],some (17,true)⟩,⟨some 23,.pick (.t 17) (.t 22) (.k (.bool false)),none⟩,⟨some 24,.mov (.t 23),none⟩,⟨some 25,.faddr 3 (.t 2),some (24,true)⟩,⟨some 26,.load 1 false (.t 25),some (24,true)⟩,⟨some 27,.faddr 3 (.t 3),some (24,true)⟩,⟨some 28,.load 1 false (.t 27),some (24,true)⟩,⟨some 29,.call 98 [.t 26,.t 28],some (24,true)⟩,⟨some 30,.pick (.t 24) (.t 29) (.k (.bool false)),none⟩,⟨some 4,.mov (.t 30),none⟩]) (.ret))⟩
theorem fok_spec_l16Node : FOk Try.prog 97 code_spec_l16Node := fok Try.func97 (by kernel_rfl)
def code_impl_isWithinNode : F := ⟨31,[.tmp 4],.seq (.reg [⟨some 2,.box (.t 0),none⟩,⟨some 3,.box (.t 1),none⟩,⟨some 4,.mov (.k (.bool false)),none⟩]) (.seq (.reg [⟨some 5,.faddr 0 (.t 2),none⟩,⟨some 6,.load 1 false (.t 5),none⟩,⟨some 7,.faddr 0 (.t 3),none⟩,⟨some 8,.load 1 false (.t 7),none⟩,⟨some 9,.call 115 [.t 6,.t 8,(.k (.fn 35 []))],none⟩,⟨some 10,.mov (.t 9),none⟩,⟨some 11,.faddr 1 (.t 2),some (10,true)⟩,⟨some 12,.load 1 false (.t 11),some (10,true)⟩,⟨some 13,.faddr 1 (.t 3),some (10,true)⟩,⟨some 14,.load 1 false (.t 13),some (10,true)⟩,⟨some 15,.call 115 [.t 12,.t 14,(.k (.fn 35 []))],some (10,true)⟩,⟨some 16,.pick (.t 10) (.t 15) (.k (.bool false)),none⟩,⟨some 17,.mov (.t 16),none⟩,⟨some 18,.faddr 2 (.t 2),some (17,true)⟩,⟨some 19,.load 1 false (.t 18),some (17,true)⟩,⟨some 20,.faddr 2 (.t 3),some (17,true)⟩,⟨some 21,.load 1 false (.t 20),some (17,true)⟩,⟨some 22,.call 35 [.t 19,.t 21],some (17,true)⟩,⟨some 23,.pick (.t 17) (.t 22) (.k (.bool false)),none⟩,⟨some 24,.mov (.t 23),none⟩,⟨some 25,.faddr 3 (.t 2),some (24,true)⟩,⟨some 26,.load 1 false (.t 25),some (24,true)⟩,⟨some 27,.faddr 3 (.t 3),some (24,true)⟩,⟨some 28,.load 1 false (.t 27),some (24,true)⟩,⟨some 29,.call 35 [.t 26,.t 28],some (24,true)⟩,⟨some 30,.pick (.t 24) (.t 29) (.k (.bool false)),none⟩,⟨some 4,.mov (.t 30),none⟩]) (.ret))⟩
theorem fok_impl_isWithinNode : FOk Try.prog 91 code_impl_isWithinNode := fok Try.func91 (by kernel_rfl)
@[simp] def ct_sIsWithin : Ct := ⟨98, Int × Int, fun _ => True, fun x => [.int .i64 x.1, .int .i64 x.2], fun x => .bool (withinB x.1 x.2)⟩
theorem ok_sIsWithin : ct_sIsWithin.Ok Try.prog := by
  rintro ⟨a, b⟩ -
  refine Ok.of_cw fok_spec_IsWithin (go_ok (tab_cons ok_sIsTruth tab_nil) ?_)
  simp [code_spec_IsWithin, List.replicate, withinB]
  grind
@[simp] def ct_pIsWithin : Ct := ⟨35, Int × Int, fun _ => True, fun x => [.int .i64 x.1, .int .i64 x.2], fun x => .bool (withinB x.1 x.2)⟩
theorem ok_pIsWithin : ct_pIsWithin.Ok Try.prog := by
  rintro ⟨a, b⟩ -
  refine Ok.of_cw fok_impl_IsWithin (go_ok (tab_cons ok_pIsTruth tab_nil) ?_)
  simp [code_impl_IsWithin, List.replicate, withinB]
  grind
def code_slices_EqualFunc_int_int_int_int : F := ⟨32,[.tmp 6],.seq (.reg [⟨some 6,.mov (.k (.bool false)),none⟩]) (.seq (.seq (.reg [⟨some 10,.mov (.t 0),none⟩,⟨some 11,.len (.t 10),none⟩,⟨some 12,.mov (.t 1),none⟩,⟨some 13,.len (.t 12),none⟩,⟨some 14,.bin .neq (.t 11) (.t 13),none⟩]) (.cond (.t 14) (.seq (.reg [⟨some 6,.mov (.k (.bool false)),none⟩]) (.ret)) (.skip))) (.seq (.seq (.reg [⟨some 15,.mov (.t 0),none⟩,⟨some 16,.len (.t 15),none⟩,⟨some 17,.mov (.k (.int .i64 0)),none⟩]) (.block 0 (.loop (.seq (.reg [⟨some 18,.bin .lss (.t 17) (.t 16),none⟩]) (.seq (.cond (.t 18) (.skip) (.exit 0)) (.seq (.block 1 (.seq (.reg [⟨some 19,.mov (.t 17),none⟩,⟨some 20,.iaddr 1 (.t 15) (.t 17),none⟩,⟨some 21,.load 1 false (.t 20),none⟩,⟨some 7,.mov (.t 19),none⟩,⟨some 8,.mov (.t 21),none⟩]) (.seq (.reg [⟨some 22,.mov (.t 1),none⟩,⟨some 23,.mov (.t 7),none⟩,⟨some 24,.iaddr 1 (.t 22) (.t 23),none⟩,⟨some 25,.load 1 false (.t 24),none⟩,⟨some 9,.mov (.t 25),none⟩]) (.seq (.reg [⟨some 26,.mov (.t 2),none⟩,⟨some 27,.mov (.t 8),none⟩,⟨some 28,.mov (.t 9),none⟩,⟨some 29,.callv (.t 26) [.t 27,.t 28],none⟩,⟨some 30,.not (.t 29),none⟩]) (.cond (.t 30) (.seq (.reg [⟨some 6,.mov (.k (.bool false)),none⟩]) (.ret)) (.skip)))))) (.reg [⟨some 31,.bin .add (.t 17) (.k (.int .i64 1)),none⟩,⟨some 17,.mov (.t 31),none⟩]))))))) (.seq (.reg [⟨some 6,.mov (.k (.bool true)),none⟩]) (.ret))))⟩
theorem fok_slices_EqualFunc_int_int_int_int : FOk Try.prog 115 code_slices_EqualFunc_int_int_int_int := fok Try.func115 (by kernel_rfl)
theorem lists_len {xs ys : List Int} (h : xs.length ≠ ys.length) : listsB xs ys = false := by simp [listsB, h]
theorem lists_bad {xs ys : List Int} {i : Nat} (h : i < xs.length) (h2 : i < ys.length) (e : withinB xs[i] ys[i] = false) : listsB xs ys = false := by
  unfold listsB
  rw [all_bad (i := i) h (by simpa [h, h2] using e), Bool.and_false]
theorem lists_good {xs ys : List Int} (h : xs.length = ys.length) (e : ∀ j, j < xs.length → withinB (xs.getD j 0) (ys.getD j 0) = true) : listsB xs ys = true := by
  unfold listsB
  rw [all_good e, Bool.and_true]
  exact decide_eq_true h
@[simp] def ct_l16Lists : Ct := ⟨118, List Int × List Int, fun _ => True, fun x => [encL 1 encInt x.1, encL 1 encInt x.2], fun x => .bool (listsB x.1 x.2)⟩
theorem ok_l16Lists : ct_l16Lists.Ok Try.prog := by
  rintro ⟨xs, ys⟩ -
  refine Ok.lens fun hl => Ok.of_cw fok_spec_l16Lists (go_ok tab_nil ?_)
  simp [lensOkL_cons, lensOk_encL] at hl
  simp [code_spec_l16Lists, List.replicate]
  refine ⟨fun h => lists_len (by omega), fun h => ?_⟩
  have h : xs.length = ys.length := by omega
  refine cw_round (fun (p : Nat) => ⟨slots 27 [(0, encL 1 encInt xs), (1, encL 1 encInt ys), (5, .int .i64 p)], []⟩)
    (fun p => p ≤ xs.length ∧ ∀ j, j < p → withinB (xs.getD j 0) (ys.getD j 0) = true) (fun p => xs.length - p) 0 ⟨by omega, fun j hj => absurd hj (by omega)⟩ ?_ ?_
  · exact weak_seal 0 (by omega) (by simp) (by simp [List.replicate])
  · rintro N hN i ⟨hi, hn⟩
    have hw : i < xs.length → IntKind.i64.wrap ((i : Int) + 1) = ((i + 1 : Nat) : Int) := fun h => by rw [wrap_i64] <;> omega
    refine go_ok (tab_cons ok_sIsWithin tab_nil) ?_
    by_cases g : i < xs.length
    · have g' : i < ys.length := by omega
      have g2 : ¬ xs.length ≤ i := by omega
      cases e : withinB xs[i] ys[i]
      · have hf := lists_bad g g' e
        simp [List.replicate, hw, g, g', g2, e, hf]
      · simp [List.replicate, hw, g, g', g2, e]
        refine hN _ (i + 1) _ ⟨by omega, fun j hj => ?_⟩ (by omega) (weak_seal 0 (by omega) ?_ ?_)
        · by_cases q : j = i
          · subst q; simpa [g, g'] using e
          · exact hn j (by omega)
        · simp
        · simp [List.replicate]
    · have g2 : xs.length ≤ i := by omega
      have hf := lists_good h (fun j hj => hn j (by omega))
      simp [List.replicate, g, g2, hf]
@[simp] def ct_EqualFuncW : Ct := ⟨115, List Int × List Int, fun _ => True, fun x => [encL 1 encInt x.1, encL 1 encInt x.2, .fn 35 []], fun x => .bool (listsB x.1 x.2)⟩
theorem ok_EqualFuncW : ct_EqualFuncW.Ok Try.prog := by
  rintro ⟨xs, ys⟩ -
  have hc : callable Try.prog 35 = true := by kernel_rfl
  refine Ok.lens fun hl => Ok.of_cw fok_slices_EqualFunc_int_int_int_int (go_ok tab_nil ?_)
  have hl : lensOkL [encL 1 encInt xs, encL 1 encInt ys, .fn 35 []] := hl
  rw [lensOkL_cons, lensOk_encL] at hl
  have hl := hl.1.1
  simp [code_slices_EqualFunc_int_int_int_int, List.replicate]
  refine ⟨fun h => lists_len (by omega), fun h => ?_⟩
  have h : xs.length = ys.length := by omega
  refine cw_round (fun (p : Nat) => ⟨slots 32 [(0, encL 1 encInt xs), (1, encL 1 encInt ys), (2, .fn 35 []), (15, encL 1 encInt xs), (16, .int .i64 xs.length), (17, .int .i64 p)], []⟩)
    (fun p => p ≤ xs.length ∧ ∀ j, j < p → withinB (xs.getD j 0) (ys.getD j 0) = true) (fun p => xs.length - p) 0 ⟨by omega, fun j hj => absurd hj (by omega)⟩ ?_ ?_
  · exact weak_seal 0 (by omega) (by simp) (by simp [List.replicate])
  · rintro N hN i ⟨hi, hn⟩
    have hw : i < xs.length → IntKind.i64.wrap ((i : Int) + 1) = ((i + 1 : Nat) : Int) := fun h => by rw [wrap_i64] <;> omega
    refine go_ok (tab_cons ok_pIsWithin tab_nil) ?_
    by_cases g : i < xs.length
    · have g' : i < ys.length := by omega
      have g2 : ¬ xs.length ≤ i := by omega
      cases e : withinB xs[i] ys[i]
      · have hf := lists_bad g g' e
        simp [List.replicate, hw, g, g', g2, hc, e, hf]
      · simp [List.replicate, hw, g, g', g2, hc, e]
        refine hN _ (i + 1) _ ⟨by omega, fun j hj => ?_⟩ (by omega) (weak_seal 0 (by omega) ?_ ?_)
        · by_cases q : j = i
          · subst q; simpa [g, g'] using e
          · exact hn j (by omega)
        · simp
        · simp [List.replicate]
    · have g2 : xs.length ≤ i := by omega
      have hf := lists_good h (fun j hj => hn j (by omega))
      simp [List.replicate, g, g2, hf]
@[simp] def ct_l16Node : Ct := ⟨97, Node × Node, fun _ => True, fun x => [encNode x.1, encNode x.2], fun x => .bool (nodeB x.1 x.2)⟩
set_option maxHeartbeats 2000000 in
theorem ok_l16Node : ct_l16Node.Ok Try.prog := by
  rintro ⟨⟨a, b, c, d⟩, ⟨a', b', c', d'⟩⟩ -
  refine Ok.of_cw fok_spec_l16Node (go_ok (tab_cons ok_l16Lists (tab_cons ok_sIsWithin tab_nil)) ?_)
  cases e1 : listsB a a' <;> cases e2 : listsB b b' <;> cases e3 : withinB c c' <;> simp [code_spec_l16Node, List.replicate, nodeB, e1, e2, e3]
@[simp] def ct_isWithinNode : Ct := ⟨91, Node × Node, fun _ => True, fun x => [encNode x.1, encNode x.2], fun x => .bool (nodeB x.1 x.2)⟩
set_option maxHeartbeats 2000000 in
theorem ok_isWithinNode : ct_isWithinNode.Ok Try.prog := by
  rintro ⟨⟨a, b, c, d⟩, ⟨a', b', c', d'⟩⟩ -
  refine Ok.of_cw fok_impl_isWithinNode (go_ok (tab_cons ok_EqualFuncW (tab_cons ok_pIsWithin tab_nil)) ?_)
  cases e1 : listsB a a' <;> cases e2 : listsB b b' <;> cases e3 : withinB c c' <;> simp [code_impl_isWithinNode, List.replicate, nodeB, e1, e2, e3]
end Go.Vm
