/- PredicateAt. No condition. -/
import Derived.Test.YtjkjbiegekbikaaTCP
import Derived.Test.YtjkjbiegekbikaaTG
set_option linter.unusedSimpArgs false
set_option linter.unusedVariables false
namespace Go.Vm
open Go.Proofs
def code_impl_within : F := ⟨15, [.tmp 6],
 .seq (.reg [⟨some 6, .mov (.k (.bool false)), none⟩])
 (.seq (.reg [⟨some 7, .mov (.t 1), none⟩,
     ⟨some 8, .mov (.t 0), none⟩,
     ⟨some 9, .bin .leq (.t 7) (.t 8), none⟩,
     ⟨some 10, .mov (.t 9), none⟩,
     ⟨some 11, .mov (.t 0), some (10, true)⟩,
     ⟨some 12, .mov (.t 2), some (10, true)⟩,
     ⟨some 13, .bin .leq (.t 11) (.t 12), some (10, true)⟩,
     ⟨some 14, .pick (.t 10) (.t 13) (.k (.bool false)), none⟩,
     ⟨some 6, .mov (.t 14), none⟩])
  (.ret))⟩
theorem fok_impl_within : FOk Try.prog 51 code_impl_within := fok Try.func51 (by kernel_rfl)
def code_spec_l1In : F := ⟨15, [.tmp 6],
 .seq (.reg [⟨some 6, .mov (.k (.bool false)), none⟩])
 (.seq (.reg [⟨some 7, .mov (.t 0), none⟩,
     ⟨some 8, .mov (.t 1), none⟩,
     ⟨some 9, .bin .geq (.t 7) (.t 8), none⟩,
     ⟨some 10, .mov (.t 9), none⟩,
     ⟨some 11, .mov (.t 0), some (10, true)⟩,
     ⟨some 12, .mov (.t 2), some (10, true)⟩,
     ⟨some 13, .bin .leq (.t 11) (.t 12), some (10, true)⟩,
     ⟨some 14, .pick (.t 10) (.t 13) (.k (.bool false)), none⟩,
     ⟨some 6, .mov (.t 14), none⟩])
  (.ret))⟩
theorem fok_spec_l1In : FOk Try.prog 78 code_spec_l1In := fok Try.func78 (by kernel_rfl)
def code_spec_l13At : F := ⟨15, [.tmp 4],
 .seq (.reg [⟨some 4, .mov (.k (.int .i64 0)), none⟩])
 (.seq (.seq (.reg [⟨some 5, .mov (.t 1), none⟩,
      ⟨some 6, .mov (.t 0), none⟩,
      ⟨some 7, .len (.t 6), none⟩,
      ⟨some 8, .bin .sub (.t 7) (.k (.int .i64 1)), none⟩,
      ⟨some 9, .call 78 [(.t 5), (.k (.int .i64 0)), (.t 8)], none⟩,
      ⟨some 10, .not (.t 9), none⟩])
   (.cond (.t 10)
    (.seq (.reg [⟨some 4, .mov (.k (.int .i64 1)), none⟩])
     (.ret))
    (.skip)))
  (.seq (.reg [⟨some 11, .mov (.t 0), none⟩,
      ⟨some 12, .mov (.t 1), none⟩,
      ⟨some 13, .iaddr 1 (.t 11) (.t 12), none⟩,
      ⟨some 14, .load 1 false (.t 13), none⟩,
      ⟨some 4, .mov (.t 14), none⟩])
   (.ret)))⟩
theorem fok_spec_l13At : FOk Try.prog 97 code_spec_l13At := fok Try.func97 (by kernel_rfl)
def code_impl_Structure_isNode : F := ⟨11, [.tmp 4],
 .seq (.reg [⟨some 2, .box (.t 0), none⟩,
    ⟨some 4, .mov (.k (.bool false)), none⟩])
 (.seq (.reg [⟨some 5, .mov (.t 1), none⟩,
     ⟨some 6, .faddr 0 (.t 2), none⟩,
     ⟨some 7, .load 1 false (.t 6), none⟩,
     ⟨some 8, .len (.t 7), none⟩,
     ⟨some 9, .bin .sub (.t 8) (.k (.int .i64 1)), none⟩,
     ⟨some 10, .call 51 [(.t 5), (.k (.int .i64 0)), (.t 9)], none⟩,
     ⟨some 4, .mov (.t 10), none⟩])
  (.ret))⟩
theorem fok_impl_Structure_isNode : FOk Try.prog 98 code_impl_Structure_isNode := fok Try.func98 (by kernel_rfl)
def code_spec_PredicateAt : F := ⟨58, [.tmp 6],
 .seq (.reg [⟨some 3, .box (.t 0), none⟩,
    ⟨some 6, .mov (.k (.int .i64 0)), none⟩])
 (.seq (.reg [⟨some 8, .load 2 true (.t 3), none⟩,
     ⟨some 9, .call 84 [(.t 8)], none⟩,
     ⟨some 7, .mov (.t 9), none⟩])
  (.seq (.seq (.reg [⟨some 10, .mov (.t 2), none⟩,
       ⟨some 11, .faddr 0 (.t 3), none⟩,
       ⟨some 12, .load 1 false (.t 11), none⟩,
       ⟨some 13, .len (.t 12), none⟩,
       ⟨some 14, .bin .sub (.t 13) (.k (.int .i64 1)), none⟩,
       ⟨some 15, .call 78 [(.t 10), (.k (.int .i64 0)), (.t 14)], none⟩,
       ⟨some 16, .not (.t 15), none⟩])
    (.cond (.t 16)
     (.seq (.reg [⟨some 6, .mov (.k (.int .i64 1)), none⟩])
      (.ret))
     (.skip)))
   (.seq (.block 0 (.seq (.reg [⟨some 18, .mov (.t 1), none⟩,
         ⟨some 19, .mov (.t 7), none⟩,
         ⟨some 20, .bin .sub (.t 19) (.k (.int .i64 1)), none⟩,
         ⟨some 21, .call 78 [(.t 18), (.k (.int .i64 0)), (.t 20)], none⟩,
         ⟨some 17, .mov (.t 21), none⟩])
      (.cond (.t 17)
       (.seq (.reg [⟨some 22, .faddr 0 (.t 3), none⟩,
           ⟨some 23, .load 1 false (.t 22), none⟩,
           ⟨some 24, .mov (.t 2), none⟩,
           ⟨some 25, .iaddr 4 (.t 23) (.t 24), none⟩,
           ⟨some 26, .faddr 0 (.t 25), none⟩,
           ⟨some 27, .load 1 false (.t 26), none⟩,
           ⟨some 28, .mov (.t 1), none⟩,
           ⟨some 29, .call 97 [(.t 27), (.t 28)], none⟩,
           ⟨some 6, .mov (.t 29), none⟩])
        (.ret))
       (.seq (.reg [⟨some 31, .mov (.t 1), none⟩,
           ⟨some 32, .mov (.t 7), none⟩,
           ⟨some 33, .mov (.t 7), none⟩,
           ⟨some 34, .bin .mul (.k (.int .i64 2)) (.t 33), none⟩,
           ⟨some 35, .bin .sub (.t 34) (.k (.int .i64 1)), none⟩,
           ⟨some 36, .call 78 [(.t 31), (.t 32), (.t 35)], none⟩,
           ⟨some 30, .mov (.t 36), none⟩])
        (.cond (.t 30)
         (.seq (.reg [⟨some 37, .faddr 0 (.t 3), none⟩,
             ⟨some 38, .load 1 false (.t 37), none⟩,
             ⟨some 39, .mov (.t 2), none⟩,
             ⟨some 40, .iaddr 4 (.t 38) (.t 39), none⟩,
             ⟨some 41, .faddr 1 (.t 40), none⟩,
             ⟨some 42, .load 1 false (.t 41), none⟩,
             ⟨some 43, .mov (.t 1), none⟩,
             ⟨some 44, .mov (.t 7), none⟩,
             ⟨some 45, .bin .sub (.t 43) (.t 44), none⟩,
             ⟨some 46, .call 97 [(.t 42), (.t 45)], none⟩,
             ⟨some 6, .mov (.t 46), none⟩])
          (.ret))
         (.seq (.reg [⟨some 48, .mov (.t 1), none⟩,
             ⟨some 49, .mov (.t 7), none⟩,
             ⟨some 50, .bin .mul (.k (.int .i64 2)) (.t 49), none⟩,
             ⟨some 51, .bin .eql (.t 48) (.t 50), none⟩,
             ⟨some 47, .mov (.t 51), none⟩])
          (.cond (.t 47)
           (.seq (.reg [⟨some 52, .faddr 0 (.t 3), none⟩,
               ⟨some 53, .load 1 false (.t 52), none⟩,
               ⟨some 54, .mov (.t 2), none⟩,
               ⟨some 55, .iaddr 4 (.t 53) (.t 54), none⟩,
               ⟨some 56, .faddr 2 (.t 55), none⟩,
               ⟨some 57, .load 1 false (.t 56), none⟩,
               ⟨some 6, .mov (.t 57), none⟩])
            (.ret))
           (.skip))))))))
    (.seq (.reg [⟨some 6, .mov (.k (.int .i64 1)), none⟩])
     (.ret)))))⟩
theorem fok_spec_PredicateAt : FOk Try.prog 49 code_spec_PredicateAt := fok Try.func49 (by kernel_rfl)
@[simp] def ct_within : Ct := ⟨51, Int × Int × Int, fun _ => True, fun x => [.int .i64 x.1, .int .i64 x.2.1, .int .i64 x.2.2], fun x => .bool (decide (x.2.1 ≤ x.1) && decide (x.1 ≤ x.2.2))⟩
theorem ok_within : ct_within.Ok Try.prog := by
  rintro ⟨a, b, c⟩ -
  refine Ok.of_cw fok_impl_within (go_ok tab_nil ?_)
  simp [code_impl_within, List.replicate]
  grind
@[simp] def ct_l1In : Ct := ⟨78, Int × Int × Int, fun _ => True, fun x => [.int .i64 x.1, .int .i64 x.2.1, .int .i64 x.2.2], fun x => .bool (decide (x.2.1 ≤ x.1) && decide (x.1 ≤ x.2.2))⟩
theorem ok_l1In : ct_l1In.Ok Try.prog := by
  rintro ⟨a, b, c⟩ -
  refine Ok.of_cw fok_spec_l1In (go_ok tab_nil ?_)
  simp [code_spec_l1In, List.replicate]
  grind
def at1 (l : List Int) (k : Int) : Int := if 0 ≤ k ∧ k < l.length then l.getD k.toNat 0 else 1
@[simp] def ct_l13At : Ct := ⟨97, List Int × Int, fun x => x.1.length ≤ 1048576, fun x => [encL 1 encInt x.1, .int .i64 x.2], fun x => .int .i64 (at1 x.1 x.2)⟩
theorem ok_l13At : ct_l13At.Ok Try.prog := by
  rintro ⟨l, k⟩ h
  change l.length ≤ 1048576 at h
  refine Ok.of_cw fok_spec_l13At (go_ok (tab_cons ok_l1In tab_nil) ?_)
  have hw : IntKind.i64.wrap ((l.length : Int) - 1) = (l.length : Int) - 1 := by rw [wrap_i64] <;> omega
  simp [code_spec_l13At, List.replicate, hw, at1]
  grind
@[simp] def ct_isNode : Ct := ⟨98, Strc × Int, fun _ => True, fun x => [encStrc x.1, .int .i64 x.2], fun x => .bool (decide (0 ≤ x.2) && decide (x.2 ≤ (x.1.nodes.length : Int) - 1))⟩
theorem ok_isNode : ct_isNode.Ok Try.prog := by
  rintro ⟨⟨a, b⟩, i⟩ -
  refine Ok.lens fun hl => Ok.of_cw fok_impl_Structure_isNode (go_ok (tab_cons ok_within tab_nil) ?_)
  have hl : lensOkL [encStrc ⟨a, b⟩, .int .i64 i] := hl
  simp [lensOkL_cons, lensOk_encL, encStrc_eq, lens_agg, lens_int, lens_nil] at hl
  have hw : IntKind.i64.wrap ((a.length : Int) - 1) = (a.length : Int) - 1 := by rw [wrap_i64] <;> omega
  simp [code_impl_Structure_isNode, List.replicate, hw]
def predAt (x : Strc) (k i : Int) : Int :=
  if 0 ≤ i ∧ i ≤ (x.nodes.length : Int) - 1 then
    if 0 ≤ k ∧ k ≤ (nvars x : Int) - 1 then at1 (x.nodes.getD i.toNat default).vars k
    else if (nvars x : Int) ≤ k ∧ k ≤ 2 * (nvars x : Int) - 1 then at1 (x.nodes.getD i.toNat default).reach (k - nvars x)
    else if k = 2 * (nvars x : Int) then (x.nodes.getD i.toNat default).shared else 1
  else 1
theorem nvars_le (x : Strc) : nvars x ≤ szStrc x := by
  unfold nvars szStrc szNodes
  cases x.nodes with
  | nil => simp
  | cons n a => simp [szNode]; omega
@[simp] def ct_spec_PredicateAt : Ct := ⟨49, Strc × Int × Int, fun x => szStrc x.1 ≤ 1048576, fun x => [encStrc x.1, .int .i64 x.2.1, .int .i64 x.2.2], fun x => .int .i64 (predAt x.1 x.2.1 x.2.2)⟩
theorem ok_spec_PredicateAt : ct_spec_PredicateAt.Ok Try.prog := by
  rintro ⟨x, k, i⟩ hx
  change szStrc x ≤ 1048576 at hx
  refine Ok.of_cw fok_spec_PredicateAt (go_ok (tab_cons ok_l15Vars (tab_cons ok_l1In (tab_cons ok_l13At tab_nil))) ?_)
  have hn := nvars_le x
  have hN : x.nodes.length ≤ szStrc x := by unfold szStrc szNodes; omega
  have w0 : IntKind.i64.wrap ((x.nodes.length : Int) - 1) = (x.nodes.length : Int) - 1 := by rw [wrap_i64] <;> omega
  have w1 : IntKind.i64.wrap ((nvars x : Int) - 1) = (nvars x : Int) - 1 := by rw [wrap_i64] <;> omega
  have w2 : IntKind.i64.wrap (2 * (nvars x : Int)) = 2 * (nvars x : Int) := by rw [wrap_i64] <;> omega
  have w3 : IntKind.i64.wrap (2 * (nvars x : Int) - 1) = 2 * (nvars x : Int) - 1 := by rw [wrap_i64] <;> omega
  have w4 : (nvars x : Int) ≤ k → k ≤ 2 * (nvars x : Int) - 1 → IntKind.i64.wrap (k - nvars x) = k - nvars x := fun _ _ => by rw [wrap_i64] <;> omega
  simp [code_spec_PredicateAt, List.replicate, w0, w1, w2, w3]
  by_cases c : 0 ≤ i ∧ i ≤ (x.nodes.length : Int) - 1
  · obtain ⟨n, hg⟩ : ∃ n, x.nodes[i.toNat]? = some n := ⟨_, List.getElem?_eq_getElem (by omega)⟩
    have hm := node_le (List.mem_of_getElem? hg)
    simp [c, hg, predAt, List.getD_eq_getElem?_getD]
    grind
  · simp [predAt, c]
    grind
def code_impl_PredicateAt : F := ⟨57, [.tmp 6],
 .seq (.reg [⟨some 3, .box (.t 0), none⟩,
    ⟨some 6, .mov (.k (.int .i64 0)), none⟩])
 (.seq (.reg [⟨some 10, .load 2 true (.t 3), none⟩,
     ⟨some 11, .call 86 [(.t 10)], none⟩,
     ⟨some 7, .mov (.t 11), none⟩])
  (.seq (.seq (.reg [⟨some 12, .load 2 true (.t 3), none⟩,
       ⟨some 13, .mov (.t 2), none⟩,
       ⟨some 14, .call 98 [(.t 12), (.t 13)], none⟩,
       ⟨some 15, .not (.t 14), none⟩])
    (.cond (.t 15)
     (.seq (.reg [⟨some 6, .mov (.k (.int .i64 1)), none⟩])
      (.ret))
     (.skip)))
   (.seq (.reg [⟨some 8, .mov (.k (.sl .nil 0 [])), none⟩])
    (.seq (.seq (.reg [⟨some 16, .faddr 0 (.t 3), none⟩,
         ⟨some 17, .load 1 false (.t 16), none⟩,
         ⟨some 18, .mov (.t 2), none⟩,
         ⟨some 19, .iaddr 4 (.t 17) (.t 18), none⟩,
         ⟨some 20, .load 4 true (.t 19), none⟩,
         ⟨some 9, .alloc [(.sl .nil 0 []), (.sl .nil 0 []), (.int .i64 0), (.int .i64 0)], none⟩,
         ⟨none, .store 4 (.t 9) (.t 20), none⟩])
      (.block 0 (.seq (.reg [⟨some 22, .mov (.t 1), none⟩,
           ⟨some 23, .mov (.t 7), none⟩,
           ⟨some 24, .bin .mul (.k (.int .i64 2)) (.t 23), none⟩,
           ⟨some 25, .bin .eql (.t 22) (.t 24), none⟩,
           ⟨some 21, .mov (.t 25), none⟩])
        (.cond (.t 21)
         (.seq (.reg [⟨some 26, .faddr 2 (.t 9), none⟩,
             ⟨some 27, .load 1 false (.t 26), none⟩,
             ⟨some 6, .mov (.t 27), none⟩])
          (.ret))
         (.seq (.reg [⟨some 29, .mov (.t 1), none⟩,
             ⟨some 30, .mov (.t 7), none⟩,
             ⟨some 31, .bin .sub (.t 30) (.k (.int .i64 1)), none⟩,
             ⟨some 32, .call 51 [(.t 29), (.k (.int .i64 0)), (.t 31)], none⟩,
             ⟨some 28, .mov (.t 32), none⟩])
          (.cond (.t 28)
           (.reg [⟨some 33, .faddr 0 (.t 9), none⟩,
              ⟨some 34, .load 1 false (.t 33), none⟩,
              ⟨some 8, .mov (.t 34), none⟩])
           (.seq (.reg [⟨some 36, .mov (.t 1), none⟩,
               ⟨some 37, .mov (.t 7), none⟩,
               ⟨some 38, .mov (.t 7), none⟩,
               ⟨some 39, .bin .mul (.k (.int .i64 2)) (.t 38), none⟩,
               ⟨some 40, .bin .sub (.t 39) (.k (.int .i64 1)), none⟩,
               ⟨some 41, .call 51 [(.t 36), (.t 37), (.t 40)], none⟩,
               ⟨some 35, .mov (.t 41), none⟩])
            (.cond (.t 35)
             (.reg [⟨some 42, .faddr 1 (.t 9), none⟩,
                ⟨some 43, .load 1 false (.t 42), none⟩,
                ⟨some 44, .mov (.t 1), none⟩,
                ⟨some 45, .mov (.t 7), none⟩,
                ⟨some 46, .bin .sub (.t 44) (.t 45), none⟩,
                ⟨some 8, .mov (.t 43), none⟩,
                ⟨some 1, .mov (.t 46), none⟩])
             (.skip)))))))))
     (.seq (.seq (.reg [⟨some 47, .mov (.t 1), none⟩,
          ⟨some 48, .mov (.t 8), none⟩,
          ⟨some 49, .len (.t 48), none⟩,
          ⟨some 50, .bin .sub (.t 49) (.k (.int .i64 1)), none⟩,
          ⟨some 51, .call 51 [(.t 47), (.k (.int .i64 0)), (.t 50)], none⟩,
          ⟨some 52, .not (.t 51), none⟩])
       (.cond (.t 52)
        (.seq (.reg [⟨some 6, .mov (.k (.int .i64 1)), none⟩])
         (.ret))
        (.skip)))
      (.seq (.reg [⟨some 53, .mov (.t 8), none⟩,
          ⟨some 54, .mov (.t 1), none⟩,
          ⟨some 55, .iaddr 1 (.t 53) (.t 54), none⟩,
          ⟨some 56, .load 1 false (.t 55), none⟩,
          ⟨some 6, .mov (.t 56), none⟩])
       (.ret)))))))⟩
theorem fok_impl_PredicateAt : FOk Try.prog 50 code_impl_PredicateAt := fok Try.func50 (by kernel_rfl)
@[simp] def ct_impl_PredicateAt : Ct := ⟨50, Strc × Int × Int, fun x => szStrc x.1 ≤ 1048576, fun x => [encStrc x.1, .int .i64 x.2.1, .int .i64 x.2.2], fun x => .int .i64 (predAt x.1 x.2.1 x.2.2)⟩
set_option maxRecDepth 100000 in
theorem ok_impl_PredicateAt : ct_impl_PredicateAt.Ok Try.prog := by
  rintro ⟨x, k, i⟩ hx
  change szStrc x ≤ 1048576 at hx
  refine Ok.of_cw fok_impl_PredicateAt (go_ok (tab_cons ok_variables (tab_cons ok_within (tab_cons ok_isNode tab_nil))) ?_)
  have hn := nvars_le x
  have hN : x.nodes.length ≤ szStrc x := by unfold szStrc szNodes; omega
  have w1 : IntKind.i64.wrap ((nvars x : Int) - 1) = (nvars x : Int) - 1 := by rw [wrap_i64] <;> omega
  have w2 : IntKind.i64.wrap (2 * (nvars x : Int)) = 2 * (nvars x : Int) := by rw [wrap_i64] <;> omega
  have w3 : IntKind.i64.wrap (2 * (nvars x : Int) - 1) = 2 * (nvars x : Int) - 1 := by rw [wrap_i64] <;> omega
  have w4 : (nvars x : Int) ≤ k → k ≤ 2 * (nvars x : Int) - 1 → IntKind.i64.wrap (k - nvars x) = k - nvars x := fun _ _ => by rw [wrap_i64] <;> omega
  simp [code_impl_PredicateAt, List.replicate, w1, w2, w3]
  by_cases c : 0 ≤ i ∧ i ≤ (x.nodes.length : Int) - 1
  · obtain ⟨n, hg⟩ : ∃ n, x.nodes[i.toNat]? = some n := ⟨_, List.getElem?_eq_getElem (by omega)⟩
    have hm := node_le (List.mem_of_getElem? hg)
    have w5 : IntKind.i64.wrap ((n.vars.length : Int) - 1) = (n.vars.length : Int) - 1 := by rw [wrap_i64] <;> omega
    have w6 : IntKind.i64.wrap ((n.reach.length : Int) - 1) = (n.reach.length : Int) - 1 := by rw [wrap_i64] <;> omega
    simp [c, hg, predAt, at1, w5, w6, List.getD_eq_getElem?_getD]
    grind
  · simp [predAt, c]
    grind
def code_laws_FnExactPredicateAt : F := ⟨35, [.tmp 6],
 .seq (.reg [⟨some 3, .box (.t 0), none⟩,
    ⟨some 6, .mov (.k (.bool false)), none⟩])
 (.seq (.reg [⟨some 7, .mov (.k (.int .i64 1048576)), none⟩])
  (.seq (.reg [⟨some 11, .load 2 true (.t 3), none⟩,
      ⟨some 12, .mov (.t 7), none⟩,
      ⟨some 13, .call 40 [(.t 11), (.t 12)], none⟩,
      ⟨some 7, .mov (.t 13), none⟩])
   (.seq (.seq (.reg [⟨some 14, .mov (.t 7), none⟩,
        ⟨some 15, .bin .lss (.t 14) (.k (.int .i64 0)), none⟩])
     (.cond (.t 15)
      (.seq (.reg [⟨some 6, .mov (.k (.bool true)), none⟩])
       (.ret))
      (.skip)))
    (.seq (.reg [⟨some 16, .load 2 true (.t 3), none⟩,
        ⟨some 17, .call 42 [(.t 16)], none⟩,
        ⟨some 18, .mov (.t 1), none⟩,
        ⟨some 19, .mov (.t 2), none⟩,
        ⟨some 20, .call 49 [(.t 17), (.t 18), (.t 19)], none⟩,
        ⟨some 8, .mov (.t 20), none⟩])
     (.seq (.reg [⟨some 21, .load 2 true (.t 3), none⟩,
         ⟨some 22, .call 42 [(.t 21)], none⟩,
         ⟨some 9, .alloc [(.sl .nil 0 []), (.sl .nil 0 [])], none⟩,
         ⟨none, .store 2 (.t 9) (.t 22), none⟩])
      (.seq (.reg [⟨some 23, .load 2 true (.t 9), none⟩,
          ⟨some 24, .mov (.t 1), none⟩,
          ⟨some 25, .mov (.t 2), none⟩,
          ⟨some 26, .call 50 [(.t 23), (.t 24), (.t 25)], none⟩,
          ⟨some 10, .mov (.t 26), none⟩])
       (.seq (.seq (.reg [⟨some 27, .mov (.t 10), none⟩,
            ⟨some 28, .mov (.t 8), none⟩,
            ⟨some 29, .bin .neq (.t 27) (.t 28), none⟩])
         (.cond (.t 29)
          (.seq (.reg [⟨some 6, .mov (.k (.bool false)), none⟩])
           (.ret))
          (.skip)))
        (.seq (.seq (.dreg [false, false, false, true, true] [⟨some 30, .load 2 true (.t 9), none⟩,
             ⟨some 31, .load 2 true (.t 3), none⟩,
             ⟨some 32, .call 42 [(.t 31)], none⟩,
             ⟨some 33, .call 44 [(.t 30), (.t 32)], none⟩,
             ⟨some 34, .not (.t 33), none⟩])
          (.cond (.t 34)
           (.seq (.reg [⟨some 6, .mov (.k (.bool false)), none⟩])
            (.ret))
           (.skip)))
         (.seq (.reg [⟨some 6, .mov (.k (.bool true)), none⟩])
          (.ret))))))))))⟩
theorem fok_laws_FnExactPredicateAt : FOk Try.prog 14 code_laws_FnExactPredicateAt := fok Try.func14 (by kernel_rfl)
set_option maxRecDepth 100000 in
theorem ok_lawPredicateAt (x : Strc) (k i : Int) : Ok Try.prog 14 [encStrc x, encInt k, encInt i] (.bool true) := by
  refine Ok.of_cw fok_laws_FnExactPredicateAt (go_ok (tab_cons ok_szStrc (tab_cons ok_toStrc (tab_cons ok_spec_PredicateAt (tab_cons ok_impl_PredicateAt (tab_cons ok_eqStrc tab_nil))))) ?_)
  simp [code_laws_FnExactPredicateAt, List.replicate]
  intro h
  have := left_ge0.1 h
  omega
end Go.Vm
