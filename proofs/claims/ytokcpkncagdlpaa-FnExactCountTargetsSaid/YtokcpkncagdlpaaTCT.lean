/- CountTargets. No condition. -/
import Derived.Test.YtokcpkncagdlpaaTNX
import Derived.Test.YtokcpkncagdlpaaTIXN
import Derived.Test.YtokcpkncagdlpaaTL2
set_option linter.unusedSimpArgs false
set_option linter.unusedVariables false
namespace Go.Vm
open Go.Proofs
def code_impl_focused_1 : F := ⟨23, [.tmp 3],
 .seq (.reg [⟨some 2, .box (.t 0), none⟩,
    ⟨some 3, .mov (.k (.bool false)), none⟩])
 (.seq (.reg [⟨some 4, .load 1 false (.t 1), none⟩,
     ⟨some 5, .faddr 0 (.t 2), none⟩,
     ⟨some 6, .load 1 false (.t 5), none⟩,
     ⟨some 7, .len (.t 6), none⟩,
     ⟨some 8, .bin .sub (.t 7) (.k (.int .i64 1)), none⟩,
     ⟨some 9, .call 66 [(.t 4), (.k (.int .i64 0)), (.t 8)], none⟩,
     ⟨some 10, .mov (.t 9), none⟩,
     ⟨some 11, .faddr 0 (.t 2), some (10, true)⟩,
     ⟨some 12, .load 1 false (.t 11), some (10, true)⟩,
     ⟨some 13, .load 1 false (.t 1), some (10, true)⟩,
     ⟨some 14, .iaddr 1 (.t 12) (.t 13), some (10, true)⟩,
     ⟨some 15, .load 1 false (.t 14), some (10, true)⟩,
     ⟨some 16, .bin .eql (.t 15) (.k (.int .i64 2)), some (10, true)⟩,
     ⟨some 17, .pick (.t 10) (.t 16) (.k (.bool false)), none⟩,
     ⟨some 18, .mov (.t 17), none⟩,
     ⟨some 19, .faddr 3 (.t 2), some (18, true)⟩,
     ⟨some 20, .load 1 false (.t 19), some (18, true)⟩,
     ⟨some 21, .bin .eql (.t 20) (.k (.int .i64 0)), some (18, true)⟩,
     ⟨some 22, .pick (.t 18) (.t 21) (.k (.bool false)), none⟩,
     ⟨some 3, .mov (.t 22), none⟩])
  (.ret))⟩
theorem fok_impl_focused_1 : FOk Try.prog 151 code_impl_focused_1 := fok Try.func151 (by kernel_rfl)
def code_impl_focused : F := ⟨36, [.tmp 4, .tmp 5],
 .seq (.reg [⟨some 2, .box (.t 0), none⟩,
    ⟨some 3, .box (.t 1), none⟩,
    ⟨some 4, .mov (.k (.int .i64 0)), none⟩,
    ⟨some 5, .mov (.k (.sl .nil 0 [])), none⟩])
 (.seq (.reg [⟨some 9, .faddr 0 (.t 2), none⟩,
     ⟨some 10, .load 1 false (.t 9), none⟩,
     ⟨some 11, .mkfn 151 [(.t 3)], none⟩,
     ⟨some 12, .call 150 [(.t 10), (.t 11)], none⟩,
     ⟨some 6, .mov (.t 12), none⟩])
  (.seq (.reg [⟨some 13, .bsl 3 1 0 (.int .i64 0) [], none⟩,
      ⟨some 7, .mov (.t 13), none⟩])
   (.seq (.seq (.reg [⟨some 14, .faddr 0 (.t 2), none⟩,
        ⟨some 15, .load 1 false (.t 14), none⟩,
        ⟨some 16, .len (.t 15), none⟩,
        ⟨some 17, .mov (.k (.int .i64 0)), none⟩])
     (.block 0 (.loop (.seq (.reg [⟨some 18, .bin .lss (.t 17) (.t 16), none⟩])
        (.seq (.cond (.t 18)
          (.skip)
          (.exit 0))
         (.seq (.block 1 (.seq (.reg [⟨some 19, .mov (.t 17), none⟩,
               ⟨some 8, .mov (.t 19), none⟩])
            (.seq (.reg [⟨some 20, .mov (.t 6), none⟩,
                ⟨some 21, .bin .geq (.t 20) (.k (.int .i64 0)), none⟩,
                ⟨some 22, .mov (.t 21), none⟩,
                ⟨some 23, .load 2 true (.t 2), some (22, true)⟩,
                ⟨some 24, .mov (.t 6), some (22, true)⟩,
                ⟨some 25, .mov (.t 8), some (22, true)⟩,
                ⟨some 26, .call 152 [(.t 23), (.t 24), (.t 25)], some (22, true)⟩,
                ⟨some 27, .bin .neq (.t 26) (.k (.int .i64 0)), some (22, true)⟩,
                ⟨some 28, .pick (.t 22) (.t 27) (.k (.bool false)), none⟩])
             (.cond (.t 28)
              (.reg [⟨some 29, .mov (.t 7), none⟩,
                 ⟨some 30, .mov (.t 8), none⟩,
                 ⟨some 31, .bsl 3 1 1 (.int .i64 0) [(0, (.t 30))], none⟩,
                 ⟨some 32, .append 3 1 8 (.t 29) (.t 31), none⟩,
                 ⟨some 7, .mov (.t 32), none⟩])
              (.skip)))))
          (.reg [⟨some 33, .bin .add (.t 17) (.k (.int .i64 1)), none⟩,
             ⟨some 17, .mov (.t 33), none⟩])))))))
    (.seq (.reg [⟨some 34, .mov (.t 6), none⟩,
        ⟨some 35, .mov (.t 7), none⟩,
        ⟨some 4, .mov (.t 34), none⟩,
        ⟨some 5, .mov (.t 35), none⟩])
     (.ret)))))⟩
theorem fok_impl_focused : FOk Try.prog 97 code_impl_focused := fok Try.func97 (by kernel_rfl)
def code_spec_l19Cell : F := ⟨32, [.tmp 4],
 .seq (.reg [⟨some 2, .box (.t 0), none⟩,
    ⟨some 4, .mov (.k (.int .i64 0)), none⟩])
 (.seq (.seq (.reg [⟨some 5, .mov (.k (.int .i64 0)), none⟩])
   (.block 0 (.loop (.seq (.seq (.reg [⟨some 6, .mov (.t 5), none⟩,
          ⟨some 7, .faddr 0 (.t 2), none⟩,
          ⟨some 8, .load 1 false (.t 7), none⟩,
          ⟨some 9, .len (.t 8), none⟩,
          ⟨some 10, .bin .lss (.t 6) (.t 9), none⟩])
       (.cond (.t 10)
        (.skip)
        (.exit 0)))
      (.seq (.block 1 (.seq (.reg [⟨some 13, .faddr 0 (.t 2), none⟩,
            ⟨some 14, .load 1 false (.t 13), none⟩,
            ⟨some 15, .mov (.t 5), none⟩,
            ⟨some 16, .iaddr 4 (.t 14) (.t 15), none⟩,
            ⟨some 17, .faddr 0 (.t 16), none⟩,
            ⟨some 18, .load 1 false (.t 17), none⟩,
            ⟨some 19, .mov (.t 1), none⟩,
            ⟨some 20, .call 141 [(.t 18), (.t 19)], none⟩,
            ⟨some 21, .bin .eql (.t 20) (.k (.int .i64 2)), none⟩,
            ⟨some 22, .mov (.t 21), none⟩,
            ⟨some 23, .faddr 0 (.t 2), some (22, true)⟩,
            ⟨some 24, .load 1 false (.t 23), some (22, true)⟩,
            ⟨some 25, .mov (.t 5), some (22, true)⟩,
            ⟨some 26, .iaddr 4 (.t 24) (.t 25), some (22, true)⟩,
            ⟨some 27, .faddr 3 (.t 26), some (22, true)⟩,
            ⟨some 28, .load 1 false (.t 27), some (22, true)⟩,
            ⟨some 29, .bin .eql (.t 28) (.k (.int .i64 0)), some (22, true)⟩,
            ⟨some 30, .pick (.t 22) (.t 29) (.k (.bool false)), none⟩])
         (.cond (.t 30)
          (.seq (.reg [⟨some 31, .mov (.t 5), none⟩,
              ⟨some 4, .mov (.t 31), none⟩])
           (.ret))
          (.skip))))
       (.reg [⟨some 11, .mov (.t 5), none⟩,
          ⟨some 12, .bin .add (.t 11) (.k (.int .i64 1)), none⟩,
          ⟨some 5, .mov (.t 12), none⟩]))))))
  (.seq (.reg [⟨some 4, .mov (.k (.int .i64 (-1))), none⟩])
   (.ret)))⟩
theorem fok_spec_l19Cell : FOk Try.prog 95 code_spec_l19Cell := fok Try.func95 (by kernel_rfl)
def code_spec_l19Targets : F := ⟨25, [.tmp 4],
 .seq (.reg [⟨some 2, .box (.t 0), none⟩,
    ⟨some 4, .mov (.k (.sl .nil 0 [])), none⟩])
 (.seq (.reg [⟨some 7, .bsl 3 1 0 (.int .i64 0) [], none⟩,
     ⟨some 5, .mov (.t 7), none⟩])
  (.seq (.seq (.reg [⟨some 6, .mov (.k (.int .i64 0)), none⟩])
    (.block 0 (.loop (.seq (.seq (.reg [⟨some 8, .mov (.t 6), none⟩,
           ⟨some 9, .faddr 0 (.t 2), none⟩,
           ⟨some 10, .load 1 false (.t 9), none⟩,
           ⟨some 11, .len (.t 10), none⟩,
           ⟨some 12, .bin .lss (.t 8) (.t 11), none⟩])
        (.cond (.t 12)
         (.skip)
         (.exit 0)))
       (.seq (.block 1 (.seq (.reg [⟨some 15, .load 2 true (.t 2), none⟩,
             ⟨some 16, .mov (.t 1), none⟩,
             ⟨some 17, .mov (.t 6), none⟩,
             ⟨some 18, .call 149 [(.t 15), (.t 16), (.t 17)], none⟩,
             ⟨some 19, .bin .neq (.t 18) (.k (.int .i64 0)), none⟩])
          (.cond (.t 19)
           (.reg [⟨some 20, .mov (.t 5), none⟩,
              ⟨some 21, .mov (.t 6), none⟩,
              ⟨some 22, .bsl 3 1 1 (.int .i64 0) [(0, (.t 21))], none⟩,
              ⟨some 23, .append 3 1 8 (.t 20) (.t 22), none⟩,
              ⟨some 5, .mov (.t 23), none⟩])
           (.skip))))
        (.reg [⟨some 13, .mov (.t 6), none⟩,
           ⟨some 14, .bin .add (.t 13) (.k (.int .i64 1)), none⟩,
           ⟨some 6, .mov (.t 14), none⟩]))))))
   (.seq (.reg [⟨some 24, .mov (.t 5), none⟩,
       ⟨some 4, .mov (.t 24), none⟩])
    (.ret))))⟩
theorem fok_spec_l19Targets : FOk Try.prog 96 code_spec_l19Targets := fok Try.func96 (by kernel_rfl)
def code_spec_CountTargets : F := ⟨15, [.tmp 4],
 .seq (.reg [⟨some 2, .box (.t 0), none⟩,
    ⟨some 4, .mov (.k (.int .i64 0)), none⟩])
 (.seq (.reg [⟨some 6, .load 2 true (.t 2), none⟩,
     ⟨some 7, .mov (.t 1), none⟩,
     ⟨some 8, .call 95 [(.t 6), (.t 7)], none⟩,
     ⟨some 5, .mov (.t 8), none⟩])
  (.seq (.seq (.reg [⟨some 9, .mov (.t 5), none⟩,
       ⟨some 10, .bin .lss (.t 9) (.k (.int .i64 0)), none⟩])
    (.cond (.t 10)
     (.seq (.reg [⟨some 4, .mov (.k (.int .i64 0)), none⟩])
      (.ret))
     (.skip)))
   (.seq (.reg [⟨some 11, .load 2 true (.t 2), none⟩,
       ⟨some 12, .mov (.t 5), none⟩,
       ⟨some 13, .call 96 [(.t 11), (.t 12)], none⟩,
       ⟨some 14, .len (.t 13), none⟩,
       ⟨some 4, .mov (.t 14), none⟩])
    (.ret))))⟩
theorem fok_spec_CountTargets : FOk Try.prog 38 code_spec_CountTargets := fok Try.func38 (by kernel_rfl)
def code_impl_CountTargets : F := ⟨15, [.tmp 4],
 .seq (.reg [⟨some 2, .box (.t 0), none⟩,
    ⟨some 4, .mov (.k (.int .i64 0)), none⟩])
 (.seq (.reg [⟨some 8, .load 2 true (.t 2), none⟩,
     ⟨some 9, .mov (.t 1), none⟩,
     ⟨some 10, .call 97 [(.t 8), (.t 9)], none⟩,
     ⟨some 7, .mov (.t 10), none⟩,
     ⟨some 11, .extr (.t 7) 0, none⟩,
     ⟨some 12, .extr (.t 7) 1, none⟩,
     ⟨some 5, .mov (.t 11), none⟩,
     ⟨some 6, .mov (.t 12), none⟩])
  (.seq (.reg [⟨some 13, .mov (.t 6), none⟩,
      ⟨some 14, .len (.t 13), none⟩,
      ⟨some 4, .mov (.t 14), none⟩])
   (.ret)))⟩
theorem fok_impl_CountTargets : FOk Try.prog 39 code_impl_CountTargets := fok Try.func39 (by kernel_rfl)
/-- A node that is surely the one of a variable. -/
def isPt (k : Int) (n : Node) : Bool := decide (at1 n.vars k = 2) && decide (n.many = 0)
@[simp] def ct_focused1 : Ct := ⟨151, Node × Int, fun x => x.1.vars.length ≤ 1048576, fun x => [encNode x.1, .pro [.int .i64 x.2]], fun x => .bool (isPt x.2 x.1)⟩
theorem ok_focused1 : ct_focused1.Ok Try.prog := by
  rintro ⟨⟨a, b, c, d⟩, k⟩ hx
  change a.length ≤ 1048576 at hx
  have hw : IntKind.i64.wrap ((a.length : Int) - 1) = (a.length : Int) - 1 := by rw [wrap_i64] <;> omega
  refine Ok.of_cw fok_impl_focused_1 (go_ok (tab_cons ok_within tab_nil) ?_)
  by_cases h : 0 ≤ k ∧ k ≤ (a.length : Int) - 1
  · have h1 : k < a.length := by omega
    have h2 : k.toNat < a.length := by omega
    have h3 : ¬ ((a.length : Int) - 1 < k) := by omega
    by_cases p1 : a[k.toNat] = 2
    · simp [code_impl_focused_1, List.replicate, hw, isPt, at1, h.1, h.2, h1, h2, h3, p1]
    · simp [code_impl_focused_1, List.replicate, hw, isPt, at1, h.1, h.2, h1, h2, h3, p1]
  · have h1 : ¬ (0 ≤ k ∧ k < a.length) := by omega
    simp [code_impl_focused_1, List.replicate, hw, isPt, at1, h1]
    exact fun x y => absurd ⟨x, y⟩ h
@[simp] def ct_l19Cell : Ct := ⟨95, Strc × Int, fun x => szStrc x.1 ≤ 1048576, fun x => [encStrc x.1, .int .i64 x.2], fun x => .int .i64 (findI (isPt x.2) x.1.nodes)⟩
set_option maxHeartbeats 1000000 in
theorem ok_l19Cell : ct_l19Cell.Ok Try.prog := by
  rintro ⟨x, k⟩ hx
  change szStrc x ≤ 1048576 at hx
  have hs := strc_le x
  refine Ok.of_cw fok_spec_l19Cell (go_ok tab_nil ?_)
  simp [code_spec_l19Cell, List.replicate]
  refine cw_round (fun (i : Nat) => ⟨slots 32 [(1, .int .i64 k), (2, .pbox 0 0), (5, .int .i64 i)], [.cells [encL 4 encNode x.nodes, encL 1 encInt x.next]]⟩)
    (fun i => i ≤ x.nodes.length ∧ noHit (isPt k) x.nodes i) (fun i => x.nodes.length - i) 0 ⟨by omega, noHit_zero⟩ ?_ ?_
  · exact weak_seal 1 (by omega) (by simp) (by simp [List.replicate])
  · rintro N hN i ⟨hi, hn⟩
    have hw : IntKind.i64.wrap ((i : Int) + 1) = ((i + 1 : Nat) : Int) := by rw [wrap_i64] <;> omega
    refine go_ok (tab_cons ok_l13At tab_nil) ?_
    by_cases h : i < x.nodes.length
    · have h2 : ¬ x.nodes.length ≤ i := by omega
      have hm := node_le (List.getElem_mem h)
      have hm1 : x.nodes[i].vars.length ≤ 1048576 := by omega
      by_cases p1 : at1 x.nodes[i].vars k = 2
      · by_cases p2 : x.nodes[i].many = 0
        · simp [List.replicate, hw, h, h2, hm1, p1, p2]
          rw [findI_hit hn h (by simp [isPt, p1, p2])]
        · simp [List.replicate, hw, h, h2, hm1, p1, p2]
          refine hN _ (i + 1) _ ⟨by omega, noHit_succ hn h (by simp [isPt, p2])⟩ (by omega) (weak_seal 1 (by omega) ?_ ?_)
          · simp
          · simp [List.replicate]
      · simp [List.replicate, hw, h, h2, hm1, p1]
        refine hN _ (i + 1) _ ⟨by omega, noHit_succ hn h (by simp [isPt, p1])⟩ (by omega) (weak_seal 1 (by omega) ?_ ?_)
        · simp
        · simp [List.replicate]
    · have h2 : x.nodes.length ≤ i := by omega
      simp [List.replicate, h, h2]
      rw [findI_none hn h2]
/-- The targets of a node. -/
def targetsTo (x : Strc) (b : Int) (k : Nat) : List Int := ((List.range k).filter fun (j : Nat) => nextOf x b j != 0).map Int.ofNat
theorem targets_hit {x : Strc} {b : Int} {k : Nat} (h : ¬ nextOf x b k = 0) : targetsTo x b (k + 1) = targetsTo x b k ++ [(k : Int)] := by
  have : (nextOf x b (k : Nat) != 0) = true := by simp [h]
  simp [targetsTo, List.range_succ, List.filter_append, this]
theorem targets_miss {x : Strc} {b : Int} {k : Nat} (h : nextOf x b k = 0) : targetsTo x b (k + 1) = targetsTo x b k := by
  have : (nextOf x b (k : Nat) != 0) = false := by simp [h]
  simp [targetsTo, List.range_succ, List.filter_append, this]
theorem targets_len {x : Strc} {b : Int} {k : Nat} : (targetsTo x b k).length ≤ k := by
  have := List.length_filter_le (fun (j : Nat) => nextOf x b j != 0) (List.range k)
  simpa [targetsTo] using this
@[simp] def ct_l19Targets : Ct := ⟨96, Strc × Int, fun x => szStrc x.1 ≤ 1048576, fun x => [encStrc x.1, .int .i64 x.2], fun x => encL 1 encInt (targetsTo x.1 x.2 x.1.nodes.length)⟩
set_option maxHeartbeats 1000000 in
theorem ok_l19Targets : ct_l19Targets.Ok Try.prog := by
  rintro ⟨x, b⟩ hx
  change szStrc x ≤ 1048576 at hx
  have hs := strc_le x
  refine Ok.of_cw fok_spec_l19Targets (go_ok tab_nil ?_)
  simp [code_spec_l19Targets, List.replicate]
  refine cw_round (fun (i : Nat) => ⟨slots 25 [(1, .int .i64 b), (2, .pbox 0 0), (5, .slref 1 0 (targetsTo x b i).length (targetsTo x b i).length), (6, .int .i64 i)], [.cells [encL 4 encNode x.nodes, encL 1 encInt x.next], .row true 3 1 ((targetsTo x b i).map encInt)]⟩)
    (fun i => i ≤ x.nodes.length) (fun i => x.nodes.length - i) 0 (by omega) ?_ ?_
  · exact weak_seal 2 (by omega) (by simp [targetsTo]) (by simp [List.replicate, targetsTo])
  · rintro N hN i hi
    have hw : IntKind.i64.wrap ((i : Int) + 1) = ((i + 1 : Nat) : Int) := by rw [wrap_i64] <;> omega
    have hp := targets_len (x := x) (b := b) (k := i)
    have hb : ((targetsTo x b i).length + 1) * 8 ≤ 140737488355328 := by omega
    refine go_ok (tab_cons ok_sNextOf tab_nil) ?_
    by_cases h : i < x.nodes.length
    · have h2 : ¬ x.nodes.length ≤ i := by omega
      by_cases p : nextOf x b i = 0
      · simp [List.replicate, hw, h, h2, hx, p]
        refine hN _ (i + 1) _ (by omega) (by omega) (weak_seal 2 (by omega) ?_ ?_)
        · simp [targets_miss p]
        · simp [List.replicate, targets_miss p]
      · simp [List.replicate, hw, h, h2, hx, p, hb, app1]
        refine hN _ (i + 1) _ (by omega) (by omega) (weak_seal 2 (by omega) ?_ ?_)
        · simp [targets_hit p]
        · simp [List.replicate, targets_hit p]
    · have e : i = x.nodes.length := by omega
      subst e
      simp [List.replicate]
def countTargets (x : Strc) (k : Int) : Int := if findI (isPt k) x.nodes < 0 then 0 else (targetsTo x (findI (isPt k) x.nodes) x.nodes.length).length
@[simp] def ct_sCountTargets : Ct := ⟨38, Strc × Int, fun x => szStrc x.1 ≤ 1048576, fun x => [encStrc x.1, .int .i64 x.2], fun x => .int .i64 (countTargets x.1 x.2)⟩
theorem ok_sCountTargets : ct_sCountTargets.Ok Try.prog := by
  rintro ⟨x, k⟩ hx
  change szStrc x ≤ 1048576 at hx
  refine Ok.of_cw fok_spec_CountTargets (go_ok (tab_cons ok_l19Cell (tab_cons ok_l19Targets tab_nil)) ?_)
  simp [code_spec_CountTargets, List.replicate, hx, countTargets]
  grind
/-- The node whose next cell is looked for, and its targets. -/
def focusT (x : Strc) (k : Int) : List Int := if findI (isPt k) x.nodes < 0 then [] else targetsTo x (findI (isPt k) x.nodes) x.nodes.length
@[simp] def ct_focused : Ct := ⟨97, Strc × Int, fun x => szStrc x.1 ≤ 1048576, fun x => [encStrc x.1, .int .i64 x.2], fun x => .tup [.int .i64 (findI (isPt x.2) x.1.nodes), encL 1 encInt (focusT x.1 x.2)]⟩
set_option maxHeartbeats 2000000 in
theorem ok_focused : ct_focused.Ok Try.prog := by
  rintro ⟨x, k⟩ hx
  change szStrc x ≤ 1048576 at hx
  have hs := strc_le x
  have hc : callable Try.prog 151 = true := by kernel_rfl
  refine Ok.of_cw fok_impl_focused (go_ok (tab_cons ok_IndexFuncN tab_nil) ?_)
  simp [code_impl_focused, List.replicate, hc]
  refine ⟨rfl, isPt k, fun n hn => ok_focused1 (n, k) (by have := node_le hn; show n.vars.length ≤ 1048576; omega), ?_⟩
  generalize hB : findI (isPt k) x.nodes = B
  have hfo : focusT x k = if B < 0 then [] else targetsTo x B x.nodes.length := by rw [← hB]; rfl
  rw [hfo]
  refine cw_round (fun (i : Nat) => ⟨slots 36 [(2, .pbox 0 0), (6, .int .i64 B), (7, .slref 2 0 (if B < 0 then [] else targetsTo x B i).length (if B < 0 then [] else targetsTo x B i).length), (15, encL 4 encNode x.nodes), (16, .int .i64 x.nodes.length), (17, .int .i64 i)], [.cells [encL 4 encNode x.nodes, encL 1 encInt x.next], .dead, .row true 3 1 ((if B < 0 then [] else targetsTo x B i).map encInt)]⟩)
    (fun i => i ≤ x.nodes.length) (fun i => x.nodes.length - i) 0 (by omega) ?_ ?_
  · exact weak_seal 3 (by omega) (by by_cases b : B < 0 <;> simp [targetsTo, b]) (by by_cases b : B < 0 <;> simp [List.replicate, targetsTo, b])
  · rintro N hN i hi
    have hw : IntKind.i64.wrap ((i : Int) + 1) = ((i + 1 : Nat) : Int) := by rw [wrap_i64] <;> omega
    have hp := targets_len (x := x) (b := B) (k := i)
    have hb : ((targetsTo x B i).length + 1) * 8 ≤ 140737488355328 := by omega
    refine go_ok (tab_cons ok_pNextOf tab_nil) ?_
    by_cases h : i < x.nodes.length
    · by_cases b : B < 0
      · have b2 : ¬ 0 ≤ B := by omega
        simp [List.replicate, hw, h, b, b2]
        refine hN i (i + 1) _ (by omega) (by omega) (weak_seal 3 (by omega) ?_ ?_)
        · simp [b]
        · simp [List.replicate, b]
      · have b2 : 0 ≤ B := by omega
        by_cases p : nextOf x B i = 0
        · simp [List.replicate, hw, h, hx, b, b2, p]
          refine hN i (i + 1) _ (by omega) (by omega) (weak_seal 3 (by omega) ?_ ?_)
          · simp [targets_miss p, b]
          · simp [List.replicate, targets_miss p, b]
        · simp [List.replicate, hw, h, hx, b, b2, p, hb, app1]
          refine hN i (i + 1) _ (by omega) (by omega) (weak_seal 3 (by omega) ?_ ?_)
          · simp [targets_hit p, b]
          · simp [List.replicate, targets_hit p, b]
    · have e : i = x.nodes.length := by omega
      subst e
      simp [List.replicate]
@[simp] def ct_pCountTargets : Ct := ⟨39, Strc × Int, fun x => szStrc x.1 ≤ 1048576, fun x => [encStrc x.1, .int .i64 x.2], fun x => .int .i64 (countTargets x.1 x.2)⟩
theorem ok_pCountTargets : ct_pCountTargets.Ok Try.prog := by
  rintro ⟨x, k⟩ hx
  change szStrc x ≤ 1048576 at hx
  refine Ok.of_cw fok_impl_CountTargets (go_ok (tab_cons ok_focused tab_nil) ?_)
  simp [code_impl_CountTargets, List.replicate, hx, countTargets, focusT]
  split <;> simp
def code_laws_FnExactCountTargets : F := ⟨31, [.tmp 4],
 .seq (.reg [⟨some 2, .box (.t 0), none⟩,
    ⟨some 4, .mov (.k (.bool false)), none⟩])
 (.seq (.reg [⟨some 5, .mov (.k (.int .i64 1048576)), none⟩])
  (.seq (.reg [⟨some 9, .load 2 true (.t 2), none⟩,
      ⟨some 10, .mov (.t 5), none⟩,
      ⟨some 11, .call 22 [(.t 9), (.t 10)], none⟩,
      ⟨some 5, .mov (.t 11), none⟩])
   (.seq (.seq (.reg [⟨some 12, .mov (.t 5), none⟩,
        ⟨some 13, .bin .lss (.t 12) (.k (.int .i64 0)), none⟩])
     (.cond (.t 13)
      (.seq (.reg [⟨some 4, .mov (.k (.bool true)), none⟩])
       (.ret))
      (.skip)))
    (.seq (.reg [⟨some 14, .load 2 true (.t 2), none⟩,
        ⟨some 15, .call 24 [(.t 14)], none⟩,
        ⟨some 16, .mov (.t 1), none⟩,
        ⟨some 17, .call 38 [(.t 15), (.t 16)], none⟩,
        ⟨some 6, .mov (.t 17), none⟩])
     (.seq (.reg [⟨some 18, .load 2 true (.t 2), none⟩,
         ⟨some 19, .call 24 [(.t 18)], none⟩,
         ⟨some 7, .alloc [(.sl .nil 0 []), (.sl .nil 0 [])], none⟩,
         ⟨none, .store 2 (.t 7) (.t 19), none⟩])
      (.seq (.reg [⟨some 20, .load 2 true (.t 7), none⟩,
          ⟨some 21, .mov (.t 1), none⟩,
          ⟨some 22, .call 39 [(.t 20), (.t 21)], none⟩,
          ⟨some 8, .mov (.t 22), none⟩])
       (.seq (.seq (.reg [⟨some 23, .mov (.t 8), none⟩,
            ⟨some 24, .mov (.t 6), none⟩,
            ⟨some 25, .bin .neq (.t 23) (.t 24), none⟩])
         (.cond (.t 25)
          (.seq (.reg [⟨some 4, .mov (.k (.bool false)), none⟩])
           (.ret))
          (.skip)))
        (.seq (.seq (.dreg [false, false, false, true, true] [⟨some 26, .load 2 true (.t 7), none⟩,
             ⟨some 27, .load 2 true (.t 2), none⟩,
             ⟨some 28, .call 24 [(.t 27)], none⟩,
             ⟨some 29, .call 26 [(.t 26), (.t 28)], none⟩,
             ⟨some 30, .not (.t 29), none⟩])
          (.cond (.t 30)
           (.seq (.reg [⟨some 4, .mov (.k (.bool false)), none⟩])
            (.ret))
           (.skip)))
         (.seq (.reg [⟨some 4, .mov (.k (.bool true)), none⟩])
          (.ret))))))))))⟩
theorem fok_laws_FnExactCountTargets : FOk Try.prog 9 code_laws_FnExactCountTargets := fok Try.func9 (by kernel_rfl)
set_option maxRecDepth 100000 in
theorem ok_lawCountTargets (x : Strc) (k : Int) : Ok Try.prog 9 [encStrc x, encInt k] (.bool true) := by
  refine Ok.of_cw fok_laws_FnExactCountTargets (go_ok (tab_cons ok_szStrc (tab_cons ok_toStrc (tab_cons ok_sCountTargets (tab_cons ok_pCountTargets (tab_cons ok_eqStrc tab_nil))))) ?_)
  simp [code_laws_FnExactCountTargets, List.replicate]
  intro h
  have := left_ge0.1 h
  omega
end Go.Vm
