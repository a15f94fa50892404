/- What the laws' copies and comparisons answer. No condition. -/
import Derived.Test.YtmakeoekklcbdaaTS
set_option linter.unusedSimpArgs false
set_option linter.unusedVariables false
namespace Go.Vm
open Go.Proofs
def code_laws_toIntS : F := ⟨22, [.tmp 2],
 .seq (.reg [⟨some 2, .mov (.k (.sl .nil 0 [])), none⟩])
 (.seq (.reg [⟨some 5, .mov (.t 0), none⟩,
     ⟨some 6, .len (.t 5), none⟩,
     ⟨some 7, .mksl 3 1 8 (.int .i64 0) (.t 6) (.t 6), none⟩,
     ⟨some 3, .mov (.t 7), none⟩])
  (.seq (.seq (.reg [⟨some 4, .mov (.k (.int .i64 0)), none⟩])
    (.block 0 (.loop (.seq (.seq (.reg [⟨some 8, .mov (.t 4), none⟩,
           ⟨some 9, .mov (.t 0), none⟩,
           ⟨some 10, .len (.t 9), none⟩,
           ⟨some 11, .bin .lss (.t 8) (.t 10), none⟩])
        (.cond (.t 11)
         (.skip)
         (.exit 0)))
       (.seq (.block 1 (.reg [⟨some 14, .mov (.t 3), none⟩,
            ⟨some 15, .mov (.t 4), none⟩,
            ⟨some 16, .mov (.t 0), none⟩,
            ⟨some 17, .mov (.t 4), none⟩,
            ⟨some 18, .iaddr 1 (.t 16) (.t 17), none⟩,
            ⟨some 19, .load 1 false (.t 18), none⟩,
            ⟨some 20, .iaddr 1 (.t 14) (.t 15), none⟩,
            ⟨none, .store 1 (.t 20) (.t 19), none⟩]))
        (.reg [⟨some 12, .mov (.t 4), none⟩,
           ⟨some 13, .bin .add (.t 12) (.k (.int .i64 1)), none⟩,
           ⟨some 4, .mov (.t 13), none⟩]))))))
   (.seq (.reg [⟨some 21, .mov (.t 3), none⟩,
       ⟨some 2, .mov (.t 21), none⟩])
    (.ret))))⟩
theorem fok_laws_toIntS : FOk Try.prog 62 code_laws_toIntS := fok Try.func62 (by kernel_rfl)
def code_laws_toNode : F := ⟨19, [.cell 4 true 2],
 .seq (.reg [⟨some 1, .box (.t 0), none⟩,
    ⟨some 2, .alloc [(.sl .nil 0 []), (.sl .nil 0 []), (.int .i64 0), (.int .i64 0)], none⟩])
 (.seq (.reg [⟨some 3, .alloc [(.sl .nil 0 []), (.sl .nil 0 []), (.int .i64 0), (.int .i64 0)], none⟩])
  (.seq (.reg [⟨some 4, .faddr 0 (.t 1), none⟩,
      ⟨some 5, .load 1 false (.t 4), none⟩,
      ⟨some 6, .call 62 [(.t 5)], none⟩,
      ⟨some 7, .faddr 0 (.t 3), none⟩,
      ⟨none, .store 1 (.t 7) (.t 6), none⟩])
   (.seq (.reg [⟨some 8, .faddr 1 (.t 1), none⟩,
       ⟨some 9, .load 1 false (.t 8), none⟩,
       ⟨some 10, .call 62 [(.t 9)], none⟩,
       ⟨some 11, .faddr 1 (.t 3), none⟩,
       ⟨none, .store 1 (.t 11) (.t 10), none⟩])
    (.seq (.reg [⟨some 12, .faddr 2 (.t 1), none⟩,
        ⟨some 13, .load 1 false (.t 12), none⟩,
        ⟨some 14, .faddr 2 (.t 3), none⟩,
        ⟨none, .store 1 (.t 14) (.t 13), none⟩])
     (.seq (.reg [⟨some 15, .faddr 3 (.t 1), none⟩,
         ⟨some 16, .load 1 false (.t 15), none⟩,
         ⟨some 17, .faddr 3 (.t 3), none⟩,
         ⟨none, .store 1 (.t 17) (.t 16), none⟩])
      (.seq (.reg [⟨some 18, .load 4 true (.t 3), none⟩,
          ⟨none, .store 4 (.t 2) (.t 18), none⟩])
       (.ret)))))))⟩
theorem fok_laws_toNode : FOk Try.prog 153 code_laws_toNode := fok Try.func153 (by kernel_rfl)
def code_laws_toNodeS : F := ⟨23, [.tmp 2],
 .seq (.reg [⟨some 2, .mov (.k (.sl .nil 0 [])), none⟩])
 (.seq (.reg [⟨some 5, .mov (.t 0), none⟩,
     ⟨some 6, .len (.t 5), none⟩,
     ⟨some 7, .mksl 85 4 64 (.agg [(.sl .nil 0 []), (.sl .nil 0 []), (.int .i64 0), (.int .i64 0)]) (.t 6) (.t 6), none⟩,
     ⟨some 3, .mov (.t 7), none⟩])
  (.seq (.seq (.reg [⟨some 4, .mov (.k (.int .i64 0)), none⟩])
    (.block 0 (.loop (.seq (.seq (.reg [⟨some 8, .mov (.t 4), none⟩,
           ⟨some 9, .mov (.t 0), none⟩,
           ⟨some 10, .len (.t 9), none⟩,
           ⟨some 11, .bin .lss (.t 8) (.t 10), none⟩])
        (.cond (.t 11)
         (.skip)
         (.exit 0)))
       (.seq (.block 1 (.reg [⟨some 14, .mov (.t 3), none⟩,
            ⟨some 15, .mov (.t 4), none⟩,
            ⟨some 16, .mov (.t 0), none⟩,
            ⟨some 17, .mov (.t 4), none⟩,
            ⟨some 18, .iaddr 4 (.t 16) (.t 17), none⟩,
            ⟨some 19, .load 4 true (.t 18), none⟩,
            ⟨some 20, .call 153 [(.t 19)], none⟩,
            ⟨some 21, .iaddr 4 (.t 14) (.t 15), none⟩,
            ⟨none, .store 4 (.t 21) (.t 20), none⟩]))
        (.reg [⟨some 12, .mov (.t 4), none⟩,
           ⟨some 13, .bin .add (.t 12) (.k (.int .i64 1)), none⟩,
           ⟨some 4, .mov (.t 13), none⟩]))))))
   (.seq (.reg [⟨some 22, .mov (.t 3), none⟩,
       ⟨some 2, .mov (.t 22), none⟩])
    (.ret))))⟩
theorem fok_laws_toNodeS : FOk Try.prog 61 code_laws_toNodeS := fok Try.func61 (by kernel_rfl)
def code_laws_toStructure : F := ⟨13, [.cell 2 true 2],
 .seq (.reg [⟨some 1, .box (.t 0), none⟩,
    ⟨some 2, .alloc [(.sl .nil 0 []), (.sl .nil 0 [])], none⟩])
 (.seq (.reg [⟨some 3, .alloc [(.sl .nil 0 []), (.sl .nil 0 [])], none⟩])
  (.seq (.reg [⟨some 4, .faddr 0 (.t 1), none⟩,
      ⟨some 5, .load 1 false (.t 4), none⟩,
      ⟨some 6, .call 61 [(.t 5)], none⟩,
      ⟨some 7, .faddr 0 (.t 3), none⟩,
      ⟨none, .store 1 (.t 7) (.t 6), none⟩])
   (.seq (.reg [⟨some 8, .faddr 1 (.t 1), none⟩,
       ⟨some 9, .load 1 false (.t 8), none⟩,
       ⟨some 10, .call 62 [(.t 9)], none⟩,
       ⟨some 11, .faddr 1 (.t 3), none⟩,
       ⟨none, .store 1 (.t 11) (.t 10), none⟩])
    (.seq (.reg [⟨some 12, .load 2 true (.t 3), none⟩,
        ⟨none, .store 2 (.t 2) (.t 12), none⟩])
     (.ret)))))⟩
theorem fok_laws_toStructure : FOk Try.prog 14 code_laws_toStructure := fok Try.func14 (by kernel_rfl)

@[simp] def ct_toIntS : Ct := ⟨62, List Int, fun xs => xs.length ≤ 1048576, fun xs => [encL 1 encInt xs], fun xs => encL 1 encInt xs⟩
theorem ok_toIntS : ct_toIntS.Ok Try.prog := by
  intro xs hx
  change List Int at xs
  change xs.length ≤ 1048576 at hx
  refine Ok.of_cw fok_laws_toIntS (go_ok tab_nil ?_)
  simp [code_laws_toIntS, List.replicate]
  refine ⟨by omega, by omega, ?_⟩
  refine cw_round (fun (p : Nat × List Int) => ⟨slots 22 [(0, encL 1 encInt xs), (3, .slref 0 0 p.2.length p.2.length), (4, .int .i64 p.1)], [.row true 3 1 (p.2.map encInt)]⟩)
    (fun p => p.1 ≤ xs.length ∧ p.2.length = xs.length ∧ p.2.take p.1 = xs.take p.1) (fun p => xs.length - p.1) (0, List.replicate xs.length 0) (by simp) ?_ ?_
  · exact weak_seal 1 (by omega) (by simp) (by simp [List.replicate])
  · rintro N hN ⟨i, ys⟩ ⟨hi, hl, ht⟩
    simp only at hi hl ht
    have hw : IntKind.i64.wrap ((i : Int) + 1) = ((i + 1 : Nat) : Int) := by rw [wrap_i64] <;> omega
    refine go_ok tab_nil ?_
    by_cases h : i < xs.length
    · have h' : i < ys.length := by omega
      have h2 : ¬ xs.length ≤ i := by omega
      simp [List.replicate, hw, h, h', h2]
      refine hN _ (i + 1, ys.set i xs[i]) _ ⟨by omega, by simp [hl], ?_⟩ ?_ (weak_seal 1 (by omega) ?_ ?_)
      · exact fill_take h hl ht
      · simp; omega
      · simp
      · simp [List.replicate]
    · simp [List.replicate, hw, h]
      have e : i = xs.length := by omega
      subst e
      rw [← List.take_length (l := xs), ← ht, ← hl, List.take_length]
      simp
@[simp] def ct_toNode : Ct := ⟨153, Node, fun x => szNode x ≤ 1048576, fun x => [encNode x], fun x => encNode x⟩
theorem ok_toNode : ct_toNode.Ok Try.prog := by
  intro x hx
  change Node at x
  change szNode x ≤ 1048576 at hx
  unfold szNode at hx
  refine Ok.of_cw fok_laws_toNode (go_ok (tab_cons ok_toIntS tab_nil) ?_)
  simp [code_laws_toNode, List.replicate, encNode_eq]
  omega
@[simp] def ct_toNodeS : Ct := ⟨61, List Node, fun xs => szNodes xs ≤ 1048576, fun xs => [encL 4 encNode xs], fun xs => encL 4 encNode xs⟩
theorem ok_toNodeS : ct_toNodeS.Ok Try.prog := by
  intro xs hx
  change List Node at xs
  change szNodes xs ≤ 1048576 at hx
  have hx1 : xs.length ≤ 1048576 := by unfold szNodes at hx; omega
  have hx2 : ∀ i (h : i < xs.length), szNode xs[i] ≤ 1048576 := fun i h => by
    have := sum_mem szNode (List.getElem_mem h)
    unfold szNodes at hx; omega
  refine Ok.of_cw fok_laws_toNodeS (go_ok tab_nil ?_)
  simp [code_laws_toNodeS, List.replicate]
  refine ⟨by omega, by omega, ?_⟩
  refine cw_round (fun (p : Nat × List Node) => ⟨slots 23 [(0, encL 4 encNode xs), (3, .slref 0 0 p.2.length p.2.length), (4, .int .i64 p.1)], [.row true 85 4 (p.2.map encNode)]⟩)
    (fun p => p.1 ≤ xs.length ∧ p.2.length = xs.length ∧ p.2.take p.1 = xs.take p.1) (fun p => xs.length - p.1) (0, List.replicate xs.length ⟨[], [], 0, 0⟩) (by simp) ?_ ?_
  · refine weak_seal 1 (by omega) ?_ ?_
    · simp

    · simp [List.replicate]
  · rintro N hN ⟨i, ys⟩ ⟨hi, hl, ht⟩
    simp only at hi hl ht
    have hw : IntKind.i64.wrap ((i : Int) + 1) = ((i + 1 : Nat) : Int) := by rw [wrap_i64] <;> omega
    refine go_ok (tab_cons ok_toNode tab_nil) ?_
    by_cases h : i < xs.length
    · have h' : i < ys.length := by omega
      have h2 : ¬ xs.length ≤ i := by omega
      simp [List.replicate, hw, h, h', h2, hx2 i h]
      refine hN _ (i + 1, ys.set i xs[i]) _ ⟨by omega, by simp [hl], ?_⟩ ?_ (weak_seal 1 (by omega) ?_ ?_)
      · exact fill_take h hl ht
      · simp; omega
      · simp
      · simp [List.replicate]
    · simp [List.replicate, hw, h]
      have e : i = xs.length := by omega
      subst e
      rw [← List.take_length (l := xs), ← ht, ← hl, List.take_length]
      simp
@[simp] def ct_toStrc : Ct := ⟨14, Strc, fun x => szStrc x ≤ 1048576, fun x => [encStrc x], fun x => encStrc x⟩
theorem ok_toStrc : ct_toStrc.Ok Try.prog := by
  intro x hx
  change Strc at x
  change szStrc x ≤ 1048576 at hx
  unfold szStrc at hx
  refine Ok.of_cw fok_laws_toStructure (go_ok (tab_cons ok_toIntS (tab_cons ok_toNodeS tab_nil)) ?_)
  simp [code_laws_toStructure, List.replicate, encStrc_eq]
  omega
def code_laws_eqIntS : F := ⟨26, [.tmp 4],
 .seq (.reg [⟨some 4, .mov (.k (.bool false)), none⟩])
 (.seq (.seq (.reg [⟨some 6, .mov (.t 0), none⟩,
      ⟨some 7, .len (.t 6), none⟩,
      ⟨some 8, .mov (.t 1), none⟩,
      ⟨some 9, .len (.t 8), none⟩,
      ⟨some 10, .bin .neq (.t 7) (.t 9), none⟩])
   (.cond (.t 10)
    (.seq (.reg [⟨some 4, .mov (.k (.bool false)), none⟩])
     (.ret))
    (.skip)))
  (.seq (.seq (.reg [⟨some 5, .mov (.k (.int .i64 0)), none⟩])
    (.block 0 (.loop (.seq (.seq (.reg [⟨some 11, .mov (.t 5), none⟩,
           ⟨some 12, .mov (.t 0), none⟩,
           ⟨some 13, .len (.t 12), none⟩,
           ⟨some 14, .bin .lss (.t 11) (.t 13), none⟩])
        (.cond (.t 14)
         (.skip)
         (.exit 0)))
       (.seq (.block 1 (.seq (.dreg [false, false, false, false, false, false, false, false, true] [false, false, false, false, false, false, false, false, false] [⟨some 17, .mov (.t 0), none⟩,
             ⟨some 18, .mov (.t 5), none⟩,
             ⟨some 19, .iaddr 1 (.t 17) (.t 18), none⟩,
             ⟨some 20, .load 1 false (.t 19), none⟩,
             ⟨some 21, .mov (.t 1), none⟩,
             ⟨some 22, .mov (.t 5), none⟩,
             ⟨some 23, .iaddr 1 (.t 21) (.t 22), none⟩,
             ⟨some 24, .load 1 false (.t 23), none⟩,
             ⟨some 25, .bin .neq (.t 20) (.t 24), none⟩])
          (.cond (.t 25)
           (.seq (.reg [⟨some 4, .mov (.k (.bool false)), none⟩])
            (.ret))
           (.skip))))
        (.reg [⟨some 15, .mov (.t 5), none⟩,
           ⟨some 16, .bin .add (.t 15) (.k (.int .i64 1)), none⟩,
           ⟨some 5, .mov (.t 16), none⟩]))))))
   (.seq (.reg [⟨some 4, .mov (.k (.bool true)), none⟩])
    (.ret))))⟩
theorem fok_laws_eqIntS : FOk Try.prog 70 code_laws_eqIntS := fok Try.func70 (by kernel_rfl)
def code_laws_eqNode : F := ⟨27, [.tmp 4],
 .seq (.reg [⟨some 2, .box (.t 0), none⟩,
    ⟨some 3, .box (.t 1), none⟩,
    ⟨some 4, .mov (.k (.bool false)), none⟩])
 (.seq (.seq (.reg [⟨some 5, .faddr 0 (.t 2), none⟩,
      ⟨some 6, .load 1 false (.t 5), none⟩,
      ⟨some 7, .faddr 0 (.t 3), none⟩,
      ⟨some 8, .load 1 false (.t 7), none⟩,
      ⟨some 9, .call 70 [(.t 6), (.t 8)], none⟩,
      ⟨some 10, .not (.t 9), none⟩])
   (.cond (.t 10)
    (.seq (.reg [⟨some 4, .mov (.k (.bool false)), none⟩])
     (.ret))
    (.skip)))
  (.seq (.seq (.reg [⟨some 11, .faddr 1 (.t 2), none⟩,
       ⟨some 12, .load 1 false (.t 11), none⟩,
       ⟨some 13, .faddr 1 (.t 3), none⟩,
       ⟨some 14, .load 1 false (.t 13), none⟩,
       ⟨some 15, .call 70 [(.t 12), (.t 14)], none⟩,
       ⟨some 16, .not (.t 15), none⟩])
    (.cond (.t 16)
     (.seq (.reg [⟨some 4, .mov (.k (.bool false)), none⟩])
      (.ret))
     (.skip)))
   (.seq (.seq (.reg [⟨some 17, .faddr 2 (.t 2), none⟩,
        ⟨some 18, .load 1 false (.t 17), none⟩,
        ⟨some 19, .faddr 2 (.t 3), none⟩,
        ⟨some 20, .load 1 false (.t 19), none⟩,
        ⟨some 21, .bin .neq (.t 18) (.t 20), none⟩])
     (.cond (.t 21)
      (.seq (.reg [⟨some 4, .mov (.k (.bool false)), none⟩])
       (.ret))
      (.skip)))
    (.seq (.seq (.reg [⟨some 22, .faddr 3 (.t 2), none⟩,
         ⟨some 23, .load 1 false (.t 22), none⟩,
         ⟨some 24, .faddr 3 (.t 3), none⟩,
         ⟨some 25, .load 1 false (.t 24), none⟩,
         ⟨some 26, .bin .neq (.t 23) (.t 25), none⟩])
      (.cond (.t 26)
       (.seq (.reg [⟨some 4, .mov (.k (.bool false)), none⟩])
        (.ret))
       (.skip)))
     (.seq (.reg [⟨some 4, .mov (.k (.bool true)), none⟩])
      (.ret))))))⟩
theorem fok_laws_eqNode : FOk Try.prog 162 code_laws_eqNode := fok Try.func162 (by kernel_rfl)
def code_laws_eqNodeS : F := ⟨27, [.tmp 4],
 .seq (.reg [⟨some 4, .mov (.k (.bool false)), none⟩])
 (.seq (.seq (.reg [⟨some 6, .mov (.t 0), none⟩,
      ⟨some 7, .len (.t 6), none⟩,
      ⟨some 8, .mov (.t 1), none⟩,
      ⟨some 9, .len (.t 8), none⟩,
      ⟨some 10, .bin .neq (.t 7) (.t 9), none⟩])
   (.cond (.t 10)
    (.seq (.reg [⟨some 4, .mov (.k (.bool false)), none⟩])
     (.ret))
    (.skip)))
  (.seq (.seq (.reg [⟨some 5, .mov (.k (.int .i64 0)), none⟩])
    (.block 0 (.loop (.seq (.seq (.reg [⟨some 11, .mov (.t 5), none⟩,
           ⟨some 12, .mov (.t 0), none⟩,
           ⟨some 13, .len (.t 12), none⟩,
           ⟨some 14, .bin .lss (.t 11) (.t 13), none⟩])
        (.cond (.t 14)
         (.skip)
         (.exit 0)))
       (.seq (.block 1 (.seq (.dreg [false, false, false, false, false, false, false, false, true, true] [false, false, false, false, false, false, false, false, true, false] [⟨some 17, .mov (.t 0), none⟩,
             ⟨some 18, .mov (.t 5), none⟩,
             ⟨some 19, .iaddr 4 (.t 17) (.t 18), none⟩,
             ⟨some 20, .load 4 true (.t 19), none⟩,
             ⟨some 21, .mov (.t 1), none⟩,
             ⟨some 22, .mov (.t 5), none⟩,
             ⟨some 23, .iaddr 4 (.t 21) (.t 22), none⟩,
             ⟨some 24, .load 4 true (.t 23), none⟩,
             ⟨some 25, .call 162 [(.t 20), (.t 24)], none⟩,
             ⟨some 26, .not (.t 25), none⟩])
          (.cond (.t 26)
           (.seq (.reg [⟨some 4, .mov (.k (.bool false)), none⟩])
            (.ret))
           (.skip))))
        (.reg [⟨some 15, .mov (.t 5), none⟩,
           ⟨some 16, .bin .add (.t 15) (.k (.int .i64 1)), none⟩,
           ⟨some 5, .mov (.t 16), none⟩]))))))
   (.seq (.reg [⟨some 4, .mov (.k (.bool true)), none⟩])
    (.ret))))⟩
theorem fok_laws_eqNodeS : FOk Try.prog 71 code_laws_eqNodeS := fok Try.func71 (by kernel_rfl)
def code_laws_eqStructure : F := ⟨17, [.tmp 4],
 .seq (.reg [⟨some 2, .box (.t 0), none⟩,
    ⟨some 3, .box (.t 1), none⟩,
    ⟨some 4, .mov (.k (.bool false)), none⟩])
 (.seq (.seq (.reg [⟨some 5, .faddr 0 (.t 2), none⟩,
      ⟨some 6, .load 1 false (.t 5), none⟩,
      ⟨some 7, .faddr 0 (.t 3), none⟩,
      ⟨some 8, .load 1 false (.t 7), none⟩,
      ⟨some 9, .call 71 [(.t 6), (.t 8)], none⟩,
      ⟨some 10, .not (.t 9), none⟩])
   (.cond (.t 10)
    (.seq (.reg [⟨some 4, .mov (.k (.bool false)), none⟩])
     (.ret))
    (.skip)))
  (.seq (.seq (.reg [⟨some 11, .faddr 1 (.t 2), none⟩,
       ⟨some 12, .load 1 false (.t 11), none⟩,
       ⟨some 13, .faddr 1 (.t 3), none⟩,
       ⟨some 14, .load 1 false (.t 13), none⟩,
       ⟨some 15, .call 70 [(.t 12), (.t 14)], none⟩,
       ⟨some 16, .not (.t 15), none⟩])
    (.cond (.t 16)
     (.seq (.reg [⟨some 4, .mov (.k (.bool false)), none⟩])
      (.ret))
     (.skip)))
   (.seq (.reg [⟨some 4, .mov (.k (.bool true)), none⟩])
    (.ret))))⟩
theorem fok_laws_eqStructure : FOk Try.prog 17 code_laws_eqStructure := fok Try.func17 (by kernel_rfl)
@[simp] def ct_eqIntS : Ct := ⟨70, List Int × List Int, fun _ => True, fun x => [encL 1 encInt x.1, encL 1 encInt x.2], fun x => .bool (decide (x.1 = x.2))⟩
theorem ok_eqIntS : ct_eqIntS.Ok Try.prog := by
  rintro ⟨xs, ys⟩ -
  refine Ok.lens fun hl => Ok.of_cw fok_laws_eqIntS (go_ok tab_nil ?_)
  have hl : lensOkL [encL 1 encInt xs, encL 1 encInt ys] := hl
  rw [lensOkL_cons, lensOk_encL] at hl
  have hl := hl.1.1
  simp [code_laws_eqIntS, List.replicate]
  refine ⟨fun h => by intro e; rw [e] at h; exact h rfl, fun hlen => ?_⟩
  refine cw_round (fun (i : Nat) => ⟨slots 26 [(0, encL 1 encInt xs), (1, encL 1 encInt ys), (5, .int .i64 i)], []⟩)
    (fun i => i ≤ xs.length ∧ xs.take i = ys.take i) (fun i => xs.length - i) 0 (by simp) ?_ ?_
  · exact weak_seal 0 (by omega) (by simp) (by simp [List.replicate])
  · rintro N hN i ⟨hi, ht⟩
    refine go_ok tab_nil ?_
    by_cases h : i < xs.length
    · have hw : IntKind.i64.wrap ((i : Int) + 1) = ((i + 1 : Nat) : Int) := by rw [wrap_i64] <;> omega
      have h2 : ¬ xs.length ≤ i := by omega
      have h3 : i < ys.length := by omega
      simp [List.replicate, hw, h, h2, h3]
      refine ⟨take_ne h h3, fun he => hN _ (i + 1) _ ⟨by omega, take_step h h3 ht he⟩ (by omega) (weak_seal 0 (by omega) ?_ ?_)⟩
      · simp
      · simp [List.replicate]
    · simp [List.replicate, h]
      exact ⟨by omega, fun k => take_done (by omega) k ht⟩
@[simp] def ct_eqNode : Ct := ⟨162, Node × Node, fun _ => True, fun x => [encNode x.1, encNode x.2], fun x => .bool (decide (x.1 = x.2))⟩
theorem ok_eqNode : ct_eqNode.Ok Try.prog := by
  rintro ⟨⟨a, b, c, d⟩, ⟨a', b', c', d'⟩⟩ -
  refine Ok.of_cw fok_laws_eqNode (go_ok (tab_cons ok_eqIntS tab_nil) ?_)
  simp [code_laws_eqNode, List.replicate]
  grind
@[simp] def ct_eqNodeS : Ct := ⟨71, List Node × List Node, fun _ => True, fun x => [encL 4 encNode x.1, encL 4 encNode x.2], fun x => .bool (decide (x.1 = x.2))⟩
theorem ok_eqNodeS : ct_eqNodeS.Ok Try.prog := by
  rintro ⟨xs, ys⟩ -
  refine Ok.lens fun hl => Ok.of_cw fok_laws_eqNodeS (go_ok tab_nil ?_)
  have hl : lensOkL [encL 4 encNode xs, encL 4 encNode ys] := hl
  rw [lensOkL_cons, lensOk_encL] at hl
  have hl := hl.1.1
  simp [code_laws_eqNodeS, List.replicate]
  refine ⟨fun h => by intro e; rw [e] at h; exact h rfl, fun hlen => ?_⟩
  refine cw_round (fun (i : Nat) => ⟨slots 27 [(0, encL 4 encNode xs), (1, encL 4 encNode ys), (5, .int .i64 i)], []⟩)
    (fun i => i ≤ xs.length ∧ xs.take i = ys.take i) (fun i => xs.length - i) 0 (by simp) ?_ ?_
  · exact weak_seal 0 (by omega) (by simp) (by simp [List.replicate])
  · rintro N hN i ⟨hi, ht⟩
    refine go_ok (tab_cons ok_eqNode tab_nil) ?_
    by_cases h : i < xs.length
    · have hw : IntKind.i64.wrap ((i : Int) + 1) = ((i + 1 : Nat) : Int) := by rw [wrap_i64] <;> omega
      have h2 : ¬ xs.length ≤ i := by omega
      have h3 : i < ys.length := by omega
      simp [List.replicate, hw, h, h2, h3]
      refine ⟨take_ne h h3, fun he => hN _ (i + 1) _ ⟨by omega, take_step h h3 ht he⟩ (by omega) (weak_seal 0 (by omega) ?_ ?_)⟩
      · simp
      · simp [List.replicate]
    · simp [List.replicate, h]
      exact ⟨by omega, fun k => take_done (by omega) k ht⟩
@[simp] def ct_eqStrc : Ct := ⟨17, Strc × Strc, fun _ => True, fun x => [encStrc x.1, encStrc x.2], fun x => .bool (decide (x.1 = x.2))⟩
theorem ok_eqStrc : ct_eqStrc.Ok Try.prog := by
  rintro ⟨⟨a, b⟩, ⟨a', b'⟩⟩ -
  refine Ok.of_cw fok_laws_eqStructure (go_ok (tab_cons ok_eqNodeS (tab_cons ok_eqIntS tab_nil)) ?_)
  simp [code_laws_eqStructure, List.replicate]
  grind
end Go.Vm
