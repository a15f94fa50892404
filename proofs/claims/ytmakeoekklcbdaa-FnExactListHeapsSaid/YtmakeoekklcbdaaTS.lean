/- What the laws' size functions answer. No condition. -/
import Derived.Test.YtmakeoekklcbdaaTD
set_option linter.unusedSimpArgs false
set_option linter.unusedVariables false
namespace Go.Vm
open Go.Proofs
def code_laws_szIntS : F := ⟨12, [.tmp 4],
 .seq (.reg [⟨some 4, .mov (.k (.int .i64 0)), none⟩])
 (.seq (.reg [⟨some 5, .mov (.t 1), none⟩,
     ⟨some 6, .mov (.t 0), none⟩,
     ⟨some 7, .len (.t 6), none⟩,
     ⟨some 8, .bin .sub (.t 5) (.t 7), none⟩,
     ⟨some 1, .mov (.t 8), none⟩])
  (.seq (.seq (.reg [⟨some 9, .mov (.t 1), none⟩,
       ⟨some 10, .bin .lss (.t 9) (.k (.int .i64 0)), none⟩])
    (.cond (.t 10)
     (.seq (.reg [⟨some 4, .mov (.k (.int .i64 (-1))), none⟩])
      (.ret))
     (.skip)))
   (.seq (.reg [⟨some 11, .mov (.t 1), none⟩,
       ⟨some 4, .mov (.t 11), none⟩])
    (.ret))))⟩
theorem fok_laws_szIntS : FOk Try.prog 55 code_laws_szIntS := fok Try.func55 (by kernel_rfl)
def code_laws_szNode : F := ⟨18, [.tmp 4],
 .seq (.reg [⟨some 2, .box (.t 0), none⟩,
    ⟨some 4, .mov (.k (.int .i64 0)), none⟩])
 (.seq (.reg [⟨some 5, .faddr 0 (.t 2), none⟩,
     ⟨some 6, .load 1 false (.t 5), none⟩,
     ⟨some 7, .mov (.t 1), none⟩,
     ⟨some 8, .call 55 [(.t 6), (.t 7)], none⟩,
     ⟨some 1, .mov (.t 8), none⟩])
  (.seq (.seq (.reg [⟨some 9, .mov (.t 1), none⟩,
       ⟨some 10, .bin .lss (.t 9) (.k (.int .i64 0)), none⟩])
    (.cond (.t 10)
     (.seq (.reg [⟨some 4, .mov (.k (.int .i64 (-1))), none⟩])
      (.ret))
     (.skip)))
   (.seq (.reg [⟨some 11, .faddr 1 (.t 2), none⟩,
       ⟨some 12, .load 1 false (.t 11), none⟩,
       ⟨some 13, .mov (.t 1), none⟩,
       ⟨some 14, .call 55 [(.t 12), (.t 13)], none⟩,
       ⟨some 1, .mov (.t 14), none⟩])
    (.seq (.seq (.reg [⟨some 15, .mov (.t 1), none⟩,
         ⟨some 16, .bin .lss (.t 15) (.k (.int .i64 0)), none⟩])
      (.cond (.t 16)
       (.seq (.reg [⟨some 4, .mov (.k (.int .i64 (-1))), none⟩])
        (.ret))
       (.skip)))
     (.seq (.reg [⟨some 17, .mov (.t 1), none⟩,
         ⟨some 4, .mov (.t 17), none⟩])
      (.ret))))))⟩
theorem fok_laws_szNode : FOk Try.prog 147 code_laws_szNode := fok Try.func147 (by kernel_rfl)
def code_laws_szNodeS : F := ⟨27, [.tmp 4],
 .seq (.reg [⟨some 4, .mov (.k (.int .i64 0)), none⟩])
 (.seq (.reg [⟨some 6, .mov (.t 1), none⟩,
     ⟨some 7, .mov (.t 0), none⟩,
     ⟨some 8, .len (.t 7), none⟩,
     ⟨some 9, .bin .sub (.t 6) (.t 8), none⟩,
     ⟨some 1, .mov (.t 9), none⟩])
  (.seq (.seq (.reg [⟨some 10, .mov (.t 1), none⟩,
       ⟨some 11, .bin .lss (.t 10) (.k (.int .i64 0)), none⟩])
    (.cond (.t 11)
     (.seq (.reg [⟨some 4, .mov (.k (.int .i64 (-1))), none⟩])
      (.ret))
     (.skip)))
   (.seq (.seq (.reg [⟨some 5, .mov (.k (.int .i64 0)), none⟩])
     (.block 0 (.loop (.seq (.seq (.reg [⟨some 12, .mov (.t 5), none⟩,
            ⟨some 13, .mov (.t 0), none⟩,
            ⟨some 14, .len (.t 13), none⟩,
            ⟨some 15, .bin .lss (.t 12) (.t 14), none⟩])
         (.cond (.t 15)
          (.skip)
          (.exit 0)))
        (.seq (.block 1 (.seq (.reg [⟨some 18, .mov (.t 0), none⟩,
              ⟨some 19, .mov (.t 5), none⟩,
              ⟨some 20, .iaddr 4 (.t 18) (.t 19), none⟩,
              ⟨some 21, .load 4 true (.t 20), none⟩,
              ⟨some 22, .mov (.t 1), none⟩,
              ⟨some 23, .call 147 [(.t 21), (.t 22)], none⟩,
              ⟨some 1, .mov (.t 23), none⟩])
           (.seq (.reg [⟨some 24, .mov (.t 1), none⟩,
               ⟨some 25, .bin .lss (.t 24) (.k (.int .i64 0)), none⟩])
            (.cond (.t 25)
             (.seq (.reg [⟨some 4, .mov (.k (.int .i64 (-1))), none⟩])
              (.ret))
             (.skip)))))
         (.reg [⟨some 16, .mov (.t 5), none⟩,
            ⟨some 17, .bin .add (.t 16) (.k (.int .i64 1)), none⟩,
            ⟨some 5, .mov (.t 17), none⟩]))))))
    (.seq (.reg [⟨some 26, .mov (.t 1), none⟩,
        ⟨some 4, .mov (.t 26), none⟩])
     (.ret)))))⟩
theorem fok_laws_szNodeS : FOk Try.prog 54 code_laws_szNodeS := fok Try.func54 (by kernel_rfl)
def code_laws_szStructure : F := ⟨18, [.tmp 4],
 .seq (.reg [⟨some 2, .box (.t 0), none⟩,
    ⟨some 4, .mov (.k (.int .i64 0)), none⟩])
 (.seq (.reg [⟨some 5, .faddr 0 (.t 2), none⟩,
     ⟨some 6, .load 1 false (.t 5), none⟩,
     ⟨some 7, .mov (.t 1), none⟩,
     ⟨some 8, .call 54 [(.t 6), (.t 7)], none⟩,
     ⟨some 1, .mov (.t 8), none⟩])
  (.seq (.seq (.reg [⟨some 9, .mov (.t 1), none⟩,
       ⟨some 10, .bin .lss (.t 9) (.k (.int .i64 0)), none⟩])
    (.cond (.t 10)
     (.seq (.reg [⟨some 4, .mov (.k (.int .i64 (-1))), none⟩])
      (.ret))
     (.skip)))
   (.seq (.reg [⟨some 11, .faddr 1 (.t 2), none⟩,
       ⟨some 12, .load 1 false (.t 11), none⟩,
       ⟨some 13, .mov (.t 1), none⟩,
       ⟨some 14, .call 55 [(.t 12), (.t 13)], none⟩,
       ⟨some 1, .mov (.t 14), none⟩])
    (.seq (.seq (.reg [⟨some 15, .mov (.t 1), none⟩,
         ⟨some 16, .bin .lss (.t 15) (.k (.int .i64 0)), none⟩])
      (.cond (.t 16)
       (.seq (.reg [⟨some 4, .mov (.k (.int .i64 (-1))), none⟩])
        (.ret))
       (.skip)))
     (.seq (.reg [⟨some 17, .mov (.t 1), none⟩,
         ⟨some 4, .mov (.t 17), none⟩])
      (.ret))))))⟩
theorem fok_laws_szStructure : FOk Try.prog 12 code_laws_szStructure := fok Try.func12 (by kernel_rfl)

@[simp] def ct_szIntS : Ct := ⟨55, List Int × Int, fun x => 0 ≤ x.2 ∧ x.2 ≤ 1048576, fun x => [encL 1 encInt x.1, .int .i64 x.2], fun x => .int .i64 (left x.1.length x.2)⟩
theorem ok_szIntS : ct_szIntS.Ok Try.prog := by
  rintro ⟨xs, l⟩ ⟨h1, h2⟩
  change 0 ≤ l at h1
  change l ≤ 1048576 at h2
  refine Ok.lens fun hl => Ok.of_cw fok_laws_szIntS (go_ok tab_nil ?_)
  simp [lensOkL_cons, lensOk_encL] at hl
  have hw : IntKind.i64.wrap (l - xs.length) = l - xs.length := by rw [wrap_i64] <;> omega
  simp [code_laws_szIntS, List.replicate, hw, left]
  omega
@[simp] def ct_szNode : Ct := ⟨147, Node × Int, fun x => 0 ≤ x.2 ∧ x.2 ≤ 1048576, fun x => [encNode x.1, .int .i64 x.2], fun x => .int .i64 (left (szNode x.1) x.2)⟩
theorem ok_szNode : ct_szNode.Ok Try.prog := by
  rintro ⟨x, l⟩ ⟨h1, h2⟩
  change 0 ≤ l at h1
  change l ≤ 1048576 at h2
  refine Ok.of_cw fok_laws_szNode (go_ok (tab_cons ok_szIntS tab_nil) ?_)
  simp [code_laws_szNode, List.replicate, encNode_eq, h1, h2]
  simp only [left, szNode]
  (repeat' split) <;> omega
@[simp] def ct_szNodeS : Ct := ⟨54, List Node × Int, fun x => 0 ≤ x.2 ∧ x.2 ≤ 1048576, fun x => [encL 4 encNode x.1, .int .i64 x.2], fun x => .int .i64 (left (szNodes x.1) x.2)⟩
theorem ok_szNodeS : ct_szNodeS.Ok Try.prog := by
  rintro ⟨xs, l⟩ ⟨h1, h2⟩
  change 0 ≤ l at h1
  change l ≤ 1048576 at h2
  refine Ok.lens fun hl => Ok.of_cw fok_laws_szNodeS (go_ok tab_nil ?_)
  have hl : lensOkL [encL 4 encNode xs, .int .i64 l] := hl
  rw [lensOkL_cons, lensOk_encL] at hl
  have hl := hl.1.1
  have hw : IntKind.i64.wrap (l - xs.length) = l - xs.length := by rw [wrap_i64] <;> omega
  simp [code_laws_szNodeS, List.replicate, hw]
  refine ⟨fun h => left_neg (by unfold szNodes; omega), fun h => ?_⟩
  refine cw_round (fun (p : Nat × Int) => ⟨slots 27 [(0, encL 4 encNode xs), (1, .int .i64 p.2), (5, .int .i64 p.1)], []⟩)
    (fun p => p.1 ≤ xs.length ∧ 0 ≤ p.2 ∧ p.2 ≤ 1048576 ∧ left (szNodes xs) l = left ((xs.drop p.1).map szNode).sum p.2) (fun p => xs.length - p.1) (0, l - xs.length) ?_ ?_ ?_
  · refine ⟨by simp, by simp; omega, by simp; omega, ?_⟩
    simp only [List.drop_zero, szNodes]
    exact left_add (by omega)
  · exact weak_seal 0 (by omega) (by simp) (by simp [List.replicate])
  · rintro N hN ⟨i, l'⟩ ⟨hi, g1, g2, hs⟩
    change i ≤ xs.length at hi
    change 0 ≤ l' at g1
    change l' ≤ 1048576 at g2
    change left (szNodes xs) l = left ((xs.drop i).map szNode).sum l' at hs
    have hw : IntKind.i64.wrap ((i : Int) + 1) = ((i + 1 : Nat) : Int) := by rw [wrap_i64] <;> omega
    refine go_ok (tab_cons ok_szNode tab_nil) ?_
    by_cases h : i < xs.length
    · have h2 : ¬ xs.length ≤ i := by omega
      rw [sum_drop szNode h] at hs
      simp [List.replicate, hw, h, h2, g1, g2]
      refine ⟨fun k => ?_, fun k => ?_⟩
      · rw [hs, left_add_neg (left_lt0.1 k)]
      · have k := left_ge0.1 k
        rw [left_ge k]
        refine hN _ (i + 1, l' - szNode xs[i]) _ ⟨by omega, ?_, ?_, ?_⟩ ?_ (weak_seal 0 (by omega) ?_ ?_)
        · simp; omega
        · simp; omega
        · rw [hs, left_add k]
        · simp; omega
        · simp
        · simp [List.replicate]
    · have e : i = xs.length := by omega
      subst e
      simp [List.drop_length, left_zero g1] at hs
      simp [List.replicate, hw, hs]
@[simp] def ct_szStrc : Ct := ⟨12, Strc × Int, fun x => 0 ≤ x.2 ∧ x.2 ≤ 1048576, fun x => [encStrc x.1, .int .i64 x.2], fun x => .int .i64 (left (szStrc x.1) x.2)⟩
theorem ok_szStrc : ct_szStrc.Ok Try.prog := by
  rintro ⟨x, l⟩ ⟨h1, h2⟩
  change 0 ≤ l at h1
  change l ≤ 1048576 at h2
  refine Ok.of_cw fok_laws_szStructure (go_ok (tab_cons ok_szIntS (tab_cons ok_szNodeS tab_nil)) ?_)
  simp [code_laws_szStructure, List.replicate, encStrc_eq, h1, h2]
  simp only [left, szStrc]
  (repeat' split) <;> omega
end Go.Vm
