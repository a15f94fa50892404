/- What the laws' copies and comparisons answer. No condition. -/
import Derived.Test.YtkclkieeapdeiaaTS
set_option linter.unusedSimpArgs false
set_option linter.unusedVariables false
namespace Go.Vm
open Go.Proofs
def code_laws_toIntS : F := ⟨22, [.tmp 2],
 .seq (.reg [⟨some 2, .mov (.k (.sl .nil 0 [])), none⟩])
 (.seq (.reg [⟨some 5, .mov (.t 0), none⟩,
     ⟨some 6, .len (.t 5), none⟩,
     ⟨some 7, .mksl 3 1 8 (.int .i64 0) (.t 6) (.t 6), none⟩,
     ⟨some 3, .mov (.t 7), none⟩])
  (.seq (.seq (.reg [⟨some 4, .mov (.k (.int .i64 0)), none⟩])
    (.block 0 (.loop (.seq (.seq (.reg [⟨some 8, .mov (.t 4), none⟩,
           ⟨some 9, .mov (.t 0), none⟩,
           ⟨some 10, .len (.t 9), none⟩,
           ⟨some 11, .bin .lss (.t 8) (.t 10), none⟩])
        (.cond (.t 11)
         (.skip)
         (.exit 0)))
       (.seq (.block 1 (.reg [⟨some 14, .mov (.t 3), none⟩,
            ⟨some 15, .mov (.t 4), none⟩,
            ⟨some 16, .mov (.t 0), none⟩,
            ⟨some 17, .mov (.t 4), none⟩,
            ⟨some 18, .iaddr 1 (.t 16) (.t 17), none⟩,
            ⟨some 19, .load 1 false (.t 18), none⟩,
            ⟨some 20, .iaddr 1 (.t 14) (.t 15), none⟩,
            ⟨none, .store 1 (.t 20) (.t 19), none⟩]))
        (.reg [⟨some 12, .mov (.t 4), none⟩,
           ⟨some 13, .bin .add (.t 12) (.k (.int .i64 1)), none⟩,
           ⟨some 4, .mov (.t 13), none⟩]))))))
   (.seq (.reg [⟨some 21, .mov (.t 3), none⟩,
       ⟨some 2, .mov (.t 21), none⟩])
    (.ret))))⟩
theorem fok_laws_toIntS : FOk Try.prog 66 code_laws_toIntS := fok Try.func66 (by kernel_rfl)

@[simp] def ct_toIntS : Ct := ⟨66, List Int, fun xs => xs.length ≤ 1048576, fun xs => [encL 1 encInt xs], fun xs => encL 1 encInt xs⟩
theorem ok_toIntS : ct_toIntS.Ok Try.prog := by
  intro xs hx
  change List Int at xs
  change xs.length ≤ 1048576 at hx
  refine Ok.of_cw fok_laws_toIntS (go_ok tab_nil ?_)
  simp [code_laws_toIntS, List.replicate]
  refine ⟨by omega, by omega, ?_⟩
  refine cw_round (fun (p : Nat × List Int) => ⟨slots 22 [(0, encL 1 encInt xs), (3, .slref 0 0 p.2.length p.2.length), (4, .int .i64 p.1)], [.row true 3 1 (p.2.map encInt)]⟩)
    (fun p => p.1 ≤ xs.length ∧ p.2.length = xs.length ∧ p.2.take p.1 = xs.take p.1) (fun p => xs.length - p.1) (0, List.replicate xs.length 0) (by simp) ?_ ?_
  · exact weak_seal 1 (by omega) (by simp) (by simp [List.replicate])
  · rintro N hN ⟨i, ys⟩ ⟨hi, hl, ht⟩
    simp only at hi hl ht
    have hw : IntKind.i64.wrap ((i : Int) + 1) = ((i + 1 : Nat) : Int) := by rw [wrap_i64] <;> omega
    refine go_ok tab_nil ?_
    by_cases h : i < xs.length
    · have h' : i < ys.length := by omega
      have h2 : ¬ xs.length ≤ i := by omega
      simp [List.replicate, hw, h, h', h2]
      refine hN _ (i + 1, ys.set i xs[i]) _ ⟨by omega, by simp [hl], ?_⟩ ?_ (weak_seal 1 (by omega) ?_ ?_)
      · exact fill_take h hl ht
      · simp; omega
      · simp
      · simp [List.replicate]
    · simp [List.replicate, hw, h]
      have e : i = xs.length := by omega
      subst e
      rw [← List.take_length (l := xs), ← ht, ← hl, List.take_length]
      simp
def code_laws_eqIntS : F := ⟨26, [.tmp 4],
 .seq (.reg [⟨some 4, .mov (.k (.bool false)), none⟩])
 (.seq (.seq (.reg [⟨some 6, .mov (.t 0), none⟩,
      ⟨some 7, .len (.t 6), none⟩,
      ⟨some 8, .mov (.t 1), none⟩,
      ⟨some 9, .len (.t 8), none⟩,
      ⟨some 10, .bin .neq (.t 7) (.t 9), none⟩])
   (.cond (.t 10)
    (.seq (.reg [⟨some 4, .mov (.k (.bool false)), none⟩])
     (.ret))
    (.skip)))
  (.seq (.seq (.reg [⟨some 5, .mov (.k (.int .i64 0)), none⟩])
    (.block 0 (.loop (.seq (.seq (.reg [⟨some 11, .mov (.t 5), none⟩,
           ⟨some 12, .mov (.t 0), none⟩,
           ⟨some 13, .len (.t 12), none⟩,
           ⟨some 14, .bin .lss (.t 11) (.t 13), none⟩])
        (.cond (.t 14)
         (.skip)
         (.exit 0)))
       (.seq (.block 1 (.seq (.dreg [false, false, false, false, false, false, false, false, true] [false, false, false, false, false, false, false, false, false] [⟨some 17, .mov (.t 0), none⟩,
             ⟨some 18, .mov (.t 5), none⟩,
             ⟨some 19, .iaddr 1 (.t 17) (.t 18), none⟩,
             ⟨some 20, .load 1 false (.t 19), none⟩,
             ⟨some 21, .mov (.t 1), none⟩,
             ⟨some 22, .mov (.t 5), none⟩,
             ⟨some 23, .iaddr 1 (.t 21) (.t 22), none⟩,
             ⟨some 24, .load 1 false (.t 23), none⟩,
             ⟨some 25, .bin .neq (.t 20) (.t 24), none⟩])
          (.cond (.t 25)
           (.seq (.reg [⟨some 4, .mov (.k (.bool false)), none⟩])
            (.ret))
           (.skip))))
        (.reg [⟨some 15, .mov (.t 5), none⟩,
           ⟨some 16, .bin .add (.t 15) (.k (.int .i64 1)), none⟩,
           ⟨some 5, .mov (.t 16), none⟩]))))))
   (.seq (.reg [⟨some 4, .mov (.k (.bool true)), none⟩])
    (.ret))))⟩
theorem fok_laws_eqIntS : FOk Try.prog 67 code_laws_eqIntS := fok Try.func67 (by kernel_rfl)
@[simp] def ct_eqIntS : Ct := ⟨67, List Int × List Int, fun _ => True, fun x => [encL 1 encInt x.1, encL 1 encInt x.2], fun x => .bool (decide (x.1 = x.2))⟩
theorem ok_eqIntS : ct_eqIntS.Ok Try.prog := by
  rintro ⟨xs, ys⟩ -
  refine Ok.lens fun hl => Ok.of_cw fok_laws_eqIntS (go_ok tab_nil ?_)
  have hl : lensOkL [encL 1 encInt xs, encL 1 encInt ys] := hl
  rw [lensOkL_cons, lensOk_encL] at hl
  have hl := hl.1.1
  simp [code_laws_eqIntS, List.replicate]
  refine ⟨fun h => by intro e; rw [e] at h; exact h rfl, fun hlen => ?_⟩
  refine cw_round (fun (i : Nat) => ⟨slots 26 [(0, encL 1 encInt xs), (1, encL 1 encInt ys), (5, .int .i64 i)], []⟩)
    (fun i => i ≤ xs.length ∧ xs.take i = ys.take i) (fun i => xs.length - i) 0 (by simp) ?_ ?_
  · exact weak_seal 0 (by omega) (by simp) (by simp [List.replicate])
  · rintro N hN i ⟨hi, ht⟩
    refine go_ok tab_nil ?_
    by_cases h : i < xs.length
    · have hw : IntKind.i64.wrap ((i : Int) + 1) = ((i + 1 : Nat) : Int) := by rw [wrap_i64] <;> omega
      have h2 : ¬ xs.length ≤ i := by omega
      have h3 : i < ys.length := by omega
      simp [List.replicate, hw, h, h2, h3]
      refine ⟨take_ne h h3, fun he => hN _ (i + 1) _ ⟨by omega, take_step h h3 ht he⟩ (by omega) (weak_seal 0 (by omega) ?_ ?_)⟩
      · simp
      · simp [List.replicate]
    · simp [List.replicate, h]
      exact ⟨by omega, fun k => take_done (by omega) k ht⟩
end Go.Vm
