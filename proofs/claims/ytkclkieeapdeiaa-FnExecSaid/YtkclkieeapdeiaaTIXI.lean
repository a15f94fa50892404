/- Searching numbers by a test. No condition. -/
import Derived.Test.YtkclkieeapdeiaaTG
import Derived.Test.YtkclkieeapdeiaaTSL
set_option linter.unusedSimpArgs false
set_option linter.unusedVariables false
namespace Go.Vm
open Go.Proofs
def code_slices_IndexFunc_int_int : F := ⟨19, [.tmp 4],
 .seq (.reg [⟨some 4, .mov (.k (.int .i64 0)), none⟩])
 (.seq (.seq (.reg [⟨some 6, .mov (.t 0), none⟩,
      ⟨some 7, .len (.t 6), none⟩,
      ⟨some 8, .mov (.k (.int .i64 0)), none⟩])
   (.block 0 (.loop (.seq (.reg [⟨some 9, .bin .lss (.t 8) (.t 7), none⟩])
      (.seq (.cond (.t 9)
        (.skip)
        (.exit 0))
       (.seq (.block 1 (.seq (.reg [⟨some 10, .mov (.t 8), none⟩,
             ⟨some 5, .mov (.t 10), none⟩])
          (.seq (.reg [⟨some 11, .mov (.t 1), none⟩,
              ⟨some 12, .mov (.t 0), none⟩,
              ⟨some 13, .mov (.t 5), none⟩,
              ⟨some 14, .iaddr 1 (.t 12) (.t 13), none⟩,
              ⟨some 15, .load 1 false (.t 14), none⟩,
              ⟨some 16, .callv (.t 11) [(.t 15)], none⟩])
           (.cond (.t 16)
            (.seq (.reg [⟨some 17, .mov (.t 5), none⟩,
                ⟨some 4, .mov (.t 17), none⟩])
             (.ret))
            (.skip)))))
        (.reg [⟨some 18, .bin .add (.t 8) (.k (.int .i64 1)), none⟩,
           ⟨some 8, .mov (.t 18), none⟩])))))))
  (.seq (.reg [⟨some 4, .mov (.k (.int .i64 (-1))), none⟩])
   (.ret)))⟩
theorem fok_slices_IndexFunc_int_int : FOk Try.prog 101 code_slices_IndexFunc_int_int := fok Try.func101 (by kernel_rfl)
@[simp] def ct_IndexFuncI : Ct := ⟨101, List Int × Nat × List AV × (Int → Bool), fun x => callable Try.prog x.2.1 = true ∧ ((∀ m H, lendCs m H 19 x.2.2.1 = some x.2.2.1) ∧ ∀ m H, lendAll m H x.2.2.1 = some x.2.2.1) ∧ ∀ a ∈ x.1, Ok Try.prog x.2.1 (encInt a :: x.2.2.1) (.bool (x.2.2.2 a)), fun x => [encL 1 encInt x.1, .fn x.2.1 x.2.2.1], fun x => .int .i64 (findI x.2.2.2 x.1)⟩
theorem ok_IndexFuncI : ct_IndexFuncI.Ok Try.prog := by
  rintro ⟨xs, f, caps, p⟩ ⟨hc, ⟨hlend, hlendA⟩, hok⟩
  change callable Try.prog f = true at hc
  change ∀ m H, lendCs m H 19 caps = some caps at hlend
  change ∀ m H, lendAll m H caps = some caps at hlendA
  change ∀ a ∈ xs, Ok Try.prog f (encInt a :: caps) (.bool (p a)) at hok
  refine Ok.lens fun hl => Ok.of_cw fok_slices_IndexFunc_int_int (go_ok tab_nil ?_)
  have hl : lensOkL [encL 1 encInt xs, .fn f caps] := hl
  rw [lensOkL_cons, lensOk_encL] at hl
  have hl := hl.1.1
  simp [code_slices_IndexFunc_int_int, List.replicate]
  refine cw_round (fun (i : Nat) => ⟨slots 19 [(0, encL 1 encInt xs), (1, .fn f caps), (7, .int .i64 xs.length), (8, .int .i64 i)], []⟩)
    (fun i => i ≤ xs.length ∧ noHit p xs i) (fun i => xs.length - i) 0 ⟨by omega, noHit_zero⟩ ?_ ?_
  · refine weak_seal 0 (by omega) (by simp) ?_
    simp [List.replicate, hlend]
  · rintro N hN i ⟨hi, hn⟩
    have hw : i < xs.length → IntKind.i64.wrap ((i : Int) + 1) = ((i + 1 : Nat) : Int) := fun h => by rw [wrap_i64] <;> omega
    refine go_ok (tab_cons (c := ⟨f, {a // a ∈ xs}, fun _ => True, fun a => encInt a.1 :: caps, fun a => .bool (p a.1)⟩) (fun a _ => hok a.1 a.2) tab_nil) ?_
    by_cases h : i < xs.length
    · simp [List.replicate, hw, h, hc, hlend, hlendA]
      refine ⟨fun e => ?_, fun e => ?_⟩
      · rw [findI_hit hn h e]
      · refine hN _ (i + 1) _ ⟨by omega, noHit_succ hn h e⟩ (by omega) (weak_seal 0 (by omega) ?_ ?_)
        · simp
        · simp [List.replicate, hlend]
    · simp [List.replicate, h]
      rw [findI_none hn (by omega)]
def code_slices_ContainsFunc_int_int : F := ⟨9, [.tmp 4],
 .seq (.reg [⟨some 4, .mov (.k (.bool false)), none⟩])
 (.seq (.reg [⟨some 5, .mov (.t 0), none⟩,
     ⟨some 6, .mov (.t 1), none⟩,
     ⟨some 7, .call 101 [(.t 5), (.t 6)], none⟩,
     ⟨some 8, .bin .geq (.t 7) (.k (.int .i64 0)), none⟩,
     ⟨some 4, .mov (.t 8), none⟩])
  (.ret))⟩
theorem fok_slices_ContainsFunc_int_int : FOk Try.prog 94 code_slices_ContainsFunc_int_int := fok Try.func94 (by kernel_rfl)
@[simp] def ct_ContainsFuncI : Ct := ⟨94, List Int × Nat × List AV × (Int → Bool), fun x => callable Try.prog x.2.1 = true ∧ ((∀ m H, lendCs m H 19 x.2.2.1 = some x.2.2.1) ∧ ∀ m H, lendAll m H x.2.2.1 = some x.2.2.1) ∧ ∀ a ∈ x.1, Ok Try.prog x.2.1 (encInt a :: x.2.2.1) (.bool (x.2.2.2 a)), fun x => [encL 1 encInt x.1, .fn x.2.1 x.2.2.1], fun x => .bool (x.1.any x.2.2.2)⟩
theorem ok_ContainsFuncI : ct_ContainsFuncI.Ok Try.prog := by
  rintro ⟨xs, f, caps, p⟩ hx
  refine Ok.of_cw fok_slices_ContainsFunc_int_int (go_ok (tab_cons ok_IndexFuncI tab_nil) ?_)
  have hA := hx.2.1.1
  have hB := hx.2.1.2
  simp at hA hB
  simp [code_slices_ContainsFunc_int_int, List.replicate, hA]
  exact ⟨hx.1, hB, p, hx.2.2, findI_any.symm⟩
end Go.Vm
