/- The law FnStructures holds: a structure that is equal to another one has the same text. Condition: none. -/
import Derived.Test.YtfelkhckpfjgjaaGreatDoorTLF
import Derived.Test.YtfelkhckpfjgjaaGreatDoorCards
import Derived.Test.YtfelkhckpfjgjaaGreatDoorTie
set_option linter.unusedSimpArgs false
set_option linter.unusedVariables false
namespace Go.Vm
open Go.Proofs
theorem u8_of_wf {i : Int} (h : (Lit.int .u8 i).wf = true) : ∃ u : UInt8, i = (u.toNat : Int) := by
  simp only [Lit.wf, Bool.and_eq_true, decide_eq_true_eq] at h
  have h1 : (0 : Int) ≤ i := h.1
  have h2 : i ≤ 255 := h.2
  have h3 : (UInt8.ofNat i.toNat).toNat = i.toNat % 256 := by simp
  refine ⟨UInt8.ofNat i.toNat, ?_⟩
  rw [h3]
  omega
theorem dec_5 : ∀ (n : Nat) (c : List AV), TyN Tryz.prog n 5 c → ∃ x : UInt8, mkE false c = encU x := by
  intro n c h
  obtain ⟨i, rfl, hw⟩ := ty_int Tryz.underlying5 h
  obtain ⟨u, rfl⟩ := u8_of_wf hw
  exact ⟨u, rfl⟩
theorem dec_22 : ∀ (n : Nat) (c : List AV), TyN Tryz.prog n 22 c → ∃ x : List (UInt8), mkE false c = (encL 1 encU) x := by
  intro n c h
  obtain ⟨xs, rfl⟩ := ty_slice encU Tryz.underlying22 (sz := 1) (b := false) (by kernel_rfl) (isAgg_eq Tryz.underlying5) (fun m cs _ h => dec_5 m cs h) h
  exact ⟨xs, rfl⟩
end Go.Vm
namespace Go.Proofs.YtfelkhckpfjgjaaGreatDoor.fnStructures
open Go.RowKit Go.ChangeShapes Go.WideShapes Go.ChangeAt Go.Vm
theorem door_met (os : Os) (args : Array Value) : laidMetH Tryz.prog [("math/bits.deBruijn32tab", Rows.laid_math_bits_deBruijn32tab), ("math/bits.deBruijn64tab", Rows.laid_math_bits_deBruijn64tab), ("internal/strconv.uint64pow10", Rows.laid_internal_strconv_uint64pow10)] ((World.doorLaid Tryz.prog 4000 os).forCall (fun _ _ => 0) ⟨#[], args, []⟩).memory :=
  laidMetH_of_parts3 (fuel := 8) (laidMet_of_run' 8 (by kernel_rfl) (by kernel_rfl)) (by kernel_rfl) (by kernel_rfl)
theorem own : ownKnob Tryz.prog.godebug = none := by kernel_rfl
set_option maxRecDepth 100000 in
theorem lifted (os : Os) (started : os.Started) (H : Type) (enc : TypeId × Value → H) :
    ReturnsInHanded {} Tryz.checked os 3 .any (fun w args => (Rows.fnStructuresSpec.pre enc Tryz.prog Tryz.f3 [] false w args ∧ laidMetH Tryz.prog [("math/bits.deBruijn32tab", Rows.laid_math_bits_deBruijn32tab), ("math/bits.deBruijn64tab", Rows.laid_math_bits_deBruijn64tab), ("internal/strconv.uint64pow10", Rows.laid_internal_strconv_uint64pow10)] w) ∧ sizedMet enc Tryz.prog Tryz.f3 (OpenSpec.ofChange Rows.fnStructuresSpec) false w args) (Rows.fnStructuresSpec.post enc Tryz.prog Tryz.f3 false true false false) := by
  refine law_lift_and (C := Tryz.checked) (X := fun w => laidMetH Tryz.prog [("math/bits.deBruijn32tab", Rows.laid_math_bits_deBruijn32tab), ("math/bits.deBruijn64tab", Rows.laid_math_bits_deBruijn64tab), ("internal/strconv.uint64pow10", Rows.laid_internal_strconv_uint64pow10)] w) (fun _ _ hh h => h.of_heap hh) (T := [22, 5]) (tb := 4) own started (by kernel_rfl) Tryz.func3
    (ChangeSpec.witness_shaped (enc := enc) (C := Tryz.checked) (os := os) (X := fun w _ => laidMetH Tryz.prog [("math/bits.deBruijn32tab", Rows.laid_math_bits_deBruijn32tab), ("math/bits.deBruijn64tab", Rows.laid_math_bits_deBruijn64tab), ("internal/strconv.uint64pow10", Rows.laid_internal_strconv_uint64pow10)] w) false (World.doorLaid Tryz.prog 4000 os) #[.slice none 0 0] 8 rfl (World.shaped_of_RefB (by kernel_rfl) (by kernel_rfl)) (by kernel_rfl) (by kernel_rfl) (by kernel_rfl) (door_met os _)) rfl ?_ (by kernel_rfl) Tryz.underlying4 (by kernel_rfl) ?_ (by kernel_rfl) ?_ ?_
  · intro ds h
    rw [Tryz.params3] at h
    match ds, h with
    | [d0], _ => rfl
  · rw [Tryz.params3]; simp
  · rw [Tryz.params3]
    intro t ht
    have ht : t ∈ [22] := ht
    rcases List.mem_cons.1 ht with rfl | ht
    · exact ⟨by kernel_rfl, of_decide_eq_true (by kernel_rfl)⟩
    cases ht
  · rw [Tryz.params3]
    intro ass h
    rcases h with _ | ⟨h0, _ | _⟩
    obtain ⟨n0, h0⟩ := h0
    obtain ⟨x0, e0⟩ := dec_22 _ _ h0
    change Ok Tryz.prog 3 (argE Tryz.prog _ _) _
    simp only [argE, isAgg_eq Tryz.underlying22, TypeDesc.isStruct, e0]
    exact ok_lawStructures x0
theorem over : Rows.FnStructuresSaid :=
  OpenClaim.holds_of_wide 3 Tryz.f3 rfl rfl rfl rfl rfl rfl rfl ⟨rfl, rfl, rfl, rfl, rfl⟩ rfl rfl rfl rfl rfl (by kernel_rfl) Tryz.func3 (by kernel_rfl)
    (of_decide_eq_true (by kernel_rfl)) (by unfold Func.isWrapper; first | (rw [if_pos (by decide +kernel)]; kernel_rfl) | (rw [if_neg (by decide +kernel)]; exact ⟨rfl, rfl⟩))
    (fun os started H enc _ => lifted os started H enc)
theorem card : Rows.FnStructuresCardSaid :=
  Claim7.holds_tied_plain_at .later [] [.data, .data, .data] true (true, "dbed855de7293b4bc6c214b69bb56a4d7884818e621d11f4c8736fc47df8ce99") false
    over (fun _ h => by cases h) (by kernel_rfl) (fun _ h => by cases h) fnStructures_row_tie rfl ⟨rfl, rfl⟩ (by kernel_rfl) rfl
    (fun f fn hf hfn => by
      obtain rfl : f = 3 := Option.some.inj ((show Tryz.prog.funcNamed Rows.fnStructuresRow.func = some 3 by kernel_rfl).symm.trans hf) |>.symm
      obtain rfl : fn = Tryz.f3 := (Option.some.inj (Tryz.func3.symm.trans hfn)).symm
      exact ⟨by kernel_rfl, fun j t ht => by
        rw [Tryz.params3] at ht
        have hm : t ∈ [22] := by simpa using Array.mem_of_getElem? ht
        have hall : ([22].all fun u => !Tryz.prog.wantsStandIn u) = true := by kernel_rfl
        exact (show Tryz.prog.wantsStandIn t = false by simpa using List.all_eq_true.1 hall t hm)⟩)
    (by kernel_rfl)
end Go.Proofs.YtfelkhckpfjgjaaGreatDoor.fnStructures
namespace Go.Proofs.YtfelkhckpfjgjaaGreatDoor
theorem fnStructures_holds : Rows.FnStructuresCardSaid := fnStructures.card
#print axioms fnStructures_holds
end Go.Proofs.YtfelkhckpfjgjaaGreatDoor

