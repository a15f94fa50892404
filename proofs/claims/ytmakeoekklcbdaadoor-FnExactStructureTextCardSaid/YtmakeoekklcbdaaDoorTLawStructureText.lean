/- The program StructureText answers what the reference answers, for all arguments. No condition. -/
import Derived.Test.YtmakeoekklcbdaaDoorTXC
import Derived.Test.YtmakeoekklcbdaaDoorTLF
import Derived.Test.YtmakeoekklcbdaaDoorCards
import Derived.Test.YtmakeoekklcbdaaDoorTie
set_option linter.unusedSimpArgs false
set_option linter.unusedVariables false
namespace Go.Vm
open Go.Proofs
theorem dec_9 : ∀ (n : Nat) (c : List AV), TyN Tryd.prog n 9 c → ∃ x : List UInt8, (fun s : List UInt8 => s.length ≤ 9223372036854775807) x ∧ mkE false c = encStr x := by
  intro n c h
  obtain ⟨i, hi, rfl⟩ := ty_strB Tryd.underlying9 h
  exact ⟨i, hi, rfl⟩
theorem dec_34 : ∀ (n : Nat) (c : List AV), TyN Tryd.prog n 34 c → ∃ x : List (List UInt8), (fun xs : List (List UInt8) => ∀ x ∈ xs, (fun s : List UInt8 => s.length ≤ 9223372036854775807) x) x ∧ mkE false c = (encL 1 encStr) x := by
  intro n c h
  obtain ⟨xs, hx, rfl⟩ := ty_sliceB encStr (fun s : List UInt8 => s.length ≤ 9223372036854775807) Tryd.underlying34 (sz := 1) (b := false) (by kernel_rfl) (isAgg_eq Tryd.underlying9) (fun m cs _ h => dec_9 m cs h) h
  exact ⟨xs, hx, rfl⟩
theorem dec_3 : ∀ (n : Nat) (c : List AV), TyN Tryd.prog n 3 c → ∃ x : Int, mkE false c = encInt x := by
  intro n c h
  obtain ⟨i, rfl, _⟩ := ty_int Tryd.underlying3 h
  exact ⟨i, rfl⟩
theorem dec_23 : ∀ (n : Nat) (c : List AV), TyN Tryd.prog n 23 c → ∃ x : List (Int), mkE false c = (encL 1 encInt) x := by
  intro n c h
  obtain ⟨xs, rfl⟩ := ty_slice encInt Tryd.underlying23 (sz := 1) (b := false) (by kernel_rfl) (isAgg_eq Tryd.underlying3) (fun m cs _ h => dec_3 m cs h) h
  exact ⟨xs, rfl⟩
theorem dec_58 : ∀ (n : Nat) (c : List AV), TyN Tryd.prog n 58 c → ∃ x : Node, mkE true c = encNode x := by
  intro n c h
  obtain ⟨m, ass, hm, rfl, hh⟩ := ty_struct Tryd.underlying58 (ts := [23, 23, 3, 3]) (by kernel_rfl) h
  rcases hh with _ | ⟨h0, _ | ⟨h1, _ | ⟨h2, _ | ⟨h3, _ | _⟩⟩⟩⟩
  obtain ⟨x0, rfl⟩ := ty_slice encInt Tryd.underlying23 (sz := 1) (b := false) (by kernel_rfl) (isAgg_eq Tryd.underlying3) (fun m cs _ h => dec_3 m cs h) h0
  obtain ⟨x1, rfl⟩ := ty_slice encInt Tryd.underlying23 (sz := 1) (b := false) (by kernel_rfl) (isAgg_eq Tryd.underlying3) (fun m cs _ h => dec_3 m cs h) h1
  obtain ⟨x2, rfl, _⟩ := ty_int Tryd.underlying3 h2
  obtain ⟨x3, rfl, _⟩ := ty_int Tryd.underlying3 h3
  exact ⟨⟨x0, x1, x2, x3⟩, by simp [mkE]⟩
theorem dec_22 : ∀ (n : Nat) (c : List AV), TyN Tryd.prog n 22 c → ∃ x : List (Node), mkE false c = (encL 4 encNode) x := by
  intro n c h
  obtain ⟨xs, rfl⟩ := ty_slice encNode Tryd.underlying22 (sz := 4) (b := true) (by kernel_rfl) (isAgg_eq Tryd.underlying58) (fun m cs _ h => dec_58 m cs h) h
  exact ⟨xs, rfl⟩
theorem dec_25 : ∀ (n : Nat) (c : List AV), TyN Tryd.prog n 25 c → ∃ x : Strc, mkE true c = encStrc x := by
  intro n c h
  obtain ⟨m, ass, hm, rfl, hh⟩ := ty_struct Tryd.underlying25 (ts := [22, 23]) (by kernel_rfl) h
  rcases hh with _ | ⟨h0, _ | ⟨h1, _ | _⟩⟩
  obtain ⟨x0, rfl⟩ := ty_slice encNode Tryd.underlying22 (sz := 4) (b := true) (by kernel_rfl) (isAgg_eq Tryd.underlying58) (fun m cs _ h => dec_58 m cs h) h0
  obtain ⟨x1, rfl⟩ := ty_slice encInt Tryd.underlying23 (sz := 1) (b := false) (by kernel_rfl) (isAgg_eq Tryd.underlying3) (fun m cs _ h => dec_3 m cs h) h1
  exact ⟨⟨x0, x1⟩, by simp [mkE]⟩
end Go.Vm
namespace Go.Proofs.YtmakeoekklcbdaaDoor.fnExactStructureText
open Go.RowKit Go.ChangeShapes Go.WideShapes Go.ChangeAt Go.Vm
theorem door_met (os : Os) (args : Array Value) : laidMetH Tryd.prog [("math/bits.deBruijn32tab", Rows.laid_math_bits_deBruijn32tab), ("math/bits.deBruijn64tab", Rows.laid_math_bits_deBruijn64tab), ("internal/strconv.uint64pow10", Rows.laid_internal_strconv_uint64pow10)] ((World.doorLaid Tryd.prog 4000 os).forCall (fun _ _ => 0) ⟨#[], args, []⟩).memory :=
  laidMetH_of_parts3 (fuel := 8) (laidMet_of_run' 8 (by kernel_rfl) (by kernel_rfl)) (by kernel_rfl) (by kernel_rfl)
theorem own : ownKnob Tryd.prog.godebug = none := by kernel_rfl
set_option maxRecDepth 100000 in
theorem lifted (os : Os) (started : os.Started) (H : Type) (enc : TypeId × Value → H) :
    ReturnsInHanded {} Tryd.checked os 4 .any (fun w args => (Rows.fnExactStructureTextSpec.pre enc Tryd.prog Tryd.f4 [] false w args ∧ laidMetH Tryd.prog [("math/bits.deBruijn32tab", Rows.laid_math_bits_deBruijn32tab), ("math/bits.deBruijn64tab", Rows.laid_math_bits_deBruijn64tab), ("internal/strconv.uint64pow10", Rows.laid_internal_strconv_uint64pow10)] w) ∧ sizedMet enc Tryd.prog Tryd.f4 (OpenSpec.ofChange Rows.fnExactStructureTextSpec) false w args) (Rows.fnExactStructureTextSpec.post enc Tryd.prog Tryd.f4 false true false false) := by
  refine law_lift_and (C := Tryd.checked) (X := fun w => laidMetH Tryd.prog [("math/bits.deBruijn32tab", Rows.laid_math_bits_deBruijn32tab), ("math/bits.deBruijn64tab", Rows.laid_math_bits_deBruijn64tab), ("internal/strconv.uint64pow10", Rows.laid_internal_strconv_uint64pow10)] w) (fun _ _ hh h => h.of_heap hh) (T := [34, 9, 25, 22, 58, 23, 3]) (tb := 4) own started (by kernel_rfl) Tryd.func4
    (ChangeSpec.witness_shaped (enc := enc) (C := Tryd.checked) (os := os) (X := fun w _ => laidMetH Tryd.prog [("math/bits.deBruijn32tab", Rows.laid_math_bits_deBruijn32tab), ("math/bits.deBruijn64tab", Rows.laid_math_bits_deBruijn64tab), ("internal/strconv.uint64pow10", Rows.laid_internal_strconv_uint64pow10)] w) false (World.doorLaid Tryd.prog 4000 os) #[.slice none 0 0, .agg #[.slice none 0 0, .slice none 0 0]] 8 rfl (World.shaped_of_RefB (by kernel_rfl) (by kernel_rfl)) (by kernel_rfl) (by kernel_rfl) (by kernel_rfl) (door_met os _)) rfl ?_ (by kernel_rfl) Tryd.underlying4 (by kernel_rfl) ?_ (by kernel_rfl) ?_ ?_
  · intro ds h
    rw [Tryd.params4] at h
    match ds, h with
    | [d0, d1], _ => rfl
  · rw [Tryd.params4]; simp
  · rw [Tryd.params4]
    intro t ht
    have ht : t ∈ [34, 25] := ht
    rcases List.mem_cons.1 ht with rfl | ht
    · exact ⟨by kernel_rfl, of_decide_eq_true (by kernel_rfl)⟩
    rcases List.mem_cons.1 ht with rfl | ht
    · exact ⟨by kernel_rfl, of_decide_eq_true (by kernel_rfl)⟩
    cases ht
  · rw [Tryd.params4]
    intro ass h
    rcases h with _ | ⟨h0, _ | ⟨h1, _ | _⟩⟩
    obtain ⟨n0, h0⟩ := h0
    obtain ⟨x0, q0, e0⟩ := dec_34 _ _ h0
    obtain ⟨n1, h1⟩ := h1
    obtain ⟨x1, e1⟩ := dec_25 _ _ h1
    change Ok Tryd.prog 4 (argE Tryd.prog _ _) _
    simp only [argE, isAgg_eq Tryd.underlying25, isAgg_eq Tryd.underlying34, TypeDesc.isStruct, e0, e1]
    exact ok_lawStructureText x0 q0 x1
theorem over : Rows.FnExactStructureTextSaid :=
  OpenClaim.holds_of_wide 4 Tryd.f4 rfl rfl rfl rfl rfl rfl rfl ⟨rfl, rfl, rfl, rfl, rfl⟩ rfl rfl rfl rfl rfl (by kernel_rfl) Tryd.func4 (by kernel_rfl)
    (of_decide_eq_true (by kernel_rfl)) (by unfold Func.isWrapper; first | (rw [if_pos (by decide +kernel)]; kernel_rfl) | (rw [if_neg (by decide +kernel)]; exact ⟨rfl, rfl⟩))
    (fun os started H enc _ => lifted os started H enc)
theorem card : Rows.FnExactStructureTextCardSaid :=
  Claim7.holds_tied_plain_at .later [] [.data, .data, .data] true (true, "df61efd7aa9859462d452ee409d9d4a551ea7f82590222a8a79d131c877cb7cd") false
    over (fun _ h => by cases h) (by kernel_rfl) (fun _ h => by cases h) fnExactStructureText_row_tie rfl ⟨rfl, rfl⟩ (by kernel_rfl) rfl
    (fun f fn hf hfn => by
      obtain rfl : f = 4 := Option.some.inj ((show Tryd.prog.funcNamed Rows.fnExactStructureTextRow.func = some 4 by kernel_rfl).symm.trans hf) |>.symm
      obtain rfl : fn = Tryd.f4 := (Option.some.inj (Tryd.func4.symm.trans hfn)).symm
      exact ⟨by kernel_rfl, fun j t ht => by
        rw [Tryd.params4] at ht
        have hm : t ∈ [34, 25] := by simpa using Array.mem_of_getElem? ht
        have hall : ([34, 25].all fun u => !Tryd.prog.wantsStandIn u) = true := by kernel_rfl
        exact (show Tryd.prog.wantsStandIn t = false by simpa using List.all_eq_true.1 hall t hm)⟩)
    (by kernel_rfl)
end Go.Proofs.YtmakeoekklcbdaaDoor.fnExactStructureText
namespace Go.Proofs.YtmakeoekklcbdaaDoor
theorem fnExactStructureText_holds : Rows.FnExactStructureTextCardSaid := fnExactStructureText.card
#print axioms fnExactStructureText_holds
end Go.Proofs.YtmakeoekklcbdaaDoor

