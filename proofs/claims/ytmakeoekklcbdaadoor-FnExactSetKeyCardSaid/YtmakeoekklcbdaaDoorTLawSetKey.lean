/- The program SetKey answers what the reference answers, for all arguments. No condition. -/
import Derived.Test.YtmakeoekklcbdaaDoorTXC
import Derived.Test.YtmakeoekklcbdaaDoorTLF
import Derived.Test.YtmakeoekklcbdaaDoorCards
import Derived.Test.YtmakeoekklcbdaaDoorTie
set_option linter.unusedSimpArgs false
set_option linter.unusedVariables false
namespace Go.Vm
open Go.Proofs
theorem dec_3 : ∀ (n : Nat) (c : List AV), TyN Tryd.prog n 3 c → ∃ x : Int, mkE false c = encInt x := by
  intro n c h
  obtain ⟨i, rfl, _⟩ := ty_int Tryd.underlying3 h
  exact ⟨i, rfl⟩
theorem dec_23 : ∀ (n : Nat) (c : List AV), TyN Tryd.prog n 23 c → ∃ x : List (Int), mkE false c = (encL 1 encInt) x := by
  intro n c h
  obtain ⟨xs, rfl⟩ := ty_slice encInt Tryd.underlying23 (sz := 1) (b := false) (by kernel_rfl) (isAgg_eq Tryd.underlying3) (fun m cs _ h => dec_3 m cs h) h
  exact ⟨xs, rfl⟩
theorem dec_58 : ∀ (n : Nat) (c : List AV), TyN Tryd.prog n 58 c → ∃ x : Node, mkE true c = encNode x := by
  intro n c h
  obtain ⟨m, ass, hm, rfl, hh⟩ := ty_struct Tryd.underlying58 (ts := [23, 23, 3, 3]) (by kernel_rfl) h
  rcases hh with _ | ⟨h0, _ | ⟨h1, _ | ⟨h2, _ | ⟨h3, _ | _⟩⟩⟩⟩
  obtain ⟨x0, rfl⟩ := ty_slice encInt Tryd.underlying23 (sz := 1) (b := false) (by kernel_rfl) (isAgg_eq Tryd.underlying3) (fun m cs _ h => dec_3 m cs h) h0
  obtain ⟨x1, rfl⟩ := ty_slice encInt Tryd.underlying23 (sz := 1) (b := false) (by kernel_rfl) (isAgg_eq Tryd.underlying3) (fun m cs _ h => dec_3 m cs h) h1
  obtain ⟨x2, rfl, _⟩ := ty_int Tryd.underlying3 h2
  obtain ⟨x3, rfl, _⟩ := ty_int Tryd.underlying3 h3
  exact ⟨⟨x0, x1, x2, x3⟩, by simp [mkE]⟩
theorem dec_22 : ∀ (n : Nat) (c : List AV), TyN Tryd.prog n 22 c → ∃ x : List (Node), mkE false c = (encL 4 encNode) x := by
  intro n c h
  obtain ⟨xs, rfl⟩ := ty_slice encNode Tryd.underlying22 (sz := 4) (b := true) (by kernel_rfl) (isAgg_eq Tryd.underlying58) (fun m cs _ h => dec_58 m cs h) h
  exact ⟨xs, rfl⟩
theorem dec_25 : ∀ (n : Nat) (c : List AV), TyN Tryd.prog n 25 c → ∃ x : Strc, mkE true c = encStrc x := by
  intro n c h
  obtain ⟨m, ass, hm, rfl, hh⟩ := ty_struct Tryd.underlying25 (ts := [22, 23]) (by kernel_rfl) h
  rcases hh with _ | ⟨h0, _ | ⟨h1, _ | _⟩⟩
  obtain ⟨x0, rfl⟩ := ty_slice encNode Tryd.underlying22 (sz := 4) (b := true) (by kernel_rfl) (isAgg_eq Tryd.underlying58) (fun m cs _ h => dec_58 m cs h) h0
  obtain ⟨x1, rfl⟩ := ty_slice encInt Tryd.underlying23 (sz := 1) (b := false) (by kernel_rfl) (isAgg_eq Tryd.underlying3) (fun m cs _ h => dec_3 m cs h) h1
  exact ⟨⟨x0, x1⟩, by simp [mkE]⟩
end Go.Vm
namespace Go.Proofs.YtmakeoekklcbdaaDoor.fnExactSetKey
open Go.RowKit Go.ChangeShapes Go.WideShapes Go.ChangeAt Go.Vm
theorem door_met (os : Os) (args : Array Value) : laidMetH Tryd.prog [("math/bits.deBruijn32tab", Rows.laid_math_bits_deBruijn32tab), ("math/bits.deBruijn64tab", Rows.laid_math_bits_deBruijn64tab), ("internal/strconv.uint64pow10", Rows.laid_internal_strconv_uint64pow10)] ((World.doorLaid Tryd.prog 4000 os).forCall (fun _ _ => 0) ⟨#[], args, []⟩).memory :=
  laidMetH_of_parts3 (fuel := 8) (laidMet_of_run' 8 (by kernel_rfl) (by kernel_rfl)) (by kernel_rfl) (by kernel_rfl)
theorem own : ownKnob Tryd.prog.godebug = none := by kernel_rfl
set_option maxRecDepth 100000 in
theorem lifted (os : Os) (started : os.Started) (H : Type) (enc : TypeId × Value → H) :
    ReturnsInHanded {} Tryd.checked os 3 .any (fun w args => (Rows.fnExactSetKeySpec.pre enc Tryd.prog Tryd.f3 [] false w args ∧ laidMetH Tryd.prog [("math/bits.deBruijn32tab", Rows.laid_math_bits_deBruijn32tab), ("math/bits.deBruijn64tab", Rows.laid_math_bits_deBruijn64tab), ("internal/strconv.uint64pow10", Rows.laid_internal_strconv_uint64pow10)] w) ∧ sizedMet enc Tryd.prog Tryd.f3 (OpenSpec.ofChange Rows.fnExactSetKeySpec) false w args) (Rows.fnExactSetKeySpec.post enc Tryd.prog Tryd.f3 false true false false) := by
  refine law_lift_and (C := Tryd.checked) (X := fun w => laidMetH Tryd.prog [("math/bits.deBruijn32tab", Rows.laid_math_bits_deBruijn32tab), ("math/bits.deBruijn64tab", Rows.laid_math_bits_deBruijn64tab), ("internal/strconv.uint64pow10", Rows.laid_internal_strconv_uint64pow10)] w) (fun _ _ hh h => h.of_heap hh) (T := [25, 22, 58, 23, 3]) (tb := 4) own started (by kernel_rfl) Tryd.func3
    (ChangeSpec.witness_shaped (enc := enc) (C := Tryd.checked) (os := os) (X := fun w _ => laidMetH Tryd.prog [("math/bits.deBruijn32tab", Rows.laid_math_bits_deBruijn32tab), ("math/bits.deBruijn64tab", Rows.laid_math_bits_deBruijn64tab), ("internal/strconv.uint64pow10", Rows.laid_internal_strconv_uint64pow10)] w) false (World.doorLaid Tryd.prog 4000 os) #[.agg #[.slice none 0 0, .slice none 0 0]] 8 rfl (World.shaped_of_RefB (by kernel_rfl) (by kernel_rfl)) (by kernel_rfl) (by kernel_rfl) (by kernel_rfl) (door_met os _)) rfl ?_ (by kernel_rfl) Tryd.underlying4 (by kernel_rfl) ?_ (by kernel_rfl) ?_ ?_
  · intro ds h
    rw [Tryd.params3] at h
    match ds, h with
    | [d0], _ => rfl
  · rw [Tryd.params3]; simp
  · rw [Tryd.params3]
    intro t ht
    have ht : t ∈ [25] := ht
    rcases List.mem_cons.1 ht with rfl | ht
    · exact ⟨by kernel_rfl, of_decide_eq_true (by kernel_rfl)⟩
    cases ht
  · rw [Tryd.params3]
    intro ass h
    rcases h with _ | ⟨h0, _ | _⟩
    obtain ⟨n0, h0⟩ := h0
    obtain ⟨x0, e0⟩ := dec_25 _ _ h0
    change Ok Tryd.prog 3 (argE Tryd.prog _ _) _
    simp only [argE, isAgg_eq Tryd.underlying25, TypeDesc.isStruct, e0]
    exact ok_lawSetKey x0
theorem over : Rows.FnExactSetKeySaid :=
  OpenClaim.holds_of_wide 3 Tryd.f3 rfl rfl rfl rfl rfl rfl rfl ⟨rfl, rfl, rfl, rfl, rfl⟩ rfl rfl rfl rfl rfl (by kernel_rfl) Tryd.func3 (by kernel_rfl)
    (of_decide_eq_true (by kernel_rfl)) (by unfold Func.isWrapper; first | (rw [if_pos (by decide +kernel)]; kernel_rfl) | (rw [if_neg (by decide +kernel)]; exact ⟨rfl, rfl⟩))
    (fun os started H enc _ => lifted os started H enc)
theorem card : Rows.FnExactSetKeyCardSaid :=
  Claim7.holds_tied_plain_at .later [] [.data, .data, .data] true (true, "df61efd7aa9859462d452ee409d9d4a551ea7f82590222a8a79d131c877cb7cd") false
    over (fun _ h => by cases h) (by kernel_rfl) (fun _ h => by cases h) fnExactSetKey_row_tie rfl ⟨rfl, rfl⟩ (by kernel_rfl) rfl
    (fun f fn hf hfn => by
      obtain rfl : f = 3 := Option.some.inj ((show Tryd.prog.funcNamed Rows.fnExactSetKeyRow.func = some 3 by kernel_rfl).symm.trans hf) |>.symm
      obtain rfl : fn = Tryd.f3 := (Option.some.inj (Tryd.func3.symm.trans hfn)).symm
      exact ⟨by kernel_rfl, fun j t ht => by
        rw [Tryd.params3] at ht
        have hm : t ∈ [25] := by simpa using Array.mem_of_getElem? ht
        have hall : ([25].all fun u => !Tryd.prog.wantsStandIn u) = true := by kernel_rfl
        exact (show Tryd.prog.wantsStandIn t = false by simpa using List.all_eq_true.1 hall t hm)⟩)
    (by kernel_rfl)
end Go.Proofs.YtmakeoekklcbdaaDoor.fnExactSetKey
namespace Go.Proofs.YtmakeoekklcbdaaDoor
theorem fnExactSetKey_holds : Rows.FnExactSetKeyCardSaid := fnExactSetKey.card
#print axioms fnExactSetKey_holds
end Go.Proofs.YtmakeoekklcbdaaDoor

