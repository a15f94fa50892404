/- The law FnExactSetLines holds: the program and the reference give the same lines, in memory of their own. No condition. -/
import Derived.Test.YtekiceofgkcpfaaDoorTYD
import Derived.Test.YtekiceofgkcpfaaDoorTLF
import Derived.Test.YtekiceofgkcpfaaDoorCards
import Derived.Test.YtekiceofgkcpfaaDoorTie
set_option linter.unusedSimpArgs false
set_option linter.unusedVariables false
namespace Go.Vm
open Go.Proofs
theorem dec_9 : ∀ (n : Nat) (c : List AV), TyN Tryd.prog n 9 c → ∃ x : List UInt8, (fun s : List UInt8 => s.length ≤ 9223372036854775807) x ∧ mkE false c = encStr x := by
  intro n c h
  obtain ⟨i, hi, rfl⟩ := ty_strB Tryd.underlying9 h
  exact ⟨i, hi, rfl⟩
theorem dec_22 : ∀ (n : Nat) (c : List AV), TyN Tryd.prog n 22 c → ∃ x : List (List UInt8), (fun xs : List (List UInt8) => ∀ x ∈ xs, (fun s : List UInt8 => s.length ≤ 9223372036854775807) x) x ∧ mkE false c = (encL 1 encStr) x := by
  intro n c h
  obtain ⟨xs, hx, rfl⟩ := ty_sliceB encStr (fun s : List UInt8 => s.length ≤ 9223372036854775807) Tryd.underlying22 (sz := 1) (b := false) (by kernel_rfl) (isAgg_eq Tryd.underlying9) (fun m cs _ h => dec_9 m cs h) h
  exact ⟨xs, hx, rfl⟩
theorem dec_3 : ∀ (n : Nat) (c : List AV), TyN Tryd.prog n 3 c → ∃ x : Int, mkE false c = encInt x := by
  intro n c h
  obtain ⟨i, rfl, _⟩ := ty_int Tryd.underlying3 h
  exact ⟨i, rfl⟩
theorem dec_34 : ∀ (n : Nat) (c : List AV), TyN Tryd.prog n 34 c → ∃ x : List (Int), mkE false c = (encL 1 encInt) x := by
  intro n c h
  obtain ⟨xs, rfl⟩ := ty_slice encInt Tryd.underlying34 (sz := 1) (b := false) (by kernel_rfl) (isAgg_eq Tryd.underlying3) (fun m cs _ h => dec_3 m cs h) h
  exact ⟨xs, rfl⟩
theorem dec_107 : ∀ (n : Nat) (c : List AV), TyN Tryd.prog n 107 c → ∃ x : Node, mkE true c = encNode x := by
  intro n c h
  obtain ⟨m, ass, hm, rfl, hh⟩ := ty_struct Tryd.underlying107 (ts := [34, 34, 3, 3]) (by kernel_rfl) h
  rcases hh with _ | ⟨h0, _ | ⟨h1, _ | ⟨h2, _ | ⟨h3, _ | _⟩⟩⟩⟩
  obtain ⟨x0, rfl⟩ := ty_slice encInt Tryd.underlying34 (sz := 1) (b := false) (by kernel_rfl) (isAgg_eq Tryd.underlying3) (fun m cs _ h => dec_3 m cs h) h0
  obtain ⟨x1, rfl⟩ := ty_slice encInt Tryd.underlying34 (sz := 1) (b := false) (by kernel_rfl) (isAgg_eq Tryd.underlying3) (fun m cs _ h => dec_3 m cs h) h1
  obtain ⟨x2, rfl, _⟩ := ty_int Tryd.underlying3 h2
  obtain ⟨x3, rfl, _⟩ := ty_int Tryd.underlying3 h3
  exact ⟨⟨x0, x1, x2, x3⟩, by simp [mkE]⟩
theorem dec_60 : ∀ (n : Nat) (c : List AV), TyN Tryd.prog n 60 c → ∃ x : List (Node), mkE false c = (encL 4 encNode) x := by
  intro n c h
  obtain ⟨xs, rfl⟩ := ty_slice encNode Tryd.underlying60 (sz := 4) (b := true) (by kernel_rfl) (isAgg_eq Tryd.underlying107) (fun m cs _ h => dec_107 m cs h) h
  exact ⟨xs, rfl⟩
theorem dec_62 : ∀ (n : Nat) (c : List AV), TyN Tryd.prog n 62 c → ∃ x : Strc, mkE true c = encStrc x := by
  intro n c h
  obtain ⟨m, ass, hm, rfl, hh⟩ := ty_struct Tryd.underlying62 (ts := [60, 34]) (by kernel_rfl) h
  rcases hh with _ | ⟨h0, _ | ⟨h1, _ | _⟩⟩
  obtain ⟨x0, rfl⟩ := ty_slice encNode Tryd.underlying60 (sz := 4) (b := true) (by kernel_rfl) (isAgg_eq Tryd.underlying107) (fun m cs _ h => dec_107 m cs h) h0
  obtain ⟨x1, rfl⟩ := ty_slice encInt Tryd.underlying34 (sz := 1) (b := false) (by kernel_rfl) (isAgg_eq Tryd.underlying3) (fun m cs _ h => dec_3 m cs h) h1
  exact ⟨⟨x0, x1⟩, by simp [mkE]⟩
theorem dec_23 : ∀ (n : Nat) (c : List AV), TyN Tryd.prog n 23 c → ∃ x : List (Strc), mkE false c = (encL 2 encStrc) x := by
  intro n c h
  obtain ⟨xs, rfl⟩ := ty_slice encStrc Tryd.underlying23 (sz := 2) (b := true) (by kernel_rfl) (isAgg_eq Tryd.underlying62) (fun m cs _ h => dec_62 m cs h) h
  exact ⟨xs, rfl⟩
end Go.Vm
namespace Go.Proofs.YtekiceofgkcpfaaDoor.fnExactSetLines
open Go.RowKit Go.ChangeShapes Go.WideShapes Go.ChangeAt Go.Vm
theorem door_met (os : Os) (args : Array Value) : laidMetH Tryd.prog [("math/bits.deBruijn32tab", Rows.laid_math_bits_deBruijn32tab), ("math/bits.deBruijn64tab", Rows.laid_math_bits_deBruijn64tab), ("internal/strconv.uint64pow10", Rows.laid_internal_strconv_uint64pow10)] ((World.doorLaid Tryd.prog 4000 os).forCall (fun _ _ => 0) ⟨#[], args, []⟩).memory :=
  laidMetH_of_parts3 (fuel := 8) (laidMet_of_run' 8 (by kernel_rfl) (by kernel_rfl)) (by kernel_rfl) (by kernel_rfl)
theorem own : ownKnob Tryd.prog.godebug = none := by kernel_rfl
set_option maxRecDepth 100000 in
theorem lifted (os : Os) (started : os.Started) (H : Type) (enc : TypeId × Value → H) :
    ReturnsInHanded {} Tryd.checked os 3 .any (fun w args => (Rows.fnExactSetLinesSpec.pre enc Tryd.prog Tryd.f3 [] false w args ∧ laidMetH Tryd.prog [("math/bits.deBruijn32tab", Rows.laid_math_bits_deBruijn32tab), ("math/bits.deBruijn64tab", Rows.laid_math_bits_deBruijn64tab), ("internal/strconv.uint64pow10", Rows.laid_internal_strconv_uint64pow10)] w) ∧ sizedMet enc Tryd.prog Tryd.f3 (OpenSpec.ofChange Rows.fnExactSetLinesSpec) false w args) (Rows.fnExactSetLinesSpec.post enc Tryd.prog Tryd.f3 false true false false) := by
  refine law_lift_and (C := Tryd.checked) (X := fun w => laidMetH Tryd.prog [("math/bits.deBruijn32tab", Rows.laid_math_bits_deBruijn32tab), ("math/bits.deBruijn64tab", Rows.laid_math_bits_deBruijn64tab), ("internal/strconv.uint64pow10", Rows.laid_internal_strconv_uint64pow10)] w) (fun _ _ hh h => h.of_heap hh) (T := [22, 9, 23, 62, 60, 107, 34, 3]) (tb := 4) own started (by kernel_rfl) Tryd.func3
    (ChangeSpec.witness_shaped (enc := enc) (C := Tryd.checked) (os := os) (X := fun w _ => laidMetH Tryd.prog [("math/bits.deBruijn32tab", Rows.laid_math_bits_deBruijn32tab), ("math/bits.deBruijn64tab", Rows.laid_math_bits_deBruijn64tab), ("internal/strconv.uint64pow10", Rows.laid_internal_strconv_uint64pow10)] w) false (World.doorLaid Tryd.prog 4000 os) #[.slice none 0 0, .slice none 0 0] 8 rfl (World.shaped_of_RefB (by kernel_rfl) (by kernel_rfl)) (by kernel_rfl) (by kernel_rfl) (by kernel_rfl) (door_met os _)) rfl ?_ (by kernel_rfl) Tryd.underlying4 (by kernel_rfl) ?_ (by kernel_rfl) ?_ ?_
  · intro ds h
    rw [Tryd.params3] at h
    match ds, h with
    | [d0, d1], _ => rfl
  · rw [Tryd.params3]; simp
  · rw [Tryd.params3]
    intro t ht
    have ht : t ∈ [22, 23] := ht
    rcases List.mem_cons.1 ht with rfl | ht
    · exact ⟨by kernel_rfl, of_decide_eq_true (by kernel_rfl)⟩
    rcases List.mem_cons.1 ht with rfl | ht
    · exact ⟨by kernel_rfl, of_decide_eq_true (by kernel_rfl)⟩
    cases ht
  · rw [Tryd.params3]
    intro ass h
    rcases h with _ | ⟨h0, _ | ⟨h1, _ | _⟩⟩
    obtain ⟨n0, h0⟩ := h0
    obtain ⟨x0, q0, e0⟩ := dec_22 _ _ h0
    obtain ⟨n1, h1⟩ := h1
    obtain ⟨x1, e1⟩ := dec_23 _ _ h1
    change Ok Tryd.prog 3 (argE Tryd.prog _ _) _
    simp only [argE, isAgg_eq Tryd.underlying22, isAgg_eq Tryd.underlying23, TypeDesc.isStruct, e0, e1]
    exact ok_lawSetLines x0 q0 x1
theorem over : Rows.FnExactSetLinesSaid :=
  OpenClaim.holds_of_wide 3 Tryd.f3 rfl rfl rfl rfl rfl rfl rfl ⟨rfl, rfl, rfl, rfl, rfl⟩ rfl rfl rfl rfl rfl (by kernel_rfl) Tryd.func3 (by kernel_rfl)
    (of_decide_eq_true (by kernel_rfl)) (by unfold Func.isWrapper; first | (rw [if_pos (by decide +kernel)]; kernel_rfl) | (rw [if_neg (by decide +kernel)]; exact ⟨rfl, rfl⟩))
    (fun os started H enc _ => lifted os started H enc)
theorem card : Rows.FnExactSetLinesCardSaid :=
  Claim7.holds_tied_plain_at .later [] [.data, .data, .data] true (true, "07c8dd17881c66dd65f1078c63504e3bb33c8c5b6f26f704aa4911923bea0a93") false
    over (fun _ h => by cases h) (by kernel_rfl) (fun _ h => by cases h) fnExactSetLines_row_tie rfl ⟨rfl, rfl⟩ (by kernel_rfl) rfl
    (fun f fn hf hfn => by
      obtain rfl : f = 3 := Option.some.inj ((show Tryd.prog.funcNamed Rows.fnExactSetLinesRow.func = some 3 by kernel_rfl).symm.trans hf) |>.symm
      obtain rfl : fn = Tryd.f3 := (Option.some.inj (Tryd.func3.symm.trans hfn)).symm
      exact ⟨by kernel_rfl, fun j t ht => by
        rw [Tryd.params3] at ht
        have hm : t ∈ [22, 23] := by simpa using Array.mem_of_getElem? ht
        have hall : ([22, 23].all fun u => !Tryd.prog.wantsStandIn u) = true := by kernel_rfl
        exact (show Tryd.prog.wantsStandIn t = false by simpa using List.all_eq_true.1 hall t hm)⟩)
    (by kernel_rfl)
end Go.Proofs.YtekiceofgkcpfaaDoor.fnExactSetLines
namespace Go.Proofs.YtekiceofgkcpfaaDoor
theorem fnExactSetLines_holds : Rows.FnExactSetLinesCardSaid := fnExactSetLines.card
#print axioms fnExactSetLines_holds
end Go.Proofs.YtekiceofgkcpfaaDoor

