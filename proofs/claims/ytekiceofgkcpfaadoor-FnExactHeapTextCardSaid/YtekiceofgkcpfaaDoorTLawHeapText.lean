/- The program HeapText answers what the reference answers, for all arguments. No condition. -/
import Derived.Test.YtekiceofgkcpfaaDoorTXD
import Derived.Test.YtekiceofgkcpfaaDoorTLF
import Derived.Test.YtekiceofgkcpfaaDoorCards
import Derived.Test.YtekiceofgkcpfaaDoorTie
set_option linter.unusedSimpArgs false
set_option linter.unusedVariables false
namespace Go.Vm
open Go.Proofs
theorem dec_9 : ∀ (n : Nat) (c : List AV), TyN Tryd.prog n 9 c → ∃ x : List UInt8, (fun s : List UInt8 => s.length ≤ 9223372036854775807) x ∧ mkE false c = encStr x := by
  intro n c h
  obtain ⟨i, hi, rfl⟩ := ty_strB Tryd.underlying9 h
  exact ⟨i, hi, rfl⟩
theorem dec_22 : ∀ (n : Nat) (c : List AV), TyN Tryd.prog n 22 c → ∃ x : List (List UInt8), (fun xs : List (List UInt8) => ∀ x ∈ xs, (fun s : List UInt8 => s.length ≤ 9223372036854775807) x) x ∧ mkE false c = (encL 1 encStr) x := by
  intro n c h
  obtain ⟨xs, hx, rfl⟩ := ty_sliceB encStr (fun s : List UInt8 => s.length ≤ 9223372036854775807) Tryd.underlying22 (sz := 1) (b := false) (by kernel_rfl) (isAgg_eq Tryd.underlying9) (fun m cs _ h => dec_9 m cs h) h
  exact ⟨xs, hx, rfl⟩
theorem dec_3 : ∀ (n : Nat) (c : List AV), TyN Tryd.prog n 3 c → ∃ x : Int, mkE false c = encInt x := by
  intro n c h
  obtain ⟨i, rfl, _⟩ := ty_int Tryd.underlying3 h
  exact ⟨i, rfl⟩
theorem dec_34 : ∀ (n : Nat) (c : List AV), TyN Tryd.prog n 34 c → ∃ x : List (Int), mkE false c = (encL 1 encInt) x := by
  intro n c h
  obtain ⟨xs, rfl⟩ := ty_slice encInt Tryd.underlying34 (sz := 1) (b := false) (by kernel_rfl) (isAgg_eq Tryd.underlying3) (fun m cs _ h => dec_3 m cs h) h
  exact ⟨xs, rfl⟩
theorem dec_36 : ∀ (n : Nat) (c : List AV), TyN Tryd.prog n 36 c → ∃ x : Heap, mkE true c = encHeap x := by
  intro n c h
  obtain ⟨m, ass, hm, rfl, hh⟩ := ty_struct Tryd.underlying36 (ts := [34, 34]) (by kernel_rfl) h
  rcases hh with _ | ⟨h0, _ | ⟨h1, _ | _⟩⟩
  obtain ⟨x0, rfl⟩ := ty_slice encInt Tryd.underlying34 (sz := 1) (b := false) (by kernel_rfl) (isAgg_eq Tryd.underlying3) (fun m cs _ h => dec_3 m cs h) h0
  obtain ⟨x1, rfl⟩ := ty_slice encInt Tryd.underlying34 (sz := 1) (b := false) (by kernel_rfl) (isAgg_eq Tryd.underlying3) (fun m cs _ h => dec_3 m cs h) h1
  exact ⟨⟨x0, x1⟩, by simp [mkE]⟩
end Go.Vm
namespace Go.Proofs.YtekiceofgkcpfaaDoor.fnExactHeapText
open Go.RowKit Go.ChangeShapes Go.WideShapes Go.ChangeAt Go.Vm
theorem door_met (os : Os) (args : Array Value) : laidMetH Tryd.prog [("math/bits.deBruijn32tab", Rows.laid_math_bits_deBruijn32tab), ("math/bits.deBruijn64tab", Rows.laid_math_bits_deBruijn64tab), ("internal/strconv.uint64pow10", Rows.laid_internal_strconv_uint64pow10)] ((World.doorLaid Tryd.prog 4000 os).forCall (fun _ _ => 0) ⟨#[], args, []⟩).memory :=
  laidMetH_of_parts3 (fuel := 8) (laidMet_of_run' 8 (by kernel_rfl) (by kernel_rfl)) (by kernel_rfl) (by kernel_rfl)
theorem own : ownKnob Tryd.prog.godebug = none := by kernel_rfl
set_option maxRecDepth 100000 in
theorem lifted (os : Os) (started : os.Started) (H : Type) (enc : TypeId × Value → H) :
    ReturnsInHanded {} Tryd.checked os 4 .any (fun w args => (Rows.fnExactHeapTextSpec.pre enc Tryd.prog Tryd.f4 [] false w args ∧ laidMetH Tryd.prog [("math/bits.deBruijn32tab", Rows.laid_math_bits_deBruijn32tab), ("math/bits.deBruijn64tab", Rows.laid_math_bits_deBruijn64tab), ("internal/strconv.uint64pow10", Rows.laid_internal_strconv_uint64pow10)] w) ∧ sizedMet enc Tryd.prog Tryd.f4 (OpenSpec.ofChange Rows.fnExactHeapTextSpec) false w args) (Rows.fnExactHeapTextSpec.post enc Tryd.prog Tryd.f4 false true false false) := by
  refine law_lift_and (C := Tryd.checked) (X := fun w => laidMetH Tryd.prog [("math/bits.deBruijn32tab", Rows.laid_math_bits_deBruijn32tab), ("math/bits.deBruijn64tab", Rows.laid_math_bits_deBruijn64tab), ("internal/strconv.uint64pow10", Rows.laid_internal_strconv_uint64pow10)] w) (fun _ _ hh h => h.of_heap hh) (T := [22, 9, 36, 34, 3]) (tb := 4) own started (by kernel_rfl) Tryd.func4
    (ChangeSpec.witness_shaped (enc := enc) (C := Tryd.checked) (os := os) (X := fun w _ => laidMetH Tryd.prog [("math/bits.deBruijn32tab", Rows.laid_math_bits_deBruijn32tab), ("math/bits.deBruijn64tab", Rows.laid_math_bits_deBruijn64tab), ("internal/strconv.uint64pow10", Rows.laid_internal_strconv_uint64pow10)] w) false (World.doorLaid Tryd.prog 4000 os) #[.slice none 0 0, .agg #[.slice none 0 0, .slice none 0 0]] 8 rfl (World.shaped_of_RefB (by kernel_rfl) (by kernel_rfl)) (by kernel_rfl) (by kernel_rfl) (by kernel_rfl) (door_met os _)) rfl ?_ (by kernel_rfl) Tryd.underlying4 (by kernel_rfl) ?_ (by kernel_rfl) ?_ ?_
  · intro ds h
    rw [Tryd.params4] at h
    match ds, h with
    | [d0, d1], _ => rfl
  · rw [Tryd.params4]; simp
  · rw [Tryd.params4]
    intro t ht
    have ht : t ∈ [22, 36] := ht
    rcases List.mem_cons.1 ht with rfl | ht
    · exact ⟨by kernel_rfl, of_decide_eq_true (by kernel_rfl)⟩
    rcases List.mem_cons.1 ht with rfl | ht
    · exact ⟨by kernel_rfl, of_decide_eq_true (by kernel_rfl)⟩
    cases ht
  · rw [Tryd.params4]
    intro ass h
    rcases h with _ | ⟨h0, _ | ⟨h1, _ | _⟩⟩
    obtain ⟨n0, h0⟩ := h0
    obtain ⟨x0, q0, e0⟩ := dec_22 _ _ h0
    obtain ⟨n1, h1⟩ := h1
    obtain ⟨x1, e1⟩ := dec_36 _ _ h1
    change Ok Tryd.prog 4 (argE Tryd.prog _ _) _
    simp only [argE, isAgg_eq Tryd.underlying22, isAgg_eq Tryd.underlying36, TypeDesc.isStruct, e0, e1]
    exact ok_lawHeapText x0 q0 x1
theorem over : Rows.FnExactHeapTextSaid :=
  OpenClaim.holds_of_wide 4 Tryd.f4 rfl rfl rfl rfl rfl rfl rfl ⟨rfl, rfl, rfl, rfl, rfl⟩ rfl rfl rfl rfl rfl (by kernel_rfl) Tryd.func4 (by kernel_rfl)
    (of_decide_eq_true (by kernel_rfl)) (by unfold Func.isWrapper; first | (rw [if_pos (by decide +kernel)]; kernel_rfl) | (rw [if_neg (by decide +kernel)]; exact ⟨rfl, rfl⟩))
    (fun os started H enc _ => lifted os started H enc)
theorem card : Rows.FnExactHeapTextCardSaid :=
  Claim7.holds_tied_plain_at .later [] [.data, .data, .data] true (true, "07c8dd17881c66dd65f1078c63504e3bb33c8c5b6f26f704aa4911923bea0a93") false
    over (fun _ h => by cases h) (by kernel_rfl) (fun _ h => by cases h) fnExactHeapText_row_tie rfl ⟨rfl, rfl⟩ (by kernel_rfl) rfl
    (fun f fn hf hfn => by
      obtain rfl : f = 4 := Option.some.inj ((show Tryd.prog.funcNamed Rows.fnExactHeapTextRow.func = some 4 by kernel_rfl).symm.trans hf) |>.symm
      obtain rfl : fn = Tryd.f4 := (Option.some.inj (Tryd.func4.symm.trans hfn)).symm
      exact ⟨by kernel_rfl, fun j t ht => by
        rw [Tryd.params4] at ht
        have hm : t ∈ [22, 36] := by simpa using Array.mem_of_getElem? ht
        have hall : ([22, 36].all fun u => !Tryd.prog.wantsStandIn u) = true := by kernel_rfl
        exact (show Tryd.prog.wantsStandIn t = false by simpa using List.all_eq_true.1 hall t hm)⟩)
    (by kernel_rfl)
end Go.Proofs.YtekiceofgkcpfaaDoor.fnExactHeapText
namespace Go.Proofs.YtekiceofgkcpfaaDoor
theorem fnExactHeapText_holds : Rows.FnExactHeapTextCardSaid := fnExactHeapText.card
#print axioms fnExactHeapText_holds
end Go.Proofs.YtekiceofgkcpfaaDoor

