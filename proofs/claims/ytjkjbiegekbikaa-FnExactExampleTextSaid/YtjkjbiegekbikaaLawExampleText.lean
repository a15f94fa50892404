/- The program's ExampleText and the reference's return the same text, for all arguments. No condition. -/
import Derived.Test.YtjkjbiegekbikaaVme
import Derived.KernelRfl
import Derived.Test.YtjkjbiegekbikaaRows
set_option linter.unusedSimpArgs false
set_option linter.unusedVariables false
namespace Go.Vm
open Go.Proofs
def code_impl_within : F := ⟨15, [.tmp 6],
 .seq (.reg [⟨some 6, .mov (.k (.bool false)), none⟩])
 (.seq (.reg [⟨some 7, .mov (.t 1), none⟩,
     ⟨some 8, .mov (.t 0), none⟩,
     ⟨some 9, .bin .leq (.t 7) (.t 8), none⟩,
     ⟨some 10, .mov (.t 9), none⟩,
     ⟨some 11, .mov (.t 0), some (10, true)⟩,
     ⟨some 12, .mov (.t 2), some (10, true)⟩,
     ⟨some 13, .bin .leq (.t 11) (.t 12), some (10, true)⟩,
     ⟨some 14, .pick (.t 10) (.t 13) (.k (.bool false)), none⟩,
     ⟨some 6, .mov (.t 14), none⟩])
  (.ret))⟩
theorem fok_impl_within : FOk Try.prog 51 code_impl_within := fok Try.func51 (by kernel_rfl)
def code_spec_ExampleText : F := ⟨16, [.tmp 2],
 .seq (.reg [⟨some 2, .mov (.k (.str [])), none⟩])
 (.seq (.seq (.reg [⟨some 3, .mov (.t 0), none⟩])
   (.block 0 (.seq (.reg [⟨some 5, .bin .eql (.t 3) (.k (.int .i64 1)), none⟩,
        ⟨some 4, .mov (.t 5), none⟩])
     (.cond (.t 4)
      (.seq (.reg [⟨some 2, .mov (.k (.str [120, 32, 121, 32, 116, 59, 55, 59, 48, 32, 49, 32, 121, 61, 110, 117, 108, 108, 59, 49, 32, 54, 32, 120, 61, 61, 110, 117, 108, 108, 59, 49, 32, 50, 32, 120, 33, 61, 110, 117, 108, 108, 59, 50, 32, 51, 32, 116, 61, 121, 59, 51, 32, 52, 32, 121, 61, 120, 59, 52, 32, 53, 32, 120, 61, 120, 46, 110, 59, 53, 32, 49, 32, 121, 46, 110, 61, 116])), none⟩])
       (.ret))
      (.seq (.reg [⟨some 7, .bin .eql (.t 3) (.k (.int .i64 2)), none⟩,
          ⟨some 6, .mov (.t 7), none⟩])
       (.cond (.t 6)
        (.seq (.reg [⟨some 2, .mov (.k (.str [120, 32, 121, 59, 52, 59, 48, 32, 49, 32, 121, 61, 120, 59, 49, 32, 50, 32, 121, 33, 61, 110, 117, 108, 108, 59, 50, 32, 49, 32, 121, 61, 121, 46, 110, 59, 49, 32, 51, 32, 121, 61, 61, 110, 117, 108, 108])), none⟩])
         (.ret))
        (.seq (.reg [⟨some 9, .bin .eql (.t 3) (.k (.int .i64 3)), none⟩,
            ⟨some 8, .mov (.t 9), none⟩])
         (.cond (.t 8)
          (.seq (.reg [⟨some 2, .mov (.k (.str [120, 32, 116, 59, 54, 59, 48, 32, 53, 32, 120, 61, 61, 110, 117, 108, 108, 59, 48, 32, 49, 32, 120, 33, 61, 110, 117, 108, 108, 59, 49, 32, 50, 32, 116, 61, 120, 46, 110, 59, 50, 32, 51, 32, 102, 114, 101, 101, 32, 120, 59, 51, 32, 52, 32, 120, 61, 116, 59, 52, 32, 48, 32, 116, 61, 110, 117, 108, 108])), none⟩])
           (.ret))
          (.seq (.reg [⟨some 11, .bin .eql (.t 3) (.k (.int .i64 4)), none⟩,
              ⟨some 10, .mov (.t 11), none⟩])
           (.cond (.t 10)
            (.seq (.reg [⟨some 2, .mov (.k (.str [120, 32, 121, 59, 51, 59, 48, 32, 49, 32, 121, 61, 120, 46, 110, 59, 49, 32, 50, 32, 120, 61, 121, 46, 110])), none⟩])
             (.ret))
            (.seq (.reg [⟨some 13, .bin .eql (.t 3) (.k (.int .i64 5)), none⟩,
                ⟨some 12, .mov (.t 13), none⟩])
             (.cond (.t 12)
              (.seq (.reg [⟨some 2, .mov (.k (.str [120, 32, 121, 59, 51, 59, 48, 32, 49, 32, 120, 61, 110, 101, 119, 59, 49, 32, 50, 32, 120, 61, 110, 117, 108, 108])), none⟩])
               (.ret))
              (.seq (.reg [⟨some 15, .bin .eql (.t 3) (.k (.int .i64 6)), none⟩,
                  ⟨some 14, .mov (.t 15), none⟩])
               (.cond (.t 14)
                (.seq (.reg [⟨some 2, .mov (.k (.str [120, 32, 121, 59, 52, 59, 48, 32, 49, 32, 121, 61, 110, 101, 119, 59, 49, 32, 50, 32, 121, 46, 110, 61, 120, 59, 50, 32, 51, 32, 120, 61, 121, 59, 51, 32, 48, 32, 121, 61, 110, 117, 108, 108])), none⟩])
                 (.ret))
                (.skip)))))))))))))))
  (.seq (.reg [⟨some 2, .mov (.k (.str [])), none⟩])
   (.ret)))⟩
theorem fok_spec_ExampleText : FOk Try.prog 15 code_spec_ExampleText := fok Try.func15 (by kernel_rfl)
def code_impl_ExampleText : F := ⟨15, [.tmp 2],
 .seq (.reg [⟨some 2, .mov (.k (.str [])), none⟩])
 (.seq (.reg [⟨some 4, .bsl 9 1 6 (.str []) [(0, (.k (.str [120, 32, 121, 32, 116, 59, 55, 59, 48, 32, 49, 32, 121, 61, 110, 117, 108, 108, 59, 49, 32, 54, 32, 120, 61, 61, 110, 117, 108, 108, 59, 49, 32, 50, 32, 120, 33, 61, 110, 117, 108, 108, 59, 50, 32, 51, 32, 116, 61, 121, 59, 51, 32, 52, 32, 121, 61, 120, 59, 52, 32, 53, 32, 120, 61, 120, 46, 110, 59, 53, 32, 49, 32, 121, 46, 110, 61, 116]))), (1, (.k (.str [120, 32, 121, 59, 52, 59, 48, 32, 49, 32, 121, 61, 120, 59, 49, 32, 50, 32, 121, 33, 61, 110, 117, 108, 108, 59, 50, 32, 49, 32, 121, 61, 121, 46, 110, 59, 49, 32, 51, 32, 121, 61, 61, 110, 117, 108, 108]))), (2, (.k (.str [120, 32, 116, 59, 54, 59, 48, 32, 53, 32, 120, 61, 61, 110, 117, 108, 108, 59, 48, 32, 49, 32, 120, 33, 61, 110, 117, 108, 108, 59, 49, 32, 50, 32, 116, 61, 120, 46, 110, 59, 50, 32, 51, 32, 102, 114, 101, 101, 32, 120, 59, 51, 32, 52, 32, 120, 61, 116, 59, 52, 32, 48, 32, 116, 61, 110, 117, 108, 108]))), (3, (.k (.str [120, 32, 121, 59, 51, 59, 48, 32, 49, 32, 121, 61, 120, 46, 110, 59, 49, 32, 50, 32, 120, 61, 121, 46, 110]))), (4, (.k (.str [120, 32, 121, 59, 51, 59, 48, 32, 49, 32, 120, 61, 110, 101, 119, 59, 49, 32, 50, 32, 120, 61, 110, 117, 108, 108]))), (5, (.k (.str [120, 32, 121, 59, 52, 59, 48, 32, 49, 32, 121, 61, 110, 101, 119, 59, 49, 32, 50, 32, 121, 46, 110, 61, 120, 59, 50, 32, 51, 32, 120, 61, 121, 59, 51, 32, 48, 32, 121, 61, 110, 117, 108, 108])))], none⟩,
     ⟨some 3, .mov (.t 4), none⟩])
  (.seq (.seq (.reg [⟨some 5, .mov (.t 0), none⟩,
       ⟨some 6, .mov (.t 3), none⟩,
       ⟨some 7, .len (.t 6), none⟩,
       ⟨some 8, .call 51 [(.t 5), (.k (.int .i64 1)), (.t 7)], none⟩,
       ⟨some 9, .not (.t 8), none⟩])
    (.cond (.t 9)
     (.seq (.reg [⟨some 2, .mov (.k (.str [])), none⟩])
      (.ret))
     (.skip)))
   (.seq (.reg [⟨some 10, .mov (.t 3), none⟩,
       ⟨some 11, .mov (.t 0), none⟩,
       ⟨some 12, .bin .sub (.t 11) (.k (.int .i64 1)), none⟩,
       ⟨some 13, .iaddr 1 (.t 10) (.t 12), none⟩,
       ⟨some 14, .load 1 false (.t 13), none⟩,
       ⟨some 2, .mov (.t 14), none⟩])
    (.ret))))⟩
theorem fok_impl_ExampleText : FOk Try.prog 16 code_impl_ExampleText := fok Try.func16 (by kernel_rfl)
def code_laws_FnExactExampleText : F := ⟨12, [.tmp 2],
 .seq (.reg [⟨some 2, .mov (.k (.bool false)), none⟩])
 (.seq (.reg [⟨some 5, .mov (.t 0), none⟩,
     ⟨some 6, .call 15 [(.t 5)], none⟩,
     ⟨some 3, .mov (.t 6), none⟩])
  (.seq (.reg [⟨some 7, .mov (.t 0), none⟩,
      ⟨some 8, .call 16 [(.t 7)], none⟩,
      ⟨some 4, .mov (.t 8), none⟩])
   (.seq (.seq (.reg [⟨some 9, .mov (.t 4), none⟩,
        ⟨some 10, .mov (.t 3), none⟩,
        ⟨some 11, .bin .neq (.t 9) (.t 10), none⟩])
     (.cond (.t 11)
      (.seq (.reg [⟨some 2, .mov (.k (.bool false)), none⟩])
       (.ret))
      (.skip)))
    (.seq (.reg [⟨some 2, .mov (.k (.bool true)), none⟩])
     (.ret)))))⟩
theorem fok_laws_FnExactExampleText : FOk Try.prog 3 code_laws_FnExactExampleText := fok Try.func3 (by kernel_rfl)
def exText (a : Int) : List UInt8 :=
  if a = 1 then [120, 32, 121, 32, 116, 59, 55, 59, 48, 32, 49, 32, 121, 61, 110, 117, 108, 108, 59, 49, 32, 54, 32, 120, 61, 61, 110, 117, 108, 108, 59, 49, 32, 50, 32, 120, 33, 61, 110, 117, 108, 108, 59, 50, 32, 51, 32, 116, 61, 121, 59, 51, 32, 52, 32, 121, 61, 120, 59, 52, 32, 53, 32, 120, 61, 120, 46, 110, 59, 53, 32, 49, 32, 121, 46, 110, 61, 116]
  else if a = 2 then [120, 32, 121, 59, 52, 59, 48, 32, 49, 32, 121, 61, 120, 59, 49, 32, 50, 32, 121, 33, 61, 110, 117, 108, 108, 59, 50, 32, 49, 32, 121, 61, 121, 46, 110, 59, 49, 32, 51, 32, 121, 61, 61, 110, 117, 108, 108]
  else if a = 3 then [120, 32, 116, 59, 54, 59, 48, 32, 53, 32, 120, 61, 61, 110, 117, 108, 108, 59, 48, 32, 49, 32, 120, 33, 61, 110, 117, 108, 108, 59, 49, 32, 50, 32, 116, 61, 120, 46, 110, 59, 50, 32, 51, 32, 102, 114, 101, 101, 32, 120, 59, 51, 32, 52, 32, 120, 61, 116, 59, 52, 32, 48, 32, 116, 61, 110, 117, 108, 108]
  else if a = 4 then [120, 32, 121, 59, 51, 59, 48, 32, 49, 32, 121, 61, 120, 46, 110, 59, 49, 32, 50, 32, 120, 61, 121, 46, 110]
  else if a = 5 then [120, 32, 121, 59, 51, 59, 48, 32, 49, 32, 120, 61, 110, 101, 119, 59, 49, 32, 50, 32, 120, 61, 110, 117, 108, 108]
  else if a = 6 then [120, 32, 121, 59, 52, 59, 48, 32, 49, 32, 121, 61, 110, 101, 119, 59, 49, 32, 50, 32, 121, 46, 110, 61, 120, 59, 50, 32, 51, 32, 120, 61, 121, 59, 51, 32, 48, 32, 121, 61, 110, 117, 108, 108]
  else []

theorem tab_nil : TabOk Try.prog [] := by intro c hc; simp at hc
theorem tab_cons {c : Ct} {T : List Ct} (h : c.Ok Try.prog) (k : TabOk Try.prog T) : TabOk Try.prog (c :: T) := by
  intro d hd
  rcases List.mem_cons.1 hd with rfl | hd
  · exact h
  · exact k d hd
@[simp] def ct_impl_within : Ct := ⟨51, Int × Int × Int, fun _ => True, fun x => [.int .i64 x.1, .int .i64 x.2.1, .int .i64 x.2.2], fun x => .bool (decide (x.2.1 ≤ x.1 ∧ x.1 ≤ x.2.2))⟩
theorem ok_impl_within : ct_impl_within.Ok Try.prog := by
  rintro ⟨a, b, c⟩ -
  refine Ok.of_cw fok_impl_within (go_ok tab_nil ?_)
  simp [code_impl_within, List.replicate]
  omega
@[simp] def ct_spec_ExampleText : Ct := ⟨15, Int, fun _ => True, fun a => [.int .i64 a], fun a => .str (exText a)⟩
theorem ok_spec_ExampleText : ct_spec_ExampleText.Ok Try.prog := by
  intro a _
  change Int at a
  refine Ok.of_cw fok_spec_ExampleText (go_ok tab_nil ?_)
  by_cases h1 : a = 1
  · subst h1; simp [code_spec_ExampleText, List.replicate, exText]
  by_cases h2 : a = 2
  · subst h2; simp [code_spec_ExampleText, List.replicate, exText]
  by_cases h3 : a = 3
  · subst h3; simp [code_spec_ExampleText, List.replicate, exText]
  by_cases h4 : a = 4
  · subst h4; simp [code_spec_ExampleText, List.replicate, exText]
  by_cases h5 : a = 5
  · subst h5; simp [code_spec_ExampleText, List.replicate, exText]
  by_cases h6 : a = 6
  · subst h6; simp [code_spec_ExampleText, List.replicate, exText]
  simp [code_spec_ExampleText, List.replicate, exText, h1, h2, h3, h4, h5, h6]
@[simp] def ct_impl_ExampleText : Ct := ⟨16, Int, fun _ => True, fun a => [.int .i64 a], fun a => .str (exText a)⟩
theorem ok_impl_ExampleText : ct_impl_ExampleText.Ok Try.prog := by
  intro a _
  change Int at a
  refine Ok.of_cw fok_impl_ExampleText (go_ok (tab_cons ok_impl_within tab_nil) ?_)
  by_cases h1 : a = 1
  · subst h1; simp [code_impl_ExampleText, List.replicate, exText]
  by_cases h2 : a = 2
  · subst h2; simp [code_impl_ExampleText, List.replicate, exText]
  by_cases h3 : a = 3
  · subst h3; simp [code_impl_ExampleText, List.replicate, exText]
  by_cases h4 : a = 4
  · subst h4; simp [code_impl_ExampleText, List.replicate, exText]
  by_cases h5 : a = 5
  · subst h5; simp [code_impl_ExampleText, List.replicate, exText]
  by_cases h6 : a = 6
  · subst h6; simp [code_impl_ExampleText, List.replicate, exText]
  have h : ¬ (1 ≤ a ∧ a ≤ 6) := by omega
  simp [code_impl_ExampleText, List.replicate, exText, h1, h2, h3, h4, h5, h6, h]
  intro k1 k2
  omega
theorem ok_law (a : Int) : Ok Try.prog 3 [.int .i64 a] (.bool true) := by
  refine Ok.of_cw fok_laws_FnExactExampleText (go_ok (tab_cons ok_spec_ExampleText (tab_cons ok_impl_ExampleText tab_nil)) ?_)
  simp [code_laws_FnExactExampleText, List.replicate]
end Go.Vm
namespace Go.Proofs.Ytjkjbiegekbikaa.fnExactExampleText
open Go.RowKit Go.ChangeShapes Go.WideShapes Go.ChangeAt Go.Vm
theorem own : ownKnob Try.prog.godebug = none := by kernel_rfl
set_option maxRecDepth 100000 in
theorem lifted (os : Os) (started : os.Started) (H : Type) (enc : TypeId × Value → H) :
    ReturnsInHanded {} Try.checked os 3 .any (Rows.fnExactExampleTextSpec.pre6 enc Try.prog Try.f3 Rows.fnExactExampleTextRow.domain false) (Rows.fnExactExampleTextSpec.post enc Try.prog Try.f3 false true false false) := by
  refine law_lift (C := Try.checked) (T := [3]) (tb := 4) own started (by kernel_rfl) Try.func3
    (ChangeSpec.witness6 (enc := enc) (C := Try.checked) false ⟨#[], #[.int .i64 0], []⟩ 8 (by kernel_rfl) (by kernel_rfl) (by kernel_rfl) (by kernel_rfl)) rfl ?_ (by kernel_rfl) Try.underlying4 (by kernel_rfl) ?_ (by kernel_rfl) ?_ ?_
  · intro ds h
    rw [Try.params3] at h
    match ds, h with
    | [d], _ => rfl
  · rw [Try.params3]; simp
  · rw [Try.params3]
    intro t ht
    have : t = 3 := by simpa using ht
    subst this
    exact ⟨by kernel_rfl, of_decide_eq_true (by kernel_rfl)⟩
  · rw [Try.params3]
    intro ass h
    cases h with
    | cons h t =>
      cases t
      obtain ⟨n, hn⟩ := h
      cases n with
      | zero => exact hn.elim
      | succ n =>
        simp only [TyN, Try.underlying3] at hn
        obtain ⟨i, rfl, _⟩ := hn
        have e : isAgg' Try.prog 3 = false := by unfold isAgg'; rw [Try.underlying3]
        simp only [argE, e, mkE]
        exact ok_law i
theorem over : Rows.fnExactExampleTextRow.holds Try.pinned (OpenSpec.ofChange Rows.fnExactExampleTextSpec) :=
  OpenClaim.holds_of_wide 3 Try.f3 rfl rfl rfl rfl rfl rfl rfl ⟨rfl, rfl, rfl, rfl, rfl⟩ rfl rfl rfl rfl rfl (by kernel_rfl) Try.func3 (by kernel_rfl)
    (of_decide_eq_true (by kernel_rfl)) (by unfold Func.isWrapper; first | (rw [if_pos (by decide +kernel)]; kernel_rfl) | (rw [if_neg (by decide +kernel)]; exact ⟨rfl, rfl⟩))
    (fun os started H enc _ => lifted os started H enc)
end Go.Proofs.Ytjkjbiegekbikaa.fnExactExampleText
namespace Go.Proofs.Ytjkjbiegekbikaa
theorem fnExactExampleText_holds : Rows.FnExactExampleTextSaid := fnExactExampleText.over
#print axioms fnExactExampleText_holds
end Go.Proofs.Ytjkjbiegekbikaa
