/- NodeName. No condition. -/
import Derived.Test.YtokcpkncagdlpaaTTR
import Derived.Test.YtokcpkncagdlpaaTPA
set_option linter.unusedSimpArgs false
set_option linter.unusedVariables false
namespace Go.Vm
open Go.Proofs
def code_spec_NodeName : F := ⟨30, [.tmp 4],
 .seq (.reg [⟨some 2, .box (.t 0), none⟩,
    ⟨some 4, .mov (.k (.str [])), none⟩])
 (.seq (.seq (.reg [⟨some 8, .mov (.t 1), none⟩,
      ⟨some 9, .faddr 0 (.t 2), none⟩,
      ⟨some 10, .load 1 false (.t 9), none⟩,
      ⟨some 11, .len (.t 10), none⟩,
      ⟨some 12, .bin .sub (.t 11) (.k (.int .i64 1)), none⟩,
      ⟨some 13, .call 61 [(.t 8), (.k (.int .i64 0)), (.t 12)], none⟩,
      ⟨some 14, .not (.t 13), none⟩])
   (.cond (.t 14)
    (.seq (.reg [⟨some 4, .mov (.k (.str [])), none⟩])
     (.ret))
    (.skip)))
  (.seq (.reg [⟨some 5, .mov (.k (.str [])), none⟩])
   (.seq (.reg [⟨some 15, .load 2 true (.t 2), none⟩,
       ⟨some 16, .call 72 [(.t 15)], none⟩,
       ⟨some 6, .mov (.t 16), none⟩])
    (.seq (.seq (.reg [⟨some 7, .mov (.k (.int .i64 0)), none⟩])
      (.block 0 (.loop (.seq (.seq (.reg [⟨some 17, .mov (.t 7), none⟩,
             ⟨some 18, .mov (.t 6), none⟩,
             ⟨some 19, .bin .lss (.t 17) (.t 18), none⟩])
          (.cond (.t 19)
           (.skip)
           (.exit 0)))
         (.seq (.block 1 (.reg [⟨some 22, .mov (.t 5), none⟩,
              ⟨some 23, .load 2 true (.t 2), none⟩,
              ⟨some 24, .mov (.t 7), none⟩,
              ⟨some 25, .mov (.t 1), none⟩,
              ⟨some 26, .call 74 [(.t 23), (.t 24), (.t 25)], none⟩,
              ⟨some 27, .call 73 [(.t 26)], none⟩,
              ⟨some 28, .bin .add (.t 22) (.t 27), none⟩,
              ⟨some 5, .mov (.t 28), none⟩]))
          (.reg [⟨some 20, .mov (.t 7), none⟩,
             ⟨some 21, .bin .add (.t 20) (.k (.int .i64 1)), none⟩,
             ⟨some 7, .mov (.t 21), none⟩]))))))
     (.seq (.reg [⟨some 29, .mov (.t 5), none⟩,
         ⟨some 4, .mov (.t 29), none⟩])
      (.ret))))))⟩
theorem fok_spec_NodeName : FOk Try.prog 23 code_spec_NodeName := fok Try.func23 (by kernel_rfl)
def code_impl_NodeName : F := ⟨25, [.tmp 4],
 .seq (.reg [⟨some 2, .box (.t 0), none⟩,
    ⟨some 4, .mov (.k (.str [])), none⟩])
 (.seq (.seq (.reg [⟨some 7, .load 2 true (.t 2), none⟩,
      ⟨some 8, .mov (.t 1), none⟩,
      ⟨some 9, .call 76 [(.t 7), (.t 8)], none⟩,
      ⟨some 10, .not (.t 9), none⟩])
   (.cond (.t 10)
    (.seq (.reg [⟨some 4, .mov (.k (.str [])), none⟩])
     (.ret))
    (.skip)))
  (.seq (.reg [⟨some 5, .mov (.k (.str [])), none⟩])
   (.seq (.seq (.reg [⟨some 11, .load 2 true (.t 2), none⟩,
        ⟨some 12, .call 77 [(.t 11)], none⟩,
        ⟨some 13, .mov (.k (.int .i64 0)), none⟩])
     (.block 0 (.loop (.seq (.reg [⟨some 14, .bin .lss (.t 13) (.t 12), none⟩])
        (.seq (.cond (.t 14)
          (.skip)
          (.exit 0))
         (.seq (.block 1 (.seq (.reg [⟨some 15, .mov (.t 13), none⟩,
               ⟨some 6, .mov (.t 15), none⟩])
            (.reg [⟨some 16, .mov (.t 5), none⟩,
               ⟨some 17, .load 2 true (.t 2), none⟩,
               ⟨some 18, .mov (.t 6), none⟩,
               ⟨some 19, .mov (.t 1), none⟩,
               ⟨some 20, .call 79 [(.t 17), (.t 18), (.t 19)], none⟩,
               ⟨some 21, .call 78 [(.t 20)], none⟩,
               ⟨some 22, .bin .add (.t 16) (.t 21), none⟩,
               ⟨some 5, .mov (.t 22), none⟩])))
          (.reg [⟨some 23, .bin .add (.t 13) (.k (.int .i64 1)), none⟩,
             ⟨some 13, .mov (.t 23), none⟩])))))))
    (.seq (.reg [⟨some 24, .mov (.t 5), none⟩,
        ⟨some 4, .mov (.t 24), none⟩])
     (.ret)))))⟩
theorem fok_impl_NodeName : FOk Try.prog 25 code_impl_NodeName := fok Try.func25 (by kernel_rfl)
def nameTo (x : Strc) (i : Int) (k : Nat) : List UInt8 := (List.range k).flatMap fun (j : Nat) => truthText (predAt x j i)
theorem nameTo_succ (x : Strc) (i : Int) (k : Nat) : nameTo x i (k + 1) = nameTo x i k ++ truthText (predAt x k i) := by
  simp [nameTo, List.range_succ, List.flatMap_append]
theorem nameTo_len (x : Strc) (i : Int) : ∀ k, (nameTo x i k).length ≤ k
  | 0 => by simp [nameTo]
  | k + 1 => by
    rw [nameTo_succ, List.length_append]
    have := nameTo_len x i k
    have := truthText_len (predAt x k i)
    omega
def nodeName (x : Strc) (i : Int) : List UInt8 := if 0 ≤ i ∧ i ≤ (x.nodes.length : Int) - 1 then nameTo x i (2 * nvars x + 1) else []
theorem cntP_eq {x : Strc} (h : szStrc x ≤ 1048576) (h0 : x.nodes ≠ []) : cntP x = ((2 * nvars x + 1 : Nat) : Int) := by
  have hn := nvars_le x
  unfold cntP
  rw [if_neg h0]
  rw [wrap_i64, wrap_i64] <;> (try rw [wrap_i64]) <;> omega
@[simp] def ct_sNodeName : Ct := ⟨23, Strc × Int, fun x => szStrc x.1 ≤ 1048576, fun x => [encStrc x.1, .int .i64 x.2], fun x => .str (nodeName x.1 x.2)⟩
set_option maxHeartbeats 1000000 in
theorem ok_sNodeName : ct_sNodeName.Ok Try.prog := by
  rintro ⟨x, i⟩ hx
  change szStrc x ≤ 1048576 at hx
  have hs := strc_le x
  have hn := nvars_le x
  have w0 : IntKind.i64.wrap ((x.nodes.length : Int) - 1) = (x.nodes.length : Int) - 1 := by rw [wrap_i64] <;> omega
  refine Ok.of_cw fok_spec_NodeName (go_ok (tab_cons ok_l1In (tab_cons ok_spec_Count tab_nil)) ?_)
  by_cases c : 0 ≤ i ∧ i ≤ (x.nodes.length : Int) - 1
  case neg =>
    simp [code_spec_NodeName, List.replicate, w0, nodeName, c]
    exact fun a b => absurd ⟨a, b⟩ c
  have hne : x.nodes ≠ [] := by intro e; rw [e] at c; simp at c; omega
  have hc := cntP_eq hx hne
  have h3 : ¬ ((x.nodes.length : Int) - 1 < i) := by omega
  simp [code_spec_NodeName, List.replicate, w0, nodeName, c.1, c.2, h3, hc]
  refine cw_round (fun (k : Nat) => ⟨slots 30 [(1, .int .i64 i), (2, .pbox 0 0), (5, .str (nameTo x i k)), (6, .int .i64 (2 * (nvars x : Int) + 1)), (7, .int .i64 k)], [.cells [encL 4 encNode x.nodes, encL 1 encInt x.next]]⟩)
    (fun k => k ≤ 2 * nvars x + 1) (fun k => 2 * nvars x + 1 - k) 0 (by omega) ?_ ?_
  · exact weak_seal 1 (by omega) (by simp) (by simp [List.replicate, nameTo])
  · rintro N hN k hk
    have hw : IntKind.i64.wrap ((k : Int) + 1) = ((k + 1 : Nat) : Int) := by rw [wrap_i64] <;> omega
    have hl := nameTo_len x i k
    have hl2 := truthText_len (predAt x k i)
    refine go_ok (tab_cons ok_spec_PredicateAt (tab_cons ok_sTruthText tab_nil)) ?_
    by_cases h : k < 2 * nvars x + 1
    · have h1 : (k : Int) < 2 * (nvars x : Int) + 1 := by omega
      have h2 : ¬ (2 * (nvars x : Int) + 1 ≤ k) := by omega
      simp [List.replicate, hw, h1, h2, hx]
      refine ⟨by omega, hN k (k + 1) _ (by omega) (by omega) (weak_seal 1 (by omega) ?_ ?_)⟩
      · simp
      · simp [List.replicate, nameTo_succ]
    · have e : k = 2 * nvars x + 1 := by omega
      subst e
      simp [List.replicate]
@[simp] def ct_pNodeName : Ct := ⟨25, Strc × Int, fun x => szStrc x.1 ≤ 1048576, fun x => [encStrc x.1, .int .i64 x.2], fun x => .str (nodeName x.1 x.2)⟩
set_option maxHeartbeats 1000000 in
theorem ok_pNodeName : ct_pNodeName.Ok Try.prog := by
  rintro ⟨x, i⟩ hx
  change szStrc x ≤ 1048576 at hx
  have hs := strc_le x
  have hn := nvars_le x
  refine Ok.of_cw fok_impl_NodeName (go_ok (tab_cons ok_isNode (tab_cons ok_impl_Count tab_nil)) ?_)
  by_cases c : 0 ≤ i ∧ i ≤ (x.nodes.length : Int) - 1
  case neg =>
    simp [code_impl_NodeName, List.replicate, nodeName, c]
    exact fun a b => absurd ⟨a, b⟩ c
  have hne : x.nodes ≠ [] := by intro e; rw [e] at c; simp at c; omega
  have hc := cntP_eq hx hne
  have h3 : ¬ ((x.nodes.length : Int) - 1 < i) := by omega
  simp [code_impl_NodeName, List.replicate, nodeName, c.1, c.2, h3, hc]
  refine cw_round (fun (k : Nat) => ⟨slots 25 [(1, .int .i64 i), (2, .pbox 0 0), (5, .str (nameTo x i k)), (12, .int .i64 (2 * (nvars x : Int) + 1)), (13, .int .i64 k)], [.cells [encL 4 encNode x.nodes, encL 1 encInt x.next]]⟩)
    (fun k => k ≤ 2 * nvars x + 1) (fun k => 2 * nvars x + 1 - k) 0 (by omega) ?_ ?_
  · exact weak_seal 1 (by omega) (by simp) (by simp [List.replicate, nameTo])
  · rintro N hN k hk
    have hw : IntKind.i64.wrap ((k : Int) + 1) = ((k + 1 : Nat) : Int) := by rw [wrap_i64] <;> omega
    have hl := nameTo_len x i k
    have hl2 := truthText_len (predAt x k i)
    refine go_ok (tab_cons ok_impl_PredicateAt (tab_cons ok_pTruthText tab_nil)) ?_
    by_cases h : k < 2 * nvars x + 1
    · have h1 : (k : Int) < 2 * (nvars x : Int) + 1 := by omega
      have h2 : ¬ (2 * (nvars x : Int) + 1 ≤ k) := by omega
      simp [List.replicate, hw, h1, h2, hx]
      refine ⟨by omega, hN k (k + 1) _ (by omega) (by omega) (weak_seal 1 (by omega) ?_ ?_)⟩
      · simp
      · simp [List.replicate, nameTo_succ]
    · have e : k = 2 * nvars x + 1 := by omega
      subst e
      simp [List.replicate]
def code_laws_FnExactNodeName : F := ⟨31, [.tmp 4],
 .seq (.reg [⟨some 2, .box (.t 0), none⟩,
    ⟨some 4, .mov (.k (.bool false)), none⟩])
 (.seq (.reg [⟨some 5, .mov (.k (.int .i64 1048576)), none⟩])
  (.seq (.reg [⟨some 9, .load 2 true (.t 2), none⟩,
      ⟨some 10, .mov (.t 5), none⟩,
      ⟨some 11, .call 22 [(.t 9), (.t 10)], none⟩,
      ⟨some 5, .mov (.t 11), none⟩])
   (.seq (.seq (.reg [⟨some 12, .mov (.t 5), none⟩,
        ⟨some 13, .bin .lss (.t 12) (.k (.int .i64 0)), none⟩])
     (.cond (.t 13)
      (.seq (.reg [⟨some 4, .mov (.k (.bool true)), none⟩])
       (.ret))
      (.skip)))
    (.seq (.reg [⟨some 14, .load 2 true (.t 2), none⟩,
        ⟨some 15, .call 24 [(.t 14)], none⟩,
        ⟨some 16, .mov (.t 1), none⟩,
        ⟨some 17, .call 23 [(.t 15), (.t 16)], none⟩,
        ⟨some 6, .mov (.t 17), none⟩])
     (.seq (.reg [⟨some 18, .load 2 true (.t 2), none⟩,
         ⟨some 19, .call 24 [(.t 18)], none⟩,
         ⟨some 7, .alloc [(.sl .nil 0 []), (.sl .nil 0 [])], none⟩,
         ⟨none, .store 2 (.t 7) (.t 19), none⟩])
      (.seq (.reg [⟨some 20, .load 2 true (.t 7), none⟩,
          ⟨some 21, .mov (.t 1), none⟩,
          ⟨some 22, .call 25 [(.t 20), (.t 21)], none⟩,
          ⟨some 8, .mov (.t 22), none⟩])
       (.seq (.seq (.reg [⟨some 23, .mov (.t 8), none⟩,
            ⟨some 24, .mov (.t 6), none⟩,
            ⟨some 25, .bin .neq (.t 23) (.t 24), none⟩])
         (.cond (.t 25)
          (.seq (.reg [⟨some 4, .mov (.k (.bool false)), none⟩])
           (.ret))
          (.skip)))
        (.seq (.seq (.dreg [false, false, false, true, true] [⟨some 26, .load 2 true (.t 7), none⟩,
             ⟨some 27, .load 2 true (.t 2), none⟩,
             ⟨some 28, .call 24 [(.t 27)], none⟩,
             ⟨some 29, .call 26 [(.t 26), (.t 28)], none⟩,
             ⟨some 30, .not (.t 29), none⟩])
          (.cond (.t 30)
           (.seq (.reg [⟨some 4, .mov (.k (.bool false)), none⟩])
            (.ret))
           (.skip)))
         (.seq (.reg [⟨some 4, .mov (.k (.bool true)), none⟩])
          (.ret))))))))))⟩
theorem fok_laws_FnExactNodeName : FOk Try.prog 5 code_laws_FnExactNodeName := fok Try.func5 (by kernel_rfl)
set_option maxRecDepth 100000 in
theorem ok_lawNodeName (x : Strc) (i : Int) : Ok Try.prog 5 [encStrc x, encInt i] (.bool true) := by
  refine Ok.of_cw fok_laws_FnExactNodeName (go_ok (tab_cons ok_szStrc (tab_cons ok_toStrc (tab_cons ok_sNodeName (tab_cons ok_pNodeName (tab_cons ok_eqStrc tab_nil))))) ?_)
  simp [code_laws_FnExactNodeName, List.replicate]
  intro h
  have := left_ge0.1 h
  omega
end Go.Vm
