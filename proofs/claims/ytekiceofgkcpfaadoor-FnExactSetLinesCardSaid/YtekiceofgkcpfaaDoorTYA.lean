/- SetLines of both. No condition. -/
import Derived.Test.YtekiceofgkcpfaaDoorTXB
import Derived.Test.YtekiceofgkcpfaaDoorTSS
set_option linter.unusedSimpArgs false
set_option linter.unusedVariables false
namespace Go.Vm
open Go.Proofs
def code_spec_SetLines : F := ⟨24, [.tmp 4],
 .seq (.reg [⟨some 4, .mov (.k (.sl .nil 0 [])), none⟩])
 (.seq (.reg [⟨some 7, .bsl 9 1 0 (.str []) [], none⟩,
     ⟨some 5, .mov (.t 7), none⟩])
  (.seq (.seq (.reg [⟨some 6, .mov (.k (.int .i64 0)), none⟩])
    (.block 0 (.loop (.seq (.seq (.reg [⟨some 8, .mov (.t 6), none⟩,
           ⟨some 9, .mov (.t 1), none⟩,
           ⟨some 10, .len (.t 9), none⟩,
           ⟨some 11, .bin .lss (.t 8) (.t 10), none⟩])
        (.cond (.t 11)
         (.skip)
         (.exit 0)))
       (.seq (.block 1 (.reg [⟨some 14, .mov (.t 5), none⟩,
            ⟨some 15, .mov (.t 0), none⟩,
            ⟨some 16, .mov (.t 1), none⟩,
            ⟨some 17, .mov (.t 6), none⟩,
            ⟨some 18, .iaddr 2 (.t 16) (.t 17), none⟩,
            ⟨some 19, .load 2 true (.t 18), none⟩,
            ⟨some 20, .call 40 [(.t 15), (.t 19)], none⟩,
            ⟨some 21, .bsl 9 1 1 (.str []) [(0, (.t 20))], none⟩,
            ⟨some 22, .append 9 1 16 (.t 14) (.t 21), none⟩,
            ⟨some 5, .mov (.t 22), none⟩]))
        (.reg [⟨some 12, .mov (.t 6), none⟩,
           ⟨some 13, .bin .add (.t 12) (.k (.int .i64 1)), none⟩,
           ⟨some 6, .mov (.t 13), none⟩]))))))
   (.seq (.reg [⟨some 23, .mov (.t 5), none⟩,
       ⟨some 4, .mov (.t 23), none⟩])
    (.ret))))⟩
theorem fok_spec_SetLines : FOk Tryd.prog 8 code_spec_SetLines := fok Tryd.func8 (by kernel_rfl)
def code_impl_SetLines : F := ⟨23, [.tmp 4],
 .seq (.reg [⟨some 4, .mov (.k (.sl .nil 0 [])), none⟩])
 (.seq (.reg [⟨some 8, .bsl 9 1 0 (.str []) [], none⟩,
     ⟨some 5, .mov (.t 8), none⟩])
  (.seq (.seq (.reg [⟨some 9, .mov (.t 1), none⟩,
       ⟨some 10, .len (.t 9), none⟩,
       ⟨some 11, .mov (.k (.int .i64 0)), none⟩])
    (.block 0 (.loop (.seq (.reg [⟨some 12, .bin .lss (.t 11) (.t 10), none⟩])
       (.seq (.cond (.t 12)
         (.skip)
         (.exit 0))
        (.seq (.block 1 (.seq (.reg [⟨some 13, .iaddr 2 (.t 9) (.t 11), none⟩,
              ⟨some 14, .load 2 true (.t 13), none⟩,
              ⟨some 7, .alloc [(.sl .nil 0 []), (.sl .nil 0 [])], none⟩,
              ⟨none, .store 2 (.t 7) (.t 14), none⟩])
           (.reg [⟨some 15, .mov (.t 5), none⟩,
              ⟨some 16, .mov (.t 0), none⟩,
              ⟨some 17, .load 2 true (.t 7), none⟩,
              ⟨some 18, .call 42 [(.t 16), (.t 17)], none⟩,
              ⟨some 19, .bsl 9 1 1 (.str []) [(0, (.t 18))], none⟩,
              ⟨some 20, .append 9 1 16 (.t 15) (.t 19), none⟩,
              ⟨some 5, .mov (.t 20), none⟩])))
         (.reg [⟨some 21, .bin .add (.t 11) (.k (.int .i64 1)), none⟩,
            ⟨some 11, .mov (.t 21), none⟩])))))))
   (.seq (.reg [⟨some 22, .mov (.t 5), none⟩,
       ⟨some 4, .mov (.t 22), none⟩])
    (.ret))))⟩
theorem fok_impl_SetLines : FOk Tryd.prog 11 code_impl_SetLines := fok Tryd.func11 (by kernel_rfl)
theorem strcs_small {xs : List Strc} (h : szStrcs xs ≤ 1048576) : xs.length ≤ 1048576 ∧ ∀ x ∈ xs, szStrc x ≤ 1048576 := by
  refine ⟨by unfold szStrcs at h; omega, fun x hx => ?_⟩
  have := sum_mem szStrc hx
  unfold szStrcs at h
  omega
@[simp] def ct_sSetLines : Ct := ⟨8, List (List UInt8) × List Strc, fun x => szVarsOk x.1 ∧ szStrcs x.2 ≤ 1048576, fun x => [encL 1 encStr x.1, encL 2 encStrc x.2], fun x => encL 1 encStr (x.2.map (textS x.1))⟩
set_option maxHeartbeats 4000000 in
set_option maxRecDepth 100000 in
theorem ok_sSetLines : ct_sSetLines.Ok Tryd.prog := by
  rintro ⟨vars, xs⟩ ⟨hvs, hx⟩
  change szVarsOk vars at hvs
  change szStrcs xs ≤ 1048576 at hx
  obtain ⟨hxl, hxs⟩ := strcs_small hx
  refine Ok.of_cw fok_spec_SetLines (go_ok tab_nil ?_)
  simp [code_spec_SetLines, List.replicate]
  refine cw_round (fun (p : Nat × List (List UInt8)) => ⟨slots 24 [(0, encL 1 encStr vars), (1, encL 2 encStrc xs), (5, .slref 0 0 p.2.length p.2.length), (6, .int .i64 p.1)], [.row true 9 1 (p.2.map encStr)]⟩)
    (fun p => p.1 ≤ xs.length ∧ p.2 = (xs.take p.1).map (textS vars)) (fun p => xs.length - p.1) (0, []) ⟨by simp, by simp⟩ ?_ ?_
  · exact weak_seal 1 (by simp) (by simp) (by simp [List.replicate])
  rintro N hN ⟨k, ws⟩ ⟨hk, hws⟩
  change k ≤ xs.length at hk
  change ws = (xs.take k).map (textS vars) at hws
  have hw : IntKind.i64.wrap ((k : Int) + 1) = ((k + 1 : Nat) : Int) := by rw [wrap_i64] <;> omega
  have hwl : ws.length = k := by rw [hws]; simp; omega
  have hb : (ws.length + 1) * 16 ≤ 140737488355328 := by omega
  by_cases g : k < xs.length
  · have g2 : ¬ xs.length ≤ k := by omega
    have hz := hxs xs[k] (List.getElem_mem g)
    refine go_ok (tab_cons ok_sStrcText tab_nil) ?_
    simp [List.replicate, hw, g, g2, hz, hvs, hb, app1]
    refine hN (k, ws) (k + 1, ws ++ [textS vars xs[k]]) _ ⟨by simp only; omega, ?_⟩ (by simp only; omega) (weak_seal 1 (by simp) ?_ ?_)
    · rw [hws, List.take_succ_eq_append_getElem g, List.map_append]; rfl
    · simp
    · simp [List.replicate]
  have e : k = xs.length := by omega
  subst e
  rw [List.take_length] at hws
  have hR : xs.map (textS vars) = ws := hws.symm
  clear hws
  refine go_ok tab_nil ?_
  simp [List.replicate, hw, hR]
@[simp] def ct_pSetLinesN : CtN := ⟨11, List (List UInt8) × List Strc, fun x => szVarsOk x.1 ∧ szStrcs x.2 ≤ 1048576, fun x => [encL 1 encStr x.1, encL 2 encStrc x.2], fun x => .slref 0 0 x.2.length x.2.length, fun x => [.row true 9 1 ((x.2.map (textS x.1)).map encStr)]⟩
set_option maxHeartbeats 4000000 in
set_option maxRecDepth 100000 in
theorem ok_pSetLinesN : ct_pSetLinesN.Ok Tryd.prog := by
  refine ⟨?_, fun _ _ => rfl, fun xs _ k hk => by
    simp only [ct_pSetLinesN, List.mem_singleton] at hk; subst hk; simp [ownB, ownVL_all, ownV]⟩
  rintro ⟨vars, xs⟩ ⟨hvs, hx⟩
  change szVarsOk vars at hvs
  change szStrcs xs ≤ 1048576 at hx
  obtain ⟨hxl, hxs⟩ := strcs_small hx
  refine OkH.of_cw' fok_impl_SetLines (go_ok tab_nil ?_)
  simp [code_impl_SetLines, List.replicate]
  refine cw_round (fun (p : Nat × List (List UInt8)) => ⟨slots 23 [(0, encL 1 encStr vars), (5, .slref 0 0 p.2.length p.2.length), (9, encL 2 encStrc xs), (10, .int .i64 xs.length), (11, .int .i64 p.1)], [.row true 9 1 (p.2.map encStr)]⟩)
    (fun p => p.1 ≤ xs.length ∧ p.2 = (xs.take p.1).map (textS vars)) (fun p => xs.length - p.1) (0, []) ⟨by simp, by simp⟩ ?_ ?_
  · exact weak_seal 1 (by simp) (by simp) (by simp [List.replicate])
  rintro N hN ⟨k, ws⟩ ⟨hk, hws⟩
  change k ≤ xs.length at hk
  change ws = (xs.take k).map (textS vars) at hws
  have hw : IntKind.i64.wrap ((k : Int) + 1) = ((k + 1 : Nat) : Int) := by rw [wrap_i64] <;> omega
  have hwl : ws.length = k := by rw [hws]; simp; omega
  have hb : (ws.length + 1) * 16 ≤ 140737488355328 := by omega
  by_cases g : k < xs.length
  · have g2 : ¬ xs.length ≤ k := by omega
    have hz := hxs xs[k] (List.getElem_mem g)
    refine go_ok (tab_cons ok_pStrcText tab_nil) ?_
    simp [List.replicate, hw, g, g2, hz, hvs, hb, app1]
    refine hN (k, ws) (k + 1, ws ++ [textS vars xs[k]]) _ ⟨by simp only; omega, ?_⟩ (by simp only; omega) (weak_seal 1 (by simp) ?_ ?_)
    · rw [hws, List.take_succ_eq_append_getElem g, List.map_append]; rfl
    · simp
    · simp [List.replicate]
  have e : k = xs.length := by omega
  subst e
  rw [List.take_length] at hws
  subst hws
  refine go_ok tab_nil ?_
  simp [List.replicate, hw, retH]
end Go.Vm
