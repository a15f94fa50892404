/- The text of a heap: both, and its law. No condition. -/
import Derived.Test.YtkclkieeapdeiaaDoorTXA
import Derived.Test.YtkclkieeapdeiaaDoorTST
import Derived.Test.YtkclkieeapdeiaaDoorTIH
import Derived.Test.YtkclkieeapdeiaaDoorTSS
set_option linter.unusedSimpArgs false
set_option linter.unusedVariables false
namespace Go.Vm
open Go.Proofs
def code_spec_l7Cell : F := ⟨7, [.tmp 2],
 .seq (.reg [⟨some 2, .mov (.k (.str [])), none⟩])
 (.seq (.seq (.reg [⟨some 3, .mov (.t 0), none⟩,
      ⟨some 4, .bin .lss (.t 3) (.k (.int .i64 0)), none⟩])
   (.cond (.t 4)
    (.seq (.reg [⟨some 2, .mov (.k (.str [45])), none⟩])
     (.ret))
    (.skip)))
  (.seq (.reg [⟨some 5, .mov (.t 0), none⟩,
      ⟨some 6, .call 50 [(.t 5)], none⟩,
      ⟨some 2, .mov (.t 6), none⟩])
   (.ret)))⟩
theorem fok_spec_l7Cell : FOk Tryd.prog 49 code_spec_l7Cell := fok Tryd.func49 (by kernel_rfl)
def code_impl_cellText : F := ⟨7, [.tmp 2],
 .seq (.reg [⟨some 2, .mov (.k (.str [])), none⟩])
 (.seq (.seq (.reg [⟨some 3, .mov (.t 0), none⟩,
      ⟨some 4, .bin .lss (.t 3) (.k (.int .i64 0)), none⟩])
   (.cond (.t 4)
    (.seq (.reg [⟨some 2, .mov (.k (.str [45])), none⟩])
     (.ret))
    (.skip)))
  (.seq (.reg [⟨some 5, .mov (.t 0), none⟩,
      ⟨some 6, .call 46 [(.t 5)], none⟩,
      ⟨some 2, .mov (.t 6), none⟩])
   (.ret)))⟩
theorem fok_impl_cellText : FOk Tryd.prog 45 code_impl_cellText := fok Tryd.func45 (by kernel_rfl)
def code_spec_HeapText : F := ⟨62, [.tmp 4],
 .seq (.reg [⟨some 3, .box (.t 1), none⟩,
    ⟨some 4, .mov (.k (.str [])), none⟩])
 (.seq (.seq (.reg [⟨some 8, .mov (.t 0), none⟩,
      ⟨some 9, .call 48 [(.t 8)], none⟩,
      ⟨some 10, .not (.t 9), none⟩,
      ⟨some 11, .mov (.t 10), none⟩,
      ⟨some 12, .mov (.t 0), some (11, false)⟩,
      ⟨some 13, .len (.t 12), some (11, false)⟩,
      ⟨some 14, .load 2 true (.t 3), some (11, false)⟩,
      ⟨some 15, .call 13 [(.t 13), (.t 14)], some (11, false)⟩,
      ⟨some 16, .not (.t 15), some (11, false)⟩,
      ⟨some 17, .pick (.t 11) (.k (.bool true)) (.t 16), none⟩])
   (.cond (.t 17)
    (.seq (.reg [⟨some 4, .mov (.k (.str [])), none⟩])
     (.ret))
    (.skip)))
  (.seq (.reg [⟨some 18, .bsl 9 1 0 (.str []) [], none⟩,
      ⟨some 5, .mov (.t 18), none⟩])
   (.seq (.seq (.reg [⟨some 6, .mov (.k (.int .i64 0)), none⟩])
     (.block 0 (.loop (.seq (.seq (.reg [⟨some 19, .mov (.t 6), none⟩,
            ⟨some 20, .mov (.t 0), none⟩,
            ⟨some 21, .len (.t 20), none⟩,
            ⟨some 22, .bin .lss (.t 19) (.t 21), none⟩])
         (.cond (.t 22)
          (.skip)
          (.exit 0)))
        (.seq (.block 1 (.dreg [false, false, false, false, false, false, false, false, false, false, false, false, false, false, true, true] [false, false, false, false, false, false, false, false, false, false, false, true, false, false, false, false] [⟨some 25, .mov (.t 5), none⟩,
             ⟨some 26, .mov (.t 0), none⟩,
             ⟨some 27, .mov (.t 6), none⟩,
             ⟨some 28, .iaddr 1 (.t 26) (.t 27), none⟩,
             ⟨some 29, .load 1 false (.t 28), none⟩,
             ⟨some 30, .bin .add (.t 29) (.k (.str [61])), none⟩,
             ⟨some 31, .faddr 0 (.t 3), none⟩,
             ⟨some 32, .load 1 false (.t 31), none⟩,
             ⟨some 33, .mov (.t 6), none⟩,
             ⟨some 34, .iaddr 1 (.t 32) (.t 33), none⟩,
             ⟨some 35, .load 1 false (.t 34), none⟩,
             ⟨some 36, .call 49 [(.t 35)], none⟩,
             ⟨some 37, .bin .add (.t 30) (.t 36), none⟩,
             ⟨some 38, .bsl 9 1 1 (.str []) [(0, (.t 37))], none⟩,
             ⟨some 39, .append 9 1 16 (.t 25) (.t 38), none⟩,
             ⟨some 5, .mov (.t 39), none⟩]))
         (.reg [⟨some 23, .mov (.t 6), none⟩,
            ⟨some 24, .bin .add (.t 23) (.k (.int .i64 1)), none⟩,
            ⟨some 6, .mov (.t 24), none⟩]))))))
    (.seq (.seq (.reg [⟨some 7, .mov (.k (.int .i64 0)), none⟩])
      (.block 2 (.loop (.seq (.seq (.reg [⟨some 40, .mov (.t 7), none⟩,
             ⟨some 41, .faddr 1 (.t 3), none⟩,
             ⟨some 42, .load 1 false (.t 41), none⟩,
             ⟨some 43, .len (.t 42), none⟩,
             ⟨some 44, .bin .lss (.t 40) (.t 43), none⟩])
          (.cond (.t 44)
           (.skip)
           (.exit 2)))
         (.seq (.block 3 (.dreg [false, false, false, false, false, false, false, false, false, false, false, false, true, true] [false, false, true, false, false, false, false, false, false, true, false, false, false, false] [⟨some 47, .mov (.t 5), none⟩,
              ⟨some 48, .mov (.t 7), none⟩,
              ⟨some 49, .call 50 [(.t 48)], none⟩,
              ⟨some 50, .bin .add (.t 49) (.k (.str [62])), none⟩,
              ⟨some 51, .faddr 1 (.t 3), none⟩,
              ⟨some 52, .load 1 false (.t 51), none⟩,
              ⟨some 53, .mov (.t 7), none⟩,
              ⟨some 54, .iaddr 1 (.t 52) (.t 53), none⟩,
              ⟨some 55, .load 1 false (.t 54), none⟩,
              ⟨some 56, .call 49 [(.t 55)], none⟩,
              ⟨some 57, .bin .add (.t 50) (.t 56), none⟩,
              ⟨some 58, .bsl 9 1 1 (.str []) [(0, (.t 57))], none⟩,
              ⟨some 59, .append 9 1 16 (.t 47) (.t 58), none⟩,
              ⟨some 5, .mov (.t 59), none⟩]))
          (.reg [⟨some 45, .mov (.t 7), none⟩,
             ⟨some 46, .bin .add (.t 45) (.k (.int .i64 1)), none⟩,
             ⟨some 7, .mov (.t 46), none⟩]))))))
     (.seq (.reg [⟨some 60, .mov (.t 5), none⟩,
         ⟨some 61, .call 51 [(.t 60), (.k (.str [32]))], none⟩,
         ⟨some 4, .mov (.t 61), none⟩])
      (.ret))))))⟩
theorem fok_spec_HeapText : FOk Tryd.prog 21 code_spec_HeapText := fok Tryd.func21 (by kernel_rfl)
def code_impl_HeapText : F := ⟨61, [.tmp 4],
 .seq (.reg [⟨some 3, .box (.t 1), none⟩,
    ⟨some 4, .mov (.k (.str [])), none⟩])
 (.seq (.seq (.reg [⟨some 10, .mov (.t 0), none⟩,
      ⟨some 11, .call 44 [(.t 10)], none⟩,
      ⟨some 12, .not (.t 11), none⟩,
      ⟨some 13, .mov (.t 12), none⟩,
      ⟨some 14, .mov (.t 0), some (13, false)⟩,
      ⟨some 15, .len (.t 14), some (13, false)⟩,
      ⟨some 16, .load 2 true (.t 3), some (13, false)⟩,
      ⟨some 17, .call 12 [(.t 15), (.t 16)], some (13, false)⟩,
      ⟨some 18, .not (.t 17), some (13, false)⟩,
      ⟨some 19, .pick (.t 13) (.k (.bool true)) (.t 18), none⟩])
   (.cond (.t 19)
    (.seq (.reg [⟨some 4, .mov (.k (.str [])), none⟩])
     (.ret))
    (.skip)))
  (.seq (.reg [⟨some 20, .bsl 9 1 0 (.str []) [], none⟩,
      ⟨some 5, .mov (.t 20), none⟩])
   (.seq (.seq (.reg [⟨some 21, .mov (.t 0), none⟩,
        ⟨some 22, .len (.t 21), none⟩,
        ⟨some 23, .mov (.k (.int .i64 0)), none⟩])
     (.block 0 (.loop (.seq (.reg [⟨some 24, .bin .lss (.t 23) (.t 22), none⟩])
        (.seq (.cond (.t 24)
          (.skip)
          (.exit 0))
         (.seq (.block 1 (.seq (.reg [⟨some 25, .mov (.t 23), none⟩,
               ⟨some 26, .iaddr 1 (.t 21) (.t 23), none⟩,
               ⟨some 27, .load 1 false (.t 26), none⟩,
               ⟨some 6, .mov (.t 25), none⟩,
               ⟨some 7, .mov (.t 27), none⟩])
            (.reg [⟨some 28, .mov (.t 5), none⟩,
               ⟨some 29, .mov (.t 7), none⟩,
               ⟨some 30, .bin .add (.t 29) (.k (.str [61])), none⟩,
               ⟨some 31, .faddr 0 (.t 3), none⟩,
               ⟨some 32, .load 1 false (.t 31), none⟩,
               ⟨some 33, .mov (.t 6), none⟩,
               ⟨some 34, .iaddr 1 (.t 32) (.t 33), none⟩,
               ⟨some 35, .load 1 false (.t 34), none⟩,
               ⟨some 36, .call 45 [(.t 35)], none⟩,
               ⟨some 37, .bin .add (.t 30) (.t 36), none⟩,
               ⟨some 38, .bsl 9 1 1 (.str []) [(0, (.t 37))], none⟩,
               ⟨some 39, .append 9 1 16 (.t 28) (.t 38), none⟩,
               ⟨some 5, .mov (.t 39), none⟩])))
          (.reg [⟨some 40, .bin .add (.t 23) (.k (.int .i64 1)), none⟩,
             ⟨some 23, .mov (.t 40), none⟩])))))))
    (.seq (.seq (.reg [⟨some 41, .faddr 1 (.t 3), none⟩,
         ⟨some 42, .load 1 false (.t 41), none⟩,
         ⟨some 43, .len (.t 42), none⟩,
         ⟨some 44, .mov (.k (.int .i64 0)), none⟩])
      (.block 2 (.loop (.seq (.reg [⟨some 45, .bin .lss (.t 44) (.t 43), none⟩])
         (.seq (.cond (.t 45)
           (.skip)
           (.exit 2))
          (.seq (.block 3 (.seq (.reg [⟨some 46, .mov (.t 44), none⟩,
                ⟨some 47, .iaddr 1 (.t 42) (.t 44), none⟩,
                ⟨some 48, .load 1 false (.t 47), none⟩,
                ⟨some 8, .mov (.t 46), none⟩,
                ⟨some 9, .mov (.t 48), none⟩])
             (.reg [⟨some 49, .mov (.t 5), none⟩,
                ⟨some 50, .mov (.t 8), none⟩,
                ⟨some 51, .call 46 [(.t 50)], none⟩,
                ⟨some 52, .bin .add (.t 51) (.k (.str [62])), none⟩,
                ⟨some 53, .mov (.t 9), none⟩,
                ⟨some 54, .call 45 [(.t 53)], none⟩,
                ⟨some 55, .bin .add (.t 52) (.t 54), none⟩,
                ⟨some 56, .bsl 9 1 1 (.str []) [(0, (.t 55))], none⟩,
                ⟨some 57, .append 9 1 16 (.t 49) (.t 56), none⟩,
                ⟨some 5, .mov (.t 57), none⟩])))
           (.reg [⟨some 58, .bin .add (.t 44) (.k (.int .i64 1)), none⟩,
              ⟨some 44, .mov (.t 58), none⟩])))))))
     (.seq (.reg [⟨some 59, .mov (.t 5), none⟩,
         ⟨some 60, .call 47 [(.t 59), (.k (.str [32]))], none⟩,
         ⟨some 4, .mov (.t 60), none⟩])
      (.ret))))))⟩
theorem fok_impl_HeapText : FOk Tryd.prog 20 code_impl_HeapText := fok Tryd.func20 (by kernel_rfl)
def cellS (c : Int) : List UInt8 := if c < 0 then [45] else digS c.toNat
theorem cellS_len (c : Int) : (cellS c).length = 1 := by unfold cellS; split <;> rfl
@[simp] def ct_l7Cell : Ct := ⟨49, Int, fun c => c < 10, fun c => [.int .i64 c], fun c => .str (cellS c)⟩
theorem ok_l7Cell : ct_l7Cell.Ok Tryd.prog := by
  intro c h
  change Int at c
  change c < 10 at h
  refine Ok.of_cw fok_spec_l7Cell (go_ok (tab_cons ok_sFormatInt tab_nil) ?_)
  by_cases h0 : c < 0
  · simp [code_spec_l7Cell, List.replicate, h0, cellS]
  · have h1 : 0 ≤ c := by omega
    simp [code_spec_l7Cell, List.replicate, h, h0, h1, cellS]
@[simp] def ct_cellText : Ct := ⟨45, Int, fun c => c < 10, fun c => [.int .i64 c], fun c => .str (cellS c)⟩
theorem ok_cellText : ct_cellText.Ok Tryd.prog := by
  intro c h
  change Int at c
  change c < 10 at h
  refine Ok.of_cw fok_impl_cellText (go_ok (tab_cons ok_pFormatInt tab_nil) ?_)
  by_cases h0 : c < 0
  · simp [code_impl_cellText, List.replicate, h0, cellS]
  · have h1 : 0 ≤ c := by omega
    simp [code_impl_cellText, List.replicate, h, h0, h1, cellS]
def vS (vars : List (List UInt8)) (h : Heap) (i : Nat) : List UInt8 := vars.getD i [] ++ (61 :: cellS (h.vars.getD i 0))
def nS (h : Heap) (c : Nat) : List UInt8 := digS c ++ (62 :: cellS (h.next.getD c 0))
def hwordsV (vars : List (List UInt8)) (h : Heap) (k : Nat) : List (List UInt8) := (List.range k).map (vS vars h)
def hwordsN (vars : List (List UInt8)) (h : Heap) (k : Nat) : List (List UInt8) := hwordsV vars h vars.length ++ (List.range k).map (nS h)
theorem hwordsV_succ (vars : List (List UInt8)) (h : Heap) (k : Nat) : hwordsV vars h (k + 1) = hwordsV vars h k ++ [vS vars h k] := by simp [hwordsV, List.range_succ]
theorem hwordsN_succ (vars : List (List UInt8)) (h : Heap) (k : Nat) : hwordsN vars h (k + 1) = hwordsN vars h k ++ [nS h k] := by simp [hwordsN, List.range_succ]
def htextS (vars : List (List UInt8)) (h : Heap) : List UInt8 := if (varsB vars && isHeapB vars.length h) = true then joinS (hwordsN vars h h.next.length) [32] else []
theorem varsB_small {vars : List (List UInt8)} (h : varsB vars = true) : vars.length ≤ 4 ∧ ∀ s ∈ vars, s.length ≤ 2 := by
  unfold varsB at h
  simp only [Bool.and_eq_true, decide_eq_true_eq, List.all_eq_true, List.mem_range] at h
  obtain ⟨h1, h2, h3⟩ := h
  refine ⟨by omega, fun s hs => ?_⟩
  obtain ⟨i, hi, rfl⟩ := List.mem_iff_getElem.1 hs
  have := h1 i hi
  have hg : vars.getD i [] = vars[i] := by simp [hi]
  unfold badV at this
  rw [hg] at this
  simp only [Bool.not_eq_true', Bool.or_eq_false_iff, Bool.not_eq_false'] at this
  have h4 := this.1
  unfold nameB at h4
  simp only [Bool.and_eq_true, decide_eq_true_eq] at h4
  omega
theorem isHeap_small {n : Int} {h : Heap} (hh : isHeapB n h = true) : (h.vars.length : Int) = n ∧ h.next.length ≤ 6 ∧ (∀ c ∈ h.vars, c < 10) ∧ ∀ c ∈ h.next, c < 10 := by
  unfold isHeapB at hh
  simp only [Bool.and_eq_true, decide_eq_true_eq] at hh
  obtain ⟨⟨⟨⟨⟨⟨⟨-, -⟩, h1⟩, h2⟩, h3⟩, -⟩, -⟩, -⟩ := hh
  unfold cellsB at h3
  have key : ∀ c, c ∈ h.vars ∨ c ∈ h.next → c < 10 := by
    intro c hc
    have := List.all_eq_true.1 h3 c (by simpa using hc)
    simp at this
    omega
  exact ⟨h1, h2, fun c hc => key c (.inl hc), fun c hc => key c (.inr hc)⟩
theorem hwords_ok {vars : List (List UInt8)} {h : Heap} (h1 : vars.length ≤ 4 ∧ ∀ s ∈ vars, s.length ≤ 2) (k : Nat) (hk : k ≤ 6) : joinOk (hwordsN vars h k, [32]) := by
  obtain ⟨h1, h2⟩ := h1
  refine ⟨?_, by simp, fun s hs => ?_⟩
  · simp only [hwordsN, hwordsV, List.length_append, List.length_map, List.length_range]; omega
  · simp only [hwordsN, hwordsV, List.mem_append, List.mem_map, List.mem_range] at hs
    rcases hs with ⟨j, hj, rfl⟩ | ⟨j, hj, rfl⟩
    · have hg : vars.getD j [] = vars[j] := by simp [hj]
      have := h2 vars[j] (List.getElem_mem hj)
      rw [vS, hg, List.length_append, List.length_cons, cellS_len]
      omega
    · rw [nS, List.length_append, List.length_cons, cellS_len, digS_len]
      omega
@[simp] def ct_sHeapText : Ct := ⟨21, List (List UInt8) × Heap, fun x => szVarsOk x.1 ∧ szHeap x.2 ≤ 1048576, fun x => [encL 1 encStr x.1, encHeap x.2], fun x => .str (htextS x.1 x.2)⟩
set_option maxHeartbeats 4000000 in
set_option maxRecDepth 100000 in
theorem ok_sHeapText : ct_sHeapText.Ok Tryd.prog := by
  rintro ⟨vars, ⟨hv, nx⟩⟩ ⟨hvs, hx⟩
  change szVarsOk vars at hvs
  change szHeap ⟨hv, nx⟩ ≤ 1048576 at hx
  have hT : TabOk Tryd.prog _ := tab_cons ok_sAreVars (tab_cons ok_sIsHeap (tab_cons ok_sJoin tab_nil))
  cases c1 : varsB vars
  · have hr : htextS vars ⟨hv, nx⟩ = [] := by simp [htextS, c1]
    refine Ok.of_cw fok_spec_HeapText (go_ok hT ?_)
    simp [code_spec_HeapText, List.replicate, hvs, hx, c1, hr]
  cases c2 : isHeapB vars.length ⟨hv, nx⟩
  · have hr : htextS vars ⟨hv, nx⟩ = [] := by simp [htextS, c1, c2]
    refine Ok.of_cw fok_spec_HeapText (go_ok hT ?_)
    simp [code_spec_HeapText, List.replicate, hvs, hx, c1, c2, hr]
  have hr : htextS vars ⟨hv, nx⟩ = joinS (hwordsN vars ⟨hv, nx⟩ nx.length) [32] := by simp [htextS, c1, c2]
  obtain ⟨e1, e2, e3, e4⟩ := isHeap_small c2
  have hsm := varsB_small c1
  simp only at e1 e2 e3 e4
  have e1' : hv.length = vars.length := by omega
  refine Ok.of_cw fok_spec_HeapText (go_ok hT ?_)
  simp [code_spec_HeapText, List.replicate, hvs, hx, c1, c2, hr]
  refine cw_round (fun (p : Nat × List (List UInt8)) => ⟨slots 62 [(0, encL 1 encStr vars), (3, .pbox 0 0), (5, .slref 1 0 p.2.length p.2.length), (6, .int .i64 p.1)], [.cells [encL 1 encInt hv, encL 1 encInt nx], .row true 9 1 (p.2.map encStr)]⟩)
    (fun p => p.1 ≤ vars.length ∧ p.2 = hwordsV vars ⟨hv, nx⟩ p.1) (fun p => vars.length - p.1) (0, []) ⟨by simp, by simp [hwordsV]⟩ ?_ ?_
  · refine weak_less ?_ ?_
    · simp
    · simp [List.replicate]
  rintro N hN ⟨k, ws⟩ ⟨hk, hws⟩
  change k ≤ vars.length at hk
  change ws = hwordsV vars ⟨hv, nx⟩ k at hws
  have hw : IntKind.i64.wrap ((k : Int) + 1) = ((k + 1 : Nat) : Int) := by rw [wrap_i64] <;> omega
  have hwl : ws.length = k := by rw [hws]; simp [hwordsV]
  have hb : (ws.length + 1) * 16 ≤ 140737488355328 := by omega
  by_cases g : k < vars.length
  · have g2 : ¬ vars.length ≤ k := by omega
    have g3 : k < hv.length := by omega
    have hs := hwordsV_succ vars ⟨hv, nx⟩ k
    rw [← hws] at hs
    have hvk : vS vars ⟨hv, nx⟩ k = vars[k] ++ (61 :: cellS hv[k]) := by simp [vS, g, g3]
    have hl := hsm.2 vars[k] (List.getElem_mem g)
    have hc := e3 hv[k] (List.getElem_mem g3)
    have b1 : vars[k].length ≤ 4611686018427387903 := by omega
    have b2 : vars[k].length ≤ 4611686018427387902 := by omega
    refine go_ok (tab_cons ok_l7Cell tab_nil) ?_
    simp [List.replicate, hw, g, g2, g3, hc, b1, b2, hb, app1, cellS_len, Nat.add_assoc]
    refine hN (k, ws) (k + 1, ws ++ [vars[k] ++ (61 :: cellS hv[k])]) _ ⟨by simp only; omega, by rw [hs, hvk]⟩ (by simp only; omega) (weak_seal 2 (by omega) ?_ ?_)
    · simp
    · simp [List.replicate]
  have e : k = vars.length := by omega
  subst e
  refine go_ok tab_nil ?_
  simp [List.replicate, hw]
  refine cw_round (fun (p : Nat × List (List UInt8)) => ⟨slots 62 [(0, encL 1 encStr vars), (3, .pbox 0 0), (5, .slref 1 0 p.2.length p.2.length), (7, .int .i64 p.1)], [.cells [encL 1 encInt hv, encL 1 encInt nx], .row true 9 1 (p.2.map encStr)]⟩)
    (fun p => p.1 ≤ nx.length ∧ p.2 = hwordsN vars ⟨hv, nx⟩ p.1) (fun p => nx.length - p.1) (0, ws) ⟨by simp, by simp [hwordsN, hws]⟩ ?_ ?_
  · refine weak_less ?_ ?_
    · simp
    · simp [List.replicate]
  rintro M hM ⟨j, us⟩ ⟨hj, hus⟩
  change j ≤ nx.length at hj
  change us = hwordsN vars ⟨hv, nx⟩ j at hus
  have hwj : IntKind.i64.wrap ((j : Int) + 1) = ((j + 1 : Nat) : Int) := by rw [wrap_i64] <;> omega
  have hul : us.length = vars.length + j := by rw [hus]; simp [hwordsN, hwordsV]
  have hbu : (us.length + 1) * 16 ≤ 140737488355328 := by omega
  by_cases gj : j < nx.length
  · have gj2 : ¬ nx.length ≤ j := by omega
    have g10 : (j : Int) < 10 := by omega
    have hs2 := hwordsN_succ vars ⟨hv, nx⟩ j
    rw [← hus] at hs2
    have hnk : nS ⟨hv, nx⟩ j = digS j ++ (62 :: cellS nx[j]) := by simp [nS, gj]
    have hc := e4 nx[j] (List.getElem_mem gj)
    refine go_ok (tab_cons ok_l7Cell (tab_cons ok_sFormatInt tab_nil)) ?_
    simp [List.replicate, hwj, gj, gj2, g10, hc, hbu, app1, cellS_len, digS_len]
    refine hM (j, us) (j + 1, us ++ [digS j ++ (62 :: cellS nx[j])]) _ ⟨by simp only; omega, by rw [hs2, hnk]⟩ (by simp only; omega) (weak_seal 2 (by omega) ?_ ?_)
    · simp
    · simp [List.replicate]
  have e : j = nx.length := by omega
  subst e
  have hok := hwords_ok (h := ⟨hv, nx⟩) hsm nx.length e2
  rw [← hus] at hok ⊢
  refine go_ok tab_nil ?_
  simp [List.replicate, hwj, hok]
@[simp] def ct_pHeapText : Ct := ⟨20, List (List UInt8) × Heap, fun x => szVarsOk x.1 ∧ szHeap x.2 ≤ 1048576, fun x => [encL 1 encStr x.1, encHeap x.2], fun x => .str (htextS x.1 x.2)⟩
set_option maxHeartbeats 4000000 in
set_option maxRecDepth 100000 in
theorem ok_pHeapText : ct_pHeapText.Ok Tryd.prog := by
  rintro ⟨vars, ⟨hv, nx⟩⟩ ⟨hvs, hx⟩
  change szVarsOk vars at hvs
  change szHeap ⟨hv, nx⟩ ≤ 1048576 at hx
  have hT : TabOk Tryd.prog _ := tab_cons ok_pAreVars (tab_cons ok_pIsHeap (tab_cons ok_pJoin tab_nil))
  cases c1 : varsB vars
  · have hr : htextS vars ⟨hv, nx⟩ = [] := by simp [htextS, c1]
    refine Ok.of_cw fok_impl_HeapText (go_ok hT ?_)
    simp [code_impl_HeapText, List.replicate, hvs, hx, c1, hr]
  cases c2 : isHeapB vars.length ⟨hv, nx⟩
  · have hr : htextS vars ⟨hv, nx⟩ = [] := by simp [htextS, c1, c2]
    refine Ok.of_cw fok_impl_HeapText (go_ok hT ?_)
    simp [code_impl_HeapText, List.replicate, hvs, hx, c1, c2, hr]
  have hr : htextS vars ⟨hv, nx⟩ = joinS (hwordsN vars ⟨hv, nx⟩ nx.length) [32] := by simp [htextS, c1, c2]
  obtain ⟨e1, e2, e3, e4⟩ := isHeap_small c2
  have hsm := varsB_small c1
  simp only at e1 e2 e3 e4
  have e1' : hv.length = vars.length := by omega
  refine Ok.of_cw fok_impl_HeapText (go_ok hT ?_)
  simp [code_impl_HeapText, List.replicate, hvs, hx, c1, c2, hr]
  refine cw_round (fun (p : Nat × List (List UInt8)) => ⟨slots 61 [(3, .pbox 0 0), (5, .slref 1 0 p.2.length p.2.length), (21, encL 1 encStr vars), (22, .int .i64 vars.length), (23, .int .i64 p.1)], [.cells [encL 1 encInt hv, encL 1 encInt nx], .row true 9 1 (p.2.map encStr)]⟩)
    (fun p => p.1 ≤ vars.length ∧ p.2 = hwordsV vars ⟨hv, nx⟩ p.1) (fun p => vars.length - p.1) (0, []) ⟨by simp, by simp [hwordsV]⟩ ?_ ?_
  · refine weak_less ?_ ?_
    · simp
    · simp [List.replicate]
  rintro N hN ⟨k, ws⟩ ⟨hk, hws⟩
  change k ≤ vars.length at hk
  change ws = hwordsV vars ⟨hv, nx⟩ k at hws
  have hw : IntKind.i64.wrap ((k : Int) + 1) = ((k + 1 : Nat) : Int) := by rw [wrap_i64] <;> omega
  have hwl : ws.length = k := by rw [hws]; simp [hwordsV]
  have hb : (ws.length + 1) * 16 ≤ 140737488355328 := by omega
  by_cases g : k < vars.length
  · have g2 : ¬ vars.length ≤ k := by omega
    have g3 : k < hv.length := by omega
    have hs := hwordsV_succ vars ⟨hv, nx⟩ k
    rw [← hws] at hs
    have hvk : vS vars ⟨hv, nx⟩ k = vars[k] ++ (61 :: cellS hv[k]) := by simp [vS, g, g3]
    have hl := hsm.2 vars[k] (List.getElem_mem g)
    have hc := e3 hv[k] (List.getElem_mem g3)
    have b1 : vars[k].length ≤ 4611686018427387903 := by omega
    have b2 : vars[k].length ≤ 4611686018427387902 := by omega
    refine go_ok (tab_cons ok_cellText tab_nil) ?_
    simp [List.replicate, hw, g, g2, g3, hc, b1, b2, hb, app1, cellS_len, Nat.add_assoc]
    refine hN (k, ws) (k + 1, ws ++ [vars[k] ++ (61 :: cellS hv[k])]) _ ⟨by simp only; omega, by rw [hs, hvk]⟩ (by simp only; omega) (weak_seal 2 (by omega) ?_ ?_)
    · simp
    · simp [List.replicate]
  have e : k = vars.length := by omega
  subst e
  refine go_ok tab_nil ?_
  simp [List.replicate, hw]
  refine cw_round (fun (p : Nat × List (List UInt8)) => ⟨slots 61 [(3, .pbox 0 0), (5, .slref 1 0 p.2.length p.2.length), (42, encL 1 encInt nx), (43, .int .i64 nx.length), (44, .int .i64 p.1)], [.cells [encL 1 encInt hv, encL 1 encInt nx], .row true 9 1 (p.2.map encStr)]⟩)
    (fun p => p.1 ≤ nx.length ∧ p.2 = hwordsN vars ⟨hv, nx⟩ p.1) (fun p => nx.length - p.1) (0, ws) ⟨by simp, by simp [hwordsN, hws]⟩ ?_ ?_
  · refine weak_less ?_ ?_
    · simp
    · simp [List.replicate]
  rintro M hM ⟨j, us⟩ ⟨hj, hus⟩
  change j ≤ nx.length at hj
  change us = hwordsN vars ⟨hv, nx⟩ j at hus
  have hwj : IntKind.i64.wrap ((j : Int) + 1) = ((j + 1 : Nat) : Int) := by rw [wrap_i64] <;> omega
  have hul : us.length = vars.length + j := by rw [hus]; simp [hwordsN, hwordsV]
  have hbu : (us.length + 1) * 16 ≤ 140737488355328 := by omega
  by_cases gj : j < nx.length
  · have gj2 : ¬ nx.length ≤ j := by omega
    have g10 : (j : Int) < 10 := by omega
    have hs2 := hwordsN_succ vars ⟨hv, nx⟩ j
    rw [← hus] at hs2
    have hnk : nS ⟨hv, nx⟩ j = digS j ++ (62 :: cellS nx[j]) := by simp [nS, gj]
    have hc := e4 nx[j] (List.getElem_mem gj)
    refine go_ok (tab_cons ok_cellText (tab_cons ok_pFormatInt tab_nil)) ?_
    simp [List.replicate, hwj, gj, gj2, g10, hc, hbu, app1, cellS_len, digS_len]
    refine hM (j, us) (j + 1, us ++ [digS j ++ (62 :: cellS nx[j])]) _ ⟨by simp only; omega, by rw [hs2, hnk]⟩ (by simp only; omega) (weak_seal 2 (by omega) ?_ ?_)
    · simp
    · simp [List.replicate]
  have e : j = nx.length := by omega
  subst e
  have hok := hwords_ok (h := ⟨hv, nx⟩) hsm nx.length e2
  rw [← hus] at hok ⊢
  refine go_ok tab_nil ?_
  simp [List.replicate, hwj, hok]
end Go.Vm
