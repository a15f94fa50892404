/- HeapHolds: both, and the law. No condition. -/
import Derived.Test.YtmakeoekklcbdaaTRY
import Derived.Test.YtmakeoekklcbdaaTRZ
import Derived.Test.YtmakeoekklcbdaaTEH
import Derived.Test.YtmakeoekklcbdaaTEK
import Derived.Test.YtmakeoekklcbdaaTSQ
import Derived.Test.YtmakeoekklcbdaaTSF
set_option linter.unusedSimpArgs false
set_option linter.unusedVariables false
namespace Go.Vm
open Go.Proofs
theorem sum_leC {α : Type} {f : α → Nat} {c : Nat} : ∀ {l : List α}, (∀ x ∈ l, f x ≤ c) → (l.map f).sum ≤ l.length * c
  | [], _ => by simp
  | a :: l, h => by
    have h1 := h a (by simp)
    have h2 := sum_leC (l := l) fun x hx => h x (by simp [hx])
    simp only [List.map_cons, List.sum_cons, List.length_cons, Nat.add_mul]
    omega
theorem strcOf_size (h : Heap) : szStrc (strcOf h) ≤ 1048576 := by
  unfold strcOf
  split
  · rename_i hf
    unfold fitS at hf
    simp only [Bool.and_eq_true, decide_eq_true_eq] at hf
    obtain ⟨⟨hc, h1⟩, h2, h3⟩ := hf
    have e1 : ((nodesT h.vars h.next h.next.length).map szNode).sum ≤ (nodesT h.vars h.next h.next.length).length * 8 := by
      apply sum_leC
      intro x hx
      simp only [nodesT, List.mem_map] at hx
      obtain ⟨c, _, rfl⟩ := hx
      simp [szNode, nodeT]; omega
    rw [nodesT_len] at e1
    have e2 : (nextsT h.next h.next.length).length ≤ 100 := by rw [nextsT_len]; exact Nat.mul_le_mul h1 h1
    have e3 : (nodesT h.vars h.next h.next.length).length = h.next.length := nodesT_len _ _ _
    simp only [szStrc, szNodes]
    omega
  · simp [szStrc, szNodes]
theorem trI_truth (b : Bool) : isTruth (trI b) = true := by cases b <;> simp [trI, isTruth]
theorem nextsT_truth (nx : List Int) : ∀ n, ∀ x ∈ nextsT nx n, isTruth x = true
  | 0, x, h => by simp [nextsT] at h
  | n + 1, x, h => by
    rw [nextsT_succ] at h
    rcases List.mem_append.1 h with h | h
    · exact nextsT_truth nx n x h
    · simp only [rowT, List.mem_map] at h
      obtain ⟨d, _, rfl⟩ := h
      exact trI_truth _
theorem strcOf_truth (h : Heap) : truthS (strcOf h) := by
  unfold truthS strcOf
  split
  · exact nextsT_truth _ _
  · intro x hx; simp at hx
theorem ok_pHoldsT : (ct_pHolds truthS).Ok Try.prog := ok_pHolds (fun x h => ok_pPathT x ⟨trivial, h.2⟩)
theorem ok_sHoldsT : (ct_sHolds truthS).Ok Try.prog := ok_sHolds ok_sPathT
def code_impl_HeapHolds : F := ⟨10, [.tmp 4],
 .seq (.reg [⟨some 2, .box (.t 0), none⟩,
    ⟨some 3, .box (.t 1), none⟩,
    ⟨some 4, .mov (.k (.bool false)), none⟩])
 (.seq (.dreg [false, false, false, true, true, true] [⟨some 5, .load 2 true (.t 2), none⟩,
     ⟨some 6, .call 24 [(.t 5)], none⟩,
     ⟨some 7, .load 5 true (.t 3), none⟩,
     ⟨some 8, .call 118 [(.t 6), (.t 7)], none⟩,
     ⟨some 9, .bin .eql (.t 8) (.k (.int .i64 2)), none⟩,
     ⟨some 4, .mov (.t 9), none⟩])
  (.ret))⟩
theorem fok_impl_HeapHolds : FOk Try.prog 47 code_impl_HeapHolds := fok Try.func47 (by kernel_rfl)
def code_spec_HeapHolds : F := ⟨10, [.tmp 4],
 .seq (.reg [⟨some 2, .box (.t 0), none⟩,
    ⟨some 3, .box (.t 1), none⟩,
    ⟨some 4, .mov (.k (.bool false)), none⟩])
 (.seq (.dreg [false, false, false, true, true, true] [⟨some 5, .load 2 true (.t 2), none⟩,
     ⟨some 6, .call 22 [(.t 5)], none⟩,
     ⟨some 7, .load 5 true (.t 3), none⟩,
     ⟨some 8, .call 116 [(.t 6), (.t 7)], none⟩,
     ⟨some 9, .bin .eql (.t 8) (.k (.int .i64 2)), none⟩,
     ⟨some 4, .mov (.t 9), none⟩])
  (.ret))⟩
theorem fok_spec_HeapHolds : FOk Try.prog 45 code_spec_HeapHolds := fok Try.func45 (by kernel_rfl)
noncomputable def heapHoldsB (h : Heap) (f : Fm) : Bool := decide (evalT (strcOf h) f [] = 2)
@[simp] noncomputable def ct_pHeapHolds : Ct := ⟨47, Heap × Fm, fun x => szHeap x.1 ≤ 1048576, fun x => [encHeap x.1, encFm x.2], fun x => .bool (heapHoldsB x.1 x.2)⟩
theorem ok_pHeapHolds : ct_pHeapHolds.Ok Try.prog := by
  rintro ⟨h, f⟩ hh
  change szHeap h ≤ 1048576 at hh
  have h1 := strcOf_size h
  have h2 := strcOf_truth h
  refine Ok.of_cw fok_impl_HeapHolds (go_ok (tab_cons ok_pStructureOf (tab_cons ok_pHoldsT tab_nil)) ?_)
  simp [code_impl_HeapHolds, List.replicate, hh, h1, h2, heapHoldsB]
@[simp] noncomputable def ct_sHeapHolds : Ct := ⟨45, Heap × Fm, fun x => szHeap x.1 ≤ 1048576, fun x => [encHeap x.1, encFm x.2], fun x => .bool (heapHoldsB x.1 x.2)⟩
theorem ok_sHeapHolds : ct_sHeapHolds.Ok Try.prog := by
  rintro ⟨h, f⟩ hh
  change szHeap h ≤ 1048576 at hh
  have h1 := strcOf_size h
  have h2 := strcOf_truth h
  refine Ok.of_cw fok_spec_HeapHolds (go_ok (tab_cons ok_sStructureOf (tab_cons ok_sHoldsT tab_nil)) ?_)
  simp [code_spec_HeapHolds, List.replicate, hh, h1, h2, heapHoldsB]
def code_laws_FnExactHeapHolds : F := ⟨45, [.tmp 4],
 .seq (.reg [⟨some 2, .box (.t 0), none⟩,
    ⟨some 3, .box (.t 1), none⟩,
    ⟨some 4, .mov (.k (.bool false)), none⟩])
 (.seq (.reg [⟨some 5, .mov (.k (.int .i64 1048576)), none⟩])
  (.seq (.reg [⟨some 10, .load 2 true (.t 2), none⟩,
      ⟨some 11, .mov (.t 5), none⟩,
      ⟨some 12, .call 21 [(.t 10), (.t 11)], none⟩,
      ⟨some 5, .mov (.t 12), none⟩])
   (.seq (.seq (.reg [⟨some 13, .mov (.t 5), none⟩,
        ⟨some 14, .bin .lss (.t 13) (.k (.int .i64 0)), none⟩])
     (.cond (.t 14)
      (.seq (.reg [⟨some 4, .mov (.k (.bool true)), none⟩])
       (.ret))
      (.skip)))
    (.seq (.reg [⟨some 15, .load 5 true (.t 3), none⟩,
        ⟨some 16, .mov (.t 5), none⟩,
        ⟨some 17, .call 44 [(.t 15), (.t 16)], none⟩,
        ⟨some 5, .mov (.t 17), none⟩])
     (.seq (.seq (.reg [⟨some 18, .mov (.t 5), none⟩,
          ⟨some 19, .bin .lss (.t 18) (.k (.int .i64 0)), none⟩])
       (.cond (.t 19)
        (.seq (.reg [⟨some 4, .mov (.k (.bool true)), none⟩])
         (.ret))
        (.skip)))
      (.seq (.dreg [false, false, false, true, true, true] [⟨some 20, .load 2 true (.t 2), none⟩,
          ⟨some 21, .call 23 [(.t 20)], none⟩,
          ⟨some 22, .load 5 true (.t 3), none⟩,
          ⟨some 23, .call 46 [(.t 22)], none⟩,
          ⟨some 24, .call 45 [(.t 21), (.t 23)], none⟩,
          ⟨some 6, .mov (.t 24), none⟩])
       (.seq (.reg [⟨some 25, .load 2 true (.t 2), none⟩,
           ⟨some 26, .call 23 [(.t 25)], none⟩,
           ⟨some 7, .alloc [(.sl .nil 0 []), (.sl .nil 0 [])], none⟩,
           ⟨none, .store 2 (.t 7) (.t 26), none⟩])
        (.seq (.reg [⟨some 27, .load 5 true (.t 3), none⟩,
            ⟨some 28, .call 46 [(.t 27)], none⟩,
            ⟨some 8, .alloc [(.int .i64 0), (.int .i64 0), (.int .i64 0), (.int .i64 0), (.sl .nil 0 [])], none⟩,
            ⟨none, .store 5 (.t 8) (.t 28), none⟩])
         (.seq (.reg [⟨some 29, .load 2 true (.t 7), none⟩,
             ⟨some 30, .load 5 true (.t 8), none⟩,
             ⟨some 31, .call 47 [(.t 29), (.t 30)], none⟩,
             ⟨some 9, .mov (.t 31), none⟩])
          (.seq (.seq (.reg [⟨some 32, .mov (.t 9), none⟩,
               ⟨some 33, .mov (.t 6), none⟩,
               ⟨some 34, .beq true (.t 32) (.t 33), none⟩])
            (.cond (.t 34)
             (.seq (.reg [⟨some 4, .mov (.k (.bool false)), none⟩])
              (.ret))
             (.skip)))
           (.seq (.seq (.dreg [false, false, false, true, true] [⟨some 35, .load 2 true (.t 7), none⟩,
                ⟨some 36, .load 2 true (.t 2), none⟩,
                ⟨some 37, .call 23 [(.t 36)], none⟩,
                ⟨some 38, .call 16 [(.t 35), (.t 37)], none⟩,
                ⟨some 39, .not (.t 38), none⟩])
             (.cond (.t 39)
              (.seq (.reg [⟨some 4, .mov (.k (.bool false)), none⟩])
               (.ret))
              (.skip)))
            (.seq (.seq (.dreg [false, false, false, true, true] [⟨some 40, .load 5 true (.t 8), none⟩,
                 ⟨some 41, .load 5 true (.t 3), none⟩,
                 ⟨some 42, .call 46 [(.t 41)], none⟩,
                 ⟨some 43, .call 37 [(.t 40), (.t 42)], none⟩,
                 ⟨some 44, .not (.t 43), none⟩])
              (.cond (.t 44)
               (.seq (.reg [⟨some 4, .mov (.k (.bool false)), none⟩])
                (.ret))
               (.skip)))
             (.seq (.reg [⟨some 4, .mov (.k (.bool true)), none⟩])
              (.ret))))))))))))))⟩
theorem fok_laws_FnExactHeapHolds : FOk Try.prog 8 code_laws_FnExactHeapHolds := fok Try.func8 (by kernel_rfl)
set_option maxHeartbeats 8000000 in
set_option maxRecDepth 100000 in
theorem ok_lawHeapHolds (x : Heap) (f : Fm) : Ok Try.prog 8 [encHeap x, encFm f] (.bool true) := by
  have hT : TabOk Try.prog _ := tab_cons ok_szHeap (tab_cons ok_szFm (tab_cons ok_toHeap (tab_cons ok_toFm (tab_cons ok_sHeapHolds (tab_cons ok_pHeapHolds (tab_cons ok_eqHeap (tab_cons ok_eqFm tab_nil)))))))
  refine Ok.of_cw fok_laws_FnExactHeapHolds ?_
  simp only [code_laws_FnExactHeapHolds, frame, List.length_cons, List.length_nil, List.replicate, Nat.reduceSub, Nat.reduceAdd, List.cons_append, List.nil_append]
  refine cw_seq (go_ok hT ?_)
  simp
  refine cw_seq (go_ok hT ?_)
  simp
  by_cases h1 : (szHeap x : Int) ≤ 1048576
  case neg =>
    refine cw_seq (go_ok hT ?_)
    simp [left_neg (by omega : (1048576:Int) < szHeap x)]
    refine cw_seq (go_ok hT ?_)
    simp
  have l1 := left_ge h1
  have n1 : ¬ (1048576 - (szHeap x : Int) < 0) := by omega
  have n1' : ¬ (1048576 < (szHeap x : Int)) := by omega
  refine cw_seq (go_ok hT ?_)
  simp [l1]
  refine cw_seq (go_ok hT ?_)
  simp [n1, n1']
  by_cases h2 : (sizes f.args : Int) ≤ 1048576 - szHeap x
  case neg =>
    refine cw_seq (go_ok hT ?_)
    simp [h1, left_neg (by omega : (1048576:Int) - szHeap x < sizes f.args)]
    refine ⟨by omega, ?_⟩
    refine cw_seq (go_ok hT ?_)
    simp
  have l2 := left_ge h2
  have n2 : ¬ (1048576 - (szHeap x : Int) - sizes f.args < 0) := by omega
  have hx : szHeap x ≤ 1048576 := by omega
  have hf : sizes f.args ≤ 1048576 := by omega
  refine cw_seq (go_ok hT ?_)
  simp [h1, l2]
  refine ⟨by omega, ?_⟩
  refine cw_seq (go_ok hT ?_)
  simp [n2]
  refine cw_seq (go_ok hT ?_)
  simp [hx, hf]
  refine cw_seq (go_ok hT ?_)
  simp [hx]
  refine cw_seq (go_ok hT ?_)
  simp [hf]
  refine cw_seq (go_ok hT ?_)
  simp [hx]
  refine go_ok hT ?_
  simp [hx, hf]
end Go.Vm
