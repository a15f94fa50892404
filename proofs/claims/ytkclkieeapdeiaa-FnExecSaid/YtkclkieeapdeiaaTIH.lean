/- IsHeap. No condition. -/
import Derived.Test.YtkclkieeapdeiaaTCC
import Derived.Test.YtkclkieeapdeiaaTFA
import Derived.Test.YtkclkieeapdeiaaTL2
set_option linter.unusedSimpArgs false
set_option linter.unusedVariables false
namespace Go.Vm
open Go.Proofs
def code_spec_l7Acyclic : F := ⟨31, [.tmp 2],
 .seq (.reg [⟨some 1, .box (.t 0), none⟩,
    ⟨some 2, .mov (.k (.bool false)), none⟩])
 (.seq (.seq (.reg [⟨some 3, .mov (.k (.int .i64 0)), none⟩])
   (.block 0 (.loop (.seq (.seq (.reg [⟨some 5, .mov (.t 3), none⟩,
          ⟨some 6, .faddr 1 (.t 1), none⟩,
          ⟨some 7, .load 1 false (.t 6), none⟩,
          ⟨some 8, .len (.t 7), none⟩,
          ⟨some 9, .bin .lss (.t 5) (.t 8), none⟩])
       (.cond (.t 9)
        (.skip)
        (.exit 0)))
      (.seq (.block 1 (.seq (.reg [⟨some 12, .load 2 true (.t 1), none⟩,
            ⟨some 13, .mov (.t 3), none⟩,
            ⟨some 14, .call 88 [(.t 12), (.t 13)], none⟩,
            ⟨some 4, .mov (.t 14), none⟩])
         (.seq (.dreg [true, true, true, true, false, false, false, false, false, false, false, false, true, true, true, true] [false, false, false, false, false, false, false, false, false, false, false, false, false, false, false, false] [⟨some 15, .mov (.t 4), none⟩,
             ⟨some 16, .len (.t 15), none⟩,
             ⟨some 17, .bin .eql (.t 16) (.k (.int .i64 0)), none⟩,
             ⟨some 18, .mov (.t 17), none⟩,
             ⟨some 19, .faddr 1 (.t 1), some (18, false)⟩,
             ⟨some 20, .load 1 false (.t 19), some (18, false)⟩,
             ⟨some 21, .mov (.t 4), some (18, false)⟩,
             ⟨some 22, .mov (.t 4), some (18, false)⟩,
             ⟨some 23, .len (.t 22), some (18, false)⟩,
             ⟨some 24, .bin .sub (.t 23) (.k (.int .i64 1)), some (18, false)⟩,
             ⟨some 25, .iaddr 1 (.t 21) (.t 24), some (18, false)⟩,
             ⟨some 26, .load 1 false (.t 25), some (18, false)⟩,
             ⟨some 27, .iaddr 1 (.t 20) (.t 26), some (18, false)⟩,
             ⟨some 28, .load 1 false (.t 27), some (18, false)⟩,
             ⟨some 29, .bin .neq (.t 28) (.k (.int .i64 (-1))), some (18, false)⟩,
             ⟨some 30, .pick (.t 18) (.k (.bool true)) (.t 29), none⟩])
          (.cond (.t 30)
           (.seq (.reg [⟨some 2, .mov (.k (.bool false)), none⟩])
            (.ret))
           (.skip)))))
       (.reg [⟨some 10, .mov (.t 3), none⟩,
          ⟨some 11, .bin .add (.t 10) (.k (.int .i64 1)), none⟩,
          ⟨some 3, .mov (.t 11), none⟩]))))))
  (.seq (.reg [⟨some 2, .mov (.k (.bool true)), none⟩])
   (.ret)))⟩
theorem fok_spec_l7Acyclic : FOk Try.prog 63 code_spec_l7Acyclic := fok Try.func63 (by kernel_rfl)
def code_impl_Heap_isCyclic : F := ⟨20, [.tmp 2],
 .seq (.reg [⟨some 1, .box (.t 0), none⟩,
    ⟨some 2, .mov (.k (.bool false)), none⟩])
 (.seq (.seq (.reg [⟨some 4, .faddr 1 (.t 1), none⟩,
      ⟨some 5, .load 1 false (.t 4), none⟩,
      ⟨some 6, .len (.t 5), none⟩,
      ⟨some 7, .mov (.k (.int .i64 0)), none⟩])
   (.block 0 (.loop (.seq (.reg [⟨some 8, .bin .lss (.t 7) (.t 6), none⟩])
      (.seq (.cond (.t 8)
        (.skip)
        (.exit 0))
       (.seq (.block 1 (.seq (.reg [⟨some 9, .mov (.t 7), none⟩,
             ⟨some 3, .mov (.t 9), none⟩])
          (.seq (.dreg [false, false, false, false, false, false, false, false, true] [false, false, false, false, false, false, true, false, true] [⟨some 10, .load 2 true (.t 1), none⟩,
              ⟨some 11, .faddr 1 (.t 1), none⟩,
              ⟨some 12, .load 1 false (.t 11), none⟩,
              ⟨some 13, .mov (.t 3), none⟩,
              ⟨some 14, .iaddr 1 (.t 12) (.t 13), none⟩,
              ⟨some 15, .load 1 false (.t 14), none⟩,
              ⟨some 16, .call 44 [(.t 10), (.t 15)], none⟩,
              ⟨some 17, .mov (.t 3), none⟩,
              ⟨some 18, .call 43 [(.t 16), (.t 17)], none⟩])
           (.cond (.t 18)
            (.seq (.reg [⟨some 2, .mov (.k (.bool true)), none⟩])
             (.ret))
            (.skip)))))
        (.reg [⟨some 19, .bin .add (.t 7) (.k (.int .i64 1)), none⟩,
           ⟨some 7, .mov (.t 19), none⟩])))))))
  (.seq (.reg [⟨some 2, .mov (.k (.bool false)), none⟩])
   (.ret)))⟩
theorem fok_impl_Heap_isCyclic : FOk Try.prog 78 code_impl_Heap_isCyclic := fok Try.func78 (by kernel_rfl)
def code_spec_IsHeap : F := ⟨53, [.tmp 4],
 .seq (.reg [⟨some 3, .box (.t 1), none⟩,
    ⟨some 4, .mov (.k (.bool false)), none⟩])
 (.seq (.seq (.reg [⟨some 7, .mov (.t 0), none⟩,
      ⟨some 8, .call 61 [(.t 7), (.k (.int .i64 1)), (.k (.int .i64 4))], none⟩,
      ⟨some 9, .not (.t 8), none⟩,
      ⟨some 10, .mov (.t 9), none⟩,
      ⟨some 11, .faddr 0 (.t 3), some (10, false)⟩,
      ⟨some 12, .load 1 false (.t 11), some (10, false)⟩,
      ⟨some 13, .len (.t 12), some (10, false)⟩,
      ⟨some 14, .mov (.t 0), some (10, false)⟩,
      ⟨some 15, .bin .neq (.t 13) (.t 14), some (10, false)⟩,
      ⟨some 16, .pick (.t 10) (.k (.bool true)) (.t 15), none⟩,
      ⟨some 17, .mov (.t 16), none⟩,
      ⟨some 18, .faddr 1 (.t 3), some (17, false)⟩,
      ⟨some 19, .load 1 false (.t 18), some (17, false)⟩,
      ⟨some 20, .len (.t 19), some (17, false)⟩,
      ⟨some 21, .bin .gtr (.t 20) (.k (.int .i64 6)), some (17, false)⟩,
      ⟨some 22, .pick (.t 17) (.k (.bool true)) (.t 21), none⟩,
      ⟨some 23, .mov (.t 22), none⟩,
      ⟨some 24, .load 2 true (.t 3), some (23, false)⟩,
      ⟨some 25, .call 62 [(.t 24)], some (23, false)⟩,
      ⟨some 26, .not (.t 25), some (23, false)⟩,
      ⟨some 27, .pick (.t 23) (.k (.bool true)) (.t 26), none⟩,
      ⟨some 28, .mov (.t 27), none⟩,
      ⟨some 29, .load 2 true (.t 3), some (28, false)⟩,
      ⟨some 30, .call 63 [(.t 29)], some (28, false)⟩,
      ⟨some 31, .not (.t 30), some (28, false)⟩,
      ⟨some 32, .pick (.t 28) (.k (.bool true)) (.t 31), none⟩])
   (.cond (.t 32)
    (.seq (.reg [⟨some 4, .mov (.k (.bool false)), none⟩])
     (.ret))
    (.skip)))
  (.seq (.reg [⟨some 33, .load 2 true (.t 3), none⟩,
      ⟨some 34, .call 64 [(.t 33)], none⟩,
      ⟨some 5, .mov (.t 34), none⟩])
   (.seq (.seq (.reg [⟨some 6, .mov (.k (.int .i64 0)), none⟩])
     (.block 0 (.loop (.seq (.seq (.reg [⟨some 35, .mov (.t 6), none⟩,
            ⟨some 36, .mov (.t 5), none⟩,
            ⟨some 37, .len (.t 36), none⟩,
            ⟨some 38, .bin .lss (.t 35) (.t 37), none⟩])
         (.cond (.t 38)
          (.skip)
          (.exit 0)))
        (.seq (.block 1 (.seq (.reg [⟨some 41, .mov (.t 5), none⟩,
              ⟨some 42, .mov (.t 6), none⟩,
              ⟨some 43, .iaddr 1 (.t 41) (.t 42), none⟩,
              ⟨some 44, .load 1 false (.t 43), none⟩,
              ⟨some 45, .mov (.t 6), none⟩,
              ⟨some 46, .bin .neq (.t 44) (.t 45), none⟩])
           (.cond (.t 46)
            (.seq (.reg [⟨some 4, .mov (.k (.bool false)), none⟩])
             (.ret))
            (.skip))))
         (.reg [⟨some 39, .mov (.t 6), none⟩,
            ⟨some 40, .bin .add (.t 39) (.k (.int .i64 1)), none⟩,
            ⟨some 6, .mov (.t 40), none⟩]))))))
    (.seq (.reg [⟨some 47, .mov (.t 5), none⟩,
        ⟨some 48, .len (.t 47), none⟩,
        ⟨some 49, .faddr 1 (.t 3), none⟩,
        ⟨some 50, .load 1 false (.t 49), none⟩,
        ⟨some 51, .len (.t 50), none⟩,
        ⟨some 52, .bin .eql (.t 48) (.t 51), none⟩,
        ⟨some 4, .mov (.t 52), none⟩])
     (.ret)))))⟩
theorem fok_spec_IsHeap : FOk Try.prog 15 code_spec_IsHeap := fok Try.func15 (by kernel_rfl)
def code_impl_IsHeap : F := ⟨52, [.tmp 4],
 .seq (.reg [⟨some 3, .box (.t 1), none⟩,
    ⟨some 4, .mov (.k (.bool false)), none⟩])
 (.seq (.seq (.reg [⟨some 8, .mov (.t 0), none⟩,
      ⟨some 9, .call 60 [(.t 8), (.k (.int .i64 1)), (.k (.int .i64 4))], none⟩,
      ⟨some 10, .not (.t 9), none⟩,
      ⟨some 11, .mov (.t 10), none⟩,
      ⟨some 12, .faddr 0 (.t 3), some (11, false)⟩,
      ⟨some 13, .load 1 false (.t 12), some (11, false)⟩,
      ⟨some 14, .len (.t 13), some (11, false)⟩,
      ⟨some 15, .mov (.t 0), some (11, false)⟩,
      ⟨some 16, .bin .neq (.t 14) (.t 15), some (11, false)⟩,
      ⟨some 17, .pick (.t 11) (.k (.bool true)) (.t 16), none⟩,
      ⟨some 18, .mov (.t 17), none⟩,
      ⟨some 19, .faddr 1 (.t 3), some (18, false)⟩,
      ⟨some 20, .load 1 false (.t 19), some (18, false)⟩,
      ⟨some 21, .len (.t 20), some (18, false)⟩,
      ⟨some 22, .bin .gtr (.t 21) (.k (.int .i64 6)), some (18, false)⟩,
      ⟨some 23, .pick (.t 18) (.k (.bool true)) (.t 22), none⟩,
      ⟨some 24, .mov (.t 23), none⟩,
      ⟨some 25, .load 2 true (.t 3), some (24, false)⟩,
      ⟨some 26, .call 77 [(.t 25)], some (24, false)⟩,
      ⟨some 27, .not (.t 26), some (24, false)⟩,
      ⟨some 28, .pick (.t 24) (.k (.bool true)) (.t 27), none⟩,
      ⟨some 29, .mov (.t 28), none⟩,
      ⟨some 30, .load 2 true (.t 3), some (29, false)⟩,
      ⟨some 31, .call 78 [(.t 30)], some (29, false)⟩,
      ⟨some 32, .pick (.t 29) (.k (.bool true)) (.t 31), none⟩])
   (.cond (.t 32)
    (.seq (.reg [⟨some 4, .mov (.k (.bool false)), none⟩])
     (.ret))
    (.skip)))
  (.seq (.reg [⟨some 33, .load 2 true (.t 3), none⟩,
      ⟨some 34, .call 79 [(.t 33)], none⟩,
      ⟨some 5, .mov (.t 34), none⟩])
   (.seq (.seq (.reg [⟨some 35, .mov (.t 5), none⟩,
        ⟨some 36, .len (.t 35), none⟩,
        ⟨some 37, .mov (.k (.int .i64 0)), none⟩])
     (.block 0 (.loop (.seq (.reg [⟨some 38, .bin .lss (.t 37) (.t 36), none⟩])
        (.seq (.cond (.t 38)
          (.skip)
          (.exit 0))
         (.seq (.block 1 (.seq (.reg [⟨some 39, .mov (.t 37), none⟩,
               ⟨some 40, .iaddr 1 (.t 35) (.t 37), none⟩,
               ⟨some 41, .load 1 false (.t 40), none⟩,
               ⟨some 6, .mov (.t 39), none⟩,
               ⟨some 7, .mov (.t 41), none⟩])
            (.seq (.reg [⟨some 42, .mov (.t 7), none⟩,
                ⟨some 43, .mov (.t 6), none⟩,
                ⟨some 44, .bin .neq (.t 42) (.t 43), none⟩])
             (.cond (.t 44)
              (.seq (.reg [⟨some 4, .mov (.k (.bool false)), none⟩])
               (.ret))
              (.skip)))))
          (.reg [⟨some 45, .bin .add (.t 37) (.k (.int .i64 1)), none⟩,
             ⟨some 37, .mov (.t 45), none⟩])))))))
    (.seq (.reg [⟨some 46, .mov (.t 5), none⟩,
        ⟨some 47, .len (.t 46), none⟩,
        ⟨some 48, .faddr 1 (.t 3), none⟩,
        ⟨some 49, .load 1 false (.t 48), none⟩,
        ⟨some 50, .len (.t 49), none⟩,
        ⟨some 51, .bin .eql (.t 47) (.t 50), none⟩,
        ⟨some 4, .mov (.t 51), none⟩])
     (.ret)))))⟩
theorem fok_impl_IsHeap : FOk Try.prog 36 code_impl_IsHeap := fok Try.func36 (by kernel_rfl)
theorem cells_closed {h : Heap} (hc : cellsB h = true) : closedC h.next := by
  intro x hx
  unfold cellsB at hc
  have := List.all_eq_true.1 hc x (by simp [hx])
  simp at this
  unfold inC
  omega
def acycB (h : Heap) : Bool := (List.range h.next.length).all fun k => endsB h.next k
def cycB (h : Heap) : Bool := (List.range h.next.length).any fun c => loopB h.next c
theorem range_noHit {p : Nat → Bool} {n i : Nat} (hi : i ≤ n) (h : ∀ j, j < i → p j = true) (hn : i = n) : (List.range n).all p = true := by
  subst hn
  simpa [List.all_eq_true] using h
@[simp] def ct_l7Acyclic : Ct := ⟨63, Heap, fun x => szHeap x ≤ 1048576, fun x => [encHeap x], fun x => .bool (acycB x)⟩
set_option maxHeartbeats 2000000 in
theorem ok_l7Acyclic : ct_l7Acyclic.Ok Try.prog := by
  rintro ⟨vs, nx⟩ hx
  change vs.length + nx.length ≤ 1048576 at hx
  refine Ok.of_cw fok_spec_l7Acyclic (go_ok tab_nil ?_)
  simp [code_spec_l7Acyclic, List.replicate]
  refine cw_round (fun (i : Nat) => ⟨slots 31 [(1, .pbox 0 0), (3, .int .i64 i)], [.cells [encL 1 encInt vs, encL 1 encInt nx]]⟩)
    (fun i => i ≤ nx.length ∧ ∀ j, j < i → endsB nx j = true) (fun i => nx.length - i) 0 ⟨by omega, by omega⟩ ?_ ?_
  · exact weak_seal 1 (by omega) (by simp) (by simp [List.replicate])
  · rintro N hN i ⟨hi, hn⟩
    have hw : IntKind.i64.wrap ((i : Int) + 1) = ((i + 1 : Nat) : Int) := by rw [wrap_i64] <;> omega
    refine go_ok (tab_cons ok_sFollowed tab_nil) ?_
    by_cases h : i < nx.length
    · have h2 : ¬ nx.length ≤ i := by omega
      have hnx : nx.length ≤ 1048576 := by omega
      have bad : endsB nx i = false → acycB ⟨vs, nx⟩ = false := by
        intro e
        unfold acycB
        rw [List.all_eq_false]
        exact ⟨i, by simpa using h, by simp [e]⟩
      have hg := followed_good nx i
      have hgl := goodC_len hg
      rcases List.eq_nil_or_concat (followed nx i) with e | ⟨L, l, e⟩
      · have hf : acycB ⟨vs, nx⟩ = false := bad (by simp [endsB, e])
        simp [List.replicate, hw, h, h2, hnx, e, hf]
      · rw [List.concat_eq_append] at e
        rw [e] at hg hgl
        simp at hgl
        have hl := hg.2 l (by simp)
        have hl1 : l.toNat < nx.length := by omega
        have hE : endsB nx i = decide (nx[l.toNat] = -1) := by
          simp [endsB, e, List.getD_eq_getElem?_getD, hl1]
        have w1 : IntKind.i64.wrap (L.length : Int) = (L.length : Int) := by rw [wrap_i64] <;> omega
        have w2 : ¬ ((L.length : Int) + 1 = 0) := by omega
        have l1 : (L ++ [l])[L.length]? = some l := by simp
        have l2 : nx[l.toNat]? = some nx[l.toNat] := List.getElem?_eq_getElem hl1
        by_cases q : nx[l.toNat] = -1
        · simp [List.replicate, hw, h, h2, hnx, e, w1, w2, l1, l2, hl.1, q]
          refine hN i (i + 1) _ ⟨by omega, fun j hj => ?_⟩ (by omega) (weak_seal 1 (by omega) ?_ ?_)
          · by_cases hji : j = i
            · subst hji; rw [hE]; simp [q]
            · exact hn j (by omega)
          · simp
          · simp [List.replicate, q]
        · have hf : acycB ⟨vs, nx⟩ = false := bad (by simp [hE, q])
          simp [List.replicate, hw, h, h2, hnx, e, w1, w2, l1, l2, hl.1, q, hf]
    · have h2 : nx.length ≤ i := by omega
      simp [List.replicate, h, h2]
      exact range_noHit hi hn (by simp; omega)
@[simp] def ct_isCyclic : Ct := ⟨78, Heap, fun x => szHeap x ≤ 1048576, fun x => [encHeap x], fun x => .bool (cycB x)⟩
set_option maxHeartbeats 2000000 in
theorem ok_isCyclic : ct_isCyclic.Ok Try.prog := by
  rintro ⟨vs, nx⟩ hx
  change vs.length + nx.length ≤ 1048576 at hx
  refine Ok.of_cw fok_impl_Heap_isCyclic (go_ok tab_nil ?_)
  simp [code_impl_Heap_isCyclic, List.replicate]
  refine cw_round (fun (i : Nat) => ⟨slots 20 [(1, .pbox 0 0), (6, .int .i64 nx.length), (7, .int .i64 i)], [.cells [encL 1 encInt vs, encL 1 encInt nx]]⟩)
    (fun i => i ≤ nx.length ∧ ∀ j, j < i → loopB nx j = false) (fun i => nx.length - i) 0 ⟨by omega, by omega⟩ ?_ ?_
  · exact weak_seal 1 (by omega) (by simp) (by simp [List.replicate])
  · rintro N hN i ⟨hi, hn⟩
    have hw : IntKind.i64.wrap ((i : Int) + 1) = ((i + 1 : Nat) : Int) := by rw [wrap_i64] <;> omega
    refine go_ok (tab_cons ok_pFollowed (tab_cons ok_ContainsI tab_nil)) ?_
    by_cases h : i < nx.length
    · have hnx : nx.length ≤ 1048576 := by omega
      have hL : loopB nx i = decide ((i : Int) ∈ followed nx nx[i]) := by simp [loopB, List.getD_eq_getElem?_getD, h]
      by_cases q : (i : Int) ∈ followed nx nx[i]
      · have hf : cycB ⟨vs, nx⟩ = true := by
          unfold cycB
          rw [List.any_eq_true]
          exact ⟨i, by simpa using h, by simp [hL, q]⟩
        simp [List.replicate, hw, h, hnx, q, hf]
      · simp [List.replicate, hw, h, hnx, q]
        refine hN i (i + 1) _ ⟨by omega, fun j hj => ?_⟩ (by omega) (weak_seal 1 (by omega) ?_ ?_)
        · by_cases hji : j = i
          · subst hji; rw [hL]; simp [q]
          · exact hn j (by omega)
        · simp
        · simp [List.replicate, q]
    · have e : i = nx.length := by omega
      subst e
      simp [List.replicate]
      unfold cycB
      rw [Bool.eq_false_iff]
      intro hc
      obtain ⟨j, hj, hp⟩ := List.any_eq_true.1 hc
      rw [hn j (by simpa using hj)] at hp
      cases hp
/-- Are the cells met in their order? -/
def isIds (l : List Int) : Bool := (List.range l.length).all fun j => decide (l.getD j 0 = (j : Int))
theorem ids_bad {l : List Int} {i : Nat} (h : i < l.length) (e : ¬ l[i] = (i : Int)) : isIds l = false := by
  unfold isIds
  rw [List.all_eq_false]
  exact ⟨i, by simpa using h, by simp [List.getD_eq_getElem?_getD, h, e]⟩
theorem ids_all {l : List Int} (h : ∀ j (hj : j < l.length), l[j] = (j : Int)) : isIds l = true := by
  unfold isIds
  rw [List.all_eq_true]
  intro j hj
  have hj : j < l.length := by simpa using hj
  simp [List.getD_eq_getElem?_getD, hj, h j hj]
def isHeapB (vars : Int) (h : Heap) : Bool := decide (1 ≤ vars) && decide (vars ≤ 4) && decide ((h.vars.length : Int) = vars) && decide (h.next.length ≤ 6) && cellsB h && acycB h && isIds (met h) && decide ((met h).length = h.next.length)
@[simp] def ct_sIsHeap : Ct := ⟨15, Int × Heap, fun x => szHeap x.2 ≤ 1048576, fun x => [.int .i64 x.1, encHeap x.2], fun x => .bool (isHeapB x.1 x.2)⟩
set_option maxHeartbeats 4000000 in
theorem ok_sIsHeap : ct_sIsHeap.Ok Try.prog := by
  rintro ⟨v, ⟨vs, nx⟩⟩ hx
  change szHeap ⟨vs, nx⟩ ≤ 1048576 at hx
  have hx' : vs.length + nx.length ≤ 1048576 := hx
  refine Ok.of_cw fok_spec_IsHeap (go_ok (tab_cons ok_l1In (tab_cons ok_l7Cells (tab_cons ok_l7Acyclic (tab_cons ok_l7Order tab_nil)))) ?_)
  simp [code_spec_IsHeap, List.replicate, hx]
  refine ⟨fun a1 a2 => ⟨fun a3 => ⟨fun a4 => ⟨fun a5 => ⟨fun a6 => ?_, fun a6 => ?_⟩, fun a5 => by simp [isHeapB, a5]⟩, fun a4 => by simp [isHeapB]; omega⟩, fun a3 => by simp [isHeapB, a3]⟩, fun a => by simp [isHeapB]; omega⟩
  · simp [isHeapB, a6]
  · have a4' : nx.length ≤ 6 := by omega
    have hb : isHeapB v ⟨vs, nx⟩ = (isIds (met ⟨vs, nx⟩) && decide ((met ⟨vs, nx⟩).length = nx.length)) := by simp [isHeapB, a1, a2, a3, a4', a5, a6]
    rw [hb]
    have hg := metTo_good nx vs [] (goodC_nil _)
    have hM : goodC nx.length (met ⟨vs, nx⟩) := hg
    have hml := goodC_len hM
    generalize met ⟨vs, nx⟩ = M at *
    refine cw_round (fun (i : Nat) => ⟨slots 53 [(3, .pbox 0 0), (5, encL 1 encInt M), (6, .int .i64 i)], [.cells [encL 1 encInt vs, encL 1 encInt nx]]⟩)
      (fun i => i ≤ M.length ∧ ∀ j (hj : j < M.length), j < i → M[j] = (j : Int)) (fun i => M.length - i) 0 ⟨by omega, by omega⟩ ?_ ?_
    · exact weak_seal 1 (by omega) (by simp) (by simp [List.replicate])
    · rintro N hN i ⟨hi, hn⟩
      have hw : IntKind.i64.wrap ((i : Int) + 1) = ((i + 1 : Nat) : Int) := by rw [wrap_i64] <;> omega
      refine go_ok tab_nil ?_
      by_cases h : i < M.length
      · have h2 : ¬ M.length ≤ i := by omega
        by_cases q : M[i] = (i : Int)
        · simp [List.replicate, hw, h, h2, q]
          refine hN i (i + 1) _ ⟨by omega, fun j hj hji => ?_⟩ (by omega) (weak_seal 1 (by omega) ?_ ?_)
          · by_cases e : j = i
            · subst e; exact q
            · exact hn j hj (by omega)
          · simp
          · simp [List.replicate, q]
        · simp [List.replicate, hw, h, h2, q, ids_bad h q]
      · have e : i = M.length := by omega
        subst e
        have hids := ids_all fun j hj => hn j hj hj
        simp [List.replicate, hids]
        omega
@[simp] def ct_pIsHeap : Ct := ⟨36, Int × Heap, fun x => szHeap x.2 ≤ 1048576, fun x => [.int .i64 x.1, encHeap x.2], fun x => .bool (isHeapB x.1 x.2)⟩
set_option maxHeartbeats 4000000 in
theorem ok_pIsHeap : ct_pIsHeap.Ok Try.prog := by
  rintro ⟨v, ⟨vs, nx⟩⟩ hx
  change szHeap ⟨vs, nx⟩ ≤ 1048576 at hx
  have hx' : vs.length + nx.length ≤ 1048576 := hx
  refine Ok.of_cw fok_impl_IsHeap (go_ok (tab_cons ok_within (tab_cons ok_areCells (tab_cons ok_isCyclic (tab_cons ok_met tab_nil)))) ?_)
  simp [code_impl_IsHeap, List.replicate, hx]
  refine ⟨fun a1 a2 => ⟨fun a3 => ⟨fun a4 => ⟨fun a5 => ⟨fun a6 => ?_, fun a6 => ?_⟩, fun a5 => by simp [isHeapB, a5]⟩, fun a4 => by simp [isHeapB]; omega⟩, fun a3 => by simp [isHeapB, a3]⟩, fun a => by simp [isHeapB]; omega⟩
  · have hac : acycB ⟨vs, nx⟩ = false := by
      have := acyclic_eq (cells_closed a5)
      unfold acycB
      rw [this]
      unfold cycB at a6
      simp only at a6
      simp [a6]
    simp [isHeapB, hac]
  · have a4' : nx.length ≤ 6 := by omega
    have hac : acycB ⟨vs, nx⟩ = true := by
      have := acyclic_eq (cells_closed a5)
      unfold acycB
      rw [this]
      unfold cycB at a6
      simp only at a6
      rw [a6]; rfl
    have hb : isHeapB v ⟨vs, nx⟩ = (isIds (met ⟨vs, nx⟩) && decide ((met ⟨vs, nx⟩).length = nx.length)) := by simp [isHeapB, a1, a2, a3, a4', a5, hac]
    rw [hb]
    have hg := metTo_good nx vs [] (goodC_nil _)
    have hM : goodC nx.length (met ⟨vs, nx⟩) := hg
    have hml := goodC_len hM
    generalize met ⟨vs, nx⟩ = M at *
    refine cw_round (fun (i : Nat) => ⟨slots 52 [(3, .pbox 0 0), (5, encL 1 encInt M), (35, encL 1 encInt M), (36, .int .i64 M.length), (37, .int .i64 i)], [.cells [encL 1 encInt vs, encL 1 encInt nx]]⟩)
      (fun i => i ≤ M.length ∧ ∀ j (hj : j < M.length), j < i → M[j] = (j : Int)) (fun i => M.length - i) 0 ⟨by omega, by omega⟩ ?_ ?_
    · exact weak_seal 1 (by omega) (by simp) (by simp [List.replicate])
    · rintro N hN i ⟨hi, hn⟩
      have hw : IntKind.i64.wrap ((i : Int) + 1) = ((i + 1 : Nat) : Int) := by rw [wrap_i64] <;> omega
      refine go_ok tab_nil ?_
      by_cases h : i < M.length
      · have h2 : ¬ M.length ≤ i := by omega
        by_cases q : M[i] = (i : Int)
        · simp [List.replicate, hw, h, h2, q]
          refine hN i (i + 1) _ ⟨by omega, fun j hj hji => ?_⟩ (by omega) (weak_seal 1 (by omega) ?_ ?_)
          · by_cases e : j = i
            · subst e; exact q
            · exact hn j hj (by omega)
          · simp
          · simp [List.replicate, q]
        · simp [List.replicate, hw, h, h2, q, ids_bad h q]
      · have e : i = M.length := by omega
        subst e
        have hids := ids_all fun j hj => hn j hj hj
        simp [List.replicate, hids]
        omega
end Go.Vm
