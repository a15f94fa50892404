/- Describes and SetDescribes of both. No condition. -/
import Derived.Test.YtbncpckkmaaaiaaTSQ
import Derived.Test.YtbncpckkmaaaiaaTCV
set_option linter.unusedSimpArgs false
set_option linter.unusedVariables false
namespace Go.Vm
open Go.Proofs
def code_impl_Describes : F := ⟨9, [.tmp 4],
 .seq (.reg [⟨some 2, .box (.t 0), none⟩,
    ⟨some 3, .box (.t 1), none⟩,
    ⟨some 4, .mov (.k (.bool false)), none⟩])
 (.seq (.dreg [false, false, false, true, true] [⟨some 5, .load 2 true (.t 3), none⟩,
     ⟨some 6, .call 30 [(.t 5)], none⟩,
     ⟨some 7, .load 2 true (.t 2), none⟩,
     ⟨some 8, .call 21 [(.t 6), (.t 7)], none⟩,
     ⟨some 4, .mov (.t 8), none⟩])
  (.ret))⟩
theorem fok_impl_Describes : FOk Try.prog 43 code_impl_Describes := fok Try.func43 (by kernel_rfl)
def code_spec_Describes : F := ⟨9, [.tmp 4],
 .seq (.reg [⟨some 2, .box (.t 0), none⟩,
    ⟨some 3, .box (.t 1), none⟩,
    ⟨some 4, .mov (.k (.bool false)), none⟩])
 (.seq (.dreg [false, false, false, true, true] [⟨some 5, .load 2 true (.t 3), none⟩,
     ⟨some 6, .call 28 [(.t 5)], none⟩,
     ⟨some 7, .load 2 true (.t 2), none⟩,
     ⟨some 8, .call 20 [(.t 6), (.t 7)], none⟩,
     ⟨some 4, .mov (.t 8), none⟩])
  (.ret))⟩
theorem fok_spec_Describes : FOk Try.prog 42 code_spec_Describes := fok Try.func42 (by kernel_rfl)
def code_impl_SetDescribes : F := ⟨9, [.tmp 4],
 .seq (.reg [⟨some 3, .box (.t 1), none⟩,
    ⟨some 4, .mov (.k (.bool false)), none⟩])
 (.seq (.reg [⟨some 5, .mov (.t 0), none⟩,
     ⟨some 6, .load 2 true (.t 3), none⟩,
     ⟨some 7, .call 30 [(.t 6)], none⟩,
     ⟨some 8, .call 40 [(.t 5), (.t 7)], none⟩,
     ⟨some 4, .mov (.t 8), none⟩])
  (.ret))⟩
theorem fok_impl_SetDescribes : FOk Try.prog 45 code_impl_SetDescribes := fok Try.func45 (by kernel_rfl)
def code_spec_SetDescribes : F := ⟨18, [.tmp 4],
 .seq (.reg [⟨some 3, .box (.t 1), none⟩,
    ⟨some 4, .mov (.k (.bool false)), none⟩])
 (.seq (.seq (.reg [⟨some 5, .mov (.k (.int .i64 0)), none⟩])
   (.block 0 (.loop (.seq (.seq (.reg [⟨some 6, .mov (.t 5), none⟩,
          ⟨some 7, .mov (.t 0), none⟩,
          ⟨some 8, .len (.t 7), none⟩,
          ⟨some 9, .bin .lss (.t 6) (.t 8), none⟩])
       (.cond (.t 9)
        (.skip)
        (.exit 0)))
      (.seq (.block 1 (.seq (.dreg [false, false, false, false, false, true] [⟨some 12, .mov (.t 0), none⟩,
            ⟨some 13, .mov (.t 5), none⟩,
            ⟨some 14, .iaddr 2 (.t 12) (.t 13), none⟩,
            ⟨some 15, .load 2 true (.t 14), none⟩,
            ⟨some 16, .load 2 true (.t 3), none⟩,
            ⟨some 17, .call 42 [(.t 15), (.t 16)], none⟩])
         (.cond (.t 17)
          (.seq (.reg [⟨some 4, .mov (.k (.bool true)), none⟩])
           (.ret))
          (.skip))))
       (.reg [⟨some 10, .mov (.t 5), none⟩,
          ⟨some 11, .bin .add (.t 10) (.k (.int .i64 1)), none⟩,
          ⟨some 5, .mov (.t 11), none⟩]))))))
  (.seq (.reg [⟨some 4, .mov (.k (.bool false)), none⟩])
   (.ret)))⟩
theorem fok_spec_SetDescribes : FOk Try.prog 44 code_spec_SetDescribes := fok Try.func44 (by kernel_rfl)
def descB (t : Strc) (h : Heap) : Bool := (embed (strcOf h) t).isSome
theorem sum_le {α : Type} {f : α → Nat} {c : Nat} : ∀ {l : List α}, (∀ x ∈ l, f x ≤ c) → (l.map f).sum ≤ l.length * c
  | [], _ => by simp
  | a :: l, h => by
    have h1 := h a (by simp)
    have h2 := sum_le (l := l) fun x hx => h x (by simp [hx])
    simp only [List.map_cons, List.sum_cons, List.length_cons, Nat.add_mul]
    omega
theorem strcOf_sz (h : Heap) : szStrc (strcOf h) ≤ 1048576 := by
  unfold strcOf
  split
  · rename_i hf
    unfold fitS at hf
    simp only [Bool.and_eq_true, decide_eq_true_eq] at hf
    obtain ⟨⟨hc, h1⟩, h2, h3⟩ := hf
    have e1 : ((nodesT h.vars h.next h.next.length).map szNode).sum ≤ (nodesT h.vars h.next h.next.length).length * 8 := by
      apply sum_le
      intro x hx
      simp only [nodesT, List.mem_map] at hx
      obtain ⟨c, _, rfl⟩ := hx
      simp [szNode, nodeT]; omega
    rw [nodesT_len] at e1
    have e2 : (nextsT h.next h.next.length).length ≤ 100 := by rw [nextsT_len]; exact Nat.mul_le_mul h1 h1
    have e3 : (nodesT h.vars h.next h.next.length).length = h.next.length := nodesT_len _ _ _
    simp only [szStrc, szNodes]
    omega
  · simp [szStrc, szNodes]
@[simp] def ct_sDescribes : Ct := ⟨42, Strc × Heap, fun x => szStrc x.1 ≤ 1048576 ∧ szHeap x.2 ≤ 1048576, fun x => [encStrc x.1, encHeap x.2], fun x => .bool (descB x.1 x.2)⟩
set_option maxHeartbeats 1000000 in
theorem ok_sDescribes : ct_sDescribes.Ok Try.prog := by
  rintro ⟨t, h⟩ ⟨ht, hh⟩
  change szStrc t ≤ 1048576 at ht
  change szHeap h ≤ 1048576 at hh
  have hs := strcOf_sz h
  refine Ok.of_cw fok_spec_Describes (go_ok (tab_cons ok_sStructureOf (tab_cons ok_sIsEmbedded tab_nil)) ?_)
  simp [code_spec_Describes, List.replicate, ht, hh, hs, descB]
@[simp] def ct_pDescribes : Ct := ⟨43, Strc × Heap, fun x => szStrc x.1 ≤ 1048576 ∧ szHeap x.2 ≤ 1048576, fun x => [encStrc x.1, encHeap x.2], fun x => .bool (descB x.1 x.2)⟩
set_option maxHeartbeats 1000000 in
theorem ok_pDescribes : ct_pDescribes.Ok Try.prog := by
  rintro ⟨t, h⟩ ⟨ht, hh⟩
  change szStrc t ≤ 1048576 at ht
  change szHeap h ≤ 1048576 at hh
  have hs := strcOf_sz h
  refine Ok.of_cw fok_impl_Describes (go_ok (tab_cons ok_pStructureOf (tab_cons ok_pIsEmbedded tab_nil)) ?_)
  simp [code_impl_Describes, List.replicate, ht, hh, hs, descB]
@[simp] def ct_pSetDescribes : Ct := ⟨45, List Strc × Heap, fun x => szStrcs x.1 ≤ 1048576 ∧ szHeap x.2 ≤ 1048576, fun x => [encL 2 encStrc x.1, encHeap x.2], fun x => .bool (coversB x.1 (strcOf x.2))⟩
set_option maxHeartbeats 1000000 in
theorem ok_pSetDescribes : ct_pSetDescribes.Ok Try.prog := by
  rintro ⟨set, h⟩ ⟨ht, hh⟩
  change szStrcs set ≤ 1048576 at ht
  change szHeap h ≤ 1048576 at hh
  have hs := strcOf_sz h
  refine Ok.of_cw fok_impl_SetDescribes (go_ok (tab_cons ok_pStructureOf (tab_cons ok_pCovers tab_nil)) ?_)
  simp [code_impl_SetDescribes, List.replicate, ht, hh, hs]
@[simp] def ct_sSetDescribes : Ct := ⟨44, List Strc × Heap, fun x => szStrcs x.1 ≤ 1048576 ∧ szHeap x.2 ≤ 1048576, fun x => [encL 2 encStrc x.1, encHeap x.2], fun x => .bool (coversB x.1 (strcOf x.2))⟩
set_option maxHeartbeats 1000000 in
theorem ok_sSetDescribes : ct_sSetDescribes.Ok Try.prog := by
  rintro ⟨set, h⟩ ⟨hset, hh⟩
  change szStrcs set ≤ 1048576 at hset
  change szHeap h ≤ 1048576 at hh
  have hsl := strcs_len set
  refine Ok.of_cw fok_spec_SetDescribes (go_ok tab_nil ?_)
  simp [code_spec_SetDescribes, List.replicate]
  refine cw_round (fun (k : Nat) => ⟨slots 18 [(0, encL 2 encStrc set), (3, .pbox 0 0), (5, .int .i64 k)], [.cells [encL 1 encInt h.vars, encL 1 encInt h.next]]⟩)
    (fun k => k ≤ set.length ∧ noHit (fun t => (embed (strcOf h) t).isSome) set k) (fun k => set.length - k) 0 ⟨by omega, noHit_zero⟩ ?_ ?_
  · exact weak_seal 1 (by omega) (by simp) (by simp [List.replicate])
  · rintro N hN k ⟨hk, hn⟩
    have hw : IntKind.i64.wrap ((k : Int) + 1) = ((k + 1 : Nat) : Int) := by rw [wrap_i64] <;> omega
    refine go_ok (tab_cons ok_sDescribes tab_nil) ?_
    by_cases g : k < set.length
    · have g2 : ¬ set.length ≤ k := by omega
      have hm := strcs_mem (List.getElem_mem g)
      have hm' : szStrc set[k] ≤ 1048576 := by omega
      cases e : embed (strcOf h) set[k] with
      | none =>
        have e' : descB set[k] h = false := by simp [descB, e]
        simp [List.replicate, hw, g, g2, hh, hm', e']
        refine hN _ (k + 1) _ ⟨by omega, noHit_succ hn g (by simp [e])⟩ (by omega) (weak_seal 1 (by omega) ?_ ?_)
        · simp
        · simp [List.replicate]
      | some out =>
        have e' : descB set[k] h = true := by simp [descB, e]
        have hf : coversB set (strcOf h) = true := any_hit (p := fun t => (embed (strcOf h) t).isSome) g (by simp [e])
        simp [List.replicate, hw, g, g2, hh, hm', e', hf]
    · have hf : coversB set (strcOf h) = false := any_none hn (by omega)
      have g2 : set.length ≤ k := by omega
      simp [List.replicate, g, g2, hf]
def code_laws_FnExactDescribes : F := ⟨45, [.tmp 4],
 .seq (.reg [⟨some 2, .box (.t 0), none⟩,
    ⟨some 3, .box (.t 1), none⟩,
    ⟨some 4, .mov (.k (.bool false)), none⟩])
 (.seq (.reg [⟨some 5, .mov (.k (.int .i64 1048576)), none⟩])
  (.seq (.reg [⟨some 10, .load 2 true (.t 2), none⟩,
      ⟨some 11, .mov (.t 5), none⟩,
      ⟨some 12, .call 13 [(.t 10), (.t 11)], none⟩,
      ⟨some 5, .mov (.t 12), none⟩])
   (.seq (.seq (.reg [⟨some 13, .mov (.t 5), none⟩,
        ⟨some 14, .bin .lss (.t 13) (.k (.int .i64 0)), none⟩])
     (.cond (.t 14)
      (.seq (.reg [⟨some 4, .mov (.k (.bool true)), none⟩])
       (.ret))
      (.skip)))
    (.seq (.reg [⟨some 15, .load 2 true (.t 3), none⟩,
        ⟨some 16, .mov (.t 5), none⟩,
        ⟨some 17, .call 27 [(.t 15), (.t 16)], none⟩,
        ⟨some 5, .mov (.t 17), none⟩])
     (.seq (.seq (.reg [⟨some 18, .mov (.t 5), none⟩,
          ⟨some 19, .bin .lss (.t 18) (.k (.int .i64 0)), none⟩])
       (.cond (.t 19)
        (.seq (.reg [⟨some 4, .mov (.k (.bool true)), none⟩])
         (.ret))
        (.skip)))
      (.seq (.dreg [false, false, false, true, true, true] [⟨some 20, .load 2 true (.t 2), none⟩,
          ⟨some 21, .call 15 [(.t 20)], none⟩,
          ⟨some 22, .load 2 true (.t 3), none⟩,
          ⟨some 23, .call 29 [(.t 22)], none⟩,
          ⟨some 24, .call 42 [(.t 21), (.t 23)], none⟩,
          ⟨some 6, .mov (.t 24), none⟩])
       (.seq (.reg [⟨some 25, .load 2 true (.t 2), none⟩,
           ⟨some 26, .call 15 [(.t 25)], none⟩,
           ⟨some 7, .alloc [(.sl .nil 0 []), (.sl .nil 0 [])], none⟩,
           ⟨none, .store 2 (.t 7) (.t 26), none⟩])
        (.seq (.reg [⟨some 27, .load 2 true (.t 3), none⟩,
            ⟨some 28, .call 29 [(.t 27)], none⟩,
            ⟨some 8, .alloc [(.sl .nil 0 []), (.sl .nil 0 [])], none⟩,
            ⟨none, .store 2 (.t 8) (.t 28), none⟩])
         (.seq (.reg [⟨some 29, .load 2 true (.t 7), none⟩,
             ⟨some 30, .load 2 true (.t 8), none⟩,
             ⟨some 31, .call 43 [(.t 29), (.t 30)], none⟩,
             ⟨some 9, .mov (.t 31), none⟩])
          (.seq (.seq (.reg [⟨some 32, .mov (.t 9), none⟩,
               ⟨some 33, .mov (.t 6), none⟩,
               ⟨some 34, .beq true (.t 32) (.t 33), none⟩])
            (.cond (.t 34)
             (.seq (.reg [⟨some 4, .mov (.k (.bool false)), none⟩])
              (.ret))
             (.skip)))
           (.seq (.seq (.dreg [false, false, false, true, true] [⟨some 35, .load 2 true (.t 7), none⟩,
                ⟨some 36, .load 2 true (.t 2), none⟩,
                ⟨some 37, .call 15 [(.t 36)], none⟩,
                ⟨some 38, .call 18 [(.t 35), (.t 37)], none⟩,
                ⟨some 39, .not (.t 38), none⟩])
             (.cond (.t 39)
              (.seq (.reg [⟨some 4, .mov (.k (.bool false)), none⟩])
               (.ret))
              (.skip)))
            (.seq (.seq (.dreg [false, false, false, true, true] [⟨some 40, .load 2 true (.t 8), none⟩,
                 ⟨some 41, .load 2 true (.t 3), none⟩,
                 ⟨some 42, .call 29 [(.t 41)], none⟩,
                 ⟨some 43, .call 31 [(.t 40), (.t 42)], none⟩,
                 ⟨some 44, .not (.t 43), none⟩])
              (.cond (.t 44)
               (.seq (.reg [⟨some 4, .mov (.k (.bool false)), none⟩])
                (.ret))
               (.skip)))
             (.seq (.reg [⟨some 4, .mov (.k (.bool true)), none⟩])
              (.ret))))))))))))))⟩
theorem fok_laws_FnExactDescribes : FOk Try.prog 9 code_laws_FnExactDescribes := fok Try.func9 (by kernel_rfl)
set_option maxHeartbeats 2000000 in
set_option maxRecDepth 100000 in
theorem ok_lawDescribes (x : Strc) (y : Heap) : Ok Try.prog 9 [encStrc x, encHeap y] (.bool true) := by
  by_cases h1 : (szStrc x : Int) ≤ 1048576
  case neg =>
    refine Ok.of_cw fok_laws_FnExactDescribes (go_ok (tab_cons ok_szStrc tab_nil) ?_)
    simp [code_laws_FnExactDescribes, List.replicate, left_neg (by omega : (1048576:Int) < szStrc x)]
  have l1 := left_ge h1
  by_cases h2 : (szHeap y : Int) ≤ 1048576 - szStrc x
  case neg =>
    refine Ok.of_cw fok_laws_FnExactDescribes (go_ok (tab_cons ok_szStrc (tab_cons ok_szHeap tab_nil)) ?_)
    simp [code_laws_FnExactDescribes, List.replicate, l1, left_neg (by omega : (1048576:Int) - szStrc x < szHeap y)]
    omega
  have l2 := left_ge h2
  have hx : szStrc x ≤ 1048576 := by omega
  have hy : szHeap y ≤ 1048576 := by omega
  refine Ok.of_cw fok_laws_FnExactDescribes (go_ok (tab_cons ok_szStrc (tab_cons ok_szHeap (tab_cons ok_toStrc (tab_cons ok_toHeap (tab_cons ok_sDescribes (tab_cons ok_pDescribes (tab_cons ok_eqStrc (tab_cons ok_eqHeap tab_nil)))))))) ?_)
  simp (maxSteps := 1000000) [code_laws_FnExactDescribes, List.replicate, l1, l2, hx, hy]
  omega
def code_laws_FnExactSetDescribes : F := ⟨45, [.tmp 4],
 .seq (.reg [⟨some 3, .box (.t 1), none⟩,
    ⟨some 4, .mov (.k (.bool false)), none⟩])
 (.seq (.reg [⟨some 5, .mov (.k (.int .i64 1048576)), none⟩])
  (.seq (.reg [⟨some 10, .mov (.t 0), none⟩,
      ⟨some 11, .mov (.t 5), none⟩,
      ⟨some 12, .call 37 [(.t 10), (.t 11)], none⟩,
      ⟨some 5, .mov (.t 12), none⟩])
   (.seq (.seq (.reg [⟨some 13, .mov (.t 5), none⟩,
        ⟨some 14, .bin .lss (.t 13) (.k (.int .i64 0)), none⟩])
     (.cond (.t 14)
      (.seq (.reg [⟨some 4, .mov (.k (.bool true)), none⟩])
       (.ret))
      (.skip)))
    (.seq (.reg [⟨some 15, .load 2 true (.t 3), none⟩,
        ⟨some 16, .mov (.t 5), none⟩,
        ⟨some 17, .call 27 [(.t 15), (.t 16)], none⟩,
        ⟨some 5, .mov (.t 17), none⟩])
     (.seq (.seq (.reg [⟨some 18, .mov (.t 5), none⟩,
          ⟨some 19, .bin .lss (.t 18) (.k (.int .i64 0)), none⟩])
       (.cond (.t 19)
        (.seq (.reg [⟨some 4, .mov (.k (.bool true)), none⟩])
         (.ret))
        (.skip)))
      (.seq (.dreg [false, false, false, true, true, true] [⟨some 20, .mov (.t 0), none⟩,
          ⟨some 21, .call 39 [(.t 20)], none⟩,
          ⟨some 22, .load 2 true (.t 3), none⟩,
          ⟨some 23, .call 29 [(.t 22)], none⟩,
          ⟨some 24, .call 44 [(.t 21), (.t 23)], none⟩,
          ⟨some 6, .mov (.t 24), none⟩])
       (.seq (.reg [⟨some 25, .mov (.t 0), none⟩,
           ⟨some 26, .call 39 [(.t 25)], none⟩,
           ⟨some 7, .mov (.t 26), none⟩])
        (.seq (.reg [⟨some 27, .load 2 true (.t 3), none⟩,
            ⟨some 28, .call 29 [(.t 27)], none⟩,
            ⟨some 8, .alloc [(.sl .nil 0 []), (.sl .nil 0 [])], none⟩,
            ⟨none, .store 2 (.t 8) (.t 28), none⟩])
         (.seq (.reg [⟨some 29, .mov (.t 7), none⟩,
             ⟨some 30, .load 2 true (.t 8), none⟩,
             ⟨some 31, .call 45 [(.t 29), (.t 30)], none⟩,
             ⟨some 9, .mov (.t 31), none⟩])
          (.seq (.seq (.reg [⟨some 32, .mov (.t 9), none⟩,
               ⟨some 33, .mov (.t 6), none⟩,
               ⟨some 34, .beq true (.t 32) (.t 33), none⟩])
            (.cond (.t 34)
             (.seq (.reg [⟨some 4, .mov (.k (.bool false)), none⟩])
              (.ret))
             (.skip)))
           (.seq (.seq (.reg [⟨some 35, .mov (.t 7), none⟩,
                ⟨some 36, .mov (.t 0), none⟩,
                ⟨some 37, .call 39 [(.t 36)], none⟩,
                ⟨some 38, .call 41 [(.t 35), (.t 37)], none⟩,
                ⟨some 39, .not (.t 38), none⟩])
             (.cond (.t 39)
              (.seq (.reg [⟨some 4, .mov (.k (.bool false)), none⟩])
               (.ret))
              (.skip)))
            (.seq (.seq (.dreg [false, false, false, true, true] [⟨some 40, .load 2 true (.t 8), none⟩,
                 ⟨some 41, .load 2 true (.t 3), none⟩,
                 ⟨some 42, .call 29 [(.t 41)], none⟩,
                 ⟨some 43, .call 31 [(.t 40), (.t 42)], none⟩,
                 ⟨some 44, .not (.t 43), none⟩])
              (.cond (.t 44)
               (.seq (.reg [⟨some 4, .mov (.k (.bool false)), none⟩])
                (.ret))
               (.skip)))
             (.seq (.reg [⟨some 4, .mov (.k (.bool true)), none⟩])
              (.ret))))))))))))))⟩
theorem fok_laws_FnExactSetDescribes : FOk Try.prog 10 code_laws_FnExactSetDescribes := fok Try.func10 (by kernel_rfl)
set_option maxHeartbeats 2000000 in
set_option maxRecDepth 100000 in
theorem ok_lawSetDescribes (x : List Strc) (y : Heap) : Ok Try.prog 10 [encL 2 encStrc x, encHeap y] (.bool true) := by
  by_cases h1 : (szStrcs x : Int) ≤ 1048576
  case neg =>
    refine Ok.of_cw fok_laws_FnExactSetDescribes (go_ok (tab_cons ok_szStrcs tab_nil) ?_)
    simp [code_laws_FnExactSetDescribes, List.replicate, left_neg (by omega : (1048576:Int) < szStrcs x)]
  have l1 := left_ge h1
  by_cases h2 : (szHeap y : Int) ≤ 1048576 - szStrcs x
  case neg =>
    refine Ok.of_cw fok_laws_FnExactSetDescribes (go_ok (tab_cons ok_szStrcs (tab_cons ok_szHeap tab_nil)) ?_)
    simp [code_laws_FnExactSetDescribes, List.replicate, l1, left_neg (by omega : (1048576:Int) - szStrcs x < szHeap y)]
    omega
  have l2 := left_ge h2
  have hx : szStrcs x ≤ 1048576 := by omega
  have hy : szHeap y ≤ 1048576 := by omega
  refine Ok.of_cw fok_laws_FnExactSetDescribes (go_ok (tab_cons ok_szStrcs (tab_cons ok_szHeap (tab_cons ok_toStrcs (tab_cons ok_toHeap (tab_cons ok_sSetDescribes (tab_cons ok_pSetDescribes (tab_cons ok_eqStrcs (tab_cons ok_eqHeap tab_nil)))))))) ?_)
  simp (maxSteps := 1000000) [code_laws_FnExactSetDescribes, List.replicate, l1, l2, hx, hy]
  omega
end Go.Vm
