/- Covers of both. No condition. -/
import Derived.Test.YtbncpckkmaaaiaaTFG
import Derived.Test.YtbncpckkmaaaiaaTIXS
set_option linter.unusedSimpArgs false
set_option linter.unusedVariables false
namespace Go.Vm
open Go.Proofs
def code_impl_Covers_1 : F := ⟨7, [.tmp 3],
 .seq (.reg [⟨some 2, .box (.t 0), none⟩,
    ⟨some 3, .mov (.k (.bool false)), none⟩])
 (.seq (.reg [⟨some 4, .load 2 true (.t 1), none⟩,
     ⟨some 5, .load 2 true (.t 2), none⟩,
     ⟨some 6, .call 21 [(.t 4), (.t 5)], none⟩,
     ⟨some 3, .mov (.t 6), none⟩])
  (.ret))⟩
theorem fok_impl_Covers_1 : FOk Try.prog 96 code_impl_Covers_1 := fok Try.func96 (by kernel_rfl)
def code_impl_Covers : F := ⟨8, [.tmp 4],
 .seq (.reg [⟨some 3, .box (.t 1), none⟩,
    ⟨some 4, .mov (.k (.bool false)), none⟩])
 (.seq (.reg [⟨some 5, .mov (.t 0), none⟩,
     ⟨some 6, .mkfn 96 [(.t 3)], none⟩,
     ⟨some 7, .call 95 [(.t 5), (.t 6)], none⟩,
     ⟨some 4, .mov (.t 7), none⟩])
  (.ret))⟩
theorem fok_impl_Covers : FOk Try.prog 40 code_impl_Covers := fok Try.func40 (by kernel_rfl)
def code_spec_Covers : F := ⟨18, [.tmp 4],
 .seq (.reg [⟨some 3, .box (.t 1), none⟩,
    ⟨some 4, .mov (.k (.bool false)), none⟩])
 (.seq (.seq (.reg [⟨some 5, .mov (.k (.int .i64 0)), none⟩])
   (.block 0 (.loop (.seq (.seq (.reg [⟨some 6, .mov (.t 5), none⟩,
          ⟨some 7, .mov (.t 0), none⟩,
          ⟨some 8, .len (.t 7), none⟩,
          ⟨some 9, .bin .lss (.t 6) (.t 8), none⟩])
       (.cond (.t 9)
        (.skip)
        (.exit 0)))
      (.seq (.block 1 (.seq (.dreg [false, false, false, false, false, true] [⟨some 12, .load 2 true (.t 3), none⟩,
            ⟨some 13, .mov (.t 0), none⟩,
            ⟨some 14, .mov (.t 5), none⟩,
            ⟨some 15, .iaddr 2 (.t 13) (.t 14), none⟩,
            ⟨some 16, .load 2 true (.t 15), none⟩,
            ⟨some 17, .call 20 [(.t 12), (.t 16)], none⟩])
         (.cond (.t 17)
          (.seq (.reg [⟨some 4, .mov (.k (.bool true)), none⟩])
           (.ret))
          (.skip))))
       (.reg [⟨some 10, .mov (.t 5), none⟩,
          ⟨some 11, .bin .add (.t 10) (.k (.int .i64 1)), none⟩,
          ⟨some 5, .mov (.t 11), none⟩]))))))
  (.seq (.reg [⟨some 4, .mov (.k (.bool false)), none⟩])
   (.ret)))⟩
theorem fok_spec_Covers : FOk Try.prog 38 code_spec_Covers := fok Try.func38 (by kernel_rfl)
def coversB (set : List Strc) (s : Strc) : Bool := set.any fun t => (embed s t).isSome
theorem strcs_mem {set : List Strc} {t : Strc} (h : t ∈ set) : szStrc t ≤ szStrcs set := by
  have h1 := sum_mem szStrc h
  unfold szStrcs
  omega
theorem strcs_len (set : List Strc) : set.length ≤ szStrcs set := by unfold szStrcs; omega
@[simp] def ct_Covers1 : Ct := ⟨96, Strc × Strc, fun x => szStrc x.1 ≤ 1048576 ∧ szStrc x.2 ≤ 1048576, fun x => [encStrc x.1, .pro [encL 4 encNode x.2.nodes, encL 1 encInt x.2.next]], fun x => .bool (embed x.2 x.1).isSome⟩
theorem ok_Covers1 : ct_Covers1.Ok Try.prog := by
  rintro ⟨t, s⟩ ⟨ht, hs⟩
  change szStrc t ≤ 1048576 at ht
  change szStrc s ≤ 1048576 at hs
  refine Ok.of_cw fok_impl_Covers_1 (go_ok (tab_cons ok_pIsEmbedded tab_nil) ?_)
  simp [code_impl_Covers_1, List.replicate, hs, ht]
@[simp] def ct_pCovers : Ct := ⟨40, List Strc × Strc, fun x => szStrcs x.1 ≤ 1048576 ∧ szStrc x.2 ≤ 1048576, fun x => [encL 2 encStrc x.1, encStrc x.2], fun x => .bool (coversB x.1 x.2)⟩
theorem ok_pCovers : ct_pCovers.Ok Try.prog := by
  rintro ⟨set, s⟩ ⟨hset, hs⟩
  change szStrcs set ≤ 1048576 at hset
  change szStrc s ≤ 1048576 at hs
  have hc : callable Try.prog 96 = true := by kernel_rfl
  refine Ok.of_cw fok_impl_Covers (go_ok (tab_cons ok_ContainsFuncS tab_nil) ?_)
  simp [code_impl_Covers, List.replicate, capOk, hc, AV.isFn]
  exact ⟨fun t => (embed s t).isSome, fun a ha => ok_Covers1 (a, s) ⟨by have := strcs_mem ha; change szStrc a ≤ 1048576; omega, hs⟩, rfl⟩
@[simp] def ct_sCovers : Ct := ⟨38, List Strc × Strc, fun x => szStrcs x.1 ≤ 1048576 ∧ szStrc x.2 ≤ 1048576, fun x => [encL 2 encStrc x.1, encStrc x.2], fun x => .bool (coversB x.1 x.2)⟩
set_option maxHeartbeats 1000000 in
theorem ok_sCovers : ct_sCovers.Ok Try.prog := by
  rintro ⟨set, s⟩ ⟨hset, hs⟩
  change szStrcs set ≤ 1048576 at hset
  change szStrc s ≤ 1048576 at hs
  have hsl := strcs_len set
  refine Ok.of_cw fok_spec_Covers (go_ok tab_nil ?_)
  simp [code_spec_Covers, List.replicate]
  refine cw_round (fun (k : Nat) => ⟨slots 18 [(0, encL 2 encStrc set), (3, .pbox 0 0), (5, .int .i64 k)], [.cells [encL 4 encNode s.nodes, encL 1 encInt s.next]]⟩)
    (fun k => k ≤ set.length ∧ noHit (fun t => (embed s t).isSome) set k) (fun k => set.length - k) 0 ⟨by omega, noHit_zero⟩ ?_ ?_
  · exact weak_seal 1 (by omega) (by simp) (by simp [List.replicate])
  · rintro N hN k ⟨hk, hn⟩
    have hw : IntKind.i64.wrap ((k : Int) + 1) = ((k + 1 : Nat) : Int) := by rw [wrap_i64] <;> omega
    refine go_ok (tab_cons ok_sIsEmbedded tab_nil) ?_
    by_cases g : k < set.length
    · have g2 : ¬ set.length ≤ k := by omega
      have hm := strcs_mem (List.getElem_mem g)
      have hm' : szStrc set[k] ≤ 1048576 := by omega
      cases e : embed s set[k] with
      | none =>
        simp [List.replicate, hw, g, g2, hs, hm', e]
        refine hN _ (k + 1) _ ⟨by omega, noHit_succ hn g (by simp [e])⟩ (by omega) (weak_seal 1 (by omega) ?_ ?_)
        · simp
        · simp [List.replicate]
      | some out =>
        have hf : coversB set s = true := any_hit (p := fun t => (embed s t).isSome) g (by simp [e])
        simp [List.replicate, hw, g, g2, hs, hm', e, hf]
    · have hf : coversB set s = false := any_none hn (by omega)
      have g2 : set.length ≤ k := by omega
      simp [List.replicate, g, g2, hf]
def code_laws_FnExactCovers : F := ⟨45, [.tmp 4],
 .seq (.reg [⟨some 3, .box (.t 1), none⟩,
    ⟨some 4, .mov (.k (.bool false)), none⟩])
 (.seq (.reg [⟨some 5, .mov (.k (.int .i64 1048576)), none⟩])
  (.seq (.reg [⟨some 10, .mov (.t 0), none⟩,
      ⟨some 11, .mov (.t 5), none⟩,
      ⟨some 12, .call 37 [(.t 10), (.t 11)], none⟩,
      ⟨some 5, .mov (.t 12), none⟩])
   (.seq (.seq (.reg [⟨some 13, .mov (.t 5), none⟩,
        ⟨some 14, .bin .lss (.t 13) (.k (.int .i64 0)), none⟩])
     (.cond (.t 14)
      (.seq (.reg [⟨some 4, .mov (.k (.bool true)), none⟩])
       (.ret))
      (.skip)))
    (.seq (.reg [⟨some 15, .load 2 true (.t 3), none⟩,
        ⟨some 16, .mov (.t 5), none⟩,
        ⟨some 17, .call 13 [(.t 15), (.t 16)], none⟩,
        ⟨some 5, .mov (.t 17), none⟩])
     (.seq (.seq (.reg [⟨some 18, .mov (.t 5), none⟩,
          ⟨some 19, .bin .lss (.t 18) (.k (.int .i64 0)), none⟩])
       (.cond (.t 19)
        (.seq (.reg [⟨some 4, .mov (.k (.bool true)), none⟩])
         (.ret))
        (.skip)))
      (.seq (.dreg [false, false, false, true, true, true] [⟨some 20, .mov (.t 0), none⟩,
          ⟨some 21, .call 39 [(.t 20)], none⟩,
          ⟨some 22, .load 2 true (.t 3), none⟩,
          ⟨some 23, .call 15 [(.t 22)], none⟩,
          ⟨some 24, .call 38 [(.t 21), (.t 23)], none⟩,
          ⟨some 6, .mov (.t 24), none⟩])
       (.seq (.reg [⟨some 25, .mov (.t 0), none⟩,
           ⟨some 26, .call 39 [(.t 25)], none⟩,
           ⟨some 7, .mov (.t 26), none⟩])
        (.seq (.reg [⟨some 27, .load 2 true (.t 3), none⟩,
            ⟨some 28, .call 15 [(.t 27)], none⟩,
            ⟨some 8, .alloc [(.sl .nil 0 []), (.sl .nil 0 [])], none⟩,
            ⟨none, .store 2 (.t 8) (.t 28), none⟩])
         (.seq (.reg [⟨some 29, .mov (.t 7), none⟩,
             ⟨some 30, .load 2 true (.t 8), none⟩,
             ⟨some 31, .call 40 [(.t 29), (.t 30)], none⟩,
             ⟨some 9, .mov (.t 31), none⟩])
          (.seq (.seq (.reg [⟨some 32, .mov (.t 9), none⟩,
               ⟨some 33, .mov (.t 6), none⟩,
               ⟨some 34, .beq true (.t 32) (.t 33), none⟩])
            (.cond (.t 34)
             (.seq (.reg [⟨some 4, .mov (.k (.bool false)), none⟩])
              (.ret))
             (.skip)))
           (.seq (.seq (.reg [⟨some 35, .mov (.t 7), none⟩,
                ⟨some 36, .mov (.t 0), none⟩,
                ⟨some 37, .call 39 [(.t 36)], none⟩,
                ⟨some 38, .call 41 [(.t 35), (.t 37)], none⟩,
                ⟨some 39, .not (.t 38), none⟩])
             (.cond (.t 39)
              (.seq (.reg [⟨some 4, .mov (.k (.bool false)), none⟩])
               (.ret))
              (.skip)))
            (.seq (.seq (.dreg [false, false, false, true, true] [⟨some 40, .load 2 true (.t 8), none⟩,
                 ⟨some 41, .load 2 true (.t 3), none⟩,
                 ⟨some 42, .call 15 [(.t 41)], none⟩,
                 ⟨some 43, .call 18 [(.t 40), (.t 42)], none⟩,
                 ⟨some 44, .not (.t 43), none⟩])
              (.cond (.t 44)
               (.seq (.reg [⟨some 4, .mov (.k (.bool false)), none⟩])
                (.ret))
               (.skip)))
             (.seq (.reg [⟨some 4, .mov (.k (.bool true)), none⟩])
              (.ret))))))))))))))⟩
theorem fok_laws_FnExactCovers : FOk Try.prog 8 code_laws_FnExactCovers := fok Try.func8 (by kernel_rfl)
set_option maxHeartbeats 2000000 in
set_option maxRecDepth 100000 in
theorem ok_lawCovers (x : List Strc) (y : Strc) : Ok Try.prog 8 [encL 2 encStrc x, encStrc y] (.bool true) := by
  by_cases h1 : (szStrcs x : Int) ≤ 1048576
  case neg =>
    refine Ok.of_cw fok_laws_FnExactCovers (go_ok (tab_cons ok_szStrcs tab_nil) ?_)
    simp [code_laws_FnExactCovers, List.replicate, left_neg (by omega : (1048576:Int) < szStrcs x)]
  have l1 := left_ge h1
  by_cases h2 : (szStrc y : Int) ≤ 1048576 - szStrcs x
  case neg =>
    refine Ok.of_cw fok_laws_FnExactCovers (go_ok (tab_cons ok_szStrcs (tab_cons ok_szStrc tab_nil)) ?_)
    simp [code_laws_FnExactCovers, List.replicate, l1, left_neg (by omega : (1048576:Int) - szStrcs x < szStrc y)]
    omega
  have l2 := left_ge h2
  have hx : szStrcs x ≤ 1048576 := by omega
  have hy : szStrc y ≤ 1048576 := by omega
  refine Ok.of_cw fok_laws_FnExactCovers (go_ok (tab_cons ok_szStrcs (tab_cons ok_szStrc (tab_cons ok_toStrcs (tab_cons ok_toStrc (tab_cons ok_sCovers (tab_cons ok_pCovers (tab_cons ok_eqStrcs (tab_cons ok_eqStrc tab_nil)))))))) ?_)
  simp (maxSteps := 1000000) [code_laws_FnExactCovers, List.replicate, l1, l2, hx, hy]
  omega
end Go.Vm
