/- The program's PredicateFormula, laid in blocks of its own. No condition. -/
import Derived.Test.YtmakeoekklcbdaaTFT
import Derived.Test.YtmakeoekklcbdaaTSS
set_option linter.unusedSimpArgs false
set_option linter.unusedVariables false
namespace Go.Vm
open Go.Proofs
def code_impl_predicate_on : F := ⟨31, [.cell 5 true 4],
 .seq (.reg [⟨some 2, .box (.t 0), none⟩,
    ⟨some 4, .alloc [(.int .i64 0), (.int .i64 0), (.int .i64 0), (.int .i64 0), (.sl .nil 0 [])], none⟩])
 (.seq (.seq (.reg [⟨some 5, .mov (.t 1), none⟩,
      ⟨some 6, .faddr 1 (.t 2), none⟩,
      ⟨some 7, .load 1 false (.t 6), none⟩,
      ⟨some 8, .bin .eql (.t 5) (.t 7), none⟩])
   (.cond (.t 8)
    (.seq (.reg [⟨some 9, .faddr 0 (.t 2), none⟩,
        ⟨some 10, .load 1 false (.t 9), none⟩])
     (.block 0 (.seq (.seq (.reg [⟨some 12, .bin .eql (.t 10) (.k (.int .i64 2)), none⟩,
           ⟨some 11, .mov (.t 12), none⟩])
        (.cond (.t 11)
         (.skip)
         (.seq (.reg [⟨some 13, .bin .eql (.t 10) (.k (.int .i64 8)), none⟩,
             ⟨some 11, .mov (.t 13), none⟩])
          (.cond (.t 11)
           (.skip)
           (.reg [⟨some 14, .bin .eql (.t 10) (.k (.int .i64 3)), none⟩,
              ⟨some 11, .mov (.t 14), none⟩])))))
       (.cond (.t 11)
        (.seq (.reg [⟨some 15, .call 183 [], none⟩,
            ⟨none, .store 5 (.t 4) (.t 15), none⟩])
         (.ret))
        (.seq (.reg [⟨some 17, .bin .eql (.t 10) (.k (.int .i64 4)), none⟩,
            ⟨some 16, .mov (.t 17), none⟩])
         (.cond (.t 16)
          (.seq (.reg [⟨some 18, .faddr 2 (.t 2), none⟩,
              ⟨some 19, .load 1 false (.t 18), none⟩,
              ⟨some 20, .call 102 [(.t 19), (.k (.int .i64 0))], none⟩,
              ⟨none, .store 5 (.t 4) (.t 20), none⟩])
           (.ret))
          (.seq (.reg [⟨some 22, .bin .eql (.t 10) (.k (.int .i64 5)), none⟩,
              ⟨some 21, .mov (.t 22), none⟩])
           (.cond (.t 21)
            (.seq (.reg [⟨some 23, .faddr 2 (.t 2), none⟩,
                ⟨some 24, .load 1 false (.t 23), none⟩,
                ⟨some 25, .call 102 [(.t 24), (.k (.int .i64 1))], none⟩,
                ⟨some 26, .call 100 [(.k (.int .i64 1)), (.k (.int .i64 0))], none⟩,
                ⟨some 27, .call 99 [(.t 25), (.t 26)], none⟩,
                ⟨some 28, .call 184 [(.k (.int .i64 1)), (.t 27)], none⟩,
                ⟨none, .store 5 (.t 4) (.t 28), none⟩])
             (.ret))
            (.skip)))))))))
    (.skip)))
  (.seq (.reg [⟨some 29, .mov (.t 1), none⟩,
      ⟨some 30, .call 102 [(.t 29), (.k (.int .i64 0))], none⟩,
      ⟨none, .store 5 (.t 4) (.t 30), none⟩])
   (.ret)))⟩
theorem fok_impl_predicate_on : FOk Try.prog 112 code_impl_predicate_on := fok Try.func112 (by kernel_rfl)
def code_impl_predicate_from : F := ⟨69, [.cell 5 true 4],
 .seq (.reg [⟨some 2, .box (.t 0), none⟩,
    ⟨some 4, .alloc [(.int .i64 0), (.int .i64 0), (.int .i64 0), (.int .i64 0), (.sl .nil 0 [])], none⟩])
 (.seq (.seq (.reg [⟨some 5, .faddr 0 (.t 2), none⟩,
      ⟨some 6, .load 1 false (.t 5), none⟩,
      ⟨some 7, .bin .eql (.t 6) (.k (.int .i64 7)), none⟩])
   (.cond (.t 7)
    (.seq (.dreg [false, false, false, false, false, false, false, false, false, false, false, true, true, true, true] [false, true, false, false, true, false, true, true, true, false, false, true, true, true, false] [⟨some 8, .mov (.t 1), none⟩,
        ⟨some 9, .call 185 [(.t 8), (.k (.int .i64 0))], none⟩,
        ⟨some 10, .faddr 1 (.t 2), none⟩,
        ⟨some 11, .load 1 false (.t 10), none⟩,
        ⟨some 12, .call 102 [(.t 11), (.k (.int .i64 1))], none⟩,
        ⟨some 13, .mov (.t 1), none⟩,
        ⟨some 14, .call 185 [(.t 13), (.k (.int .i64 1))], none⟩,
        ⟨some 15, .call 99 [(.t 12), (.t 14)], none⟩,
        ⟨some 16, .call 184 [(.k (.int .i64 1)), (.t 15)], none⟩,
        ⟨some 17, .faddr 2 (.t 2), none⟩,
        ⟨some 18, .load 1 false (.t 17), none⟩,
        ⟨some 19, .call 185 [(.t 18), (.k (.int .i64 0))], none⟩,
        ⟨some 20, .call 99 [(.t 16), (.t 19)], none⟩,
        ⟨some 21, .call 103 [(.t 9), (.t 20)], none⟩,
        ⟨none, .store 5 (.t 4) (.t 21), none⟩])
     (.ret))
    (.skip)))
  (.seq (.seq (.reg [⟨some 22, .mov (.t 1), none⟩,
       ⟨some 23, .faddr 1 (.t 2), none⟩,
       ⟨some 24, .load 1 false (.t 23), none⟩,
       ⟨some 25, .bin .neq (.t 22) (.t 24), none⟩])
    (.cond (.t 25)
     (.seq (.seq (.reg [⟨some 26, .faddr 0 (.t 2), none⟩,
          ⟨some 27, .load 1 false (.t 26), none⟩,
          ⟨some 28, .bin .eql (.t 27) (.k (.int .i64 6)), none⟩,
          ⟨some 29, .mov (.t 28), none⟩,
          ⟨some 30, .faddr 0 (.t 2), some (29, false)⟩,
          ⟨some 31, .load 1 false (.t 30), some (29, false)⟩,
          ⟨some 32, .bin .eql (.t 31) (.k (.int .i64 8)), some (29, false)⟩,
          ⟨some 33, .pick (.t 29) (.k (.bool true)) (.t 32), none⟩])
       (.cond (.t 33)
        (.seq (.reg [⟨some 34, .mov (.t 1), none⟩,
            ⟨some 35, .faddr 1 (.t 2), none⟩,
            ⟨some 36, .load 1 false (.t 35), none⟩,
            ⟨some 37, .call 186 [(.t 34), (.t 36)], none⟩,
            ⟨none, .store 5 (.t 4) (.t 37), none⟩])
         (.ret))
        (.skip)))
      (.seq (.reg [⟨some 38, .mov (.t 1), none⟩,
          ⟨some 39, .call 185 [(.t 38), (.k (.int .i64 0))], none⟩,
          ⟨none, .store 5 (.t 4) (.t 39), none⟩])
       (.ret)))
     (.skip)))
   (.seq (.seq (.reg [⟨some 40, .faddr 0 (.t 2), none⟩,
        ⟨some 41, .load 1 false (.t 40), none⟩])
     (.block 0 (.seq (.seq (.reg [⟨some 43, .bin .eql (.t 41) (.k (.int .i64 2)), none⟩,
           ⟨some 42, .mov (.t 43), none⟩])
        (.cond (.t 42)
         (.skip)
         (.seq (.reg [⟨some 44, .bin .eql (.t 41) (.k (.int .i64 8)), none⟩,
             ⟨some 42, .mov (.t 44), none⟩])
          (.cond (.t 42)
           (.skip)
           (.reg [⟨some 45, .bin .eql (.t 41) (.k (.int .i64 3)), none⟩,
              ⟨some 42, .mov (.t 45), none⟩])))))
       (.cond (.t 42)
        (.seq (.reg [⟨some 46, .call 183 [], none⟩,
            ⟨none, .store 5 (.t 4) (.t 46), none⟩])
         (.ret))
        (.seq (.reg [⟨some 48, .bin .eql (.t 41) (.k (.int .i64 4)), none⟩,
            ⟨some 47, .mov (.t 48), none⟩])
         (.cond (.t 47)
          (.seq (.reg [⟨some 49, .faddr 2 (.t 2), none⟩,
              ⟨some 50, .load 1 false (.t 49), none⟩,
              ⟨some 51, .call 185 [(.t 50), (.k (.int .i64 0))], none⟩,
              ⟨none, .store 5 (.t 4) (.t 51), none⟩])
           (.ret))
          (.seq (.reg [⟨some 53, .bin .eql (.t 41) (.k (.int .i64 5)), none⟩,
              ⟨some 52, .mov (.t 53), none⟩])
           (.cond (.t 52)
            (.seq (.dreg [false, false, false, false, false, true, true, true, true] [false, false, true, false, false, true, true, true, false] [⟨some 54, .faddr 2 (.t 2), none⟩,
                ⟨some 55, .load 1 false (.t 54), none⟩,
                ⟨some 56, .call 185 [(.t 55), (.k (.int .i64 0))], none⟩,
                ⟨some 57, .faddr 2 (.t 2), none⟩,
                ⟨some 58, .load 1 false (.t 57), none⟩,
                ⟨some 59, .call 102 [(.t 58), (.k (.int .i64 0))], none⟩,
                ⟨some 60, .call 101 [(.t 59)], none⟩,
                ⟨some 61, .call 99 [(.t 56), (.t 60)], none⟩,
                ⟨none, .store 5 (.t 4) (.t 61), none⟩])
             (.ret))
            (.seq (.reg [⟨some 63, .bin .eql (.t 41) (.k (.int .i64 6)), none⟩,
                ⟨some 62, .mov (.t 63), none⟩])
             (.cond (.t 62)
              (.seq (.reg [⟨some 64, .faddr 1 (.t 2), none⟩,
                  ⟨some 65, .load 1 false (.t 64), none⟩,
                  ⟨some 66, .call 102 [(.t 65), (.k (.int .i64 0))], none⟩,
                  ⟨none, .store 5 (.t 4) (.t 66), none⟩])
               (.ret))
              (.skip)))))))))))
    (.seq (.reg [⟨some 67, .mov (.t 1), none⟩,
        ⟨some 68, .call 185 [(.t 67), (.k (.int .i64 0))], none⟩,
        ⟨none, .store 5 (.t 4) (.t 68), none⟩])
     (.ret)))))⟩
theorem fok_impl_predicate_from : FOk Try.prog 113 code_impl_predicate_from := fok Try.func113 (by kernel_rfl)
def code_impl_predicate_shared : F := ⟨22, [.cell 5 true 2],
 .seq (.reg [⟨some 1, .box (.t 0), none⟩,
    ⟨some 2, .alloc [(.int .i64 0), (.int .i64 0), (.int .i64 0), (.int .i64 0), (.sl .nil 0 [])], none⟩])
 (.seq (.seq (.reg [⟨some 3, .faddr 0 (.t 1), none⟩,
      ⟨some 4, .load 1 false (.t 3), none⟩])
   (.block 0 (.seq (.seq (.reg [⟨some 6, .bin .eql (.t 4) (.k (.int .i64 6)), none⟩,
         ⟨some 5, .mov (.t 6), none⟩])
      (.cond (.t 5)
       (.skip)
       (.reg [⟨some 7, .bin .eql (.t 4) (.k (.int .i64 8)), none⟩,
          ⟨some 5, .mov (.t 7), none⟩])))
     (.cond (.t 5)
      (.seq (.reg [⟨some 8, .faddr 1 (.t 1), none⟩,
          ⟨some 9, .load 1 false (.t 8), none⟩,
          ⟨some 10, .call 187 [(.t 9)], none⟩,
          ⟨none, .store 5 (.t 2) (.t 10), none⟩])
       (.ret))
      (.seq (.reg [⟨some 12, .bin .eql (.t 4) (.k (.int .i64 7)), none⟩,
          ⟨some 11, .mov (.t 12), none⟩])
       (.cond (.t 11)
        (.seq (.dreg [false, false, false, true, true, true, true, true, true] [true, false, false, true, true, true, true, true, false] [⟨some 13, .call 188 [(.k (.int .i64 0))], none⟩,
            ⟨some 14, .faddr 2 (.t 1), none⟩,
            ⟨some 15, .load 1 false (.t 14), none⟩,
            ⟨some 16, .call 102 [(.t 15), (.k (.int .i64 0))], none⟩,
            ⟨some 17, .call 100 [(.k (.int .i64 1)), (.k (.int .i64 0))], none⟩,
            ⟨some 18, .call 184 [(.k (.int .i64 1)), (.t 17)], none⟩,
            ⟨some 19, .call 99 [(.t 16), (.t 18)], none⟩,
            ⟨some 20, .call 103 [(.t 13), (.t 19)], none⟩,
            ⟨none, .store 5 (.t 2) (.t 20), none⟩])
         (.ret))
        (.skip)))))))
  (.seq (.reg [⟨some 21, .call 188 [(.k (.int .i64 0))], none⟩,
      ⟨none, .store 5 (.t 2) (.t 21), none⟩])
   (.ret)))⟩
theorem fok_impl_predicate_shared : FOk Try.prog 114 code_impl_predicate_shared := fok Try.func114 (by kernel_rfl)
mutual
theorem own_sh (n : Nat) : ∀ a : AV, ownV a = true → ownV (sh n a) = true
  | .agg cs, h => by simp only [sh, ownV] at h ⊢; exact own_shL n cs h
  | .tup cs, h => by simp only [sh, ownV] at h ⊢; exact own_shL n cs h
  | .undef, h | .hole, h | .int .., h | .bool _, h | .str _, h | .nilp, h | .pro _, h | .fn .., h | .sl .., h => h
  | .slref .., h | .pbox .., h | .prow .., h => by simp [sh, ownV]
theorem own_shL (n : Nat) : ∀ l : List AV, ownVL l = true → ownVL (shL n l) = true
  | [], h => h
  | a :: l, h => by
    simp only [ownVL, shL, Bool.and_eq_true] at h ⊢
    exact ⟨own_sh n a h.1, own_shL n l h.2⟩
end
theorem own_shB {n : Nat} {N : List Blk} (h : ∀ k ∈ N, ownB k = true) : ∀ k ∈ N.map (shB n), ownB k = true := by
  intro k hk
  obtain ⟨j, hj, rfl⟩ := List.mem_map.1 hk
  have := h j hj
  cases j with
  | cells cs => exact own_shL n cs this
  | row ow e sz els => exact own_shL n els this
  | _ => rfl
set_option maxHeartbeats 8000000
set_option maxRecDepth 100000
theorem made_On (kind a b x : Int) : ∃ p, MadeP 112 [.agg [.int .i64 kind, .int .i64 a, .int .i64 b], .int .i64 x] (pOnT kind a b x) p := by
  by_cases hx : x = a
  · subst hx
    by_cases h2 : kind = 2
    · subst h2
      rw [show pOnT 2 x b x = .mk 8 0 0 0 [.mk 1 0 0 0 []] from by simp [pOnT, falseT, cutReachT, cutSharedT, onL, frmL, nxtL, shL0, notL, andL, orL, someL, ]]
      obtain ⟨⟨⟨f1, f2, f3, f4, s⟩, N⟩, hk, hown, e1, e2, e3, e4, R, hA⟩ := (show ∃ p, MadeP 183 [] (.mk 8 0 0 0 [.mk 1 0 0 0 []]) p from ⟨_, made_False⟩)
      simp only at e1 e2 e3 e4 hA hk hown
      have okN : CtN.Ok Try.prog ⟨183, Unit, fun _ => True, fun _ => [], fun _ => FV.av ⟨f1, f2, f3, f4, s⟩, fun _ => N⟩ := ⟨fun _ _ => hk, fun _ _ => ownV_fv _, fun _ _ => hown⟩
      rcases s with _ | _ | ⟨m, o, l, t⟩
      · cases hA
      · refine ⟨(⟨f1, f2, f3, f4, .any⟩, [.cells [.int .i64 2, .int .i64 x, .int .i64 b], .nrow, .cells [.int .i64 f1, .int .i64 f2, .int .i64 f3, .int .i64 f4, (.sl .any 0 [])]] ++ N.map (shB 3)), OkH.of_cw' fok_impl_predicate_on (go_ok (tab_h (CtN.hok okN) (tab_nil)) ?_), ?_, e1, e2, e3, e4, R.map (3 + ·), ?_⟩
        · simp [code_impl_predicate_on, List.replicate, retH, falseT, cutReachT, cutSharedT, onL, frmL, nxtL, shL0, notL, andL, orL, someL, FV.av_mk, av_any, av_row, getHk, getH0, setHk, setH0, needs1, isH]
        · intro k hk
          rcases List.mem_append.1 hk with h | h
          · exact (show ∀ k ∈ ([.cells [.int .i64 2, .int .i64 x, .int .i64 b], .nrow, .cells [.int .i64 f1, .int .i64 f2, .int .i64 f3, .int .i64 f4, (.sl .any 0 [])]] : List Blk), ownB k = true by simp [ownB, ownV, ownVL]) k h
          · exact own_shB hown k h
        · simpa [PS.av] using hA.sh [.cells [.int .i64 2, .int .i64 x, .int .i64 b], .nrow, .cells [.int .i64 f1, .int .i64 f2, .int .i64 f3, .int .i64 f4, (.sl .any 0 [])]]
      · refine ⟨(⟨f1, f2, f3, f4, .row (3 + m) o l t⟩, [.cells [.int .i64 2, .int .i64 x, .int .i64 b], .nrow, .cells [.int .i64 f1, .int .i64 f2, .int .i64 f3, .int .i64 f4, .slref (3 + m) o l t]] ++ N.map (shB 3)), OkH.of_cw' fok_impl_predicate_on (go_ok (tab_h (CtN.hok okN) (tab_nil)) ?_), ?_, e1, e2, e3, e4, R.map (3 + ·), ?_⟩
        · simp [code_impl_predicate_on, List.replicate, retH, falseT, cutReachT, cutSharedT, onL, frmL, nxtL, shL0, notL, andL, orL, someL, FV.av_mk, av_any, av_row, getHk, getH0, setHk, setH0, needs1, isH]
        · intro k hk
          rcases List.mem_append.1 hk with h | h
          · exact (show ∀ k ∈ ([.cells [.int .i64 2, .int .i64 x, .int .i64 b], .nrow, .cells [.int .i64 f1, .int .i64 f2, .int .i64 f3, .int .i64 f4, .slref (3 + m) o l t]] : List Blk), ownB k = true by simp [ownB, ownV, ownVL]) k h
          · exact own_shB hown k h
        · simpa [PS.av] using hA.sh [.cells [.int .i64 2, .int .i64 x, .int .i64 b], .nrow, .cells [.int .i64 f1, .int .i64 f2, .int .i64 f3, .int .i64 f4, .slref (3 + m) o l t]]
    by_cases h8 : kind = 8
    · subst h8
      rw [show pOnT 8 x b x = .mk 8 0 0 0 [.mk 1 0 0 0 []] from by simp [pOnT, h2, falseT, cutReachT, cutSharedT, onL, frmL, nxtL, shL0, notL, andL, orL, someL, ]]
      obtain ⟨⟨⟨f1, f2, f3, f4, s⟩, N⟩, hk, hown, e1, e2, e3, e4, R, hA⟩ := (show ∃ p, MadeP 183 [] (.mk 8 0 0 0 [.mk 1 0 0 0 []]) p from ⟨_, made_False⟩)
      simp only at e1 e2 e3 e4 hA hk hown
      have okN : CtN.Ok Try.prog ⟨183, Unit, fun _ => True, fun _ => [], fun _ => FV.av ⟨f1, f2, f3, f4, s⟩, fun _ => N⟩ := ⟨fun _ _ => hk, fun _ _ => ownV_fv _, fun _ _ => hown⟩
      rcases s with _ | _ | ⟨m, o, l, t⟩
      · cases hA
      · refine ⟨(⟨f1, f2, f3, f4, .any⟩, [.cells [.int .i64 8, .int .i64 x, .int .i64 b], .nrow, .cells [.int .i64 f1, .int .i64 f2, .int .i64 f3, .int .i64 f4, (.sl .any 0 [])]] ++ N.map (shB 3)), OkH.of_cw' fok_impl_predicate_on (go_ok (tab_h (CtN.hok okN) (tab_nil)) ?_), ?_, e1, e2, e3, e4, R.map (3 + ·), ?_⟩
        · simp [code_impl_predicate_on, List.replicate, retH, h2, falseT, cutReachT, cutSharedT, onL, frmL, nxtL, shL0, notL, andL, orL, someL, FV.av_mk, av_any, av_row, getHk, getH0, setHk, setH0, needs1, isH]
        · intro k hk
          rcases List.mem_append.1 hk with h | h
          · exact (show ∀ k ∈ ([.cells [.int .i64 8, .int .i64 x, .int .i64 b], .nrow, .cells [.int .i64 f1, .int .i64 f2, .int .i64 f3, .int .i64 f4, (.sl .any 0 [])]] : List Blk), ownB k = true by simp [ownB, ownV, ownVL]) k h
          · exact own_shB hown k h
        · simpa [PS.av] using hA.sh [.cells [.int .i64 8, .int .i64 x, .int .i64 b], .nrow, .cells [.int .i64 f1, .int .i64 f2, .int .i64 f3, .int .i64 f4, (.sl .any 0 [])]]
      · refine ⟨(⟨f1, f2, f3, f4, .row (3 + m) o l t⟩, [.cells [.int .i64 8, .int .i64 x, .int .i64 b], .nrow, .cells [.int .i64 f1, .int .i64 f2, .int .i64 f3, .int .i64 f4, .slref (3 + m) o l t]] ++ N.map (shB 3)), OkH.of_cw' fok_impl_predicate_on (go_ok (tab_h (CtN.hok okN) (tab_nil)) ?_), ?_, e1, e2, e3, e4, R.map (3 + ·), ?_⟩
        · simp [code_impl_predicate_on, List.replicate, retH, h2, falseT, cutReachT, cutSharedT, onL, frmL, nxtL, shL0, notL, andL, orL, someL, FV.av_mk, av_any, av_row, getHk, getH0, setHk, setH0, needs1, isH]
        · intro k hk
          rcases List.mem_append.1 hk with h | h
          · exact (show ∀ k ∈ ([.cells [.int .i64 8, .int .i64 x, .int .i64 b], .nrow, .cells [.int .i64 f1, .int .i64 f2, .int .i64 f3, .int .i64 f4, .slref (3 + m) o l t]] : List Blk), ownB k = true by simp [ownB, ownV, ownVL]) k h
          · exact own_shB hown k h
        · simpa [PS.av] using hA.sh [.cells [.int .i64 8, .int .i64 x, .int .i64 b], .nrow, .cells [.int .i64 f1, .int .i64 f2, .int .i64 f3, .int .i64 f4, .slref (3 + m) o l t]]
    by_cases h3 : kind = 3
    · subst h3
      rw [show pOnT 3 x b x = .mk 8 0 0 0 [.mk 1 0 0 0 []] from by simp [pOnT, h2, h8, falseT, cutReachT, cutSharedT, onL, frmL, nxtL, shL0, notL, andL, orL, someL, ]]
      obtain ⟨⟨⟨f1, f2, f3, f4, s⟩, N⟩, hk, hown, e1, e2, e3, e4, R, hA⟩ := (show ∃ p, MadeP 183 [] (.mk 8 0 0 0 [.mk 1 0 0 0 []]) p from ⟨_, made_False⟩)
      simp only at e1 e2 e3 e4 hA hk hown
      have okN : CtN.Ok Try.prog ⟨183, Unit, fun _ => True, fun _ => [], fun _ => FV.av ⟨f1, f2, f3, f4, s⟩, fun _ => N⟩ := ⟨fun _ _ => hk, fun _ _ => ownV_fv _, fun _ _ => hown⟩
      rcases s with _ | _ | ⟨m, o, l, t⟩
      · cases hA
      · refine ⟨(⟨f1, f2, f3, f4, .any⟩, [.cells [.int .i64 3, .int .i64 x, .int .i64 b], .nrow, .cells [.int .i64 f1, .int .i64 f2, .int .i64 f3, .int .i64 f4, (.sl .any 0 [])]] ++ N.map (shB 3)), OkH.of_cw' fok_impl_predicate_on (go_ok (tab_h (CtN.hok okN) (tab_nil)) ?_), ?_, e1, e2, e3, e4, R.map (3 + ·), ?_⟩
        · simp [code_impl_predicate_on, List.replicate, retH, h2, h8, falseT, cutReachT, cutSharedT, onL, frmL, nxtL, shL0, notL, andL, orL, someL, FV.av_mk, av_any, av_row, getHk, getH0, setHk, setH0, needs1, isH]
        · intro k hk
          rcases List.mem_append.1 hk with h | h
          · exact (show ∀ k ∈ ([.cells [.int .i64 3, .int .i64 x, .int .i64 b], .nrow, .cells [.int .i64 f1, .int .i64 f2, .int .i64 f3, .int .i64 f4, (.sl .any 0 [])]] : List Blk), ownB k = true by simp [ownB, ownV, ownVL]) k h
          · exact own_shB hown k h
        · simpa [PS.av] using hA.sh [.cells [.int .i64 3, .int .i64 x, .int .i64 b], .nrow, .cells [.int .i64 f1, .int .i64 f2, .int .i64 f3, .int .i64 f4, (.sl .any 0 [])]]
      · refine ⟨(⟨f1, f2, f3, f4, .row (3 + m) o l t⟩, [.cells [.int .i64 3, .int .i64 x, .int .i64 b], .nrow, .cells [.int .i64 f1, .int .i64 f2, .int .i64 f3, .int .i64 f4, .slref (3 + m) o l t]] ++ N.map (shB 3)), OkH.of_cw' fok_impl_predicate_on (go_ok (tab_h (CtN.hok okN) (tab_nil)) ?_), ?_, e1, e2, e3, e4, R.map (3 + ·), ?_⟩
        · simp [code_impl_predicate_on, List.replicate, retH, h2, h8, falseT, cutReachT, cutSharedT, onL, frmL, nxtL, shL0, notL, andL, orL, someL, FV.av_mk, av_any, av_row, getHk, getH0, setHk, setH0, needs1, isH]
        · intro k hk
          rcases List.mem_append.1 hk with h | h
          · exact (show ∀ k ∈ ([.cells [.int .i64 3, .int .i64 x, .int .i64 b], .nrow, .cells [.int .i64 f1, .int .i64 f2, .int .i64 f3, .int .i64 f4, .slref (3 + m) o l t]] : List Blk), ownB k = true by simp [ownB, ownV, ownVL]) k h
          · exact own_shB hown k h
        · simpa [PS.av] using hA.sh [.cells [.int .i64 3, .int .i64 x, .int .i64 b], .nrow, .cells [.int .i64 f1, .int .i64 f2, .int .i64 f3, .int .i64 f4, .slref (3 + m) o l t]]
    by_cases h4 : kind = 4
    · subst h4
      rw [show pOnT 4 x b x = .mk 2 b 0 0 [] from by simp [pOnT, falseT, cutReachT, cutSharedT, onL, frmL, nxtL, shL0, notL, andL, orL, someL]]
      apply Exists.intro (⟨⟨2, b, 0, 0, .any⟩, _⟩ : FV × List Blk)
      refine ⟨OkH.of_cw' fok_impl_predicate_on (go_ok (tab_cons ok_on (tab_cons ok_from (tab_cons ok_next (tab_cons ok_sharedAt (tab_h ok_fmSome (tab_h ok_fmNot (tab_h ok_fmAnd (tab_h ok_fmOr tab_nil)))))))) ?_), ?_, rfl, rfl, rfl, rfl, ?_⟩
      · simp [code_impl_predicate_on, List.replicate, retH, r1, r2, mk1, mk2, av_nil, av_any, av_row, FV.av_mk, boxF_nil, boxF_any, boxF_row, inF_nil, inF_any, inF_row, getHk, getH0, setHk, setH0, Nat.add_assoc, needs1, isH]
        first | done | exact rfl | exact ⟨rfl, rfl⟩
      · simp [ownB, ownV, ownVL]
      · simp only [av_any, av_row]
        apply Exists.intro
        repeat' (first | exact AIn.any | exact AIn.nil _ rfl | (apply AIn.row1; (· rfl)) | (apply AIn.row2; (· rfl)))
        all_goals simp
    by_cases h5 : kind = 5
    · subst h5
      rw [show pOnT 5 x b x = .mk 11 0 1 0 [.mk 9 0 0 0 [.mk 2 b 1 0 [], .mk 5 0 1 0 []]] from by simp [pOnT, falseT, cutReachT, cutSharedT, onL, frmL, nxtL, shL0, notL, andL, orL, someL]]
      apply Exists.intro (⟨⟨11, 0, 1, 0, .row _ 0 1 1⟩, _⟩ : FV × List Blk)
      refine ⟨OkH.of_cw' fok_impl_predicate_on (go_ok (tab_cons ok_on (tab_cons ok_from (tab_cons ok_next (tab_cons ok_sharedAt (tab_h ok_fmSome (tab_h ok_fmNot (tab_h ok_fmAnd (tab_h ok_fmOr tab_nil)))))))) ?_), ?_, rfl, rfl, rfl, rfl, ?_⟩
      · simp [code_impl_predicate_on, List.replicate, retH, r1, r2, mk1, mk2, av_nil, av_any, av_row, FV.av_mk, boxF_nil, boxF_any, boxF_row, inF_nil, inF_any, inF_row, getHk, getH0, setHk, setH0, Nat.add_assoc, needs1, isH]
        first | done | exact rfl | exact ⟨rfl, rfl⟩
      · simp [ownB, ownV, ownVL]
      · simp only [av_any, av_row]
        apply Exists.intro
        repeat' (first | exact AIn.any | exact AIn.nil _ rfl | (apply AIn.row1; (· rfl)) | (apply AIn.row2; (· rfl)))
        all_goals simp
    rw [show pOnT kind x b x = .mk 2 x 0 0 [] from by simp [pOnT, h2, h8, h3, h4, h5, falseT, cutReachT, cutSharedT, onL, frmL, nxtL, shL0, notL, andL, orL, someL]]
    apply Exists.intro (⟨⟨2, x, 0, 0, .any⟩, _⟩ : FV × List Blk)
    refine ⟨OkH.of_cw' fok_impl_predicate_on (go_ok (tab_cons ok_on (tab_cons ok_from (tab_cons ok_next (tab_cons ok_sharedAt (tab_h ok_fmSome (tab_h ok_fmNot (tab_h ok_fmAnd (tab_h ok_fmOr tab_nil)))))))) ?_), ?_, rfl, rfl, rfl, rfl, ?_⟩
    · simp [code_impl_predicate_on, List.replicate, retH, h2, h8, h3, h4, h5, r1, r2, mk1, mk2, av_nil, av_any, av_row, FV.av_mk, boxF_nil, boxF_any, boxF_row, inF_nil, inF_any, inF_row, getHk, getH0, setHk, setH0, Nat.add_assoc, needs1, isH]
      first | done | exact rfl | exact ⟨rfl, rfl⟩
    · simp [ownB, ownV, ownVL]
    · simp only [av_any, av_row]
      apply Exists.intro
      repeat' (first | exact AIn.any | exact AIn.nil _ rfl | (apply AIn.row1; (· rfl)) | (apply AIn.row2; (· rfl)))
      all_goals simp
  · have hx2 : ¬ a = x := fun e => hx e.symm
    rw [show pOnT kind a b x = .mk 2 x 0 0 [] from by simp [pOnT, hx, hx2, falseT, cutReachT, cutSharedT, onL, frmL, nxtL, shL0, notL, andL, orL, someL]]
    apply Exists.intro (⟨⟨2, x, 0, 0, .any⟩, _⟩ : FV × List Blk)
    refine ⟨OkH.of_cw' fok_impl_predicate_on (go_ok (tab_cons ok_on (tab_cons ok_from (tab_cons ok_next (tab_cons ok_sharedAt (tab_h ok_fmSome (tab_h ok_fmNot (tab_h ok_fmAnd (tab_h ok_fmOr tab_nil)))))))) ?_), ?_, rfl, rfl, rfl, rfl, ?_⟩
    · simp [code_impl_predicate_on, List.replicate, retH, hx, hx2, r1, r2, mk1, mk2, av_nil, av_any, av_row, FV.av_mk, boxF_nil, boxF_any, boxF_row, inF_nil, inF_any, inF_row, getHk, getH0, setHk, setH0, Nat.add_assoc, needs1, isH]
      first | done | exact rfl | exact ⟨rfl, rfl⟩
    · simp [ownB, ownV, ownVL]
    · simp only [av_any, av_row]
      apply Exists.intro
      repeat' (first | exact AIn.any | exact AIn.nil _ rfl | (apply AIn.row1; (· rfl)) | (apply AIn.row2; (· rfl)))
      all_goals simp
theorem made_From (kind a b x : Int) : ∃ p, MadeP 113 [.agg [.int .i64 kind, .int .i64 a, .int .i64 b], .int .i64 x] (pFromT kind a b x) p := by
  by_cases h7 : kind = 7
  · subst h7
    rw [show pFromT 7 a b x = .mk 10 0 0 0 [.mk 3 x 0 0 [], .mk 9 0 0 0 [.mk 11 0 1 0 [.mk 9 0 0 0 [.mk 2 a 1 0 [], .mk 3 x 1 0 []]], .mk 3 b 0 0 []]] from by simp [pFromT, falseT, cutReachT, cutSharedT, onL, frmL, nxtL, shL0, notL, andL, orL, someL]]
    apply Exists.intro (⟨⟨10, 0, 0, 0, .row _ 0 2 2⟩, _⟩ : FV × List Blk)
    refine ⟨OkH.of_cw' fok_impl_predicate_from (go_ok (tab_cons ok_on (tab_cons ok_from (tab_cons ok_next (tab_cons ok_sharedAt (tab_h ok_fmSome (tab_h ok_fmNot (tab_h ok_fmAnd (tab_h ok_fmOr tab_nil)))))))) ?_), ?_, rfl, rfl, rfl, rfl, ?_⟩
    · simp [code_impl_predicate_from, List.replicate, retH, r1, r2, mk1, mk2, av_nil, av_any, av_row, FV.av_mk, boxF_nil, boxF_any, boxF_row, inF_nil, inF_any, inF_row, getHk, getH0, setHk, setH0, Nat.add_assoc, needs1, isH]
      first | done | exact rfl | exact ⟨rfl, rfl⟩
    · simp [ownB, ownV, ownVL]
    · simp only [av_any, av_row]
      apply Exists.intro
      repeat' (first | exact AIn.any | exact AIn.nil _ rfl | (apply AIn.row1; (· rfl)) | (apply AIn.row2; (· rfl)))
      all_goals simp
  by_cases hx : x = a
  · subst hx
    by_cases h2 : kind = 2
    · subst h2
      rw [show pFromT 2 x b x = .mk 8 0 0 0 [.mk 1 0 0 0 []] from by simp [pFromT, falseT, cutReachT, cutSharedT, onL, frmL, nxtL, shL0, notL, andL, orL, someL, ]]
      obtain ⟨⟨⟨f1, f2, f3, f4, s⟩, N⟩, hk, hown, e1, e2, e3, e4, R, hA⟩ := (show ∃ p, MadeP 183 [] (.mk 8 0 0 0 [.mk 1 0 0 0 []]) p from ⟨_, made_False⟩)
      simp only at e1 e2 e3 e4 hA hk hown
      have okN : CtN.Ok Try.prog ⟨183, Unit, fun _ => True, fun _ => [], fun _ => FV.av ⟨f1, f2, f3, f4, s⟩, fun _ => N⟩ := ⟨fun _ _ => hk, fun _ _ => ownV_fv _, fun _ _ => hown⟩
      rcases s with _ | _ | ⟨m, o, l, t⟩
      · cases hA
      · refine ⟨(⟨f1, f2, f3, f4, .any⟩, [.cells [.int .i64 2, .int .i64 x, .int .i64 b], .nrow, .cells [.int .i64 f1, .int .i64 f2, .int .i64 f3, .int .i64 f4, (.sl .any 0 [])]] ++ N.map (shB 3)), OkH.of_cw' fok_impl_predicate_from (go_ok (tab_h (CtN.hok okN) (tab_nil)) ?_), ?_, e1, e2, e3, e4, R.map (3 + ·), ?_⟩
        · simp [code_impl_predicate_from, List.replicate, retH, falseT, cutReachT, cutSharedT, onL, frmL, nxtL, shL0, notL, andL, orL, someL, FV.av_mk, av_any, av_row, getHk, getH0, setHk, setH0, needs1, isH]
        · intro k hk
          rcases List.mem_append.1 hk with h | h
          · exact (show ∀ k ∈ ([.cells [.int .i64 2, .int .i64 x, .int .i64 b], .nrow, .cells [.int .i64 f1, .int .i64 f2, .int .i64 f3, .int .i64 f4, (.sl .any 0 [])]] : List Blk), ownB k = true by simp [ownB, ownV, ownVL]) k h
          · exact own_shB hown k h
        · simpa [PS.av] using hA.sh [.cells [.int .i64 2, .int .i64 x, .int .i64 b], .nrow, .cells [.int .i64 f1, .int .i64 f2, .int .i64 f3, .int .i64 f4, (.sl .any 0 [])]]
      · refine ⟨(⟨f1, f2, f3, f4, .row (3 + m) o l t⟩, [.cells [.int .i64 2, .int .i64 x, .int .i64 b], .nrow, .cells [.int .i64 f1, .int .i64 f2, .int .i64 f3, .int .i64 f4, .slref (3 + m) o l t]] ++ N.map (shB 3)), OkH.of_cw' fok_impl_predicate_from (go_ok (tab_h (CtN.hok okN) (tab_nil)) ?_), ?_, e1, e2, e3, e4, R.map (3 + ·), ?_⟩
        · simp [code_impl_predicate_from, List.replicate, retH, falseT, cutReachT, cutSharedT, onL, frmL, nxtL, shL0, notL, andL, orL, someL, FV.av_mk, av_any, av_row, getHk, getH0, setHk, setH0, needs1, isH]
        · intro k hk
          rcases List.mem_append.1 hk with h | h
          · exact (show ∀ k ∈ ([.cells [.int .i64 2, .int .i64 x, .int .i64 b], .nrow, .cells [.int .i64 f1, .int .i64 f2, .int .i64 f3, .int .i64 f4, .slref (3 + m) o l t]] : List Blk), ownB k = true by simp [ownB, ownV, ownVL]) k h
          · exact own_shB hown k h
        · simpa [PS.av] using hA.sh [.cells [.int .i64 2, .int .i64 x, .int .i64 b], .nrow, .cells [.int .i64 f1, .int .i64 f2, .int .i64 f3, .int .i64 f4, .slref (3 + m) o l t]]
    by_cases h8 : kind = 8
    · subst h8
      rw [show pFromT 8 x b x = .mk 8 0 0 0 [.mk 1 0 0 0 []] from by simp [pFromT, h2, falseT, cutReachT, cutSharedT, onL, frmL, nxtL, shL0, notL, andL, orL, someL, ]]
      obtain ⟨⟨⟨f1, f2, f3, f4, s⟩, N⟩, hk, hown, e1, e2, e3, e4, R, hA⟩ := (show ∃ p, MadeP 183 [] (.mk 8 0 0 0 [.mk 1 0 0 0 []]) p from ⟨_, made_False⟩)
      simp only at e1 e2 e3 e4 hA hk hown
      have okN : CtN.Ok Try.prog ⟨183, Unit, fun _ => True, fun _ => [], fun _ => FV.av ⟨f1, f2, f3, f4, s⟩, fun _ => N⟩ := ⟨fun _ _ => hk, fun _ _ => ownV_fv _, fun _ _ => hown⟩
      rcases s with _ | _ | ⟨m, o, l, t⟩
      · cases hA
      · refine ⟨(⟨f1, f2, f3, f4, .any⟩, [.cells [.int .i64 8, .int .i64 x, .int .i64 b], .nrow, .cells [.int .i64 f1, .int .i64 f2, .int .i64 f3, .int .i64 f4, (.sl .any 0 [])]] ++ N.map (shB 3)), OkH.of_cw' fok_impl_predicate_from (go_ok (tab_h (CtN.hok okN) (tab_nil)) ?_), ?_, e1, e2, e3, e4, R.map (3 + ·), ?_⟩
        · simp [code_impl_predicate_from, List.replicate, retH, h2, falseT, cutReachT, cutSharedT, onL, frmL, nxtL, shL0, notL, andL, orL, someL, FV.av_mk, av_any, av_row, getHk, getH0, setHk, setH0, needs1, isH]
        · intro k hk
          rcases List.mem_append.1 hk with h | h
          · exact (show ∀ k ∈ ([.cells [.int .i64 8, .int .i64 x, .int .i64 b], .nrow, .cells [.int .i64 f1, .int .i64 f2, .int .i64 f3, .int .i64 f4, (.sl .any 0 [])]] : List Blk), ownB k = true by simp [ownB, ownV, ownVL]) k h
          · exact own_shB hown k h
        · simpa [PS.av] using hA.sh [.cells [.int .i64 8, .int .i64 x, .int .i64 b], .nrow, .cells [.int .i64 f1, .int .i64 f2, .int .i64 f3, .int .i64 f4, (.sl .any 0 [])]]
      · refine ⟨(⟨f1, f2, f3, f4, .row (3 + m) o l t⟩, [.cells [.int .i64 8, .int .i64 x, .int .i64 b], .nrow, .cells [.int .i64 f1, .int .i64 f2, .int .i64 f3, .int .i64 f4, .slref (3 + m) o l t]] ++ N.map (shB 3)), OkH.of_cw' fok_impl_predicate_from (go_ok (tab_h (CtN.hok okN) (tab_nil)) ?_), ?_, e1, e2, e3, e4, R.map (3 + ·), ?_⟩
        · simp [code_impl_predicate_from, List.replicate, retH, h2, falseT, cutReachT, cutSharedT, onL, frmL, nxtL, shL0, notL, andL, orL, someL, FV.av_mk, av_any, av_row, getHk, getH0, setHk, setH0, needs1, isH]
        · intro k hk
          rcases List.mem_append.1 hk with h | h
          · exact (show ∀ k ∈ ([.cells [.int .i64 8, .int .i64 x, .int .i64 b], .nrow, .cells [.int .i64 f1, .int .i64 f2, .int .i64 f3, .int .i64 f4, .slref (3 + m) o l t]] : List Blk), ownB k = true by simp [ownB, ownV, ownVL]) k h
          · exact own_shB hown k h
        · simpa [PS.av] using hA.sh [.cells [.int .i64 8, .int .i64 x, .int .i64 b], .nrow, .cells [.int .i64 f1, .int .i64 f2, .int .i64 f3, .int .i64 f4, .slref (3 + m) o l t]]
    by_cases h3 : kind = 3
    · subst h3
      rw [show pFromT 3 x b x = .mk 8 0 0 0 [.mk 1 0 0 0 []] from by simp [pFromT, h2, h8, falseT, cutReachT, cutSharedT, onL, frmL, nxtL, shL0, notL, andL, orL, someL, ]]
      obtain ⟨⟨⟨f1, f2, f3, f4, s⟩, N⟩, hk, hown, e1, e2, e3, e4, R, hA⟩ := (show ∃ p, MadeP 183 [] (.mk 8 0 0 0 [.mk 1 0 0 0 []]) p from ⟨_, made_False⟩)
      simp only at e1 e2 e3 e4 hA hk hown
      have okN : CtN.Ok Try.prog ⟨183, Unit, fun _ => True, fun _ => [], fun _ => FV.av ⟨f1, f2, f3, f4, s⟩, fun _ => N⟩ := ⟨fun _ _ => hk, fun _ _ => ownV_fv _, fun _ _ => hown⟩
      rcases s with _ | _ | ⟨m, o, l, t⟩
      · cases hA
      · refine ⟨(⟨f1, f2, f3, f4, .any⟩, [.cells [.int .i64 3, .int .i64 x, .int .i64 b], .nrow, .cells [.int .i64 f1, .int .i64 f2, .int .i64 f3, .int .i64 f4, (.sl .any 0 [])]] ++ N.map (shB 3)), OkH.of_cw' fok_impl_predicate_from (go_ok (tab_h (CtN.hok okN) (tab_nil)) ?_), ?_, e1, e2, e3, e4, R.map (3 + ·), ?_⟩
        · simp [code_impl_predicate_from, List.replicate, retH, h2, h8, falseT, cutReachT, cutSharedT, onL, frmL, nxtL, shL0, notL, andL, orL, someL, FV.av_mk, av_any, av_row, getHk, getH0, setHk, setH0, needs1, isH]
        · intro k hk
          rcases List.mem_append.1 hk with h | h
          · exact (show ∀ k ∈ ([.cells [.int .i64 3, .int .i64 x, .int .i64 b], .nrow, .cells [.int .i64 f1, .int .i64 f2, .int .i64 f3, .int .i64 f4, (.sl .any 0 [])]] : List Blk), ownB k = true by simp [ownB, ownV, ownVL]) k h
          · exact own_shB hown k h
        · simpa [PS.av] using hA.sh [.cells [.int .i64 3, .int .i64 x, .int .i64 b], .nrow, .cells [.int .i64 f1, .int .i64 f2, .int .i64 f3, .int .i64 f4, (.sl .any 0 [])]]
      · refine ⟨(⟨f1, f2, f3, f4, .row (3 + m) o l t⟩, [.cells [.int .i64 3, .int .i64 x, .int .i64 b], .nrow, .cells [.int .i64 f1, .int .i64 f2, .int .i64 f3, .int .i64 f4, .slref (3 + m) o l t]] ++ N.map (shB 3)), OkH.of_cw' fok_impl_predicate_from (go_ok (tab_h (CtN.hok okN) (tab_nil)) ?_), ?_, e1, e2, e3, e4, R.map (3 + ·), ?_⟩
        · simp [code_impl_predicate_from, List.replicate, retH, h2, h8, falseT, cutReachT, cutSharedT, onL, frmL, nxtL, shL0, notL, andL, orL, someL, FV.av_mk, av_any, av_row, getHk, getH0, setHk, setH0, needs1, isH]
        · intro k hk
          rcases List.mem_append.1 hk with h | h
          · exact (show ∀ k ∈ ([.cells [.int .i64 3, .int .i64 x, .int .i64 b], .nrow, .cells [.int .i64 f1, .int .i64 f2, .int .i64 f3, .int .i64 f4, .slref (3 + m) o l t]] : List Blk), ownB k = true by simp [ownB, ownV, ownVL]) k h
          · exact own_shB hown k h
        · simpa [PS.av] using hA.sh [.cells [.int .i64 3, .int .i64 x, .int .i64 b], .nrow, .cells [.int .i64 f1, .int .i64 f2, .int .i64 f3, .int .i64 f4, .slref (3 + m) o l t]]
    by_cases h4 : kind = 4
    · subst h4
      rw [show pFromT 4 x b x = .mk 3 b 0 0 [] from by simp [pFromT, falseT, cutReachT, cutSharedT, onL, frmL, nxtL, shL0, notL, andL, orL, someL]]
      apply Exists.intro (⟨⟨3, b, 0, 0, .any⟩, _⟩ : FV × List Blk)
      refine ⟨OkH.of_cw' fok_impl_predicate_from (go_ok (tab_cons ok_on (tab_cons ok_from (tab_cons ok_next (tab_cons ok_sharedAt (tab_h ok_fmSome (tab_h ok_fmNot (tab_h ok_fmAnd (tab_h ok_fmOr tab_nil)))))))) ?_), ?_, rfl, rfl, rfl, rfl, ?_⟩
      · simp [code_impl_predicate_from, List.replicate, retH, r1, r2, mk1, mk2, av_nil, av_any, av_row, FV.av_mk, boxF_nil, boxF_any, boxF_row, inF_nil, inF_any, inF_row, getHk, getH0, setHk, setH0, Nat.add_assoc, needs1, isH]
        first | done | exact rfl | exact ⟨rfl, rfl⟩
      · simp [ownB, ownV, ownVL]
      · simp only [av_any, av_row]
        apply Exists.intro
        repeat' (first | exact AIn.any | exact AIn.nil _ rfl | (apply AIn.row1; (· rfl)) | (apply AIn.row2; (· rfl)))
        all_goals simp
    by_cases h5 : kind = 5
    · subst h5
      rw [show pFromT 5 x b x = .mk 9 0 0 0 [.mk 3 b 0 0 [], .mk 8 0 0 0 [.mk 2 b 0 0 []]] from by simp [pFromT, falseT, cutReachT, cutSharedT, onL, frmL, nxtL, shL0, notL, andL, orL, someL]]
      apply Exists.intro (⟨⟨9, 0, 0, 0, .row _ 0 2 2⟩, _⟩ : FV × List Blk)
      refine ⟨OkH.of_cw' fok_impl_predicate_from (go_ok (tab_cons ok_on (tab_cons ok_from (tab_cons ok_next (tab_cons ok_sharedAt (tab_h ok_fmSome (tab_h ok_fmNot (tab_h ok_fmAnd (tab_h ok_fmOr tab_nil)))))))) ?_), ?_, rfl, rfl, rfl, rfl, ?_⟩
      · simp [code_impl_predicate_from, List.replicate, retH, r1, r2, mk1, mk2, av_nil, av_any, av_row, FV.av_mk, boxF_nil, boxF_any, boxF_row, inF_nil, inF_any, inF_row, getHk, getH0, setHk, setH0, Nat.add_assoc, needs1, isH]
        first | done | exact rfl | exact ⟨rfl, rfl⟩
      · simp [ownB, ownV, ownVL]
      · simp only [av_any, av_row]
        apply Exists.intro
        repeat' (first | exact AIn.any | exact AIn.nil _ rfl | (apply AIn.row1; (· rfl)) | (apply AIn.row2; (· rfl)))
        all_goals simp
    by_cases h6 : kind = 6
    · subst h6
      rw [show pFromT 6 x b x = .mk 2 x 0 0 [] from by simp [pFromT, falseT, cutReachT, cutSharedT, onL, frmL, nxtL, shL0, notL, andL, orL, someL]]
      apply Exists.intro (⟨⟨2, x, 0, 0, .any⟩, _⟩ : FV × List Blk)
      refine ⟨OkH.of_cw' fok_impl_predicate_from (go_ok (tab_cons ok_on (tab_cons ok_from (tab_cons ok_next (tab_cons ok_sharedAt (tab_h ok_fmSome (tab_h ok_fmNot (tab_h ok_fmAnd (tab_h ok_fmOr tab_nil)))))))) ?_), ?_, rfl, rfl, rfl, rfl, ?_⟩
      · simp [code_impl_predicate_from, List.replicate, retH, r1, r2, mk1, mk2, av_nil, av_any, av_row, FV.av_mk, boxF_nil, boxF_any, boxF_row, inF_nil, inF_any, inF_row, getHk, getH0, setHk, setH0, Nat.add_assoc, needs1, isH]
        first | done | exact rfl | exact ⟨rfl, rfl⟩
      · simp [ownB, ownV, ownVL]
      · simp only [av_any, av_row]
        apply Exists.intro
        repeat' (first | exact AIn.any | exact AIn.nil _ rfl | (apply AIn.row1; (· rfl)) | (apply AIn.row2; (· rfl)))
        all_goals simp
    rw [show pFromT kind x b x = .mk 3 x 0 0 [] from by simp [pFromT, h7, h2, h8, h3, h4, h5, h6, falseT, cutReachT, cutSharedT, onL, frmL, nxtL, shL0, notL, andL, orL, someL]]
    apply Exists.intro (⟨⟨3, x, 0, 0, .any⟩, _⟩ : FV × List Blk)
    refine ⟨OkH.of_cw' fok_impl_predicate_from (go_ok (tab_cons ok_on (tab_cons ok_from (tab_cons ok_next (tab_cons ok_sharedAt (tab_h ok_fmSome (tab_h ok_fmNot (tab_h ok_fmAnd (tab_h ok_fmOr tab_nil)))))))) ?_), ?_, rfl, rfl, rfl, rfl, ?_⟩
    · simp [code_impl_predicate_from, List.replicate, retH, h7, h2, h8, h3, h4, h5, h6, r1, r2, mk1, mk2, av_nil, av_any, av_row, FV.av_mk, boxF_nil, boxF_any, boxF_row, inF_nil, inF_any, inF_row, getHk, getH0, setHk, setH0, Nat.add_assoc, needs1, isH]
      first | done | exact rfl | exact ⟨rfl, rfl⟩
    · simp [ownB, ownV, ownVL]
    · simp only [av_any, av_row]
      apply Exists.intro
      repeat' (first | exact AIn.any | exact AIn.nil _ rfl | (apply AIn.row1; (· rfl)) | (apply AIn.row2; (· rfl)))
      all_goals simp
  have hx2 : ¬ a = x := fun e => hx e.symm
  by_cases h6 : kind = 6
  · subst h6
    rw [show pFromT 6 a b x = .mk 9 0 0 0 [.mk 3 x 0 0 [], .mk 8 0 0 0 [.mk 9 0 0 0 [.mk 9 0 0 0 [.mk 3 a 0 0 [], .mk 8 0 0 0 [.mk 2 a 0 0 []]], .mk 11 0 1 0 [.mk 9 0 0 0 [.mk 2 a 1 0 [], .mk 3 x 1 0 []]]]]] from by simp [pFromT, hx, hx2, falseT, cutReachT, cutSharedT, onL, frmL, nxtL, shL0, notL, andL, orL, someL, ]]
    obtain ⟨⟨⟨f1, f2, f3, f4, s⟩, N⟩, hk, hown, e1, e2, e3, e4, R, hA⟩ := (show ∃ p, MadeP 186 [.int .i64 x, .int .i64 a] (.mk 9 0 0 0 [.mk 3 x 0 0 [], .mk 8 0 0 0 [.mk 9 0 0 0 [.mk 9 0 0 0 [.mk 3 a 0 0 [], .mk 8 0 0 0 [.mk 2 a 0 0 []]], .mk 11 0 1 0 [.mk 9 0 0 0 [.mk 2 a 1 0 [], .mk 3 x 1 0 []]]]]]) p from ⟨_, made_CutReach x a⟩)
    simp only at e1 e2 e3 e4 hA hk hown
    have okN : CtN.Ok Try.prog ⟨186, Unit, fun _ => True, fun _ => [.int .i64 x, .int .i64 a], fun _ => FV.av ⟨f1, f2, f3, f4, s⟩, fun _ => N⟩ := ⟨fun _ _ => hk, fun _ _ => ownV_fv _, fun _ _ => hown⟩
    rcases s with _ | _ | ⟨m, o, l, t⟩
    · cases hA
    · refine ⟨(⟨f1, f2, f3, f4, .any⟩, [.cells [.int .i64 6, .int .i64 a, .int .i64 b], .nrow, .cells [.int .i64 f1, .int .i64 f2, .int .i64 f3, .int .i64 f4, (.sl .any 0 [])]] ++ N.map (shB 3)), OkH.of_cw' fok_impl_predicate_from (go_ok (tab_h (CtN.hok okN) (tab_nil)) ?_), ?_, e1, e2, e3, e4, R.map (3 + ·), ?_⟩
      · simp [code_impl_predicate_from, List.replicate, retH, hx, hx2, falseT, cutReachT, cutSharedT, onL, frmL, nxtL, shL0, notL, andL, orL, someL, FV.av_mk, av_any, av_row, getHk, getH0, setHk, setH0, needs1, isH]
      · intro k hk
        rcases List.mem_append.1 hk with h | h
        · exact (show ∀ k ∈ ([.cells [.int .i64 6, .int .i64 a, .int .i64 b], .nrow, .cells [.int .i64 f1, .int .i64 f2, .int .i64 f3, .int .i64 f4, (.sl .any 0 [])]] : List Blk), ownB k = true by simp [ownB, ownV, ownVL]) k h
        · exact own_shB hown k h
      · simpa [PS.av] using hA.sh [.cells [.int .i64 6, .int .i64 a, .int .i64 b], .nrow, .cells [.int .i64 f1, .int .i64 f2, .int .i64 f3, .int .i64 f4, (.sl .any 0 [])]]
    · refine ⟨(⟨f1, f2, f3, f4, .row (3 + m) o l t⟩, [.cells [.int .i64 6, .int .i64 a, .int .i64 b], .nrow, .cells [.int .i64 f1, .int .i64 f2, .int .i64 f3, .int .i64 f4, .slref (3 + m) o l t]] ++ N.map (shB 3)), OkH.of_cw' fok_impl_predicate_from (go_ok (tab_h (CtN.hok okN) (tab_nil)) ?_), ?_, e1, e2, e3, e4, R.map (3 + ·), ?_⟩
      · simp [code_impl_predicate_from, List.replicate, retH, hx, hx2, falseT, cutReachT, cutSharedT, onL, frmL, nxtL, shL0, notL, andL, orL, someL, FV.av_mk, av_any, av_row, getHk, getH0, setHk, setH0, needs1, isH]
      · intro k hk
        rcases List.mem_append.1 hk with h | h
        · exact (show ∀ k ∈ ([.cells [.int .i64 6, .int .i64 a, .int .i64 b], .nrow, .cells [.int .i64 f1, .int .i64 f2, .int .i64 f3, .int .i64 f4, .slref (3 + m) o l t]] : List Blk), ownB k = true by simp [ownB, ownV, ownVL]) k h
        · exact own_shB hown k h
      · simpa [PS.av] using hA.sh [.cells [.int .i64 6, .int .i64 a, .int .i64 b], .nrow, .cells [.int .i64 f1, .int .i64 f2, .int .i64 f3, .int .i64 f4, .slref (3 + m) o l t]]
  by_cases h8 : kind = 8
  · subst h8
    rw [show pFromT 8 a b x = .mk 9 0 0 0 [.mk 3 x 0 0 [], .mk 8 0 0 0 [.mk 9 0 0 0 [.mk 9 0 0 0 [.mk 3 a 0 0 [], .mk 8 0 0 0 [.mk 2 a 0 0 []]], .mk 11 0 1 0 [.mk 9 0 0 0 [.mk 2 a 1 0 [], .mk 3 x 1 0 []]]]]] from by simp [pFromT, hx, hx2, falseT, cutReachT, cutSharedT, onL, frmL, nxtL, shL0, notL, andL, orL, someL, ]]
    obtain ⟨⟨⟨f1, f2, f3, f4, s⟩, N⟩, hk, hown, e1, e2, e3, e4, R, hA⟩ := (show ∃ p, MadeP 186 [.int .i64 x, .int .i64 a] (.mk 9 0 0 0 [.mk 3 x 0 0 [], .mk 8 0 0 0 [.mk 9 0 0 0 [.mk 9 0 0 0 [.mk 3 a 0 0 [], .mk 8 0 0 0 [.mk 2 a 0 0 []]], .mk 11 0 1 0 [.mk 9 0 0 0 [.mk 2 a 1 0 [], .mk 3 x 1 0 []]]]]]) p from ⟨_, made_CutReach x a⟩)
    simp only at e1 e2 e3 e4 hA hk hown
    have okN : CtN.Ok Try.prog ⟨186, Unit, fun _ => True, fun _ => [.int .i64 x, .int .i64 a], fun _ => FV.av ⟨f1, f2, f3, f4, s⟩, fun _ => N⟩ := ⟨fun _ _ => hk, fun _ _ => ownV_fv _, fun _ _ => hown⟩
    rcases s with _ | _ | ⟨m, o, l, t⟩
    · cases hA
    · refine ⟨(⟨f1, f2, f3, f4, .any⟩, [.cells [.int .i64 8, .int .i64 a, .int .i64 b], .nrow, .cells [.int .i64 f1, .int .i64 f2, .int .i64 f3, .int .i64 f4, (.sl .any 0 [])]] ++ N.map (shB 3)), OkH.of_cw' fok_impl_predicate_from (go_ok (tab_h (CtN.hok okN) (tab_nil)) ?_), ?_, e1, e2, e3, e4, R.map (3 + ·), ?_⟩
      · simp [code_impl_predicate_from, List.replicate, retH, hx, hx2, falseT, cutReachT, cutSharedT, onL, frmL, nxtL, shL0, notL, andL, orL, someL, FV.av_mk, av_any, av_row, getHk, getH0, setHk, setH0, needs1, isH]
      · intro k hk
        rcases List.mem_append.1 hk with h | h
        · exact (show ∀ k ∈ ([.cells [.int .i64 8, .int .i64 a, .int .i64 b], .nrow, .cells [.int .i64 f1, .int .i64 f2, .int .i64 f3, .int .i64 f4, (.sl .any 0 [])]] : List Blk), ownB k = true by simp [ownB, ownV, ownVL]) k h
        · exact own_shB hown k h
      · simpa [PS.av] using hA.sh [.cells [.int .i64 8, .int .i64 a, .int .i64 b], .nrow, .cells [.int .i64 f1, .int .i64 f2, .int .i64 f3, .int .i64 f4, (.sl .any 0 [])]]
    · refine ⟨(⟨f1, f2, f3, f4, .row (3 + m) o l t⟩, [.cells [.int .i64 8, .int .i64 a, .int .i64 b], .nrow, .cells [.int .i64 f1, .int .i64 f2, .int .i64 f3, .int .i64 f4, .slref (3 + m) o l t]] ++ N.map (shB 3)), OkH.of_cw' fok_impl_predicate_from (go_ok (tab_h (CtN.hok okN) (tab_nil)) ?_), ?_, e1, e2, e3, e4, R.map (3 + ·), ?_⟩
      · simp [code_impl_predicate_from, List.replicate, retH, hx, hx2, falseT, cutReachT, cutSharedT, onL, frmL, nxtL, shL0, notL, andL, orL, someL, FV.av_mk, av_any, av_row, getHk, getH0, setHk, setH0, needs1, isH]
      · intro k hk
        rcases List.mem_append.1 hk with h | h
        · exact (show ∀ k ∈ ([.cells [.int .i64 8, .int .i64 a, .int .i64 b], .nrow, .cells [.int .i64 f1, .int .i64 f2, .int .i64 f3, .int .i64 f4, .slref (3 + m) o l t]] : List Blk), ownB k = true by simp [ownB, ownV, ownVL]) k h
        · exact own_shB hown k h
      · simpa [PS.av] using hA.sh [.cells [.int .i64 8, .int .i64 a, .int .i64 b], .nrow, .cells [.int .i64 f1, .int .i64 f2, .int .i64 f3, .int .i64 f4, .slref (3 + m) o l t]]
  rw [show pFromT kind a b x = .mk 3 x 0 0 [] from by simp [pFromT, h7, hx, hx2, h6, h8, falseT, cutReachT, cutSharedT, onL, frmL, nxtL, shL0, notL, andL, orL, someL]]
  apply Exists.intro (⟨⟨3, x, 0, 0, .any⟩, _⟩ : FV × List Blk)
  refine ⟨OkH.of_cw' fok_impl_predicate_from (go_ok (tab_cons ok_on (tab_cons ok_from (tab_cons ok_next (tab_cons ok_sharedAt (tab_h ok_fmSome (tab_h ok_fmNot (tab_h ok_fmAnd (tab_h ok_fmOr tab_nil)))))))) ?_), ?_, rfl, rfl, rfl, rfl, ?_⟩
  · simp [code_impl_predicate_from, List.replicate, retH, h7, hx, hx2, h6, h8, r1, r2, mk1, mk2, av_nil, av_any, av_row, FV.av_mk, boxF_nil, boxF_any, boxF_row, inF_nil, inF_any, inF_row, getHk, getH0, setHk, setH0, Nat.add_assoc, needs1, isH]
    first | done | exact rfl | exact ⟨rfl, rfl⟩
  · simp [ownB, ownV, ownVL]
  · simp only [av_any, av_row]
    apply Exists.intro
    repeat' (first | exact AIn.any | exact AIn.nil _ rfl | (apply AIn.row1; (· rfl)) | (apply AIn.row2; (· rfl)))
    all_goals simp
theorem made_Shared (kind a b : Int) : ∃ p, MadeP 114 [.agg [.int .i64 kind, .int .i64 a, .int .i64 b]] (pSharedT kind a b) p := by
  by_cases h6 : kind = 6
  · subst h6
    rw [show pSharedT 6 a b = .mk 9 0 0 0 [.mk 4 0 0 0 [], .mk 10 0 0 0 [.mk 8 0 0 0 [.mk 11 0 1 0 [.mk 9 0 0 0 [.mk 2 a 1 0 [], .mk 5 0 1 0 []]]], .mk 11 0 1 0 [.mk 11 0 2 0 [.mk 9 0 0 0 [.mk 9 0 0 0 [.mk 9 0 0 0 [.mk 5 0 1 0 [], .mk 5 0 2 0 []], .mk 8 0 0 0 [.mk 6 0 1 2 []]], .mk 9 0 0 0 [.mk 8 0 0 0 [.mk 2 a 1 0 []], .mk 8 0 0 0 [.mk 2 a 2 0 []]]]]]]] from by simp [pSharedT, falseT, cutReachT, cutSharedT, onL, frmL, nxtL, shL0, notL, andL, orL, someL, ]]
    obtain ⟨⟨⟨f1, f2, f3, f4, s⟩, N⟩, hk, hown, e1, e2, e3, e4, R, hA⟩ := made_CutShared a
    simp only at e1 e2 e3 e4 hA hk hown
    have okN : CtN.Ok Try.prog ⟨187, Unit, fun _ => True, fun _ => [.int .i64 a], fun _ => FV.av ⟨f1, f2, f3, f4, s⟩, fun _ => N⟩ := ⟨fun _ _ => hk, fun _ _ => ownV_fv _, fun _ _ => hown⟩
    rcases s with _ | _ | ⟨m, o, l, t⟩
    · cases hA
    · refine ⟨(⟨f1, f2, f3, f4, .any⟩, [.cells [.int .i64 6, .int .i64 a, .int .i64 b], .nrow, .cells [.int .i64 f1, .int .i64 f2, .int .i64 f3, .int .i64 f4, (.sl .any 0 [])]] ++ N.map (shB 3)), OkH.of_cw' fok_impl_predicate_shared (go_ok (tab_h (CtN.hok okN) (tab_nil)) ?_), ?_, e1, e2, e3, e4, R.map (3 + ·), ?_⟩
      · simp [code_impl_predicate_shared, List.replicate, retH, falseT, cutReachT, cutSharedT, onL, frmL, nxtL, shL0, notL, andL, orL, someL, FV.av_mk, av_any, av_row, getHk, getH0, setHk, setH0, needs1, isH]
      · intro k hk
        rcases List.mem_append.1 hk with h | h
        · exact (show ∀ k ∈ ([.cells [.int .i64 6, .int .i64 a, .int .i64 b], .nrow, .cells [.int .i64 f1, .int .i64 f2, .int .i64 f3, .int .i64 f4, (.sl .any 0 [])]] : List Blk), ownB k = true by simp [ownB, ownV, ownVL]) k h
        · exact own_shB hown k h
      · simpa [PS.av] using hA.sh [.cells [.int .i64 6, .int .i64 a, .int .i64 b], .nrow, .cells [.int .i64 f1, .int .i64 f2, .int .i64 f3, .int .i64 f4, (.sl .any 0 [])]]
    · refine ⟨(⟨f1, f2, f3, f4, .row (3 + m) o l t⟩, [.cells [.int .i64 6, .int .i64 a, .int .i64 b], .nrow, .cells [.int .i64 f1, .int .i64 f2, .int .i64 f3, .int .i64 f4, .slref (3 + m) o l t]] ++ N.map (shB 3)), OkH.of_cw' fok_impl_predicate_shared (go_ok (tab_h (CtN.hok okN) (tab_nil)) ?_), ?_, e1, e2, e3, e4, R.map (3 + ·), ?_⟩
      · simp [code_impl_predicate_shared, List.replicate, retH, falseT, cutReachT, cutSharedT, onL, frmL, nxtL, shL0, notL, andL, orL, someL, FV.av_mk, av_any, av_row, getHk, getH0, setHk, setH0, needs1, isH]
      · intro k hk
        rcases List.mem_append.1 hk with h | h
        · exact (show ∀ k ∈ ([.cells [.int .i64 6, .int .i64 a, .int .i64 b], .nrow, .cells [.int .i64 f1, .int .i64 f2, .int .i64 f3, .int .i64 f4, .slref (3 + m) o l t]] : List Blk), ownB k = true by simp [ownB, ownV, ownVL]) k h
        · exact own_shB hown k h
      · simpa [PS.av] using hA.sh [.cells [.int .i64 6, .int .i64 a, .int .i64 b], .nrow, .cells [.int .i64 f1, .int .i64 f2, .int .i64 f3, .int .i64 f4, .slref (3 + m) o l t]]
  by_cases h8 : kind = 8
  · subst h8
    rw [show pSharedT 8 a b = .mk 9 0 0 0 [.mk 4 0 0 0 [], .mk 10 0 0 0 [.mk 8 0 0 0 [.mk 11 0 1 0 [.mk 9 0 0 0 [.mk 2 a 1 0 [], .mk 5 0 1 0 []]]], .mk 11 0 1 0 [.mk 11 0 2 0 [.mk 9 0 0 0 [.mk 9 0 0 0 [.mk 9 0 0 0 [.mk 5 0 1 0 [], .mk 5 0 2 0 []], .mk 8 0 0 0 [.mk 6 0 1 2 []]], .mk 9 0 0 0 [.mk 8 0 0 0 [.mk 2 a 1 0 []], .mk 8 0 0 0 [.mk 2 a 2 0 []]]]]]]] from by simp [pSharedT, falseT, cutReachT, cutSharedT, onL, frmL, nxtL, shL0, notL, andL, orL, someL, ]]
    obtain ⟨⟨⟨f1, f2, f3, f4, s⟩, N⟩, hk, hown, e1, e2, e3, e4, R, hA⟩ := made_CutShared a
    simp only at e1 e2 e3 e4 hA hk hown
    have okN : CtN.Ok Try.prog ⟨187, Unit, fun _ => True, fun _ => [.int .i64 a], fun _ => FV.av ⟨f1, f2, f3, f4, s⟩, fun _ => N⟩ := ⟨fun _ _ => hk, fun _ _ => ownV_fv _, fun _ _ => hown⟩
    rcases s with _ | _ | ⟨m, o, l, t⟩
    · cases hA
    · refine ⟨(⟨f1, f2, f3, f4, .any⟩, [.cells [.int .i64 8, .int .i64 a, .int .i64 b], .nrow, .cells [.int .i64 f1, .int .i64 f2, .int .i64 f3, .int .i64 f4, (.sl .any 0 [])]] ++ N.map (shB 3)), OkH.of_cw' fok_impl_predicate_shared (go_ok (tab_h (CtN.hok okN) (tab_nil)) ?_), ?_, e1, e2, e3, e4, R.map (3 + ·), ?_⟩
      · simp [code_impl_predicate_shared, List.replicate, retH, falseT, cutReachT, cutSharedT, onL, frmL, nxtL, shL0, notL, andL, orL, someL, FV.av_mk, av_any, av_row, getHk, getH0, setHk, setH0, needs1, isH]
      · intro k hk
        rcases List.mem_append.1 hk with h | h
        · exact (show ∀ k ∈ ([.cells [.int .i64 8, .int .i64 a, .int .i64 b], .nrow, .cells [.int .i64 f1, .int .i64 f2, .int .i64 f3, .int .i64 f4, (.sl .any 0 [])]] : List Blk), ownB k = true by simp [ownB, ownV, ownVL]) k h
        · exact own_shB hown k h
      · simpa [PS.av] using hA.sh [.cells [.int .i64 8, .int .i64 a, .int .i64 b], .nrow, .cells [.int .i64 f1, .int .i64 f2, .int .i64 f3, .int .i64 f4, (.sl .any 0 [])]]
    · refine ⟨(⟨f1, f2, f3, f4, .row (3 + m) o l t⟩, [.cells [.int .i64 8, .int .i64 a, .int .i64 b], .nrow, .cells [.int .i64 f1, .int .i64 f2, .int .i64 f3, .int .i64 f4, .slref (3 + m) o l t]] ++ N.map (shB 3)), OkH.of_cw' fok_impl_predicate_shared (go_ok (tab_h (CtN.hok okN) (tab_nil)) ?_), ?_, e1, e2, e3, e4, R.map (3 + ·), ?_⟩
      · simp [code_impl_predicate_shared, List.replicate, retH, falseT, cutReachT, cutSharedT, onL, frmL, nxtL, shL0, notL, andL, orL, someL, FV.av_mk, av_any, av_row, getHk, getH0, setHk, setH0, needs1, isH]
      · intro k hk
        rcases List.mem_append.1 hk with h | h
        · exact (show ∀ k ∈ ([.cells [.int .i64 8, .int .i64 a, .int .i64 b], .nrow, .cells [.int .i64 f1, .int .i64 f2, .int .i64 f3, .int .i64 f4, .slref (3 + m) o l t]] : List Blk), ownB k = true by simp [ownB, ownV, ownVL]) k h
        · exact own_shB hown k h
      · simpa [PS.av] using hA.sh [.cells [.int .i64 8, .int .i64 a, .int .i64 b], .nrow, .cells [.int .i64 f1, .int .i64 f2, .int .i64 f3, .int .i64 f4, .slref (3 + m) o l t]]
  by_cases h7 : kind = 7
  · subst h7
    rw [show pSharedT 7 a b = .mk 10 0 0 0 [.mk 4 0 0 0 [], .mk 9 0 0 0 [.mk 2 b 0 0 [], .mk 11 0 1 0 [.mk 5 0 1 0 []]]] from by simp [pSharedT, falseT, cutReachT, cutSharedT, onL, frmL, nxtL, shL0, notL, andL, orL, someL]]
    apply Exists.intro (⟨⟨10, 0, 0, 0, .row _ 0 2 2⟩, _⟩ : FV × List Blk)
    refine ⟨OkH.of_cw' fok_impl_predicate_shared (go_ok (tab_cons ok_on (tab_cons ok_from (tab_cons ok_next (tab_cons ok_sharedAt (tab_h ok_fmSome (tab_h ok_fmNot (tab_h ok_fmAnd (tab_h ok_fmOr tab_nil)))))))) ?_), ?_, rfl, rfl, rfl, rfl, ?_⟩
    · simp [code_impl_predicate_shared, List.replicate, retH, r1, r2, mk1, mk2, av_nil, av_any, av_row, FV.av_mk, boxF_nil, boxF_any, boxF_row, inF_nil, inF_any, inF_row, getHk, getH0, setHk, setH0, Nat.add_assoc, needs1, isH]
      first | done | exact rfl | exact ⟨rfl, rfl⟩
    · simp [ownB, ownV, ownVL]
    · simp only [av_any, av_row]
      apply Exists.intro
      repeat' (first | exact AIn.any | exact AIn.nil _ rfl | (apply AIn.row1; (· rfl)) | (apply AIn.row2; (· rfl)))
      all_goals simp
  rw [show pSharedT kind a b = .mk 4 0 0 0 [] from by simp [pSharedT, h6, h8, h7, falseT, cutReachT, cutSharedT, onL, frmL, nxtL, shL0, notL, andL, orL, someL]]
  apply Exists.intro (⟨⟨4, 0, 0, 0, .any⟩, _⟩ : FV × List Blk)
  refine ⟨OkH.of_cw' fok_impl_predicate_shared (go_ok (tab_cons ok_on (tab_cons ok_from (tab_cons ok_next (tab_cons ok_sharedAt (tab_h ok_fmSome (tab_h ok_fmNot (tab_h ok_fmAnd (tab_h ok_fmOr tab_nil)))))))) ?_), ?_, rfl, rfl, rfl, rfl, ?_⟩
  · simp [code_impl_predicate_shared, List.replicate, retH, h6, h8, h7, r1, r2, mk1, mk2, av_nil, av_any, av_row, FV.av_mk, boxF_nil, boxF_any, boxF_row, inF_nil, inF_any, inF_row, getHk, getH0, setHk, setH0, Nat.add_assoc, needs1, isH]
    first | done | exact rfl | exact ⟨rfl, rfl⟩
  · simp [ownB, ownV, ownVL]
  · simp only [av_any, av_row]
    apply Exists.intro
    repeat' (first | exact AIn.any | exact AIn.nil _ rfl | (apply AIn.row1; (· rfl)) | (apply AIn.row2; (· rfl)))
    all_goals simp
end Go.Vm
