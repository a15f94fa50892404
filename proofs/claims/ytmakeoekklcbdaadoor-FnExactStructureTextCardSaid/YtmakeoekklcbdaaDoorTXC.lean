/- The key of a structure, and the laws of both texts. No condition. -/
import Derived.Test.YtmakeoekklcbdaaDoorTXB
import Derived.Test.YtmakeoekklcbdaaDoorTSS
import Derived.Test.YtmakeoekklcbdaaDoorTCP
import Derived.Test.YtmakeoekklcbdaaDoorTL2
set_option linter.unusedSimpArgs false
set_option linter.unusedVariables false
namespace Go.Vm
open Go.Proofs
def code_spec_SetKey : F := ⟨18, [.tmp 2],
 .seq (.reg [⟨some 1, .box (.t 0), none⟩,
    ⟨some 2, .mov (.k (.str [])), none⟩])
 (.seq (.seq (.reg [⟨some 4, .faddr 0 (.t 1), none⟩,
      ⟨some 5, .load 1 false (.t 4), none⟩,
      ⟨some 6, .len (.t 5), none⟩,
      ⟨some 7, .bin .eql (.t 6) (.k (.int .i64 0)), none⟩])
   (.cond (.t 7)
    (.seq (.reg [⟨some 2, .mov (.k (.str [45])), none⟩])
     (.ret))
    (.skip)))
  (.seq (.reg [⟨some 8, .load 2 true (.t 1), none⟩,
      ⟨some 9, .call 17 [(.t 8)], none⟩,
      ⟨some 3, .mov (.t 9), none⟩])
   (.seq (.seq (.reg [⟨some 10, .mov (.t 3), none⟩,
        ⟨some 11, .call 18 [(.t 10), (.k (.int .i64 1)), (.k (.int .i64 4))], none⟩,
        ⟨some 12, .not (.t 11), none⟩])
     (.cond (.t 12)
      (.seq (.reg [⟨some 2, .mov (.k (.str [])), none⟩])
       (.ret))
      (.skip)))
    (.seq (.dreg [false, false, false, false, true, true] [false, false, false, false, true, false] [⟨some 13, .bsl 9 1 4 (.str []) [(0, (.k (.str [97]))), (1, (.k (.str [98]))), (2, (.k (.str [99]))), (3, (.k (.str [100])))], none⟩,
        ⟨some 14, .mov (.t 3), none⟩,
        ⟨some 15, .slice 1 (.t 13) none (some (.t 14)), none⟩,
        ⟨some 16, .load 2 true (.t 1), none⟩,
        ⟨some 17, .call 11 [(.t 15), (.t 16)], none⟩,
        ⟨some 2, .mov (.t 17), none⟩])
     (.ret)))))⟩
theorem fok_spec_SetKey : FOk Tryd.prog 6 code_spec_SetKey := fok Tryd.func6 (by kernel_rfl)
def code_impl_SetKey : F := ⟨16, [.tmp 2],
 .seq (.reg [⟨some 1, .box (.t 0), none⟩,
    ⟨some 2, .mov (.k (.str [])), none⟩])
 (.seq (.seq (.reg [⟨some 4, .faddr 0 (.t 1), none⟩,
      ⟨some 5, .load 1 false (.t 4), none⟩,
      ⟨some 6, .len (.t 5), none⟩,
      ⟨some 7, .bin .eql (.t 6) (.k (.int .i64 0)), none⟩])
   (.cond (.t 7)
    (.seq (.reg [⟨some 2, .mov (.k (.str [45])), none⟩])
     (.ret))
    (.skip)))
  (.seq (.reg [⟨some 8, .bsl 9 1 4 (.str []) [(0, (.k (.str [97]))), (1, (.k (.str [98]))), (2, (.k (.str [99]))), (3, (.k (.str [100])))], none⟩,
      ⟨some 3, .mov (.t 8), none⟩])
   (.seq (.dreg [false, false, false, false, false, false, true, true] [false, false, true, false, false, false, true, false] [⟨some 9, .mov (.t 3), none⟩,
       ⟨some 10, .load 2 true (.t 1), none⟩,
       ⟨some 11, .call 21 [(.t 10)], none⟩,
       ⟨some 12, .min (.t 11) (.k (.int .i64 4)), none⟩,
       ⟨some 13, .slice 1 (.t 9) none (some (.t 12)), none⟩,
       ⟨some 14, .load 2 true (.t 1), none⟩,
       ⟨some 15, .call 13 [(.t 13), (.t 14)], none⟩,
       ⟨some 2, .mov (.t 15), none⟩])
    (.ret))))⟩
theorem fok_impl_SetKey : FOk Tryd.prog 8 code_impl_SetKey := fok Tryd.func8 (by kernel_rfl)
def keysS : List (List UInt8) := [[97], [98], [99], [100]]
def setKeyS (x : Strc) : List UInt8 := if x.nodes = [] then [45] else if 1 ≤ nvars x ∧ nvars x ≤ 4 then textS (keysS.take (nvars x)) x else []
theorem keys_ok (k : Nat) : szVarsOk (keysS.take k) := by
  refine ⟨?_, fun s hs => ?_⟩
  · have : (keysS.take k).length ≤ 4 := by rw [List.length_take]; simp [keysS]; omega
    omega
  · have := List.mem_of_mem_take hs
    simp only [keysS, List.mem_cons, List.not_mem_nil, or_false] at this
    rcases this with rfl | rfl | rfl | rfl <;> simp
theorem key_enc1 : mksl 1 [.str [97]] = encL 1 encStr (keysS.take 1) := (rfl)
theorem key_enc2 : mksl 1 [.str [97], .str [98]] = encL 1 encStr (keysS.take 2) := (rfl)
theorem key_enc3 : mksl 1 [.str [97], .str [98], .str [99]] = encL 1 encStr (keysS.take 3) := (rfl)
theorem key_enc4 : mksl 1 [.str [97], .str [98], .str [99], .str [100]] = encL 1 encStr (keysS.take 4) := (rfl)
@[simp] def ct_sSetKey : Ct := ⟨6, Strc, fun x => szStrc x ≤ 1048576, fun x => [encStrc x], fun x => .str (setKeyS x)⟩
set_option maxHeartbeats 4000000 in
theorem ok_sSetKey : ct_sSetKey.Ok Tryd.prog := by
  intro x hx
  change Strc at x
  change szStrc x ≤ 1048576 at hx
  have hT : TabOk Tryd.prog _ := tab_cons ok_l15Vars (tab_cons ok_l1In (tab_cons ok_sStrcText tab_nil))
  refine Ok.of_cw fok_spec_SetKey (go_ok hT ?_)
  by_cases h0 : x.nodes = []
  · simp [code_spec_SetKey, List.replicate, setKeyS, eq_true h0]
  have hz : (x.nodes = []) = False := eq_false h0
  by_cases h1 : 1 ≤ nvars x ∧ nvars x ≤ 4
  · have hr : setKeyS x = textS (keysS.take (nvars x)) x := by rw [setKeyS, if_neg h0, if_pos h1]
    have k1 := keys_ok 1
    have k2 := keys_ok 2
    have k3 := keys_ok 3
    have k4 := keys_ok 4
    have : nvars x = 1 ∨ nvars x = 2 ∨ nvars x = 3 ∨ nvars x = 4 := by omega
    rcases this with e | e | e | e <;> rw [e] at hr <;> simp [code_spec_SetKey, List.replicate, hz, e, hx, hr, key_enc1, key_enc2, key_enc3, key_enc4, k1, k2, k3, k4]
  · have hr : setKeyS x = [] := by rw [setKeyS, if_neg h0, if_neg h1]
    by_cases g : 1 ≤ nvars x
    · have g1 : (1 : Int) ≤ nvars x := by omega
      have g2 : ¬ ((nvars x : Int) ≤ 4) := by omega
      have g2n : ¬ (nvars x ≤ 4) := by omega
      simp [code_spec_SetKey, List.replicate, hz, g, g1, g2, g2n, hr]
    · have g1 : ¬ ((1 : Int) ≤ nvars x) := by omega
      simp [code_spec_SetKey, List.replicate, hz, g, g1, hr]
theorem text_none {x : Strc} : textS [] x = [] := by simp [textS, varsB]
theorem text_long {x : Strc} (h0 : x.nodes ≠ []) (h : 4 < nvars x) : textS (keysS.take 4) x = [] := by
  have : structB ((keysS.take 4).length : Nat) x = false := by
    cases hb : structB ((keysS.take 4).length : Nat) x
    · rfl
    · obtain ⟨-, h2⟩ := structB_node hb
      unfold nvars at h
      cases hn : x.nodes with
      | nil => exact absurd hn h0
      | cons n l =>
        rw [hn] at h h2
        have := (h2 n (by simp)).1
        simp at h
        omega
  unfold textS; rw [this]; simp
@[simp] def ct_pSetKey : Ct := ⟨8, Strc, fun x => szStrc x ≤ 1048576, fun x => [encStrc x], fun x => .str (setKeyS x)⟩
set_option maxHeartbeats 4000000 in
theorem ok_pSetKey : ct_pSetKey.Ok Tryd.prog := by
  intro x hx
  change Strc at x
  change szStrc x ≤ 1048576 at hx
  have hT : TabOk Tryd.prog _ := tab_cons ok_variables (tab_cons ok_pStrcText tab_nil)
  refine Ok.of_cw fok_impl_SetKey (go_ok hT ?_)
  by_cases h0 : x.nodes = []
  · simp [code_impl_SetKey, List.replicate, setKeyS, eq_true h0]
  have hz : (x.nodes = []) = False := eq_false h0
  have k0 := keys_ok 0
  have k1 := keys_ok 1
  have k2 := keys_ok 2
  have k3 := keys_ok 3
  have k4 := keys_ok 4
  have key_enc0 : mksl 1 [] = encL 1 encStr (keysS.take 0) := (rfl)
  by_cases h1 : 1 ≤ nvars x ∧ nvars x ≤ 4
  · have hr : setKeyS x = textS (keysS.take (nvars x)) x := by rw [setKeyS, if_neg h0, if_pos h1]
    have : nvars x = 1 ∨ nvars x = 2 ∨ nvars x = 3 ∨ nvars x = 4 := by omega
    rcases this with e | e | e | e <;> rw [e] at hr <;> simp [code_impl_SetKey, List.replicate, hz, e, hx, hr, key_enc1, key_enc2, key_enc3, key_enc4, k1, k2, k3, k4]
  · have hr : setKeyS x = [] := by rw [setKeyS, if_neg h0, if_neg h1]
    by_cases g : 4 < nvars x
    · have g1 : (4 : Int) < nvars x := by omega
      have ht := text_long h0 g
      simp [code_impl_SetKey, List.replicate, hz, g, g1, hr, hx, key_enc4, k4, ht]
    · have e : nvars x = 0 := by omega
      have ht := text_none (x := x)
      have k00 : szVarsOk [] := by simpa using keys_ok 0
      simp [code_impl_SetKey, List.replicate, hz, e, hr, hx, key_enc0, k0, k00, ht]
def code_laws_FnExactSetKey : F := ⟨27, [.tmp 2],
 .seq (.reg [⟨some 1, .box (.t 0), none⟩,
    ⟨some 2, .mov (.k (.bool false)), none⟩])
 (.seq (.reg [⟨some 3, .mov (.k (.int .i64 1048576)), none⟩])
  (.seq (.reg [⟨some 7, .load 2 true (.t 1), none⟩,
      ⟨some 8, .mov (.t 3), none⟩,
      ⟨some 9, .call 5 [(.t 7), (.t 8)], none⟩,
      ⟨some 3, .mov (.t 9), none⟩])
   (.seq (.seq (.reg [⟨some 10, .mov (.t 3), none⟩,
        ⟨some 11, .bin .lss (.t 10) (.k (.int .i64 0)), none⟩])
     (.cond (.t 11)
      (.seq (.reg [⟨some 2, .mov (.k (.bool true)), none⟩])
       (.ret))
      (.skip)))
    (.seq (.reg [⟨some 12, .load 2 true (.t 1), none⟩,
        ⟨some 13, .call 7 [(.t 12)], none⟩,
        ⟨some 14, .call 6 [(.t 13)], none⟩,
        ⟨some 4, .mov (.t 14), none⟩])
     (.seq (.reg [⟨some 15, .load 2 true (.t 1), none⟩,
         ⟨some 16, .call 7 [(.t 15)], none⟩,
         ⟨some 5, .alloc [(.sl .nil 0 []), (.sl .nil 0 [])], none⟩,
         ⟨none, .store 2 (.t 5) (.t 16), none⟩])
      (.seq (.reg [⟨some 17, .load 2 true (.t 5), none⟩,
          ⟨some 18, .call 8 [(.t 17)], none⟩,
          ⟨some 6, .mov (.t 18), none⟩])
       (.seq (.seq (.reg [⟨some 19, .mov (.t 6), none⟩,
            ⟨some 20, .mov (.t 4), none⟩,
            ⟨some 21, .bin .neq (.t 19) (.t 20), none⟩])
         (.cond (.t 21)
          (.seq (.reg [⟨some 2, .mov (.k (.bool false)), none⟩])
           (.ret))
          (.skip)))
        (.seq (.seq (.dreg [false, false, false, true, true] [false, false, true, true, false] [⟨some 22, .load 2 true (.t 5), none⟩,
             ⟨some 23, .load 2 true (.t 1), none⟩,
             ⟨some 24, .call 7 [(.t 23)], none⟩,
             ⟨some 25, .call 9 [(.t 22), (.t 24)], none⟩,
             ⟨some 26, .not (.t 25), none⟩])
          (.cond (.t 26)
           (.seq (.reg [⟨some 2, .mov (.k (.bool false)), none⟩])
            (.ret))
           (.skip)))
         (.seq (.reg [⟨some 2, .mov (.k (.bool true)), none⟩])
          (.ret))))))))))⟩
theorem fok_laws_FnExactSetKey : FOk Tryd.prog 3 code_laws_FnExactSetKey := fok Tryd.func3 (by kernel_rfl)
set_option maxHeartbeats 4000000 in
set_option maxRecDepth 100000 in
theorem ok_lawSetKey (x : Strc) : Ok Tryd.prog 3 [encStrc x] (.bool true) := by
  by_cases h1 : (szStrc x : Int) ≤ 1048576
  case neg =>
    refine Ok.of_cw fok_laws_FnExactSetKey (go_ok (tab_cons ok_szStrc tab_nil) ?_)
    simp [code_laws_FnExactSetKey, List.replicate, left_neg (by omega : (1048576:Int) < szStrc x)]
  have l1 := left_ge h1
  have hx : szStrc x ≤ 1048576 := by omega
  refine Ok.of_cw fok_laws_FnExactSetKey (go_ok (tab_cons ok_szStrc (tab_cons ok_toStrc (tab_cons ok_sSetKey (tab_cons ok_pSetKey (tab_cons ok_eqStrc tab_nil))))) ?_)
  have n1 : ¬ (1048576 - (szStrc x : Int) < 0) := by omega
  simp [code_laws_FnExactSetKey, List.replicate, l1, hx, n1]
def code_laws_FnExactStructureText : F := ⟨45, [.tmp 4],
 .seq (.reg [⟨some 3, .box (.t 1), none⟩,
    ⟨some 4, .mov (.k (.bool false)), none⟩])
 (.seq (.reg [⟨some 5, .mov (.k (.int .i64 1048576)), none⟩])
  (.seq (.reg [⟨some 10, .mov (.t 0), none⟩,
      ⟨some 11, .mov (.t 5), none⟩,
      ⟨some 12, .call 10 [(.t 10), (.t 11)], none⟩,
      ⟨some 5, .mov (.t 12), none⟩])
   (.seq (.seq (.reg [⟨some 13, .mov (.t 5), none⟩,
        ⟨some 14, .bin .lss (.t 13) (.k (.int .i64 0)), none⟩])
     (.cond (.t 14)
      (.seq (.reg [⟨some 4, .mov (.k (.bool true)), none⟩])
       (.ret))
      (.skip)))
    (.seq (.reg [⟨some 15, .load 2 true (.t 3), none⟩,
        ⟨some 16, .mov (.t 5), none⟩,
        ⟨some 17, .call 5 [(.t 15), (.t 16)], none⟩,
        ⟨some 5, .mov (.t 17), none⟩])
     (.seq (.seq (.reg [⟨some 18, .mov (.t 5), none⟩,
          ⟨some 19, .bin .lss (.t 18) (.k (.int .i64 0)), none⟩])
       (.cond (.t 19)
        (.seq (.reg [⟨some 4, .mov (.k (.bool true)), none⟩])
         (.ret))
        (.skip)))
      (.seq (.dreg [false, false, false, true, true, true] [false, true, false, true, true, false] [⟨some 20, .mov (.t 0), none⟩,
          ⟨some 21, .call 12 [(.t 20)], none⟩,
          ⟨some 22, .load 2 true (.t 3), none⟩,
          ⟨some 23, .call 7 [(.t 22)], none⟩,
          ⟨some 24, .call 11 [(.t 21), (.t 23)], none⟩,
          ⟨some 6, .mov (.t 24), none⟩])
       (.seq (.reg [⟨some 25, .mov (.t 0), none⟩,
           ⟨some 26, .call 12 [(.t 25)], none⟩,
           ⟨some 7, .mov (.t 26), none⟩])
        (.seq (.reg [⟨some 27, .load 2 true (.t 3), none⟩,
            ⟨some 28, .call 7 [(.t 27)], none⟩,
            ⟨some 8, .alloc [(.sl .nil 0 []), (.sl .nil 0 [])], none⟩,
            ⟨none, .store 2 (.t 8) (.t 28), none⟩])
         (.seq (.reg [⟨some 29, .mov (.t 7), none⟩,
             ⟨some 30, .load 2 true (.t 8), none⟩,
             ⟨some 31, .call 13 [(.t 29), (.t 30)], none⟩,
             ⟨some 9, .mov (.t 31), none⟩])
          (.seq (.seq (.reg [⟨some 32, .mov (.t 9), none⟩,
               ⟨some 33, .mov (.t 6), none⟩,
               ⟨some 34, .bin .neq (.t 32) (.t 33), none⟩])
            (.cond (.t 34)
             (.seq (.reg [⟨some 4, .mov (.k (.bool false)), none⟩])
              (.ret))
             (.skip)))
           (.seq (.seq (.reg [⟨some 35, .mov (.t 7), none⟩,
                ⟨some 36, .mov (.t 0), none⟩,
                ⟨some 37, .call 12 [(.t 36)], none⟩,
                ⟨some 38, .call 14 [(.t 35), (.t 37)], none⟩,
                ⟨some 39, .not (.t 38), none⟩])
             (.cond (.t 39)
              (.seq (.reg [⟨some 4, .mov (.k (.bool false)), none⟩])
               (.ret))
              (.skip)))
            (.seq (.seq (.dreg [false, false, false, true, true] [false, false, true, true, false] [⟨some 40, .load 2 true (.t 8), none⟩,
                 ⟨some 41, .load 2 true (.t 3), none⟩,
                 ⟨some 42, .call 7 [(.t 41)], none⟩,
                 ⟨some 43, .call 9 [(.t 40), (.t 42)], none⟩,
                 ⟨some 44, .not (.t 43), none⟩])
              (.cond (.t 44)
               (.seq (.reg [⟨some 4, .mov (.k (.bool false)), none⟩])
                (.ret))
               (.skip)))
             (.seq (.reg [⟨some 4, .mov (.k (.bool true)), none⟩])
              (.ret))))))))))))))⟩
theorem fok_laws_FnExactStructureText : FOk Tryd.prog 4 code_laws_FnExactStructureText := fok Tryd.func4 (by kernel_rfl)
set_option maxHeartbeats 4000000 in
set_option maxRecDepth 100000 in
theorem ok_lawStructureText (vars : List (List UInt8)) (hv : ∀ s ∈ vars, s.length ≤ 9223372036854775807) (x : Strc) :
    Ok Tryd.prog 4 [encL 1 encStr vars, encStrc x] (.bool true) := by
  have hT : TabOk Tryd.prog _ := tab_cons ok_szStrs (tab_cons ok_szStrc (tab_cons ok_toStrs (tab_cons ok_toStrc (tab_cons ok_sStrcText (tab_cons ok_pStrcText (tab_cons ok_eqStrs (tab_cons ok_eqStrc tab_nil)))))))
  have q1 : strsOk vars := hv
  refine Ok.of_cw fok_laws_FnExactStructureText ?_
  simp only [code_laws_FnExactStructureText, frame, List.length_cons, List.length_nil, List.replicate, Nat.reduceSub, Nat.reduceAdd, List.cons_append, List.nil_append]
  refine cw_seq (go_ok hT ?_)
  simp
  refine cw_seq (go_ok hT ?_)
  simp
  by_cases h1 : (szStrs vars : Int) ≤ 1048576
  case neg =>
    refine cw_seq (go_ok hT ?_)
    simp [q1, left_neg (by omega : (1048576:Int) < szStrs vars)]
    refine cw_seq (go_ok hT ?_)
    simp
  have l1 := left_ge h1
  have n1 : ¬ (1048576 - (szStrs vars : Int) < 0) := by omega
  have n1' : ¬ (1048576 < (szStrs vars : Int)) := by omega
  have p1 : (0 : Int) ≤ 1048576 - szStrs vars := by omega
  refine cw_seq (go_ok hT ?_)
  simp [q1, l1]
  refine cw_seq (go_ok hT ?_)
  simp [n1, n1']
  have hvl : vars.length ≤ szStrs vars := by unfold szStrs; omega
  have hvs : szVarsOk vars := ⟨by omega, fun s hs => by
    have h := sum_mem List.length hs
    unfold szStrs at h1
    omega⟩
  by_cases h3 : (szStrc x : Int) ≤ 1048576 - szStrs vars
  case neg =>
    refine cw_seq (go_ok hT ?_)
    simp [left_neg (by omega : (1048576:Int) - szStrs vars < szStrc x)]
    refine ⟨by omega, by omega, ?_⟩
    refine cw_seq (go_ok hT ?_)
    simp
  have l3 := left_ge h3
  have n3 : ¬ (1048576 - (szStrs vars : Int) - szStrc x < 0) := by omega
  have hx : szStrc x ≤ 1048576 := by omega
  have hvl2 : vars.length ≤ 1048576 := by omega
  refine cw_seq (go_ok hT ?_)
  simp [l3]
  refine ⟨by omega, by omega, ?_⟩
  refine cw_seq (go_ok hT ?_)
  simp [n3]
  refine cw_seq (go_ok hT ?_)
  simp [hx, hvl2, hvs]
  refine cw_seq (go_ok hT ?_)
  simp [hvl2]
  refine cw_seq (go_ok hT ?_)
  simp [hx]
  refine cw_seq (go_ok hT ?_)
  simp [hx, hvs]
  refine go_ok hT ?_
  simp [hx, hvl2]
end Go.Vm
