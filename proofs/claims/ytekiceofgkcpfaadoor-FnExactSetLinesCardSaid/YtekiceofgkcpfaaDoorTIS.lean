/- IsStructure of both. No condition. -/
import Derived.Test.YtekiceofgkcpfaaDoorTTR
import Derived.Test.YtekiceofgkcpfaaDoorTDE
import Derived.Test.YtekiceofgkcpfaaDoorTIXI
import Derived.Test.YtekiceofgkcpfaaDoorTPB
import Derived.Test.YtekiceofgkcpfaaDoorTL2
set_option linter.unusedSimpArgs false
set_option linter.unusedVariables false
namespace Go.Vm
open Go.Proofs
def code_spec_l12Truths : F := ⟨16, [.tmp 2],
 .seq (.reg [⟨some 2, .mov (.k (.bool false)), none⟩])
 (.seq (.seq (.reg [⟨some 3, .mov (.k (.int .i64 0)), none⟩])
   (.block 0 (.loop (.seq (.seq (.reg [⟨some 4, .mov (.t 3), none⟩,
          ⟨some 5, .mov (.t 0), none⟩,
          ⟨some 6, .len (.t 5), none⟩,
          ⟨some 7, .bin .lss (.t 4) (.t 6), none⟩])
       (.cond (.t 7)
        (.skip)
        (.exit 0)))
      (.seq (.block 1 (.seq (.reg [⟨some 10, .mov (.t 0), none⟩,
            ⟨some 11, .mov (.t 3), none⟩,
            ⟨some 12, .iaddr 1 (.t 10) (.t 11), none⟩,
            ⟨some 13, .load 1 false (.t 12), none⟩,
            ⟨some 14, .call 102 [(.t 13)], none⟩,
            ⟨some 15, .not (.t 14), none⟩])
         (.cond (.t 15)
          (.seq (.reg [⟨some 2, .mov (.k (.bool false)), none⟩])
           (.ret))
          (.skip))))
       (.reg [⟨some 8, .mov (.t 3), none⟩,
          ⟨some 9, .bin .add (.t 8) (.k (.int .i64 1)), none⟩,
          ⟨some 3, .mov (.t 9), none⟩]))))))
  (.seq (.reg [⟨some 2, .mov (.k (.bool true)), none⟩])
   (.ret)))⟩
theorem fok_spec_l12Truths : FOk Tryd.prog 101 code_spec_l12Truths := fok Tryd.func101 (by kernel_rfl)
def code_spec_IsStructure : F := ⟨77, [.tmp 4],
 .seq (.reg [⟨some 3, .box (.t 1), none⟩,
    ⟨some 4, .mov (.k (.bool false)), none⟩])
 (.seq (.reg [⟨some 8, .faddr 0 (.t 3), none⟩,
     ⟨some 9, .load 1 false (.t 8), none⟩,
     ⟨some 10, .len (.t 9), none⟩,
     ⟨some 5, .mov (.t 10), none⟩])
  (.seq (.seq (.reg [⟨some 6, .mov (.k (.int .i64 0)), none⟩])
    (.block 0 (.loop (.seq (.seq (.reg [⟨some 11, .mov (.t 6), none⟩,
           ⟨some 12, .mov (.t 5), none⟩,
           ⟨some 13, .bin .lss (.t 11) (.t 12), none⟩])
        (.cond (.t 13)
         (.skip)
         (.exit 0)))
       (.seq (.block 1 (.seq (.reg [⟨some 16, .faddr 0 (.t 3), none⟩,
             ⟨some 17, .load 1 false (.t 16), none⟩,
             ⟨some 18, .mov (.t 6), none⟩,
             ⟨some 19, .iaddr 4 (.t 17) (.t 18), none⟩,
             ⟨some 20, .load 4 true (.t 19), none⟩,
             ⟨some 7, .alloc [(.sl .nil 0 []), (.sl .nil 0 []), (.int .i64 0), (.int .i64 0)], none⟩,
             ⟨none, .store 4 (.t 7) (.t 20), none⟩])
          (.seq (.reg [⟨some 21, .faddr 0 (.t 7), none⟩,
              ⟨some 22, .load 1 false (.t 21), none⟩,
              ⟨some 23, .len (.t 22), none⟩,
              ⟨some 24, .mov (.t 0), none⟩,
              ⟨some 25, .bin .neq (.t 23) (.t 24), none⟩,
              ⟨some 26, .mov (.t 25), none⟩,
              ⟨some 27, .faddr 1 (.t 7), some (26, false)⟩,
              ⟨some 28, .load 1 false (.t 27), some (26, false)⟩,
              ⟨some 29, .len (.t 28), some (26, false)⟩,
              ⟨some 30, .mov (.t 0), some (26, false)⟩,
              ⟨some 31, .bin .neq (.t 29) (.t 30), some (26, false)⟩,
              ⟨some 32, .pick (.t 26) (.k (.bool true)) (.t 31), none⟩,
              ⟨some 33, .mov (.t 32), none⟩,
              ⟨some 34, .faddr 0 (.t 7), some (33, false)⟩,
              ⟨some 35, .load 1 false (.t 34), some (33, false)⟩,
              ⟨some 36, .call 101 [(.t 35)], some (33, false)⟩,
              ⟨some 37, .not (.t 36), some (33, false)⟩,
              ⟨some 38, .pick (.t 33) (.k (.bool true)) (.t 37), none⟩,
              ⟨some 39, .mov (.t 38), none⟩,
              ⟨some 40, .faddr 1 (.t 7), some (39, false)⟩,
              ⟨some 41, .load 1 false (.t 40), some (39, false)⟩,
              ⟨some 42, .call 101 [(.t 41)], some (39, false)⟩,
              ⟨some 43, .not (.t 42), some (39, false)⟩,
              ⟨some 44, .pick (.t 39) (.k (.bool true)) (.t 43), none⟩,
              ⟨some 45, .mov (.t 44), none⟩,
              ⟨some 46, .faddr 2 (.t 7), some (45, false)⟩,
              ⟨some 47, .load 1 false (.t 46), some (45, false)⟩,
              ⟨some 48, .call 102 [(.t 47)], some (45, false)⟩,
              ⟨some 49, .not (.t 48), some (45, false)⟩,
              ⟨some 50, .pick (.t 45) (.k (.bool true)) (.t 49), none⟩,
              ⟨some 51, .mov (.t 50), none⟩,
              ⟨some 52, .faddr 3 (.t 7), some (51, false)⟩,
              ⟨some 53, .load 1 false (.t 52), some (51, false)⟩,
              ⟨some 54, .call 70 [(.t 53), (.k (.int .i64 0)), (.k (.int .i64 1))], some (51, false)⟩,
              ⟨some 55, .not (.t 54), some (51, false)⟩,
              ⟨some 56, .pick (.t 51) (.k (.bool true)) (.t 55), none⟩])
           (.cond (.t 56)
            (.seq (.reg [⟨some 4, .mov (.k (.bool false)), none⟩])
             (.ret))
            (.skip)))))
        (.reg [⟨some 14, .mov (.t 6), none⟩,
           ⟨some 15, .bin .add (.t 14) (.k (.int .i64 1)), none⟩,
           ⟨some 6, .mov (.t 15), none⟩]))))))
   (.seq (.reg [⟨some 57, .mov (.t 0), none⟩,
       ⟨some 58, .call 70 [(.t 57), (.k (.int .i64 1)), (.k (.int .i64 4))], none⟩,
       ⟨some 59, .mov (.t 58), none⟩,
       ⟨some 60, .mov (.t 5), some (59, true)⟩,
       ⟨some 61, .bin .leq (.t 60) (.k (.int .i64 10)), some (59, true)⟩,
       ⟨some 62, .pick (.t 59) (.t 61) (.k (.bool false)), none⟩,
       ⟨some 63, .mov (.t 62), none⟩,
       ⟨some 64, .faddr 1 (.t 3), some (63, true)⟩,
       ⟨some 65, .load 1 false (.t 64), some (63, true)⟩,
       ⟨some 66, .len (.t 65), some (63, true)⟩,
       ⟨some 67, .mov (.t 5), some (63, true)⟩,
       ⟨some 68, .mov (.t 5), some (63, true)⟩,
       ⟨some 69, .bin .mul (.t 67) (.t 68), some (63, true)⟩,
       ⟨some 70, .bin .eql (.t 66) (.t 69), some (63, true)⟩,
       ⟨some 71, .pick (.t 63) (.t 70) (.k (.bool false)), none⟩,
       ⟨some 72, .mov (.t 71), none⟩,
       ⟨some 73, .faddr 1 (.t 3), some (72, true)⟩,
       ⟨some 74, .load 1 false (.t 73), some (72, true)⟩,
       ⟨some 75, .call 101 [(.t 74)], some (72, true)⟩,
       ⟨some 76, .pick (.t 72) (.t 75) (.k (.bool false)), none⟩,
       ⟨some 4, .mov (.t 76), none⟩])
    (.ret))))⟩
theorem fok_spec_IsStructure : FOk Tryd.prog 81 code_spec_IsStructure := fok Tryd.func81 (by kernel_rfl)
def code_impl_areTruths_1 : F := ⟨6, [.tmp 2],
 .seq (.reg [⟨some 2, .mov (.k (.bool false)), none⟩])
 (.seq (.reg [⟨some 3, .mov (.t 0), none⟩,
     ⟨some 4, .call 110 [(.t 3)], none⟩,
     ⟨some 5, .not (.t 4), none⟩,
     ⟨some 2, .mov (.t 5), none⟩])
  (.ret))⟩
theorem fok_impl_areTruths_1 : FOk Tryd.prog 121 code_impl_areTruths_1 := fok Tryd.func121 (by kernel_rfl)
def code_impl_areTruths : F := ⟨6, [.tmp 2],
 .seq (.reg [⟨some 2, .mov (.k (.bool false)), none⟩])
 (.seq (.reg [⟨some 3, .mov (.t 0), none⟩,
     ⟨some 4, .call 95 [(.t 3), (.k (.fn 121 []))], none⟩,
     ⟨some 5, .not (.t 4), none⟩,
     ⟨some 2, .mov (.t 5), none⟩])
  (.ret))⟩
theorem fok_impl_areTruths : FOk Tryd.prog 107 code_impl_areTruths := fok Tryd.func107 (by kernel_rfl)
def code_impl_IsStructure_1 : F := ⟨44, [.tmp 3],
 .seq (.reg [⟨some 2, .box (.t 0), none⟩,
    ⟨some 3, .mov (.k (.bool false)), none⟩])
 (.seq (.reg [⟨some 4, .faddr 0 (.t 2), none⟩,
     ⟨some 5, .load 1 false (.t 4), none⟩,
     ⟨some 6, .len (.t 5), none⟩,
     ⟨some 7, .load 1 false (.t 1), none⟩,
     ⟨some 8, .bin .neq (.t 6) (.t 7), none⟩,
     ⟨some 9, .mov (.t 8), none⟩,
     ⟨some 10, .faddr 1 (.t 2), some (9, false)⟩,
     ⟨some 11, .load 1 false (.t 10), some (9, false)⟩,
     ⟨some 12, .len (.t 11), some (9, false)⟩,
     ⟨some 13, .load 1 false (.t 1), some (9, false)⟩,
     ⟨some 14, .bin .neq (.t 12) (.t 13), some (9, false)⟩,
     ⟨some 15, .pick (.t 9) (.k (.bool true)) (.t 14), none⟩,
     ⟨some 16, .mov (.t 15), none⟩,
     ⟨some 17, .faddr 0 (.t 2), some (16, false)⟩,
     ⟨some 18, .load 1 false (.t 17), some (16, false)⟩,
     ⟨some 19, .call 107 [(.t 18)], some (16, false)⟩,
     ⟨some 20, .not (.t 19), some (16, false)⟩,
     ⟨some 21, .pick (.t 16) (.k (.bool true)) (.t 20), none⟩,
     ⟨some 22, .mov (.t 21), none⟩,
     ⟨some 23, .faddr 1 (.t 2), some (22, false)⟩,
     ⟨some 24, .load 1 false (.t 23), some (22, false)⟩,
     ⟨some 25, .call 107 [(.t 24)], some (22, false)⟩,
     ⟨some 26, .not (.t 25), some (22, false)⟩,
     ⟨some 27, .pick (.t 22) (.k (.bool true)) (.t 26), none⟩,
     ⟨some 28, .mov (.t 27), none⟩,
     ⟨some 29, .faddr 2 (.t 2), some (28, false)⟩,
     ⟨some 30, .load 1 false (.t 29), some (28, false)⟩,
     ⟨some 31, .call 110 [(.t 30)], some (28, false)⟩,
     ⟨some 32, .not (.t 31), some (28, false)⟩,
     ⟨some 33, .pick (.t 28) (.k (.bool true)) (.t 32), none⟩,
     ⟨some 34, .mov (.t 33), none⟩,
     ⟨some 35, .faddr 3 (.t 2), some (34, false)⟩,
     ⟨some 36, .load 1 false (.t 35), some (34, false)⟩,
     ⟨some 37, .bin .neq (.t 36) (.k (.int .i64 0)), some (34, false)⟩,
     ⟨some 38, .mov (.t 37), some (34, false)⟩,
     ⟨some 39, .faddr 3 (.t 2), some (38, true)⟩,
     ⟨some 40, .load 1 false (.t 39), some (38, true)⟩,
     ⟨some 41, .bin .neq (.t 40) (.k (.int .i64 1)), some (38, true)⟩,
     ⟨some 42, .pick (.t 38) (.t 41) (.k (.bool false)), some (34, false)⟩,
     ⟨some 43, .pick (.t 34) (.k (.bool true)) (.t 42), none⟩,
     ⟨some 3, .mov (.t 43), none⟩])
  (.ret))⟩
theorem fok_impl_IsStructure_1 : FOk Tryd.prog 109 code_impl_IsStructure_1 := fok Tryd.func109 (by kernel_rfl)
def code_impl_IsStructure : F := ⟨38, [.tmp 4],
 .seq (.reg [⟨some 2, .box (.t 0), none⟩,
    ⟨some 3, .box (.t 1), none⟩,
    ⟨some 4, .mov (.k (.bool false)), none⟩])
 (.seq (.seq (.reg [⟨some 5, .load 1 false (.t 2), none⟩,
      ⟨some 6, .call 68 [(.t 5), (.k (.int .i64 1)), (.k (.int .i64 4))], none⟩,
      ⟨some 7, .not (.t 6), none⟩,
      ⟨some 8, .mov (.t 7), none⟩,
      ⟨some 9, .faddr 0 (.t 3), some (8, false)⟩,
      ⟨some 10, .load 1 false (.t 9), some (8, false)⟩,
      ⟨some 11, .len (.t 10), some (8, false)⟩,
      ⟨some 12, .bin .gtr (.t 11) (.k (.int .i64 10)), some (8, false)⟩,
      ⟨some 13, .pick (.t 8) (.k (.bool true)) (.t 12), none⟩,
      ⟨some 14, .mov (.t 13), none⟩,
      ⟨some 15, .faddr 1 (.t 3), some (14, false)⟩,
      ⟨some 16, .load 1 false (.t 15), some (14, false)⟩,
      ⟨some 17, .len (.t 16), some (14, false)⟩,
      ⟨some 18, .faddr 0 (.t 3), some (14, false)⟩,
      ⟨some 19, .load 1 false (.t 18), some (14, false)⟩,
      ⟨some 20, .len (.t 19), some (14, false)⟩,
      ⟨some 21, .faddr 0 (.t 3), some (14, false)⟩,
      ⟨some 22, .load 1 false (.t 21), some (14, false)⟩,
      ⟨some 23, .len (.t 22), some (14, false)⟩,
      ⟨some 24, .bin .mul (.t 20) (.t 23), some (14, false)⟩,
      ⟨some 25, .bin .neq (.t 17) (.t 24), some (14, false)⟩,
      ⟨some 26, .pick (.t 14) (.k (.bool true)) (.t 25), none⟩,
      ⟨some 27, .mov (.t 26), none⟩,
      ⟨some 28, .faddr 1 (.t 3), some (27, false)⟩,
      ⟨some 29, .load 1 false (.t 28), some (27, false)⟩,
      ⟨some 30, .call 107 [(.t 29)], some (27, false)⟩,
      ⟨some 31, .not (.t 30), some (27, false)⟩,
      ⟨some 32, .pick (.t 27) (.k (.bool true)) (.t 31), none⟩])
   (.cond (.t 32)
    (.seq (.reg [⟨some 4, .mov (.k (.bool false)), none⟩])
     (.ret))
    (.skip)))
  (.seq (.reg [⟨some 33, .faddr 0 (.t 3), none⟩,
      ⟨some 34, .load 1 false (.t 33), none⟩,
      ⟨some 35, .mkfn 109 [(.t 2)], none⟩,
      ⟨some 36, .call 108 [(.t 34), (.t 35)], none⟩,
      ⟨some 37, .not (.t 36), none⟩,
      ⟨some 4, .mov (.t 37), none⟩])
   (.ret)))⟩
theorem fok_impl_IsStructure : FOk Tryd.prog 84 code_impl_IsStructure := fok Tryd.func84 (by kernel_rfl)
def notT (a : Int) : Bool := !isTruth a
def truthsB (l : List Int) : Bool := !l.any notT
def badN (v : Int) (x : Node) : Bool := !((((decide ((x.vars.length : Int) = v) && decide ((x.reach.length : Int) = v)) && (truthsB x.vars && truthsB x.reach)) && isTruth x.shared) && (decide (0 ≤ x.many) && decide (x.many ≤ 1)))
def structB (v : Int) (s : Strc) : Bool := (((((decide (1 ≤ v) && decide (v ≤ 4)) && decide ((s.nodes.length : Int) ≤ 10)) && decide ((s.next.length : Int) = (s.nodes.length : Int) * (s.nodes.length : Int))) && truthsB s.next)) && !s.nodes.any (badN v)
@[simp] def ct_l12Truths : Ct := ⟨101, List Int, fun _ => True, fun x => [encL 1 encInt x], fun x => .bool (truthsB x)⟩
theorem ok_l12Truths : ct_l12Truths.Ok Tryd.prog := by
  rintro xs -
  change List Int at xs
  refine Ok.lens fun hl => Ok.of_cw fok_spec_l12Truths (go_ok tab_nil ?_)
  have hl : lensOkL [encL 1 encInt xs] := hl
  rw [lensOkL_cons, lensOk_encL] at hl
  have hl := hl.1.1
  simp [code_spec_l12Truths, List.replicate]
  refine cw_round (fun (i : Nat) => ⟨slots 16 [(0, encL 1 encInt xs), (3, .int .i64 i)], []⟩)
    (fun i => i ≤ xs.length ∧ noHit notT xs i) (fun i => xs.length - i) 0 ⟨by omega, noHit_zero⟩ ?_ ?_
  · exact weak_seal 0 (by omega) (by simp) (by simp [List.replicate])
  · rintro N hN i ⟨hi, hn⟩
    have hw : i < xs.length → IntKind.i64.wrap ((i : Int) + 1) = ((i + 1 : Nat) : Int) := fun h => by rw [wrap_i64] <;> omega
    refine go_ok (tab_cons ok_sIsTruth tab_nil) ?_
    by_cases h : i < xs.length
    · have h2 : ¬ xs.length ≤ i := by omega
      cases e : isTruth xs[i]
      · have hf : truthsB xs = false := by unfold truthsB; rw [any_hit h (by simp [notT, e])]; rfl
        simp [List.replicate, hw, h, h2, e, hf]
      · simp [List.replicate, hw, h, h2, e]
        refine hN i (i + 1) _ ⟨by omega, noHit_succ hn h (by simp [notT, e])⟩ (by omega) (weak_seal 0 (by omega) ?_ ?_)
        · simp
        · simp [List.replicate]
    · have h2 : xs.length ≤ i := by omega
      have hf : truthsB xs = true := by unfold truthsB; rw [any_none hn h2]; rfl
      simp [List.replicate, h, h2, hf]
@[simp] def ct_areTruths1 : Ct := ⟨121, Int, fun _ => True, fun x => [.int .i64 x], fun x => .bool (notT x)⟩
theorem ok_areTruths1 : ct_areTruths1.Ok Tryd.prog := by
  rintro a -
  change Int at a
  refine Ok.of_cw fok_impl_areTruths_1 (go_ok (tab_cons ok_pIsTruth tab_nil) ?_)
  simp [code_impl_areTruths_1, List.replicate, notT]
@[simp] def ct_areTruths : Ct := ⟨107, List Int, fun _ => True, fun x => [encL 1 encInt x], fun x => .bool (truthsB x)⟩
theorem ok_areTruths : ct_areTruths.Ok Tryd.prog := by
  rintro xs -
  change List Int at xs
  have hc : callable Tryd.prog 121 = true := by kernel_rfl
  refine Ok.of_cw fok_impl_areTruths (go_ok (tab_cons ok_ContainsFuncI tab_nil) ?_)
  simp [code_impl_areTruths, List.replicate, hc, capOk, AV.isFn]
  exact ⟨notT, fun a _ => ok_areTruths1 a trivial, by simp [truthsB]⟩
@[simp] def ct_IsStr1 : Ct := ⟨109, Node × Int, fun _ => True, fun x => [encNode x.1, .pro [.int .i64 x.2]], fun x => .bool (badN x.2 x.1)⟩
set_option maxHeartbeats 2000000 in
theorem ok_IsStr1 : ct_IsStr1.Ok Tryd.prog := by
  rintro ⟨⟨a, b, c, d⟩, v⟩ -
  change Int at v
  have hT : TabOk Tryd.prog _ := tab_cons ok_areTruths (tab_cons ok_pIsTruth tab_nil)
  refine Ok.of_cw fok_impl_IsStructure_1 ?_
  simp only [code_impl_IsStructure_1, frame, List.length_cons, List.length_nil, List.replicate, Nat.reduceSub, Nat.reduceAdd, List.cons_append, List.nil_append]
  refine cw_seq (go_ok hT ?_); simp [List.replicate]
  refine go_ok hT ?_
  by_cases h1 : (a.length : Int) = v
  case neg => simp [List.replicate, badN, h1]
  by_cases h2 : (b.length : Int) = v
  case neg => simp [List.replicate, badN, h1, h2]
  cases h3 : truthsB a
  case false => simp [List.replicate, badN, h1, h2, h3]
  cases h4 : truthsB b
  case false => simp [List.replicate, badN, h1, h2, h3, h4]
  cases h5 : isTruth c
  case false => simp [List.replicate, badN, h1, h2, h3, h4, h5]
  by_cases h6 : d = 0
  case pos => subst h6; simp [List.replicate, badN, h1, h2, h3, h4, h5]
  by_cases h7 : d = 1
  case pos => subst h7; simp [List.replicate, badN, h1, h2, h3, h4, h5]
  have h8 : 0 ≤ d → 1 < d := by omega
  simp [List.replicate, badN, h1, h2, h3, h4, h5, h6, h7]
  omega
@[simp] def ct_pIsStructure : Ct := ⟨84, Int × Strc, fun x => szStrc x.2 ≤ 1048576, fun x => [.int .i64 x.1, encStrc x.2], fun x => .bool (structB x.1 x.2)⟩
set_option maxHeartbeats 2000000 in
theorem ok_pIsStructure : ct_pIsStructure.Ok Tryd.prog := by
  rintro ⟨v, ⟨ns, nx⟩⟩ hx
  have hx' : szStrc ⟨ns, nx⟩ ≤ 1048576 := hx
  have hsl := strc_le ⟨ns, nx⟩
  simp only at hsl
  have hc : callable Tryd.prog 109 = true := by kernel_rfl
  have hmul : IntKind.i64.wrap ((ns.length : Int) * (ns.length : Int)) = (ns.length : Int) * (ns.length : Int) := by
    have h0 : ns.length * ns.length ≤ 1048576 * 1048576 := Nat.mul_le_mul (by omega) (by omega)
    have h1 : ((ns.length * ns.length : Nat) : Int) = (ns.length : Int) * (ns.length : Int) := by push_cast; rfl
    rw [← h1, wrap_i64] <;> omega
  have hT : TabOk Tryd.prog _ := tab_cons ok_within (tab_cons ok_areTruths (tab_cons ok_ContainsFuncN tab_nil))
  refine Ok.of_cw fok_impl_IsStructure ?_
  simp only [code_impl_IsStructure, frame, List.length_cons, List.length_nil, List.replicate, Nat.reduceSub, Nat.reduceAdd, List.cons_append, List.nil_append]
  refine cw_seq (go_ok hT ?_); simp [List.replicate]
  by_cases h1 : 1 ≤ v ∧ v ≤ 4
  case neg =>
    have hf : structB v ⟨ns, nx⟩ = false := by
      unfold structB
      have : (decide (1 ≤ v) && decide (v ≤ 4)) = false := by simp; omega
      rw [this]; rfl
    refine cw_seq (go_ok hT ?_)
    by_cases h2 : 1 ≤ v
    · have h3 : ¬ v ≤ 4 := fun q => h1 ⟨h2, q⟩
      simp [List.replicate, h2, h3, hf]
    · simp [List.replicate, h2, hf]
  obtain ⟨v1, v2⟩ := h1
  have v3 : ¬ (4 < v) := by omega
  have v4 : ¬ (v < 1) := by omega
  by_cases h2 : (ns.length : Int) ≤ 10
  case neg =>
    have hf : structB v ⟨ns, nx⟩ = false := by simp [structB, h2]
    have h2' : (10 : Int) < ns.length := by omega
    refine cw_seq (go_ok hT ?_); simp [List.replicate, v1, v2, v3, v4, h2, h2', hf]
  have h2' : ¬ ((10 : Int) < ns.length) := by omega
  by_cases h3 : (nx.length : Int) = (ns.length : Int) * (ns.length : Int)
  case neg =>
    have hf : structB v ⟨ns, nx⟩ = false := by simp [structB, h3]
    refine cw_seq (go_ok hT ?_); simp [List.replicate, v1, v2, v3, v4, h2, h2', hmul, h3, hf]
  cases h4 : truthsB nx
  case false =>
    have hf : structB v ⟨ns, nx⟩ = false := by simp [structB, h4]
    refine cw_seq (go_ok hT ?_); simp [List.replicate, v1, v2, v3, v4, h2, h2', hmul, h3, h4, hf]
  refine cw_seq (go_ok hT ?_); simp [List.replicate, v1, v2, v3, v4, h2, h2', hmul, h3, h4]
  refine go_ok hT ?_
  simp [List.replicate, hc, capOk, AV.isFn]
  refine ⟨badN v, fun a _ => ok_IsStr1 (a, v) trivial, ?_⟩
  simp [structB, v1, v2, v3, v4, h2, h3, h4]
@[simp] def ct_sIsStructure : Ct := ⟨81, Int × Strc, fun x => szStrc x.2 ≤ 1048576, fun x => [.int .i64 x.1, encStrc x.2], fun x => .bool (structB x.1 x.2)⟩
set_option maxHeartbeats 4000000 in
set_option maxRecDepth 100000 in
theorem ok_sIsStructure : ct_sIsStructure.Ok Tryd.prog := by
  rintro ⟨v, ⟨ns, nx⟩⟩ hx
  have hx' : szStrc ⟨ns, nx⟩ ≤ 1048576 := hx
  have hsl := strc_le ⟨ns, nx⟩
  simp only at hsl
  have hmul : IntKind.i64.wrap ((ns.length : Int) * (ns.length : Int)) = (ns.length : Int) * (ns.length : Int) := by
    have h0 : ns.length * ns.length ≤ 1048576 * 1048576 := Nat.mul_le_mul (by omega) (by omega)
    have h1 : ((ns.length * ns.length : Nat) : Int) = (ns.length : Int) * (ns.length : Int) := by push_cast; rfl
    rw [← h1, wrap_i64] <;> omega
  have hT : TabOk Tryd.prog _ := tab_cons ok_l1In (tab_cons ok_l12Truths (tab_cons ok_sIsTruth tab_nil))
  refine Ok.of_cw fok_spec_IsStructure (go_ok hT ?_)
  simp [code_spec_IsStructure, List.replicate]
  refine cw_round (fun (i : Nat) => ⟨slots 77 [(0, .int .i64 v), (3, .pbox 0 0), (5, .int .i64 ns.length), (6, .int .i64 i)], [.cells [encL 4 encNode ns, encL 1 encInt nx]]⟩)
    (fun i => i ≤ ns.length ∧ noHit (badN v) ns i) (fun i => ns.length - i) 0 ⟨by omega, noHit_zero⟩ ?_ ?_
  · exact weak_seal 1 (by simp) (by simp) (by simp [List.replicate])
  · rintro N hN i ⟨hi, hn⟩
    have hw : IntKind.i64.wrap ((i : Int) + 1) = ((i + 1 : Nat) : Int) := by rw [wrap_i64] <;> omega
    by_cases h : i < ns.length
    · have h2 : ¬ ns.length ≤ i := by omega
      have bad : badN v ns[i] = true → structB v ⟨ns, nx⟩ = false := fun e => by unfold structB; rw [any_hit h e, Bool.and_comm]; rfl
      generalize hnd : ns[i] = nd at *
      obtain ⟨a, b, c, d⟩ := nd
      refine cw_seq (go_ok hT ?_); simp [List.replicate, h, h2]
      refine cw_seq (cw_block ?_)
      refine cw_seq (go_ok hT ?_); simp [List.replicate, h, hnd]
      by_cases q1 : (a.length : Int) = v
      case neg =>
        have hf := bad (by simp [badN, q1])
        refine go_ok hT ?_; simp [List.replicate, q1, hf]
      by_cases q2 : (b.length : Int) = v
      case neg =>
        have hf := bad (by simp [badN, q2])
        refine go_ok hT ?_; simp [List.replicate, q1, q2, hf]
      cases q3 : truthsB a
      case false =>
        have hf := bad (by simp [badN, q3])
        refine go_ok hT ?_; simp [List.replicate, q1, q2, q3, hf]
      cases q4 : truthsB b
      case false =>
        have hf := bad (by simp [badN, q4])
        refine go_ok hT ?_; simp [List.replicate, q1, q2, q3, q4, hf]
      cases q5 : isTruth c
      case false =>
        have hf := bad (by simp [badN, q5])
        refine go_ok hT ?_; simp [List.replicate, q1, q2, q3, q4, q5, hf]
      by_cases q6 : 0 ≤ d
      case neg =>
        have hf := bad (by simp [badN, q6])
        refine go_ok hT ?_; simp [List.replicate, q1, q2, q3, q4, q5, q6, hf]
      by_cases q7 : d ≤ 1
      case neg =>
        have hf := bad (by simp [badN, q7])
        refine go_ok hT ?_; simp [List.replicate, q1, q2, q3, q4, q5, q6, q7, hf]
      have q8 : ¬ (d < 0) := by omega
      have q9 : ¬ (1 < d) := by omega
      have hg : badN v ns[i] = false := by rw [hnd]; simp [badN, q1, q2, q3, q4, q5, q6, q7]
      refine go_ok hT ?_; simp [List.replicate, q1, q2, q3, q4, q5, q6, q7, q8, q9]
      refine go_ok hT ?_; simp [List.replicate, hw]
      refine hN i (i + 1) _ ⟨by omega, noHit_succ hn h hg⟩ (by omega) (weak_seal 1 (by simp) ?_ ?_)
      · simp
      · simp [List.replicate]
    · have h2 : ns.length ≤ i := by omega
      have hany : ns.any (badN v) = false := any_none hn h2
      have hR : structB v ⟨ns, nx⟩ = ((((decide (1 ≤ v) && decide (v ≤ 4)) && decide ((ns.length : Int) ≤ 10)) && decide ((nx.length : Int) = (ns.length : Int) * (ns.length : Int))) && truthsB nx) := by unfold structB; rw [hany]; simp
      refine go_ok hT ?_
      by_cases v1 : 1 ≤ v ∧ v ≤ 4
      case neg =>
        have hf : structB v ⟨ns, nx⟩ = false := by
          rw [hR]
          have : (decide (1 ≤ v) && decide (v ≤ 4)) = false := by simp; omega
          rw [this]; rfl
        have hd : ¬ (1 ≤ v) ∨ ¬ (v ≤ 4) := by omega
        by_cases e1 : 1 ≤ v
        · have e2 : ¬ v ≤ 4 := fun q => v1 ⟨e1, q⟩
          simp [List.replicate, h, h2, hf, e1, e2]
        · simp [List.replicate, h, h2, hf, e1]
      obtain ⟨v1, v2⟩ := v1
      by_cases e1 : (ns.length : Int) ≤ 10
      case neg =>
        have hf : structB v ⟨ns, nx⟩ = false := by rw [hR]; simp [e1]
        simp [List.replicate, h, h2, hf, v1, v2, e1]
      by_cases e2 : (nx.length : Int) = (ns.length : Int) * (ns.length : Int)
      case neg =>
        have hf : structB v ⟨ns, nx⟩ = false := by rw [hR]; simp [e2]
        simp [List.replicate, h, h2, hf, v1, v2, e1, e2, hmul]
      have v3 : ¬ (4 < v) := by omega
      have v4 : ¬ (v < 1) := by omega
      have e3 : ¬ ((10 : Int) < ns.length) := by omega
      simp [List.replicate, h, h2, v1, v2, v3, v4, e1, e2, e3, hmul, hR]
end Go.Vm
