/- The law FnStructures. No condition. -/
import Derived.Test.YtfelkhckpfjgjaaGreatDoorTXJ
import Derived.Test.YtfelkhckpfjgjaaGreatDoorTEQ
import Derived.Test.YtfelkhckpfjgjaaGreatDoorTDE
import Derived.Test.YtfelkhckpfjgjaaGreatDoorTNX
import Derived.Test.YtfelkhckpfjgjaaGreatDoorTGD
import Derived.Test.YtfelkhckpfjgjaaGreatDoorVme
import Derived.LaidMore
import Derived.SevenTiedAt
set_option linter.unusedSimpArgs false
set_option linter.unusedVariables false
namespace Go.Vm
open Go.Proofs
def code_laws_big : F := ⟨6, [.tmp 2],
 .seq (.reg [⟨some 2, .mov (.k (.bool false)), none⟩])
 (.seq (.reg [⟨some 3, .mov (.t 0), none⟩,
     ⟨some 4, .len (.t 3), none⟩,
     ⟨some 5, .bin .gtr (.t 4) (.k (.int .i64 1048576)), none⟩,
     ⟨some 2, .mov (.t 5), none⟩])
  (.ret))⟩
theorem fok_laws_big : FOk Tryz.prog 4 code_laws_big := fok Tryz.func4 (by kernel_rfl)
@[simp] def ct_bigG : Ct := ⟨4, List UInt8, fun _ => True, fun bs => [encL 1 encU bs], fun bs => .bool (decide (1048576 < bs.length))⟩
theorem ok_bigG : ct_bigG.Ok Tryz.prog := by
  intro bs _
  change List UInt8 at bs
  refine Ok.of_cw fok_laws_big (go_ok tab_nil ?_)
  simp [code_laws_big, List.replicate]
  omega
theorem vars3_okG : szVarsOk [[120], [121], [116]] := ⟨by simp, by simp⟩
def code_laws_FnStructures : F := ⟨94, [.tmp 2],
 .seq (.reg [⟨some 2, .mov (.k (.bool false)), none⟩])
 (.seq (.seq (.reg [⟨some 14, .mov (.t 0), none⟩,
      ⟨some 15, .call 4 [(.t 14)], none⟩])
   (.cond (.t 15)
    (.seq (.reg [⟨some 2, .mov (.k (.bool true)), none⟩])
     (.ret))
    (.skip)))
  (.seq (.reg [⟨some 17, .mov (.t 0), none⟩,
      ⟨some 18, .call 5 [(.t 17)], none⟩,
      ⟨some 16, .mov (.t 18), none⟩,
      ⟨some 19, .extr (.t 16) 0, none⟩,
      ⟨some 20, .extr (.t 16) 1, none⟩,
      ⟨some 4, .alloc [(.sl .nil 0 []), (.sl .nil 0 [])], none⟩,
      ⟨some 3, .mov (.t 19), none⟩,
      ⟨none, .store 2 (.t 4) (.t 20), none⟩])
   (.seq (.reg [⟨some 22, .mov (.t 0), none⟩,
       ⟨some 23, .call 6 [(.t 22)], none⟩,
       ⟨some 21, .mov (.t 23), none⟩,
       ⟨some 24, .extr (.t 21) 0, none⟩,
       ⟨some 25, .extr (.t 21) 1, none⟩,
       ⟨some 26, .extr (.t 21) 2, none⟩,
       ⟨some 5, .alloc [(.sl .nil 0 []), (.sl .nil 0 [])], none⟩,
       ⟨none, .store 2 (.t 5) (.t 24), none⟩,
       ⟨some 6, .mov (.t 25), none⟩,
       ⟨some 7, .mov (.t 26), none⟩])
    (.seq (.reg [⟨some 27, .mov (.t 0), none⟩,
        ⟨some 28, .call 7 [(.t 27)], none⟩,
        ⟨some 8, .alloc [(.sl .nil 0 []), (.sl .nil 0 [])], none⟩,
        ⟨none, .store 2 (.t 8) (.t 28), none⟩])
     (.seq (.reg [⟨some 30, .mov (.t 0), none⟩,
         ⟨some 31, .call 8 [(.t 30)], none⟩,
         ⟨some 29, .mov (.t 31), none⟩,
         ⟨some 32, .extr (.t 29) 0, none⟩,
         ⟨some 33, .extr (.t 29) 1, none⟩,
         ⟨some 10, .alloc [(.sl .nil 0 []), (.sl .nil 0 [])], none⟩,
         ⟨some 9, .mov (.t 32), none⟩,
         ⟨none, .store 2 (.t 10) (.t 33), none⟩])
      (.seq (.reg [⟨some 35, .mov (.t 0), none⟩,
          ⟨some 36, .call 9 [(.t 35)], none⟩,
          ⟨some 34, .mov (.t 36), none⟩,
          ⟨some 37, .extr (.t 34) 0, none⟩,
          ⟨some 38, .extr (.t 34) 1, none⟩,
          ⟨some 11, .alloc [(.sl .nil 0 []), (.sl .nil 0 [])], none⟩,
          ⟨some 12, .alloc [(.sl .nil 0 []), (.sl .nil 0 [])], none⟩,
          ⟨none, .store 2 (.t 11) (.t 37), none⟩,
          ⟨none, .store 2 (.t 12) (.t 38), none⟩])
       (.seq (.reg [⟨some 39, .load 2 true (.t 11), none⟩,
           ⟨some 40, .load 2 true (.t 12), none⟩,
           ⟨some 41, .call 10 [(.t 39), (.t 40)], none⟩,
           ⟨some 13, .mov (.t 41), none⟩])
        (.seq (.seq (.dreg [false, false, false, false, false, true, true, true, false, false, false, false, false, false, false, true, true, true, true, false, false, false, true, true, true, true, false, false, false, false, false, true, true, true, true, false, false, false, false, true, true] [false, false, true, false, false, true, false, false, false, false, false, true, false, false, false, true, false, false, false, false, true, false, true, false, false, false, false, false, true, false, false, true, false, false, false, false, false, false, true, false, false] [⟨some 42, .mov (.t 3), none⟩,
             ⟨some 43, .load 2 true (.t 4), none⟩,
             ⟨some 44, .call 11 [(.t 42), (.t 43)], none⟩,
             ⟨some 45, .mov (.t 3), none⟩,
             ⟨some 46, .load 2 true (.t 4), none⟩,
             ⟨some 47, .call 12 [(.t 45), (.t 46)], none⟩,
             ⟨some 48, .beq true (.t 44) (.t 47), none⟩,
             ⟨some 49, .mov (.t 48), none⟩,
             ⟨some 50, .load 2 true (.t 5), some (49, false)⟩,
             ⟨some 51, .mov (.t 6), some (49, false)⟩,
             ⟨some 52, .mov (.t 7), some (49, false)⟩,
             ⟨some 53, .call 13 [(.t 50), (.t 51), (.t 52)], some (49, false)⟩,
             ⟨some 54, .load 2 true (.t 5), some (49, false)⟩,
             ⟨some 55, .mov (.t 6), some (49, false)⟩,
             ⟨some 56, .mov (.t 7), some (49, false)⟩,
             ⟨some 57, .call 14 [(.t 54), (.t 55), (.t 56)], some (49, false)⟩,
             ⟨some 58, .bin .neq (.t 53) (.t 57), some (49, false)⟩,
             ⟨some 59, .pick (.t 49) (.k (.bool true)) (.t 58), none⟩,
             ⟨some 60, .mov (.t 59), none⟩,
             ⟨some 61, .load 2 true (.t 8), some (60, false)⟩,
             ⟨some 62, .call 15 [(.t 61)], some (60, false)⟩,
             ⟨some 63, .load 2 true (.t 8), some (60, false)⟩,
             ⟨some 64, .call 16 [(.t 63)], some (60, false)⟩,
             ⟨some 65, .beq true (.t 62) (.t 64), some (60, false)⟩,
             ⟨some 66, .pick (.t 60) (.k (.bool true)) (.t 65), none⟩,
             ⟨some 67, .mov (.t 66), none⟩,
             ⟨some 68, .mov (.t 9), some (67, false)⟩,
             ⟨some 69, .load 2 true (.t 10), some (67, false)⟩,
             ⟨some 70, .call 17 [(.t 68), (.t 69)], some (67, false)⟩,
             ⟨some 71, .mov (.t 9), some (67, false)⟩,
             ⟨some 72, .load 2 true (.t 10), some (67, false)⟩,
             ⟨some 73, .call 18 [(.t 71), (.t 72)], some (67, false)⟩,
             ⟨some 74, .bin .neq (.t 70) (.t 73), some (67, false)⟩,
             ⟨some 75, .pick (.t 67) (.k (.bool true)) (.t 74), none⟩,
             ⟨some 76, .mov (.t 75), none⟩,
             ⟨some 77, .mov (.t 13), some (76, false)⟩,
             ⟨some 78, .load 2 true (.t 11), some (76, false)⟩,
             ⟨some 79, .load 2 true (.t 12), some (76, false)⟩,
             ⟨some 80, .call 19 [(.t 78), (.t 79)], some (76, false)⟩,
             ⟨some 81, .beq true (.t 77) (.t 80), some (76, false)⟩,
             ⟨some 82, .pick (.t 76) (.k (.bool true)) (.t 81), none⟩])
          (.cond (.t 82)
           (.seq (.reg [⟨some 2, .mov (.k (.bool false)), none⟩])
            (.ret))
           (.skip)))
         (.seq (.dreg [true, true, true, false, false, false, false, false, true, true, true, true] [false, false, false, false, false, true, false, false, true, false, false, false] [⟨some 83, .mov (.t 13), none⟩,
             ⟨some 84, .not (.t 83), none⟩,
             ⟨some 85, .mov (.t 84), none⟩,
             ⟨some 86, .mov (.t 9), some (85, false)⟩,
             ⟨some 87, .load 2 true (.t 11), some (85, false)⟩,
             ⟨some 88, .call 17 [(.t 86), (.t 87)], some (85, false)⟩,
             ⟨some 89, .mov (.t 9), some (85, false)⟩,
             ⟨some 90, .load 2 true (.t 12), some (85, false)⟩,
             ⟨some 91, .call 17 [(.t 89), (.t 90)], some (85, false)⟩,
             ⟨some 92, .bin .eql (.t 88) (.t 91), some (85, false)⟩,
             ⟨some 93, .pick (.t 85) (.k (.bool true)) (.t 92), none⟩,
             ⟨some 2, .mov (.t 93), none⟩])
          (.ret))))))))))⟩
theorem fok_laws_FnStructures : FOk Tryz.prog 3 code_laws_FnStructures := fok Tryz.func3 (by kernel_rfl)
set_option maxHeartbeats 8000000 in
set_option maxRecDepth 100000 in
theorem ok_lawStructures (bs : List UInt8) : Ok Tryz.prog 3 [encL 1 encU bs] (.bool true) := by
  by_cases hbs : bs.length ≤ 1048576
  case neg =>
    have hb2 : 1048576 < bs.length := by omega
    refine Ok.of_cw fok_laws_FnStructures (go_ok (tab_cons ok_bigG tab_nil) ?_)
    simp [code_laws_FnStructures, List.replicate, hb2]
  have hb2 : ¬ 1048576 < bs.length := by omega
  have hT : TabOk Tryz.prog _ := tab_cons ok_bigG (tab_cons ok_DrawIsStructure (tab_cons ok_DrawNextOf (tab_cons ok_DrawIsDefinite (tab_cons ok_DrawStructureText (tab_cons ok_DrawEqualStructure (tab_cons ok_pIsStructure (tab_cons ok_sIsStructure (tab_cons ok_pNextOf (tab_cons ok_sNextOf (tab_cons ok_impl_IsDefinite (tab_cons ok_spec_IsDefinite (tab_cons ok_pStrcText (tab_cons ok_sStrcText (tab_cons ok_impl_EqualStructure (tab_cons ok_spec_EqualStructure tab_nil)))))))))))))))
  have z1 : szStrc (drawB2 bs) ≤ 1048576 := (bent12_sz _).1
  have z2 : szStrc (drawE2s bs) ≤ 1048576 := by
    unfold drawE2s
    split
    · exact (bent12_sz _).1
    · exact (bent12_sz _).1
  have hv := vars3_okG
  refine Ok.of_cw fok_laws_FnStructures ?_
  simp only [code_laws_FnStructures, frame, List.length_cons, List.length_nil, List.replicate, Nat.reduceSub, Nat.reduceAdd, List.cons_append, List.nil_append]
  refine cw_seq (go_ok hT ?_); simp [List.replicate]
  refine cw_seq (go_ok hT ?_); simp [List.replicate, hbs, hb2]
  refine cw_seq (go_ok hT ?_); simp [List.replicate, hbs]
  refine cw_seq (go_ok hT ?_); simp [List.replicate, hbs]
  refine cw_seq (go_ok hT ?_); simp [List.replicate, hbs]
  refine cw_seq (go_ok hT ?_); simp [List.replicate, hbs]
  refine cw_seq (go_ok hT ?_); simp [List.replicate, hbs]
  generalize drawB2 bs = s1 at *
  generalize drawE2s bs = s2 at *
  generalize drawI2 bs = i1 at *
  generalize drawN1 bs = i2 at *
  generalize drawN2 bs = i3 at *
  refine cw_weak (weak_seal (n0 := 0) 18 (by simp) (t' := slots 94 [(3, .int .i64 i1), (4, .pbox 2 0), (5, .pbox 5 0), (6, .int .i64 i2), (7, .int .i64 i3), (8, .pbox 8 0), (9, encL 1 encStr [[120], [121], [116]]), (10, .pbox 11 0), (11, .pbox 14 0), (12, .pbox 17 0)]) (H' := [.dead, .dead, .cells [encL 4 encNode s1.nodes, encL 1 encInt s1.next], .dead, .dead, .cells [encL 4 encNode s1.nodes, encL 1 encInt s1.next], .dead, .dead, .cells [encL 4 encNode s1.nodes, encL 1 encInt s1.next], .dead, .dead, .cells [encL 4 encNode s1.nodes, encL 1 encInt s1.next], .dead, .dead, .cells [encL 4 encNode s1.nodes, encL 1 encInt s1.next], .dead, .dead, .cells [encL 4 encNode s2.nodes, encL 1 encInt s2.next]]) (by simp) (by simp [List.replicate])) ?_
  by_cases he : s1 = s2
  · subst he
    refine cw_seq (go_ok hT ?_); simp [List.replicate]
    refine cw_seq (cw_seq (go_ok hT ?_)); simp (maxSteps := 4000000) [List.replicate, z1, hv]
    refine go_ok hT ?_; simp [List.replicate]
    refine cw_seq (go_ok hT ?_); simp [List.replicate, z1, hv]
    refine go_ok hT ?_; simp [List.replicate]
  · refine cw_seq (go_ok hT ?_); simp [List.replicate, he]
    refine cw_seq (cw_seq (go_ok hT ?_)); simp (maxSteps := 4000000) [List.replicate, z1, z2, hv, he]
    refine go_ok hT ?_; simp [List.replicate]
    refine cw_seq (go_ok hT ?_); simp [List.replicate]
    refine go_ok hT ?_; simp [List.replicate]
end Go.Vm

namespace Go.Vm
open Go.RowKit Go.ChangeShapes Go.WideShapes Go.ChangeAt
section
variable {H : Type} {enc : TypeId × Value → H} {T : List TypeId}
theorem law_lift_and {C : Checked} {os : Os} {f : FuncId} {fn : Func} {s : ChangeSpec} {conds : List PathCond} {tb : TypeId} {X : World → Prop}
    (hX : ∀ w w' : World, w.heap = w'.heap → X w → X w')
    (own : ownKnob C.prog.godebug = none) (started : os.Started) (hinit : C.prog.inits.idxOf? f = none) (hf : C.prog.funcs[f]? = some fn)
    (wit : ∃ (w : World) (tape : Tape) (i : Input), w.os = os ∧ (w.forCall tape i).Shaped C.prog ∧ i.vars = [] ∧ Input.okWide C.prog (w.forCall tape i) .any w.heap.size f i ∧
      ((s.pre enc C.prog fn conds false (w.forCall tape i).memory i.args ∧ X (w.forCall tape i).memory) ∧ sizedMet enc C.prog fn (OpenSpec.ofChange s) false (w.forCall tape i).memory i.args) ∧ ({} : Assume).holds C.prog (lone (Frame.enter C.prog f i.args .normal) [] (w.forCall tape i)))
    (hv : s.vars = []) (hfn : ∀ (ds : List (DataW H)), ds.length = fn.params.toList.length → s.fn H ds = { results := [.lit (.bool true)], args := ds })
    (hres : fn.resultTypes = #[tb]) (htb : C.prog.underlying tb = some .bool)
    (hT : plainB C.prog T = true) (hsub : ∀ t ∈ fn.params.toList, t ∈ T) (hl : laidOutB C.prog = true) (hr : ∀ t ∈ fn.params.toList, C.prog.readableRec t = true ∧ t < C.prog.types.size)
    (ok : ∀ ass, All2 (fun es t => ∃ n, TyN C.prog n t es) ass fn.params.toList → Ok C.prog f (argE C.prog ass fn.params.toList) (.bool true)) :
    ReturnsInHanded {} C os f .any (fun w args => (s.pre enc C.prog fn conds false w args ∧ X w) ∧ sizedMet enc C.prog fn (OpenSpec.ofChange s) false w args) (s.post enc C.prog fn false true false false) := by
  refine returnsInHanded_of_change_and (X := fun w _ => X w) (fun w w' _ hh h => hX w w' hh h) own started hinit hf wit ?_
  intro W base args ds gs before hval hW hcnd hsz _ _
  have hW' := hW
  obtain ⟨p, q, hA, hV, rfl, hfz, hnd⟩ := hW
  have hgs : gs = [] ∧ q = [] := by
    rw [hv] at hV
    cases gs with
    | nil => exact ⟨rfl, hV⟩
    | cons => exact hV.elim
  obtain ⟨rfl, rfl⟩ := hgs
  obtain ⟨ass, h1, h2, h3⟩ := args_pure hT hsub (fun j t v ht hx => hval j t v (by simpa using ht) (by simpa using hx)) hA
  refine (ok ass h1 W (fun g => g < W.heap.size) args (fun _ h => h) h2).mono fun e W' ⟨v, he, bel, hp⟩ => ?_
  subst he
  have hvb : v = .bool true := by
    have : RepC W' _ (.bool true) v := hp
    cases this
    rfl
  subst hvb
  refine ⟨_, rfl, ds, [], p ++ [], [], p, [], hW', ?_, ?_, ?_, bel.frame _, fun h => by cases h⟩
  · rw [hres, List.append_nil, hfn ds h3]
    exact trodAll_mk1 (shut_bool htb _)
  · rw [List.append_nil, hfn ds h3]
    exact args_again hl bel hr hA
  · rw [hv, List.append_nil, hfn ds h3]
    rfl
end
end Go.Vm
