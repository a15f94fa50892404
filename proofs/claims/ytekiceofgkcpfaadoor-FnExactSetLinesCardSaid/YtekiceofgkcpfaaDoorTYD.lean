/- SetLines: the law. No condition. -/
import Derived.Test.YtekiceofgkcpfaaDoorTYA
import Derived.Test.YtekiceofgkcpfaaDoorTYC
set_option linter.unusedSimpArgs false
set_option linter.unusedVariables false
namespace Go.Vm
open Go.Proofs
def code_laws_FnExactSetLines : F := ⟨92, [.tmp 4],
 .seq (.reg [⟨some 4, .mov (.k (.bool false)), none⟩])
 (.seq (.reg [⟨some 5, .mov (.k (.int .i64 1048576)), none⟩])
  (.seq (.reg [⟨some 14, .mov (.t 0), none⟩,
      ⟨some 15, .mov (.t 5), none⟩,
      ⟨some 16, .call 6 [(.t 14), (.t 15)], none⟩,
      ⟨some 5, .mov (.t 16), none⟩])
   (.seq (.seq (.reg [⟨some 17, .mov (.t 5), none⟩,
        ⟨some 18, .bin .lss (.t 17) (.k (.int .i64 0)), none⟩])
     (.cond (.t 18)
      (.seq (.reg [⟨some 4, .mov (.k (.bool true)), none⟩])
       (.ret))
      (.skip)))
    (.seq (.reg [⟨some 19, .mov (.t 1), none⟩,
        ⟨some 20, .mov (.t 5), none⟩,
        ⟨some 21, .call 7 [(.t 19), (.t 20)], none⟩,
        ⟨some 5, .mov (.t 21), none⟩])
     (.seq (.seq (.reg [⟨some 22, .mov (.t 5), none⟩,
          ⟨some 23, .bin .lss (.t 22) (.k (.int .i64 0)), none⟩])
       (.cond (.t 23)
        (.seq (.reg [⟨some 4, .mov (.k (.bool true)), none⟩])
         (.ret))
        (.skip)))
      (.seq (.reg [⟨some 24, .mov (.t 0), none⟩,
          ⟨some 25, .call 9 [(.t 24)], none⟩,
          ⟨some 26, .mov (.t 1), none⟩,
          ⟨some 27, .call 10 [(.t 26)], none⟩,
          ⟨some 28, .call 8 [(.t 25), (.t 27)], none⟩,
          ⟨some 6, .mov (.t 28), none⟩])
       (.seq (.reg [⟨some 29, .mov (.t 0), none⟩,
           ⟨some 30, .call 9 [(.t 29)], none⟩,
           ⟨some 7, .mov (.t 30), none⟩])
        (.seq (.reg [⟨some 31, .mov (.t 1), none⟩,
            ⟨some 32, .call 10 [(.t 31)], none⟩,
            ⟨some 8, .mov (.t 32), none⟩])
         (.seq (.reg [⟨some 33, .mov (.t 7), none⟩,
             ⟨some 34, .mov (.t 8), none⟩,
             ⟨some 35, .call 11 [(.t 33), (.t 34)], none⟩,
             ⟨some 9, .mov (.t 35), none⟩])
          (.seq (.seq (.reg [⟨some 36, .mov (.t 9), none⟩,
               ⟨some 37, .mov (.t 6), none⟩,
               ⟨some 38, .call 12 [(.t 36), (.t 37)], none⟩,
               ⟨some 39, .not (.t 38), none⟩])
            (.cond (.t 39)
             (.seq (.reg [⟨some 4, .mov (.k (.bool false)), none⟩])
              (.ret))
             (.skip)))
           (.seq (.seq (.reg [⟨some 40, .mov (.t 7), none⟩,
                ⟨some 41, .mov (.t 0), none⟩,
                ⟨some 42, .call 9 [(.t 41)], none⟩,
                ⟨some 43, .call 12 [(.t 40), (.t 42)], none⟩,
                ⟨some 44, .not (.t 43), none⟩])
             (.cond (.t 44)
              (.seq (.reg [⟨some 4, .mov (.k (.bool false)), none⟩])
               (.ret))
              (.skip)))
            (.seq (.seq (.reg [⟨some 45, .mov (.t 8), none⟩,
                 ⟨some 46, .mov (.t 1), none⟩,
                 ⟨some 47, .call 10 [(.t 46)], none⟩,
                 ⟨some 48, .call 13 [(.t 45), (.t 47)], none⟩,
                 ⟨some 49, .not (.t 48), none⟩])
              (.cond (.t 49)
               (.seq (.reg [⟨some 4, .mov (.k (.bool false)), none⟩])
                (.ret))
               (.skip)))
             (.seq (.reg [⟨some 10, .mov (.k (.int .i64 1)), none⟩])
              (.seq (.reg [⟨some 50, .mov (.t 7), none⟩,
                  ⟨some 51, .mov (.t 10), none⟩,
                  ⟨some 52, .call 14 [(.t 50), (.t 51)], none⟩,
                  ⟨some 10, .mov (.t 52), none⟩])
               (.seq (.reg [⟨some 53, .mov (.t 8), none⟩,
                   ⟨some 54, .mov (.t 10), none⟩,
                   ⟨some 55, .call 15 [(.t 53), (.t 54)], none⟩,
                   ⟨some 10, .mov (.t 55), none⟩])
                (.seq (.seq (.reg [⟨some 56, .mov (.t 10), none⟩,
                     ⟨some 57, .bin .lss (.t 56) (.k (.int .i64 0)), none⟩,
                     ⟨some 58, .mov (.t 57), none⟩,
                     ⟨some 59, .mov (.t 9), some (58, false)⟩,
                     ⟨some 60, .mov (.t 6), some (58, false)⟩,
                     ⟨some 61, .call 12 [(.t 59), (.t 60)], some (58, false)⟩,
                     ⟨some 62, .not (.t 61), some (58, false)⟩,
                     ⟨some 63, .pick (.t 58) (.k (.bool true)) (.t 62), none⟩])
                  (.cond (.t 63)
                   (.seq (.reg [⟨some 4, .mov (.k (.bool false)), none⟩])
                    (.ret))
                   (.skip)))
                 (.seq (.reg [⟨some 11, .mov (.k (.int .i64 1)), none⟩])
                  (.seq (.reg [⟨some 64, .mov (.t 9), none⟩,
                      ⟨some 65, .mov (.t 11), none⟩,
                      ⟨some 66, .call 14 [(.t 64), (.t 65)], none⟩,
                      ⟨some 11, .mov (.t 66), none⟩])
                   (.seq (.reg [⟨some 12, .mov (.k (.int .i64 1)), none⟩])
                    (.seq (.reg [⟨some 67, .mov (.t 9), none⟩,
                        ⟨some 68, .mov (.t 12), none⟩,
                        ⟨some 69, .call 16 [(.t 67), (.t 68)], none⟩,
                        ⟨some 12, .mov (.t 69), none⟩])
                     (.seq (.seq (.reg [⟨some 70, .mov (.t 12), none⟩,
                          ⟨some 71, .bin .lss (.t 70) (.k (.int .i64 0)), none⟩])
                       (.cond (.t 71)
                        (.seq (.reg [⟨some 4, .mov (.k (.bool false)), none⟩])
                         (.ret))
                        (.skip)))
                      (.seq (.seq (.reg [⟨some 72, .mov (.t 12), none⟩,
                           ⟨some 73, .mov (.t 11), none⟩,
                           ⟨some 74, .bin .neq (.t 72) (.t 73), none⟩])
                        (.cond (.t 74)
                         (.seq (.reg [⟨some 4, .mov (.k (.bool false)), none⟩])
                          (.ret))
                         (.skip)))
                       (.seq (.reg [⟨some 75, .mov (.t 0), none⟩,
                           ⟨some 76, .call 9 [(.t 75)], none⟩,
                           ⟨some 77, .mov (.t 1), none⟩,
                           ⟨some 78, .call 10 [(.t 77)], none⟩,
                           ⟨some 79, .call 11 [(.t 76), (.t 78)], none⟩,
                           ⟨some 13, .mov (.t 79), none⟩])
                        (.seq (.seq (.reg [⟨some 80, .mov (.t 13), none⟩,
                             ⟨some 81, .mov (.t 6), none⟩,
                             ⟨some 82, .call 12 [(.t 80), (.t 81)], none⟩,
                             ⟨some 83, .not (.t 82), none⟩])
                          (.cond (.t 83)
                           (.seq (.reg [⟨some 4, .mov (.k (.bool false)), none⟩])
                            (.ret))
                           (.skip)))
                         (.seq (.reg [⟨some 12, .mov (.k (.int .i64 1)), none⟩])
                          (.seq (.reg [⟨some 84, .mov (.t 9), none⟩,
                              ⟨some 85, .mov (.t 12), none⟩,
                              ⟨some 86, .call 16 [(.t 84), (.t 85)], none⟩,
                              ⟨some 12, .mov (.t 86), none⟩])
                           (.seq (.seq (.reg [⟨some 87, .mov (.t 12), none⟩,
                                ⟨some 88, .bin .lss (.t 87) (.k (.int .i64 0)), none⟩])
                             (.cond (.t 88)
                              (.seq (.reg [⟨some 4, .mov (.k (.bool false)), none⟩])
                               (.ret))
                              (.skip)))
                            (.seq (.seq (.reg [⟨some 89, .mov (.t 12), none⟩,
                                 ⟨some 90, .mov (.t 11), none⟩,
                                 ⟨some 91, .bin .neq (.t 89) (.t 90), none⟩])
                              (.cond (.t 91)
                               (.seq (.reg [⟨some 4, .mov (.k (.bool false)), none⟩])
                                (.ret))
                               (.skip)))
                             (.seq (.reg [⟨some 4, .mov (.k (.bool true)), none⟩])
                              (.ret))))))))))))))))))))))))))))))⟩
theorem fok_laws_FnExactSetLines : FOk Tryd.prog 3 code_laws_FnExactSetLines := fok Tryd.func3 (by kernel_rfl)
@[simp] theorem shL_strs {n : Nat} {xs : List (List UInt8)} : shL n (xs.map encStr) = xs.map encStr := by
  rw [shL_map, List.map_map]; congr 1
theorem StrcIn.lendE {H : List Blk} {b : Nat} {x : Strc} (h : StrcIn H b x) (d : Nat) : lendC (fun _ _ => true) H (d + 3) (.slref (b + 7) 0 x.nodes.length x.nodes.length) = some (encL 4 encNode x.nodes) ∧ lendC (fun _ _ => true) H (d + 3) (.slref (b + 8 + 9 * x.nodes.length) 0 x.next.length x.next.length) = some (encL 1 encInt x.next) := by
  have hl := laid_len (b + 8) x.nodes
  have e := lend_laid (d := d) h.nodes
  constructor
  · simp only [lendC, h.row, hl, Nat.zero_add, Nat.le_refl, and_self, if_true, List.drop_zero]
    rw [List.take_of_length_le (by omega), e]
    rfl
  · simp [lendC, h.next]
theorem lend_laidS {H : List Blk} {d : Nat} : ∀ {b : Nat} {xs : List Strc}, (∀ j (h : j < xs.length), StrcIn H (b + offS (xs.take j)) xs[j]) → lendEls (fun _ _ => true) H (d + 3) (laidS b xs) = some (xs.map encStrc)
  | _, [], _ => by simp [laidS, lendEls]
  | b, x :: xs, h => by
    have h0 := h 0 (by simp)
    simp at h0
    obtain ⟨e1, e2⟩ := h0.lendE d
    have ih := lend_laidS (d := d) (b := b + lenT x) (xs := xs) fun j hj => by
      have := h (j + 1) (by simpa using hj)
      simpa [Nat.add_assoc] using this
    have e8 : b + (8 + 9 * x.nodes.length) = b + 8 + 9 * x.nodes.length := by omega
    simp only [laidS, strcAt, sh, shL, e8, lendEls, lendCs, lendC, e1, e2, ih, List.map_cons]
    rfl
theorem lend_strRow {H : List Blk} {b n : Nat} {us : List (List UInt8)} {E : Nat} (h : H[b]? = some (.row true E 1 (us.map encStr))) (hl : us.length = n) : lendC (fun _ _ => true) H 20 (.slref b 0 n n) = some (encL 1 encStr us) := by
  subst hl; simp [lendC, h]
theorem lend_strcs {H : List Blk} {b : Nat} {xs : List Strc} (h1 : H[b]? = some (.row true 66 2 (laidS (b + 1) xs))) (h2 : ∀ j (h : j < xs.length), StrcIn H (b + 1 + offS (xs.take j)) xs[j]) : lendC (fun _ _ => true) H 20 (.slref b 0 xs.length xs.length) = some (encL 2 encStrc xs) := by
  have hl := laidS_len (b + 1) xs
  have e := lend_laidS (d := 16) h2
  simp only [lendC, h1, hl, Nat.zero_add, Nat.le_refl, and_self, if_true, List.drop_zero]
  rw [List.take_of_length_le (by omega), e]
  rfl
set_option maxHeartbeats 8000000 in
set_option maxRecDepth 100000 in
theorem ok_lawSetLines (vars : List (List UInt8)) (hv : ∀ s ∈ vars, s.length ≤ 9223372036854775807) (xs : List Strc) :
    Ok Tryd.prog 3 [encL 1 encStr vars, encL 2 encStrc xs] (.bool true) := by
  have hT : TabOk Tryd.prog _ := tab_cons ok_szStrs (tab_cons ok_szStrcs (tab_cons ok_toStrs (tab_cons ok_toStrcs (tab_cons ok_sSetLines (tab_cons ok_eqStrs (tab_cons ok_eqStrcs (tab_cons ok_heldSt (tab_h (CtN.hok ok_pSetLinesN) tab_nil))))))))
  have q1 : strsOk vars := hv
  refine Ok.of_cw fok_laws_FnExactSetLines ?_
  simp only [code_laws_FnExactSetLines, frame, List.length_cons, List.length_nil, List.replicate, Nat.reduceSub, Nat.reduceAdd, List.cons_append, List.nil_append]
  refine cw_seq (go_ok hT ?_)
  simp
  refine cw_seq (go_ok hT ?_)
  simp
  by_cases h1 : (szStrs vars : Int) ≤ 1048576
  case neg =>
    refine cw_seq (go_ok hT ?_)
    simp [q1, left_neg (by omega : (1048576:Int) < szStrs vars)]
    refine cw_seq (go_ok hT ?_)
    simp
  have l1 := left_ge h1
  have n1 : ¬ (1048576 - (szStrs vars : Int) < 0) := by omega
  have n1' : ¬ (1048576 < (szStrs vars : Int)) := by omega
  have p1 : (0 : Int) ≤ 1048576 - szStrs vars := by omega
  refine cw_seq (go_ok hT ?_)
  simp [q1, l1]
  refine cw_seq (go_ok hT ?_)
  simp [n1, n1']
  have hvl : vars.length ≤ szStrs vars := by unfold szStrs; omega
  have hvs : szVarsOk vars := ⟨by omega, fun s hs => by
    have h := sum_mem List.length hs
    unfold szStrs at h1
    omega⟩
  by_cases h3 : (szStrcs xs : Int) ≤ 1048576 - szStrs vars
  case neg =>
    refine cw_seq (go_ok hT ?_)
    simp [left_neg (by omega : (1048576:Int) - szStrs vars < szStrcs xs)]
    refine ⟨by omega, by omega, ?_⟩
    refine cw_seq (go_ok hT ?_)
    simp
  have l3 := left_ge h3
  have n3 : ¬ (1048576 - (szStrs vars : Int) - szStrcs xs < 0) := by omega
  have hx : szStrcs xs ≤ 1048576 := by omega
  have hxl : xs.length ≤ 1048576 := (strcs_small hx).1
  have hvl2 : vars.length ≤ 1048576 := by omega
  refine cw_seq (go_ok hT ?_)
  simp [l3]
  refine ⟨by omega, by omega, ?_⟩
  refine cw_seq (go_ok hT ?_)
  simp [n3]
  generalize hW : xs.map (textS vars) = W at *
  have hWl : W.length = xs.length := by rw [← hW]; simp
  refine cw_seq (go_ok hT ?_)
  simp [hx, hvl2, hvs, hW]
  refine cw_seq (go_ok (tab_h (CtN.hok ok_toStrsN) tab_nil) ?_)
  simp [hvl2]
  refine cw_seq (go_ok (tab_h (CtN.hok ok_toStrcSN) tab_nil) ?_)
  simp [List.replicate, hx, laidS_sh, lblkS_sh]
  have gS : ∀ C j (h : j < xs.length), StrcIn (.row true 9 1 (vars.map encStr) :: .row true 66 2 (laidS 2 xs) :: (lblkS 2 xs ++ C)) (1 + 1 + offS (xs.take j)) xs[j] := fun C j h =>
    strcIn_laid (A := [.row true 9 1 (vars.map encStr), .row true 66 2 (laidS 2 xs)]) h
  have gS0 := gS []
  rw [List.append_nil] at gS0
  have gL : ((.row true 9 1 (vars.map encStr) :: .row true 66 2 (laidS 2 xs) :: lblkS 2 xs) : List Blk).length = 2 + offS xs := by simp [lblkS_len]; omega
  have g0 : ((.row true 9 1 (vars.map encStr) :: .row true 66 2 (laidS 2 xs) :: lblkS 2 xs) : List Blk)[0]? = some (.row true 9 1 (vars.map encStr)) := rfl
  have g1 : ((.row true 9 1 (vars.map encStr) :: .row true 66 2 (laidS 2 xs) :: lblkS 2 xs) : List Blk)[1]? = some (.row true 66 2 (laidS (1 + 1) xs)) := rfl
  clear gS
  generalize hG : ((.row true 9 1 (vars.map encStr) :: .row true 66 2 (laidS 2 xs) :: lblkS 2 xs) : List Blk) = G at *
  have hX0 : lendC (fun _ _ => true) G 20 (.slref 0 0 vars.length vars.length) = some (encL 1 encStr vars) := by simp [lendC, g0]
  have hX1 := lend_strcs g1 gS0
  have hWm : xs.map (encStr ∘ textS vars) = W.map encStr := by rw [← hW, List.map_map]
  refine cw_seq (go_ok hT ?_)
  simp [List.replicate, hx, hvs, hX0, hX1, hW, hWm, gL]
  have gS1 : ∀ j (h : j < xs.length), StrcIn (G ++ [Blk.row true 9 1 (W.map encStr)]) (1 + 1 + offS (xs.take j)) xs[j] := fun j h => (gS0 j h).congr fun q _ h2 => by
    have ho := offS_take h
    have hol := offS_le (xs := xs) (i := j + 1)
    simp only [lenT] at ho
    exact List.getElem?_append_left (by omega)
  have d0 : (G ++ [Blk.row true 9 1 (W.map encStr)])[0]? = some (.row true 9 1 (vars.map encStr)) := (List.getElem?_append_left (by omega)).trans g0
  have d1 : (G ++ [Blk.row true 9 1 (W.map encStr)])[1]? = some (.row true 66 2 (laidS (1 + 1) xs)) := (List.getElem?_append_left (by omega)).trans g1
  have dP : (G ++ [Blk.row true 9 1 (W.map encStr)])[2 + offS xs]? = some (.row true 9 1 (W.map encStr)) := by rw [← gL, List.getElem?_append_right (by omega)]; simp
  have dL : (G ++ [Blk.row true 9 1 (W.map encStr)]).length = 3 + offS xs := by simp [gL]; omega
  clear gS0 g0 g1 gL hX0 hX1
  generalize (G ++ [Blk.row true 9 1 (W.map encStr)] : List Blk) = D at *
  have hY0 : lendC (fun _ _ => true) D 20 (.slref 0 0 vars.length vars.length) = some (encL 1 encStr vars) := by simp [lendC, d0]
  have hY1 := lend_strcs d1 gS1
  have hYP : lendC (fun _ _ => true) D 20 (.slref (2 + offS xs) 0 xs.length xs.length) = some (encL 1 encStr W) := by rw [← hWl]; simp [lendC, dP]
  refine cw_seq (go_ok hT ?_)
  simp [List.replicate, hYP]
  refine cw_seq (go_ok hT ?_)
  simp [List.replicate, hvl2, hY0]
  refine cw_seq (go_ok hT ?_)
  simp [List.replicate, hx, hY1]
  refine cw_seq (go_ok hT ?_)
  simp [List.replicate]
  refine cw_seq (go_ok (tab_h (ok_markSt 9) tab_nil) ?_)
  simp [List.replicate, hvl2, d0]
  refine ⟨vars, rfl, hvl2, rfl, ?_⟩
  have e1 : (D.set 0 (.row true 9 1 ((markTs 1 vars.length).map encStr)))[1]? = some (.row true 66 2 (laidS (1 + 1) xs)) := by rw [List.getElem?_set_ne (by omega), d1]
  have eP : (D.set 0 (.row true 9 1 ((markTs 1 vars.length).map encStr)))[2 + offS xs]? = some (.row true 9 1 (W.map encStr)) := by rw [List.getElem?_set_ne (by omega), dP]
  have eL : (D.set 0 (.row true 9 1 ((markTs 1 vars.length).map encStr))).length = 3 + offS xs := by simp [dL]
  have eS : ∀ j (h : j < xs.length), StrcIn (D.set 0 (.row true 9 1 ((markTs 1 vars.length).map encStr))) (1 + 1 + offS (xs.take j)) xs[j] := fun j h => (gS1 j h).congr fun q h1 _ => by rw [List.getElem?_set_ne (by omega)]
  generalize D.set 0 (.row true 9 1 ((markTs 1 vars.length).map encStr)) = E at *
  have hz := szTs_le xs
  have r1 : (0 : Int) ≤ 1 + vars.length := by omega
  have r2 : (1 : Int) + vars.length ≤ 2097152 := by omega
  refine cw_seq (go_ok (tab_h ok_markStrcS tab_nil) ?_)
  simp [List.replicate, r1, r2]
  refine ⟨xs, rfl, hx, by omega, e1, eS, ?_⟩
  have f1 : 1 ≤ 1 + 1 + offS xs := by omega
  have f2 : 1 + 1 + offS xs ≤ E.length := by omega
  have FL := deadR_len f1 f2
  have FP : (deadR 1 (1 + 1 + offS xs) E)[2 + offS xs]? = some (.row true 9 1 (W.map encStr)) := by rw [deadR_get f1 f2, if_pos (.inr (by omega)), eP]
  generalize deadR 1 (1 + 1 + offS xs) E = F at *
  have nk : ¬ ((1 : Int) + vars.length + ((xs.map szT).sum : Nat) < 0) := by omega
  have hFP : lendC (fun _ _ => true) F 20 (.slref (2 + offS xs) 0 xs.length xs.length) = some (encL 1 encStr W) := by rw [← hWl]; simp [lendC, FP]
  refine cw_seq (go_ok hT ?_)
  simp [List.replicate, nk, hFP]
  refine cw_seq (go_ok hT ?_)
  simp [List.replicate]
  refine cw_seq (go_ok (tab_h (ok_markSt 9) tab_nil) ?_)
  simp [List.replicate, hxl, FP]
  refine ⟨W, hWl.symm, by omega, rfl, ?_⟩
  have HP : (F.set (2 + offS xs) (.row true 9 1 ((markTs 1 xs.length).map encStr)))[2 + offS xs]? = some (.row true 9 1 ((markTs 1 xs.length).map encStr)) := by rw [List.getElem?_set_self (by omega)]
  rw [hWl]
  generalize F.set (2 + offS xs) (.row true 9 1 ((markTs 1 xs.length).map encStr)) = K at *
  have hKP : ∀ L : List Blk, lendC (fun _ _ => true) (K ++ L) 20 (.slref (2 + offS xs) 0 xs.length xs.length) = some (encL 1 encStr (markTs 1 xs.length)) := fun L => by
    exact lend_strRow ((List.getElem?_append_left (l₂ := L) (List.getElem?_eq_some_iff.1 HP).1).trans HP) (by simp)
  have hKP0 := hKP []
  rw [List.append_nil] at hKP0
  have nq : ¬ ((1 : Int) + xs.length < 0) := by omega
  refine cw_seq (go_ok hT ?_)
  simp [List.replicate]
  refine cw_seq (go_ok hT ?_)
  simp [List.replicate, hKP0, hxl]
  refine cw_seq (go_ok hT ?_)
  simp [List.replicate, nq]
  refine cw_seq (go_ok hT ?_)
  simp [List.replicate]
  refine cw_seq (go_ok hT ?_)
  simp [List.replicate, hx, hvl2, hvs, hW, hWm]
  have hQ : lendC (fun _ _ => true) (K ++ [.row true 9 1 (W.map encStr)]) 20 (.slref K.length 0 xs.length xs.length) = some (encL 1 encStr W) := by
    rw [← hWl]; simp [lendC]
  have hKQ := hKP [.row true 9 1 (W.map encStr)]
  generalize (K ++ [Blk.row true 9 1 (W.map encStr)] : List Blk) = M at *
  refine cw_seq (go_ok hT ?_)
  simp [List.replicate, hQ]
  refine cw_seq (go_ok hT ?_)
  simp [List.replicate]
  refine cw_seq (go_ok hT ?_)
  simp [List.replicate, hKQ, hxl]
  refine cw_seq (go_ok hT ?_)
  simp [List.replicate, nq]
  refine cw_seq (go_ok hT ?_)
  simp [List.replicate]
  refine go_ok hT ?_
  simp [List.replicate]
end Go.Vm
