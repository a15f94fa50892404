/- Lists of structures copied into blocks of their own; strings that are held. No condition. -/
import Derived.Test.YtekiceofgkcpfaaDoorTMS
import Derived.Test.YtekiceofgkcpfaaDoorTMX
set_option linter.unusedSimpArgs false
set_option linter.unusedVariables false
namespace Go.Vm
open Go.Proofs
def code_laws_heldStringS : F := ⟨22, [.tmp 4],
 .seq (.reg [⟨some 4, .mov (.k (.int .i64 0)), none⟩])
 (.seq (.seq (.reg [⟨some 5, .mov (.k (.int .i64 0)), none⟩])
   (.block 0 (.loop (.seq (.seq (.reg [⟨some 6, .mov (.t 5), none⟩,
          ⟨some 7, .mov (.t 0), none⟩,
          ⟨some 8, .len (.t 7), none⟩,
          ⟨some 9, .bin .lss (.t 6) (.t 8), none⟩])
       (.cond (.t 9)
        (.skip)
        (.exit 0)))
      (.seq (.block 1 (.seq (.seq (.dreg [false, false, false, false, false, false, true] [false, false, false, false, false, true, false] [⟨some 12, .mov (.t 0), none⟩,
             ⟨some 13, .mov (.t 5), none⟩,
             ⟨some 14, .iaddr 1 (.t 12) (.t 13), none⟩,
             ⟨some 15, .load 1 false (.t 14), none⟩,
             ⟨some 16, .mov (.t 1), none⟩,
             ⟨some 17, .call 44 [(.t 16)], none⟩,
             ⟨some 18, .bin .neq (.t 15) (.t 17), none⟩])
          (.cond (.t 18)
           (.seq (.reg [⟨some 4, .mov (.k (.int .i64 (-1))), none⟩])
            (.ret))
           (.skip)))
         (.reg [⟨some 19, .mov (.t 1), none⟩,
            ⟨some 20, .bin .add (.t 19) (.k (.int .i64 1)), none⟩,
            ⟨some 1, .mov (.t 20), none⟩])))
       (.reg [⟨some 10, .mov (.t 5), none⟩,
          ⟨some 11, .bin .add (.t 10) (.k (.int .i64 1)), none⟩,
          ⟨some 5, .mov (.t 11), none⟩]))))))
  (.seq (.reg [⟨some 21, .mov (.t 1), none⟩,
      ⟨some 4, .mov (.t 21), none⟩])
   (.ret)))⟩
theorem fok_laws_heldStringS : FOk Tryd.prog 16 code_laws_heldStringS := fok Tryd.func16 (by kernel_rfl)
@[simp] def ct_heldSt : Ct := ⟨16, List (List UInt8) × Int, fun x => (0 ≤ x.2 ∧ x.2 ≤ 1048576) ∧ x.1.length ≤ 1048576 ∧ x.1 = markTs x.2 x.1.length, fun x => [encL 1 encStr x.1, .int .i64 x.2], fun x => .int .i64 (x.2 + x.1.length)⟩
theorem markTs_get (k : Int) : ∀ (n i : Nat) (h : i < (markTs k n).length), (markTs k n)[i] = markTxt (k + i)
  | 0, i, h => by simp [markTs] at h
  | n + 1, i, h => by
    simp only [markTs_len] at h
    by_cases e : i < n
    · have := markTs_get k n i (by simpa using e)
      simp only [markTs]
      rw [List.getElem_append_left (by simpa using e), this]
    · have e : i = n := by omega
      subst e
      simp [markTs]
set_option maxHeartbeats 2000000 in
theorem ok_heldSt : ct_heldSt.Ok Tryd.prog := by
  rintro ⟨xs, k⟩ ⟨⟨h1, h2⟩, h3, h4⟩
  change 0 ≤ k at h1
  change k ≤ 1048576 at h2
  change xs.length ≤ 1048576 at h3
  change xs = markTs k xs.length at h4
  have hg : ∀ i (h : i < xs.length), xs[i] = markTxt (k + i) := fun i h => by
    have := markTs_get k xs.length i (by simpa using h)
    rw [← this]
    congr 1
  clear h4
  refine Ok.of_cw fok_laws_heldStringS (go_ok tab_nil ?_)
  simp [code_laws_heldStringS, List.replicate]
  refine cw_round (fun (i : Nat) => ⟨slots 22 [(0, encL 1 encStr xs), (1, .int .i64 (k + i)), (5, .int .i64 i)], []⟩)
    (fun i => i ≤ xs.length) (fun i => xs.length - i) 0 (by simp) ?_ ?_
  · exact weak_seal 0 (by simp) (by simp) (by simp [List.replicate])
  rintro N hN i hi
  change i ≤ xs.length at hi
  have hw : IntKind.i64.wrap ((i : Int) + 1) = ((i + 1 : Nat) : Int) := by rw [wrap_i64] <;> omega
  have hw2 : IntKind.i64.wrap (k + (i : Int) + 1) = k + ((i + 1 : Nat) : Int) := by rw [wrap_i64] <;> omega
  by_cases g : i < xs.length
  · have g2 : ¬ xs.length ≤ i := by omega
    have h5 : k + (i : Int) ≤ 1099511627776 := by omega
    refine go_ok (tab_cons ok_markText tab_nil) ?_
    simp [List.replicate, hw, hw2, g, g2, h5, hg i g]
    refine hN i (i + 1) _ (by omega) (by omega) (weak_seal 0 (by simp) (by simp) ?_)
    simp [List.replicate]
  · have e : i = xs.length := by omega
    subst e
    refine go_ok tab_nil ?_
    simp [List.replicate, hw]
def lenT (x : Strc) : Nat := 9 + 9 * x.nodes.length
def offS (xs : List Strc) : Nat := (xs.map lenT).sum
def laidS : Nat → List Strc → List AV
  | _, [] => []
  | b, x :: xs => sh b (strcAt x) :: laidS (b + lenT x) xs
def lblkS : Nat → List Strc → List Blk
  | _, [] => []
  | b, x :: xs => (strcBs x).map (shB b) ++ lblkS (b + lenT x) xs
theorem strcBs_len (x : Strc) : (strcBs x).length = lenT x := by simp [strcBs, lblk_len, lenT]; omega
@[simp] theorem offS_nil : offS [] = 0 := rfl
@[simp] theorem offS_cons (x : Strc) (xs : List Strc) : offS (x :: xs) = lenT x + offS xs := by simp [offS]
theorem offS_app (xs ys : List Strc) : offS (xs ++ ys) = offS xs + offS ys := by simp [offS]
theorem laidS_len : ∀ (b : Nat) (xs : List Strc), (laidS b xs).length = xs.length
  | _, [] => rfl
  | b, x :: xs => by simp [laidS, laidS_len _ xs]
theorem lblkS_len : ∀ (b : Nat) (xs : List Strc), (lblkS b xs).length = offS xs
  | _, [] => rfl
  | b, x :: xs => by simp [lblkS, lblkS_len _ xs, strcBs_len]
theorem laidS_snoc : ∀ (b : Nat) (xs : List Strc) (x : Strc), laidS b (xs ++ [x]) = laidS b xs ++ [sh (b + offS xs) (strcAt x)]
  | b, [], x => by simp [laidS]
  | b, y :: xs, x => by simp only [List.cons_append, laidS, laidS_snoc _ xs x, offS_cons, Nat.add_assoc]
theorem lblkS_snoc : ∀ (b : Nat) (xs : List Strc) (x : Strc), lblkS b (xs ++ [x]) = lblkS b xs ++ (strcBs x).map (shB (b + offS xs))
  | b, [], x => by simp [lblkS]
  | b, y :: xs, x => by simp only [List.cons_append, lblkS, lblkS_snoc _ xs x, offS_cons, Nat.add_assoc, List.append_assoc]
theorem strcAt_sh (n b : Nat) (x : Strc) : sh n (sh b (strcAt x)) = sh (n + b) (strcAt x) := by simp [strcAt, Nat.add_assoc]
theorem strcBs_sh (n b : Nat) (x : Strc) : ((strcBs x).map (shB b)).map (shB n) = (strcBs x).map (shB (n + b)) := by
  simp only [strcBs, List.map_append, List.map_cons, List.map_nil, lblk_sh]
  simp [laid_sh, Nat.add_assoc]
theorem laidS_sh (n : Nat) : ∀ (b : Nat) (xs : List Strc), shL n (laidS b xs) = laidS (n + b) xs
  | _, [] => by simp [laidS]
  | b, x :: xs => by simp only [laidS, shL, strcAt_sh, laidS_sh n _ xs, Nat.add_assoc]
theorem lblkS_sh (n : Nat) : ∀ (b : Nat) (xs : List Strc), (lblkS b xs).map (shB n) = lblkS (n + b) xs
  | _, [] => by simp [lblkS]
  | b, x :: xs => by simp only [lblkS, List.map_append, strcBs_sh, lblkS_sh n _ xs, Nat.add_assoc]
theorem laidS_own : ∀ (b : Nat) (xs : List Strc), ownVL (laidS b xs) = true
  | _, [] => rfl
  | b, x :: xs => by simp [laidS, strcAt, ownVL, ownV, laidS_own _ xs]
theorem strcBs_own (x : Strc) : ∀ k ∈ strcBs x, ownB k = true := by
  intro k hk
  simp only [strcBs, List.mem_append, List.mem_cons, List.not_mem_nil, or_false] at hk
  rcases hk with (rfl | rfl | rfl | rfl | rfl | rfl | rfl) | (rfl | hk) | rfl <;> first | rfl | (exact laid_own _ _) | (exact lblk_own _ _ k hk) | simp [ownB]
theorem lblkS_own : ∀ (b : Nat) (xs : List Strc), ∀ k ∈ lblkS b xs, ownB k = true
  | _, [], k, h => by simp [lblkS] at h
  | b, x :: xs, k, h => by
    simp only [lblkS, List.mem_append] at h
    rcases h with h | h
    · obtain ⟨j, hj, rfl⟩ := List.mem_map.1 h
      have := strcBs_own x j hj
      have e : ∀ j ∈ (strcBs x).map (shB b), ownB j = true := by
        simp only [strcBs, List.map_append, List.map_cons, List.map_nil, lblk_sh]
        intro j hj
        simp only [List.mem_append, List.mem_cons, List.not_mem_nil, or_false] at hj
        rcases hj with (rfl | rfl | rfl | rfl | rfl | rfl | rfl) | (rfl | hk) | rfl <;> first | rfl | (exact lblk_own _ _ _ hk) | simp [ownB, laid_sh, laid_own]
      exact e _ h
    · exact lblkS_own _ xs k h
def zeroT : AV := .agg [.sl .nil 0 [], .sl .nil 0 []]
@[simp] def ct_toStrcSN : CtN := ⟨10, List Strc, fun xs => szStrcs xs ≤ 1048576, fun xs => [encL 2 encStrc xs], fun xs => .slref 0 0 xs.length xs.length, fun xs => .row true 66 2 (laidS 1 xs) :: lblkS 1 xs⟩
set_option maxHeartbeats 4000000 in
theorem ok_toStrcSN : ct_toStrcSN.Ok Tryd.prog := by
  refine ⟨?_, fun _ _ => rfl, fun xs _ k hk => by
    simp only [ct_toStrcSN, List.mem_cons] at hk
    rcases hk with rfl | hk
    · exact laidS_own _ _
    · exact lblkS_own _ _ k hk⟩
  intro xs hx
  change List Strc at xs
  change szStrcs xs ≤ 1048576 at hx
  have hxl : xs.length ≤ 1048576 := by unfold szStrcs at hx; omega
  refine OkH.of_cw' fok_laws_toStructureS (go_ok tab_nil ?_)
  simp [code_laws_toStructureS, List.replicate]
  refine ⟨by omega, by omega, ?_⟩
  refine cw_round (fun (i : Nat) => ⟨slots 23 [(0, encL 2 encStrc xs), (3, .slref 0 0 xs.length xs.length), (4, .int .i64 i)], .row true 66 2 (laidS 1 (xs.take i) ++ List.replicate (xs.length - i) zeroT) :: lblkS 1 (xs.take i)⟩)
    (fun i => i ≤ xs.length) (fun i => xs.length - i) 0 (by omega) ?_ ?_
  · refine weak_seal (n0 := 0) 1 (Nat.zero_le _) ?_ ?_
    · simp [laidS, lblkS, zeroT]
    · simp [List.replicate]
  · rintro N hN i hi
    change i ≤ xs.length at hi
    have hw : IntKind.i64.wrap ((i : Int) + 1) = ((i + 1 : Nat) : Int) := by rw [wrap_i64] <;> omega
    have hL : (laidS 1 (xs.take i)).length = i := by rw [laidS_len]; simp; omega
    have hB : (lblkS 1 (xs.take i)).length = offS (xs.take i) := lblkS_len _ _
    by_cases h : i < xs.length
    · have h2 : ¬ xs.length ≤ i := by omega
      have hsz : szStrc xs[i] ≤ 1048576 := by
        have := sum_mem szStrc (List.getElem_mem h)
        unfold szStrcs at hx
        omega
      obtain ⟨d, hd⟩ : ∃ d, xs.length - i = d + 1 := ⟨xs.length - i - 1, by omega⟩
      refine go_ok (tab_h (CtN.hok ok_toStrcN) tab_nil) ?_
      have he : (laidS 1 (xs.take i) ++ List.replicate (xs.length - i) zeroT)[i]? = some zeroT := by
        rw [List.getElem?_append_right (by omega), hL, hd]; simp
      have htl : i + (xs.length - i) = xs.length := by omega
      simp [List.replicate, hw, h, h2, hsz, hL, hB, he, htl, strcAt, zeroT]
      have ht : xs.take (i + 1) = xs.take i ++ [xs[i]] := List.take_succ_eq_append_getElem h
      have hd' : xs.length - (i + 1) = d := by omega
      refine hN i (i + 1) _ (by omega) (by omega) (weak_eq ?_ ?_)
      · simp only [ht, laidS_snoc, lblkS_snoc, hd, hd', zeroT, List.replicate_succ, List.set_cons_zero, Nat.add_comm 1 (offS _), List.append_assoc, List.cons_append, List.nil_append]
        first | rfl | simp [strcAt]
      · simp [List.replicate, less_undef, less_refl]
    · have e : i = xs.length := by omega
      subst e
      refine go_ok tab_nil ?_
      simp [List.replicate, hw, retH]
end Go.Vm
