/- What the laws' further size, copy and comparison functions answer. No condition. -/
import Derived.Test.YtekiceofgkcpfaaDoorTG
set_option linter.unusedSimpArgs false
set_option linter.unusedVariables false
namespace Go.Vm
open Go.Proofs
@[simp] theorem belowE_encL {α : Type} (d k : Nat) (f : α → AV) (xs : List α) : belowE d (encL k f xs) = true := by simp [encL, mksl, belowE, belowC, belowR]
@[simp] theorem withCells_encL {α : Type} (k : Nat) (f : α → AV) (xs : List α) (c : AV) : (encL k f xs).withCells [c] = c := by simp [encL, mksl]
def szStrcs (l : List Strc) : Nat := l.length + (l.map szStrc).sum
def szStrcss (l : List (List Strc)) : Nat := l.length + (l.map szStrcs).sum
def szAnal (x : Anal) : Nat := szStrcss x.sets + x.alarms.length
def code_laws_szHeap : F := ⟨18, [.tmp 4],
 .seq (.reg [⟨some 2, .box (.t 0), none⟩,
    ⟨some 4, .mov (.k (.int .i64 0)), none⟩])
 (.seq (.reg [⟨some 5, .faddr 0 (.t 2), none⟩,
     ⟨some 6, .load 1 false (.t 5), none⟩,
     ⟨some 7, .mov (.t 1), none⟩,
     ⟨some 8, .call 47 [(.t 6), (.t 7)], none⟩,
     ⟨some 1, .mov (.t 8), none⟩])
  (.seq (.seq (.reg [⟨some 9, .mov (.t 1), none⟩,
       ⟨some 10, .bin .lss (.t 9) (.k (.int .i64 0)), none⟩])
    (.cond (.t 10)
     (.seq (.reg [⟨some 4, .mov (.k (.int .i64 (-1))), none⟩])
      (.ret))
     (.skip)))
   (.seq (.reg [⟨some 11, .faddr 1 (.t 2), none⟩,
       ⟨some 12, .load 1 false (.t 11), none⟩,
       ⟨some 13, .mov (.t 1), none⟩,
       ⟨some 14, .call 47 [(.t 12), (.t 13)], none⟩,
       ⟨some 1, .mov (.t 14), none⟩])
    (.seq (.seq (.reg [⟨some 15, .mov (.t 1), none⟩,
         ⟨some 16, .bin .lss (.t 15) (.k (.int .i64 0)), none⟩])
      (.cond (.t 16)
       (.seq (.reg [⟨some 4, .mov (.k (.int .i64 (-1))), none⟩])
        (.ret))
       (.skip)))
     (.seq (.reg [⟨some 17, .mov (.t 1), none⟩,
         ⟨some 4, .mov (.t 17), none⟩])
      (.ret))))))⟩
theorem fok_laws_szHeap : FOk Tryd.prog 17 code_laws_szHeap := fok Tryd.func17 (by kernel_rfl)
@[simp] def ct_szHeap : Ct := ⟨17, Heap × Int, fun x => 0 ≤ x.2 ∧ x.2 ≤ 1048576, fun x => [encHeap x.1, .int .i64 x.2], fun x => .int .i64 (left (szHeap x.1) x.2)⟩
theorem ok_szHeap : ct_szHeap.Ok Tryd.prog := by
  rintro ⟨x, l⟩ ⟨h1, h2⟩
  change 0 ≤ l at h1
  change l ≤ 1048576 at h2
  refine Ok.of_cw fok_laws_szHeap (go_ok (tab_cons ok_szIntS tab_nil) ?_)
  simp [code_laws_szHeap, List.replicate, encHeap_eq, h1, h2]
  simp only [left, szHeap]
  (repeat' split) <;> omega
def code_laws_toHeap : F := ⟨13, [.cell 2 true 2],
 .seq (.reg [⟨some 1, .box (.t 0), none⟩,
    ⟨some 2, .alloc [(.sl .nil 0 []), (.sl .nil 0 [])], none⟩])
 (.seq (.reg [⟨some 3, .alloc [(.sl .nil 0 []), (.sl .nil 0 [])], none⟩])
  (.seq (.reg [⟨some 4, .faddr 0 (.t 1), none⟩,
      ⟨some 5, .load 1 false (.t 4), none⟩,
      ⟨some 6, .call 52 [(.t 5)], none⟩,
      ⟨some 7, .faddr 0 (.t 3), none⟩,
      ⟨none, .store 1 (.t 7) (.t 6), none⟩])
   (.seq (.reg [⟨some 8, .faddr 1 (.t 1), none⟩,
       ⟨some 9, .load 1 false (.t 8), none⟩,
       ⟨some 10, .call 52 [(.t 9)], none⟩,
       ⟨some 11, .faddr 1 (.t 3), none⟩,
       ⟨none, .store 1 (.t 11) (.t 10), none⟩])
    (.seq (.reg [⟨some 12, .load 2 true (.t 3), none⟩,
        ⟨none, .store 2 (.t 2) (.t 12), none⟩])
     (.ret)))))⟩
theorem fok_laws_toHeap : FOk Tryd.prog 19 code_laws_toHeap := fok Tryd.func19 (by kernel_rfl)
@[simp] def ct_toHeap : Ct := ⟨19, Heap, fun x => szHeap x ≤ 1048576, fun x => [encHeap x], fun x => encHeap x⟩
theorem ok_toHeap : ct_toHeap.Ok Tryd.prog := by
  intro x hx
  change Heap at x
  change szHeap x ≤ 1048576 at hx
  unfold szHeap at hx
  refine Ok.of_cw fok_laws_toHeap (go_ok (tab_cons ok_toIntS tab_nil) ?_)
  simp [code_laws_toHeap, List.replicate, encHeap_eq]
  omega
def code_laws_eqHeap : F := ⟨17, [.tmp 4],
 .seq (.reg [⟨some 2, .box (.t 0), none⟩,
    ⟨some 3, .box (.t 1), none⟩,
    ⟨some 4, .mov (.k (.bool false)), none⟩])
 (.seq (.seq (.reg [⟨some 5, .faddr 0 (.t 2), none⟩,
      ⟨some 6, .load 1 false (.t 5), none⟩,
      ⟨some 7, .faddr 0 (.t 3), none⟩,
      ⟨some 8, .load 1 false (.t 7), none⟩,
      ⟨some 9, .call 57 [(.t 6), (.t 8)], none⟩,
      ⟨some 10, .not (.t 9), none⟩])
   (.cond (.t 10)
    (.seq (.reg [⟨some 4, .mov (.k (.bool false)), none⟩])
     (.ret))
    (.skip)))
  (.seq (.seq (.reg [⟨some 11, .faddr 1 (.t 2), none⟩,
       ⟨some 12, .load 1 false (.t 11), none⟩,
       ⟨some 13, .faddr 1 (.t 3), none⟩,
       ⟨some 14, .load 1 false (.t 13), none⟩,
       ⟨some 15, .call 57 [(.t 12), (.t 14)], none⟩,
       ⟨some 16, .not (.t 15), none⟩])
    (.cond (.t 16)
     (.seq (.reg [⟨some 4, .mov (.k (.bool false)), none⟩])
      (.ret))
     (.skip)))
   (.seq (.reg [⟨some 4, .mov (.k (.bool true)), none⟩])
    (.ret))))⟩
theorem fok_laws_eqHeap : FOk Tryd.prog 21 code_laws_eqHeap := fok Tryd.func21 (by kernel_rfl)
@[simp] def ct_eqHeap : Ct := ⟨21, Heap × Heap, fun _ => True, fun x => [encHeap x.1, encHeap x.2], fun x => .bool (decide (x.1 = x.2))⟩
theorem ok_eqHeap : ct_eqHeap.Ok Tryd.prog := by
  rintro ⟨⟨a, b⟩, ⟨a', b'⟩⟩ -
  refine Ok.of_cw fok_laws_eqHeap (go_ok (tab_cons ok_eqIntS tab_nil) ?_)
  simp [code_laws_eqHeap, List.replicate]
  grind
def code_laws_szStructureS : F := ⟨27, [.tmp 4],
 .seq (.reg [⟨some 4, .mov (.k (.int .i64 0)), none⟩])
 (.seq (.reg [⟨some 6, .mov (.t 1), none⟩,
     ⟨some 7, .mov (.t 0), none⟩,
     ⟨some 8, .len (.t 7), none⟩,
     ⟨some 9, .bin .sub (.t 6) (.t 8), none⟩,
     ⟨some 1, .mov (.t 9), none⟩])
  (.seq (.seq (.reg [⟨some 10, .mov (.t 1), none⟩,
       ⟨some 11, .bin .lss (.t 10) (.k (.int .i64 0)), none⟩])
    (.cond (.t 11)
     (.seq (.reg [⟨some 4, .mov (.k (.int .i64 (-1))), none⟩])
      (.ret))
     (.skip)))
   (.seq (.seq (.reg [⟨some 5, .mov (.k (.int .i64 0)), none⟩])
     (.block 0 (.loop (.seq (.seq (.reg [⟨some 12, .mov (.t 5), none⟩,
            ⟨some 13, .mov (.t 0), none⟩,
            ⟨some 14, .len (.t 13), none⟩,
            ⟨some 15, .bin .lss (.t 12) (.t 14), none⟩])
         (.cond (.t 15)
          (.skip)
          (.exit 0)))
        (.seq (.block 1 (.seq (.reg [⟨some 18, .mov (.t 0), none⟩,
              ⟨some 19, .mov (.t 5), none⟩,
              ⟨some 20, .iaddr 2 (.t 18) (.t 19), none⟩,
              ⟨some 21, .load 2 true (.t 20), none⟩,
              ⟨some 22, .mov (.t 1), none⟩,
              ⟨some 23, .call 39 [(.t 21), (.t 22)], none⟩,
              ⟨some 1, .mov (.t 23), none⟩])
           (.seq (.reg [⟨some 24, .mov (.t 1), none⟩,
               ⟨some 25, .bin .lss (.t 24) (.k (.int .i64 0)), none⟩])
            (.cond (.t 25)
             (.seq (.reg [⟨some 4, .mov (.k (.int .i64 (-1))), none⟩])
              (.ret))
             (.skip)))))
         (.reg [⟨some 16, .mov (.t 5), none⟩,
            ⟨some 17, .bin .add (.t 16) (.k (.int .i64 1)), none⟩,
            ⟨some 5, .mov (.t 17), none⟩]))))))
    (.seq (.reg [⟨some 26, .mov (.t 1), none⟩,
        ⟨some 4, .mov (.t 26), none⟩])
     (.ret)))))⟩
theorem fok_laws_szStructureS : FOk Tryd.prog 7 code_laws_szStructureS := fok Tryd.func7 (by kernel_rfl)
@[simp] def ct_szStrcs : Ct := ⟨7, List Strc × Int, fun x => 0 ≤ x.2 ∧ x.2 ≤ 1048576, fun x => [encL 2 encStrc x.1, .int .i64 x.2], fun x => .int .i64 (left (szStrcs x.1) x.2)⟩
theorem ok_szStrcs : ct_szStrcs.Ok Tryd.prog := by
  rintro ⟨xs, l⟩ ⟨h1, h2⟩
  change 0 ≤ l at h1
  change l ≤ 1048576 at h2
  refine Ok.lens fun hl => Ok.of_cw fok_laws_szStructureS (go_ok tab_nil ?_)
  have hl : lensOkL [encL 2 encStrc xs, .int .i64 l] := hl
  rw [lensOkL_cons, lensOk_encL] at hl
  have hl := hl.1.1
  have hw : IntKind.i64.wrap (l - xs.length) = l - xs.length := by rw [wrap_i64] <;> omega
  simp [code_laws_szStructureS, List.replicate, hw]
  refine ⟨fun h => left_neg (by unfold szStrcs; omega), fun h => ?_⟩
  refine cw_round (fun (p : Nat × Int) => ⟨slots 27 [(0, encL 2 encStrc xs), (1, .int .i64 p.2), (5, .int .i64 p.1)], []⟩)
    (fun p => p.1 ≤ xs.length ∧ 0 ≤ p.2 ∧ p.2 ≤ 1048576 ∧ left (szStrcs xs) l = left ((xs.drop p.1).map szStrc).sum p.2) (fun p => xs.length - p.1) (0, l - xs.length) ?_ ?_ ?_
  · refine ⟨by simp, by simp; omega, by simp; omega, ?_⟩
    simp only [List.drop_zero, szStrcs]
    exact left_add (by omega)
  · exact weak_seal 0 (by omega) (by simp) (by simp [List.replicate])
  · rintro N hN ⟨i, l'⟩ ⟨hi, g1, g2, hs⟩
    change i ≤ xs.length at hi
    change 0 ≤ l' at g1
    change l' ≤ 1048576 at g2
    change left (szStrcs xs) l = left ((xs.drop i).map szStrc).sum l' at hs
    have hw : IntKind.i64.wrap ((i : Int) + 1) = ((i + 1 : Nat) : Int) := by rw [wrap_i64] <;> omega
    refine go_ok (tab_cons ok_szStrc tab_nil) ?_
    by_cases h : i < xs.length
    · have h2 : ¬ xs.length ≤ i := by omega
      rw [sum_drop szStrc h] at hs
      simp [List.replicate, hw, h, h2, g1, g2]
      refine ⟨fun k => ?_, fun k => ?_⟩
      · rw [hs, left_add_neg (left_lt0.1 k)]
      · have k := left_ge0.1 k
        rw [left_ge k]
        refine hN _ (i + 1, l' - szStrc xs[i]) _ ⟨by omega, ?_, ?_, ?_⟩ ?_ (weak_seal 0 (by omega) ?_ ?_)
        · simp; omega
        · simp; omega
        · rw [hs, left_add k]
        · simp; omega
        · simp
        · simp [List.replicate]
    · have e : i = xs.length := by omega
      subst e
      simp [List.drop_length, left_zero g1] at hs
      simp [List.replicate, hw, hs]
def code_laws_toStructureS : F := ⟨23, [.tmp 2],
 .seq (.reg [⟨some 2, .mov (.k (.sl .nil 0 [])), none⟩])
 (.seq (.reg [⟨some 5, .mov (.t 0), none⟩,
     ⟨some 6, .len (.t 5), none⟩,
     ⟨some 7, .mksl 66 2 48 (.agg [(.sl .nil 0 []), (.sl .nil 0 [])]) (.t 6) (.t 6), none⟩,
     ⟨some 3, .mov (.t 7), none⟩])
  (.seq (.seq (.reg [⟨some 4, .mov (.k (.int .i64 0)), none⟩])
    (.block 0 (.loop (.seq (.seq (.reg [⟨some 8, .mov (.t 4), none⟩,
           ⟨some 9, .mov (.t 0), none⟩,
           ⟨some 10, .len (.t 9), none⟩,
           ⟨some 11, .bin .lss (.t 8) (.t 10), none⟩])
        (.cond (.t 11)
         (.skip)
         (.exit 0)))
       (.seq (.block 1 (.reg [⟨some 14, .mov (.t 3), none⟩,
            ⟨some 15, .mov (.t 4), none⟩,
            ⟨some 16, .mov (.t 0), none⟩,
            ⟨some 17, .mov (.t 4), none⟩,
            ⟨some 18, .iaddr 2 (.t 16) (.t 17), none⟩,
            ⟨some 19, .load 2 true (.t 18), none⟩,
            ⟨some 20, .call 41 [(.t 19)], none⟩,
            ⟨some 21, .iaddr 2 (.t 14) (.t 15), none⟩,
            ⟨none, .store 2 (.t 21) (.t 20), none⟩]))
        (.reg [⟨some 12, .mov (.t 4), none⟩,
           ⟨some 13, .bin .add (.t 12) (.k (.int .i64 1)), none⟩,
           ⟨some 4, .mov (.t 13), none⟩]))))))
   (.seq (.reg [⟨some 22, .mov (.t 3), none⟩,
       ⟨some 2, .mov (.t 22), none⟩])
    (.ret))))⟩
theorem fok_laws_toStructureS : FOk Tryd.prog 10 code_laws_toStructureS := fok Tryd.func10 (by kernel_rfl)
@[simp] def ct_toStrcs : Ct := ⟨10, List Strc, fun xs => szStrcs xs ≤ 1048576, fun xs => [encL 2 encStrc xs], fun xs => encL 2 encStrc xs⟩
theorem ok_toStrcs : ct_toStrcs.Ok Tryd.prog := by
  intro xs hx
  change List Strc at xs
  change szStrcs xs ≤ 1048576 at hx
  have hx1 : xs.length ≤ 1048576 := by unfold szStrcs at hx; omega
  have hx2 : ∀ i (h : i < xs.length), szStrc xs[i] ≤ 1048576 := fun i h => by
    have := sum_mem szStrc (List.getElem_mem h)
    unfold szStrcs at hx; omega
  refine Ok.of_cw fok_laws_toStructureS (go_ok tab_nil ?_)
  simp [code_laws_toStructureS, List.replicate]
  refine ⟨by omega, by omega, ?_⟩
  refine cw_round (fun (p : Nat × List Strc) => ⟨slots 23 [(0, encL 2 encStrc xs), (3, .slref 0 0 p.2.length p.2.length), (4, .int .i64 p.1)], [.row true 66 2 (p.2.map encStrc)]⟩)
    (fun p => p.1 ≤ xs.length ∧ p.2.length = xs.length ∧ p.2.take p.1 = xs.take p.1) (fun p => xs.length - p.1) (0, List.replicate xs.length ⟨[], []⟩) (by simp) ?_ ?_
  · refine weak_seal 1 (by omega) ?_ ?_
    · simp
    · simp [List.replicate]
  · rintro N hN ⟨i, ys⟩ ⟨hi, hl, ht⟩
    simp only at hi hl ht
    have hw : IntKind.i64.wrap ((i : Int) + 1) = ((i + 1 : Nat) : Int) := by rw [wrap_i64] <;> omega
    refine go_ok (tab_cons ok_toStrc tab_nil) ?_
    by_cases h : i < xs.length
    · have h' : i < ys.length := by omega
      have h2 : ¬ xs.length ≤ i := by omega
      have h3 := hx2 i h
      simp [List.replicate, hw, h, h', h2, h3]
      refine hN _ (i + 1, ys.set i xs[i]) _ ⟨by omega, by simp [hl], ?_⟩ ?_ (weak_seal 1 (by omega) ?_ ?_)
      · exact fill_take h hl ht
      · simp; omega
      · simp
      · simp [List.replicate]
    · simp [List.replicate, hw, h]
      have e : i = xs.length := by omega
      subst e
      rw [← List.take_length (l := xs), ← ht, ← hl, List.take_length]
      simp
def code_laws_eqStructureS : F := ⟨27, [.tmp 4],
 .seq (.reg [⟨some 4, .mov (.k (.bool false)), none⟩])
 (.seq (.seq (.reg [⟨some 6, .mov (.t 0), none⟩,
      ⟨some 7, .len (.t 6), none⟩,
      ⟨some 8, .mov (.t 1), none⟩,
      ⟨some 9, .len (.t 8), none⟩,
      ⟨some 10, .bin .neq (.t 7) (.t 9), none⟩])
   (.cond (.t 10)
    (.seq (.reg [⟨some 4, .mov (.k (.bool false)), none⟩])
     (.ret))
    (.skip)))
  (.seq (.seq (.reg [⟨some 5, .mov (.k (.int .i64 0)), none⟩])
    (.block 0 (.loop (.seq (.seq (.reg [⟨some 11, .mov (.t 5), none⟩,
           ⟨some 12, .mov (.t 0), none⟩,
           ⟨some 13, .len (.t 12), none⟩,
           ⟨some 14, .bin .lss (.t 11) (.t 13), none⟩])
        (.cond (.t 14)
         (.skip)
         (.exit 0)))
       (.seq (.block 1 (.seq (.dreg [false, false, false, false, false, false, false, false, true, true] [false, false, false, false, false, false, false, false, true, false] [⟨some 17, .mov (.t 0), none⟩,
             ⟨some 18, .mov (.t 5), none⟩,
             ⟨some 19, .iaddr 2 (.t 17) (.t 18), none⟩,
             ⟨some 20, .load 2 true (.t 19), none⟩,
             ⟨some 21, .mov (.t 1), none⟩,
             ⟨some 22, .mov (.t 5), none⟩,
             ⟨some 23, .iaddr 2 (.t 21) (.t 22), none⟩,
             ⟨some 24, .load 2 true (.t 23), none⟩,
             ⟨some 25, .call 43 [(.t 20), (.t 24)], none⟩,
             ⟨some 26, .not (.t 25), none⟩])
          (.cond (.t 26)
           (.seq (.reg [⟨some 4, .mov (.k (.bool false)), none⟩])
            (.ret))
           (.skip))))
        (.reg [⟨some 15, .mov (.t 5), none⟩,
           ⟨some 16, .bin .add (.t 15) (.k (.int .i64 1)), none⟩,
           ⟨some 5, .mov (.t 16), none⟩]))))))
   (.seq (.reg [⟨some 4, .mov (.k (.bool true)), none⟩])
    (.ret))))⟩
theorem fok_laws_eqStructureS : FOk Tryd.prog 13 code_laws_eqStructureS := fok Tryd.func13 (by kernel_rfl)
@[simp] def ct_eqStrcs : Ct := ⟨13, List Strc × List Strc, fun _ => True, fun x => [encL 2 encStrc x.1, encL 2 encStrc x.2], fun x => .bool (decide (x.1 = x.2))⟩
theorem ok_eqStrcs : ct_eqStrcs.Ok Tryd.prog := by
  rintro ⟨xs, ys⟩ -
  refine Ok.lens fun hl => Ok.of_cw fok_laws_eqStructureS (go_ok tab_nil ?_)
  have hl : lensOkL [encL 2 encStrc xs, encL 2 encStrc ys] := hl
  rw [lensOkL_cons, lensOk_encL] at hl
  have hl := hl.1.1
  simp [code_laws_eqStructureS, List.replicate]
  refine ⟨fun h => by intro e; rw [e] at h; exact h rfl, fun hlen => ?_⟩
  refine cw_round (fun (i : Nat) => ⟨slots 27 [(0, encL 2 encStrc xs), (1, encL 2 encStrc ys), (5, .int .i64 i)], []⟩)
    (fun i => i ≤ xs.length ∧ xs.take i = ys.take i) (fun i => xs.length - i) 0 (by simp) ?_ ?_
  · exact weak_seal 0 (by omega) (by simp) (by simp [List.replicate])
  · rintro N hN i ⟨hi, ht⟩
    refine go_ok (tab_cons ok_eqStrc tab_nil) ?_
    by_cases h : i < xs.length
    · have hw : IntKind.i64.wrap ((i : Int) + 1) = ((i + 1 : Nat) : Int) := by rw [wrap_i64] <;> omega
      have h2 : ¬ xs.length ≤ i := by omega
      have h3 : i < ys.length := by omega
      simp [List.replicate, hw, h, h2, h3]
      refine ⟨take_ne h h3, fun he => hN _ (i + 1) _ ⟨by omega, take_step h h3 ht he⟩ (by omega) (weak_seal 0 (by omega) ?_ ?_)⟩
      · simp
      · simp [List.replicate]
    · simp [List.replicate, h]
      exact ⟨by omega, fun k => take_done (by omega) k ht⟩
end Go.Vm
