/- What the laws' further size, copy and comparison functions answer. No condition. -/
import Derived.Test.YtokcpkncagdlpaaTG
set_option linter.unusedSimpArgs false
set_option linter.unusedVariables false
namespace Go.Vm
open Go.Proofs
@[simp] theorem belowE_encL {α : Type} (d k : Nat) (f : α → AV) (xs : List α) : belowE d (encL k f xs) = true := by simp [encL, mksl, belowE, belowC, belowR]
@[simp] theorem withCells_encL {α : Type} (k : Nat) (f : α → AV) (xs : List α) (c : AV) : (encL k f xs).withCells [c] = c := by simp [encL, mksl]
def szStrcs (l : List Strc) : Nat := l.length + (l.map szStrc).sum
def szStrcss (l : List (List Strc)) : Nat := l.length + (l.map szStrcs).sum
def szAnal (x : Anal) : Nat := szStrcss x.sets + x.alarms.length
def code_laws_szHeap : F := ⟨18, [.tmp 4],
 .seq (.reg [⟨some 2, .box (.t 0), none⟩,
    ⟨some 4, .mov (.k (.int .i64 0)), none⟩])
 (.seq (.reg [⟨some 5, .faddr 0 (.t 2), none⟩,
     ⟨some 6, .load 1 false (.t 5), none⟩,
     ⟨some 7, .mov (.t 1), none⟩,
     ⟨some 8, .call 60 [(.t 6), (.t 7)], none⟩,
     ⟨some 1, .mov (.t 8), none⟩])
  (.seq (.seq (.reg [⟨some 9, .mov (.t 1), none⟩,
       ⟨some 10, .bin .lss (.t 9) (.k (.int .i64 0)), none⟩])
    (.cond (.t 10)
     (.seq (.reg [⟨some 4, .mov (.k (.int .i64 (-1))), none⟩])
      (.ret))
     (.skip)))
   (.seq (.reg [⟨some 11, .faddr 1 (.t 2), none⟩,
       ⟨some 12, .load 1 false (.t 11), none⟩,
       ⟨some 13, .mov (.t 1), none⟩,
       ⟨some 14, .call 60 [(.t 12), (.t 13)], none⟩,
       ⟨some 1, .mov (.t 14), none⟩])
    (.seq (.seq (.reg [⟨some 15, .mov (.t 1), none⟩,
         ⟨some 16, .bin .lss (.t 15) (.k (.int .i64 0)), none⟩])
      (.cond (.t 16)
       (.seq (.reg [⟨some 4, .mov (.k (.int .i64 (-1))), none⟩])
        (.ret))
       (.skip)))
     (.seq (.reg [⟨some 17, .mov (.t 1), none⟩,
         ⟨some 4, .mov (.t 17), none⟩])
      (.ret))))))⟩
theorem fok_laws_szHeap : FOk Try.prog 17 code_laws_szHeap := fok Try.func17 (by kernel_rfl)
@[simp] def ct_szHeap : Ct := ⟨17, Heap × Int, fun x => 0 ≤ x.2 ∧ x.2 ≤ 1048576, fun x => [encHeap x.1, .int .i64 x.2], fun x => .int .i64 (left (szHeap x.1) x.2)⟩
theorem ok_szHeap : ct_szHeap.Ok Try.prog := by
  rintro ⟨x, l⟩ ⟨h1, h2⟩
  change 0 ≤ l at h1
  change l ≤ 1048576 at h2
  refine Ok.of_cw fok_laws_szHeap (go_ok (tab_cons ok_szIntS tab_nil) ?_)
  simp [code_laws_szHeap, List.replicate, encHeap_eq, h1, h2]
  simp only [left, szHeap]
  (repeat' split) <;> omega
def code_laws_toHeap : F := ⟨13, [.cell 2 true 2],
 .seq (.reg [⟨some 1, .box (.t 0), none⟩,
    ⟨some 2, .alloc [(.sl .nil 0 []), (.sl .nil 0 [])], none⟩])
 (.seq (.reg [⟨some 3, .alloc [(.sl .nil 0 []), (.sl .nil 0 [])], none⟩])
  (.seq (.reg [⟨some 4, .faddr 0 (.t 1), none⟩,
      ⟨some 5, .load 1 false (.t 4), none⟩,
      ⟨some 6, .call 65 [(.t 5)], none⟩,
      ⟨some 7, .faddr 0 (.t 3), none⟩,
      ⟨none, .store 1 (.t 7) (.t 6), none⟩])
   (.seq (.reg [⟨some 8, .faddr 1 (.t 1), none⟩,
       ⟨some 9, .load 1 false (.t 8), none⟩,
       ⟨some 10, .call 65 [(.t 9)], none⟩,
       ⟨some 11, .faddr 1 (.t 3), none⟩,
       ⟨none, .store 1 (.t 11) (.t 10), none⟩])
    (.seq (.reg [⟨some 12, .load 2 true (.t 3), none⟩,
        ⟨none, .store 2 (.t 2) (.t 12), none⟩])
     (.ret)))))⟩
theorem fok_laws_toHeap : FOk Try.prog 19 code_laws_toHeap := fok Try.func19 (by kernel_rfl)
@[simp] def ct_toHeap : Ct := ⟨19, Heap, fun x => szHeap x ≤ 1048576, fun x => [encHeap x], fun x => encHeap x⟩
theorem ok_toHeap : ct_toHeap.Ok Try.prog := by
  intro x hx
  change Heap at x
  change szHeap x ≤ 1048576 at hx
  unfold szHeap at hx
  refine Ok.of_cw fok_laws_toHeap (go_ok (tab_cons ok_toIntS tab_nil) ?_)
  simp [code_laws_toHeap, List.replicate, encHeap_eq]
  omega
def code_laws_eqHeap : F := ⟨17, [.tmp 4],
 .seq (.reg [⟨some 2, .box (.t 0), none⟩,
    ⟨some 3, .box (.t 1), none⟩,
    ⟨some 4, .mov (.k (.bool false)), none⟩])
 (.seq (.seq (.reg [⟨some 5, .faddr 0 (.t 2), none⟩,
      ⟨some 6, .load 1 false (.t 5), none⟩,
      ⟨some 7, .faddr 0 (.t 3), none⟩,
      ⟨some 8, .load 1 false (.t 7), none⟩,
      ⟨some 9, .call 70 [(.t 6), (.t 8)], none⟩,
      ⟨some 10, .not (.t 9), none⟩])
   (.cond (.t 10)
    (.seq (.reg [⟨some 4, .mov (.k (.bool false)), none⟩])
     (.ret))
    (.skip)))
  (.seq (.seq (.reg [⟨some 11, .faddr 1 (.t 2), none⟩,
       ⟨some 12, .load 1 false (.t 11), none⟩,
       ⟨some 13, .faddr 1 (.t 3), none⟩,
       ⟨some 14, .load 1 false (.t 13), none⟩,
       ⟨some 15, .call 70 [(.t 12), (.t 14)], none⟩,
       ⟨some 16, .not (.t 15), none⟩])
    (.cond (.t 16)
     (.seq (.reg [⟨some 4, .mov (.k (.bool false)), none⟩])
      (.ret))
     (.skip)))
   (.seq (.reg [⟨some 4, .mov (.k (.bool true)), none⟩])
    (.ret))))⟩
theorem fok_laws_eqHeap : FOk Try.prog 21 code_laws_eqHeap := fok Try.func21 (by kernel_rfl)
@[simp] def ct_eqHeap : Ct := ⟨21, Heap × Heap, fun _ => True, fun x => [encHeap x.1, encHeap x.2], fun x => .bool (decide (x.1 = x.2))⟩
theorem ok_eqHeap : ct_eqHeap.Ok Try.prog := by
  rintro ⟨⟨a, b⟩, ⟨a', b'⟩⟩ -
  refine Ok.of_cw fok_laws_eqHeap (go_ok (tab_cons ok_eqIntS tab_nil) ?_)
  simp [code_laws_eqHeap, List.replicate]
  grind
def code_laws_szStructureS : F := ⟨27, [.tmp 4],
 .seq (.reg [⟨some 4, .mov (.k (.int .i64 0)), none⟩])
 (.seq (.reg [⟨some 6, .mov (.t 1), none⟩,
     ⟨some 7, .mov (.t 0), none⟩,
     ⟨some 8, .len (.t 7), none⟩,
     ⟨some 9, .bin .sub (.t 6) (.t 8), none⟩,
     ⟨some 1, .mov (.t 9), none⟩])
  (.seq (.seq (.reg [⟨some 10, .mov (.t 1), none⟩,
       ⟨some 11, .bin .lss (.t 10) (.k (.int .i64 0)), none⟩])
    (.cond (.t 11)
     (.seq (.reg [⟨some 4, .mov (.k (.int .i64 (-1))), none⟩])
      (.ret))
     (.skip)))
   (.seq (.seq (.reg [⟨some 5, .mov (.k (.int .i64 0)), none⟩])
     (.block 0 (.loop (.seq (.seq (.reg [⟨some 12, .mov (.t 5), none⟩,
            ⟨some 13, .mov (.t 0), none⟩,
            ⟨some 14, .len (.t 13), none⟩,
            ⟨some 15, .bin .lss (.t 12) (.t 14), none⟩])
         (.cond (.t 15)
          (.skip)
          (.exit 0)))
        (.seq (.block 1 (.seq (.reg [⟨some 18, .mov (.t 0), none⟩,
              ⟨some 19, .mov (.t 5), none⟩,
              ⟨some 20, .iaddr 2 (.t 18) (.t 19), none⟩,
              ⟨some 21, .load 2 true (.t 20), none⟩,
              ⟨some 22, .mov (.t 1), none⟩,
              ⟨some 23, .call 22 [(.t 21), (.t 22)], none⟩,
              ⟨some 1, .mov (.t 23), none⟩])
           (.seq (.reg [⟨some 24, .mov (.t 1), none⟩,
               ⟨some 25, .bin .lss (.t 24) (.k (.int .i64 0)), none⟩])
            (.cond (.t 25)
             (.seq (.reg [⟨some 4, .mov (.k (.int .i64 (-1))), none⟩])
              (.ret))
             (.skip)))))
         (.reg [⟨some 16, .mov (.t 5), none⟩,
            ⟨some 17, .bin .add (.t 16) (.k (.int .i64 1)), none⟩,
            ⟨some 5, .mov (.t 17), none⟩]))))))
    (.seq (.reg [⟨some 26, .mov (.t 1), none⟩,
        ⟨some 4, .mov (.t 26), none⟩])
     (.ret)))))⟩
theorem fok_laws_szStructureS : FOk Try.prog 12 code_laws_szStructureS := fok Try.func12 (by kernel_rfl)
@[simp] def ct_szStrcs : Ct := ⟨12, List Strc × Int, fun x => 0 ≤ x.2 ∧ x.2 ≤ 1048576, fun x => [encL 2 encStrc x.1, .int .i64 x.2], fun x => .int .i64 (left (szStrcs x.1) x.2)⟩
theorem ok_szStrcs : ct_szStrcs.Ok Try.prog := by
  rintro ⟨xs, l⟩ ⟨h1, h2⟩
  change 0 ≤ l at h1
  change l ≤ 1048576 at h2
  refine Ok.lens fun hl => Ok.of_cw fok_laws_szStructureS (go_ok tab_nil ?_)
  have hl : lensOkL [encL 2 encStrc xs, .int .i64 l] := hl
  rw [lensOkL_cons, lensOk_encL] at hl
  have hl := hl.1.1
  have hw : IntKind.i64.wrap (l - xs.length) = l - xs.length := by rw [wrap_i64] <;> omega
  simp [code_laws_szStructureS, List.replicate, hw]
  refine ⟨fun h => left_neg (by unfold szStrcs; omega), fun h => ?_⟩
  refine cw_round (fun (p : Nat × Int) => ⟨slots 27 [(0, encL 2 encStrc xs), (1, .int .i64 p.2), (5, .int .i64 p.1)], []⟩)
    (fun p => p.1 ≤ xs.length ∧ 0 ≤ p.2 ∧ p.2 ≤ 1048576 ∧ left (szStrcs xs) l = left ((xs.drop p.1).map szStrc).sum p.2) (fun p => xs.length - p.1) (0, l - xs.length) ?_ ?_ ?_
  · refine ⟨by simp, by simp; omega, by simp; omega, ?_⟩
    simp only [List.drop_zero, szStrcs]
    exact left_add (by omega)
  · exact weak_seal 0 (by omega) (by simp) (by simp [List.replicate])
  · rintro N hN ⟨i, l'⟩ ⟨hi, g1, g2, hs⟩
    change i ≤ xs.length at hi
    change 0 ≤ l' at g1
    change l' ≤ 1048576 at g2
    change left (szStrcs xs) l = left ((xs.drop i).map szStrc).sum l' at hs
    have hw : IntKind.i64.wrap ((i : Int) + 1) = ((i + 1 : Nat) : Int) := by rw [wrap_i64] <;> omega
    refine go_ok (tab_cons ok_szStrc tab_nil) ?_
    by_cases h : i < xs.length
    · have h2 : ¬ xs.length ≤ i := by omega
      rw [sum_drop szStrc h] at hs
      simp [List.replicate, hw, h, h2, g1, g2]
      refine ⟨fun k => ?_, fun k => ?_⟩
      · rw [hs, left_add_neg (left_lt0.1 k)]
      · have k := left_ge0.1 k
        rw [left_ge k]
        refine hN _ (i + 1, l' - szStrc xs[i]) _ ⟨by omega, ?_, ?_, ?_⟩ ?_ (weak_seal 0 (by omega) ?_ ?_)
        · simp; omega
        · simp; omega
        · rw [hs, left_add k]
        · simp; omega
        · simp
        · simp [List.replicate]
    · have e : i = xs.length := by omega
      subst e
      simp [List.drop_length, left_zero g1] at hs
      simp [List.replicate, hw, hs]
def code_laws_toStructureS : F := ⟨23, [.tmp 2],
 .seq (.reg [⟨some 2, .mov (.k (.sl .nil 0 [])), none⟩])
 (.seq (.reg [⟨some 5, .mov (.t 0), none⟩,
     ⟨some 6, .len (.t 5), none⟩,
     ⟨some 7, .mksl 44 2 48 (.agg [(.sl .nil 0 []), (.sl .nil 0 [])]) (.t 6) (.t 6), none⟩,
     ⟨some 3, .mov (.t 7), none⟩])
  (.seq (.seq (.reg [⟨some 4, .mov (.k (.int .i64 0)), none⟩])
    (.block 0 (.loop (.seq (.seq (.reg [⟨some 8, .mov (.t 4), none⟩,
           ⟨some 9, .mov (.t 0), none⟩,
           ⟨some 10, .len (.t 9), none⟩,
           ⟨some 11, .bin .lss (.t 8) (.t 10), none⟩])
        (.cond (.t 11)
         (.skip)
         (.exit 0)))
       (.seq (.block 1 (.reg [⟨some 14, .mov (.t 3), none⟩,
            ⟨some 15, .mov (.t 4), none⟩,
            ⟨some 16, .mov (.t 0), none⟩,
            ⟨some 17, .mov (.t 4), none⟩,
            ⟨some 18, .iaddr 2 (.t 16) (.t 17), none⟩,
            ⟨some 19, .load 2 true (.t 18), none⟩,
            ⟨some 20, .call 24 [(.t 19)], none⟩,
            ⟨some 21, .iaddr 2 (.t 14) (.t 15), none⟩,
            ⟨none, .store 2 (.t 21) (.t 20), none⟩]))
        (.reg [⟨some 12, .mov (.t 4), none⟩,
           ⟨some 13, .bin .add (.t 12) (.k (.int .i64 1)), none⟩,
           ⟨some 4, .mov (.t 13), none⟩]))))))
   (.seq (.reg [⟨some 22, .mov (.t 3), none⟩,
       ⟨some 2, .mov (.t 22), none⟩])
    (.ret))))⟩
theorem fok_laws_toStructureS : FOk Try.prog 14 code_laws_toStructureS := fok Try.func14 (by kernel_rfl)
@[simp] def ct_toStrcs : Ct := ⟨14, List Strc, fun xs => szStrcs xs ≤ 1048576, fun xs => [encL 2 encStrc xs], fun xs => encL 2 encStrc xs⟩
theorem ok_toStrcs : ct_toStrcs.Ok Try.prog := by
  intro xs hx
  change List Strc at xs
  change szStrcs xs ≤ 1048576 at hx
  have hx1 : xs.length ≤ 1048576 := by unfold szStrcs at hx; omega
  have hx2 : ∀ i (h : i < xs.length), szStrc xs[i] ≤ 1048576 := fun i h => by
    have := sum_mem szStrc (List.getElem_mem h)
    unfold szStrcs at hx; omega
  refine Ok.of_cw fok_laws_toStructureS (go_ok tab_nil ?_)
  simp [code_laws_toStructureS, List.replicate]
  refine ⟨by omega, by omega, ?_⟩
  refine cw_round (fun (p : Nat × List Strc) => ⟨slots 23 [(0, encL 2 encStrc xs), (3, .slref 0 0 p.2.length p.2.length), (4, .int .i64 p.1)], [.row true 44 2 (p.2.map encStrc)]⟩)
    (fun p => p.1 ≤ xs.length ∧ p.2.length = xs.length ∧ p.2.take p.1 = xs.take p.1) (fun p => xs.length - p.1) (0, List.replicate xs.length ⟨[], []⟩) (by simp) ?_ ?_
  · refine weak_seal 1 (by omega) ?_ ?_
    · simp
    · simp [List.replicate]
  · rintro N hN ⟨i, ys⟩ ⟨hi, hl, ht⟩
    simp only at hi hl ht
    have hw : IntKind.i64.wrap ((i : Int) + 1) = ((i + 1 : Nat) : Int) := by rw [wrap_i64] <;> omega
    refine go_ok (tab_cons ok_toStrc tab_nil) ?_
    by_cases h : i < xs.length
    · have h' : i < ys.length := by omega
      have h2 : ¬ xs.length ≤ i := by omega
      have h3 := hx2 i h
      simp [List.replicate, hw, h, h', h2, h3]
      refine hN _ (i + 1, ys.set i xs[i]) _ ⟨by omega, by simp [hl], ?_⟩ ?_ (weak_seal 1 (by omega) ?_ ?_)
      · exact fill_take h hl ht
      · simp; omega
      · simp
      · simp [List.replicate]
    · simp [List.replicate, hw, h]
      have e : i = xs.length := by omega
      subst e
      rw [← List.take_length (l := xs), ← ht, ← hl, List.take_length]
      simp
def code_laws_eqStructureS : F := ⟨27, [.tmp 4],
 .seq (.reg [⟨some 4, .mov (.k (.bool false)), none⟩])
 (.seq (.seq (.reg [⟨some 6, .mov (.t 0), none⟩,
      ⟨some 7, .len (.t 6), none⟩,
      ⟨some 8, .mov (.t 1), none⟩,
      ⟨some 9, .len (.t 8), none⟩,
      ⟨some 10, .bin .neq (.t 7) (.t 9), none⟩])
   (.cond (.t 10)
    (.seq (.reg [⟨some 4, .mov (.k (.bool false)), none⟩])
     (.ret))
    (.skip)))
  (.seq (.seq (.reg [⟨some 5, .mov (.k (.int .i64 0)), none⟩])
    (.block 0 (.loop (.seq (.seq (.reg [⟨some 11, .mov (.t 5), none⟩,
           ⟨some 12, .mov (.t 0), none⟩,
           ⟨some 13, .len (.t 12), none⟩,
           ⟨some 14, .bin .lss (.t 11) (.t 13), none⟩])
        (.cond (.t 14)
         (.skip)
         (.exit 0)))
       (.seq (.block 1 (.seq (.dreg [false, false, false, false, false, false, false, false, true, true] [⟨some 17, .mov (.t 0), none⟩,
             ⟨some 18, .mov (.t 5), none⟩,
             ⟨some 19, .iaddr 2 (.t 17) (.t 18), none⟩,
             ⟨some 20, .load 2 true (.t 19), none⟩,
             ⟨some 21, .mov (.t 1), none⟩,
             ⟨some 22, .mov (.t 5), none⟩,
             ⟨some 23, .iaddr 2 (.t 21) (.t 22), none⟩,
             ⟨some 24, .load 2 true (.t 23), none⟩,
             ⟨some 25, .call 26 [(.t 20), (.t 24)], none⟩,
             ⟨some 26, .not (.t 25), none⟩])
          (.cond (.t 26)
           (.seq (.reg [⟨some 4, .mov (.k (.bool false)), none⟩])
            (.ret))
           (.skip))))
        (.reg [⟨some 15, .mov (.t 5), none⟩,
           ⟨some 16, .bin .add (.t 15) (.k (.int .i64 1)), none⟩,
           ⟨some 5, .mov (.t 16), none⟩]))))))
   (.seq (.reg [⟨some 4, .mov (.k (.bool true)), none⟩])
    (.ret))))⟩
theorem fok_laws_eqStructureS : FOk Try.prog 16 code_laws_eqStructureS := fok Try.func16 (by kernel_rfl)
@[simp] def ct_eqStrcs : Ct := ⟨16, List Strc × List Strc, fun _ => True, fun x => [encL 2 encStrc x.1, encL 2 encStrc x.2], fun x => .bool (decide (x.1 = x.2))⟩
theorem ok_eqStrcs : ct_eqStrcs.Ok Try.prog := by
  rintro ⟨xs, ys⟩ -
  refine Ok.lens fun hl => Ok.of_cw fok_laws_eqStructureS (go_ok tab_nil ?_)
  have hl : lensOkL [encL 2 encStrc xs, encL 2 encStrc ys] := hl
  rw [lensOkL_cons, lensOk_encL] at hl
  have hl := hl.1.1
  simp [code_laws_eqStructureS, List.replicate]
  refine ⟨fun h => by intro e; rw [e] at h; exact h rfl, fun hlen => ?_⟩
  refine cw_round (fun (i : Nat) => ⟨slots 27 [(0, encL 2 encStrc xs), (1, encL 2 encStrc ys), (5, .int .i64 i)], []⟩)
    (fun i => i ≤ xs.length ∧ xs.take i = ys.take i) (fun i => xs.length - i) 0 (by simp) ?_ ?_
  · exact weak_seal 0 (by omega) (by simp) (by simp [List.replicate])
  · rintro N hN i ⟨hi, ht⟩
    refine go_ok (tab_cons ok_eqStrc tab_nil) ?_
    by_cases h : i < xs.length
    · have hw : IntKind.i64.wrap ((i : Int) + 1) = ((i + 1 : Nat) : Int) := by rw [wrap_i64] <;> omega
      have h2 : ¬ xs.length ≤ i := by omega
      have h3 : i < ys.length := by omega
      simp [List.replicate, hw, h, h2, h3]
      refine ⟨take_ne h h3, fun he => hN _ (i + 1) _ ⟨by omega, take_step h h3 ht he⟩ (by omega) (weak_seal 0 (by omega) ?_ ?_)⟩
      · simp
      · simp [List.replicate]
    · simp [List.replicate, h]
      exact ⟨by omega, fun k => take_done (by omega) k ht⟩
def code_laws_szStructureSS : F := ⟨27, [.tmp 4],
 .seq (.reg [⟨some 4, .mov (.k (.int .i64 0)), none⟩])
 (.seq (.reg [⟨some 6, .mov (.t 1), none⟩,
     ⟨some 7, .mov (.t 0), none⟩,
     ⟨some 8, .len (.t 7), none⟩,
     ⟨some 9, .bin .sub (.t 6) (.t 8), none⟩,
     ⟨some 1, .mov (.t 9), none⟩])
  (.seq (.seq (.reg [⟨some 10, .mov (.t 1), none⟩,
       ⟨some 11, .bin .lss (.t 10) (.k (.int .i64 0)), none⟩])
    (.cond (.t 11)
     (.seq (.reg [⟨some 4, .mov (.k (.int .i64 (-1))), none⟩])
      (.ret))
     (.skip)))
   (.seq (.seq (.reg [⟨some 5, .mov (.k (.int .i64 0)), none⟩])
     (.block 0 (.loop (.seq (.seq (.reg [⟨some 12, .mov (.t 5), none⟩,
            ⟨some 13, .mov (.t 0), none⟩,
            ⟨some 14, .len (.t 13), none⟩,
            ⟨some 15, .bin .lss (.t 12) (.t 14), none⟩])
         (.cond (.t 15)
          (.skip)
          (.exit 0)))
        (.seq (.block 1 (.seq (.reg [⟨some 18, .mov (.t 0), none⟩,
              ⟨some 19, .mov (.t 5), none⟩,
              ⟨some 20, .iaddr 1 (.t 18) (.t 19), none⟩,
              ⟨some 21, .load 1 false (.t 20), none⟩,
              ⟨some 22, .mov (.t 1), none⟩,
              ⟨some 23, .call 12 [(.t 21), (.t 22)], none⟩,
              ⟨some 1, .mov (.t 23), none⟩])
           (.seq (.reg [⟨some 24, .mov (.t 1), none⟩,
               ⟨some 25, .bin .lss (.t 24) (.k (.int .i64 0)), none⟩])
            (.cond (.t 25)
             (.seq (.reg [⟨some 4, .mov (.k (.int .i64 (-1))), none⟩])
              (.ret))
             (.skip)))))
         (.reg [⟨some 16, .mov (.t 5), none⟩,
            ⟨some 17, .bin .add (.t 16) (.k (.int .i64 1)), none⟩,
            ⟨some 5, .mov (.t 17), none⟩]))))))
    (.seq (.reg [⟨some 26, .mov (.t 1), none⟩,
        ⟨some 4, .mov (.t 26), none⟩])
     (.ret)))))⟩
theorem fok_laws_szStructureSS : FOk Try.prog 86 code_laws_szStructureSS := fok Try.func86 (by kernel_rfl)
@[simp] def ct_szStrcss : Ct := ⟨86, List (List Strc) × Int, fun x => 0 ≤ x.2 ∧ x.2 ≤ 1048576, fun x => [encL 1 (encL 2 encStrc) x.1, .int .i64 x.2], fun x => .int .i64 (left (szStrcss x.1) x.2)⟩
theorem ok_szStrcss : ct_szStrcss.Ok Try.prog := by
  rintro ⟨xs, l⟩ ⟨h1, h2⟩
  change 0 ≤ l at h1
  change l ≤ 1048576 at h2
  refine Ok.lens fun hl => Ok.of_cw fok_laws_szStructureSS (go_ok tab_nil ?_)
  have hl : lensOkL [encL 1 (encL 2 encStrc) xs, .int .i64 l] := hl
  rw [lensOkL_cons, lensOk_encL] at hl
  have hl := hl.1.1
  have hw : IntKind.i64.wrap (l - xs.length) = l - xs.length := by rw [wrap_i64] <;> omega
  simp [code_laws_szStructureSS, List.replicate, hw]
  refine ⟨fun h => left_neg (by unfold szStrcss; omega), fun h => ?_⟩
  refine cw_round (fun (p : Nat × Int) => ⟨slots 27 [(0, encL 1 (encL 2 encStrc) xs), (1, .int .i64 p.2), (5, .int .i64 p.1)], []⟩)
    (fun p => p.1 ≤ xs.length ∧ 0 ≤ p.2 ∧ p.2 ≤ 1048576 ∧ left (szStrcss xs) l = left ((xs.drop p.1).map szStrcs).sum p.2) (fun p => xs.length - p.1) (0, l - xs.length) ?_ ?_ ?_
  · refine ⟨by simp, by simp; omega, by simp; omega, ?_⟩
    simp only [List.drop_zero, szStrcss]
    exact left_add (by omega)
  · exact weak_seal 0 (by omega) (by simp) (by simp [List.replicate])
  · rintro N hN ⟨i, l'⟩ ⟨hi, g1, g2, hs⟩
    change i ≤ xs.length at hi
    change 0 ≤ l' at g1
    change l' ≤ 1048576 at g2
    change left (szStrcss xs) l = left ((xs.drop i).map szStrcs).sum l' at hs
    have hw : IntKind.i64.wrap ((i : Int) + 1) = ((i + 1 : Nat) : Int) := by rw [wrap_i64] <;> omega
    refine go_ok (tab_cons ok_szStrcs tab_nil) ?_
    by_cases h : i < xs.length
    · have h2 : ¬ xs.length ≤ i := by omega
      rw [sum_drop szStrcs h] at hs
      simp [List.replicate, hw, h, h2, g1, g2]
      refine ⟨fun k => ?_, fun k => ?_⟩
      · rw [hs, left_add_neg (left_lt0.1 k)]
      · have k := left_ge0.1 k
        rw [left_ge k]
        refine hN _ (i + 1, l' - szStrcs xs[i]) _ ⟨by omega, ?_, ?_, ?_⟩ ?_ (weak_seal 0 (by omega) ?_ ?_)
        · simp; omega
        · simp; omega
        · rw [hs, left_add k]
        · simp; omega
        · simp
        · simp [List.replicate]
    · have e : i = xs.length := by omega
      subst e
      simp [List.drop_length, left_zero g1] at hs
      simp [List.replicate, hw, hs]
def code_laws_toStructureSS : F := ⟨23, [.tmp 2],
 .seq (.reg [⟨some 2, .mov (.k (.sl .nil 0 [])), none⟩])
 (.seq (.reg [⟨some 5, .mov (.t 0), none⟩,
     ⟨some 6, .len (.t 5), none⟩,
     ⟨some 7, .mksl 25 1 24 (.sl .nil 0 []) (.t 6) (.t 6), none⟩,
     ⟨some 3, .mov (.t 7), none⟩])
  (.seq (.seq (.reg [⟨some 4, .mov (.k (.int .i64 0)), none⟩])
    (.block 0 (.loop (.seq (.seq (.reg [⟨some 8, .mov (.t 4), none⟩,
           ⟨some 9, .mov (.t 0), none⟩,
           ⟨some 10, .len (.t 9), none⟩,
           ⟨some 11, .bin .lss (.t 8) (.t 10), none⟩])
        (.cond (.t 11)
         (.skip)
         (.exit 0)))
       (.seq (.block 1 (.reg [⟨some 14, .mov (.t 3), none⟩,
            ⟨some 15, .mov (.t 4), none⟩,
            ⟨some 16, .mov (.t 0), none⟩,
            ⟨some 17, .mov (.t 4), none⟩,
            ⟨some 18, .iaddr 1 (.t 16) (.t 17), none⟩,
            ⟨some 19, .load 1 false (.t 18), none⟩,
            ⟨some 20, .call 14 [(.t 19)], none⟩,
            ⟨some 21, .iaddr 1 (.t 14) (.t 15), none⟩,
            ⟨none, .store 1 (.t 21) (.t 20), none⟩]))
        (.reg [⟨some 12, .mov (.t 4), none⟩,
           ⟨some 13, .bin .add (.t 12) (.k (.int .i64 1)), none⟩,
           ⟨some 4, .mov (.t 13), none⟩]))))))
   (.seq (.reg [⟨some 22, .mov (.t 3), none⟩,
       ⟨some 2, .mov (.t 22), none⟩])
    (.ret))))⟩
theorem fok_laws_toStructureSS : FOk Try.prog 88 code_laws_toStructureSS := fok Try.func88 (by kernel_rfl)
@[simp] def ct_toStrcss : Ct := ⟨88, List (List Strc), fun xs => szStrcss xs ≤ 1048576, fun xs => [encL 1 (encL 2 encStrc) xs], fun xs => encL 1 (encL 2 encStrc) xs⟩
theorem ok_toStrcss : ct_toStrcss.Ok Try.prog := by
  intro xs hx
  change List (List Strc) at xs
  change szStrcss xs ≤ 1048576 at hx
  have hx1 : xs.length ≤ 1048576 := by unfold szStrcss at hx; omega
  have hx2 : ∀ i (h : i < xs.length), szStrcs xs[i] ≤ 1048576 := fun i h => by
    have := sum_mem szStrcs (List.getElem_mem h)
    unfold szStrcss at hx; omega
  refine Ok.of_cw fok_laws_toStructureSS (go_ok tab_nil ?_)
  simp [code_laws_toStructureSS, List.replicate]
  refine ⟨by omega, by omega, ?_⟩
  refine cw_round (fun (p : Nat × List (List Strc)) => ⟨slots 23 [(0, encL 1 (encL 2 encStrc) xs), (3, .slref 0 0 p.2.length p.2.length), (4, .int .i64 p.1)], [.row true 25 1 (p.2.map (encL 2 encStrc))]⟩)
    (fun p => p.1 ≤ xs.length ∧ p.2.length = xs.length ∧ p.2.take p.1 = xs.take p.1) (fun p => xs.length - p.1) (0, List.replicate xs.length []) (by simp) ?_ ?_
  · refine weak_seal 1 (by omega) ?_ ?_
    · simp
    · simp [List.replicate]
  · rintro N hN ⟨i, ys⟩ ⟨hi, hl, ht⟩
    simp only at hi hl ht
    have hw : IntKind.i64.wrap ((i : Int) + 1) = ((i + 1 : Nat) : Int) := by rw [wrap_i64] <;> omega
    refine go_ok (tab_cons ok_toStrcs tab_nil) ?_
    by_cases h : i < xs.length
    · have h' : i < ys.length := by omega
      have h2 : ¬ xs.length ≤ i := by omega
      have h3 := hx2 i h
      simp [List.replicate, hw, h, h', h2, h3]
      refine hN _ (i + 1, ys.set i xs[i]) _ ⟨by omega, by simp [hl], ?_⟩ ?_ (weak_seal 1 (by omega) ?_ ?_)
      · exact fill_take h hl ht
      · simp; omega
      · simp
      · simp [List.replicate]
    · simp [List.replicate, hw, h]
      have e : i = xs.length := by omega
      subst e
      rw [← List.take_length (l := xs), ← ht, ← hl, List.take_length]
      simp
def code_laws_eqStructureSS : F := ⟨27, [.tmp 4],
 .seq (.reg [⟨some 4, .mov (.k (.bool false)), none⟩])
 (.seq (.seq (.reg [⟨some 6, .mov (.t 0), none⟩,
      ⟨some 7, .len (.t 6), none⟩,
      ⟨some 8, .mov (.t 1), none⟩,
      ⟨some 9, .len (.t 8), none⟩,
      ⟨some 10, .bin .neq (.t 7) (.t 9), none⟩])
   (.cond (.t 10)
    (.seq (.reg [⟨some 4, .mov (.k (.bool false)), none⟩])
     (.ret))
    (.skip)))
  (.seq (.seq (.reg [⟨some 5, .mov (.k (.int .i64 0)), none⟩])
    (.block 0 (.loop (.seq (.seq (.reg [⟨some 11, .mov (.t 5), none⟩,
           ⟨some 12, .mov (.t 0), none⟩,
           ⟨some 13, .len (.t 12), none⟩,
           ⟨some 14, .bin .lss (.t 11) (.t 13), none⟩])
        (.cond (.t 14)
         (.skip)
         (.exit 0)))
       (.seq (.block 1 (.seq (.dreg [false, false, false, false, false, false, false, false, true, true] [⟨some 17, .mov (.t 0), none⟩,
             ⟨some 18, .mov (.t 5), none⟩,
             ⟨some 19, .iaddr 1 (.t 17) (.t 18), none⟩,
             ⟨some 20, .load 1 false (.t 19), none⟩,
             ⟨some 21, .mov (.t 1), none⟩,
             ⟨some 22, .mov (.t 5), none⟩,
             ⟨some 23, .iaddr 1 (.t 21) (.t 22), none⟩,
             ⟨some 24, .load 1 false (.t 23), none⟩,
             ⟨some 25, .call 16 [(.t 20), (.t 24)], none⟩,
             ⟨some 26, .not (.t 25), none⟩])
          (.cond (.t 26)
           (.seq (.reg [⟨some 4, .mov (.k (.bool false)), none⟩])
            (.ret))
           (.skip))))
        (.reg [⟨some 15, .mov (.t 5), none⟩,
           ⟨some 16, .bin .add (.t 15) (.k (.int .i64 1)), none⟩,
           ⟨some 5, .mov (.t 16), none⟩]))))))
   (.seq (.reg [⟨some 4, .mov (.k (.bool true)), none⟩])
    (.ret))))⟩
theorem fok_laws_eqStructureSS : FOk Try.prog 90 code_laws_eqStructureSS := fok Try.func90 (by kernel_rfl)
@[simp] def ct_eqStrcss : Ct := ⟨90, List (List Strc) × List (List Strc), fun _ => True, fun x => [encL 1 (encL 2 encStrc) x.1, encL 1 (encL 2 encStrc) x.2], fun x => .bool (decide (x.1 = x.2))⟩
theorem ok_eqStrcss : ct_eqStrcss.Ok Try.prog := by
  rintro ⟨xs, ys⟩ -
  refine Ok.lens fun hl => Ok.of_cw fok_laws_eqStructureSS (go_ok tab_nil ?_)
  have hl : lensOkL [encL 1 (encL 2 encStrc) xs, encL 1 (encL 2 encStrc) ys] := hl
  rw [lensOkL_cons, lensOk_encL] at hl
  have hl := hl.1.1
  simp [code_laws_eqStructureSS, List.replicate]
  refine ⟨fun h => by intro e; rw [e] at h; exact h rfl, fun hlen => ?_⟩
  refine cw_round (fun (i : Nat) => ⟨slots 27 [(0, encL 1 (encL 2 encStrc) xs), (1, encL 1 (encL 2 encStrc) ys), (5, .int .i64 i)], []⟩)
    (fun i => i ≤ xs.length ∧ xs.take i = ys.take i) (fun i => xs.length - i) 0 (by simp) ?_ ?_
  · exact weak_seal 0 (by omega) (by simp) (by simp [List.replicate])
  · rintro N hN i ⟨hi, ht⟩
    refine go_ok (tab_cons ok_eqStrcs tab_nil) ?_
    by_cases h : i < xs.length
    · have hw : IntKind.i64.wrap ((i : Int) + 1) = ((i + 1 : Nat) : Int) := by rw [wrap_i64] <;> omega
      have h2 : ¬ xs.length ≤ i := by omega
      have h3 : i < ys.length := by omega
      simp [List.replicate, hw, h, h2, h3]
      refine ⟨take_ne h h3, fun he => hN _ (i + 1) _ ⟨by omega, take_step h h3 ht he⟩ (by omega) (weak_seal 0 (by omega) ?_ ?_)⟩
      · simp
      · simp [List.replicate]
    · simp [List.replicate, h]
      exact ⟨by omega, fun k => take_done (by omega) k ht⟩
def code_laws_szAlarmS : F := ⟨12, [.tmp 4],
 .seq (.reg [⟨some 4, .mov (.k (.int .i64 0)), none⟩])
 (.seq (.reg [⟨some 5, .mov (.t 1), none⟩,
     ⟨some 6, .mov (.t 0), none⟩,
     ⟨some 7, .len (.t 6), none⟩,
     ⟨some 8, .bin .sub (.t 5) (.t 7), none⟩,
     ⟨some 1, .mov (.t 8), none⟩])
  (.seq (.seq (.reg [⟨some 9, .mov (.t 1), none⟩,
       ⟨some 10, .bin .lss (.t 9) (.k (.int .i64 0)), none⟩])
    (.cond (.t 10)
     (.seq (.reg [⟨some 4, .mov (.k (.int .i64 (-1))), none⟩])
      (.ret))
     (.skip)))
   (.seq (.reg [⟨some 11, .mov (.t 1), none⟩,
       ⟨some 4, .mov (.t 11), none⟩])
    (.ret))))⟩
theorem fok_laws_szAlarmS : FOk Try.prog 87 code_laws_szAlarmS := fok Try.func87 (by kernel_rfl)
@[simp] def ct_szAlarms : Ct := ⟨87, List Alarm × Int, fun x => 0 ≤ x.2 ∧ x.2 ≤ 1048576, fun x => [encL 2 encAlarm x.1, .int .i64 x.2], fun x => .int .i64 (left x.1.length x.2)⟩
theorem ok_szAlarms : ct_szAlarms.Ok Try.prog := by
  rintro ⟨xs, l⟩ ⟨h1, h2⟩
  change 0 ≤ l at h1
  change l ≤ 1048576 at h2
  refine Ok.lens fun hl => Ok.of_cw fok_laws_szAlarmS (go_ok tab_nil ?_)
  have hl : lensOkL [encL 2 encAlarm xs, .int .i64 l] := hl
  rw [lensOkL_cons, lensOk_encL] at hl
  have hl := hl.1.1
  have hw : IntKind.i64.wrap (l - xs.length) = l - xs.length := by rw [wrap_i64] <;> omega
  simp [code_laws_szAlarmS, List.replicate, hw, left]
  omega
def code_laws_toAlarm : F := ⟨11, [.cell 2 true 2],
 .seq (.reg [⟨some 1, .box (.t 0), none⟩,
    ⟨some 2, .alloc [(.int .i64 0), (.int .i64 0)], none⟩])
 (.seq (.reg [⟨some 3, .alloc [(.int .i64 0), (.int .i64 0)], none⟩])
  (.seq (.reg [⟨some 4, .faddr 0 (.t 1), none⟩,
      ⟨some 5, .load 1 false (.t 4), none⟩,
      ⟨some 6, .faddr 0 (.t 3), none⟩,
      ⟨none, .store 1 (.t 6) (.t 5), none⟩])
   (.seq (.reg [⟨some 7, .faddr 1 (.t 1), none⟩,
       ⟨some 8, .load 1 false (.t 7), none⟩,
       ⟨some 9, .faddr 1 (.t 3), none⟩,
       ⟨none, .store 1 (.t 9) (.t 8), none⟩])
    (.seq (.reg [⟨some 10, .load 2 true (.t 3), none⟩,
        ⟨none, .store 2 (.t 2) (.t 10), none⟩])
     (.ret)))))⟩
theorem fok_laws_toAlarm : FOk Try.prog 147 code_laws_toAlarm := fok Try.func147 (by kernel_rfl)
@[simp] def ct_toAlarm : Ct := ⟨147, Alarm, fun x => True, fun x => [encAlarm x], fun x => encAlarm x⟩
theorem ok_toAlarm : ct_toAlarm.Ok Try.prog := by
  intro x hx
  change Alarm at x
  change True at hx
  refine Ok.of_cw fok_laws_toAlarm (go_ok tab_nil ?_)
  simp [code_laws_toAlarm, List.replicate, encAlarm_eq]
def code_laws_toAlarmS : F := ⟨23, [.tmp 2],
 .seq (.reg [⟨some 2, .mov (.k (.sl .nil 0 [])), none⟩])
 (.seq (.reg [⟨some 5, .mov (.t 0), none⟩,
     ⟨some 6, .len (.t 5), none⟩,
     ⟨some 7, .mksl 109 2 16 (.agg [(.int .i64 0), (.int .i64 0)]) (.t 6) (.t 6), none⟩,
     ⟨some 3, .mov (.t 7), none⟩])
  (.seq (.seq (.reg [⟨some 4, .mov (.k (.int .i64 0)), none⟩])
    (.block 0 (.loop (.seq (.seq (.reg [⟨some 8, .mov (.t 4), none⟩,
           ⟨some 9, .mov (.t 0), none⟩,
           ⟨some 10, .len (.t 9), none⟩,
           ⟨some 11, .bin .lss (.t 8) (.t 10), none⟩])
        (.cond (.t 11)
         (.skip)
         (.exit 0)))
       (.seq (.block 1 (.reg [⟨some 14, .mov (.t 3), none⟩,
            ⟨some 15, .mov (.t 4), none⟩,
            ⟨some 16, .mov (.t 0), none⟩,
            ⟨some 17, .mov (.t 4), none⟩,
            ⟨some 18, .iaddr 2 (.t 16) (.t 17), none⟩,
            ⟨some 19, .load 2 true (.t 18), none⟩,
            ⟨some 20, .call 147 [(.t 19)], none⟩,
            ⟨some 21, .iaddr 2 (.t 14) (.t 15), none⟩,
            ⟨none, .store 2 (.t 21) (.t 20), none⟩]))
        (.reg [⟨some 12, .mov (.t 4), none⟩,
           ⟨some 13, .bin .add (.t 12) (.k (.int .i64 1)), none⟩,
           ⟨some 4, .mov (.t 13), none⟩]))))))
   (.seq (.reg [⟨some 22, .mov (.t 3), none⟩,
       ⟨some 2, .mov (.t 22), none⟩])
    (.ret))))⟩
theorem fok_laws_toAlarmS : FOk Try.prog 89 code_laws_toAlarmS := fok Try.func89 (by kernel_rfl)
@[simp] def ct_toAlarms : Ct := ⟨89, List Alarm, fun xs => xs.length ≤ 1048576, fun xs => [encL 2 encAlarm xs], fun xs => encL 2 encAlarm xs⟩
theorem ok_toAlarms : ct_toAlarms.Ok Try.prog := by
  intro xs hx
  change List Alarm at xs
  change xs.length ≤ 1048576 at hx
  have hx1 : xs.length ≤ 1048576 := by omega
  have hx2 : ∀ i (h : i < xs.length), True := fun i h => by
    trivial
  refine Ok.of_cw fok_laws_toAlarmS (go_ok tab_nil ?_)
  simp [code_laws_toAlarmS, List.replicate]
  refine ⟨by omega, by omega, ?_⟩
  refine cw_round (fun (p : Nat × List Alarm) => ⟨slots 23 [(0, encL 2 encAlarm xs), (3, .slref 0 0 p.2.length p.2.length), (4, .int .i64 p.1)], [.row true 109 2 (p.2.map encAlarm)]⟩)
    (fun p => p.1 ≤ xs.length ∧ p.2.length = xs.length ∧ p.2.take p.1 = xs.take p.1) (fun p => xs.length - p.1) (0, List.replicate xs.length ⟨0, 0⟩) (by simp) ?_ ?_
  · refine weak_seal 1 (by omega) ?_ ?_
    · simp
    · simp [List.replicate]
  · rintro N hN ⟨i, ys⟩ ⟨hi, hl, ht⟩
    simp only at hi hl ht
    have hw : IntKind.i64.wrap ((i : Int) + 1) = ((i + 1 : Nat) : Int) := by rw [wrap_i64] <;> omega
    refine go_ok (tab_cons ok_toAlarm tab_nil) ?_
    by_cases h : i < xs.length
    · have h' : i < ys.length := by omega
      have h2 : ¬ xs.length ≤ i := by omega
      have h3 := hx2 i h
      simp [List.replicate, hw, h, h', h2, h3]
      refine hN _ (i + 1, ys.set i xs[i]) _ ⟨by omega, by simp [hl], ?_⟩ ?_ (weak_seal 1 (by omega) ?_ ?_)
      · exact fill_take h hl ht
      · simp; omega
      · simp
      · simp [List.replicate]
    · simp [List.replicate, hw, h]
      have e : i = xs.length := by omega
      subst e
      rw [← List.take_length (l := xs), ← ht, ← hl, List.take_length]
      simp
def code_laws_eqAlarm : F := ⟨15, [.tmp 4],
 .seq (.reg [⟨some 2, .box (.t 0), none⟩,
    ⟨some 3, .box (.t 1), none⟩,
    ⟨some 4, .mov (.k (.bool false)), none⟩])
 (.seq (.seq (.reg [⟨some 5, .faddr 0 (.t 2), none⟩,
      ⟨some 6, .load 1 false (.t 5), none⟩,
      ⟨some 7, .faddr 0 (.t 3), none⟩,
      ⟨some 8, .load 1 false (.t 7), none⟩,
      ⟨some 9, .bin .neq (.t 6) (.t 8), none⟩])
   (.cond (.t 9)
    (.seq (.reg [⟨some 4, .mov (.k (.bool false)), none⟩])
     (.ret))
    (.skip)))
  (.seq (.seq (.reg [⟨some 10, .faddr 1 (.t 2), none⟩,
       ⟨some 11, .load 1 false (.t 10), none⟩,
       ⟨some 12, .faddr 1 (.t 3), none⟩,
       ⟨some 13, .load 1 false (.t 12), none⟩,
       ⟨some 14, .bin .neq (.t 11) (.t 13), none⟩])
    (.cond (.t 14)
     (.seq (.reg [⟨some 4, .mov (.k (.bool false)), none⟩])
      (.ret))
     (.skip)))
   (.seq (.reg [⟨some 4, .mov (.k (.bool true)), none⟩])
    (.ret))))⟩
theorem fok_laws_eqAlarm : FOk Try.prog 148 code_laws_eqAlarm := fok Try.func148 (by kernel_rfl)
@[simp] def ct_eqAlarm : Ct := ⟨148, Alarm × Alarm, fun _ => True, fun x => [encAlarm x.1, encAlarm x.2], fun x => .bool (decide (x.1 = x.2))⟩
theorem ok_eqAlarm : ct_eqAlarm.Ok Try.prog := by
  rintro ⟨⟨a, b⟩, ⟨a', b'⟩⟩ -
  refine Ok.of_cw fok_laws_eqAlarm (go_ok tab_nil ?_)
  simp [code_laws_eqAlarm, List.replicate]
  grind
def code_laws_eqAlarmS : F := ⟨27, [.tmp 4],
 .seq (.reg [⟨some 4, .mov (.k (.bool false)), none⟩])
 (.seq (.seq (.reg [⟨some 6, .mov (.t 0), none⟩,
      ⟨some 7, .len (.t 6), none⟩,
      ⟨some 8, .mov (.t 1), none⟩,
      ⟨some 9, .len (.t 8), none⟩,
      ⟨some 10, .bin .neq (.t 7) (.t 9), none⟩])
   (.cond (.t 10)
    (.seq (.reg [⟨some 4, .mov (.k (.bool false)), none⟩])
     (.ret))
    (.skip)))
  (.seq (.seq (.reg [⟨some 5, .mov (.k (.int .i64 0)), none⟩])
    (.block 0 (.loop (.seq (.seq (.reg [⟨some 11, .mov (.t 5), none⟩,
           ⟨some 12, .mov (.t 0), none⟩,
           ⟨some 13, .len (.t 12), none⟩,
           ⟨some 14, .bin .lss (.t 11) (.t 13), none⟩])
        (.cond (.t 14)
         (.skip)
         (.exit 0)))
       (.seq (.block 1 (.seq (.dreg [false, false, false, false, false, false, false, false, true, true] [⟨some 17, .mov (.t 0), none⟩,
             ⟨some 18, .mov (.t 5), none⟩,
             ⟨some 19, .iaddr 2 (.t 17) (.t 18), none⟩,
             ⟨some 20, .load 2 true (.t 19), none⟩,
             ⟨some 21, .mov (.t 1), none⟩,
             ⟨some 22, .mov (.t 5), none⟩,
             ⟨some 23, .iaddr 2 (.t 21) (.t 22), none⟩,
             ⟨some 24, .load 2 true (.t 23), none⟩,
             ⟨some 25, .call 148 [(.t 20), (.t 24)], none⟩,
             ⟨some 26, .not (.t 25), none⟩])
          (.cond (.t 26)
           (.seq (.reg [⟨some 4, .mov (.k (.bool false)), none⟩])
            (.ret))
           (.skip))))
        (.reg [⟨some 15, .mov (.t 5), none⟩,
           ⟨some 16, .bin .add (.t 15) (.k (.int .i64 1)), none⟩,
           ⟨some 5, .mov (.t 16), none⟩]))))))
   (.seq (.reg [⟨some 4, .mov (.k (.bool true)), none⟩])
    (.ret))))⟩
theorem fok_laws_eqAlarmS : FOk Try.prog 91 code_laws_eqAlarmS := fok Try.func91 (by kernel_rfl)
@[simp] def ct_eqAlarms : Ct := ⟨91, List Alarm × List Alarm, fun _ => True, fun x => [encL 2 encAlarm x.1, encL 2 encAlarm x.2], fun x => .bool (decide (x.1 = x.2))⟩
theorem ok_eqAlarms : ct_eqAlarms.Ok Try.prog := by
  rintro ⟨xs, ys⟩ -
  refine Ok.lens fun hl => Ok.of_cw fok_laws_eqAlarmS (go_ok tab_nil ?_)
  have hl : lensOkL [encL 2 encAlarm xs, encL 2 encAlarm ys] := hl
  rw [lensOkL_cons, lensOk_encL] at hl
  have hl := hl.1.1
  simp [code_laws_eqAlarmS, List.replicate]
  refine ⟨fun h => by intro e; rw [e] at h; exact h rfl, fun hlen => ?_⟩
  refine cw_round (fun (i : Nat) => ⟨slots 27 [(0, encL 2 encAlarm xs), (1, encL 2 encAlarm ys), (5, .int .i64 i)], []⟩)
    (fun i => i ≤ xs.length ∧ xs.take i = ys.take i) (fun i => xs.length - i) 0 (by simp) ?_ ?_
  · exact weak_seal 0 (by omega) (by simp) (by simp [List.replicate])
  · rintro N hN i ⟨hi, ht⟩
    refine go_ok (tab_cons ok_eqAlarm tab_nil) ?_
    by_cases h : i < xs.length
    · have hw : IntKind.i64.wrap ((i : Int) + 1) = ((i + 1 : Nat) : Int) := by rw [wrap_i64] <;> omega
      have h2 : ¬ xs.length ≤ i := by omega
      have h3 : i < ys.length := by omega
      simp [List.replicate, hw, h, h2, h3]
      refine ⟨take_ne h h3, fun he => hN _ (i + 1) _ ⟨by omega, take_step h h3 ht he⟩ (by omega) (weak_seal 0 (by omega) ?_ ?_)⟩
      · simp
      · simp [List.replicate]
    · simp [List.replicate, h]
      exact ⟨by omega, fun k => take_done (by omega) k ht⟩
def code_laws_szAnalysis : F := ⟨18, [.tmp 4],
 .seq (.reg [⟨some 2, .box (.t 0), none⟩,
    ⟨some 4, .mov (.k (.int .i64 0)), none⟩])
 (.seq (.reg [⟨some 5, .faddr 0 (.t 2), none⟩,
     ⟨some 6, .load 1 false (.t 5), none⟩,
     ⟨some 7, .mov (.t 1), none⟩,
     ⟨some 8, .call 86 [(.t 6), (.t 7)], none⟩,
     ⟨some 1, .mov (.t 8), none⟩])
  (.seq (.seq (.reg [⟨some 9, .mov (.t 1), none⟩,
       ⟨some 10, .bin .lss (.t 9) (.k (.int .i64 0)), none⟩])
    (.cond (.t 10)
     (.seq (.reg [⟨some 4, .mov (.k (.int .i64 (-1))), none⟩])
      (.ret))
     (.skip)))
   (.seq (.reg [⟨some 11, .faddr 1 (.t 2), none⟩,
       ⟨some 12, .load 1 false (.t 11), none⟩,
       ⟨some 13, .mov (.t 1), none⟩,
       ⟨some 14, .call 87 [(.t 12), (.t 13)], none⟩,
       ⟨some 1, .mov (.t 14), none⟩])
    (.seq (.seq (.reg [⟨some 15, .mov (.t 1), none⟩,
         ⟨some 16, .bin .lss (.t 15) (.k (.int .i64 0)), none⟩])
      (.cond (.t 16)
       (.seq (.reg [⟨some 4, .mov (.k (.int .i64 (-1))), none⟩])
        (.ret))
       (.skip)))
     (.seq (.reg [⟨some 17, .mov (.t 1), none⟩,
         ⟨some 4, .mov (.t 17), none⟩])
      (.ret))))))⟩
theorem fok_laws_szAnalysis : FOk Try.prog 31 code_laws_szAnalysis := fok Try.func31 (by kernel_rfl)
@[simp] def ct_szAnal : Ct := ⟨31, Anal × Int, fun x => 0 ≤ x.2 ∧ x.2 ≤ 1048576, fun x => [encAnal x.1, .int .i64 x.2], fun x => .int .i64 (left (szAnal x.1) x.2)⟩
theorem ok_szAnal : ct_szAnal.Ok Try.prog := by
  rintro ⟨x, l⟩ ⟨h1, h2⟩
  change 0 ≤ l at h1
  change l ≤ 1048576 at h2
  refine Ok.of_cw fok_laws_szAnalysis (go_ok (tab_cons ok_szStrcss (tab_cons ok_szAlarms tab_nil)) ?_)
  simp [code_laws_szAnalysis, List.replicate, encAnal_eq, h1, h2]
  simp only [left, szAnal]
  (repeat' split) <;> omega
def code_laws_toAnalysis : F := ⟨16, [.cell 3 true 2],
 .seq (.reg [⟨some 1, .box (.t 0), none⟩,
    ⟨some 2, .alloc [(.sl .nil 0 []), (.sl .nil 0 []), (.int .i64 0)], none⟩])
 (.seq (.reg [⟨some 3, .alloc [(.sl .nil 0 []), (.sl .nil 0 []), (.int .i64 0)], none⟩])
  (.seq (.reg [⟨some 4, .faddr 0 (.t 1), none⟩,
      ⟨some 5, .load 1 false (.t 4), none⟩,
      ⟨some 6, .call 88 [(.t 5)], none⟩,
      ⟨some 7, .faddr 0 (.t 3), none⟩,
      ⟨none, .store 1 (.t 7) (.t 6), none⟩])
   (.seq (.reg [⟨some 8, .faddr 1 (.t 1), none⟩,
       ⟨some 9, .load 1 false (.t 8), none⟩,
       ⟨some 10, .call 89 [(.t 9)], none⟩,
       ⟨some 11, .faddr 1 (.t 3), none⟩,
       ⟨none, .store 1 (.t 11) (.t 10), none⟩])
    (.seq (.reg [⟨some 12, .faddr 2 (.t 1), none⟩,
        ⟨some 13, .load 1 false (.t 12), none⟩,
        ⟨some 14, .faddr 2 (.t 3), none⟩,
        ⟨none, .store 1 (.t 14) (.t 13), none⟩])
     (.seq (.reg [⟨some 15, .load 3 true (.t 3), none⟩,
         ⟨none, .store 3 (.t 2) (.t 15), none⟩])
      (.ret))))))⟩
theorem fok_laws_toAnalysis : FOk Try.prog 33 code_laws_toAnalysis := fok Try.func33 (by kernel_rfl)
@[simp] def ct_toAnal : Ct := ⟨33, Anal, fun x => szAnal x ≤ 1048576, fun x => [encAnal x], fun x => encAnal x⟩
theorem ok_toAnal : ct_toAnal.Ok Try.prog := by
  intro x hx
  change Anal at x
  change szAnal x ≤ 1048576 at hx
  unfold szAnal at hx
  refine Ok.of_cw fok_laws_toAnalysis (go_ok (tab_cons ok_toStrcss (tab_cons ok_toAlarms tab_nil)) ?_)
  simp [code_laws_toAnalysis, List.replicate, encAnal_eq]
  omega
def code_laws_eqAnalysis : F := ⟨22, [.tmp 4],
 .seq (.reg [⟨some 2, .box (.t 0), none⟩,
    ⟨some 3, .box (.t 1), none⟩,
    ⟨some 4, .mov (.k (.bool false)), none⟩])
 (.seq (.seq (.reg [⟨some 5, .faddr 0 (.t 2), none⟩,
      ⟨some 6, .load 1 false (.t 5), none⟩,
      ⟨some 7, .faddr 0 (.t 3), none⟩,
      ⟨some 8, .load 1 false (.t 7), none⟩,
      ⟨some 9, .call 90 [(.t 6), (.t 8)], none⟩,
      ⟨some 10, .not (.t 9), none⟩])
   (.cond (.t 10)
    (.seq (.reg [⟨some 4, .mov (.k (.bool false)), none⟩])
     (.ret))
    (.skip)))
  (.seq (.seq (.reg [⟨some 11, .faddr 1 (.t 2), none⟩,
       ⟨some 12, .load 1 false (.t 11), none⟩,
       ⟨some 13, .faddr 1 (.t 3), none⟩,
       ⟨some 14, .load 1 false (.t 13), none⟩,
       ⟨some 15, .call 91 [(.t 12), (.t 14)], none⟩,
       ⟨some 16, .not (.t 15), none⟩])
    (.cond (.t 16)
     (.seq (.reg [⟨some 4, .mov (.k (.bool false)), none⟩])
      (.ret))
     (.skip)))
   (.seq (.seq (.reg [⟨some 17, .faddr 2 (.t 2), none⟩,
        ⟨some 18, .load 1 false (.t 17), none⟩,
        ⟨some 19, .faddr 2 (.t 3), none⟩,
        ⟨some 20, .load 1 false (.t 19), none⟩,
        ⟨some 21, .bin .neq (.t 18) (.t 20), none⟩])
     (.cond (.t 21)
      (.seq (.reg [⟨some 4, .mov (.k (.bool false)), none⟩])
       (.ret))
      (.skip)))
    (.seq (.reg [⟨some 4, .mov (.k (.bool true)), none⟩])
     (.ret)))))⟩
theorem fok_laws_eqAnalysis : FOk Try.prog 35 code_laws_eqAnalysis := fok Try.func35 (by kernel_rfl)
@[simp] def ct_eqAnal : Ct := ⟨35, Anal × Anal, fun _ => True, fun x => [encAnal x.1, encAnal x.2], fun x => .bool (decide (x.1 = x.2))⟩
theorem ok_eqAnal : ct_eqAnal.Ok Try.prog := by
  rintro ⟨⟨a, b, c⟩, ⟨a', b', c'⟩⟩ -
  refine Ok.of_cw fok_laws_eqAnalysis (go_ok (tab_cons ok_eqStrcss (tab_cons ok_eqAlarms tab_nil)) ?_)
  simp [code_laws_eqAnalysis, List.replicate]
  grind
end Go.Vm
