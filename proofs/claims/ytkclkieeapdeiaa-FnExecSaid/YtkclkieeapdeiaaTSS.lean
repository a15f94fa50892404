/- Strings and statements: what the laws' size, copy and comparison functions answer. No condition. -/
import Derived.Test.YtkclkieeapdeiaaTU
set_option linter.unusedSimpArgs false
set_option linter.unusedVariables false
namespace Go.Vm
open Go.Proofs
theorem ty_strB {P : Go.Program} {n : Nat} {t : TypeId} {cs0 : List AV} (hu : P.underlying t = some .string) (h : TyN P n t cs0) : ∃ s : List UInt8, s.length ≤ 9223372036854775807 ∧ cs0 = [.str s] := by
  cases n with
  | zero => exact h.elim
  | succ n =>
    simp only [TyN, hu] at h
    obtain ⟨s, e, hl⟩ := h
    exact ⟨s, Nat.le_trans hl (by simp [maxLen]), e⟩
theorem map_decB {α : Type} {f : α → AV} {Q : α → Prop} {b : Bool} : ∀ {css : List (List AV)}, (∀ cs ∈ css, ∃ x, Q x ∧ mkE b cs = f x) → ∃ xs : List α, (∀ x ∈ xs, Q x) ∧ css.map (mkE b) = xs.map f
  | [], _ => ⟨[], by simp, rfl⟩
  | c :: cs, h => by
    obtain ⟨x, hq, hx⟩ := h c (by simp)
    obtain ⟨xs, hqs, hxs⟩ := map_decB (f := f) (Q := Q) (b := b) (css := cs) fun d hd => h d (by simp [hd])
    exact ⟨x :: xs, by intro y hy; rcases List.mem_cons.1 hy with rfl | hy; exact hq; exact hqs y hy, by simp [hx, hxs]⟩
theorem ty_sliceB {P : Go.Program} {n : Nat} {t : TypeId} {cs0 : List AV} {e : TypeId} {sz : Nat} {b : Bool} {α : Type} (f : α → AV) (Q : α → Prop) (hu : P.underlying t = some (.slice e)) (hc : P.cellsOf e = sz) (hag : isAgg' P e = b)
    (dec : ∀ m cs, m < n → TyN P m e cs → ∃ x, Q x ∧ mkE b cs = f x) (h : TyN P n t cs0) : ∃ xs : List α, (∀ x ∈ xs, Q x) ∧ cs0 = [encL sz f xs] := by
  cases n with
  | zero => exact h.elim
  | succ n =>
    simp only [TyN, hu, hc, hag] at h
    obtain ⟨css, rfl, _, hall⟩ := h
    obtain ⟨xs, hq, hxs⟩ := map_decB (f := f) (Q := Q) (b := b) fun cs hcs => dec n cs (by omega) (hall cs hcs)
    exact ⟨xs, hq, by rw [hxs]; rfl⟩
def strsOk (l : List (List UInt8)) : Prop := ∀ s ∈ l, s.length ≤ 9223372036854775807
def szStrs (l : List (List UInt8)) : Nat := l.length + (l.map List.length).sum
def code_laws_szStringS : F := ⟨28, [.tmp 4],
 .seq (.reg [⟨some 4, .mov (.k (.int .i64 0)), none⟩])
 (.seq (.reg [⟨some 6, .mov (.t 1), none⟩,
     ⟨some 7, .mov (.t 0), none⟩,
     ⟨some 8, .len (.t 7), none⟩,
     ⟨some 9, .bin .sub (.t 6) (.t 8), none⟩,
     ⟨some 1, .mov (.t 9), none⟩])
  (.seq (.seq (.reg [⟨some 10, .mov (.t 1), none⟩,
       ⟨some 11, .bin .lss (.t 10) (.k (.int .i64 0)), none⟩])
    (.cond (.t 11)
     (.seq (.reg [⟨some 4, .mov (.k (.int .i64 (-1))), none⟩])
      (.ret))
     (.skip)))
   (.seq (.seq (.reg [⟨some 5, .mov (.k (.int .i64 0)), none⟩])
     (.block 0 (.loop (.seq (.seq (.reg [⟨some 12, .mov (.t 5), none⟩,
            ⟨some 13, .mov (.t 0), none⟩,
            ⟨some 14, .len (.t 13), none⟩,
            ⟨some 15, .bin .lss (.t 12) (.t 14), none⟩])
         (.cond (.t 15)
          (.skip)
          (.exit 0)))
        (.seq (.block 1 (.seq (.reg [⟨some 18, .mov (.t 1), none⟩,
              ⟨some 19, .mov (.t 0), none⟩,
              ⟨some 20, .mov (.t 5), none⟩,
              ⟨some 21, .iaddr 1 (.t 19) (.t 20), none⟩,
              ⟨some 22, .load 1 false (.t 21), none⟩,
              ⟨some 23, .slen (.t 22), none⟩,
              ⟨some 24, .bin .sub (.t 18) (.t 23), none⟩,
              ⟨some 1, .mov (.t 24), none⟩])
           (.seq (.reg [⟨some 25, .mov (.t 1), none⟩,
               ⟨some 26, .bin .lss (.t 25) (.k (.int .i64 0)), none⟩])
            (.cond (.t 26)
             (.seq (.reg [⟨some 4, .mov (.k (.int .i64 (-1))), none⟩])
              (.ret))
             (.skip)))))
         (.reg [⟨some 16, .mov (.t 5), none⟩,
            ⟨some 17, .bin .add (.t 16) (.k (.int .i64 1)), none⟩,
            ⟨some 5, .mov (.t 17), none⟩]))))))
    (.seq (.reg [⟨some 27, .mov (.t 1), none⟩,
        ⟨some 4, .mov (.t 27), none⟩])
     (.ret)))))⟩
theorem fok_laws_szStringS : FOk Try.prog 17 code_laws_szStringS := fok Try.func17 (by kernel_rfl)
def code_laws_toStringS : F := ⟨22, [.tmp 2],
 .seq (.reg [⟨some 2, .mov (.k (.sl .nil 0 [])), none⟩])
 (.seq (.reg [⟨some 5, .mov (.t 0), none⟩,
     ⟨some 6, .len (.t 5), none⟩,
     ⟨some 7, .mksl 9 1 16 (.str []) (.t 6) (.t 6), none⟩,
     ⟨some 3, .mov (.t 7), none⟩])
  (.seq (.seq (.reg [⟨some 4, .mov (.k (.int .i64 0)), none⟩])
    (.block 0 (.loop (.seq (.seq (.reg [⟨some 8, .mov (.t 4), none⟩,
           ⟨some 9, .mov (.t 0), none⟩,
           ⟨some 10, .len (.t 9), none⟩,
           ⟨some 11, .bin .lss (.t 8) (.t 10), none⟩])
        (.cond (.t 11)
         (.skip)
         (.exit 0)))
       (.seq (.block 1 (.reg [⟨some 14, .mov (.t 3), none⟩,
            ⟨some 15, .mov (.t 4), none⟩,
            ⟨some 16, .mov (.t 0), none⟩,
            ⟨some 17, .mov (.t 4), none⟩,
            ⟨some 18, .iaddr 1 (.t 16) (.t 17), none⟩,
            ⟨some 19, .load 1 false (.t 18), none⟩,
            ⟨some 20, .iaddr 1 (.t 14) (.t 15), none⟩,
            ⟨none, .store 1 (.t 20) (.t 19), none⟩]))
        (.reg [⟨some 12, .mov (.t 4), none⟩,
           ⟨some 13, .bin .add (.t 12) (.k (.int .i64 1)), none⟩,
           ⟨some 4, .mov (.t 13), none⟩]))))))
   (.seq (.reg [⟨some 21, .mov (.t 3), none⟩,
       ⟨some 2, .mov (.t 21), none⟩])
    (.ret))))⟩
theorem fok_laws_toStringS : FOk Try.prog 20 code_laws_toStringS := fok Try.func20 (by kernel_rfl)
def code_laws_eqStringS : F := ⟨26, [.tmp 4],
 .seq (.reg [⟨some 4, .mov (.k (.bool false)), none⟩])
 (.seq (.seq (.reg [⟨some 6, .mov (.t 0), none⟩,
      ⟨some 7, .len (.t 6), none⟩,
      ⟨some 8, .mov (.t 1), none⟩,
      ⟨some 9, .len (.t 8), none⟩,
      ⟨some 10, .bin .neq (.t 7) (.t 9), none⟩])
   (.cond (.t 10)
    (.seq (.reg [⟨some 4, .mov (.k (.bool false)), none⟩])
     (.ret))
    (.skip)))
  (.seq (.seq (.reg [⟨some 5, .mov (.k (.int .i64 0)), none⟩])
    (.block 0 (.loop (.seq (.seq (.reg [⟨some 11, .mov (.t 5), none⟩,
           ⟨some 12, .mov (.t 0), none⟩,
           ⟨some 13, .len (.t 12), none⟩,
           ⟨some 14, .bin .lss (.t 11) (.t 13), none⟩])
        (.cond (.t 14)
         (.skip)
         (.exit 0)))
       (.seq (.block 1 (.seq (.dreg [false, false, false, false, false, false, false, false, true] [false, false, false, false, false, false, false, false, false] [⟨some 17, .mov (.t 0), none⟩,
             ⟨some 18, .mov (.t 5), none⟩,
             ⟨some 19, .iaddr 1 (.t 17) (.t 18), none⟩,
             ⟨some 20, .load 1 false (.t 19), none⟩,
             ⟨some 21, .mov (.t 1), none⟩,
             ⟨some 22, .mov (.t 5), none⟩,
             ⟨some 23, .iaddr 1 (.t 21) (.t 22), none⟩,
             ⟨some 24, .load 1 false (.t 23), none⟩,
             ⟨some 25, .bin .neq (.t 20) (.t 24), none⟩])
          (.cond (.t 25)
           (.seq (.reg [⟨some 4, .mov (.k (.bool false)), none⟩])
            (.ret))
           (.skip))))
        (.reg [⟨some 15, .mov (.t 5), none⟩,
           ⟨some 16, .bin .add (.t 15) (.k (.int .i64 1)), none⟩,
           ⟨some 5, .mov (.t 16), none⟩]))))))
   (.seq (.reg [⟨some 4, .mov (.k (.bool true)), none⟩])
    (.ret))))⟩
theorem fok_laws_eqStringS : FOk Try.prog 24 code_laws_eqStringS := fok Try.func24 (by kernel_rfl)
@[simp] def ct_szStrs : Ct := ⟨17, List (List UInt8) × Int, fun x => strsOk x.1 ∧ 0 ≤ x.2 ∧ x.2 ≤ 1048576, fun x => [encL 1 encStr x.1, .int .i64 x.2], fun x => .int .i64 (left (szStrs x.1) x.2)⟩
set_option maxHeartbeats 1000000 in
theorem ok_szStrs : ct_szStrs.Ok Try.prog := by
  rintro ⟨xs, l⟩ ⟨hq, h1, h2⟩
  change strsOk xs at hq
  change 0 ≤ l at h1
  change l ≤ 1048576 at h2
  refine Ok.lens fun hl => Ok.of_cw fok_laws_szStringS (go_ok tab_nil ?_)
  have hl : lensOkL [encL 1 encStr xs, .int .i64 l] := hl
  rw [lensOkL_cons, lensOk_encL] at hl
  have hl := hl.1.1
  have hw : IntKind.i64.wrap (l - xs.length) = l - xs.length := by rw [wrap_i64] <;> omega
  simp [code_laws_szStringS, List.replicate, hw]
  refine ⟨fun h => left_neg (by unfold szStrs; omega), fun h => ?_⟩
  refine cw_round (fun (p : Nat × Int) => ⟨slots 28 [(0, encL 1 encStr xs), (1, .int .i64 p.2), (5, .int .i64 p.1)], []⟩)
    (fun p => p.1 ≤ xs.length ∧ 0 ≤ p.2 ∧ p.2 ≤ 1048576 ∧ left (szStrs xs) l = left ((xs.drop p.1).map List.length).sum p.2) (fun p => xs.length - p.1) (0, l - xs.length) ?_ ?_ ?_
  · refine ⟨by simp, by simp; omega, by simp; omega, ?_⟩
    simp only [List.drop_zero, szStrs]
    exact left_add (by omega)
  · exact weak_seal 0 (by omega) (by simp) (by simp [List.replicate])
  · rintro N hN ⟨i, l'⟩ ⟨hi, g1, g2, hs⟩
    change i ≤ xs.length at hi
    change 0 ≤ l' at g1
    change l' ≤ 1048576 at g2
    change left (szStrs xs) l = left ((xs.drop i).map List.length).sum l' at hs
    have hw : IntKind.i64.wrap ((i : Int) + 1) = ((i + 1 : Nat) : Int) := by rw [wrap_i64] <;> omega
    refine go_ok tab_nil ?_
    by_cases h : i < xs.length
    · have h2 : ¬ xs.length ≤ i := by omega
      have h3 := hq xs[i] (List.getElem_mem h)
      have hw2 : IntKind.i64.wrap (l' - xs[i].length) = l' - xs[i].length := by rw [wrap_i64] <;> omega
      rw [sum_drop List.length h] at hs
      simp [List.replicate, hw, hw2, h, h2, g1, g2]
      refine ⟨fun k => ?_, fun k => ?_⟩
      · rw [hs, left_add_neg (by omega)]
      · refine hN _ (i + 1, l' - xs[i].length) _ ⟨by omega, ?_, ?_, ?_⟩ ?_ (weak_seal 0 (by omega) ?_ ?_)
        · simp; omega
        · simp; omega
        · rw [hs, left_add (by omega)]
        · simp; omega
        · simp
        · simp [List.replicate]
    · have e : i = xs.length := by omega
      subst e
      simp [List.drop_length, left_zero g1] at hs
      simp [List.replicate, hw, hs]
@[simp] def ct_toStrs : Ct := ⟨20, List (List UInt8), fun xs => xs.length ≤ 1048576, fun xs => [encL 1 encStr xs], fun xs => encL 1 encStr xs⟩
theorem ok_toStrs : ct_toStrs.Ok Try.prog := by
  intro xs hx
  change List (List UInt8) at xs
  change xs.length ≤ 1048576 at hx
  refine Ok.of_cw fok_laws_toStringS (go_ok tab_nil ?_)
  simp [code_laws_toStringS, List.replicate]
  refine ⟨by omega, by omega, ?_⟩
  refine cw_round (fun (p : Nat × List (List UInt8)) => ⟨slots 22 [(0, encL 1 encStr xs), (3, .slref 0 0 p.2.length p.2.length), (4, .int .i64 p.1)], [.row true 9 1 (p.2.map encStr)]⟩)
    (fun p => p.1 ≤ xs.length ∧ p.2.length = xs.length ∧ p.2.take p.1 = xs.take p.1) (fun p => xs.length - p.1) (0, List.replicate xs.length []) (by simp) ?_ ?_
  · refine weak_seal 1 (by omega) ?_ ?_
    · simp
    · simp [List.replicate]
  · rintro N hN ⟨i, ys⟩ ⟨hi, hl, ht⟩
    simp only at hi hl ht
    have hw : IntKind.i64.wrap ((i : Int) + 1) = ((i + 1 : Nat) : Int) := by rw [wrap_i64] <;> omega
    refine go_ok tab_nil ?_
    by_cases h : i < xs.length
    · have h' : i < ys.length := by omega
      have h2 : ¬ xs.length ≤ i := by omega
      simp [List.replicate, hw, h, h', h2]
      refine hN _ (i + 1, ys.set i xs[i]) _ ⟨by omega, by simp [hl], ?_⟩ ?_ (weak_seal 1 (by omega) ?_ ?_)
      · exact fill_take h hl ht
      · simp; omega
      · simp
      · simp [List.replicate]
    · simp [List.replicate, hw, h]
      have e : i = xs.length := by omega
      subst e
      rw [← List.take_length (l := xs), ← ht, ← hl, List.take_length]
      simp
@[simp] def ct_eqStrs : Ct := ⟨24, List (List UInt8) × List (List UInt8), fun _ => True, fun x => [encL 1 encStr x.1, encL 1 encStr x.2], fun x => .bool (decide (x.1 = x.2))⟩
theorem ok_eqStrs : ct_eqStrs.Ok Try.prog := by
  rintro ⟨xs, ys⟩ -
  refine Ok.lens fun hl => Ok.of_cw fok_laws_eqStringS (go_ok tab_nil ?_)
  have hl : lensOkL [encL 1 encStr xs, encL 1 encStr ys] := hl
  rw [lensOkL_cons, lensOk_encL] at hl
  have hl := hl.1.1
  simp [code_laws_eqStringS, List.replicate]
  refine ⟨fun h => by intro e; rw [e] at h; exact h rfl, fun hlen => ?_⟩
  refine cw_round (fun (i : Nat) => ⟨slots 26 [(0, encL 1 encStr xs), (1, encL 1 encStr ys), (5, .int .i64 i)], []⟩)
    (fun i => i ≤ xs.length ∧ xs.take i = ys.take i) (fun i => xs.length - i) 0 (by simp) ?_ ?_
  · exact weak_seal 0 (by omega) (by simp) (by simp [List.replicate])
  · rintro N hN i ⟨hi, ht⟩
    refine go_ok tab_nil ?_
    by_cases h : i < xs.length
    · have hw : IntKind.i64.wrap ((i : Int) + 1) = ((i + 1 : Nat) : Int) := by rw [wrap_i64] <;> omega
      have h2 : ¬ xs.length ≤ i := by omega
      have h3 : i < ys.length := by omega
      simp [List.replicate, hw, h, h2, h3]
      refine ⟨take_ne h h3, fun he => hN _ (i + 1) _ ⟨by omega, take_step h h3 ht he⟩ (by omega) (weak_seal 0 (by omega) ?_ ?_)⟩
      · simp
      · simp [List.replicate]
    · simp [List.replicate, h]
      exact ⟨by omega, fun k => take_done (by omega) k ht⟩
def code_laws_szStmt : F := ⟨20, [.tmp 4],
 .seq (.reg [⟨some 2, .box (.t 0), none⟩,
    ⟨some 4, .mov (.k (.int .i64 0)), none⟩])
 (.seq (.reg [⟨some 5, .mov (.t 1), none⟩,
     ⟨some 6, .faddr 1 (.t 2), none⟩,
     ⟨some 7, .load 1 false (.t 6), none⟩,
     ⟨some 8, .slen (.t 7), none⟩,
     ⟨some 9, .bin .sub (.t 5) (.t 8), none⟩,
     ⟨some 1, .mov (.t 9), none⟩])
  (.seq (.seq (.reg [⟨some 10, .mov (.t 1), none⟩,
       ⟨some 11, .bin .lss (.t 10) (.k (.int .i64 0)), none⟩])
    (.cond (.t 11)
     (.seq (.reg [⟨some 4, .mov (.k (.int .i64 (-1))), none⟩])
      (.ret))
     (.skip)))
   (.seq (.reg [⟨some 12, .mov (.t 1), none⟩,
       ⟨some 13, .faddr 2 (.t 2), none⟩,
       ⟨some 14, .load 1 false (.t 13), none⟩,
       ⟨some 15, .slen (.t 14), none⟩,
       ⟨some 16, .bin .sub (.t 12) (.t 15), none⟩,
       ⟨some 1, .mov (.t 16), none⟩])
    (.seq (.seq (.reg [⟨some 17, .mov (.t 1), none⟩,
         ⟨some 18, .bin .lss (.t 17) (.k (.int .i64 0)), none⟩])
      (.cond (.t 18)
       (.seq (.reg [⟨some 4, .mov (.k (.int .i64 (-1))), none⟩])
        (.ret))
       (.skip)))
     (.seq (.reg [⟨some 19, .mov (.t 1), none⟩,
         ⟨some 4, .mov (.t 19), none⟩])
      (.ret))))))⟩
theorem fok_laws_szStmt : FOk Try.prog 18 code_laws_szStmt := fok Try.func18 (by kernel_rfl)
def code_laws_toStmt : F := ⟨14, [.cell 3 true 2],
 .seq (.reg [⟨some 1, .box (.t 0), none⟩,
    ⟨some 2, .alloc [(.int .i64 0), (.str []), (.str [])], none⟩])
 (.seq (.reg [⟨some 3, .alloc [(.int .i64 0), (.str []), (.str [])], none⟩])
  (.seq (.reg [⟨some 4, .faddr 0 (.t 1), none⟩,
      ⟨some 5, .load 1 false (.t 4), none⟩,
      ⟨some 6, .faddr 0 (.t 3), none⟩,
      ⟨none, .store 1 (.t 6) (.t 5), none⟩])
   (.seq (.reg [⟨some 7, .faddr 1 (.t 1), none⟩,
       ⟨some 8, .load 1 false (.t 7), none⟩,
       ⟨some 9, .faddr 1 (.t 3), none⟩,
       ⟨none, .store 1 (.t 9) (.t 8), none⟩])
    (.seq (.reg [⟨some 10, .faddr 2 (.t 1), none⟩,
        ⟨some 11, .load 1 false (.t 10), none⟩,
        ⟨some 12, .faddr 2 (.t 3), none⟩,
        ⟨none, .store 1 (.t 12) (.t 11), none⟩])
     (.seq (.reg [⟨some 13, .load 3 true (.t 3), none⟩,
         ⟨none, .store 3 (.t 2) (.t 13), none⟩])
      (.ret))))))⟩
theorem fok_laws_toStmt : FOk Try.prog 21 code_laws_toStmt := fok Try.func21 (by kernel_rfl)
def szStmtN (x : Stmt) : Nat := x.a.length + x.b.length
def stmtOk (x : Stmt) : Prop := x.a.length ≤ 9223372036854775807 ∧ x.b.length ≤ 9223372036854775807
@[simp] def ct_szStmt : Ct := ⟨18, Stmt × Int, fun x => stmtOk x.1 ∧ 0 ≤ x.2 ∧ x.2 ≤ 1048576, fun x => [encStmt x.1, .int .i64 x.2], fun x => .int .i64 (left (szStmtN x.1) x.2)⟩
theorem ok_szStmt : ct_szStmt.Ok Try.prog := by
  rintro ⟨⟨k, a, b⟩, l⟩ ⟨hq, h1, h2⟩
  change a.length ≤ 9223372036854775807 ∧ b.length ≤ 9223372036854775807 at hq
  change 0 ≤ l at h1
  change l ≤ 1048576 at h2
  obtain ⟨q1, q2⟩ := hq
  have hw : IntKind.i64.wrap (l - a.length) = l - a.length := by rw [wrap_i64] <;> omega
  refine Ok.of_cw fok_laws_szStmt (go_ok tab_nil ?_)
  by_cases g : l < a.length
  · have g' : l - a.length < 0 := by omega
    simp [code_laws_szStmt, List.replicate, hw, g, g', left, szStmtN]
    omega
  · have g' : ¬ l - a.length < 0 := by omega
    have hw2 : IntKind.i64.wrap (l - a.length - b.length) = l - a.length - b.length := by rw [wrap_i64] <;> omega
    simp [code_laws_szStmt, List.replicate, hw, hw2, g, g', left, szStmtN]
    omega
@[simp] def ct_toStmt : Ct := ⟨21, Stmt, fun _ => True, fun x => [encStmt x], fun x => encStmt x⟩
theorem ok_toStmt : ct_toStmt.Ok Try.prog := by
  rintro ⟨k, a, b⟩ -
  refine Ok.of_cw fok_laws_toStmt (go_ok tab_nil ?_)
  simp [code_laws_toStmt, List.replicate]
end Go.Vm
