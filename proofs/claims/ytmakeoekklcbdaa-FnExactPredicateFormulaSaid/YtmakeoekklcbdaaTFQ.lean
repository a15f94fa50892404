/- The program's formulas of statements, laid in blocks of their own. No condition. -/
import Derived.Test.YtmakeoekklcbdaaTFO
import Derived.Test.YtmakeoekklcbdaaTFR
set_option linter.unusedSimpArgs false
set_option linter.unusedVariables false
namespace Go.Vm
open Go.Proofs
instance : Nonempty FV := ⟨⟨0, 0, 0, 0, .any⟩⟩
/-- A formula as it stands in a heap. -/
def Good (H : List Blk) (x : FV) (f : Fm) : Prop := x.kind = f.kind ∧ x.k = f.k ∧ x.u = f.u ∧ x.v = f.v ∧ ∃ R, AIn H x.s.av f.args R
/-- A call lays a formula in blocks of its own. -/
def MadeP (f : Nat) (args : List AV) (fm : Fm) (p : FV × List Blk) : Prop := OkH Try.prog f args [] p.1.av p.2 ∧ (∀ k ∈ p.2, ownB k = true) ∧ Good p.2 p.1 fm
noncomputable def madeOf (f : Nat) (args : List AV) (fm : Fm) : FV × List Blk := Classical.epsilon (MadeP f args fm)
theorem madeOf_spec {f : Nat} {args : List AV} {fm : Fm} (h : ∃ p, MadeP f args fm p) : MadeP f args fm (madeOf f args fm) := Classical.epsilon_spec h
@[simp] noncomputable def ctM (f : Nat) (α : Type) (pre : α → Prop) (args : α → List AV) (fm : α → Fm) : CtN := ⟨f, α, pre, args, fun x => (madeOf f (args x) (fm x)).1.av, fun x => (madeOf f (args x) (fm x)).2⟩
theorem ownV_fv (x : FV) : ownV x.av = true := by
  obtain ⟨a, b, c, d, _ | _ | _⟩ := x <;> simp [FV.av, PS.av, ownV, ownVL]
theorem ctM_ok {f : Nat} {α : Type} {pre : α → Prop} {args : α → List AV} {fm : α → Fm} (h : ∀ x, pre x → ∃ p, MadeP f (args x) (fm x) p) : (ctM f α pre args fm).Ok Try.prog :=
  ⟨fun x hx => (madeOf_spec (h x hx)).1, fun x _ => ownV_fv _, fun x hx => (madeOf_spec (h x hx)).2.1⟩
/-- What is boxed and marked. -/
theorem mark_good {H : List Blk} {a b c d : Int} {s : PS} {xs : List Fm} {R : List Nat} (h : AIn H s.av xs R) {k : Int} (h0 : 0 ≤ k) (h1 : k + 4 * sizes xs ≤ 1099511627776) :
    ∃ H2, OkH Try.prog 40 [FV.av ⟨a, b, c, d, s⟩, .int .i64 k] H (.int .i64 (k + 4 * sizes xs)) H2 ∧ H2.length = H.length + 1 ∧ (∀ i, i ∉ R → i < H.length → H2[i]? = H[i]?) ∧ AIn H2 s.av (mkdS xs k) R := by
  have hc : AIn (H ++ [.cells [.int .i64 a, .int .i64 b, .int .i64 c, .int .i64 d, s.av]]) s.av xs R :=
    h.congr (fun i hi => List.getElem?_append_left (h.lt i hi)) (fun i hi => by rw [List.getElem?_append_left (List.getElem?_eq_some_iff.1 hi).1]; exact hi)
  obtain ⟨H2, m, l, f, g⟩ := hc.mark (sizes xs + 1) k (by omega) h0 h1 (.inr trivial)
  refine ⟨H2, ?_, by simpa using l, fun i hi hl => by rw [f i hi, List.getElem?_append_left hl], g⟩
  refine OkH.of_cw' fok_laws_markFormula (go_ok (tab_h (ok_markn (sizes xs + 1)) tab_nil) ?_)
  have hk : k ≤ 1099511627776 := by omega
  rcases s with _ | _ | ⟨i, o, l, t⟩
  · cases h
  · simp only [PS.av] at m
    simp [code_laws_markFormula, List.replicate, retH, FV.av, PS.av, getHk, getH0, setHk, setH0, m, h0, hk]
  · simp only [PS.av] at m
    simp [code_laws_markFormula, List.replicate, retH, FV.av, PS.av, getHk, getH0, setHk, setH0, m, h0, hk]
def code_impl_fmFalse : F := ⟨3, [.cell 5 true 0],
 .seq (.reg [⟨some 0, .alloc [(.int .i64 0), (.int .i64 0), (.int .i64 0), (.int .i64 0), (.sl .nil 0 [])], none⟩])
 (.seq (.reg [⟨some 1, .build [(.int .i64 0), (.int .i64 0), (.int .i64 0), (.int .i64 0), (.sl .nil 0 [])] [(0, 1, (.k (.int .i64 1)))], none⟩,
     ⟨some 2, .call 101 [(.t 1)], none⟩,
     ⟨none, .store 5 (.t 0) (.t 2), none⟩])
  (.ret))⟩
theorem fok_impl_fmFalse : FOk Try.prog 183 code_impl_fmFalse := fok Try.func183 (by kernel_rfl)
def code_impl_cutReach : F := ⟨24, [.cell 5 true 4],
 .seq (.reg [⟨some 4, .alloc [(.int .i64 0), (.int .i64 0), (.int .i64 0), (.int .i64 0), (.sl .nil 0 [])], none⟩])
 (.seq (.reg [⟨some 6, .mov (.t 1), none⟩,
     ⟨some 7, .call 185 [(.t 6), (.k (.int .i64 0))], none⟩,
     ⟨some 8, .mov (.t 1), none⟩,
     ⟨some 9, .call 102 [(.t 8), (.k (.int .i64 0))], none⟩,
     ⟨some 10, .call 101 [(.t 9)], none⟩,
     ⟨some 11, .call 99 [(.t 7), (.t 10)], none⟩,
     ⟨some 5, .alloc [(.int .i64 0), (.int .i64 0), (.int .i64 0), (.int .i64 0), (.sl .nil 0 [])], none⟩,
     ⟨none, .store 5 (.t 5) (.t 11), none⟩])
  (.seq (.dreg [false, false, false, false, false, false, false, false, false, true, true, true, true] [false, true, false, false, true, false, true, true, true, true, true, true, false] [⟨some 12, .mov (.t 0), none⟩,
      ⟨some 13, .call 185 [(.t 12), (.k (.int .i64 0))], none⟩,
      ⟨some 14, .load 5 true (.t 5), none⟩,
      ⟨some 15, .mov (.t 1), none⟩,
      ⟨some 16, .call 102 [(.t 15), (.k (.int .i64 1))], none⟩,
      ⟨some 17, .mov (.t 0), none⟩,
      ⟨some 18, .call 185 [(.t 17), (.k (.int .i64 1))], none⟩,
      ⟨some 19, .call 99 [(.t 16), (.t 18)], none⟩,
      ⟨some 20, .call 184 [(.k (.int .i64 1)), (.t 19)], none⟩,
      ⟨some 21, .call 99 [(.t 14), (.t 20)], none⟩,
      ⟨some 22, .call 101 [(.t 21)], none⟩,
      ⟨some 23, .call 99 [(.t 13), (.t 22)], none⟩,
      ⟨none, .store 5 (.t 4) (.t 23), none⟩])
   (.ret)))⟩
theorem fok_impl_cutReach : FOk Try.prog 186 code_impl_cutReach := fok Try.func186 (by kernel_rfl)
set_option maxHeartbeats 8000000
set_option maxRecDepth 100000
noncomputable def pFalse : FV × List Blk :=
  let H0 : List Blk := fA []
  let x1 := v1 8 0 ⟨1, 0, 0, 0, .nil⟩ H0
  let H1 := mk1 8 0 ⟨1, 0, 0, 0, .nil⟩ H0
  (x1, fin 0 x1 H1)
theorem made_False : MadeP 183 [] (.mk 8 0 0 0 [.mk 1 0 0 0 []]) (pFalse) := by
  refine ⟨OkH.of_cw' fok_impl_fmFalse (go_ok (tab_h ok_fmNot tab_nil) ?_), ?_, rfl, rfl, rfl, rfl, ?_⟩
  · simp [code_impl_fmFalse, List.replicate, retH, pFalse, r1, r2, mk1, mk2, v1, v2, fA, fin, av_nil, av_any, av_row, FV.av_mk, boxF_nil, boxF_any, boxF_row, inF_nil, inF_any, inF_row, getHk, getH0, setHk, setH0, Nat.add_assoc, needs1, isH]
  · simp [pFalse, r1, r2, mk1, mk2, v1, v2, fA, fin, av_nil, av_any, av_row, FV.av_mk, boxF_nil, boxF_any, boxF_row, inF_nil, inF_any, inF_row, getHk, getH0, setHk, setH0, Nat.add_assoc, needs1, isH, ownB, ownV, ownVL]
  · simp only [pFalse, r1, r2, mk1, mk2, v1, v2, fA, fin, av_nil, av_any, av_row, FV.av_mk, boxF_nil, boxF_any, boxF_row, inF_nil, inF_any, inF_row, getHk, getH0, setHk, setH0, Nat.add_assoc, needs1, isH, List.nil_append, List.cons_append, List.length_cons, List.length_nil, List.length_append, Nat.reduceAdd, List.set_cons_succ, List.set_cons_zero]
    apply Exists.intro
    repeat' (first | exact AIn.any | exact AIn.nil _ rfl | (apply AIn.row1; (· rfl)) | (apply AIn.row2; (· rfl)))
    all_goals simp
noncomputable def pCutReach (z a : Int) : FV × List Blk :=
  let H0 : List Blk := fA []
  let x1 := v1 8 0 ⟨2, a, 0, 0, .any⟩ H0
  let H1 := mk1 8 0 ⟨2, a, 0, 0, .any⟩ H0
  let x2 := v2 9 ⟨3, a, 0, 0, .any⟩ x1 H1
  let H2 := mk2 9 ⟨3, a, 0, 0, .any⟩ x1 H1
  let H3 := fin H2.length x2 (fA H2)
  let x3 := v2 9 ⟨2, a, 1, 0, .any⟩ ⟨3, z, 1, 0, .any⟩ H3
  let H4 := mk2 9 ⟨2, a, 1, 0, .any⟩ ⟨3, z, 1, 0, .any⟩ H3
  let x4 := v1 11 1 x3 H4
  let H5 := mk1 11 1 x3 H4
  let x5 := v2 9 x2 x4 H5
  let H6 := mk2 9 x2 x4 H5
  let x6 := v1 8 0 x5 H6
  let H7 := mk1 8 0 x5 H6
  let x7 := v2 9 ⟨3, z, 0, 0, .any⟩ x6 H7
  let H8 := mk2 9 ⟨3, z, 0, 0, .any⟩ x6 H7
  (x7, fin 0 x7 H8)
theorem made_CutReach (z a : Int) : MadeP 186 [.int .i64 z, .int .i64 a] (.mk 9 0 0 0 [.mk 3 (z) (0) (0) [], .mk 8 0 0 0 [.mk 9 0 0 0 [.mk 9 0 0 0 [.mk 3 (a) (0) (0) [], .mk 8 0 0 0 [.mk 2 (a) (0) (0) []]], .mk 11 0 1 0 [.mk 9 0 0 0 [.mk 2 (a) (1) (0) [], .mk 3 (z) (1) (0) []]]]]]) (pCutReach z a) := by
  refine ⟨OkH.of_cw' fok_impl_cutReach (go_ok (tab_cons ok_on (tab_cons ok_from (tab_h ok_fmSome (tab_h ok_fmNot (tab_h ok_fmAnd tab_nil))))) ?_), ?_, rfl, rfl, rfl, rfl, ?_⟩
  · simp [code_impl_cutReach, List.replicate, retH, pCutReach, r1, r2, mk1, mk2, v1, v2, fA, fin, av_nil, av_any, av_row, FV.av_mk, boxF_nil, boxF_any, boxF_row, inF_nil, inF_any, inF_row, getHk, getH0, setHk, setH0, Nat.add_assoc, needs1, isH]
  · simp [pCutReach, r1, r2, mk1, mk2, v1, v2, fA, fin, av_nil, av_any, av_row, FV.av_mk, boxF_nil, boxF_any, boxF_row, inF_nil, inF_any, inF_row, getHk, getH0, setHk, setH0, Nat.add_assoc, needs1, isH, ownB, ownV, ownVL]
  · simp only [pCutReach, r1, r2, mk1, mk2, v1, v2, fA, fin, av_nil, av_any, av_row, FV.av_mk, boxF_nil, boxF_any, boxF_row, inF_nil, inF_any, inF_row, getHk, getH0, setHk, setH0, Nat.add_assoc, needs1, isH, List.nil_append, List.cons_append, List.length_cons, List.length_nil, List.length_append, Nat.reduceAdd, List.set_cons_succ, List.set_cons_zero]
    apply Exists.intro
    repeat' (first | exact AIn.any | exact AIn.nil _ rfl | (apply AIn.row1; (· rfl)) | (apply AIn.row2; (· rfl)))
    all_goals simp
def code_impl_EdgeFormula : F := ⟨47, [.cell 5 true 4],
 .seq (.reg [⟨some 3, .box (.t 1), none⟩,
    ⟨some 4, .alloc [(.int .i64 0), (.int .i64 0), (.int .i64 0), (.int .i64 0), (.sl .nil 0 [])], none⟩])
 (.seq (.dreg [false, false, false, false, false, false, false, true, true, true] [false, false, false, true, false, false, false, true, false, false] [⟨some 7, .mov (.t 0), none⟩,
     ⟨some 8, .faddr 1 (.t 3), none⟩,
     ⟨some 9, .load 1 false (.t 8), none⟩,
     ⟨some 10, .call 97 [(.t 7), (.t 9)], none⟩,
     ⟨some 11, .mov (.t 0), none⟩,
     ⟨some 12, .faddr 2 (.t 3), none⟩,
     ⟨some 13, .load 1 false (.t 12), none⟩,
     ⟨some 14, .call 97 [(.t 11), (.t 13)], none⟩,
     ⟨some 5, .mov (.t 10), none⟩,
     ⟨some 6, .mov (.t 14), none⟩])
  (.seq (.block 0 (.seq (.reg [⟨some 16, .mov (.t 0), none⟩,
        ⟨some 17, .load 3 true (.t 3), none⟩,
        ⟨some 18, .call 98 [(.t 16), (.t 17)], none⟩,
        ⟨some 19, .not (.t 18), none⟩,
        ⟨some 15, .mov (.t 19), none⟩])
     (.cond (.t 15)
      (.seq (.reg [⟨some 20, .build [(.int .i64 0), (.int .i64 0), (.int .i64 0), (.int .i64 0), (.sl .nil 0 [])] [], none⟩,
          ⟨none, .store 5 (.t 4) (.t 20), none⟩])
       (.ret))
      (.seq (.reg [⟨some 22, .faddr 0 (.t 3), none⟩,
          ⟨some 23, .load 1 false (.t 22), none⟩,
          ⟨some 24, .bin .eql (.t 23) (.k (.int .i64 6)), none⟩,
          ⟨some 25, .mov (.t 24), none⟩,
          ⟨some 26, .faddr 0 (.t 3), some (25, false)⟩,
          ⟨some 27, .load 1 false (.t 26), some (25, false)⟩,
          ⟨some 28, .bin .eql (.t 27) (.k (.int .i64 8)), some (25, false)⟩,
          ⟨some 29, .pick (.t 25) (.k (.bool true)) (.t 28), none⟩,
          ⟨some 21, .mov (.t 29), none⟩])
       (.cond (.t 21)
        (.seq (.reg [⟨some 30, .call 100 [(.k (.int .i64 0)), (.k (.int .i64 1))], none⟩,
            ⟨some 31, .mov (.t 5), none⟩,
            ⟨some 32, .call 102 [(.t 31), (.k (.int .i64 0))], none⟩,
            ⟨some 33, .call 101 [(.t 32)], none⟩,
            ⟨some 34, .call 99 [(.t 30), (.t 33)], none⟩,
            ⟨none, .store 5 (.t 4) (.t 34), none⟩])
         (.ret))
        (.seq (.reg [⟨some 36, .faddr 0 (.t 3), none⟩,
            ⟨some 37, .load 1 false (.t 36), none⟩,
            ⟨some 38, .bin .eql (.t 37) (.k (.int .i64 7)), none⟩,
            ⟨some 35, .mov (.t 38), none⟩])
         (.cond (.t 35)
          (.seq (.reg [⟨some 39, .call 100 [(.k (.int .i64 0)), (.k (.int .i64 1))], none⟩,
              ⟨some 40, .mov (.t 5), none⟩,
              ⟨some 41, .call 102 [(.t 40), (.k (.int .i64 0))], none⟩,
              ⟨some 42, .mov (.t 6), none⟩,
              ⟨some 43, .call 102 [(.t 42), (.k (.int .i64 1))], none⟩,
              ⟨some 44, .call 99 [(.t 41), (.t 43)], none⟩,
              ⟨some 45, .call 103 [(.t 39), (.t 44)], none⟩,
              ⟨none, .store 5 (.t 4) (.t 45), none⟩])
           (.ret))
          (.skip))))))))
   (.seq (.reg [⟨some 46, .call 100 [(.k (.int .i64 0)), (.k (.int .i64 1))], none⟩,
       ⟨none, .store 5 (.t 4) (.t 46), none⟩])
    (.ret))))⟩
theorem fok_impl_EdgeFormula : FOk Try.prog 36 code_impl_EdgeFormula := fok Try.func36 (by kernel_rfl)
noncomputable def pEdge0 (kind : Int) (a b : List UInt8) : FV × List Blk := (⟨0, 0, 0, 0, .row 3 0 0 0⟩, [.cells [.int .i64 kind, .str a, .str b], .nrow, .cells [.int .i64 0, .int .i64 0, .int .i64 0, .int .i64 0, .slref 3 0 0 0], .nrow])
noncomputable def pEdge1 (kind : Int) (a b : List UInt8) : FV × List Blk := (⟨5, 0, 0, 1, .any⟩, fin 1 ⟨5, 0, 0, 1, .any⟩ (fA [.cells [.int .i64 kind, .str a, .str b]]))
noncomputable def pEdge6 (kind : Int) (a b : List UInt8) (i : Int) : FV × List Blk :=
  let H0 := fA [.cells [.int .i64 kind, .str a, .str b]]
  let x1 := v1 8 0 ⟨2, i, 0, 0, .any⟩ H0
  let H1 := mk1 8 0 ⟨2, i, 0, 0, .any⟩ H0
  let x2 := v2 9 ⟨5, 0, 0, 1, .any⟩ x1 H1
  let H2 := mk2 9 ⟨5, 0, 0, 1, .any⟩ x1 H1
  (x2, fin 1 x2 H2)
noncomputable def pEdge7 (kind : Int) (a b : List UInt8) (i j : Int) : FV × List Blk :=
  let H0 := fA [.cells [.int .i64 kind, .str a, .str b]]
  let x1 := v2 9 ⟨2, i, 0, 0, .any⟩ ⟨2, j, 1, 0, .any⟩ H0
  let H1 := mk2 9 ⟨2, i, 0, 0, .any⟩ ⟨2, j, 1, 0, .any⟩ H0
  let x2 := v2 10 ⟨5, 0, 0, 1, .any⟩ x1 H1
  let H2 := mk2 10 ⟨5, 0, 0, 1, .any⟩ x1 H1
  (x2, fin 1 x2 H2)
theorem made_Edge (vars : List (List UInt8)) (s : Stmt) (hv : szVarsOk vars) : ∃ p, MadeP 36 [encL 1 encStr vars, encStmt s] (edgeF vars s) p := by
  obtain ⟨k, a, b⟩ := s
  cases hs : stmtB vars ⟨k, a, b⟩
  · refine ⟨pEdge0 k a b, OkH.of_cw' fok_impl_EdgeFormula (go_ok (tab_cons ok_pIsStmt (tab_cons ok_pIndexOf (tab_cons ok_on (tab_cons ok_next (tab_h ok_fmNot (tab_h ok_fmAnd (tab_h ok_fmOr tab_nil))))))) ?_), ?_, ?_⟩
    · simp [code_impl_EdgeFormula, List.replicate, retH, pEdge0, hs, hv, r1, r2, mk1, mk2, v1, v2, fA, fin, av_nil, av_any, av_row, FV.av_mk, boxF_nil, boxF_any, boxF_row, inF_nil, inF_any, inF_row, getHk, getH0, setHk, setH0, Nat.add_assoc, needs1, isH]
    · simp [pEdge0, r1, r2, mk1, mk2, v1, v2, fA, fin, av_nil, av_any, av_row, FV.av_mk, boxF_nil, boxF_any, boxF_row, inF_nil, inF_any, inF_row, getHk, getH0, setHk, setH0, Nat.add_assoc, needs1, isH, ownB, ownV, ownVL]
    · simp only [edgeF, hs, if_true, if_false, edgeT, pEdge0, r1, r2, mk1, mk2, v1, v2, fA, fin, av_nil, av_any, av_row, FV.av_mk, boxF_nil, boxF_any, boxF_row, inF_nil, inF_any, inF_row, getHk, getH0, setHk, setH0, Nat.add_assoc, needs1, isH, List.nil_append, List.cons_append, List.length_cons, List.length_nil, List.length_append, Nat.reduceAdd, List.set_cons_succ, List.set_cons_zero, orL, andL, notL, onL, nxtL, reduceIte, Bool.false_eq_true, Int.reduceEq]
      refine ⟨rfl, rfl, rfl, rfl, ?_⟩
      apply Exists.intro
      repeat' (first | exact AIn.any | exact AIn.nil _ rfl | (apply AIn.row1; (· rfl)) | (apply AIn.row2; (· rfl)))
      all_goals simp
  by_cases g6 : k = 6
  · subst g6
    refine ⟨pEdge6 6 a b (ixS vars a), OkH.of_cw' fok_impl_EdgeFormula (go_ok (tab_cons ok_pIsStmt (tab_cons ok_pIndexOf (tab_cons ok_on (tab_cons ok_next (tab_h ok_fmNot (tab_h ok_fmAnd (tab_h ok_fmOr tab_nil))))))) ?_), ?_, ?_⟩
    · simp [code_impl_EdgeFormula, List.replicate, retH, pEdge6, hs, hv, r1, r2, mk1, mk2, v1, v2, fA, fin, av_nil, av_any, av_row, FV.av_mk, boxF_nil, boxF_any, boxF_row, inF_nil, inF_any, inF_row, getHk, getH0, setHk, setH0, Nat.add_assoc, needs1, isH]
    · simp [pEdge6, r1, r2, mk1, mk2, v1, v2, fA, fin, av_nil, av_any, av_row, FV.av_mk, boxF_nil, boxF_any, boxF_row, inF_nil, inF_any, inF_row, getHk, getH0, setHk, setH0, Nat.add_assoc, needs1, isH, ownB, ownV, ownVL]
    · simp only [edgeF, hs, if_true, if_false, edgeT, pEdge6, r1, r2, mk1, mk2, v1, v2, fA, fin, av_nil, av_any, av_row, FV.av_mk, boxF_nil, boxF_any, boxF_row, inF_nil, inF_any, inF_row, getHk, getH0, setHk, setH0, Nat.add_assoc, needs1, isH, List.nil_append, List.cons_append, List.length_cons, List.length_nil, List.length_append, Nat.reduceAdd, List.set_cons_succ, List.set_cons_zero, orL, andL, notL, onL, nxtL, reduceIte, Bool.false_eq_true, Int.reduceEq]
      refine ⟨rfl, rfl, rfl, rfl, ?_⟩
      apply Exists.intro
      repeat' (first | exact AIn.any | exact AIn.nil _ rfl | (apply AIn.row1; (· rfl)) | (apply AIn.row2; (· rfl)))
      all_goals simp
  by_cases g8 : k = 8
  · subst g8
    refine ⟨pEdge6 8 a b (ixS vars a), OkH.of_cw' fok_impl_EdgeFormula (go_ok (tab_cons ok_pIsStmt (tab_cons ok_pIndexOf (tab_cons ok_on (tab_cons ok_next (tab_h ok_fmNot (tab_h ok_fmAnd (tab_h ok_fmOr tab_nil))))))) ?_), ?_, ?_⟩
    · simp [code_impl_EdgeFormula, List.replicate, retH, pEdge6, hs, hv, r1, r2, mk1, mk2, v1, v2, fA, fin, av_nil, av_any, av_row, FV.av_mk, boxF_nil, boxF_any, boxF_row, inF_nil, inF_any, inF_row, getHk, getH0, setHk, setH0, Nat.add_assoc, needs1, isH]
    · simp [pEdge6, r1, r2, mk1, mk2, v1, v2, fA, fin, av_nil, av_any, av_row, FV.av_mk, boxF_nil, boxF_any, boxF_row, inF_nil, inF_any, inF_row, getHk, getH0, setHk, setH0, Nat.add_assoc, needs1, isH, ownB, ownV, ownVL]
    · simp only [edgeF, hs, if_true, if_false, edgeT, pEdge6, r1, r2, mk1, mk2, v1, v2, fA, fin, av_nil, av_any, av_row, FV.av_mk, boxF_nil, boxF_any, boxF_row, inF_nil, inF_any, inF_row, getHk, getH0, setHk, setH0, Nat.add_assoc, needs1, isH, List.nil_append, List.cons_append, List.length_cons, List.length_nil, List.length_append, Nat.reduceAdd, List.set_cons_succ, List.set_cons_zero, orL, andL, notL, onL, nxtL, reduceIte, Bool.false_eq_true, Int.reduceEq]
      refine ⟨rfl, rfl, rfl, rfl, ?_⟩
      apply Exists.intro
      repeat' (first | exact AIn.any | exact AIn.nil _ rfl | (apply AIn.row1; (· rfl)) | (apply AIn.row2; (· rfl)))
      all_goals simp
  by_cases g7 : k = 7
  · subst g7
    refine ⟨pEdge7 7 a b (ixS vars a) (ixS vars b), OkH.of_cw' fok_impl_EdgeFormula (go_ok (tab_cons ok_pIsStmt (tab_cons ok_pIndexOf (tab_cons ok_on (tab_cons ok_next (tab_h ok_fmNot (tab_h ok_fmAnd (tab_h ok_fmOr tab_nil))))))) ?_), ?_, ?_⟩
    · simp [code_impl_EdgeFormula, List.replicate, retH, pEdge7, hs, hv, r1, r2, mk1, mk2, v1, v2, fA, fin, av_nil, av_any, av_row, FV.av_mk, boxF_nil, boxF_any, boxF_row, inF_nil, inF_any, inF_row, getHk, getH0, setHk, setH0, Nat.add_assoc, needs1, isH]
    · simp [pEdge7, r1, r2, mk1, mk2, v1, v2, fA, fin, av_nil, av_any, av_row, FV.av_mk, boxF_nil, boxF_any, boxF_row, inF_nil, inF_any, inF_row, getHk, getH0, setHk, setH0, Nat.add_assoc, needs1, isH, ownB, ownV, ownVL]
    · simp only [edgeF, hs, if_true, if_false, edgeT, pEdge7, r1, r2, mk1, mk2, v1, v2, fA, fin, av_nil, av_any, av_row, FV.av_mk, boxF_nil, boxF_any, boxF_row, inF_nil, inF_any, inF_row, getHk, getH0, setHk, setH0, Nat.add_assoc, needs1, isH, List.nil_append, List.cons_append, List.length_cons, List.length_nil, List.length_append, Nat.reduceAdd, List.set_cons_succ, List.set_cons_zero, orL, andL, notL, onL, nxtL, reduceIte, Bool.false_eq_true, Int.reduceEq]
      refine ⟨rfl, rfl, rfl, rfl, ?_⟩
      apply Exists.intro
      repeat' (first | exact AIn.any | exact AIn.nil _ rfl | (apply AIn.row1; (· rfl)) | (apply AIn.row2; (· rfl)))
      all_goals simp
  · refine ⟨pEdge1 k a b, OkH.of_cw' fok_impl_EdgeFormula (go_ok (tab_cons ok_pIsStmt (tab_cons ok_pIndexOf (tab_cons ok_on (tab_cons ok_next (tab_h ok_fmNot (tab_h ok_fmAnd (tab_h ok_fmOr tab_nil))))))) ?_), ?_, ?_⟩
    · simp [code_impl_EdgeFormula, List.replicate, retH, pEdge1, hs, hv, g6, g7, g8, r1, r2, mk1, mk2, v1, v2, fA, fin, av_nil, av_any, av_row, FV.av_mk, boxF_nil, boxF_any, boxF_row, inF_nil, inF_any, inF_row, getHk, getH0, setHk, setH0, Nat.add_assoc, needs1, isH]
    · simp [pEdge1, r1, r2, mk1, mk2, v1, v2, fA, fin, av_nil, av_any, av_row, FV.av_mk, boxF_nil, boxF_any, boxF_row, inF_nil, inF_any, inF_row, getHk, getH0, setHk, setH0, Nat.add_assoc, needs1, isH, ownB, ownV, ownVL]
    · simp only [edgeF, hs, if_true, if_false, edgeT, g6, g7, g8, pEdge1, r1, r2, mk1, mk2, v1, v2, fA, fin, av_nil, av_any, av_row, FV.av_mk, boxF_nil, boxF_any, boxF_row, inF_nil, inF_any, inF_row, getHk, getH0, setHk, setH0, Nat.add_assoc, needs1, isH, List.nil_append, List.cons_append, List.length_cons, List.length_nil, List.length_append, Nat.reduceAdd, List.set_cons_succ, List.set_cons_zero, orL, andL, notL, onL, nxtL, reduceIte, Bool.false_eq_true, Int.reduceEq]
      refine ⟨rfl, rfl, rfl, rfl, ?_⟩
      apply Exists.intro
      repeat' (first | exact AIn.any | exact AIn.nil _ rfl | (apply AIn.row1; (· rfl)) | (apply AIn.row2; (· rfl)))
      all_goals simp
end Go.Vm
