/- Formulas: the program's constructors, which lay new rows, and what marks them. No condition. -/
import Derived.Test.YtmakeoekklcbdaaTFM
set_option linter.unusedSimpArgs false
set_option linter.unusedVariables false
namespace Go.Vm
open Go.Proofs
def code_impl_on : F := ⟨8, [.cell 5 true 4],
 .seq (.reg [⟨some 4, .alloc [(.int .i64 0), (.int .i64 0), (.int .i64 0), (.int .i64 0), (.sl .nil 0 [])], none⟩])
 (.seq (.reg [⟨some 5, .mov (.t 0), none⟩,
     ⟨some 6, .mov (.t 1), none⟩,
     ⟨some 7, .build [(.int .i64 0), (.int .i64 0), (.int .i64 0), (.int .i64 0), (.sl .nil 0 [])] [(0, 1, (.k (.int .i64 2))), (1, 1, (.t 5)), (2, 1, (.t 6))], none⟩,
     ⟨none, .store 5 (.t 4) (.t 7), none⟩])
  (.ret))⟩
theorem fok_impl_on : FOk Try.prog 102 code_impl_on := fok Try.func102 (by kernel_rfl)
def code_impl_from : F := ⟨8, [.cell 5 true 4],
 .seq (.reg [⟨some 4, .alloc [(.int .i64 0), (.int .i64 0), (.int .i64 0), (.int .i64 0), (.sl .nil 0 [])], none⟩])
 (.seq (.reg [⟨some 5, .mov (.t 0), none⟩,
     ⟨some 6, .mov (.t 1), none⟩,
     ⟨some 7, .build [(.int .i64 0), (.int .i64 0), (.int .i64 0), (.int .i64 0), (.sl .nil 0 [])] [(0, 1, (.k (.int .i64 3))), (1, 1, (.t 5)), (2, 1, (.t 6))], none⟩,
     ⟨none, .store 5 (.t 4) (.t 7), none⟩])
  (.ret))⟩
theorem fok_impl_from : FOk Try.prog 185 code_impl_from := fok Try.func185 (by kernel_rfl)
def code_impl_next : F := ⟨8, [.cell 5 true 4],
 .seq (.reg [⟨some 4, .alloc [(.int .i64 0), (.int .i64 0), (.int .i64 0), (.int .i64 0), (.sl .nil 0 [])], none⟩])
 (.seq (.reg [⟨some 5, .mov (.t 0), none⟩,
     ⟨some 6, .mov (.t 1), none⟩,
     ⟨some 7, .build [(.int .i64 0), (.int .i64 0), (.int .i64 0), (.int .i64 0), (.sl .nil 0 [])] [(0, 1, (.k (.int .i64 5))), (2, 1, (.t 5)), (3, 1, (.t 6))], none⟩,
     ⟨none, .store 5 (.t 4) (.t 7), none⟩])
  (.ret))⟩
theorem fok_impl_next : FOk Try.prog 100 code_impl_next := fok Try.func100 (by kernel_rfl)
def code_impl_sharedAt : F := ⟨5, [.cell 5 true 2],
 .seq (.reg [⟨some 2, .alloc [(.int .i64 0), (.int .i64 0), (.int .i64 0), (.int .i64 0), (.sl .nil 0 [])], none⟩])
 (.seq (.reg [⟨some 3, .mov (.t 0), none⟩,
     ⟨some 4, .build [(.int .i64 0), (.int .i64 0), (.int .i64 0), (.int .i64 0), (.sl .nil 0 [])] [(0, 1, (.k (.int .i64 4))), (2, 1, (.t 3))], none⟩,
     ⟨none, .store 5 (.t 2) (.t 4), none⟩])
  (.ret))⟩
theorem fok_impl_sharedAt : FOk Try.prog 188 code_impl_sharedAt := fok Try.func188 (by kernel_rfl)
def code_impl_fmSome : F := ⟨9, [.cell 5 true 4],
 .seq (.reg [⟨some 3, .box (.t 1), none⟩,
    ⟨some 4, .alloc [(.int .i64 0), (.int .i64 0), (.int .i64 0), (.int .i64 0), (.sl .nil 0 [])], none⟩])
 (.seq (.reg [⟨some 5, .mov (.t 0), none⟩,
     ⟨some 6, .load 5 true (.t 3), none⟩,
     ⟨some 7, .bsl 57 5 1 (.agg [(.int .i64 0), (.int .i64 0), (.int .i64 0), (.int .i64 0), (.sl .nil 0 [])]) [(0, (.t 6))], none⟩,
     ⟨some 8, .build [(.int .i64 0), (.int .i64 0), (.int .i64 0), (.int .i64 0), (.sl .nil 0 [])] [(0, 1, (.k (.int .i64 11))), (2, 1, (.t 5)), (4, 1, (.t 7))], none⟩,
     ⟨none, .store 5 (.t 4) (.t 8), none⟩])
  (.ret))⟩
theorem fok_impl_fmSome : FOk Try.prog 184 code_impl_fmSome := fok Try.func184 (by kernel_rfl)
def code_impl_fmAll : F := ⟨9, [.cell 5 true 4],
 .seq (.reg [⟨some 3, .box (.t 1), none⟩,
    ⟨some 4, .alloc [(.int .i64 0), (.int .i64 0), (.int .i64 0), (.int .i64 0), (.sl .nil 0 [])], none⟩])
 (.seq (.reg [⟨some 5, .mov (.t 0), none⟩,
     ⟨some 6, .load 5 true (.t 3), none⟩,
     ⟨some 7, .bsl 57 5 1 (.agg [(.int .i64 0), (.int .i64 0), (.int .i64 0), (.int .i64 0), (.sl .nil 0 [])]) [(0, (.t 6))], none⟩,
     ⟨some 8, .build [(.int .i64 0), (.int .i64 0), (.int .i64 0), (.int .i64 0), (.sl .nil 0 [])] [(0, 1, (.k (.int .i64 12))), (2, 1, (.t 5)), (4, 1, (.t 7))], none⟩,
     ⟨none, .store 5 (.t 4) (.t 8), none⟩])
  (.ret))⟩
theorem fok_impl_fmAll : FOk Try.prog 132 code_impl_fmAll := fok Try.func132 (by kernel_rfl)
def code_impl_fmNot : F := ⟨6, [.cell 5 true 2],
 .seq (.reg [⟨some 1, .box (.t 0), none⟩,
    ⟨some 2, .alloc [(.int .i64 0), (.int .i64 0), (.int .i64 0), (.int .i64 0), (.sl .nil 0 [])], none⟩])
 (.seq (.reg [⟨some 3, .load 5 true (.t 1), none⟩,
     ⟨some 4, .bsl 57 5 1 (.agg [(.int .i64 0), (.int .i64 0), (.int .i64 0), (.int .i64 0), (.sl .nil 0 [])]) [(0, (.t 3))], none⟩,
     ⟨some 5, .build [(.int .i64 0), (.int .i64 0), (.int .i64 0), (.int .i64 0), (.sl .nil 0 [])] [(0, 1, (.k (.int .i64 8))), (4, 1, (.t 4))], none⟩,
     ⟨none, .store 5 (.t 2) (.t 5), none⟩])
  (.ret))⟩
theorem fok_impl_fmNot : FOk Try.prog 101 code_impl_fmNot := fok Try.func101 (by kernel_rfl)
def code_impl_fmAnd : F := ⟨9, [.cell 5 true 4],
 .seq (.reg [⟨some 2, .box (.t 0), none⟩,
    ⟨some 3, .box (.t 1), none⟩,
    ⟨some 4, .alloc [(.int .i64 0), (.int .i64 0), (.int .i64 0), (.int .i64 0), (.sl .nil 0 [])], none⟩])
 (.seq (.reg [⟨some 5, .load 5 true (.t 2), none⟩,
     ⟨some 6, .load 5 true (.t 3), none⟩,
     ⟨some 7, .bsl 57 5 2 (.agg [(.int .i64 0), (.int .i64 0), (.int .i64 0), (.int .i64 0), (.sl .nil 0 [])]) [(0, (.t 5)), (1, (.t 6))], none⟩,
     ⟨some 8, .build [(.int .i64 0), (.int .i64 0), (.int .i64 0), (.int .i64 0), (.sl .nil 0 [])] [(0, 1, (.k (.int .i64 9))), (4, 1, (.t 7))], none⟩,
     ⟨none, .store 5 (.t 4) (.t 8), none⟩])
  (.ret))⟩
theorem fok_impl_fmAnd : FOk Try.prog 99 code_impl_fmAnd := fok Try.func99 (by kernel_rfl)
def code_impl_fmOr : F := ⟨9, [.cell 5 true 4],
 .seq (.reg [⟨some 2, .box (.t 0), none⟩,
    ⟨some 3, .box (.t 1), none⟩,
    ⟨some 4, .alloc [(.int .i64 0), (.int .i64 0), (.int .i64 0), (.int .i64 0), (.sl .nil 0 [])], none⟩])
 (.seq (.reg [⟨some 5, .load 5 true (.t 2), none⟩,
     ⟨some 6, .load 5 true (.t 3), none⟩,
     ⟨some 7, .bsl 57 5 2 (.agg [(.int .i64 0), (.int .i64 0), (.int .i64 0), (.int .i64 0), (.sl .nil 0 [])]) [(0, (.t 5)), (1, (.t 6))], none⟩,
     ⟨some 8, .build [(.int .i64 0), (.int .i64 0), (.int .i64 0), (.int .i64 0), (.sl .nil 0 [])] [(0, 1, (.k (.int .i64 10))), (4, 1, (.t 7))], none⟩,
     ⟨none, .store 5 (.t 4) (.t 8), none⟩])
  (.ret))⟩
theorem fok_impl_fmOr : FOk Try.prog 103 code_impl_fmOr := fok Try.func103 (by kernel_rfl)
def code_laws_markFormulaS : F := ⟨48, [.tmp 4],
 .seq (.reg [⟨some 4, .mov (.k (.int .i64 0)), none⟩])
 (.seq (.seq (.reg [⟨some 5, .mov (.k (.int .i64 0)), none⟩])
   (.block 0 (.loop (.seq (.seq (.reg [⟨some 6, .mov (.t 5), none⟩,
          ⟨some 7, .mov (.t 0), none⟩,
          ⟨some 8, .len (.t 7), none⟩,
          ⟨some 9, .bin .lss (.t 6) (.t 8), none⟩])
       (.cond (.t 9)
        (.skip)
        (.exit 0)))
      (.seq (.block 1 (.seq (.reg [⟨some 12, .mov (.t 0), none⟩,
            ⟨some 13, .mov (.t 5), none⟩,
            ⟨some 14, .mov (.t 1), none⟩,
            ⟨some 15, .iaddr 5 (.t 12) (.t 13), none⟩,
            ⟨some 16, .faddr 0 (.t 15), none⟩,
            ⟨none, .store 1 (.t 16) (.t 14), none⟩])
         (.seq (.reg [⟨some 17, .mov (.t 1), none⟩,
             ⟨some 18, .bin .add (.t 17) (.k (.int .i64 1)), none⟩,
             ⟨some 1, .mov (.t 18), none⟩])
          (.seq (.reg [⟨some 19, .mov (.t 0), none⟩,
              ⟨some 20, .mov (.t 5), none⟩,
              ⟨some 21, .mov (.t 1), none⟩,
              ⟨some 22, .iaddr 5 (.t 19) (.t 20), none⟩,
              ⟨some 23, .faddr 1 (.t 22), none⟩,
              ⟨none, .store 1 (.t 23) (.t 21), none⟩])
           (.seq (.reg [⟨some 24, .mov (.t 1), none⟩,
               ⟨some 25, .bin .add (.t 24) (.k (.int .i64 1)), none⟩,
               ⟨some 1, .mov (.t 25), none⟩])
            (.seq (.reg [⟨some 26, .mov (.t 0), none⟩,
                ⟨some 27, .mov (.t 5), none⟩,
                ⟨some 28, .mov (.t 1), none⟩,
                ⟨some 29, .iaddr 5 (.t 26) (.t 27), none⟩,
                ⟨some 30, .faddr 2 (.t 29), none⟩,
                ⟨none, .store 1 (.t 30) (.t 28), none⟩])
             (.seq (.reg [⟨some 31, .mov (.t 1), none⟩,
                 ⟨some 32, .bin .add (.t 31) (.k (.int .i64 1)), none⟩,
                 ⟨some 1, .mov (.t 32), none⟩])
              (.seq (.reg [⟨some 33, .mov (.t 0), none⟩,
                  ⟨some 34, .mov (.t 5), none⟩,
                  ⟨some 35, .mov (.t 1), none⟩,
                  ⟨some 36, .iaddr 5 (.t 33) (.t 34), none⟩,
                  ⟨some 37, .faddr 3 (.t 36), none⟩,
                  ⟨none, .store 1 (.t 37) (.t 35), none⟩])
               (.seq (.reg [⟨some 38, .mov (.t 1), none⟩,
                   ⟨some 39, .bin .add (.t 38) (.k (.int .i64 1)), none⟩,
                   ⟨some 1, .mov (.t 39), none⟩])
                (.reg [⟨some 40, .mov (.t 0), none⟩,
                   ⟨some 41, .mov (.t 5), none⟩,
                   ⟨some 42, .iaddr 5 (.t 40) (.t 41), none⟩,
                   ⟨some 43, .faddr 4 (.t 42), none⟩,
                   ⟨some 44, .load 1 false (.t 43), none⟩,
                   ⟨some 45, .mov (.t 1), none⟩,
                   ⟨some 46, .call 106 [(.t 44), (.t 45)], none⟩,
                   ⟨some 1, .mov (.t 46), none⟩]))))))))))
       (.reg [⟨some 10, .mov (.t 5), none⟩,
          ⟨some 11, .bin .add (.t 10) (.k (.int .i64 1)), none⟩,
          ⟨some 5, .mov (.t 11), none⟩]))))))
  (.seq (.reg [⟨some 47, .mov (.t 1), none⟩,
      ⟨some 4, .mov (.t 47), none⟩])
   (.ret)))⟩
theorem fok_laws_markFormulaS : FOk Try.prog 106 code_laws_markFormulaS := fok Try.func106 (by kernel_rfl)
def code_laws_markFormula : F := ⟨10, [.tmp 4],
 .seq (.reg [⟨some 2, .box (.t 0), none⟩,
    ⟨some 4, .mov (.k (.int .i64 0)), none⟩])
 (.seq (.reg [⟨some 5, .faddr 4 (.t 2), none⟩,
     ⟨some 6, .load 1 false (.t 5), none⟩,
     ⟨some 7, .mov (.t 1), none⟩,
     ⟨some 8, .call 106 [(.t 6), (.t 7)], none⟩,
     ⟨some 1, .mov (.t 8), none⟩])
  (.seq (.reg [⟨some 9, .mov (.t 1), none⟩,
      ⟨some 4, .mov (.t 9), none⟩])
   (.ret)))⟩
theorem fok_laws_markFormula : FOk Try.prog 40 code_laws_markFormula := fok Try.func40 (by kernel_rfl)
@[simp] def ct_on : Ct := ⟨102, Int × Int, fun _ => True, fun x => [.int .i64 x.1, .int .i64 x.2], fun x => .agg [.int .i64 2, .int .i64 x.1, .int .i64 x.2, .int .i64 0, .sl .any 0 []]⟩
theorem ok_on : ct_on.Ok Try.prog := by
  rintro ⟨k, u⟩ -
  refine Ok.of_cw fok_impl_on (go_ok tab_nil ?_)
  simp [code_impl_on, List.replicate]
@[simp] def ct_from : Ct := ⟨185, Int × Int, fun _ => True, fun x => [.int .i64 x.1, .int .i64 x.2], fun x => .agg [.int .i64 3, .int .i64 x.1, .int .i64 x.2, .int .i64 0, .sl .any 0 []]⟩
theorem ok_from : ct_from.Ok Try.prog := by
  rintro ⟨k, u⟩ -
  refine Ok.of_cw fok_impl_from (go_ok tab_nil ?_)
  simp [code_impl_from, List.replicate]
@[simp] def ct_next : Ct := ⟨100, Int × Int, fun _ => True, fun x => [.int .i64 x.1, .int .i64 x.2], fun x => .agg [.int .i64 5, .int .i64 0, .int .i64 x.1, .int .i64 x.2, .sl .any 0 []]⟩
theorem ok_next : ct_next.Ok Try.prog := by
  rintro ⟨k, u⟩ -
  refine Ok.of_cw fok_impl_next (go_ok tab_nil ?_)
  simp [code_impl_next, List.replicate]
@[simp] def ct_sharedAt : Ct := ⟨188, Int, fun _ => True, fun x => [.int .i64 x], fun x => .agg [.int .i64 4, .int .i64 0, .int .i64 x, .int .i64 0, .sl .any 0 []]⟩
theorem ok_sharedAt : ct_sharedAt.Ok Try.prog := by
  rintro u -
  change Int at u
  refine Ok.of_cw fok_impl_sharedAt (go_ok tab_nil ?_)
  simp [code_impl_sharedAt, List.replicate]
/-- A formula's parts as a caller holds them: nil, none, or a row. -/
inductive PS where
  | nil
  | any
  | row (b o l t : Nat)
def PS.av : PS → AV
  | .nil => .sl .nil 0 []
  | .any => .sl .any 0 []
  | .row b o l t => .slref b o l t
structure FV where
  kind : Int
  k : Int
  u : Int
  v : Int
  s : PS
def FV.av (x : FV) : AV := .agg [.int .i64 x.kind, .int .i64 x.k, .int .i64 x.u, .int .i64 x.v, x.s.av]
theorem FV.eq_nil (a b c d : Int) (x : FV) : (.agg [.int .i64 a, .int .i64 b, .int .i64 c, .int .i64 d, .sl .nil 0 []] = x.av) = (FV.mk a b c d .nil = x) := by
  obtain ⟨a', b', c', d', _ | _ | _⟩ := x <;> simp [FV.av, PS.av]
theorem FV.eq_any (a b c d : Int) (x : FV) : (.agg [.int .i64 a, .int .i64 b, .int .i64 c, .int .i64 d, .sl .any 0 []] = x.av) = (FV.mk a b c d .any = x) := by
  obtain ⟨a', b', c', d', _ | _ | _⟩ := x <;> simp [FV.av, PS.av]
theorem FV.eq_row (a b c d : Int) (i o l t : Nat) (x : FV) : (.agg [.int .i64 a, .int .i64 b, .int .i64 c, .int .i64 d, .slref i o l t] = x.av) = (FV.mk a b c d (.row i o l t) = x) := by
  obtain ⟨a', b', c', d', _ | _ | _⟩ := x <;> simp [FV.av, PS.av]
attribute [simp] FV.eq_nil FV.eq_any FV.eq_row
/-- A formula is boxed: the blocks that come, and what is read there. -/
def boxF (n : Nat) : FV → List Blk
  | ⟨a, b, c, d, .nil⟩ => [.nrow, .cells [.int .i64 a, .int .i64 b, .int .i64 c, .int .i64 d, .slref n 0 0 0]]
  | ⟨a, b, c, d, s⟩ => [.cells [.int .i64 a, .int .i64 b, .int .i64 c, .int .i64 d, s.av]]
def inF (n : Nat) : FV → AV
  | ⟨a, b, c, d, .nil⟩ => .agg [.int .i64 a, .int .i64 b, .int .i64 c, .int .i64 d, .slref n 0 0 0]
  | ⟨a, b, c, d, s⟩ => .agg [.int .i64 a, .int .i64 b, .int .i64 c, .int .i64 d, s.av]
def mk1 (kind u : Int) (x : FV) (H : List Blk) : List Blk :=
  H ++ (boxF H.length x ++ [.nrow, .cells [.int .i64 kind, .int .i64 0, .int .i64 u, .int .i64 0, .slref (H.length + ((boxF H.length x).length + 2)) 0 1 1], .row true 57 5 [inF H.length x]])
def r1 (kind u : Int) (x : FV) (H : List Blk) : AV := .agg [.int .i64 kind, .int .i64 0, .int .i64 u, .int .i64 0, .slref (H.length + ((boxF H.length x).length + 2)) 0 1 1]
def mk2 (kind : Int) (x y : FV) (H : List Blk) : List Blk :=
  H ++ (boxF H.length x ++ (boxF (H.length + (boxF H.length x).length) y ++ [.nrow, .cells [.int .i64 kind, .int .i64 0, .int .i64 0, .int .i64 0, .slref (H.length + ((boxF H.length x).length + ((boxF 0 y).length + 2))) 0 2 2], .row true 57 5 [inF H.length x, inF (H.length + (boxF H.length x).length) y]]))
def r2 (kind : Int) (x y : FV) (H : List Blk) : AV := .agg [.int .i64 kind, .int .i64 0, .int .i64 0, .int .i64 0, .slref (H.length + ((boxF H.length x).length + ((boxF 0 y).length + 2))) 0 2 2]
@[simp] def ct_fmSome : CtH := ⟨184, Int × FV, fun _ _ => True, fun x => [.int .i64 x.1, x.2.av], fun x H => r1 11 x.1 x.2 H, fun x H => mk1 11 x.1 x.2 H⟩
theorem ok_fmSome : ct_fmSome.Ok Try.prog := by
  rintro ⟨u, ⟨a, b, c, d, _ | _ | ⟨i, o, l, t⟩⟩⟩ H - <;> refine OkH.of_cw' fok_impl_fmSome (go_ok tab_nil ?_) <;>
  simp [code_impl_fmSome, List.replicate, retH, FV.av, PS.av, getHk, getH0, setHk, setH0, Nat.add_assoc, r1, mk1, boxF, inF]
@[simp] def ct_fmAll : CtH := ⟨132, Int × FV, fun _ _ => True, fun x => [.int .i64 x.1, x.2.av], fun x H => r1 12 x.1 x.2 H, fun x H => mk1 12 x.1 x.2 H⟩
theorem ok_fmAll : ct_fmAll.Ok Try.prog := by
  rintro ⟨u, ⟨a, b, c, d, _ | _ | ⟨i, o, l, t⟩⟩⟩ H - <;> refine OkH.of_cw' fok_impl_fmAll (go_ok tab_nil ?_) <;>
  simp [code_impl_fmAll, List.replicate, retH, FV.av, PS.av, getHk, getH0, setHk, setH0, Nat.add_assoc, r1, mk1, boxF, inF]
@[simp] def ct_fmNot : CtH := ⟨101, FV, fun _ _ => True, fun x => [x.av], fun x H => r1 8 0 x H, fun x H => mk1 8 0 x H⟩
theorem ok_fmNot : ct_fmNot.Ok Try.prog := by
  rintro ⟨a, b, c, d, _ | _ | ⟨i, o, l, t⟩⟩ H - <;> refine OkH.of_cw' fok_impl_fmNot (go_ok tab_nil ?_) <;>
  simp [code_impl_fmNot, List.replicate, retH, FV.av, PS.av, getHk, getH0, setHk, setH0, Nat.add_assoc, r1, mk1, boxF, inF]
@[simp] def ct_fmAnd : CtH := ⟨99, FV × FV, fun _ _ => True, fun x => [x.1.av, x.2.av], fun x H => r2 9 x.1 x.2 H, fun x H => mk2 9 x.1 x.2 H⟩
theorem ok_fmAnd : ct_fmAnd.Ok Try.prog := by
  rintro ⟨⟨a, b, c, d, _ | _ | ⟨i, o, l, t⟩⟩, ⟨a', b', c', d', _ | _ | ⟨i', o', l', t'⟩⟩⟩ H - <;> refine OkH.of_cw' fok_impl_fmAnd (go_ok tab_nil ?_) <;>
  simp [code_impl_fmAnd, List.replicate, retH, FV.av, PS.av, getHk, getH0, setHk, setH0, Nat.add_assoc, r2, mk2, boxF, inF]
@[simp] def ct_fmOr : CtH := ⟨103, FV × FV, fun _ _ => True, fun x => [x.1.av, x.2.av], fun x H => r2 10 x.1 x.2 H, fun x H => mk2 10 x.1 x.2 H⟩
theorem ok_fmOr : ct_fmOr.Ok Try.prog := by
  rintro ⟨⟨a, b, c, d, _ | _ | ⟨i, o, l, t⟩⟩, ⟨a', b', c', d', _ | _ | ⟨i', o', l', t'⟩⟩⟩ H - <;> refine OkH.of_cw' fok_impl_fmOr (go_ok tab_nil ?_) <;>
  simp [code_impl_fmOr, List.replicate, retH, FV.av, PS.av, getHk, getH0, setHk, setH0, Nat.add_assoc, r2, mk2, boxF, inF]
def rowy (tot : Nat) : Option Blk → Bool
  | some .nrow => true
  | some (.row _ _ _ els) => els.length == tot
  | _ => false
/-- What marking does: the elements of a row, one by one, each with its parts. -/
def markR (f : AV → Int → List Blk → Option (Int × List Blk)) (b tot e : Nat) : Nat → Nat → Int → List Blk → Option (Int × List Blk)
  | 0, _, k, H => if rowy tot H[b]? = true then some (k, H) else none
  | n + 1, j, k, H => match H[b]? with
    | some (.row true e' 5 els) => if e' = e ∧ els.length = tot ∧ k + 4 ≤ 1099511627776 then match els[j]? with
      | some (.agg [.int .i64 _, .int .i64 _, .int .i64 _, .int .i64 _, s]) =>
        match f s (k + 4) (H.set b (.row true e 5 (els.set j (.agg [.int .i64 k, .int .i64 (k + 1), .int .i64 (k + 2), .int .i64 (k + 3), s])))) with
        | some (k', H') => if k' ≤ 1099511627776 ∧ 0 ≤ k' then markR f b tot e n (j + 1) k' H' else none
        | none => none
      | _ => none else none
    | _ => none
def markS (e : Nat) : Nat → AV → Int → List Blk → Option (Int × List Blk)
  | 0, _, _, _ => none
  | _ + 1, .sl .any 0 [], k, H => some (k, H)
  | n + 1, .slref b off len tot, k, H => if off + len ≤ tot ∧ len ≤ 1048576 then markR (markS e n) b tot e len off k H else none
  | _ + 1, _, _, _ => none
set_option maxHeartbeats 1000000 in
set_option maxRecDepth 100000 in
theorem ok_mark_any (k : Int) (H : List Blk) : OkH Try.prog 106 [.sl .any 0 [], .int .i64 k] H (.int .i64 k) H := by
  refine OkH.of_cw' fok_laws_markFormulaS (go_ok tab_nil ?_)
  simp [code_laws_markFormulaS, List.replicate]
  refine cw_round (fun (p : Nat) => ⟨slots 48 [(0, .sl .any 0 []), (1, .int .i64 k), (5, .int .i64 p)], H⟩)
    (fun p => p = 0) (fun p => 0) 0 rfl ?_ ?_
  · exact weak_slots (by simp [List.replicate, less_undef, less_refl])
  · rintro N hN i hi
    subst hi
    refine go_ok tab_nil ?_
    simp [List.replicate, retH]
@[simp] def ct_markn (n : Nat) : CtH := ⟨106, AV × Int, fun x H => 0 ≤ x.2 ∧ x.2 ≤ 1099511627776 ∧ (markS 57 n x.1 x.2 H).isSome = true, fun x => [x.1, .int .i64 x.2], fun x H => .int .i64 ((markS 57 n x.1 x.2 H).getD default).1, fun x H => ((markS 57 n x.1 x.2 H).getD default).2⟩
set_option maxHeartbeats 2000000 in
set_option maxRecDepth 100000 in
theorem mark_step (n : Nat) (ih : (ct_markn n).Ok Try.prog) (x : AV) (k0 k1 : Int) (H0 H1 : List Blk) (h0 : 0 ≤ k0) (h1 : k0 ≤ 1099511627776) (hs : markS 57 (n + 1) x k0 H0 = some (k1, H1)) : OkH Try.prog 106 [x, .int .i64 k0] H0 (.int .i64 k1) H1 := by
  unfold markS at hs
  split at hs
  · simp at hs
  · simp at hs
    obtain ⟨rfl, rfl⟩ := hs
    exact ok_mark_any _ _
  · rename_i k H _ _ _ _ n' b off len tot e'
    obtain rfl : n = n' := by omega
    by_cases hc : off + len ≤ tot ∧ len ≤ 1048576
    case neg => rw [if_neg hc] at hs; simp at hs
    rw [if_pos hc] at hs
    refine OkH.of_cw' fok_laws_markFormulaS (go_ok tab_nil ?_)
    simp [code_laws_markFormulaS, List.replicate]
    refine cw_round (fun (p : Nat × Int × List Blk) => ⟨slots 48 [(0, .slref b off len tot), (1, .int .i64 p.2.1), (5, .int .i64 p.1)], p.2.2⟩)
      (fun p => p.1 ≤ len ∧ 0 ≤ p.2.1 ∧ p.2.1 ≤ 1099511627776 ∧ markR (markS 57 n) b tot 57 (len - p.1) (off + p.1) p.2.1 p.2.2 = some (k1, H1)) (fun p => len - p.1) (0, k, H) ⟨by simp, h0, h1, hs⟩ ?_ ?_
    · exact weak_slots (by simp [List.replicate, less_undef, less_refl])
    · rintro N hN ⟨i, k, H⟩ ⟨hi, g0, g1, hm⟩
      change i ≤ len at hi
      change 0 ≤ k at g0
      change k ≤ 1099511627776 at g1
      change markR (markS 57 n) b tot 57 (len - i) (off + i) k H = some (k1, H1) at hm
      by_cases g : i < len
      · obtain ⟨d, hd⟩ : ∃ d, len - i = d + 1 := ⟨len - i - 1, by omega⟩
        rw [hd] at hm
        unfold markR at hm
        split at hm
        case h_2 => simp at hm
        rename_i e' els hb
        split at hm
        case isFalse => simp at hm
        rename_i he
        obtain ⟨rfl, he, hk4⟩ := he
        split at hm
        case h_2 => simp at hm
        rename_i q1 q2 q3 q4 s hj
        split at hm
        case h_2 => simp at hm
        rename_i k' H' hf
        split at hm
        case isFalse => simp at hm
        rename_i hk'
        have hbl : b < H.length := (List.getElem?_eq_some_iff.1 hb).1
        have hjl : off + i < els.length := (List.getElem?_eq_some_iff.1 hj).1
        have w1 : IntKind.i64.wrap (k + 1) = k + 1 := by rw [wrap_i64] <;> omega
        have w2 : IntKind.i64.wrap (k + 1 + 1) = k + 2 := by rw [wrap_i64] <;> omega
        have w3 : IntKind.i64.wrap (k + 2 + 1) = k + 3 := by rw [wrap_i64] <;> omega
        have w4 : IntKind.i64.wrap (k + 3 + 1) = k + 4 := by rw [wrap_i64] <;> omega
        have wi : IntKind.i64.wrap ((i : Int) + 1) = ((i + 1 : Nat) : Int) := by rw [wrap_i64] <;> omega
        refine go_ok (tab_h ih tab_nil) ?_
        have gs : ∀ x, (H.set b x)[b]? = some x := fun x => by simp [hbl]
        have js : ∀ x, (els.set (off + i) x)[off + i]? = some x := fun x => by simp [hjl]
        have g2 : ¬ len ≤ i := by omega
        simp [List.replicate, w1, w2, w3, w4, wi, g, g2, hc, hb, he, hj, gs, js, hf]
        refine ⟨by omega, hk4, ?_⟩
        refine hN _ (i + 1, k', H') _ ⟨by simp; omega, hk'.2, hk'.1, ?_⟩ (by simp; omega) (weak_slots (by simp [List.replicate, less_undef, less_refl]))
        rw [show len - (i + 1) = d by omega, show off + (i + 1) = off + i + 1 by omega]
        exact hm
      · have hd : len - i = 0 := by omega
        rw [hd] at hm
        unfold markR at hm
        split at hm
        case isFalse => simp at hm
        rename_i hr
        simp only [Option.some.injEq, Prod.mk.injEq] at hm
        obtain ⟨rfl, rfl⟩ := hm
        refine go_ok tab_nil ?_
        simp [List.replicate, retH, g]
        exact hr
  · simp at hs
theorem ok_markn : ∀ n, (ct_markn n).Ok Try.prog
  | 0 => by rintro ⟨x, k⟩ H ⟨-, -, h⟩; simp [markS] at h
  | n + 1 => by
    rintro ⟨x, k⟩ H ⟨h0, h1, h⟩
    obtain ⟨⟨k', H'⟩, hs⟩ := Option.isSome_iff_exists.1 h
    have := mark_step n (ok_markn n) x k k' H H' h0 h1 hs
    simp only [ct_markn]
    rw [show markS 57 (n + 1) x k H = some (k', H') from hs]
    exact this
/-- The whole formula: its parts. -/
@[simp] def ct_mark : CtH := ⟨40, FV × Int, fun x H => 0 ≤ x.2 ∧ x.2 ≤ 1099511627776 ∧ x.1.s ≠ .nil ∧ (markS 57 9 x.1.s.av x.2 (H ++ boxF H.length x.1)).isSome = true, fun x => [x.1.av, .int .i64 x.2],
  fun x H => .int .i64 ((markS 57 9 x.1.s.av x.2 (H ++ boxF H.length x.1)).getD default).1, fun x H => ((markS 57 9 x.1.s.av x.2 (H ++ boxF H.length x.1)).getD default).2⟩
theorem ok_mark : ct_mark.Ok Try.prog := by
  rintro ⟨⟨a, b, c, d, s⟩, k⟩ H ⟨h0, h1, h2, h3⟩
  obtain ⟨⟨k', H'⟩, hs⟩ := Option.isSome_iff_exists.1 h3
  change 0 ≤ k at h0
  change k ≤ 1099511627776 at h1
  change s ≠ .nil at h2
  change markS _ 9 s.av k (H ++ boxF H.length ⟨a, b, c, d, s⟩) = some (k', H') at hs
  refine OkH.of_cw' fok_laws_markFormula (go_ok (tab_h (ok_markn 9) tab_nil) ?_)
  rcases s with _ | _ | ⟨i, o, l, t⟩
  · exact absurd rfl h2
  · simp [boxF, PS.av] at hs
    simp [code_laws_markFormula, List.replicate, retH, FV.av, PS.av, getHk, getH0, setHk, setH0, boxF, hs, h0, h1]
  · simp [boxF, PS.av] at hs
    simp [code_laws_markFormula, List.replicate, retH, FV.av, PS.av, getHk, getH0, setHk, setH0, boxF, hs, h0, h1]
theorem av_nil : PS.nil.av = .sl .nil 0 [] := (rfl)
theorem av_any : PS.any.av = .sl .any 0 [] := (rfl)
theorem av_row (b o l t : Nat) : (PS.row b o l t).av = .slref b o l t := (rfl)
theorem FV.av_mk (a b c d s) : FV.av ⟨a, b, c, d, s⟩ = .agg [.int .i64 a, .int .i64 b, .int .i64 c, .int .i64 d, s.av] := (rfl)
theorem boxF_nil (n : Nat) (a b c d : Int) : boxF n ⟨a, b, c, d, .nil⟩ = [.nrow, .cells [.int .i64 a, .int .i64 b, .int .i64 c, .int .i64 d, .slref n 0 0 0]] := (rfl)
theorem boxF_any (n : Nat) (a b c d : Int) : boxF n ⟨a, b, c, d, .any⟩ = [.cells [.int .i64 a, .int .i64 b, .int .i64 c, .int .i64 d, .sl .any 0 []]] := (rfl)
theorem boxF_row (n : Nat) (a b c d : Int) (i o l t : Nat) : boxF n ⟨a, b, c, d, .row i o l t⟩ = [.cells [.int .i64 a, .int .i64 b, .int .i64 c, .int .i64 d, .slref i o l t]] := (rfl)
theorem inF_nil (n : Nat) (a b c d : Int) : inF n ⟨a, b, c, d, .nil⟩ = .agg [.int .i64 a, .int .i64 b, .int .i64 c, .int .i64 d, .slref n 0 0 0] := (rfl)
theorem inF_any (n : Nat) (a b c d : Int) : inF n ⟨a, b, c, d, .any⟩ = .agg [.int .i64 a, .int .i64 b, .int .i64 c, .int .i64 d, .sl .any 0 []] := (rfl)
theorem inF_row (n : Nat) (a b c d : Int) (i o l t : Nat) : inF n ⟨a, b, c, d, .row i o l t⟩ = .agg [.int .i64 a, .int .i64 b, .int .i64 c, .int .i64 d, .slref i o l t] := (rfl)
end Go.Vm
