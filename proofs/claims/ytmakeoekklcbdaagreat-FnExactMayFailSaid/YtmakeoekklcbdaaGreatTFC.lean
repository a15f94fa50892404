/- Formulas: the program's constructors, which lay new rows, and what marks them. No condition. -/
import Derived.Test.YtmakeoekklcbdaaGreatTFM
set_option linter.unusedSimpArgs false
set_option linter.unusedVariables false
namespace Go.Vm
open Go.Proofs
def code_impl_on : F := ⟨8, [.cell 5 true 4],
 .seq (.reg [⟨some 4, .alloc [(.int .i64 0), (.int .i64 0), (.int .i64 0), (.int .i64 0), (.sl .nil 0 [])], none⟩])
 (.seq (.reg [⟨some 5, .mov (.t 0), none⟩,
     ⟨some 6, .mov (.t 1), none⟩,
     ⟨some 7, .build [(.int .i64 0), (.int .i64 0), (.int .i64 0), (.int .i64 0), (.sl .nil 0 [])] [(0, 1, (.k (.int .i64 2))), (1, 1, (.t 5)), (2, 1, (.t 6))], none⟩,
     ⟨none, .store 5 (.t 4) (.t 7), none⟩])
  (.ret))⟩
theorem fok_impl_on : FOk Tryz.prog 56 code_impl_on := fok Tryz.func56 (by kernel_rfl)
def code_impl_from : F := ⟨8, [.cell 5 true 4],
 .seq (.reg [⟨some 4, .alloc [(.int .i64 0), (.int .i64 0), (.int .i64 0), (.int .i64 0), (.sl .nil 0 [])], none⟩])
 (.seq (.reg [⟨some 5, .mov (.t 0), none⟩,
     ⟨some 6, .mov (.t 1), none⟩,
     ⟨some 7, .build [(.int .i64 0), (.int .i64 0), (.int .i64 0), (.int .i64 0), (.sl .nil 0 [])] [(0, 1, (.k (.int .i64 3))), (1, 1, (.t 5)), (2, 1, (.t 6))], none⟩,
     ⟨none, .store 5 (.t 4) (.t 7), none⟩])
  (.ret))⟩
theorem fok_impl_from : FOk Tryz.prog 57 code_impl_from := fok Tryz.func57 (by kernel_rfl)
def code_impl_next : F := ⟨8, [.cell 5 true 4],
 .seq (.reg [⟨some 4, .alloc [(.int .i64 0), (.int .i64 0), (.int .i64 0), (.int .i64 0), (.sl .nil 0 [])], none⟩])
 (.seq (.reg [⟨some 5, .mov (.t 0), none⟩,
     ⟨some 6, .mov (.t 1), none⟩,
     ⟨some 7, .build [(.int .i64 0), (.int .i64 0), (.int .i64 0), (.int .i64 0), (.sl .nil 0 [])] [(0, 1, (.k (.int .i64 5))), (2, 1, (.t 5)), (3, 1, (.t 6))], none⟩,
     ⟨none, .store 5 (.t 4) (.t 7), none⟩])
  (.ret))⟩
theorem fok_impl_next : FOk Tryz.prog 58 code_impl_next := fok Tryz.func58 (by kernel_rfl)
def code_impl_fmSome : F := ⟨9, [.cell 5 true 4],
 .seq (.reg [⟨some 3, .box (.t 1), none⟩,
    ⟨some 4, .alloc [(.int .i64 0), (.int .i64 0), (.int .i64 0), (.int .i64 0), (.sl .nil 0 [])], none⟩])
 (.seq (.reg [⟨some 5, .mov (.t 0), none⟩,
     ⟨some 6, .load 5 true (.t 3), none⟩,
     ⟨some 7, .bsl 52 5 1 (.agg [(.int .i64 0), (.int .i64 0), (.int .i64 0), (.int .i64 0), (.sl .nil 0 [])]) [(0, (.t 6))], none⟩,
     ⟨some 8, .build [(.int .i64 0), (.int .i64 0), (.int .i64 0), (.int .i64 0), (.sl .nil 0 [])] [(0, 1, (.k (.int .i64 11))), (2, 1, (.t 5)), (4, 1, (.t 7))], none⟩,
     ⟨none, .store 5 (.t 4) (.t 8), none⟩])
  (.ret))⟩
theorem fok_impl_fmSome : FOk Tryz.prog 54 code_impl_fmSome := fok Tryz.func54 (by kernel_rfl)
def code_impl_fmAnd : F := ⟨9, [.cell 5 true 4],
 .seq (.reg [⟨some 2, .box (.t 0), none⟩,
    ⟨some 3, .box (.t 1), none⟩,
    ⟨some 4, .alloc [(.int .i64 0), (.int .i64 0), (.int .i64 0), (.int .i64 0), (.sl .nil 0 [])], none⟩])
 (.seq (.reg [⟨some 5, .load 5 true (.t 2), none⟩,
     ⟨some 6, .load 5 true (.t 3), none⟩,
     ⟨some 7, .bsl 52 5 2 (.agg [(.int .i64 0), (.int .i64 0), (.int .i64 0), (.int .i64 0), (.sl .nil 0 [])]) [(0, (.t 5)), (1, (.t 6))], none⟩,
     ⟨some 8, .build [(.int .i64 0), (.int .i64 0), (.int .i64 0), (.int .i64 0), (.sl .nil 0 [])] [(0, 1, (.k (.int .i64 9))), (4, 1, (.t 7))], none⟩,
     ⟨none, .store 5 (.t 4) (.t 8), none⟩])
  (.ret))⟩
theorem fok_impl_fmAnd : FOk Tryz.prog 55 code_impl_fmAnd := fok Tryz.func55 (by kernel_rfl)
def code_impl_fmOr : F := ⟨9, [.cell 5 true 4],
 .seq (.reg [⟨some 2, .box (.t 0), none⟩,
    ⟨some 3, .box (.t 1), none⟩,
    ⟨some 4, .alloc [(.int .i64 0), (.int .i64 0), (.int .i64 0), (.int .i64 0), (.sl .nil 0 [])], none⟩])
 (.seq (.reg [⟨some 5, .load 5 true (.t 2), none⟩,
     ⟨some 6, .load 5 true (.t 3), none⟩,
     ⟨some 7, .bsl 52 5 2 (.agg [(.int .i64 0), (.int .i64 0), (.int .i64 0), (.int .i64 0), (.sl .nil 0 [])]) [(0, (.t 5)), (1, (.t 6))], none⟩,
     ⟨some 8, .build [(.int .i64 0), (.int .i64 0), (.int .i64 0), (.int .i64 0), (.sl .nil 0 [])] [(0, 1, (.k (.int .i64 10))), (4, 1, (.t 7))], none⟩,
     ⟨none, .store 5 (.t 4) (.t 8), none⟩])
  (.ret))⟩
theorem fok_impl_fmOr : FOk Tryz.prog 59 code_impl_fmOr := fok Tryz.func59 (by kernel_rfl)
@[simp] def ct_on : Ct := ⟨56, Int × Int, fun _ => True, fun x => [.int .i64 x.1, .int .i64 x.2], fun x => .agg [.int .i64 2, .int .i64 x.1, .int .i64 x.2, .int .i64 0, .sl .any 0 []]⟩
theorem ok_on : ct_on.Ok Tryz.prog := by
  rintro ⟨k, u⟩ -
  refine Ok.of_cw fok_impl_on (go_ok tab_nil ?_)
  simp [code_impl_on, List.replicate]
@[simp] def ct_from : Ct := ⟨57, Int × Int, fun _ => True, fun x => [.int .i64 x.1, .int .i64 x.2], fun x => .agg [.int .i64 3, .int .i64 x.1, .int .i64 x.2, .int .i64 0, .sl .any 0 []]⟩
theorem ok_from : ct_from.Ok Tryz.prog := by
  rintro ⟨k, u⟩ -
  refine Ok.of_cw fok_impl_from (go_ok tab_nil ?_)
  simp [code_impl_from, List.replicate]
@[simp] def ct_next : Ct := ⟨58, Int × Int, fun _ => True, fun x => [.int .i64 x.1, .int .i64 x.2], fun x => .agg [.int .i64 5, .int .i64 0, .int .i64 x.1, .int .i64 x.2, .sl .any 0 []]⟩
theorem ok_next : ct_next.Ok Tryz.prog := by
  rintro ⟨k, u⟩ -
  refine Ok.of_cw fok_impl_next (go_ok tab_nil ?_)
  simp [code_impl_next, List.replicate]
/-- A formula's parts as a caller holds them: nil, none, or a row. -/
inductive PS where
  | nil
  | any
  | row (b o l t : Nat)
def PS.av : PS → AV
  | .nil => .sl .nil 0 []
  | .any => .sl .any 0 []
  | .row b o l t => .slref b o l t
structure FV where
  kind : Int
  k : Int
  u : Int
  v : Int
  s : PS
def FV.av (x : FV) : AV := .agg [.int .i64 x.kind, .int .i64 x.k, .int .i64 x.u, .int .i64 x.v, x.s.av]
theorem FV.eq_nil (a b c d : Int) (x : FV) : (.agg [.int .i64 a, .int .i64 b, .int .i64 c, .int .i64 d, .sl .nil 0 []] = x.av) = (FV.mk a b c d .nil = x) := by
  obtain ⟨a', b', c', d', _ | _ | _⟩ := x <;> simp [FV.av, PS.av]
theorem FV.eq_any (a b c d : Int) (x : FV) : (.agg [.int .i64 a, .int .i64 b, .int .i64 c, .int .i64 d, .sl .any 0 []] = x.av) = (FV.mk a b c d .any = x) := by
  obtain ⟨a', b', c', d', _ | _ | _⟩ := x <;> simp [FV.av, PS.av]
theorem FV.eq_row (a b c d : Int) (i o l t : Nat) (x : FV) : (.agg [.int .i64 a, .int .i64 b, .int .i64 c, .int .i64 d, .slref i o l t] = x.av) = (FV.mk a b c d (.row i o l t) = x) := by
  obtain ⟨a', b', c', d', _ | _ | _⟩ := x <;> simp [FV.av, PS.av]
attribute [simp] FV.eq_nil FV.eq_any FV.eq_row
/-- A formula is boxed: the blocks that come, and what is read there. -/
def boxF (n : Nat) : FV → List Blk
  | ⟨a, b, c, d, .nil⟩ => [.nrow, .cells [.int .i64 a, .int .i64 b, .int .i64 c, .int .i64 d, .slref n 0 0 0]]
  | ⟨a, b, c, d, s⟩ => [.cells [.int .i64 a, .int .i64 b, .int .i64 c, .int .i64 d, s.av]]
def inF (n : Nat) : FV → AV
  | ⟨a, b, c, d, .nil⟩ => .agg [.int .i64 a, .int .i64 b, .int .i64 c, .int .i64 d, .slref n 0 0 0]
  | ⟨a, b, c, d, s⟩ => .agg [.int .i64 a, .int .i64 b, .int .i64 c, .int .i64 d, s.av]
def mk1 (kind u : Int) (x : FV) (H : List Blk) : List Blk :=
  H ++ (boxF H.length x ++ [.nrow, .cells [.int .i64 kind, .int .i64 0, .int .i64 u, .int .i64 0, .slref (H.length + ((boxF H.length x).length + 2)) 0 1 1], .row true 52 5 [inF H.length x]])
def r1 (kind u : Int) (x : FV) (H : List Blk) : AV := .agg [.int .i64 kind, .int .i64 0, .int .i64 u, .int .i64 0, .slref (H.length + ((boxF H.length x).length + 2)) 0 1 1]
def mk2 (kind : Int) (x y : FV) (H : List Blk) : List Blk :=
  H ++ (boxF H.length x ++ (boxF (H.length + (boxF H.length x).length) y ++ [.nrow, .cells [.int .i64 kind, .int .i64 0, .int .i64 0, .int .i64 0, .slref (H.length + ((boxF H.length x).length + ((boxF 0 y).length + 2))) 0 2 2], .row true 52 5 [inF H.length x, inF (H.length + (boxF H.length x).length) y]]))
def r2 (kind : Int) (x y : FV) (H : List Blk) : AV := .agg [.int .i64 kind, .int .i64 0, .int .i64 0, .int .i64 0, .slref (H.length + ((boxF H.length x).length + ((boxF 0 y).length + 2))) 0 2 2]
@[simp] def ct_fmSome : CtH := ⟨54, Int × FV, fun _ _ => True, fun x => [.int .i64 x.1, x.2.av], fun x H => r1 11 x.1 x.2 H, fun x H => mk1 11 x.1 x.2 H⟩
theorem ok_fmSome : ct_fmSome.Ok Tryz.prog := by
  rintro ⟨u, ⟨a, b, c, d, _ | _ | ⟨i, o, l, t⟩⟩⟩ H - <;> refine OkH.of_cw' fok_impl_fmSome (go_ok tab_nil ?_) <;>
  simp [code_impl_fmSome, List.replicate, retH, FV.av, PS.av, getHk, getH0, setHk, setH0, Nat.add_assoc, r1, mk1, boxF, inF]
@[simp] def ct_fmAnd : CtH := ⟨55, FV × FV, fun _ _ => True, fun x => [x.1.av, x.2.av], fun x H => r2 9 x.1 x.2 H, fun x H => mk2 9 x.1 x.2 H⟩
theorem ok_fmAnd : ct_fmAnd.Ok Tryz.prog := by
  rintro ⟨⟨a, b, c, d, _ | _ | ⟨i, o, l, t⟩⟩, ⟨a', b', c', d', _ | _ | ⟨i', o', l', t'⟩⟩⟩ H - <;> refine OkH.of_cw' fok_impl_fmAnd (go_ok tab_nil ?_) <;>
  simp [code_impl_fmAnd, List.replicate, retH, FV.av, PS.av, getHk, getH0, setHk, setH0, Nat.add_assoc, r2, mk2, boxF, inF]
@[simp] def ct_fmOr : CtH := ⟨59, FV × FV, fun _ _ => True, fun x => [x.1.av, x.2.av], fun x H => r2 10 x.1 x.2 H, fun x H => mk2 10 x.1 x.2 H⟩
theorem ok_fmOr : ct_fmOr.Ok Tryz.prog := by
  rintro ⟨⟨a, b, c, d, _ | _ | ⟨i, o, l, t⟩⟩, ⟨a', b', c', d', _ | _ | ⟨i', o', l', t'⟩⟩⟩ H - <;> refine OkH.of_cw' fok_impl_fmOr (go_ok tab_nil ?_) <;>
  simp [code_impl_fmOr, List.replicate, retH, FV.av, PS.av, getHk, getH0, setHk, setH0, Nat.add_assoc, r2, mk2, boxF, inF]
def rowy (tot : Nat) : Option Blk → Bool
  | some .nrow => true
  | some (.row _ _ _ els) => els.length == tot
  | _ => false
/-- What marking does: the elements of a row, one by one, each with its parts. -/
def markR (f : AV → Int → List Blk → Option (Int × List Blk)) (b tot e : Nat) : Nat → Nat → Int → List Blk → Option (Int × List Blk)
  | 0, _, k, H => if rowy tot H[b]? = true then some (k, H) else none
  | n + 1, j, k, H => match H[b]? with
    | some (.row true e' 5 els) => if e' = e ∧ els.length = tot ∧ k + 4 ≤ 1099511627776 then match els[j]? with
      | some (.agg [.int .i64 _, .int .i64 _, .int .i64 _, .int .i64 _, s]) =>
        match f s (k + 4) (H.set b (.row true e 5 (els.set j (.agg [.int .i64 k, .int .i64 (k + 1), .int .i64 (k + 2), .int .i64 (k + 3), s])))) with
        | some (k', H') => if k' ≤ 1099511627776 ∧ 0 ≤ k' then markR f b tot e n (j + 1) k' H' else none
        | none => none
      | _ => none else none
    | _ => none
def markS (e : Nat) : Nat → AV → Int → List Blk → Option (Int × List Blk)
  | 0, _, _, _ => none
  | _ + 1, .sl .any 0 [], k, H => some (k, H)
  | n + 1, .slref b off len tot, k, H => if off + len ≤ tot ∧ len ≤ 1048576 then markR (markS e n) b tot e len off k H else none
  | _ + 1, _, _, _ => none
theorem av_nil : PS.nil.av = .sl .nil 0 [] := (rfl)
theorem av_any : PS.any.av = .sl .any 0 [] := (rfl)
theorem av_row (b o l t : Nat) : (PS.row b o l t).av = .slref b o l t := (rfl)
theorem FV.av_mk (a b c d s) : FV.av ⟨a, b, c, d, s⟩ = .agg [.int .i64 a, .int .i64 b, .int .i64 c, .int .i64 d, s.av] := (rfl)
theorem boxF_nil (n : Nat) (a b c d : Int) : boxF n ⟨a, b, c, d, .nil⟩ = [.nrow, .cells [.int .i64 a, .int .i64 b, .int .i64 c, .int .i64 d, .slref n 0 0 0]] := (rfl)
theorem boxF_any (n : Nat) (a b c d : Int) : boxF n ⟨a, b, c, d, .any⟩ = [.cells [.int .i64 a, .int .i64 b, .int .i64 c, .int .i64 d, .sl .any 0 []]] := (rfl)
theorem boxF_row (n : Nat) (a b c d : Int) (i o l t : Nat) : boxF n ⟨a, b, c, d, .row i o l t⟩ = [.cells [.int .i64 a, .int .i64 b, .int .i64 c, .int .i64 d, .slref i o l t]] := (rfl)
theorem inF_nil (n : Nat) (a b c d : Int) : inF n ⟨a, b, c, d, .nil⟩ = .agg [.int .i64 a, .int .i64 b, .int .i64 c, .int .i64 d, .slref n 0 0 0] := (rfl)
theorem inF_any (n : Nat) (a b c d : Int) : inF n ⟨a, b, c, d, .any⟩ = .agg [.int .i64 a, .int .i64 b, .int .i64 c, .int .i64 d, .sl .any 0 []] := (rfl)
theorem inF_row (n : Nat) (a b c d : Int) (i o l t : Nat) : inF n ⟨a, b, c, d, .row i o l t⟩ = .agg [.int .i64 a, .int .i64 b, .int .i64 c, .int .i64 d, .slref i o l t] := (rfl)
end Go.Vm
