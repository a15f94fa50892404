/- Slices put together; are the elements of a heap cells? No condition. -/
import Derived.Test.YtmakeoekklcbdaaGreatTIXI
import Derived.Test.YtmakeoekklcbdaaGreatTHP
set_option linter.unusedSimpArgs false
set_option linter.unusedVariables false
namespace Go.Vm
open Go.Proofs
def growV (n : Nat) (H : List Blk) : AV := if n = 0 then .sl .nil 0 [] else .slref H.length 0 0 n
theorem flat_len_take {xss : List (List Int)} {i : Nat} (h : i < xss.length) : (xss.take (i + 1)).flatten = (xss.take i).flatten ++ xss[i] := by
  rw [List.take_succ_eq_append_getElem h, List.flatten_append]; simp
theorem flat_len_le {xss : List (List Int)} {i : Nat} : (xss.take i).flatten.length ≤ xss.flatten.length := by
  have := congrArg (fun l => l.flatten.length) (List.take_append_drop i xss)
  simp only [List.flatten_append, List.length_append] at this
  omega
/-- Are all elements cells or -1? -/
def cellsB (h : Heap) : Bool := (h.vars ++ h.next).all fun n => decide (n = -1) || (decide (0 ≤ n) && decide (n < h.next.length))
def badC (h : Heap) (n : Int) : Bool := !decide (n = -1) && !(decide (0 ≤ n) && decide (n ≤ (h.next.length : Int) - 1))
theorem any_bad (h : Heap) : (!(h.vars ++ h.next).any (badC h)) = cellsB h := by
  unfold cellsB
  rw [List.all_eq_not_any_not]
  congr 2
  funext n
  simp [badC]
  grind
theorem cells_any (h : Heap) : cellsB h = (!h.vars.any (badC h) && !h.next.any (badC h)) := by
  rw [← any_bad, List.any_append, Bool.not_or]
end Go.Vm
