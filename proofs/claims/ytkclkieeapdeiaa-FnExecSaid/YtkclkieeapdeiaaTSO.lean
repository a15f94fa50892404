/- The structure of a heap, both. No condition. -/
import Derived.Test.YtkclkieeapdeiaaTCC
import Derived.Test.YtkclkieeapdeiaaTTR
import Derived.Test.YtkclkieeapdeiaaTL2
set_option linter.unusedSimpArgs false
set_option linter.unusedVariables false
namespace Go.Vm
open Go.Proofs
def code_impl_Positions : F := ⟨25, [.tmp 4],
 .seq (.reg [⟨some 4, .mov (.k (.sl .nil 0 [])), none⟩])
 (.seq (.reg [⟨some 8, .bsl 3 1 0 (.int .i64 0) [], none⟩,
     ⟨some 5, .mov (.t 8), none⟩])
  (.seq (.seq (.reg [⟨some 9, .mov (.t 0), none⟩,
       ⟨some 10, .len (.t 9), none⟩,
       ⟨some 11, .mov (.k (.int .i64 0)), none⟩])
    (.block 0 (.loop (.seq (.reg [⟨some 12, .bin .lss (.t 11) (.t 10), none⟩])
       (.seq (.cond (.t 12)
         (.skip)
         (.exit 0))
        (.seq (.block 1 (.seq (.reg [⟨some 13, .mov (.t 11), none⟩,
              ⟨some 14, .iaddr 1 (.t 9) (.t 11), none⟩,
              ⟨some 15, .load 1 false (.t 14), none⟩,
              ⟨some 6, .mov (.t 13), none⟩,
              ⟨some 7, .mov (.t 15), none⟩])
           (.seq (.reg [⟨some 16, .mov (.t 7), none⟩,
               ⟨some 17, .mov (.t 1), none⟩,
               ⟨some 18, .bin .eql (.t 16) (.t 17), none⟩])
            (.cond (.t 18)
             (.reg [⟨some 19, .mov (.t 5), none⟩,
                ⟨some 20, .mov (.t 6), none⟩,
                ⟨some 21, .bsl 3 1 1 (.int .i64 0) [(0, (.t 20))], none⟩,
                ⟨some 22, .append 3 1 8 (.t 19) (.t 21), none⟩,
                ⟨some 5, .mov (.t 22), none⟩])
             (.skip)))))
         (.reg [⟨some 23, .bin .add (.t 11) (.k (.int .i64 1)), none⟩,
            ⟨some 11, .mov (.t 23), none⟩])))))))
   (.seq (.reg [⟨some 24, .mov (.t 5), none⟩,
       ⟨some 4, .mov (.t 24), none⟩])
    (.ret))))⟩
theorem fok_impl_Positions : FOk Try.prog 42 code_impl_Positions := fok Try.func42 (by kernel_rfl)
theorem slE_node {n : Nat} {H : List Blk} (x : Node) : SlE n H (encNode x) (encNode x) := by
  rw [encNode_eq]
  show All2 _ _ _
  simp
/-- The definite truth value of a fact. -/
def trI (b : Bool) : Int := if b = true then 2 else 0
structure BB where
  b : Bool
@[simp] theorem exists_BB {b : Bool} {P : BB → Prop} : (∃ x : BB, b = x.b ∧ P x) = P ⟨b⟩ := by
  apply propext
  constructor
  · rintro ⟨⟨c⟩, rfl, h⟩; exact h
  · intro h; exact ⟨⟨b⟩, rfl, h⟩
@[simp] def ct_pPositions : Ct := ⟨42, List Int × Int, fun x => x.1.length ≤ 1048576, fun x => [encL 1 encInt x.1, .int .i64 x.2], fun x => encL 1 encInt (pos x.1 x.2)⟩
theorem ok_pPositions : ct_pPositions.Ok Try.prog := by
  rintro ⟨xs, v⟩ hx
  change xs.length ≤ 1048576 at hx
  refine Ok.of_cw fok_impl_Positions (go_ok tab_nil ?_)
  simp [code_impl_Positions, List.replicate]
  refine cw_round (fun (p : Nat) => ⟨slots 25 [(1, .int .i64 v), (5, .slref 0 0 (posTo xs v p).length (posTo xs v p).length), (9, encL 1 encInt xs), (10, .int .i64 xs.length), (11, .int .i64 p)], [.row true 3 1 ((posTo xs v p).map encInt)]⟩)
    (fun p => p ≤ xs.length) (fun p => xs.length - p) 0 (by omega) ?_ ?_
  · refine weak_seal 1 (by omega) ?_ ?_
    · simp [posTo_zero]
    · simp [List.replicate, posTo_zero]
  · rintro N hN i hi
    have hw : IntKind.i64.wrap ((i : Int) + 1) = ((i + 1 : Nat) : Int) := by rw [wrap_i64] <;> omega
    refine go_ok tab_nil ?_
    have hp := posTo_len (xs := xs) (n := v) (k := i)
    have hb : ((posTo xs v i).length + 1) * 8 ≤ 140737488355328 := by omega
    by_cases h : i < xs.length
    · have h2 : ¬ xs.length ≤ i := by omega
      simp [List.replicate, hw, h, h2, hb, app1]
      refine ⟨fun e => ?_, fun e => ?_⟩
      · refine hN _ (i + 1) _ (by omega) (by omega) (weak_seal 1 (by omega) ?_ ?_)
        · simp [posTo_hit h e]
        · simp [List.replicate, posTo_hit h e]
      · refine hN _ (i + 1) _ (by omega) (by omega) (weak_seal 1 (by omega) ?_ ?_)
        · simp [posTo_miss h e]
        · simp [List.replicate, posTo_miss h e]
    · have e : i = xs.length := by omega
      subst e
      simp [List.replicate]
      rfl
def varT (c : Nat) (v : Int) : Int := trI (decide (v = (c : Int)))
def reachT (nx : List Int) (c : Nat) (v : Int) : Int := trI (decide ((c : Int) ∈ followed nx v))
def sharT (nx : List Int) (c : Nat) : Int := trI (decide (1 < (pos nx c).length))
def nextT (nx : List Int) (c d : Nat) : Int := trI (decide (nx.getD c 0 = (d : Int)))
def nodeT (vs nx : List Int) (c : Nat) : Node := ⟨vs.map (varT c), vs.map (reachT nx c), sharT nx c, 0⟩
def rowT (nx : List Int) (c n : Nat) : List Int := (List.range n).map (nextT nx c)
def fitS (h : Heap) : Bool := cellsB h && decide (h.next.length ≤ 10) && (decide (1 ≤ h.vars.length) && decide (h.vars.length ≤ 4))
def nodesT (vs nx : List Int) (n : Nat) : List Node := (List.range n).map (nodeT vs nx)
def nextsT (nx : List Int) (n : Nat) : List Int := (List.range n).flatMap fun c => rowT nx c nx.length
def strcOf (h : Heap) : Strc := if fitS h = true then ⟨nodesT h.vars h.next h.next.length, nextsT h.next h.next.length⟩ else ⟨[], []⟩
theorem nodesT_succ (vs nx : List Int) (n : Nat) : nodesT vs nx (n + 1) = nodesT vs nx n ++ [nodeT vs nx n] := by simp [nodesT, List.range_succ]
theorem nextsT_succ (nx : List Int) (n : Nat) : nextsT nx (n + 1) = nextsT nx n ++ rowT nx n nx.length := by simp [nextsT, List.range_succ]
theorem rowT_succ (nx : List Int) (c n : Nat) : rowT nx c (n + 1) = rowT nx c n ++ [nextT nx c n] := by simp [rowT, List.range_succ]
theorem rowT_len (nx : List Int) (c n : Nat) : (rowT nx c n).length = n := by simp [rowT]
theorem nodesT_len (vs nx : List Int) (n : Nat) : (nodesT vs nx n).length = n := by simp [nodesT]
theorem nextsT_len (nx : List Int) : ∀ n, (nextsT nx n).length = n * nx.length
  | 0 => by simp [nextsT]
  | n + 1 => by rw [nextsT_succ, List.length_append, nextsT_len nx n, rowT_len, Nat.add_mul]; omega
end Go.Vm
