/- Formulas: comparing, counting up and copying. No condition. -/
import Derived.Test.YtfelkhckpfjgjaaTG
import Derived.Test.YtfelkhckpfjgjaaTPT
import Derived.Test.YtfelkhckpfjgjaaTSO
set_option linter.unusedSimpArgs false
set_option linter.unusedVariables false
namespace Go.Vm
open Go.Proofs
mutual
def Fm.size : Fm → Nat | .mk _ _ _ _ l => 1 + sizes l
def sizes : List Fm → Nat | [] => 0 | x :: xs => x.size + sizes xs
end
theorem size_eq (x : Fm) : x.size = 1 + sizes x.args := by cases x; simp [Fm.size]
theorem size_mem : ∀ {xs : List Fm} {i : Nat} (h : i < xs.length), xs[i].size ≤ sizes xs
  | x :: xs, 0, _ => by simp [sizes]
  | x :: xs, i + 1, h => by
    have := size_mem (xs := xs) (i := i) (by simpa using h)
    simp [sizes]; omega
theorem sizes_len : ∀ xs : List Fm, xs.length ≤ sizes xs
  | [] => by simp [sizes]
  | x :: xs => by have := sizes_len xs; have := size_eq x; simp [sizes]; omega
noncomputable instance : DecidableEq Fm := fun _ _ => Classical.propDecidable _
end Go.Vm
namespace Go.Vm
open Go.Proofs
theorem encFm_agg0 (a b c d : Int) (x : Fm) : (.agg [.int .i64 a, .int .i64 b, .int .i64 c, .int .i64 d, .sl .any 0 []] = encFm x) = (Fm.mk a b c d [] = x) := encFm_agg (l := [])
theorem two_of {α : Type} {l : List α} (h : l.length = 2) : ∃ x y, l = [x, y] := by
  match l, h with
  | [x, y], _ => exact ⟨x, y, rfl⟩
def fget (f : Fm) (k : Nat) : Fm := f.args.getD k default
def pad4 (nodes : List Int) : List Int := nodes.take 4 ++ [-1, -1, -1, -1].drop (min nodes.length 4)
@[simp] theorem pad4_len (l : List Int) : (pad4 l).length = 4 := by
  unfold pad4
  simp only [List.length_append, List.length_take, List.length_drop, List.length_cons, List.length_nil]
  omega
def overOp (all : Bool) (v w : Int) : Int := if all then andT v w else orT v w
def overT (all : Bool) (n : Nat) (g : Nat → Int) : Int := (List.range n).foldl (fun v i => overOp all v (g i)) (if all then 2 else 0)
theorem overT_zero (all : Bool) (g : Nat → Int) : overT all 0 g = if all then 2 else 0 := by simp [overT]
theorem overT_succ (all : Bool) (n : Nat) (g : Nat → Int) : overT all (n + 1) g = overOp all (overT all n g) (g n) := by simp [overT, List.range_succ]
theorem overOp_truth (all : Bool) (v w : Int) : isTruth (overOp all v w) = true := by unfold overOp; split; exact andT_truth _ _; exact orT_truth _ _
theorem overT_truth (all : Bool) (n : Nat) (g : Nat → Int) : isTruth (overT all n g) = true := by
  cases n with
  | zero => rw [overT_zero]; cases all <;> simp [isTruth]
  | succ n => rw [overT_succ]; exact overOp_truth _ _ _
theorem overT_stop (all : Bool) {g : Nat → Int} (hg : ∀ i, isTruth (g i) = true) {m : Nat} (h : overT all m g = if all then 0 else 2) : ∀ k, overT all (m + k) g = if all then 0 else 2
  | 0 => h
  | k + 1 => by
    rw [← Nat.add_assoc, overT_succ, overT_stop all hg h k]
    have := hg (m + k)
    have h2 := this
    rw [isTruth_iff] at h2
    cases all
    · simp only [overOp, orT, this, Bool.false_eq_true, if_false]
      simp [isTruth]; omega
    · simp only [overOp, andT, this, if_true]
      simp [isTruth]; omega
def nodeI (s : Strc) (i : Int) : Node := s.nodes.getD i.toNat default
theorem nodeI_get {s : Strc} {i : Int} (h : i.toNat < s.nodes.length) : nodeI s i = s.nodes[i.toNat] := by simp [nodeI, List.getD_eq_getElem?_getD, h]
def oneT (s : Strc) (f : Fm) (i : Int) : Int := if i < 0 then 1 else if f.kind = 2 then at1 (nodeI s i).vars f.k else if f.kind = 3 then at1 (nodeI s i).reach f.k else (nodeI s i).shared
noncomputable def twoT (s : Strc) (f : Fm) (i j : Int) : Int := if i < 0 ∨ j < 0 then 1 else if f.kind = 5 then nextOf s i j else if f.kind = 7 then pathT s i j else if i = j then sameT s i else 0
noncomputable def plainT (s : Strc) (f : Fm) (i j : Int) : Int := if f.kind = 1 then 2 else if f.kind ≤ 4 then knownT (oneT s f i) else knownT (twoT s f i j)
theorem plainT_truth (s : Strc) (f : Fm) (i j : Int) : isTruth (plainT s f i j) = true := by
  unfold plainT
  split
  · simp [isTruth]
  · split <;> exact knownT_truth _
noncomputable def evalN (s : Strc) : Nat → Fm → List Int → Int
  | 0, _, _ => 1
  | n + 1, f, nodes =>
    if arity f.kind = f.args.length then
      if f.kind = 8 then notT3 (evalN s n (fget f 0) nodes)
      else if f.kind = 9 then andT (evalN s n (fget f 0) nodes) (evalN s n (fget f 1) nodes)
      else if f.kind = 10 then orT (evalN s n (fget f 0) nodes) (evalN s n (fget f 1) nodes)
      else if f.kind = 11 ∨ f.kind = 12 then
        if 0 ≤ f.u ∧ f.u ≤ 3 then overT (decide (f.kind = 12)) s.nodes.length (fun i => evalN s n (fget f 0) ((pad4 nodes).set f.u.toNat (i : Nat))) else 1
      else plainT s f (nodeOf s nodes f.u) (nodeOf s nodes f.v)
    else 1
noncomputable def evalT (s : Strc) (f : Fm) (nodes : List Int) : Int := evalN s f.size f nodes
theorem evalN_truth (s : Strc) : ∀ (n : Nat) (f : Fm) (nodes : List Int), isTruth (evalN s n f nodes) = true
  | 0, _, _ => by simp [evalN, isTruth]
  | n + 1, f, nodes => by
    unfold evalN
    (repeat' split) <;> first | exact notT3_truth _ | exact andT_truth _ _ | exact orT_truth _ _ | exact overT_truth _ _ _ | exact plainT_truth _ _ _ _ | simp [isTruth]
mutual
def noPathF : Fm → Bool | .mk kind _ _ _ l => decide (kind ≠ 7) && noPathS l
def noPathS : List Fm → Bool
  | [] => true
  | x :: xs => noPathF x && noPathS xs
end
theorem arity_cases {kind : Int} {n : Nat} (h : arity kind = n) : (1 ≤ kind ∧ kind ≤ 7 ∧ n = 0) ∨ (kind = 8 ∧ n = 1) ∨ (kind = 9 ∧ n = 2) ∨ (kind = 10 ∧ n = 2) ∨ (kind = 11 ∧ n = 1) ∨ (kind = 12 ∧ n = 1) := by
  unfold arity at h
  (repeat' split at h) <;> omega
end Go.Vm
