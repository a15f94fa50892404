/- Formulas: comparing, counting up and copying. No condition. -/
import Derived.Test.YtmakeoekklcbdaaGreatTG
set_option linter.unusedSimpArgs false
set_option linter.unusedVariables false
namespace Go.Vm
open Go.Proofs
mutual
def Fm.size : Fm → Nat | .mk _ _ _ _ l => 1 + sizes l
def sizes : List Fm → Nat | [] => 0 | x :: xs => x.size + sizes xs
end
theorem size_eq (x : Fm) : x.size = 1 + sizes x.args := by cases x; simp [Fm.size]
theorem size_mem : ∀ {xs : List Fm} {i : Nat} (h : i < xs.length), xs[i].size ≤ sizes xs
  | x :: xs, 0, _ => by simp [sizes]
  | x :: xs, i + 1, h => by
    have := size_mem (xs := xs) (i := i) (by simpa using h)
    simp [sizes]; omega
theorem sizes_len : ∀ xs : List Fm, xs.length ≤ sizes xs
  | [] => by simp [sizes]
  | x :: xs => by have := sizes_len xs; have := size_eq x; simp [sizes]; omega
theorem sizes_drop : ∀ {xs : List Fm} {i : Nat} (h : i < xs.length), sizes (xs.drop i) = xs[i].size + sizes (xs.drop (i + 1))
  | x :: xs, 0, _ => by simp [sizes]
  | x :: xs, i + 1, h => by simpa using sizes_drop (xs := xs) (i := i) (by simpa using h)
noncomputable instance : DecidableEq Fm := fun _ _ => Classical.propDecidable _
def code_spec_l10Copy : F := ⟨33, [.cell 5 true 2],
 .seq (.reg [⟨some 1, .box (.t 0), none⟩,
    ⟨some 2, .alloc [(.int .i64 0), (.int .i64 0), (.int .i64 0), (.int .i64 0), (.sl .nil 0 [])], none⟩])
 (.seq (.reg [⟨some 5, .faddr 0 (.t 1), none⟩,
     ⟨some 6, .load 1 false (.t 5), none⟩,
     ⟨some 7, .faddr 1 (.t 1), none⟩,
     ⟨some 8, .load 1 false (.t 7), none⟩,
     ⟨some 9, .faddr 2 (.t 1), none⟩,
     ⟨some 10, .load 1 false (.t 9), none⟩,
     ⟨some 11, .faddr 3 (.t 1), none⟩,
     ⟨some 12, .load 1 false (.t 11), none⟩,
     ⟨some 13, .build [(.int .i64 0), (.int .i64 0), (.int .i64 0), (.int .i64 0), (.sl .nil 0 [])] [(0, 1, (.t 6)), (1, 1, (.t 8)), (2, 1, (.t 10)), (3, 1, (.t 12))], none⟩,
     ⟨some 3, .alloc [(.int .i64 0), (.int .i64 0), (.int .i64 0), (.int .i64 0), (.sl .nil 0 [])], none⟩,
     ⟨none, .store 5 (.t 3) (.t 13), none⟩])
  (.seq (.seq (.reg [⟨some 4, .mov (.k (.int .i64 0)), none⟩])
    (.block 0 (.loop (.seq (.seq (.reg [⟨some 14, .mov (.t 4), none⟩,
           ⟨some 15, .faddr 4 (.t 1), none⟩,
           ⟨some 16, .load 1 false (.t 15), none⟩,
           ⟨some 17, .len (.t 16), none⟩,
           ⟨some 18, .bin .lss (.t 14) (.t 17), none⟩])
        (.cond (.t 18)
         (.skip)
         (.exit 0)))
       (.seq (.block 1 (.dreg [false, false, false, false, false, false, false, false, false, true, true, true] [⟨some 21, .faddr 4 (.t 3), none⟩,
            ⟨some 22, .load 1 false (.t 21), none⟩,
            ⟨some 23, .faddr 4 (.t 1), none⟩,
            ⟨some 24, .load 1 false (.t 23), none⟩,
            ⟨some 25, .mov (.t 4), none⟩,
            ⟨some 26, .iaddr 5 (.t 24) (.t 25), none⟩,
            ⟨some 27, .load 5 true (.t 26), none⟩,
            ⟨some 28, .call 73 [(.t 27)], none⟩,
            ⟨some 29, .bsl 52 5 1 (.agg [(.int .i64 0), (.int .i64 0), (.int .i64 0), (.int .i64 0), (.sl .nil 0 [])]) [(0, (.t 28))], none⟩,
            ⟨some 30, .append 52 5 56 (.t 22) (.t 29), none⟩,
            ⟨some 31, .faddr 4 (.t 3), none⟩,
            ⟨none, .store 1 (.t 31) (.t 30), none⟩]))
        (.reg [⟨some 19, .mov (.t 4), none⟩,
           ⟨some 20, .bin .add (.t 19) (.k (.int .i64 1)), none⟩,
           ⟨some 4, .mov (.t 20), none⟩]))))))
   (.seq (.reg [⟨some 32, .load 5 true (.t 3), none⟩,
       ⟨none, .store 5 (.t 2) (.t 32), none⟩])
    (.ret))))⟩
theorem fok_spec_l10Copy : FOk Tryz.prog 73 code_spec_l10Copy := fok Tryz.func73 (by kernel_rfl)
mutual
def heldF : Fm → Int → Int
  | .mk a b c d l, k => if a = k then if b = k + 1 then if c = k + 2 then if d = k + 3 then heldS l (k + 4) else -1 else -1 else -1 else -1
def heldS : List Fm → Int → Int
  | [], k => k
  | x :: xs, k => if heldF x k < 0 then -1 else heldS xs (heldF x k)
end
mutual
theorem heldF_or : ∀ (x : Fm) (k : Int), heldF x k = -1 ∨ heldF x k = k + 4 * x.size
  | .mk a b c d l, k => by
    simp only [heldF, Fm.size]
    have := heldS_or l (k + 4)
    (repeat' split) <;> omega
theorem heldS_or : ∀ (xs : List Fm) (k : Int), heldS xs k = -1 ∨ heldS xs k = k + 4 * sizes xs
  | [], k => by simp [heldS, sizes]
  | x :: xs, k => by
    simp only [heldS, sizes]
    have h1 := heldF_or x k
    have h2 := heldS_or xs (heldF x k)
    split <;> omega
end
theorem heldF_eq (x : Fm) (k : Int) : heldF x k = if x.kind = k then if x.k = k + 1 then if x.u = k + 2 then if x.v = k + 3 then heldS x.args (k + 4) else -1 else -1 else -1 else -1 := by cases x; simp only [heldF, Fm.kind_mk, Fm.k_mk, Fm.u_mk, Fm.v_mk, Fm.args_mk]
theorem heldS_drop {xs : List Fm} {i : Nat} {k : Int} (h : i < xs.length) : heldS (xs.drop i) k = if heldF xs[i] k < 0 then -1 else heldS (xs.drop (i + 1)) (heldF xs[i] k) := by
  rw [List.drop_eq_getElem_cons h, heldS]
end Go.Vm
