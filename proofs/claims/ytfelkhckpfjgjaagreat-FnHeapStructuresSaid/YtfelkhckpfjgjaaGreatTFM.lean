/- The reference's draws of structures. No condition. -/
import Derived.Test.YtfelkhckpfjgjaaGreatTRH
import Derived.Test.YtfelkhckpfjgjaaGreatVme
import Derived.Test.YtfelkhckpfjgjaaGreatTG
set_option linter.unusedSimpArgs false
set_option linter.unusedVariables false
namespace Go.Vm
open Go.Proofs
theorem made_bent {H : List Blk} {p : Nat} {c : Cur} (hbuf : c.buf.length ≤ 1048576) (hp : H[p]? = some c.cells) : ∃ (va vn wa wn : Nat) (L : List Blk),
    Stn H.length (H.set p (bent12 c).1.cells ++ L) (.slref va 0 vn vn) (.slref wa 0 wn wn) (bent12 c).2 ∧ OkH Tryz.prog 43 [.pbox p 0] H (.agg [.slref va 0 vn vn, .slref wa 0 wn wn]) (H.set p (bent12 c).1.cells ++ L) := by
  obtain ⟨va, vn, wa, wn, G, ⟨g1, g2, g3, g4⟩, ok⟩ := made_l12Bent hbuf hp
  have hpl := (List.getElem?_eq_some_iff.1 hp).1
  have e : G = H.set p (bent12 c).1.cells ++ G.drop H.length := by
    apply List.ext_getElem?
    intro j
    by_cases g : j < H.length
    · rw [List.getElem?_append_left (by simpa using g)]
      by_cases q : j = p
      · subst q; rw [g1, List.getElem?_set_self hpl]
      · rw [g3 j g q, List.getElem?_set_ne (Ne.symm q)]
    · rw [List.getElem?_append_right (by simp; omega), List.getElem?_drop]
      congr 1; simp; omega
  refine ⟨va, vn, wa, wn, G.drop H.length, ?_, ?_⟩
  · rw [← e]; exact g4
  · rw [← e]; exact ok
end Go.Vm

namespace Go.Vm
open Go.Proofs
mutual
def Fm.size : Fm → Nat | .mk _ _ _ _ l => 1 + sizes l
def sizes : List Fm → Nat | [] => 0 | x :: xs => x.size + sizes xs
end
theorem size_eq (x : Fm) : x.size = 1 + sizes x.args := by cases x; simp [Fm.size]
theorem size_mem : ∀ {xs : List Fm} {i : Nat} (h : i < xs.length), xs[i].size ≤ sizes xs
  | x :: xs, 0, _ => by simp [sizes]
  | x :: xs, i + 1, h => by
    have := size_mem (xs := xs) (i := i) (by simpa using h)
    simp [sizes]; omega
theorem sizes_len : ∀ xs : List Fm, xs.length ≤ sizes xs
  | [] => by simp [sizes]
  | x :: xs => by have := sizes_len xs; have := size_eq x; simp [sizes]; omega
noncomputable instance : DecidableEq Fm := fun _ _ => Classical.propDecidable _
def code_spec_l10Copy : F := ⟨33, [.cell 5 true 2],
 .seq (.reg [⟨some 1, .box (.t 0), none⟩,
    ⟨some 2, .alloc [(.int .i64 0), (.int .i64 0), (.int .i64 0), (.int .i64 0), (.sl .nil 0 [])], none⟩])
 (.seq (.reg [⟨some 5, .faddr 0 (.t 1), none⟩,
     ⟨some 6, .load 1 false (.t 5), none⟩,
     ⟨some 7, .faddr 1 (.t 1), none⟩,
     ⟨some 8, .load 1 false (.t 7), none⟩,
     ⟨some 9, .faddr 2 (.t 1), none⟩,
     ⟨some 10, .load 1 false (.t 9), none⟩,
     ⟨some 11, .faddr 3 (.t 1), none⟩,
     ⟨some 12, .load 1 false (.t 11), none⟩,
     ⟨some 13, .build [(.int .i64 0), (.int .i64 0), (.int .i64 0), (.int .i64 0), (.sl .nil 0 [])] [(0, 1, (.t 6)), (1, 1, (.t 8)), (2, 1, (.t 10)), (3, 1, (.t 12))], none⟩,
     ⟨some 3, .alloc [(.int .i64 0), (.int .i64 0), (.int .i64 0), (.int .i64 0), (.sl .nil 0 [])], none⟩,
     ⟨none, .store 5 (.t 3) (.t 13), none⟩])
  (.seq (.seq (.reg [⟨some 4, .mov (.k (.int .i64 0)), none⟩])
    (.block 0 (.loop (.seq (.seq (.reg [⟨some 14, .mov (.t 4), none⟩,
           ⟨some 15, .faddr 4 (.t 1), none⟩,
           ⟨some 16, .load 1 false (.t 15), none⟩,
           ⟨some 17, .len (.t 16), none⟩,
           ⟨some 18, .bin .lss (.t 14) (.t 17), none⟩])
        (.cond (.t 18)
         (.skip)
         (.exit 0)))
       (.seq (.block 1 (.dreg [false, false, false, false, false, false, false, false, false, true, true, true] [false, false, false, false, false, false, false, true, false, false, false, false] [⟨some 21, .faddr 4 (.t 3), none⟩,
            ⟨some 22, .load 1 false (.t 21), none⟩,
            ⟨some 23, .faddr 4 (.t 1), none⟩,
            ⟨some 24, .load 1 false (.t 23), none⟩,
            ⟨some 25, .mov (.t 4), none⟩,
            ⟨some 26, .iaddr 5 (.t 24) (.t 25), none⟩,
            ⟨some 27, .load 5 true (.t 26), none⟩,
            ⟨some 28, .call 110 [(.t 27)], none⟩,
            ⟨some 29, .bsl 42 5 1 (.agg [(.int .i64 0), (.int .i64 0), (.int .i64 0), (.int .i64 0), (.sl .nil 0 [])]) [(0, (.t 28))], none⟩,
            ⟨some 30, .append 42 5 56 (.t 22) (.t 29), none⟩,
            ⟨some 31, .faddr 4 (.t 3), none⟩,
            ⟨none, .store 1 (.t 31) (.t 30), none⟩]))
        (.reg [⟨some 19, .mov (.t 4), none⟩,
           ⟨some 20, .bin .add (.t 19) (.k (.int .i64 1)), none⟩,
           ⟨some 4, .mov (.t 20), none⟩]))))))
   (.seq (.reg [⟨some 32, .load 5 true (.t 3), none⟩,
       ⟨none, .store 5 (.t 2) (.t 32), none⟩])
    (.ret))))⟩
theorem fok_spec_l10Copy : FOk Tryz.prog 110 code_spec_l10Copy := fok Tryz.func110 (by kernel_rfl)
end Go.Vm
