/- Formulas: comparing, counting up and copying. No condition. -/
import Derived.Test.YtfelkhckpfjgjaaGreatTG
set_option linter.unusedSimpArgs false
set_option linter.unusedVariables false
namespace Go.Vm
open Go.Proofs
mutual
def Fm.size : Fm → Nat | .mk _ _ _ _ l => 1 + sizes l
def sizes : List Fm → Nat | [] => 0 | x :: xs => x.size + sizes xs
end
theorem size_eq (x : Fm) : x.size = 1 + sizes x.args := by cases x; simp [Fm.size]
theorem size_mem : ∀ {xs : List Fm} {i : Nat} (h : i < xs.length), xs[i].size ≤ sizes xs
  | x :: xs, 0, _ => by simp [sizes]
  | x :: xs, i + 1, h => by
    have := size_mem (xs := xs) (i := i) (by simpa using h)
    simp [sizes]; omega
theorem sizes_len : ∀ xs : List Fm, xs.length ≤ sizes xs
  | [] => by simp [sizes]
  | x :: xs => by have := sizes_len xs; have := size_eq x; simp [sizes]; omega
noncomputable instance : DecidableEq Fm := fun _ _ => Classical.propDecidable _
def code_spec_l10Copy : F := ⟨33,[.cell 5 true 2],.seq (.reg [⟨some 1,.box (.t 0),none⟩,⟨some 2,.alloc [(.int .i64 0),(.int .i64 0),(.int .i64 0),(.int .i64 0),(.sl .nil 0 [])],none⟩]) (.seq (.reg [⟨some 5,.faddr 0 (.t 1),none⟩,⟨some 6,.load 1 false (.t 5),none⟩,⟨some 7,.faddr 1 (.t 1),none⟩,⟨some 8,.load 1 false (.t 7),none⟩,⟨some 9,.faddr 2 (.t 1),none⟩,⟨some 10,.load 1 false (.t 9),none⟩,⟨some 11,.faddr 3 (.t 1),none⟩,⟨some 12,.load 1 false (.t 11),none⟩,⟨some 13,.build [(.int .i64 0),(.int .i64 0),(.int .i64 0),(.int .i64 0),(.sl .nil 0 [])] [(0,1,.t 6),(1,1,.t 8),(2,1,.t 10),(3,1,.t 12)],none⟩,⟨some 3,.alloc [(.int .i64 0),(.int .i64 0),(.int .i64 0),(.int .i64 0),(.sl .nil 0 [])],none⟩,⟨none,.store 5 (.t 3) (.t 13),none⟩]) (.seq (.seq (.reg [⟨some 4,.mov (.k (.int .i64 0)),none⟩]) (.block 0 (.loop (.seq (.seq (.reg [⟨some 14,.mov (.t 4),none⟩,⟨some 15,.faddr 4 (.t 1),none⟩,⟨some 16,.load 1 false (.t 15),none⟩,⟨some 17,.len (.t 16),none⟩,⟨some 18,.bin .lss (.t 14) (.t 17),none⟩]) (.cond (.t 18) (.skip) (.exit 0))) (.seq (.block 1 (.dreg [false,false,false,false,false,false,false,false,false,true,true,true] [false,false,false,false,false,false,false,true,false,false,false,false] [⟨some 21,.faddr 4 (.t 3),none⟩,⟨some 22,.load 1 false (.t 21),none⟩,⟨some 23,.faddr 4 (.t 1),none⟩,⟨some 24,.load 1 false (.t 23),none⟩,⟨some 25,.mov (.t 4),none⟩,⟨some 26,.iaddr 5 (.t 24) (.t 25),none⟩,⟨some 27,.load 5 true (.t 26),none⟩,⟨some 28,.call 110 [.t 27],none⟩,⟨some 29,.bsl 42 5 1 (.agg [(.int .i64 0),(.int .i64 0),(.int .i64 0),(.int .i64 0),(.sl .nil 0 [])]) [(0,.t 28)],none⟩,⟨some 30,.append 42 5 56 (.t 22) (.t 29),none⟩,⟨some 31,.faddr 4 (.t 3),none⟩,⟨none,.store 1 (.t 31) (.t 30),none⟩])) (.reg [⟨some 19,.mov (.t 4),none⟩,⟨some 20,.bin .add (.t 19) (.k (.int .i64 1)),none⟩,⟨some 4,.mov (.t 20),none⟩])))))) (.seq (.reg [⟨some 32,.load 5 true (.t 3),none⟩,⟨none,.store 5 (.t 2) (.t 32),none⟩]) (.ret))))⟩
theorem fok_spec_l10Copy : FOk Tryz.prog 110 code_spec_l10Copy := fok Tryz.func110 (by kernel_rfl)
end Go.Vm
namespace Go.Vm
open Go.Proofs
def code_impl_on : F := ⟨8,[.cell 5 true 4],.seq (.reg [⟨some 4,.alloc [(.int .i64 0),(.int .i64 0),(.int .i64 0),(.int .i64 0),(.sl .nil 0 [])],none⟩]) (.seq (.reg [⟨some 5,.mov (.t 0),none⟩,⟨some 6,.mov (.t 1),none⟩,⟨some 7,.build [(.int .i64 0),(.int .i64 0),(.int .i64 0),(.int .i64 0),(.sl .nil 0 [])] [(0,1,(.k (.int .i64 2))),(1,1,.t 5),(2,1,.t 6)],none⟩,⟨none,.store 5 (.t 4) (.t 7),none⟩]) (.ret))⟩
theorem fok_impl_on : FOk Tryz.prog 66 code_impl_on := fok Tryz.func66 (by kernel_rfl)
def code_impl_next : F := ⟨8,[.cell 5 true 4],.seq (.reg [⟨some 4,.alloc [(.int .i64 0),(.int .i64 0),(.int .i64 0),(.int .i64 0),(.sl .nil 0 [])],none⟩]) (.seq (.reg [⟨some 5,.mov (.t 0),none⟩,⟨some 6,.mov (.t 1),none⟩,⟨some 7,.build [(.int .i64 0),(.int .i64 0),(.int .i64 0),(.int .i64 0),(.sl .nil 0 [])] [(0,1,(.k (.int .i64 5))),(2,1,.t 5),(3,1,.t 6)],none⟩,⟨none,.store 5 (.t 4) (.t 7),none⟩]) (.ret))⟩
theorem fok_impl_next : FOk Tryz.prog 70 code_impl_next := fok Tryz.func70 (by kernel_rfl)
def code_impl_fmSome : F := ⟨9,[.cell 5 true 4],.seq (.reg [⟨some 3,.box (.t 1),none⟩,⟨some 4,.alloc [(.int .i64 0),(.int .i64 0),(.int .i64 0),(.int .i64 0),(.sl .nil 0 [])],none⟩]) (.seq (.reg [⟨some 5,.mov (.t 0),none⟩,⟨some 6,.load 5 true (.t 3),none⟩,⟨some 7,.bsl 42 5 1 (.agg [(.int .i64 0),(.int .i64 0),(.int .i64 0),(.int .i64 0),(.sl .nil 0 [])]) [(0,.t 6)],none⟩,⟨some 8,.build [(.int .i64 0),(.int .i64 0),(.int .i64 0),(.int .i64 0),(.sl .nil 0 [])] [(0,1,(.k (.int .i64 11))),(2,1,.t 5),(4,1,.t 7)],none⟩,⟨none,.store 5 (.t 4) (.t 8),none⟩]) (.ret))⟩
theorem fok_impl_fmSome : FOk Tryz.prog 64 code_impl_fmSome := fok Tryz.func64 (by kernel_rfl)
def code_impl_fmNot : F := ⟨6,[.cell 5 true 2],.seq (.reg [⟨some 1,.box (.t 0),none⟩,⟨some 2,.alloc [(.int .i64 0),(.int .i64 0),(.int .i64 0),(.int .i64 0),(.sl .nil 0 [])],none⟩]) (.seq (.reg [⟨some 3,.load 5 true (.t 1),none⟩,⟨some 4,.bsl 42 5 1 (.agg [(.int .i64 0),(.int .i64 0),(.int .i64 0),(.int .i64 0),(.sl .nil 0 [])]) [(0,.t 3)],none⟩,⟨some 5,.build [(.int .i64 0),(.int .i64 0),(.int .i64 0),(.int .i64 0),(.sl .nil 0 [])] [(0,1,(.k (.int .i64 8))),(4,1,.t 4)],none⟩,⟨none,.store 5 (.t 2) (.t 5),none⟩]) (.ret))⟩
theorem fok_impl_fmNot : FOk Tryz.prog 71 code_impl_fmNot := fok Tryz.func71 (by kernel_rfl)
def code_impl_fmAnd : F := ⟨9,[.cell 5 true 4],.seq (.reg [⟨some 2,.box (.t 0),none⟩,⟨some 3,.box (.t 1),none⟩,⟨some 4,.alloc [(.int .i64 0),(.int .i64 0),(.int .i64 0),(.int .i64 0),(.sl .nil 0 [])],none⟩]) (.seq (.reg [⟨some 5,.load 5 true (.t 2),none⟩,⟨some 6,.load 5 true (.t 3),none⟩,⟨some 7,.bsl 42 5 2 (.agg [(.int .i64 0),(.int .i64 0),(.int .i64 0),(.int .i64 0),(.sl .nil 0 [])]) [(0,.t 5),(1,.t 6)],none⟩,⟨some 8,.build [(.int .i64 0),(.int .i64 0),(.int .i64 0),(.int .i64 0),(.sl .nil 0 [])] [(0,1,(.k (.int .i64 9))),(4,1,.t 7)],none⟩,⟨none,.store 5 (.t 4) (.t 8),none⟩]) (.ret))⟩
theorem fok_impl_fmAnd : FOk Tryz.prog 65 code_impl_fmAnd := fok Tryz.func65 (by kernel_rfl)
inductive PS where
  | nil
  | any
  | row (b o l t : Nat)
def PS.av : PS → AV
  | .nil => .sl .nil 0 []
  | .any => .sl .any 0 []
  | .row b o l t => .slref b o l t
structure FV where
  kind : Int
  k : Int
  u : Int
  v : Int
  s : PS
def FV.av (x : FV) : AV := .agg [.int .i64 x.kind, .int .i64 x.k, .int .i64 x.u, .int .i64 x.v, x.s.av]
def boxF (n : Nat) : FV → List Blk
  | ⟨a, b, c, d, .nil⟩ => [.nrow, .cells [.int .i64 a, .int .i64 b, .int .i64 c, .int .i64 d, .slref n 0 0 0]]
  | ⟨a, b, c, d, s⟩ => [.cells [.int .i64 a, .int .i64 b, .int .i64 c, .int .i64 d, s.av]]
def r1 (kind u : Int) (x : FV) (H : List Blk) : AV := .agg [.int .i64 kind, .int .i64 0, .int .i64 u, .int .i64 0, .slref (H.length + ((boxF H.length x).length + 2)) 0 1 1]
def r2 (kind : Int) (x y : FV) (H : List Blk) : AV := .agg [.int .i64 kind, .int .i64 0, .int .i64 0, .int .i64 0, .slref (H.length + ((boxF H.length x).length + ((boxF 0 y).length + 2))) 0 2 2]
end Go.Vm
