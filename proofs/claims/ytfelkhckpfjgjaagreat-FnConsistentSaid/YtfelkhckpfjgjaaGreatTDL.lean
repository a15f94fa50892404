/- HeapOf of both. No condition. -/
import Derived.Test.YtfelkhckpfjgjaaGreatTGD
import Derived.Test.YtfelkhckpfjgjaaGreatTCS
import Derived.Test.YtfelkhckpfjgjaaGreatTCI
import Derived.Test.YtfelkhckpfjgjaaGreatTKC
import Derived.Test.YtfelkhckpfjgjaaGreatTSL
set_option linter.unusedSimpArgs false
set_option linter.unusedVariables false
namespace Go.Vm
open Go.Proofs
def code_spec_l14First : F := ⟨12,[.tmp 2],.seq (.reg [⟨some 2,.mov (.k (.int .i64 0)),none⟩]) (.seq (.reg [⟨some 4,.mov (.t 0),none⟩,⟨some 5,.call 61 [.t 4,(.k (.int .i64 2))],none⟩,⟨some 3,.mov (.t 5),none⟩]) (.seq (.seq (.reg [⟨some 6,.mov (.t 3),none⟩,⟨some 7,.len (.t 6),none⟩,⟨some 8,.bin .eql (.t 7) (.k (.int .i64 0)),none⟩]) (.cond (.t 8) (.seq (.reg [⟨some 2,.mov (.k (.int .i64 (-1))),none⟩]) (.ret)) (.skip))) (.seq (.reg [⟨some 9,.mov (.t 3),none⟩,⟨some 10,.iaddr 1 (.t 9) (.k (.int .i64 0)),none⟩,⟨some 11,.load 1 false (.t 10),none⟩,⟨some 2,.mov (.t 11),none⟩]) (.ret))))⟩
theorem fok_spec_l14First : FOk Tryz.prog 53 code_spec_l14First := fok Tryz.func53 (by kernel_rfl)
def code_spec_HeapOf : F := ⟨93,[.cell 2 true 4,.tmp 5],.seq (.reg [⟨some 3,.box (.t 1),none⟩,⟨some 4,.alloc [(.sl .nil 0 []),(.sl .nil 0 [])],none⟩,⟨some 5,.mov (.k (.bool false)),none⟩]) (.seq (.seq (.reg [⟨some 13,.mov (.t 0),none⟩,⟨some 14,.load 2 true (.t 3),none⟩,⟨some 15,.call 51 [.t 13,.t 14],none⟩,⟨some 16,.not (.t 15),none⟩,⟨some 17,.mov (.t 16),none⟩,⟨some 18,.load 2 true (.t 3),some (17,false)⟩,⟨some 19,.call 52 [.t 18],some (17,false)⟩,⟨some 20,.not (.t 19),some (17,false)⟩,⟨some 21,.pick (.t 17) (.k (.bool true)) (.t 20),none⟩]) (.cond (.t 21) (.seq (.reg [⟨some 22,.build [(.sl .nil 0 []),(.sl .nil 0 [])] [],none⟩,⟨none,.store 2 (.t 4) (.t 22),none⟩,⟨some 5,.mov (.k (.bool false)),none⟩]) (.ret)) (.skip))) (.seq (.reg [⟨some 23,.faddr 0 (.t 3),none⟩,⟨some 24,.load 1 false (.t 23),none⟩,⟨some 25,.len (.t 24),none⟩,⟨some 6,.mov (.t 25),none⟩]) (.seq (.reg [⟨some 26,.build [(.sl .nil 0 []),(.sl .nil 0 [])] [],none⟩,⟨some 7,.alloc [(.sl .nil 0 []),(.sl .nil 0 [])],none⟩,⟨none,.store 2 (.t 7) (.t 26),none⟩]) (.seq (.seq (.reg [⟨some 8,.mov (.k (.int .i64 0)),none⟩]) (.block 0 (.loop (.seq (.seq (.reg [⟨some 27,.mov (.t 8),none⟩,⟨some 28,.mov (.t 0),none⟩,⟨some 29,.bin .lss (.t 27) (.t 28),none⟩]) (.cond (.t 29) (.skip) (.exit 0))) (.seq (.block 1 (.seq (.reg [⟨some 32,.bsl 3 1 0 (.int .i64 0) [],none⟩,⟨some 9,.mov (.t 32),none⟩]) (.seq (.seq (.reg [⟨some 10,.mov (.k (.int .i64 0)),none⟩]) (.block 2 (.loop (.seq (.seq (.reg [⟨some 33,.mov (.t 10),none⟩,⟨some 34,.mov (.t 6),none⟩,⟨some 35,.bin .lss (.t 33) (.t 34),none⟩]) (.cond (.t 35) (.skip) (.exit 2))) (.seq (.block 3 (.reg [⟨some 38,.mov (.t 9),none⟩,⟨some 39,.faddr 0 (.t 3),none⟩,⟨some 40,.load 1 false (.t 39),none⟩,⟨some 41,.mov (.t 10),none⟩,⟨some 42,.iaddr 4 (.t 40) (.t 41),none⟩,⟨some 43,.faddr 0 (.t 42),none⟩,⟨some 44,.load 1 false (.t 43),none⟩,⟨some 45,.mov (.t 8),none⟩,⟨some 46,.iaddr 1 (.t 44) (.t 45),none⟩,⟨some 47,.load 1 false (.t 46),none⟩,⟨some 48,.bsl 3 1 1 (.int .i64 0) [(0,.t 47)],none⟩,⟨some 49,.append 3 1 8 (.t 38) (.t 48),none⟩,⟨some 9,.mov (.t 49),none⟩])) (.reg [⟨some 36,.mov (.t 10),none⟩,⟨some 37,.bin .add (.t 36) (.k (.int .i64 1)),none⟩,⟨some 10,.mov (.t 37),none⟩])))))) (.dreg [false,false,false,false,false,true,true,true] [false,false,false,true,false,false,false,false] [⟨some 50,.faddr 0 (.t 7),none⟩,⟨some 51,.load 1 false (.t 50),none⟩,⟨some 52,.mov (.t 9),none⟩,⟨some 53,.call 53 [.t 52],none⟩,⟨some 54,.bsl 3 1 1 (.int .i64 0) [(0,.t 53)],none⟩,⟨some 55,.append 3 1 8 (.t 51) (.t 54),none⟩,⟨some 56,.faddr 0 (.t 7),none⟩,⟨none,.store 1 (.t 56) (.t 55),none⟩])))) (.reg [⟨some 30,.mov (.t 8),none⟩,⟨some 31,.bin .add (.t 30) (.k (.int .i64 1)),none⟩,⟨some 8,.mov (.t 31),none⟩])))))) (.seq (.seq (.reg [⟨some 11,.mov (.k (.int .i64 0)),none⟩]) (.block 4 (.loop (.seq (.seq (.reg [⟨some 57,.mov (.t 11),none⟩,⟨some 58,.mov (.t 6),none⟩,⟨some 59,.bin .lss (.t 57) (.t 58),none⟩]) (.cond (.t 59) (.skip) (.exit 4))) (.seq (.block 5 (.dreg [false,false,false,false,false,false,false,false,false,false,false,false,false,false,true,true,true] [false,false,false,false,false,false,false,false,false,false,false,false,true,false,false,false,false] [⟨some 62,.faddr 1 (.t 7),none⟩,⟨some 63,.load 1 false (.t 62),none⟩,⟨some 64,.faddr 1 (.t 3),none⟩,⟨some 65,.load 1 false (.t 64),none⟩,⟨some 66,.mov (.t 11),none⟩,⟨some 67,.mov (.t 6),none⟩,⟨some 68,.bin .mul (.t 66) (.t 67),none⟩,⟨some 69,.mov (.t 11),none⟩,⟨some 70,.bin .add (.t 69) (.k (.int .i64 1)),none⟩,⟨some 71,.mov (.t 6),none⟩,⟨some 72,.bin .mul (.t 70) (.t 71),none⟩,⟨some 73,.slice 1 (.t 65) (some (.t 68)) (some (.t 72)),none⟩,⟨some 74,.call 53 [.t 73],none⟩,⟨some 75,.bsl 3 1 1 (.int .i64 0) [(0,.t 74)],none⟩,⟨some 76,.append 3 1 8 (.t 63) (.t 75),none⟩,⟨some 77,.faddr 1 (.t 7),none⟩,⟨none,.store 1 (.t 77) (.t 76),none⟩])) (.reg [⟨some 60,.mov (.t 11),none⟩,⟨some 61,.bin .add (.t 60) (.k (.int .i64 1)),none⟩,⟨some 11,.mov (.t 61),none⟩])))))) (.seq (.reg [⟨some 78,.load 2 true (.t 7),none⟩,⟨some 79,.call 54 [.t 78],none⟩,⟨some 12,.alloc [(.sl .nil 0 []),(.sl .nil 0 [])],none⟩,⟨none,.store 2 (.t 12) (.t 79),none⟩]) (.seq (.seq (.reg [⟨some 80,.mov (.t 0),none⟩,⟨some 81,.load 2 true (.t 12),none⟩,⟨some 82,.call 20 [.t 80,.t 81],none⟩,⟨some 83,.not (.t 82),none⟩,⟨some 84,.mov (.t 83),none⟩,⟨some 85,.faddr 1 (.t 12),some (84,false)⟩,⟨some 86,.load 1 false (.t 85),some (84,false)⟩,⟨some 87,.len (.t 86),some (84,false)⟩,⟨some 88,.mov (.t 6),some (84,false)⟩,⟨some 89,.bin .neq (.t 87) (.t 88),some (84,false)⟩,⟨some 90,.pick (.t 84) (.k (.bool true)) (.t 89),none⟩]) (.cond (.t 90) (.seq (.reg [⟨some 91,.build [(.sl .nil 0 []),(.sl .nil 0 [])] [],none⟩,⟨none,.store 2 (.t 4) (.t 91),none⟩,⟨some 5,.mov (.k (.bool false)),none⟩]) (.ret)) (.skip))) (.seq (.reg [⟨some 92,.load 2 true (.t 12),none⟩,⟨none,.store 2 (.t 4) (.t 92),none⟩,⟨some 5,.mov (.k (.bool true)),none⟩]) (.ret)))))))))⟩
theorem fok_spec_HeapOf : FOk Tryz.prog 10 code_spec_HeapOf := fok Tryz.func10 (by kernel_rfl)
def firstT (l : List Int) : Int := findI (fun a => (2 : Int) == a) l
def colT (ns : List Node) (k : Nat) : List Int := ns.map fun x => x.vars.getD k 0
def hvarsT (ns : List Node) (v : Nat) : List Int := (List.range v).map fun k => firstT (colT ns k)
def cutT (nx : List Int) (n i : Nat) : List Int := (nx.take ((i + 1) * n)).drop (i * n)
def hnextT (nx : List Int) (n m : Nat) : List Int := (List.range m).map fun i => firstT (cutT nx n i)
theorem hvarsT_succ (ns : List Node) (v : Nat) : hvarsT ns (v + 1) = hvarsT ns v ++ [firstT (colT ns v)] := by simp [hvarsT, List.range_succ]
theorem hnextT_succ (nx : List Int) (n m : Nat) : hnextT nx n (m + 1) = hnextT nx n m ++ [firstT (cutT nx n m)] := by simp [hnextT, List.range_succ]
def heapOfC (v : Int) (s : Strc) : Heap := canonH ⟨hvarsT s.nodes v.toNat, hnextT s.next s.nodes.length s.nodes.length⟩
def heapOfB (v : Int) (s : Strc) : Bool := (structB v s && isDef s) && (isHeapB v (heapOfC v s) && decide (((heapOfC v s).next.length : Int) = s.nodes.length))
def heapOfT (v : Int) (s : Strc) : Heap := if heapOfB v s = true then heapOfC v s else ⟨[], []⟩
@[simp] def ct_l14First : Ct := ⟨53, List Int, fun x => x.length ≤ 1048576, fun x => [encL 1 encInt x], fun x => .int .i64 (firstT x)⟩
theorem ok_l14First : ct_l14First.Ok Tryz.prog := by
  rintro xs hx
  change List Int at xs
  change xs.length ≤ 1048576 at hx
  refine Ok.of_cw fok_spec_l14First (go_ok (tab_cons ok_sPositions tab_nil) ?_)
  rcases pos_head (xs := xs) (v := 2) with ⟨h1, h2⟩ | ⟨j, l, h1, h2⟩
  · simp [code_spec_l14First, List.replicate, firstT, hx, h1, h2]
  · have h3 : ¬ ((l.length : Int) + 1 = 0) := by omega
    simp [code_spec_l14First, List.replicate, firstT, hx, h1, h2, h3]
theorem struct_len {v : Int} {s : Strc} (h : structB v s = true) : (1 ≤ v ∧ v ≤ 4) ∧ s.nodes.length ≤ 10 ∧ s.next.length = s.nodes.length * s.nodes.length ∧ ∀ x ∈ s.nodes, (x.vars.length : Int) = v := by
  unfold structB at h
  simp only [Bool.and_eq_true, decide_eq_true_eq, Bool.not_eq_true'] at h
  obtain ⟨⟨⟨⟨⟨h1, h2⟩, h3⟩, h4⟩, _⟩, h5⟩ := h
  refine ⟨⟨h1, h2⟩, by omega, by exact_mod_cast h4, fun x hx => ?_⟩
  rw [List.any_eq_false] at h5
  have := h5 x hx
  simp only [badN, Bool.not_eq_true, Bool.not_eq_false', Bool.and_eq_true, decide_eq_true_eq] at this
  exact this.1.1.1.1
end Go.Vm
namespace Go.Vm
open Go.Proofs
theorem OkH.any {P : Program} {f sz : Nat} {H H' : List Blk} {r : AV} (h1 : OkH P f [.sl .nil sz []] H r H') (h2 : OkH P f [.sl .non sz []] H r H') : OkH P f [.sl .any sz []] H r H' := by
  intro B w μ vs R hv
  have key : ∀ v, RepV B w H μ (.sl .any sz []) v → RepV B w H μ (.sl .nil sz []) v ∨ RepV B w H μ (.sl .non sz []) v := by
    rintro v ⟨r0, r⟩
    simp only [RepR0] at r
    cases r with
    | nilSl _ => exact .inl ⟨r0, .nilSl (by simp)⟩
    | slE _ hm => exact .inr ⟨r0, .slE (by simp) hm⟩
    | sl _ hn hc hm h => exact .inr ⟨r0, .sl (by simp) hn hc hm h⟩
  generalize hvs : vs.toList = l at *
  cases hv with
  | cons h t =>
    cases t
    rcases key _ h with h | h
    · exact h1 B w μ vs R (by rw [hvs]; exact .cons h .nil)
    · exact h2 B w μ vs R (by rw [hvs]; exact .cons h .nil)
end Go.Vm
