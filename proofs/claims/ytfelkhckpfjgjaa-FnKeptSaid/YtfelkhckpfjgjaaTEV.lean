/- spec.JoinOf, l17Next, l12CopyNode. No condition. -/
import Derived.Test.YtfelkhckpfjgjaaTMS
import Derived.Test.YtfelkhckpfjgjaaTNX
import Derived.Test.YtfelkhckpfjgjaaTTR
set_option linter.unusedSimpArgs false
set_option linter.unusedVariables false
namespace Go.Vm
open Go.Proofs
def code_spec_JoinOf : F := ⟨14,[.tmp 4],.seq (.reg [⟨some 4,.mov (.k (.int .i64 0)),none⟩]) (.seq (.seq (.reg [⟨some 5,.mov (.t 0),none⟩,⟨some 6,.mov (.t 1),none⟩,⟨some 7,.bin .neq (.t 5) (.t 6),none⟩,⟨some 8,.mov (.t 7),none⟩,⟨some 9,.mov (.t 0),some (8,false)⟩,⟨some 10,.call 53 [.t 9],some (8,false)⟩,⟨some 11,.not (.t 10),some (8,false)⟩,⟨some 12,.pick (.t 8) (.k (.bool true)) (.t 11),none⟩]) (.cond (.t 12) (.seq (.reg [⟨some 4,.mov (.k (.int .i64 1)),none⟩]) (.ret)) (.skip))) (.seq (.reg [⟨some 13,.mov (.t 0),none⟩,⟨some 4,.mov (.t 13),none⟩]) (.ret)))⟩
theorem fok_spec_JoinOf : FOk Try.prog 106 code_spec_JoinOf := fok Try.func106 (by kernel_rfl)
def joinT (a b : Int) : Int := if a = b ∧ isTruth a = true then a else 1
@[simp] def ct_JoinOf : Ct := ⟨106, Int × Int, fun _ => True, fun x => [.int .i64 x.1, .int .i64 x.2], fun x => .int .i64 (joinT x.1 x.2)⟩
theorem ok_JoinOf : ct_JoinOf.Ok Try.prog := by
  rintro ⟨a, b⟩ -
  change Int at a b
  refine Ok.of_cw fok_spec_JoinOf (go_ok (tab_cons ok_sIsTruth tab_nil) ?_)
  by_cases h : a = b
  · subst h
    cases ht : isTruth a
    · simp [code_spec_JoinOf, List.replicate, joinT, ht]
    · simp [code_spec_JoinOf, List.replicate, joinT, ht]
  · simp [code_spec_JoinOf, List.replicate, joinT, h]
def code_spec_l17Next : F := ⟨43,[.tmp 6],.seq (.reg [⟨some 3,.box (.t 0),none⟩,⟨some 6,.mov (.k (.int .i64 0)),none⟩]) (.seq (.dreg [false,false,false,false,false,false,false,true,true] [false,false,false,false,false,false,false,true,false] [⟨some 10,.load 2 true (.t 3),none⟩,⟨some 11,.mov (.t 1),none⟩,⟨some 12,.iaddr 1 (.t 11) (.k (.int .i64 0)),none⟩,⟨some 13,.load 1 false (.t 12),none⟩,⟨some 14,.mov (.t 2),none⟩,⟨some 15,.iaddr 1 (.t 14) (.k (.int .i64 0)),none⟩,⟨some 16,.load 1 false (.t 15),none⟩,⟨some 17,.call 99 [.t 10,.t 13,.t 16],none⟩,⟨some 7,.mov (.t 17),none⟩]) (.seq (.seq (.reg [⟨some 8,.mov (.k (.int .i64 0)),none⟩]) (.block 0 (.loop (.seq (.seq (.reg [⟨some 18,.mov (.t 8),none⟩,⟨some 19,.mov (.t 1),none⟩,⟨some 20,.len (.t 19),none⟩,⟨some 21,.bin .lss (.t 18) (.t 20),none⟩]) (.cond (.t 21) (.skip) (.exit 0))) (.seq (.block 1 (.seq (.reg [⟨some 9,.mov (.k (.int .i64 0)),none⟩]) (.block 2 (.loop (.seq (.seq (.reg [⟨some 24,.mov (.t 9),none⟩,⟨some 25,.mov (.t 2),none⟩,⟨some 26,.len (.t 25),none⟩,⟨some 27,.bin .lss (.t 24) (.t 26),none⟩]) (.cond (.t 27) (.skip) (.exit 2))) (.seq (.block 3 (.dreg [false,false,false,false,false,false,false,false,false,false,false,true,true] [false,false,false,false,false,false,false,false,false,false,true,true,false] [⟨some 30,.mov (.t 7),none⟩,⟨some 31,.load 2 true (.t 3),none⟩,⟨some 32,.mov (.t 1),none⟩,⟨some 33,.mov (.t 8),none⟩,⟨some 34,.iaddr 1 (.t 32) (.t 33),none⟩,⟨some 35,.load 1 false (.t 34),none⟩,⟨some 36,.mov (.t 2),none⟩,⟨some 37,.mov (.t 9),none⟩,⟨some 38,.iaddr 1 (.t 36) (.t 37),none⟩,⟨some 39,.load 1 false (.t 38),none⟩,⟨some 40,.call 99 [.t 31,.t 35,.t 39],none⟩,⟨some 41,.call 106 [.t 30,.t 40],none⟩,⟨some 7,.mov (.t 41),none⟩])) (.reg [⟨some 28,.mov (.t 9),none⟩,⟨some 29,.bin .add (.t 28) (.k (.int .i64 1)),none⟩,⟨some 9,.mov (.t 29),none⟩]))))))) (.reg [⟨some 22,.mov (.t 8),none⟩,⟨some 23,.bin .add (.t 22) (.k (.int .i64 1)),none⟩,⟨some 8,.mov (.t 23),none⟩])))))) (.seq (.reg [⟨some 42,.mov (.t 7),none⟩,⟨some 6,.mov (.t 42),none⟩]) (.ret))))⟩
theorem fok_spec_l17Next : FOk Try.prog 58 code_spec_l17Next := fok Try.func58 (by kernel_rfl)
def joinN (s : Strc) (x : Int) (o : Int) (b : List Int) : Int := b.foldl (fun o y => joinT o (nextOf s x y)) o
def nextG (s : Strc) (a b : List Int) : Int := a.foldl (fun o x => joinN s x o b) (nextOf s (a.getD 0 0) (b.getD 0 0))
structure Nx2 where
  s : Strc
  a : List Int
  b : List Int
@[simp] def ct_l17Next : Ct := ⟨58, Nx2, fun x => szStrc x.s ≤ 1048576 ∧ (0 < x.a.length ∧ x.a.length ≤ 1048576) ∧ (0 < x.b.length ∧ x.b.length ≤ 1048576), fun x => [encStrc x.s, encL 1 encInt x.a, encL 1 encInt x.b], fun x => .int .i64 (nextG x.s x.a x.b)⟩
set_option maxHeartbeats 4000000 in
set_option maxRecDepth 100000 in
theorem ok_l17Next : ct_l17Next.Ok Try.prog := by
  rintro ⟨⟨ns, nx⟩, a, b⟩ ⟨hx, ⟨ha, ha2⟩, ⟨hb, hb2⟩⟩
  have hx : szStrc ⟨ns, nx⟩ ≤ 1048576 := hx
  change 0 < a.length at ha
  change a.length ≤ 1048576 at ha2
  change 0 < b.length at hb
  change b.length ≤ 1048576 at hb2
  have hT : TabOk Try.prog _ := tab_cons ok_sNextOf (tab_cons ok_JoinOf tab_nil)
  have ea : a.getD 0 0 = a[0] := by simp [List.getD_eq_getElem?_getD, ha]
  have eb : b.getD 0 0 = b[0] := by simp [List.getD_eq_getElem?_getD, hb]
  have hN : nextG ⟨ns, nx⟩ a b = a.foldl (fun o x => joinN ⟨ns, nx⟩ x o b) (nextOf ⟨ns, nx⟩ a[0] b[0]) := by unfold nextG; rw [ea, eb]
  simp only [ct_l17Next, hN]
  clear hN
  refine Ok.of_cw fok_spec_l17Next ?_
  simp only [code_spec_l17Next, frame, List.length_cons, List.length_nil, List.replicate, Nat.reduceSub, Nat.reduceAdd, List.cons_append, List.nil_append]
  refine cw_seq (go_ok hT ?_); simp
  refine cw_seq (go_ok hT ?_); simp [List.replicate, ha, hb, hx]
  generalize nextOf ⟨ns, nx⟩ a[0] b[0] = v0 at *
  refine cw_seq (go_ok hT ?_); simp [List.replicate]
  refine cw_round (fun (i : Nat) => ⟨slots 43 [(1, encL 1 encInt a), (2, encL 1 encInt b), (3, .pbox 0 0), (7, .int .i64 ((a.take i).foldl (fun o x => joinN ⟨ns, nx⟩ x o b) v0)), (8, .int .i64 i)], [.cells [encL 4 encNode ns, encL 1 encInt nx]]⟩)
    (fun i => i ≤ a.length) (fun i => a.length - i) 0 (by simp) ?_ ?_
  · exact weak_less (by simp) (by simp [List.replicate])
  rintro N hN i hi
  change i ≤ a.length at hi
  have hw : IntKind.i64.wrap ((i : Int) + 1) = ((i + 1 : Nat) : Int) := by rw [wrap_i64] <;> omega
  by_cases g : i < a.length
  case neg =>
    have e : i = a.length := by omega
    subst e
    refine go_ok tab_nil ?_
    simp [List.replicate]
    refine go_ok tab_nil ?_
    simp [List.replicate]
  have g2 : ¬ a.length ≤ i := by omega
  have hs : (a.take (i + 1)).foldl (fun o x => joinN ⟨ns, nx⟩ x o b) v0 = joinN ⟨ns, nx⟩ a[i] ((a.take i).foldl (fun o x => joinN ⟨ns, nx⟩ x o b) v0) b := foldl_take _ _ g
  have hN' := fun st h => hN i (i + 1) st (by show i + 1 ≤ a.length; omega) (by omega) h
  rw [hs] at hN'
  clear hN hs
  generalize (a.take i).foldl (fun o x => joinN ⟨ns, nx⟩ x o b) v0 = v at *
  refine go_ok hT ?_
  simp [List.replicate, g, g2]
  refine cw_round (fun (j : Nat) => ⟨slots 43 [(1, encL 1 encInt a), (2, encL 1 encInt b), (3, .pbox 0 0), (7, .int .i64 ((b.take j).foldl (fun o y => joinT o (nextOf ⟨ns, nx⟩ a[i] y)) v)), (8, .int .i64 i), (9, .int .i64 j)], [.cells [encL 4 encNode ns, encL 1 encInt nx]]⟩)
    (fun j => j ≤ b.length) (fun j => b.length - j) 0 (by simp) ?_ ?_
  · exact weak_less (by simp) (by simp [List.replicate])
  rintro M hM j hj
  change j ≤ b.length at hj
  have hwj : IntKind.i64.wrap ((j : Int) + 1) = ((j + 1 : Nat) : Int) := by rw [wrap_i64] <;> omega
  by_cases gj : j < b.length
  · have gj2 : ¬ b.length ≤ j := by omega
    have hs : (b.take (j + 1)).foldl (fun o y => joinT o (nextOf ⟨ns, nx⟩ a[i] y)) v = joinT ((b.take j).foldl (fun o y => joinT o (nextOf ⟨ns, nx⟩ a[i] y)) v) (nextOf ⟨ns, nx⟩ a[i] b[j]) := foldl_take _ _ gj
    have hM' := fun st h => hM j (j + 1) st (by show j + 1 ≤ b.length; omega) (by omega) h
    rw [hs] at hM'
    clear hM hs
    generalize (b.take j).foldl (fun o y => joinT o (nextOf ⟨ns, nx⟩ a[i] y)) v = u at *
    refine go_ok hT ?_
    simp [List.replicate, gj, gj2, g, hx, hwj]
    exact hM' _ (weak_less (by simp) (by simp [List.replicate]))
  · have e : j = b.length := by omega
    subst e
    refine go_ok tab_nil ?_
    simp [List.replicate, hw]
    exact hN' _ (weak_less (by simp) (by simp [List.replicate, joinN]))
def code_spec_l12CopyNode : F := ⟨16,[.cell 4 true 2],.seq (.reg [⟨some 1,.box (.t 0),none⟩,⟨some 2,.alloc [(.sl .nil 0 []),(.sl .nil 0 []),(.int .i64 0),(.int .i64 0)],none⟩]) (.seq (.dreg [false,false,false,false,false,false,false,false,false,false,false,false,true,true] [false,false,false,false,false,false,false,false,false,false,false,false,false,false] [⟨some 3,.bsl 3 1 0 (.int .i64 0) [],none⟩,⟨some 4,.faddr 0 (.t 1),none⟩,⟨some 5,.load 1 false (.t 4),none⟩,⟨some 6,.append 3 1 8 (.t 3) (.t 5),none⟩,⟨some 7,.bsl 3 1 0 (.int .i64 0) [],none⟩,⟨some 8,.faddr 1 (.t 1),none⟩,⟨some 9,.load 1 false (.t 8),none⟩,⟨some 10,.append 3 1 8 (.t 7) (.t 9),none⟩,⟨some 11,.faddr 2 (.t 1),none⟩,⟨some 12,.load 1 false (.t 11),none⟩,⟨some 13,.faddr 3 (.t 1),none⟩,⟨some 14,.load 1 false (.t 13),none⟩,⟨some 15,.build [(.sl .nil 0 []),(.sl .nil 0 []),(.int .i64 0),(.int .i64 0)] [(0,1,.t 6),(1,1,.t 10),(2,1,.t 12),(3,1,.t 14)],none⟩,⟨none,.store 4 (.t 2) (.t 15),none⟩]) (.ret))⟩
theorem fok_spec_l12CopyNode : FOk Try.prog 104 code_spec_l12CopyNode := fok Try.func104 (by kernel_rfl)
def cpR (x : Node) : AV := .agg [.slref 4 0 x.vars.length x.vars.length, .slref 5 0 x.reach.length x.reach.length, .int .i64 x.shared, .int .i64 x.many]
def cpN (x : Node) : List Blk := [.dead, .dead, .dead, .cells [.slref 4 0 x.vars.length x.vars.length, .slref 5 0 x.reach.length x.reach.length, .int .i64 x.shared, .int .i64 x.many], .row true 3 1 (x.vars.map encInt), .row true 3 1 (x.reach.map encInt)]
@[simp] def ct_CopyNode : CtN := ⟨104, Node, fun x => szNode x ≤ 1048576, fun x => [encNode x], cpR, cpN⟩
set_option maxHeartbeats 2000000 in
theorem ok_CopyNodeH (x : Node) (hx : szNode x ≤ 1048576) : OkH Try.prog 104 [encNode x] [] (cpR x) (cpN x) := by
  obtain ⟨vs, rs, s, m⟩ := x
  change vs.length + rs.length ≤ 1048576 at hx
  have h1 : vs.length * 8 ≤ 140737488355328 := by omega
  have h2 : rs.length * 8 ≤ 140737488355328 := by omega
  refine OkH.of_cw fok_spec_l12CopyNode ?_
  simp only [code_spec_l12CopyNode, frame, List.length_cons, List.length_nil, List.replicate, Nat.reduceSub, Nat.reduceAdd, List.cons_append, List.nil_append]
  refine cw_seq (go_ok tab_nil ?_); simp [List.replicate]
  refine cw_weak (weak_void.trans weak_void) ?_
  refine cw_seq (cw_dreg8K tab_nil [.cells [encL 1 encInt vs, encL 1 encInt rs, .int .i64 s, .int .i64 m], .nrow, .nrow, .cells [.slref 1 0 0 0, .slref 2 0 0 0, .int .i64 0, .int .i64 0]] [.void, .void]
    [some 0, none, none, some 0, some 1, none, none, some 1, none, none, none, none] [[true, false], [], [], [true, false], [false, true], [], [], [false, true], [], [], [], []] (by rfl) ?_)
  simp [List.replicate, -appRow, appRow_all, h1, h2]
  refine go_ok tab_nil ?_
  simp
  refine ⟨⟨slots 16 [(2, .pbox 3 0)], _⟩, weak_less (H' := cpN ⟨vs, rs, s, m⟩) (by simp [cpN]) (by simp [List.replicate]), ?_⟩
  simp [retH, List.replicate, cpR, cpN]
theorem ok_CopyNode : ct_CopyNode.Ok Try.prog where
  ok := ok_CopyNodeH
  res := fun x _ => rfl
  new := fun x _ => by simp [cpN, ownB, ownVL, ownV]
end Go.Vm
namespace Go.Vm
open Go.Proofs
def code_spec_NotOf : F := ⟨8,[.tmp 2],.seq (.reg [⟨some 2,.mov (.k (.int .i64 0)),none⟩]) (.seq (.seq (.reg [⟨some 3,.mov (.t 0),none⟩,⟨some 4,.call 53 [.t 3],none⟩,⟨some 5,.not (.t 4),none⟩]) (.cond (.t 5) (.seq (.reg [⟨some 2,.mov (.k (.int .i64 1)),none⟩]) (.ret)) (.skip))) (.seq (.reg [⟨some 6,.mov (.t 0),none⟩,⟨some 7,.bin .sub (.k (.int .i64 2)) (.t 6),none⟩,⟨some 2,.mov (.t 7),none⟩]) (.ret)))⟩
theorem fok_spec_NotOf : FOk Try.prog 79 code_spec_NotOf := fok Try.func79 (by kernel_rfl)
def code_spec_AndOf : F := ⟨16,[.tmp 4],.seq (.reg [⟨some 4,.mov (.k (.int .i64 0)),none⟩]) (.seq (.seq (.reg [⟨some 5,.mov (.t 0),none⟩,⟨some 6,.call 53 [.t 5],none⟩,⟨some 7,.not (.t 6),none⟩,⟨some 8,.mov (.t 7),none⟩,⟨some 9,.mov (.t 1),some (8,false)⟩,⟨some 10,.call 53 [.t 9],some (8,false)⟩,⟨some 11,.not (.t 10),some (8,false)⟩,⟨some 12,.pick (.t 8) (.k (.bool true)) (.t 11),none⟩]) (.cond (.t 12) (.seq (.reg [⟨some 4,.mov (.k (.int .i64 1)),none⟩]) (.ret)) (.skip))) (.seq (.reg [⟨some 13,.mov (.t 0),none⟩,⟨some 14,.mov (.t 1),none⟩,⟨some 15,.call 113 [.t 13,.t 14],none⟩,⟨some 4,.mov (.t 15),none⟩]) (.ret)))⟩
theorem fok_spec_AndOf : FOk Try.prog 80 code_spec_AndOf := fok Try.func80 (by kernel_rfl)
def code_spec_OrOf : F := ⟨16,[.tmp 4],.seq (.reg [⟨some 4,.mov (.k (.int .i64 0)),none⟩]) (.seq (.seq (.reg [⟨some 5,.mov (.t 0),none⟩,⟨some 6,.call 53 [.t 5],none⟩,⟨some 7,.not (.t 6),none⟩,⟨some 8,.mov (.t 7),none⟩,⟨some 9,.mov (.t 1),some (8,false)⟩,⟨some 10,.call 53 [.t 9],some (8,false)⟩,⟨some 11,.not (.t 10),some (8,false)⟩,⟨some 12,.pick (.t 8) (.k (.bool true)) (.t 11),none⟩]) (.cond (.t 12) (.seq (.reg [⟨some 4,.mov (.k (.int .i64 1)),none⟩]) (.ret)) (.skip))) (.seq (.reg [⟨some 13,.mov (.t 0),none⟩,⟨some 14,.mov (.t 1),none⟩,⟨some 15,.call 63 [.t 13,.t 14],none⟩,⟨some 4,.mov (.t 15),none⟩]) (.ret)))⟩
theorem fok_spec_OrOf : FOk Try.prog 81 code_spec_OrOf := fok Try.func81 (by kernel_rfl)
def code_spec_ArityOf : F := ⟨24,[.tmp 2],.seq (.reg [⟨some 2,.mov (.k (.int .i64 0)),none⟩]) (.seq (.block 0 (.seq (.reg [⟨some 4,.mov (.t 0),none⟩,⟨some 5,.call 48 [.t 4,(.k (.int .i64 1)),(.k (.int .i64 7))],none⟩,⟨some 3,.mov (.t 5),none⟩]) (.cond (.t 3) (.seq (.reg [⟨some 2,.mov (.k (.int .i64 0)),none⟩]) (.ret)) (.seq (.reg [⟨some 7,.mov (.t 0),none⟩,⟨some 8,.bin .eql (.t 7) (.k (.int .i64 8)),none⟩,⟨some 9,.mov (.t 8),none⟩,⟨some 10,.mov (.t 0),some (9,false)⟩,⟨some 11,.bin .eql (.t 10) (.k (.int .i64 11)),some (9,false)⟩,⟨some 12,.pick (.t 9) (.k (.bool true)) (.t 11),none⟩,⟨some 13,.mov (.t 12),none⟩,⟨some 14,.mov (.t 0),some (13,false)⟩,⟨some 15,.bin .eql (.t 14) (.k (.int .i64 12)),some (13,false)⟩,⟨some 16,.pick (.t 13) (.k (.bool true)) (.t 15),none⟩,⟨some 6,.mov (.t 16),none⟩]) (.cond (.t 6) (.seq (.reg [⟨some 2,.mov (.k (.int .i64 1)),none⟩]) (.ret)) (.seq (.reg [⟨some 18,.mov (.t 0),none⟩,⟨some 19,.bin .eql (.t 18) (.k (.int .i64 9)),none⟩,⟨some 20,.mov (.t 19),none⟩,⟨some 21,.mov (.t 0),some (20,false)⟩,⟨some 22,.bin .eql (.t 21) (.k (.int .i64 10)),some (20,false)⟩,⟨some 23,.pick (.t 20) (.k (.bool true)) (.t 22),none⟩,⟨some 17,.mov (.t 23),none⟩]) (.cond (.t 17) (.seq (.reg [⟨some 2,.mov (.k (.int .i64 2)),none⟩]) (.ret)) (.skip)))))))) (.seq (.reg [⟨some 2,.mov (.k (.int .i64 (-1))),none⟩]) (.ret)))⟩
theorem fok_spec_ArityOf : FOk Try.prog 73 code_spec_ArityOf := fok Try.func73 (by kernel_rfl)
def code_spec_l1Min : F := ⟨10,[.tmp 4],.seq (.reg [⟨some 4,.mov (.k (.int .i64 0)),none⟩]) (.seq (.seq (.reg [⟨some 5,.mov (.t 0),none⟩,⟨some 6,.mov (.t 1),none⟩,⟨some 7,.bin .lss (.t 5) (.t 6),none⟩]) (.cond (.t 7) (.seq (.reg [⟨some 8,.mov (.t 0),none⟩,⟨some 4,.mov (.t 8),none⟩]) (.ret)) (.skip))) (.seq (.reg [⟨some 9,.mov (.t 1),none⟩,⟨some 4,.mov (.t 9),none⟩]) (.ret)))⟩
theorem fok_spec_l1Min : FOk Try.prog 113 code_spec_l1Min := fok Try.func113 (by kernel_rfl)
def code_spec_l1Max : F := ⟨10,[.tmp 4],.seq (.reg [⟨some 4,.mov (.k (.int .i64 0)),none⟩]) (.seq (.seq (.reg [⟨some 5,.mov (.t 0),none⟩,⟨some 6,.mov (.t 1),none⟩,⟨some 7,.bin .gtr (.t 5) (.t 6),none⟩]) (.cond (.t 7) (.seq (.reg [⟨some 8,.mov (.t 0),none⟩,⟨some 4,.mov (.t 8),none⟩]) (.ret)) (.skip))) (.seq (.reg [⟨some 9,.mov (.t 1),none⟩,⟨some 4,.mov (.t 9),none⟩]) (.ret)))⟩
theorem fok_spec_l1Max : FOk Try.prog 63 code_spec_l1Max := fok Try.func63 (by kernel_rfl)
def code_spec_l13Truth : F := ⟨7,[.tmp 2],.seq (.reg [⟨some 2,.mov (.k (.int .i64 0)),none⟩]) (.seq (.seq (.reg [⟨some 3,.mov (.t 0),none⟩,⟨some 4,.call 53 [.t 3],none⟩,⟨some 5,.not (.t 4),none⟩]) (.cond (.t 5) (.seq (.reg [⟨some 2,.mov (.k (.int .i64 1)),none⟩]) (.ret)) (.skip))) (.seq (.reg [⟨some 6,.mov (.t 0),none⟩,⟨some 2,.mov (.t 6),none⟩]) (.ret)))⟩
theorem fok_spec_l13Truth : FOk Try.prog 74 code_spec_l13Truth := fok Try.func74 (by kernel_rfl)
def code_spec_l13Node : F := ⟨33,[.tmp 6],.seq (.reg [⟨some 3,.box (.t 0),none⟩,⟨some 6,.mov (.k (.int .i64 0)),none⟩]) (.seq (.seq (.dreg [false,false,false,false,true,true,true,true,true,true,true,false,false,false,false,false,false,false,false,true,true,true] [false,false,false,false,true,false,false,false,false,false,false,false,false,false,false,false,false,false,false,true,false,false] [⟨some 7,.mov (.t 2),none⟩,⟨some 8,.mov (.t 1),none⟩,⟨some 9,.len (.t 8),none⟩,⟨some 10,.bin .sub (.t 9) (.k (.int .i64 1)),none⟩,⟨some 11,.call 48 [.t 7,(.k (.int .i64 0)),.t 10],none⟩,⟨some 12,.not (.t 11),none⟩,⟨some 13,.mov (.t 12),none⟩,⟨some 14,.mov (.t 2),some (13,false)⟩,⟨some 15,.bin .geq (.t 14) (.k (.int .i64 4)),some (13,false)⟩,⟨some 16,.pick (.t 13) (.k (.bool true)) (.t 15),none⟩,⟨some 17,.mov (.t 16),none⟩,⟨some 18,.mov (.t 1),some (17,false)⟩,⟨some 19,.mov (.t 2),some (17,false)⟩,⟨some 20,.iaddr 1 (.t 18) (.t 19),some (17,false)⟩,⟨some 21,.load 1 false (.t 20),some (17,false)⟩,⟨some 22,.faddr 0 (.t 3),some (17,false)⟩,⟨some 23,.load 1 false (.t 22),some (17,false)⟩,⟨some 24,.len (.t 23),some (17,false)⟩,⟨some 25,.bin .sub (.t 24) (.k (.int .i64 1)),some (17,false)⟩,⟨some 26,.call 48 [.t 21,(.k (.int .i64 0)),.t 25],some (17,false)⟩,⟨some 27,.not (.t 26),some (17,false)⟩,⟨some 28,.pick (.t 17) (.k (.bool true)) (.t 27),none⟩]) (.cond (.t 28) (.seq (.reg [⟨some 6,.mov (.k (.int .i64 (-1))),none⟩]) (.ret)) (.skip))) (.seq (.reg [⟨some 29,.mov (.t 1),none⟩,⟨some 30,.mov (.t 2),none⟩,⟨some 31,.iaddr 1 (.t 29) (.t 30),none⟩,⟨some 32,.load 1 false (.t 31),none⟩,⟨some 6,.mov (.t 32),none⟩]) (.ret)))⟩
theorem fok_spec_l13Node : FOk Try.prog 76 code_spec_l13Node := fok Try.func76 (by kernel_rfl)
def notT3 (a : Int) : Int := if isTruth a then 2 - a else 1
def andT (a b : Int) : Int := if isTruth a && isTruth b then (if a ≤ b then a else b) else 1
def orT (a b : Int) : Int := if isTruth a && isTruth b then (if a ≤ b then b else a) else 1
def knownT (a : Int) : Int := if isTruth a then a else 1
def arity (k : Int) : Int := if 1 ≤ k ∧ k ≤ 7 then 0 else if k = 8 ∨ k = 11 ∨ k = 12 then 1 else if k = 9 ∨ k = 10 then 2 else -1
theorem isTruth_iff (a : Int) : (isTruth a = true) = (0 ≤ a ∧ a ≤ 2) := by simp [isTruth]
theorem notT3_truth (a : Int) : isTruth (notT3 a) = true := by unfold notT3; simp only [isTruth_iff]; split <;> omega
theorem andT_truth (a b : Int) : isTruth (andT a b) = true := by unfold andT; simp only [Bool.and_eq_true, isTruth_iff]; (repeat' split) <;> omega
theorem orT_truth (a b : Int) : isTruth (orT a b) = true := by unfold orT; simp only [Bool.and_eq_true, isTruth_iff]; (repeat' split) <;> omega
theorem knownT_truth (a : Int) : isTruth (knownT a) = true := by unfold knownT; simp only [isTruth_iff]; (repeat' split) <;> omega
@[simp] def ct_sNotOf : Ct := ⟨79, Int, fun _ => True, fun x => [.int .i64 x], fun x => .int .i64 (notT3 x)⟩
theorem ok_sNotOf : ct_sNotOf.Ok Try.prog := by
  rintro a -
  change Int at a
  refine Ok.of_cw fok_spec_NotOf (go_ok (tab_cons ok_sIsTruth tab_nil) ?_)
  cases h : isTruth a
  · simp [code_spec_NotOf, List.replicate, notT3, h]
  · have h2 := h
    rw [isTruth_iff] at h2
    have hw : IntKind.i64.wrap (2 - a) = 2 - a := by rw [wrap_i64] <;> omega
    simp [code_spec_NotOf, List.replicate, notT3, h, hw]
@[simp] def ct_l1Min : Ct := ⟨113, Int × Int, fun _ => True, fun x => [.int .i64 x.1, .int .i64 x.2], fun x => .int .i64 (if x.1 ≤ x.2 then x.1 else x.2)⟩
theorem ok_l1Min : ct_l1Min.Ok Try.prog := by
  rintro ⟨a, b⟩ -
  refine Ok.of_cw fok_spec_l1Min (go_ok tab_nil ?_)
  by_cases h : a ≤ b <;> by_cases h2 : a < b <;> by_cases h3 : b < a <;> simp [code_spec_l1Min, List.replicate, h, h2, h3] <;> omega
@[simp] def ct_l1Max : Ct := ⟨63, Int × Int, fun _ => True, fun x => [.int .i64 x.1, .int .i64 x.2], fun x => .int .i64 (if x.1 ≤ x.2 then x.2 else x.1)⟩
theorem ok_l1Max : ct_l1Max.Ok Try.prog := by
  rintro ⟨a, b⟩ -
  refine Ok.of_cw fok_spec_l1Max (go_ok tab_nil ?_)
  by_cases h : a ≤ b <;> by_cases h2 : a < b <;> by_cases h3 : b < a <;> simp [code_spec_l1Max, List.replicate, h, h2, h3] <;> omega
@[simp] def ct_sAndOf : Ct := ⟨80, Int × Int, fun _ => True, fun x => [.int .i64 x.1, .int .i64 x.2], fun x => .int .i64 (andT x.1 x.2)⟩
theorem ok_sAndOf : ct_sAndOf.Ok Try.prog := by
  rintro ⟨a, b⟩ -
  refine Ok.of_cw fok_spec_AndOf (go_ok (tab_cons ok_sIsTruth (tab_cons ok_l1Min tab_nil)) ?_)
  cases h : isTruth a <;> cases h2 : isTruth b <;> simp [code_spec_AndOf, List.replicate, andT, h, h2]
@[simp] def ct_sOrOf : Ct := ⟨81, Int × Int, fun _ => True, fun x => [.int .i64 x.1, .int .i64 x.2], fun x => .int .i64 (orT x.1 x.2)⟩
theorem ok_sOrOf : ct_sOrOf.Ok Try.prog := by
  rintro ⟨a, b⟩ -
  refine Ok.of_cw fok_spec_OrOf (go_ok (tab_cons ok_sIsTruth (tab_cons ok_l1Max tab_nil)) ?_)
  cases h : isTruth a <;> cases h2 : isTruth b <;> simp [code_spec_OrOf, List.replicate, orT, h, h2]
@[simp] def ct_sArityOf : Ct := ⟨73, Int, fun _ => True, fun x => [.int .i64 x], fun x => .int .i64 (arity x)⟩
theorem ok_sArityOf : ct_sArityOf.Ok Try.prog := by
  rintro a -
  change Int at a
  refine Ok.of_cw fok_spec_ArityOf (go_ok (tab_cons ok_l1In tab_nil) ?_)
  by_cases h : 1 ≤ a ∧ a ≤ 7
  · simp [code_spec_ArityOf, List.replicate, arity, h]
  · by_cases h1 : 8 ≤ a ∧ a ≤ 12
    · obtain rfl | rfl | rfl | rfl | rfl : a = 8 ∨ a = 9 ∨ a = 10 ∨ a = 11 ∨ a = 12 := by omega
      all_goals simp [code_spec_ArityOf, List.replicate, arity]
    · have n8 : a ≠ 8 := by omega
      have n9 : a ≠ 9 := by omega
      have n10 : a ≠ 10 := by omega
      have n11 : a ≠ 11 := by omega
      have n12 : a ≠ 12 := by omega
      by_cases g : 1 ≤ a
      · have g2 : ¬ a ≤ 7 := by omega
        simp [code_spec_ArityOf, List.replicate, arity, g, g2, n8, n9, n10, n11, n12]
        omega
      · simp [code_spec_ArityOf, List.replicate, arity, g, n8, n9, n10, n11, n12]
@[simp] def ct_l13Truth : Ct := ⟨74, Int, fun _ => True, fun x => [.int .i64 x], fun x => .int .i64 (knownT x)⟩
theorem ok_l13Truth : ct_l13Truth.Ok Try.prog := by
  rintro a -
  change Int at a
  refine Ok.of_cw fok_spec_l13Truth (go_ok (tab_cons ok_sIsTruth tab_nil) ?_)
  cases h : isTruth a <;> simp [code_spec_l13Truth, List.replicate, knownT, h]
def nodeOf (s : Strc) (nodes : List Int) (u : Int) : Int := if 0 ≤ u ∧ u ≤ 3 ∧ u < nodes.length ∧ inN s (nodes.getD u.toNat 0) then nodes.getD u.toNat 0 else -1
theorem nodeOf_or (s : Strc) (nodes : List Int) (u : Int) : nodeOf s nodes u = -1 ∨ inN s (nodeOf s nodes u) := by
  unfold nodeOf
  split
  · rename_i h; exact .inr h.2.2.2
  · exact .inl rfl
@[simp] def ct_l13Node : Ct := ⟨76, Strc × List Int × Int, fun x => szStrc x.1 ≤ 1048576 ∧ x.2.1.length ≤ 1048576, fun x => [encStrc x.1, encL 1 encInt x.2.1, .int .i64 x.2.2], fun x => .int .i64 (nodeOf x.1 x.2.1 x.2.2)⟩
theorem ok_l13Node : ct_l13Node.Ok Try.prog := by
  rintro ⟨s, l, u⟩ ⟨hs, h⟩
  change szStrc s ≤ 1048576 at hs
  change l.length ≤ 1048576 at h
  have hs := strc_le s
  refine Ok.of_cw fok_spec_l13Node (go_ok (tab_cons ok_l1In tab_nil) ?_)
  have hw : IntKind.i64.wrap ((l.length : Int) - 1) = (l.length : Int) - 1 := by rw [wrap_i64] <;> omega
  have hw2 : IntKind.i64.wrap ((s.nodes.length : Int) - 1) = (s.nodes.length : Int) - 1 := by rw [wrap_i64] <;> omega
  by_cases c1 : 0 ≤ u
  case neg => simp [code_spec_l13Node, List.replicate, nodeOf, c1, hw, hw2]
  by_cases c3 : u < l.length
  case neg =>
    have c3' : ¬ (u ≤ (l.length : Int) - 1) := by omega
    simp [code_spec_l13Node, List.replicate, nodeOf, c1, c3, c3', hw, hw2]
  have c3' : (u ≤ (l.length : Int) - 1) := by omega
  by_cases c2 : u ≤ 3
  case neg =>
    have c2' : 4 ≤ u := by omega
    simp [code_spec_l13Node, List.replicate, nodeOf, c1, c2, c2', c3, c3', hw, hw2]
  have c2' : ¬ 4 ≤ u := by omega
  have c4 : u.toNat < l.length := by omega
  have e : l.getD u.toNat 0 = l[u.toNat] := by simp [List.getD_eq_getElem?_getD, c4]
  have hR : nodeOf s l u = if 0 ≤ u ∧ u ≤ 3 ∧ u < l.length ∧ inN s l[u.toNat] then l[u.toNat] else -1 := by unfold nodeOf; rw [e]
  simp only [ct_l13Node]
  rw [hR]
  by_cases c5 : inN s l[u.toNat]
  · have c6 := c5
    unfold inN at c6
    simp [code_spec_l13Node, List.replicate, c1, c2, c2', c3, c3', c4, c5, c6, hw, hw2]
    omega
  · have c6 := c5
    unfold inN at c6
    simp [code_spec_l13Node, List.replicate, c1, c2, c2', c3, c3', c4, c5, hw, hw2]
    grind
def sameT (s : Strc) (i : Int) : Int := if (s.nodes.getD i.toNat default).many = 0 then 2 else 1
end Go.Vm
