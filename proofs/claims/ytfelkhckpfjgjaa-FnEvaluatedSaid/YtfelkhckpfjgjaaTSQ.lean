/- spec.l17Node in blocks of its own. No condition. -/
import Derived.Test.YtfelkhckpfjgjaaTGN
import Derived.Test.YtfelkhckpfjgjaaTPT
import Derived.Test.YtfelkhckpfjgjaaVme
import Derived.Test.YtfelkhckpfjgjaaTSO
set_option linter.unusedSimpArgs false
set_option linter.unusedVariables false
namespace Go.Vm
open Go.Proofs
def nodeD (s : Strc) (x : Int) : Node := s.nodes.getD x.toNat default
def manyG (s : Strc) (g : List Int) : Nat → Int
  | 0 => (nodeD s (g.getD 0 0)).many
  | k + 1 => if 1 < g.length ∨ (nodeD s (g.getD k 0)).many ≠ 0 then 1 else manyG s g k
def grpNode (s : Strc) (g : List Int) : Node := ⟨(nodeD s (g.getD 0 0)).vars, (nodeD s (g.getD 0 0)).reach, (nodeD s (g.getD 0 0)).shared, manyG s g g.length⟩
def code_spec_l17Node : F := ⟨38,[.cell 4 true 4],.seq (.reg [⟨some 2,.box (.t 0),none⟩,⟨some 4,.alloc [(.sl .nil 0 []),(.sl .nil 0 []),(.int .i64 0),(.int .i64 0)],none⟩]) (.seq (.dreg [false,false,false,false,false,false,false,false,false,true] [false,false,false,false,false,false,false,true,false,false] [⟨some 7,.faddr 0 (.t 2),none⟩,⟨some 8,.load 1 false (.t 7),none⟩,⟨some 9,.mov (.t 1),none⟩,⟨some 10,.iaddr 1 (.t 9) (.k (.int .i64 0)),none⟩,⟨some 11,.load 1 false (.t 10),none⟩,⟨some 12,.iaddr 4 (.t 8) (.t 11),none⟩,⟨some 13,.load 4 true (.t 12),none⟩,⟨some 14,.call 104 [.t 13],none⟩,⟨some 5,.alloc [(.sl .nil 0 []),(.sl .nil 0 []),(.int .i64 0),(.int .i64 0)],none⟩,⟨none,.store 4 (.t 5) (.t 14),none⟩]) (.seq (.seq (.reg [⟨some 6,.mov (.k (.int .i64 0)),none⟩]) (.block 0 (.loop (.seq (.seq (.reg [⟨some 15,.mov (.t 6),none⟩,⟨some 16,.mov (.t 1),none⟩,⟨some 17,.len (.t 16),none⟩,⟨some 18,.bin .lss (.t 15) (.t 17),none⟩]) (.cond (.t 18) (.skip) (.exit 0))) (.seq (.block 1 (.seq (.dreg [true,true,true,true,false,false,false,false,false,false,true,true,true,true,true] [false,false,false,false,false,false,false,false,false,false,false,false,false,false,false] [⟨some 21,.mov (.t 1),none⟩,⟨some 22,.len (.t 21),none⟩,⟨some 23,.bin .gtr (.t 22) (.k (.int .i64 1)),none⟩,⟨some 24,.mov (.t 23),none⟩,⟨some 25,.faddr 0 (.t 2),some (24,false)⟩,⟨some 26,.load 1 false (.t 25),some (24,false)⟩,⟨some 27,.mov (.t 1),some (24,false)⟩,⟨some 28,.mov (.t 6),some (24,false)⟩,⟨some 29,.iaddr 1 (.t 27) (.t 28),some (24,false)⟩,⟨some 30,.load 1 false (.t 29),some (24,false)⟩,⟨some 31,.iaddr 4 (.t 26) (.t 30),some (24,false)⟩,⟨some 32,.faddr 3 (.t 31),some (24,false)⟩,⟨some 33,.load 1 false (.t 32),some (24,false)⟩,⟨some 34,.bin .neq (.t 33) (.k (.int .i64 0)),some (24,false)⟩,⟨some 35,.pick (.t 24) (.k (.bool true)) (.t 34),none⟩]) (.cond (.t 35) (.reg [⟨some 36,.faddr 3 (.t 5),none⟩,⟨none,.store 1 (.t 36) (.k (.int .i64 1)),none⟩]) (.skip)))) (.reg [⟨some 19,.mov (.t 6),none⟩,⟨some 20,.bin .add (.t 19) (.k (.int .i64 1)),none⟩,⟨some 6,.mov (.t 20),none⟩])))))) (.seq (.reg [⟨some 37,.load 4 true (.t 5),none⟩,⟨none,.store 4 (.t 4) (.t 37),none⟩]) (.ret))))⟩
theorem fok_spec_l17Node : FOk Try.prog 57 code_spec_l17Node := fok Try.func57 (by kernel_rfl)
structure Gn where
  s : Strc
  g : List Int
def gnR (x : Node) : AV := .agg [.slref 9 0 x.vars.length x.vars.length, .slref 10 0 x.reach.length x.reach.length, .int .i64 x.shared, .int .i64 x.many]
def gnN (x : Node) : List Blk := [.dead, .dead, .dead, .cells [.slref 9 0 x.vars.length x.vars.length, .slref 10 0 x.reach.length x.reach.length, .int .i64 x.shared, .int .i64 x.many], .dead, .dead, .dead, .dead, .dead, .row true 3 1 (x.vars.map encInt), .row true 3 1 (x.reach.map encInt)]
@[simp] def ct_l17Node : CtN := ⟨57, Gn, fun x => szStrc x.s ≤ 1048576 ∧ (0 < x.g.length ∧ x.g.length ≤ 1048576) ∧ ∀ y ∈ x.g, 0 ≤ y ∧ y < x.s.nodes.length, fun x => [encStrc x.s, encL 1 encInt x.g], fun x => gnR (grpNode x.s x.g), fun x => gnN (grpNode x.s x.g)⟩
set_option maxHeartbeats 4000000 in
set_option maxRecDepth 100000 in
theorem ok_l17NodeH (x : Gn) (hx : ct_l17Node.pre x) : OkH Try.prog 57 [encStrc x.s, encL 1 encInt x.g] [] (gnR (grpNode x.s x.g)) (gnN (grpNode x.s x.g)) := by
  obtain ⟨⟨ns, nx⟩, g⟩ := x
  obtain ⟨hx, ⟨hg, hg2⟩, hin⟩ := hx
  have hx : szStrc ⟨ns, nx⟩ ≤ 1048576 := hx
  change 0 < g.length at hg
  change g.length ≤ 1048576 at hg2
  change ∀ y ∈ g, 0 ≤ y ∧ y < ns.length at hin
  have e0 : g.getD 0 0 = g[0] := by simp [List.getD_eq_getElem?_getD, hg]
  have hi0 := hin g[0] (List.getElem_mem hg)
  obtain ⟨n0, hn0⟩ : ∃ n : Nat, g[0] = n := ⟨g[0].toNat, by omega⟩
  have hl0 : n0 < ns.length := by omega
  have ed : nodeD ⟨ns, nx⟩ (g.getD 0 0) = ns[n0] := by
    rw [e0, hn0]; unfold nodeD
    simp [List.getD_eq_getElem?_getD, hl0]
  have hsz : szNode ns[n0] ≤ 1048576 := by
    have h1 := sum_mem szNode (List.getElem_mem hl0)
    have h2 : szStrc ⟨ns, nx⟩ = szNodes ns + nx.length := rfl
    have h3 : szNodes ns = ns.length + (ns.map szNode).sum := rfl
    omega
  have hM0 : manyG ⟨ns, nx⟩ g 0 = ns[n0].many := by unfold manyG; rw [ed]
  have hMs : ∀ k (hk : k < g.length) (n : Nat) (hn : n < ns.length), g[k] = n → manyG ⟨ns, nx⟩ g (k + 1) = if 1 < g.length ∨ ns[n].many ≠ 0 then 1 else manyG ⟨ns, nx⟩ g k := fun k hk n hn e => by
    have e1 : g.getD k 0 = n := by simp [List.getD_eq_getElem?_getD, hk, e]
    show (if 1 < g.length ∨ (nodeD ⟨ns, nx⟩ (g.getD k 0)).many ≠ 0 then 1 else manyG ⟨ns, nx⟩ g k) = _
    rw [e1]; unfold nodeD
    simp [List.getD_eq_getElem?_getD, hn]
  have hG : grpNode ⟨ns, nx⟩ g = ⟨ns[n0].vars, ns[n0].reach, ns[n0].shared, manyG ⟨ns, nx⟩ g g.length⟩ := by unfold grpNode; rw [ed]
  simp only [hG]
  clear hG ed e0
  generalize manyG ⟨ns, nx⟩ g = mg at *
  have hT : TabOk Try.prog _ := tab_h (CtN.hok ok_CopyNode) tab_nil
  refine OkH.of_cw fok_spec_l17Node ?_
  simp only [code_spec_l17Node, frame, List.length_cons, List.length_nil, List.replicate, Nat.reduceSub, Nat.reduceAdd, List.cons_append, List.nil_append]
  refine cw_seq (go_ok hT ?_); simp [List.replicate]
  refine cw_weak weak_void ?_
  refine cw_seq (cw_dreg9K hT [_, _, _, _] [true, false] [[.void], []] [none, none, none, none, none, none, none, some 1, some 0, some 0] [[], [], [], [], [], [], [], [false, true], [true, false], [true, false]] (by rfl) (one_cons (fun _ => rfl) (one_cons (by simp) one_nil)) (by rfl) ?_)
  simp [List.replicate, hg, hn0, hl0, hsz, cpR, cpN, AV.stored]
  refine ⟨_, _, fun x => ⟨rfl, rfl, rfl, rfl⟩, _, rfl, ?_⟩
  refine cw_seq (go_ok hT ?_); simp [List.replicate]
  refine cw_round (fun (k : Nat) => ⟨slots 38 [(1, encL 1 encInt g), (2, .pbox 0 0), (4, .pbox 3 0), (5, .pbox 4 0), (6, .int .i64 k)], [.cells [encL 4 encNode ns, encL 1 encInt nx], .nrow, .nrow, .cells [.slref 1 0 0 0, .slref 2 0 0 0, .int .i64 0, .int .i64 0], .cells [.slref 9 0 ns[n0].vars.length ns[n0].vars.length, .slref 10 0 ns[n0].reach.length ns[n0].reach.length, .int .i64 ns[n0].shared, .int .i64 (mg k)], .dead, .dead, .dead, .dead, .row true 3 1 (ns[n0].vars.map encInt), .row true 3 1 (ns[n0].reach.map encInt)]⟩)
    (fun k => k ≤ g.length) (fun k => g.length - k) 0 (by simp) ?_ ?_
  · rw [hM0]
    exact weak_less (by simp) (by simp [List.replicate])
  rintro N hN k hk
  change k ≤ g.length at hk
  have hw : IntKind.i64.wrap ((k : Int) + 1) = ((k + 1 : Nat) : Int) := by rw [wrap_i64] <;> omega
  by_cases q : k < g.length
  case neg =>
    have e : k = g.length := by omega
    subst e
    refine go_ok tab_nil ?_
    simp [List.replicate]
    refine go_ok tab_nil ?_
    simp [List.replicate]
    refine ⟨⟨slots 38 [(4, .pbox 3 0)], _⟩, weak_less (H' := gnN ⟨ns[n0].vars, ns[n0].reach, ns[n0].shared, mg g.length⟩) (by simp [gnN]) (by simp [List.replicate]), ?_⟩
    simp [retH, List.replicate, gnR, gnN]
  have q2 : ¬ g.length ≤ k := by omega
  have hik := hin g[k] (List.getElem_mem q)
  obtain ⟨n, hn⟩ : ∃ n : Nat, g[k] = n := ⟨g[k].toNat, by omega⟩
  have hl : n < ns.length := by omega
  have hs := hMs k q n hl hn
  have hN' := fun st h => hN k (k + 1) st (by show k + 1 ≤ g.length; omega) (by omega) h
  rw [hs] at hN'
  clear hN hs hMs
  generalize mg k = v at *
  by_cases q1 : 1 < g.length
  · rw [if_pos (.inl q1)] at hN'
    have q3 : ¬ g.length ≤ 1 := by omega
    have q4 : ¬ (g.length : Int) ≤ 1 := by omega
    have q6 : (1 : Int) < g.length := by omega
    refine go_ok tab_nil ?_
    simp [List.replicate, q, q2, q1, q3, q4, q6, hn, hl, hw]
    exact hN' _ (weak_less (by simp) (by simp [List.replicate]))
  · have q3 : g.length ≤ 1 := by omega
    have q4 : (g.length : Int) ≤ 1 := by omega
    have q6 : ¬ (1 : Int) < g.length := by omega
    by_cases q5 : ns[n].many = 0
    · rw [if_neg (by rintro (h | h); exact q1 h; exact h q5)] at hN'
      refine go_ok tab_nil ?_
      simp [List.replicate, q, q2, q1, q3, q4, q6, hn, hl, hw, q5]
      exact hN' _ (weak_less (by simp) (by simp [List.replicate]))
    · rw [if_pos (.inr q5)] at hN'
      refine go_ok tab_nil ?_
      simp [List.replicate, q, q2, q1, q3, q4, q6, hn, hl, hw, q5]
      exact hN' _ (weak_less (by simp) (by simp [List.replicate]))
theorem ok_l17Node : ct_l17Node.Ok Try.prog where
  ok := ok_l17NodeH
  res := fun x _ => rfl
  new := fun x _ => by simp [gnN, ownB, ownVL, ownV]
end Go.Vm
namespace Go.Vm
open Go.Proofs
def code_spec_StructureOf : F := ⟨101,[.cell 2 true 2],.seq (.reg [⟨some 1,.box (.t 0),none⟩,⟨some 2,.alloc [(.sl .nil 0 []),(.sl .nil 0 [])],none⟩]) (.seq (.reg [⟨some 9,.faddr 1 (.t 1),none⟩,⟨some 10,.load 1 false (.t 9),none⟩,⟨some 11,.len (.t 10),none⟩,⟨some 3,.mov (.t 11),none⟩]) (.seq (.seq (.reg [⟨some 12,.load 2 true (.t 1),none⟩,⟨some 13,.call 93 [.t 12],none⟩,⟨some 14,.not (.t 13),none⟩,⟨some 15,.mov (.t 14),none⟩,⟨some 16,.mov (.t 3),some (15,false)⟩,⟨some 17,.bin .gtr (.t 16) (.k (.int .i64 10)),some (15,false)⟩,⟨some 18,.pick (.t 15) (.k (.bool true)) (.t 17),none⟩,⟨some 19,.mov (.t 18),none⟩,⟨some 20,.faddr 0 (.t 1),some (19,false)⟩,⟨some 21,.load 1 false (.t 20),some (19,false)⟩,⟨some 22,.len (.t 21),some (19,false)⟩,⟨some 23,.call 48 [.t 22,(.k (.int .i64 1)),(.k (.int .i64 4))],some (19,false)⟩,⟨some 24,.not (.t 23),some (19,false)⟩,⟨some 25,.pick (.t 19) (.k (.bool true)) (.t 24),none⟩]) (.cond (.t 25) (.seq (.reg [⟨some 26,.build [(.sl .nil 0 []),(.sl .nil 0 [])] [],none⟩,⟨none,.store 2 (.t 2) (.t 26),none⟩]) (.ret)) (.skip))) (.seq (.reg [⟨some 27,.build [(.sl .nil 0 []),(.sl .nil 0 [])] [],none⟩,⟨some 4,.alloc [(.sl .nil 0 []),(.sl .nil 0 [])],none⟩,⟨none,.store 2 (.t 4) (.t 27),none⟩]) (.seq (.seq (.reg [⟨some 5,.mov (.k (.int .i64 0)),none⟩]) (.block 0 (.loop (.seq (.seq (.reg [⟨some 28,.mov (.t 5),none⟩,⟨some 29,.mov (.t 3),none⟩,⟨some 30,.bin .lss (.t 28) (.t 29),none⟩]) (.cond (.t 30) (.skip) (.exit 0))) (.seq (.block 1 (.seq (.reg [⟨some 33,.faddr 1 (.t 1),none⟩,⟨some 34,.load 1 false (.t 33),none⟩,⟨some 35,.mov (.t 5),none⟩,⟨some 36,.call 95 [.t 34,.t 35],none⟩,⟨some 37,.len (.t 36),none⟩,⟨some 38,.bin .gtr (.t 37) (.k (.int .i64 1)),none⟩,⟨some 39,.call 94 [.t 38],none⟩,⟨some 40,.build [(.sl .nil 0 []),(.sl .nil 0 []),(.int .i64 0),(.int .i64 0)] [(2,1,.t 39)],none⟩,⟨some 6,.alloc [(.sl .nil 0 []),(.sl .nil 0 []),(.int .i64 0),(.int .i64 0)],none⟩,⟨none,.store 4 (.t 6) (.t 40),none⟩]) (.seq (.seq (.reg [⟨some 7,.mov (.k (.int .i64 0)),none⟩]) (.block 2 (.loop (.seq (.seq (.reg [⟨some 41,.mov (.t 7),none⟩,⟨some 42,.faddr 0 (.t 1),none⟩,⟨some 43,.load 1 false (.t 42),none⟩,⟨some 44,.len (.t 43),none⟩,⟨some 45,.bin .lss (.t 41) (.t 44),none⟩]) (.cond (.t 45) (.skip) (.exit 2))) (.seq (.block 3 (.seq (.dreg [false,false,false,false,false,false,false,false,false,false,false,true,true,true] [false,false,false,false,false,false,false,false,false,true,false,false,false,false] [⟨some 48,.faddr 0 (.t 6),none⟩,⟨some 49,.load 1 false (.t 48),none⟩,⟨some 50,.faddr 0 (.t 1),none⟩,⟨some 51,.load 1 false (.t 50),none⟩,⟨some 52,.mov (.t 7),none⟩,⟨some 53,.iaddr 1 (.t 51) (.t 52),none⟩,⟨some 54,.load 1 false (.t 53),none⟩,⟨some 55,.mov (.t 5),none⟩,⟨some 56,.bin .eql (.t 54) (.t 55),none⟩,⟨some 57,.call 94 [.t 56],none⟩,⟨some 58,.bsl 3 1 1 (.int .i64 0) [(0,.t 57)],none⟩,⟨some 59,.append 3 1 8 (.t 49) (.t 58),none⟩,⟨some 60,.faddr 0 (.t 6),none⟩,⟨none,.store 1 (.t 60) (.t 59),none⟩]) (.dreg [false,false,false,false,false,false,false,false,false,false,false,false,false,true,true,true] [false,false,false,false,false,false,false,false,true,false,true,true,false,false,false,false] [⟨some 61,.faddr 1 (.t 6),none⟩,⟨some 62,.load 1 false (.t 61),none⟩,⟨some 63,.load 2 true (.t 1),none⟩,⟨some 64,.faddr 0 (.t 1),none⟩,⟨some 65,.load 1 false (.t 64),none⟩,⟨some 66,.mov (.t 7),none⟩,⟨some 67,.iaddr 1 (.t 65) (.t 66),none⟩,⟨some 68,.load 1 false (.t 67),none⟩,⟨some 69,.call 96 [.t 63,.t 68],none⟩,⟨some 70,.mov (.t 5),none⟩,⟨some 71,.call 50 [.t 69,.t 70],none⟩,⟨some 72,.call 94 [.t 71],none⟩,⟨some 73,.bsl 3 1 1 (.int .i64 0) [(0,.t 72)],none⟩,⟨some 74,.append 3 1 8 (.t 62) (.t 73),none⟩,⟨some 75,.faddr 1 (.t 6),none⟩,⟨none,.store 1 (.t 75) (.t 74),none⟩]))) (.reg [⟨some 46,.mov (.t 7),none⟩,⟨some 47,.bin .add (.t 46) (.k (.int .i64 1)),none⟩,⟨some 7,.mov (.t 47),none⟩])))))) (.seq (.reg [⟨some 76,.faddr 0 (.t 4),none⟩,⟨some 77,.load 1 false (.t 76),none⟩,⟨some 78,.load 4 true (.t 6),none⟩,⟨some 79,.bsl 61 4 1 (.agg [(.sl .nil 0 []),(.sl .nil 0 []),(.int .i64 0),(.int .i64 0)]) [(0,.t 78)],none⟩,⟨some 80,.append 61 4 64 (.t 77) (.t 79),none⟩,⟨some 81,.faddr 0 (.t 4),none⟩,⟨none,.store 1 (.t 81) (.t 80),none⟩]) (.seq (.reg [⟨some 8,.mov (.k (.int .i64 0)),none⟩]) (.block 4 (.loop (.seq (.seq (.reg [⟨some 82,.mov (.t 8),none⟩,⟨some 83,.mov (.t 3),none⟩,⟨some 84,.bin .lss (.t 82) (.t 83),none⟩]) (.cond (.t 84) (.skip) (.exit 4))) (.seq (.block 5 (.dreg [false,false,false,false,false,false,false,false,false,false,false,true,true,true] [false,false,false,false,false,false,false,false,false,true,false,false,false,false] [⟨some 87,.faddr 1 (.t 4),none⟩,⟨some 88,.load 1 false (.t 87),none⟩,⟨some 89,.faddr 1 (.t 1),none⟩,⟨some 90,.load 1 false (.t 89),none⟩,⟨some 91,.mov (.t 5),none⟩,⟨some 92,.iaddr 1 (.t 90) (.t 91),none⟩,⟨some 93,.load 1 false (.t 92),none⟩,⟨some 94,.mov (.t 8),none⟩,⟨some 95,.bin .eql (.t 93) (.t 94),none⟩,⟨some 96,.call 94 [.t 95],none⟩,⟨some 97,.bsl 3 1 1 (.int .i64 0) [(0,.t 96)],none⟩,⟨some 98,.append 3 1 8 (.t 88) (.t 97),none⟩,⟨some 99,.faddr 1 (.t 4),none⟩,⟨none,.store 1 (.t 99) (.t 98),none⟩])) (.reg [⟨some 85,.mov (.t 8),none⟩,⟨some 86,.bin .add (.t 85) (.k (.int .i64 1)),none⟩,⟨some 8,.mov (.t 86),none⟩])))))))))) (.reg [⟨some 31,.mov (.t 5),none⟩,⟨some 32,.bin .add (.t 31) (.k (.int .i64 1)),none⟩,⟨some 5,.mov (.t 32),none⟩])))))) (.seq (.reg [⟨some 100,.load 2 true (.t 4),none⟩,⟨none,.store 2 (.t 2) (.t 100),none⟩]) (.ret))))))⟩
theorem fok_spec_StructureOf : FOk Try.prog 46 code_spec_StructureOf := fok Try.func46 (by kernel_rfl)
end Go.Vm
