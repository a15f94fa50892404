/- spec.l17Node in blocks of its own. No condition. -/
import Derived.Test.YtfelkhckpfjgjaaTEV
import Derived.Test.YtfelkhckpfjgjaaVme
import Derived.Test.YtfelkhckpfjgjaaTMK
import Derived.Test.YtfelkhckpfjgjaaTTR
import Derived.Test.YtfelkhckpfjgjaaTEM
set_option linter.unusedSimpArgs false
set_option linter.unusedVariables false
namespace Go.Vm
open Go.Proofs
def nodeD (s : Strc) (x : Int) : Node := s.nodes.getD x.toNat default
def manyG (s : Strc) (g : List Int) : Nat → Int
  | 0 => (nodeD s (g.getD 0 0)).many
  | k + 1 => if 1 < g.length ∨ (nodeD s (g.getD k 0)).many ≠ 0 then 1 else manyG s g k
def grpNode (s : Strc) (g : List Int) : Node := ⟨(nodeD s (g.getD 0 0)).vars, (nodeD s (g.getD 0 0)).reach, (nodeD s (g.getD 0 0)).shared, manyG s g g.length⟩
def code_spec_l17Node : F := ⟨38,[.cell 4 true 4],.seq (.reg [⟨some 2,.box (.t 0),none⟩,⟨some 4,.alloc [(.sl .nil 0 []),(.sl .nil 0 []),(.int .i64 0),(.int .i64 0)],none⟩]) (.seq (.dreg [false,false,false,false,false,false,false,false,false,true] [false,false,false,false,false,false,false,true,false,false] [⟨some 7,.faddr 0 (.t 2),none⟩,⟨some 8,.load 1 false (.t 7),none⟩,⟨some 9,.mov (.t 1),none⟩,⟨some 10,.iaddr 1 (.t 9) (.k (.int .i64 0)),none⟩,⟨some 11,.load 1 false (.t 10),none⟩,⟨some 12,.iaddr 4 (.t 8) (.t 11),none⟩,⟨some 13,.load 4 true (.t 12),none⟩,⟨some 14,.call 104 [.t 13],none⟩,⟨some 5,.alloc [(.sl .nil 0 []),(.sl .nil 0 []),(.int .i64 0),(.int .i64 0)],none⟩,⟨none,.store 4 (.t 5) (.t 14),none⟩]) (.seq (.seq (.reg [⟨some 6,.mov (.k (.int .i64 0)),none⟩]) (.block 0 (.loop (.seq (.seq (.reg [⟨some 15,.mov (.t 6),none⟩,⟨some 16,.mov (.t 1),none⟩,⟨some 17,.len (.t 16),none⟩,⟨some 18,.bin .lss (.t 15) (.t 17),none⟩]) (.cond (.t 18) (.skip) (.exit 0))) (.seq (.block 1 (.seq (.dreg [true,true,true,true,false,false,false,false,false,false,true,true,true,true,true] [false,false,false,false,false,false,false,false,false,false,false,false,false,false,false] [⟨some 21,.mov (.t 1),none⟩,⟨some 22,.len (.t 21),none⟩,⟨some 23,.bin .gtr (.t 22) (.k (.int .i64 1)),none⟩,⟨some 24,.mov (.t 23),none⟩,⟨some 25,.faddr 0 (.t 2),some (24,false)⟩,⟨some 26,.load 1 false (.t 25),some (24,false)⟩,⟨some 27,.mov (.t 1),some (24,false)⟩,⟨some 28,.mov (.t 6),some (24,false)⟩,⟨some 29,.iaddr 1 (.t 27) (.t 28),some (24,false)⟩,⟨some 30,.load 1 false (.t 29),some (24,false)⟩,⟨some 31,.iaddr 4 (.t 26) (.t 30),some (24,false)⟩,⟨some 32,.faddr 3 (.t 31),some (24,false)⟩,⟨some 33,.load 1 false (.t 32),some (24,false)⟩,⟨some 34,.bin .neq (.t 33) (.k (.int .i64 0)),some (24,false)⟩,⟨some 35,.pick (.t 24) (.k (.bool true)) (.t 34),none⟩]) (.cond (.t 35) (.reg [⟨some 36,.faddr 3 (.t 5),none⟩,⟨none,.store 1 (.t 36) (.k (.int .i64 1)),none⟩]) (.skip)))) (.reg [⟨some 19,.mov (.t 6),none⟩,⟨some 20,.bin .add (.t 19) (.k (.int .i64 1)),none⟩,⟨some 6,.mov (.t 20),none⟩])))))) (.seq (.reg [⟨some 37,.load 4 true (.t 5),none⟩,⟨none,.store 4 (.t 4) (.t 37),none⟩]) (.ret))))⟩
theorem fok_spec_l17Node : FOk Try.prog 57 code_spec_l17Node := fok Try.func57 (by kernel_rfl)
structure Gn where
  s : Strc
  g : List Int
def gnR (x : Node) : AV := .agg [.slref 9 0 x.vars.length x.vars.length, .slref 10 0 x.reach.length x.reach.length, .int .i64 x.shared, .int .i64 x.many]
def gnN (x : Node) : List Blk := [.dead, .dead, .dead, .cells [.slref 9 0 x.vars.length x.vars.length, .slref 10 0 x.reach.length x.reach.length, .int .i64 x.shared, .int .i64 x.many], .dead, .dead, .dead, .dead, .dead, .row true 3 1 (x.vars.map encInt), .row true 3 1 (x.reach.map encInt)]
@[simp] def ct_l17Node : CtN := ⟨57, Gn, fun x => szStrc x.s ≤ 1048576 ∧ (0 < x.g.length ∧ x.g.length ≤ 1048576) ∧ ∀ y ∈ x.g, 0 ≤ y ∧ y < x.s.nodes.length, fun x => [encStrc x.s, encL 1 encInt x.g], fun x => gnR (grpNode x.s x.g), fun x => gnN (grpNode x.s x.g)⟩
set_option maxHeartbeats 4000000 in
set_option maxRecDepth 100000 in
theorem ok_l17NodeH (x : Gn) (hx : ct_l17Node.pre x) : OkH Try.prog 57 [encStrc x.s, encL 1 encInt x.g] [] (gnR (grpNode x.s x.g)) (gnN (grpNode x.s x.g)) := by
  obtain ⟨⟨ns, nx⟩, g⟩ := x
  obtain ⟨hx, ⟨hg, hg2⟩, hin⟩ := hx
  have hx : szStrc ⟨ns, nx⟩ ≤ 1048576 := hx
  change 0 < g.length at hg
  change g.length ≤ 1048576 at hg2
  change ∀ y ∈ g, 0 ≤ y ∧ y < ns.length at hin
  have e0 : g.getD 0 0 = g[0] := by simp [List.getD_eq_getElem?_getD, hg]
  have hi0 := hin g[0] (List.getElem_mem hg)
  obtain ⟨n0, hn0⟩ : ∃ n : Nat, g[0] = n := ⟨g[0].toNat, by omega⟩
  have hl0 : n0 < ns.length := by omega
  have ed : nodeD ⟨ns, nx⟩ (g.getD 0 0) = ns[n0] := by
    rw [e0, hn0]; unfold nodeD
    simp [List.getD_eq_getElem?_getD, hl0]
  have hsz : szNode ns[n0] ≤ 1048576 := by
    have h1 := sum_mem szNode (List.getElem_mem hl0)
    have h2 : szStrc ⟨ns, nx⟩ = szNodes ns + nx.length := rfl
    have h3 : szNodes ns = ns.length + (ns.map szNode).sum := rfl
    omega
  have hM0 : manyG ⟨ns, nx⟩ g 0 = ns[n0].many := by unfold manyG; rw [ed]
  have hMs : ∀ k (hk : k < g.length) (n : Nat) (hn : n < ns.length), g[k] = n → manyG ⟨ns, nx⟩ g (k + 1) = if 1 < g.length ∨ ns[n].many ≠ 0 then 1 else manyG ⟨ns, nx⟩ g k := fun k hk n hn e => by
    have e1 : g.getD k 0 = n := by simp [List.getD_eq_getElem?_getD, hk, e]
    show (if 1 < g.length ∨ (nodeD ⟨ns, nx⟩ (g.getD k 0)).many ≠ 0 then 1 else manyG ⟨ns, nx⟩ g k) = _
    rw [e1]; unfold nodeD
    simp [List.getD_eq_getElem?_getD, hn]
  have hG : grpNode ⟨ns, nx⟩ g = ⟨ns[n0].vars, ns[n0].reach, ns[n0].shared, manyG ⟨ns, nx⟩ g g.length⟩ := by unfold grpNode; rw [ed]
  simp only [hG]
  clear hG ed e0
  generalize manyG ⟨ns, nx⟩ g = mg at *
  have hT : TabOk Try.prog _ := tab_h (CtN.hok ok_CopyNode) tab_nil
  refine OkH.of_cw fok_spec_l17Node ?_
  simp only [code_spec_l17Node, frame, List.length_cons, List.length_nil, List.replicate, Nat.reduceSub, Nat.reduceAdd, List.cons_append, List.nil_append]
  refine cw_seq (go_ok hT ?_); simp [List.replicate]
  refine cw_weak weak_void ?_
  refine cw_seq (cw_dreg9K hT [_, _, _, _] [true, false] [[.void], []] [none, none, none, none, none, none, none, some 1, some 0, some 0] [[], [], [], [], [], [], [], [false, true], [true, false], [true, false]] (by rfl) (one_cons (fun _ => rfl) (one_cons (by simp) one_nil)) (by rfl) ?_)
  simp [List.replicate, hg, hn0, hl0, hsz, cpR, cpN, AV.stored]
  refine ⟨_, _, fun x => ⟨rfl, rfl, rfl, rfl⟩, _, rfl, ?_⟩
  refine cw_seq (go_ok hT ?_); simp [List.replicate]
  refine cw_round (fun (k : Nat) => ⟨slots 38 [(1, encL 1 encInt g), (2, .pbox 0 0), (4, .pbox 3 0), (5, .pbox 4 0), (6, .int .i64 k)], [.cells [encL 4 encNode ns, encL 1 encInt nx], .nrow, .nrow, .cells [.slref 1 0 0 0, .slref 2 0 0 0, .int .i64 0, .int .i64 0], .cells [.slref 9 0 ns[n0].vars.length ns[n0].vars.length, .slref 10 0 ns[n0].reach.length ns[n0].reach.length, .int .i64 ns[n0].shared, .int .i64 (mg k)], .dead, .dead, .dead, .dead, .row true 3 1 (ns[n0].vars.map encInt), .row true 3 1 (ns[n0].reach.map encInt)]⟩)
    (fun k => k ≤ g.length) (fun k => g.length - k) 0 (by simp) ?_ ?_
  · rw [hM0]
    exact weak_less (by simp) (by simp [List.replicate])
  rintro N hN k hk
  change k ≤ g.length at hk
  have hw : IntKind.i64.wrap ((k : Int) + 1) = ((k + 1 : Nat) : Int) := by rw [wrap_i64] <;> omega
  by_cases q : k < g.length
  case neg =>
    have e : k = g.length := by omega
    subst e
    refine go_ok tab_nil ?_
    simp [List.replicate]
    refine go_ok tab_nil ?_
    simp [List.replicate]
    refine ⟨⟨slots 38 [(4, .pbox 3 0)], _⟩, weak_less (H' := gnN ⟨ns[n0].vars, ns[n0].reach, ns[n0].shared, mg g.length⟩) (by simp [gnN]) (by simp [List.replicate]), ?_⟩
    simp [retH, List.replicate, gnR, gnN]
  have q2 : ¬ g.length ≤ k := by omega
  have hik := hin g[k] (List.getElem_mem q)
  obtain ⟨n, hn⟩ : ∃ n : Nat, g[k] = n := ⟨g[k].toNat, by omega⟩
  have hl : n < ns.length := by omega
  have hs := hMs k q n hl hn
  have hN' := fun st h => hN k (k + 1) st (by show k + 1 ≤ g.length; omega) (by omega) h
  rw [hs] at hN'
  clear hN hs hMs
  generalize mg k = v at *
  by_cases q1 : 1 < g.length
  · rw [if_pos (.inl q1)] at hN'
    have q3 : ¬ g.length ≤ 1 := by omega
    have q4 : ¬ (g.length : Int) ≤ 1 := by omega
    have q6 : (1 : Int) < g.length := by omega
    refine go_ok tab_nil ?_
    simp [List.replicate, q, q2, q1, q3, q4, q6, hn, hl, hw]
    exact hN' _ (weak_less (by simp) (by simp [List.replicate]))
  · have q3 : g.length ≤ 1 := by omega
    have q4 : (g.length : Int) ≤ 1 := by omega
    have q6 : ¬ (1 : Int) < g.length := by omega
    by_cases q5 : ns[n].many = 0
    · rw [if_neg (by rintro (h | h); exact q1 h; exact h q5)] at hN'
      refine go_ok tab_nil ?_
      simp [List.replicate, q, q2, q1, q3, q4, q6, hn, hl, hw, q5]
      exact hN' _ (weak_less (by simp) (by simp [List.replicate]))
    · rw [if_pos (.inr q5)] at hN'
      refine go_ok tab_nil ?_
      simp [List.replicate, q, q2, q1, q3, q4, q6, hn, hl, hw, q5]
      exact hN' _ (weak_less (by simp) (by simp [List.replicate]))
theorem ok_l17Node : ct_l17Node.Ok Try.prog where
  ok := ok_l17NodeH
  res := fun x _ => rfl
  new := fun x _ => by simp [gnN, ownB, ownVL, ownV]
end Go.Vm
namespace Go.Vm
open Go.Proofs
def code_spec_l3Of : F := ⟨4,[.tmp 2],.seq (.reg [⟨some 2,.mov (.k (.int .i64 0)),none⟩]) (.seq (.seq (.reg [⟨some 3,.mov (.t 0),none⟩]) (.cond (.t 3) (.seq (.reg [⟨some 2,.mov (.k (.int .i64 2)),none⟩]) (.ret)) (.skip))) (.seq (.reg [⟨some 2,.mov (.k (.int .i64 0)),none⟩]) (.ret)))⟩
theorem fok_spec_l3Of : FOk Try.prog 94 code_spec_l3Of := fok Try.func94 (by kernel_rfl)
theorem slE_node {n : Nat} {H : List Blk} (x : Node) : SlE n H (encNode x) (encNode x) := by
  rw [encNode_eq]
  show All2 _ _ _
  simp
def trI (b : Bool) : Int := if b = true then 2 else 0
structure BB where
  b : Bool
@[simp] theorem exists_BB {b : Bool} {P : BB → Prop} : (∃ x : BB, b = x.b ∧ P x) = P ⟨b⟩ := by
  apply propext
  constructor
  · rintro ⟨⟨c⟩, rfl, h⟩; exact h
  · intro h; exact ⟨⟨b⟩, rfl, h⟩
@[simp] def ct_l3Of : Ct := ⟨94, BB, fun _ => True, fun x => [.bool x.b], fun x => .int .i64 (trI x.b)⟩
theorem ok_l3Of : ct_l3Of.Ok Try.prog := by
  rintro ⟨_ | _⟩ - <;> refine Ok.of_cw fok_spec_l3Of (go_ok tab_nil ?_) <;> simp [code_spec_l3Of, List.replicate, trI]
def varT (c : Nat) (v : Int) : Int := trI (decide (v = (c : Int)))
def reachT (nx : List Int) (c : Nat) (v : Int) : Int := trI (decide ((c : Int) ∈ followed nx v))
def sharT (nx : List Int) (c : Nat) : Int := trI (decide (1 < (pos nx c).length))
def nextT (nx : List Int) (c d : Nat) : Int := trI (decide (nx.getD c 0 = (d : Int)))
def nodeT (vs nx : List Int) (c : Nat) : Node := ⟨vs.map (varT c), vs.map (reachT nx c), sharT nx c, 0⟩
def rowT (nx : List Int) (c n : Nat) : List Int := (List.range n).map (nextT nx c)
def fitS (h : Heap) : Bool := cellsB h && decide (h.next.length ≤ 10) && (decide (1 ≤ h.vars.length) && decide (h.vars.length ≤ 4))
def nodesT (vs nx : List Int) (n : Nat) : List Node := (List.range n).map (nodeT vs nx)
def nextsT (nx : List Int) (n : Nat) : List Int := (List.range n).flatMap fun c => rowT nx c nx.length
def strcOf (h : Heap) : Strc := if fitS h = true then ⟨nodesT h.vars h.next h.next.length, nextsT h.next h.next.length⟩ else ⟨[], []⟩
theorem nodesT_succ (vs nx : List Int) (n : Nat) : nodesT vs nx (n + 1) = nodesT vs nx n ++ [nodeT vs nx n] := by simp [nodesT, List.range_succ]
theorem nextsT_succ (nx : List Int) (n : Nat) : nextsT nx (n + 1) = nextsT nx n ++ rowT nx n nx.length := by simp [nextsT, List.range_succ]
theorem rowT_succ (nx : List Int) (c n : Nat) : rowT nx c (n + 1) = rowT nx c n ++ [nextT nx c n] := by simp [rowT, List.range_succ]
theorem rowT_len (nx : List Int) (c n : Nat) : (rowT nx c n).length = n := by simp [rowT]
theorem nodesT_len (vs nx : List Int) (n : Nat) : (nodesT vs nx n).length = n := by simp [nodesT]
theorem nextsT_len (nx : List Int) : ∀ n, (nextsT nx n).length = n * nx.length
  | 0 => by simp [nextsT]
  | n + 1 => by rw [nextsT_succ, List.length_append, nextsT_len nx n, rowT_len, Nat.add_mul]; omega
end Go.Vm
