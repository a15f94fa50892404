/- The reference's draw of a heap that is sometimes bent. No condition. -/
import Derived.Test.YtfelkhckpfjgjaaTRF
import Derived.Test.YtfelkhckpfjgjaaVme
import Derived.Test.YtfelkhckpfjgjaaTRD
set_option linter.unusedSimpArgs false
set_option linter.unusedVariables false
namespace Go.Vm
open Go.Proofs
theorem drawH_len (c : Cur) (v : Nat) : (drawH c v).vars.length = v ∧ (drawH c v).next.length ≤ 5 := by
  have hc := drawR_cells c v
  have h1 := met_good (drawR c v)
  have h2 := goodC_len h1
  obtain ⟨a1, -, -⟩ := drawA_ok c.step (drawN c)
  obtain ⟨b1, -, -⟩ := drawB_ok (drawN c) (drawX c).1 v
  have hn := (drawN_le c).1
  have e1 : (drawR c v).next.length = drawN c := a1
  have e2 : (drawR c v).vars.length = v := b1
  unfold drawH canonH
  rw [if_pos hc]
  simp only [List.length_map]
  exact ⟨e2, by omega⟩
theorem cells_inj {a b : Cur} : (a.cells = b.cells) = (a = b) := propext ⟨fun h => by
  obtain ⟨x, y, z⟩ := a
  obtain ⟨x', y', z'⟩ := b
  simp [Cur.cells] at h
  obtain ⟨h1, h2, h3⟩ := h
  have h4 : y = y' := by omega
  subst h1; subst h4; subst h3; rfl, fun h => by rw [h]⟩
@[simp] def ct_below : CtH := ⟨39, Nat × Cur × Int, fun x H => H[x.1]? = some x.2.1.cells ∧ 0 < x.2.2 ∧ x.2.2 ≤ 256 ∧ x.2.1.buf.length ≤ 1048576, fun x => [.pbox x.1 0, .int .i64 x.2.2], fun x _ => .int .i64 (x.2.1.below x.2.2), fun x H => H.set x.1 x.2.1.step.cells⟩
theorem ok_below : ct_below.Ok Try.prog := by
  rintro ⟨p, c, n⟩ H ⟨h1, h2, h3, h4⟩
  exact ok_l1Below ⟨p, c, n⟩ H ⟨⟨h2, h3⟩, h4, h1⟩
@[simp] def ct_once : CtH := ⟨38, Nat × Cur × Int, fun x H => H[x.1]? = some x.2.1.cells ∧ 0 < x.2.2 ∧ x.2.2 ≤ 256 ∧ x.2.1.buf.length ≤ 1048576, fun x => [.pbox x.1 0, .int .i64 x.2.2], fun x _ => .bool (decide (x.2.1.below x.2.2 = 0)), fun x H => H.set x.1 x.2.1.step.cells⟩
theorem ok_once : ct_once.Ok Try.prog := by
  rintro ⟨p, c, n⟩ H ⟨h1, h2, h3, h4⟩
  exact ok_l1Once ⟨p, c, n⟩ H ⟨⟨h2, h3⟩, h4, h1⟩
end Go.Vm
namespace Go.Vm
open Go.Proofs
structure FG (H : List Blk) (p b4 b5 a d : Nat) (P Q : Nat → Nat) (G : List Blk) (c : Cur) (els : List AV) (s : Strc) : Prop where
  hp : p < H.length
  cur : G[p]? = some c.cells
  old : ∀ j, j < H.length → j ≠ p → G[j]? = H[j]?
  l4 : H.length ≤ b4
  g4 : ∃ x y, G[b4]? = some (.cells [x, y])
  l5 : H.length ≤ b5
  ne : b4 ≠ b5
  g5 : G[b5]? = some (.cells [.slref a 0 s.nodes.length s.nodes.length, .slref d 0 s.next.length s.next.length])
  la : H.length ≤ a
  row : G[a]? = some (.row true 61 4 els)
  nix : NIx G els s.nodes P Q
  lo : ∀ i, i < s.nodes.length → H.length ≤ P i ∧ H.length ≤ Q i
  ld : H.length ≤ d
  nxt : G[d]? = some (.row true 3 1 (s.next.map encInt))
  no : ¬ NIx.own s.nodes.length P Q d
section
variable {H : List Blk} {p b4 b5 a d : Nat} {P Q : Nat → Nat} {G : List Blk} {c : Cur} {els : List AV} {s : Strc}
theorem get_set_ne {G : List Blk} {b j : Nat} {x : Blk} (h : b ≠ j) : (G.set b x)[j]? = G[j]? := List.getElem?_set_ne h
theorem own_ge (lo : ∀ i, i < s.nodes.length → H.length ≤ P i ∧ H.length ≤ Q i) {b : Nat} (hb : NIx.own s.nodes.length P Q b) : H.length ≤ b := by
  obtain ⟨i, hi, rfl | rfl⟩ := hb
  · exact (lo i hi).1
  · exact (lo i hi).2
theorem FG.setCur (h : FG H p b4 b5 a d P Q G c els s) (c' : Cur) : FG H p b4 b5 a d P Q (G.set p c'.cells) c' els s := by
  obtain ⟨hp, cur, old, l4, g4, l5, ne, g5, la, row, nix, lo, ld, nxt, no⟩ := h
  have hpl := (List.getElem?_eq_some_iff.1 cur).1
  have k : ∀ j, H.length ≤ j → (G.set p c'.cells)[j]? = G[j]? := fun j hj => get_set_ne (by omega)
  refine ⟨hp, by rw [List.getElem?_set_self hpl], fun j hj hjp => by rw [get_set_ne (Ne.symm hjp)]; exact old j hj hjp, l4, by rw [k _ l4]; exact g4, l5, ne, by rw [k _ l5]; exact g5, la, by rw [k _ la]; exact row, nix.congr fun b hb => k _ (own_ge lo hb), lo, ld, by rw [k _ ld]; exact nxt, no⟩
theorem FG.nodup_a (h : FG H p b4 b5 a d P Q G c els s) : a ≠ d ∧ a ≠ b4 ∧ a ≠ b5 ∧ d ≠ b4 ∧ d ≠ b5 ∧ ¬ NIx.own s.nodes.length P Q a ∧ ¬ NIx.own s.nodes.length P Q b4 ∧ ¬ NIx.own s.nodes.length P Q b5 := by
  obtain ⟨hp, cur, old, l4, ⟨x, y, g4⟩, l5, ne, g5, la, row, nix, lo, ld, nxt, no⟩ := h
  refine ⟨fun e => ?_, fun e => ?_, fun e => ?_, fun e => ?_, fun e => ?_, fun e => ?_, fun e => ?_, fun e => ?_⟩
  · subst e; rw [row] at nxt; simp at nxt
  · subst e; rw [row] at g4; cases g4
  · subst e; rw [row] at g5; cases g5
  · subst e; rw [nxt] at g4; cases g4
  · subst e; rw [nxt] at g5; cases g5
  · obtain ⟨l, e⟩ := nix.is1 e; rw [row] at e; simp at e
  · obtain ⟨l, e⟩ := nix.is1 e; rw [g4] at e; cases e
  · obtain ⟨l, e⟩ := nix.is1 e; rw [g5] at e; cases e
theorem FG.setNext (h : FG H p b4 b5 a d P Q G c els s) (ys : List Int) (hl : ys.length = s.next.length) : FG H p b4 b5 a d P Q (G.set d (.row true 3 1 (ys.map encInt))) c els ⟨s.nodes, ys⟩ := by
  obtain ⟨n1, n2, n3, n4, n5, n6, n7, n8⟩ := h.nodup_a
  obtain ⟨hp, cur, old, l4, g4, l5, ne, g5, la, row, nix, lo, ld, nxt, no⟩ := h
  have hdl := (List.getElem?_eq_some_iff.1 nxt).1
  refine ⟨hp, by rw [get_set_ne (by omega)]; exact cur, fun j hj hjp => by rw [get_set_ne (by omega)]; exact old j hj hjp, l4, by rw [get_set_ne n4]; exact g4, l5, ne, by rw [get_set_ne n5, hl]; exact g5, la, by rw [get_set_ne (Ne.symm n1)]; exact row, nix.congr fun b hb => get_set_ne fun e => no (e ▸ hb), lo, ld, by rw [List.getElem?_set_self hdl], no⟩
theorem FG.setNode (h : FG H p b4 b5 a d P Q G c els s) {i : Nat} (hi : i < s.nodes.length) (y : Node) (hv : y.vars.length = s.nodes[i].vars.length) (hr : y.reach.length = s.nodes[i].reach.length) :
    FG H p b4 b5 a d P Q ((((G.set (P i) (.row true 3 1 (y.vars.map encInt))).set (Q i) (.row true 3 1 (y.reach.map encInt)))).set a (.row true 61 4 (els.set i (.agg [.slref (P i) 0 y.vars.length y.vars.length, .slref (Q i) 0 y.reach.length y.reach.length, .int .i64 y.shared, .int .i64 y.many])))) c
      (els.set i (.agg [.slref (P i) 0 y.vars.length y.vars.length, .slref (Q i) 0 y.reach.length y.reach.length, .int .i64 y.shared, .int .i64 y.many])) ⟨s.nodes.set i y, s.next⟩ := by
  obtain ⟨n1, n2, n3, n4, n5, n6, n7, n8⟩ := h.nodup_a
  obtain ⟨hp, cur, old, l4, g4, l5, ne, g5, la, row, nix, lo, ld, nxt, no⟩ := h
  have hal := (List.getElem?_eq_some_iff.1 row).1
  have hN := nix.set hi y hv hr
  have oP : NIx.own s.nodes.length P Q (P i) := ⟨i, hi, .inl rfl⟩
  have oQ : NIx.own s.nodes.length P Q (Q i) := ⟨i, hi, .inr rfl⟩
  have hPi := (lo i hi).1
  have hQi := (lo i hi).2
  have k : ∀ (b : Nat) (R : Blk), ¬ NIx.own s.nodes.length P Q b → a ≠ b → ((((G.set (P i) (.row true 3 1 (y.vars.map encInt))).set (Q i) (.row true 3 1 (y.reach.map encInt)))).set a R)[b]? = G[b]? := fun b R hb hab => by
    rw [get_set_ne hab, get_set_ne (b := Q i) (fun e => hb (by rw [← e]; exact oQ)), get_set_ne (b := P i) (fun e => hb (by rw [← e]; exact oP))]
  have small : ∀ j, j < H.length → ¬ NIx.own s.nodes.length P Q j := fun j hj ho => by have := own_ge lo ho; omega
  refine ⟨hp, by rw [k _ _ (small _ hp) (by omega)]; exact cur, fun j hj hjp => by rw [k _ _ (small _ hj) (by omega)]; exact old j hj hjp, l4, by rw [k _ _ n7 n2]; exact g4, l5, ne, by rw [k _ _ n8 n3]; simpa using g5, la, ?_, ?_, fun j hj => lo j (by simpa using hj), ld, by rw [k _ _ no n1]; exact nxt, by simpa using no⟩
  · rw [List.getElem?_set_self (by simpa using hal)]
  · exact hN.congr fun b hb => get_set_ne fun e => n6 (by subst e; simpa using hb)
theorem FG.el (h : FG H p b4 b5 a d P Q G c els s) {i : Nat} (hi : i < s.nodes.length) : els[i]? = some (.agg [.slref (P i) 0 s.nodes[i].vars.length s.nodes[i].vars.length, .slref (Q i) 0 s.nodes[i].reach.length s.nodes[i].reach.length, .int .i64 s.nodes[i].shared, .int .i64 s.nodes[i].many]) := h.nix.el i _ (by simp [hi])
theorem set_get {α : Type} {l : List α} {i : Nat} {x : α} (h : l[i]? = some x) : l.set i x = l := by
  obtain ⟨hi, e⟩ := List.getElem?_eq_some_iff.1 h
  rw [← e]; exact List.set_getElem_self hi
theorem FG.setReach (h : FG H p b4 b5 a d P Q G c els s) {i : Nat} (hi : i < s.nodes.length) (r : List Int) (hr : r.length = s.nodes[i].reach.length) :
    FG H p b4 b5 a d P Q (G.set (Q i) (.row true 3 1 (r.map encInt))) c els ⟨s.nodes.set i ⟨s.nodes[i].vars, r, s.nodes[i].shared, s.nodes[i].many⟩, s.next⟩ := by
  have hN := h.setNode hi ⟨s.nodes[i].vars, r, s.nodes[i].shared, s.nodes[i].many⟩ rfl hr
  have e0 := h.el hi
  have e1 : els.set i (.agg [.slref (P i) 0 s.nodes[i].vars.length s.nodes[i].vars.length, .slref (Q i) 0 r.length r.length, .int .i64 s.nodes[i].shared, .int .i64 s.nodes[i].many]) = els := by rw [hr]; exact set_get e0
  have e2 : G.set (P i) (.row true 3 1 (s.nodes[i].vars.map encInt)) = G := set_get (h.nix.rp i _ (by simp [hi]))
  simp only [e1, e2] at hN
  have e3 : (G.set (Q i) (.row true 3 1 (r.map encInt))).set a (.row true 61 4 els) = G.set (Q i) (.row true 3 1 (r.map encInt)) := by
    apply set_get
    rw [get_set_ne fun e => h.nodup_a.2.2.2.2.2.1 (by rw [← e]; exact ⟨i, hi, .inr rfl⟩)]
    exact h.row
  rw [e3] at hN
  exact hN
theorem FG.setVars (h : FG H p b4 b5 a d P Q G c els s) {i : Nat} (hi : i < s.nodes.length) (r : List Int) (hr : r.length = s.nodes[i].vars.length) :
    FG H p b4 b5 a d P Q (G.set (P i) (.row true 3 1 (r.map encInt))) c els ⟨s.nodes.set i ⟨r, s.nodes[i].reach, s.nodes[i].shared, s.nodes[i].many⟩, s.next⟩ := by
  have hN := h.setNode hi ⟨r, s.nodes[i].reach, s.nodes[i].shared, s.nodes[i].many⟩ hr rfl
  have e0 := h.el hi
  have e1 : els.set i (.agg [.slref (P i) 0 r.length r.length, .slref (Q i) 0 s.nodes[i].reach.length s.nodes[i].reach.length, .int .i64 s.nodes[i].shared, .int .i64 s.nodes[i].many]) = els := by rw [hr]; exact set_get e0
  have e2 : (G.set (P i) (.row true 3 1 (r.map encInt))).set (Q i) (.row true 3 1 (s.nodes[i].reach.map encInt)) = G.set (P i) (.row true 3 1 (r.map encInt)) := by
    apply set_get
    rw [get_set_ne (h.nix.pq i i hi hi)]
    exact h.nix.rq i _ (by simp [hi])
  simp only [e1, e2] at hN
  have e3 : (G.set (P i) (.row true 3 1 (r.map encInt))).set a (.row true 61 4 els) = G.set (P i) (.row true 3 1 (r.map encInt)) := by
    apply set_get
    rw [get_set_ne fun e => h.nodup_a.2.2.2.2.2.1 (by rw [← e]; exact ⟨i, hi, .inl rfl⟩)]
    exact h.row
  rw [e3] at hN
  exact hN
theorem FG.setEl (h : FG H p b4 b5 a d P Q G c els s) {i : Nat} (hi : i < s.nodes.length) (x y : Int) :
    FG H p b4 b5 a d P Q (G.set a (.row true 61 4 (els.set i (.agg [.slref (P i) 0 s.nodes[i].vars.length s.nodes[i].vars.length, .slref (Q i) 0 s.nodes[i].reach.length s.nodes[i].reach.length, .int .i64 x, .int .i64 y])))) c
      (els.set i (.agg [.slref (P i) 0 s.nodes[i].vars.length s.nodes[i].vars.length, .slref (Q i) 0 s.nodes[i].reach.length s.nodes[i].reach.length, .int .i64 x, .int .i64 y])) ⟨s.nodes.set i ⟨s.nodes[i].vars, s.nodes[i].reach, x, y⟩, s.next⟩ := by
  have hN := h.setNode hi ⟨s.nodes[i].vars, s.nodes[i].reach, x, y⟩ rfl rfl
  have e2 : G.set (P i) (.row true 3 1 (s.nodes[i].vars.map encInt)) = G := set_get (h.nix.rp i _ (by simp [hi]))
  have e3 : G.set (Q i) (.row true 3 1 (s.nodes[i].reach.map encInt)) = G := set_get (h.nix.rq i _ (by simp [hi]))
  simp only [e2, e3] at hN
  exact hN
theorem FG.lend (h : FG H p b4 b5 a d P Q G c els s) : lendC (fun _ _ => true) G 20 (.slref a 0 s.nodes.length s.nodes.length) = some (encL 4 encNode s.nodes) ∧ lendC (fun _ _ => true) G 20 (.slref d 0 s.next.length s.next.length) = some (encL 1 encInt s.next) := by
  refine ⟨h.nix.lend h.row, ?_⟩
  simp [lendC, h.nxt]
end
def d12S0 (c : Cur) : Strc := if (drawY c 3).1.below 3 = 0 then strcOf (drawH c 3) else blurS (strcOf (drawH c 3))
def setN (s : Strc) (i : Nat) (f : Node → Node) : Strc := if h : i < s.nodes.length then ⟨s.nodes.set i (f s.nodes[i]), s.next⟩ else s
def d12step (x : Cur × Strc) : Cur × Strc :=
  if x.1.step.below 4 = 0 then (x.1.step.step.step, setN x.2 (x.1.below x.2.nodes.length).toNat fun y => ⟨y.vars, y.reach.set (x.1.step.step.below 3).toNat 1, y.shared, y.many⟩)
  else if x.1.step.below 4 = 1 then (x.1.step.step, setN x.2 (x.1.below x.2.nodes.length).toNat fun y => ⟨y.vars, y.reach, 1, y.many⟩)
  else if x.1.step.below 4 = 2 then (x.1.step.step.step, ⟨x.2.nodes, x.2.next.set (x.1.step.step.below x.2.next.length).toNat 1⟩)
  else (x.1.step.step, x.2)
def d12It (x : Cur × Strc) : Nat → Cur × Strc
  | 0 => x
  | k + 1 => d12step (d12It x k)
def d12 (c : Cur) : Cur × Strc := if (d12S0 c).nodes = [] then ((drawY c 3).1.step.step, d12S0 c) else d12It ((drawY c 3).1.step.step, d12S0 c) ((drawY c 3).1.step.below 3).toNat
structure Sh12 (s : Strc) : Prop where
  n : s.nodes.length ≤ 5
  m : s.next.length = s.nodes.length * s.nodes.length
  r : ∀ x ∈ s.nodes, x.vars.length = 3 ∧ x.reach.length = 3
theorem setN_sh {s : Strc} (h : Sh12 s) (i : Nat) {f : Node → Node} (hf : ∀ y, (f y).vars.length = y.vars.length ∧ (f y).reach.length = y.reach.length) : Sh12 (setN s i f) := by
  unfold setN
  split
  · rename_i hi
    refine ⟨by simpa using h.n, by simpa using h.m, fun x hx => ?_⟩
    rcases List.mem_or_eq_of_mem_set hx with hx | rfl
    · exact h.r x hx
    · obtain ⟨h1, h2⟩ := hf s.nodes[i]
      rw [h1, h2]; exact h.r _ (List.getElem_mem hi)
  · exact h
theorem setN_len (s : Strc) (i : Nat) (f : Node → Node) : (setN s i f).nodes.length = s.nodes.length ∧ (setN s i f).next = s.next := by
  unfold setN
  split <;> simp
theorem d12step_sh {x : Cur × Strc} (h : Sh12 x.2) : Sh12 (d12step x).2 ∧ (d12step x).2.nodes.length = x.2.nodes.length ∧ (d12step x).2.next.length = x.2.next.length ∧ (d12step x).1.buf = x.1.buf := by
  unfold d12step
  by_cases b0 : x.1.step.below 4 = 0
  · rw [if_pos b0]
    exact ⟨setN_sh (f := fun y => ⟨y.vars, y.reach.set (x.1.step.step.below 3).toNat 1, y.shared, y.many⟩) h _ (fun y => ⟨rfl, List.length_set⟩), (setN_len _ _ _).1, by rw [(setN_len _ _ _).2], rfl⟩
  rw [if_neg b0]
  by_cases b1 : x.1.step.below 4 = 1
  · rw [if_pos b1]
    exact ⟨setN_sh (f := fun y => ⟨y.vars, y.reach, 1, y.many⟩) h _ (fun y => ⟨rfl, rfl⟩), (setN_len _ _ _).1, by rw [(setN_len _ _ _).2], rfl⟩
  rw [if_neg b1]
  by_cases b2 : x.1.step.below 4 = 2
  · rw [if_pos b2]
    exact ⟨⟨h.n, by simpa using h.m, h.r⟩, rfl, by simp, rfl⟩
  · rw [if_neg b2]
    exact ⟨h, rfl, rfl, rfl⟩
theorem d12It_sh {x : Cur × Strc} (h : Sh12 x.2) : ∀ k, Sh12 (d12It x k).2 ∧ (d12It x k).2.nodes.length = x.2.nodes.length ∧ (d12It x k).2.next.length = x.2.next.length ∧ (d12It x k).1.buf = x.1.buf
  | 0 => ⟨h, rfl, rfl, rfl⟩
  | k + 1 => by
    obtain ⟨a1, a2, a3, a4⟩ := d12It_sh h k
    obtain ⟨b1, b2, b3, b4⟩ := d12step_sh a1
    exact ⟨b1, b2.trans a2, b3.trans a3, b4.trans a4⟩
end Go.Vm
