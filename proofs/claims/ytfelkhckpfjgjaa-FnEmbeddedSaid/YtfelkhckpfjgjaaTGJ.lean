/- A structure in rows of its own whose first node may be rewritten. No condition. -/
import Derived.Test.YtfelkhckpfjgjaaTGI
set_option linter.unusedSimpArgs false
set_option linter.unusedVariables false
namespace Go.Vm
open Go.Proofs
def Stn (L : Nat) (G : List Blk) (v w : AV) (s : Strc) : Prop := ∀ G' : List Blk, (∀ j, L ≤ j → j < G.length → G'[j]? = G[j]?) → lendC (fun _ _ => true) G' 20 v = some (encL 4 encNode s.nodes) ∧ lendC (fun _ _ => true) G' 20 w = some (encL 1 encInt s.next)
structure SG (L a d : Nat) (P Q : Nat → Nat) (G : List Blk) (els : List AV) (s : Strc) : Prop where
  la : L ≤ a
  row : G[a]? = some (.row true 61 4 els)
  nix : NIx G els s.nodes P Q
  lo : ∀ i, i < s.nodes.length → L ≤ P i ∧ L ≤ Q i
  ld : L ≤ d
  nxt : G[d]? = some (.row true 3 1 (s.next.map encInt))
  no : ¬ NIx.own s.nodes.length P Q d
section
variable {L a d : Nat} {P Q : Nat → Nat} {G : List Blk} {els : List AV} {s : Strc}
theorem SG.ge (h : SG L a d P Q G els s) {b : Nat} (hb : NIx.own s.nodes.length P Q b) : L ≤ b := by
  obtain ⟨i, hi, rfl | rfl⟩ := hb
  · exact (h.lo i hi).1
  · exact (h.lo i hi).2
theorem SG.na (h : SG L a d P Q G els s) : a ≠ d ∧ ¬ NIx.own s.nodes.length P Q a := by
  refine ⟨fun e => ?_, fun e => ?_⟩
  · have := h.nxt
    rw [← e, h.row] at this; simp at this
  · obtain ⟨l, e⟩ := h.nix.is1 e; rw [h.row] at e; simp at e
theorem SG.stn (h : SG L a d P Q G els s) : Stn L G (.slref a 0 s.nodes.length s.nodes.length) (.slref d 0 s.next.length s.next.length) s := by
  intro G' hG
  have lt : ∀ {j k}, G[j]? = some k → j < G.length := fun e => (List.getElem?_eq_some_iff.1 e).1
  have n2 : NIx G' els s.nodes P Q := h.nix.congr fun b hb => by
    obtain ⟨l, e⟩ := h.nix.is1 hb
    exact hG b (h.ge hb) (lt e)
  refine ⟨n2.lend ((hG a h.la (lt h.row)).trans h.row), ?_⟩
  have e := (hG d h.ld (lt h.nxt)).trans h.nxt
  simp [lendC, e]
theorem SG.el (h : SG L a d P Q G els s) {i : Nat} (hi : i < s.nodes.length) : els[i]? = some (.agg [.slref (P i) 0 s.nodes[i].vars.length s.nodes[i].vars.length, .slref (Q i) 0 s.nodes[i].reach.length s.nodes[i].reach.length, .int .i64 s.nodes[i].shared, .int .i64 s.nodes[i].many]) := h.nix.el i _ (by simp [hi])
theorem SG.setNext (h : SG L a d P Q G els s) (ys : List Int) : SG L a d P Q (G.set d (.row true 3 1 (ys.map encInt))) els ⟨s.nodes, ys⟩ := by
  have hdl := (List.getElem?_eq_some_iff.1 h.nxt).1
  exact ⟨h.la, by rw [get_set_ne (Ne.symm h.na.1)]; exact h.row, h.nix.congr fun b hb => get_set_ne fun e => h.no (by rw [e]; exact hb), h.lo, h.ld, List.getElem?_set_self hdl, h.no⟩
theorem SG.setReach (h : SG L a d P Q G els s) {i : Nat} (hi : i < s.nodes.length) (r : List Int) (hr : r.length = s.nodes[i].reach.length) :
    SG L a d P Q (G.set (Q i) (.row true 3 1 (r.map encInt))) els ⟨s.nodes.set i ⟨s.nodes[i].vars, r, s.nodes[i].shared, s.nodes[i].many⟩, s.next⟩ := by
  have hN := h.nix.set hi ⟨s.nodes[i].vars, r, s.nodes[i].shared, s.nodes[i].many⟩ rfl hr
  have e0 := h.el hi
  have e1 : els.set i (.agg [.slref (P i) 0 s.nodes[i].vars.length s.nodes[i].vars.length, .slref (Q i) 0 r.length r.length, .int .i64 s.nodes[i].shared, .int .i64 s.nodes[i].many]) = els := by rw [hr]; exact set_get e0
  have e2 : G.set (P i) (.row true 3 1 (s.nodes[i].vars.map encInt)) = G := set_get (h.nix.rp i _ (by simp [hi]))
  simp only [e1, e2] at hN
  have oQ : NIx.own s.nodes.length P Q (Q i) := ⟨i, hi, .inr rfl⟩
  exact ⟨h.la, by rw [get_set_ne (show Q i ≠ a from fun e => h.na.2 (e ▸ oQ))]; exact h.row, hN, by simpa using h.lo, h.ld, by rw [get_set_ne (show Q i ≠ d from fun e => h.no (e ▸ oQ))]; exact h.nxt, by simpa using h.no⟩
theorem SG.setEl (h : SG L a d P Q G els s) {i : Nat} (hi : i < s.nodes.length) (x y : Int) :
    SG L a d P Q (G.set a (.row true 61 4 (els.set i (.agg [.slref (P i) 0 s.nodes[i].vars.length s.nodes[i].vars.length, .slref (Q i) 0 s.nodes[i].reach.length s.nodes[i].reach.length, .int .i64 x, .int .i64 y]))))
      (els.set i (.agg [.slref (P i) 0 s.nodes[i].vars.length s.nodes[i].vars.length, .slref (Q i) 0 s.nodes[i].reach.length s.nodes[i].reach.length, .int .i64 x, .int .i64 y])) ⟨s.nodes.set i ⟨s.nodes[i].vars, s.nodes[i].reach, x, y⟩, s.next⟩ := by
  have hN := h.nix.set hi ⟨s.nodes[i].vars, s.nodes[i].reach, x, y⟩ rfl rfl
  have e2 : G.set (P i) (.row true 3 1 (s.nodes[i].vars.map encInt)) = G := set_get (h.nix.rp i _ (by simp [hi]))
  have e3 : G.set (Q i) (.row true 3 1 (s.nodes[i].reach.map encInt)) = G := set_get (h.nix.rq i _ (by simp [hi]))
  simp only [e2, e3] at hN
  have hal := (List.getElem?_eq_some_iff.1 h.row).1
  exact ⟨h.la, List.getElem?_set_self hal, hN.congr fun b hb => get_set_ne fun e => h.na.2 (by rw [e]; simpa using hb), by simpa using h.lo, h.ld, by rw [get_set_ne h.na.1]; exact h.nxt, by simpa using h.no⟩
end
theorem FG.sg {H : List Blk} {p b4 b5 a d : Nat} {P Q : Nat → Nat} {G : List Blk} {c : Cur} {els : List AV} {s : Strc} (h : FG H p b4 b5 a d P Q G c els s) : SG H.length a d P Q G els s :=
  ⟨h.la, h.row, h.nix, h.lo, h.ld, h.nxt, h.no⟩
end Go.Vm
namespace Go.Vm
open Go.Proofs
theorem FG.stn {H : List Blk} {p b4 b5 a d : Nat} {P Q : Nat → Nat} {G : List Blk} {c : Cur} {els : List AV} {s : Strc} (h : FG H p b4 b5 a d P Q G c els s) : Stn H.length G (.slref a 0 s.nodes.length s.nodes.length) (.slref d 0 s.next.length s.next.length) s := by
  intro G' hG
  have lt : ∀ {j k}, G[j]? = some k → j < G.length := fun e => (List.getElem?_eq_some_iff.1 e).1
  have n2 : NIx G' els s.nodes P Q := h.nix.congr fun b hb => by
    obtain ⟨l, e⟩ := h.nix.is1 hb
    exact hG b (own_ge h.lo hb) (lt e)
  refine ⟨n2.lend ((hG a h.la (lt h.row)).trans h.row), ?_⟩
  have e := (hG d h.ld (lt h.nxt)).trans h.nxt
  simp [lendC, e]
theorem FG.fin {H : List Blk} {p b4 b5 a d : Nat} {P Q : Nat → Nat} {G : List Blk} {c : Cur} {els : List AV} {s : Strc} (h : FG H p b4 b5 a d P Q G c els s) (u v : AV) : (G.set b4 (.cells [u, v]))[p]? = some c.cells ∧ H.length ≤ (G.set b4 (.cells [u, v])).length ∧ (∀ j, j < H.length → j ≠ p → (G.set b4 (.cells [u, v]))[j]? = H[j]?) ∧ Stn H.length (G.set b4 (.cells [u, v])) (.slref a 0 s.nodes.length s.nodes.length) (.slref d 0 s.next.length s.next.length) s := by
  have k := h.set4 u v
  have := (List.getElem?_eq_some_iff.1 k.g5).1
  exact ⟨k.cur, by have := k.l5; omega, k.old, k.stn⟩
end Go.Vm
