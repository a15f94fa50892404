/- A structure that stands in a heap (the same lemmas as in FW, without the embedding texts). -/
import Derived.Test.YtekiceofgkcpfaaDoorTMT
set_option linter.unusedSimpArgs false
set_option linter.unusedVariables false
namespace Go.Vm
open Go.Proofs
theorem nodeBs_get7 (b : Nat) (x : Node) : (nodeBs b x)[7]? = some (.row true 3 1 (x.vars.map encInt)) := rfl
theorem nodeBs_get8 (b : Nat) (x : Node) : (nodeBs b x)[8]? = some (.row true 3 1 (x.reach.map encInt)) := rfl
def szN (x : Node) : Nat := x.vars.length + x.reach.length + 2
/-- The blocks of some nodes stand in a heap. -/
def laidIn (H : List Blk) (b : Nat) (xs : List Node) : Prop := ∀ j k, (lblk b xs)[j]? = some k → H[b + j]? = some k
theorem laidIn_cons {H : List Blk} {b : Nat} {x : Node} {xs : List Node} (h : laidIn H b (x :: xs)) : H[b + 7]? = some (.row true 3 1 (x.vars.map encInt)) ∧ H[b + 8]? = some (.row true 3 1 (x.reach.map encInt)) ∧ laidIn H (b + 9) xs := by
  refine ⟨h 7 _ rfl, h 8 _ rfl, fun j k hk => ?_⟩
  have := h (9 + j) k (by
    rw [show lblk b (x :: xs) = nodeBs b x ++ lblk (b + 9) xs from rfl, List.getElem?_append_right (by simp [nodeBs])]
    simpa [nodeBs] using hk)
  rwa [show b + (9 + j) = b + 9 + j by omega] at this
theorem lend_laid {H : List Blk} {d : Nat} : ∀ {b : Nat} {xs : List Node}, laidIn H b xs → lendEls (fun _ _ => true) H (d + 2) (laid b xs) = some (xs.map encNode)
  | _, [], _ => by simp [laid, lendEls]
  | b, x :: xs, h => by
    obtain ⟨h7, h8, ht⟩ := laidIn_cons h
    have ih := lend_laid (d := d) ht
    have e1 : lendC (fun _ _ => true) H (d + 2) (.slref (b + 7) 0 x.vars.length x.vars.length) = some (encL 1 encInt x.vars) := by
      simp [lendC, h7]
    have e2 : lendC (fun _ _ => true) H (d + 2) (.slref (b + 8) 0 x.reach.length x.reach.length) = some (encL 1 encInt x.reach) := by
      simp [lendC, h8]
    simp only [laid, nodeAt, lendEls, lendCs, e1, e2, ih, lendC, List.map_cons]
    rfl
theorem rowOk_laid {H : List Blk} {lo hi : Nat} : ∀ {b : Nat} {xs : List Node}, laidIn H b xs → lo ≤ b → b + 9 * xs.length ≤ hi → (∀ x ∈ xs, szNode x ≤ 1048576) → ∀ e ∈ laid b xs, nodeOk H lo hi e
  | _, [], _, _, _, _, e, he => by simp [laid] at he
  | b, x :: xs, h, h1, h2, h3, e, he => by
    obtain ⟨h7, h8, ht⟩ := laidIn_cons h
    simp only [List.length_cons] at h2
    have hx := h3 x (by simp)
    simp only [szNode] at hx
    rcases List.mem_cons.1 he with rfl | he
    · exact ⟨_, _, _, _, rfl, ⟨b + 7, x.vars, rfl, ⟨by omega, by omega⟩, h7, by omega⟩, ⟨b + 8, x.reach, rfl, ⟨by omega, by omega⟩, h8, by omega⟩⟩
    · exact rowOk_laid ht (by omega) (by omega) (fun y hy => h3 y (by simp [hy])) e he
theorem laid_sz : ∀ (b : Nat) (xs : List Node), (laid b xs).map nodeSz = xs.map szN
  | _, [] => rfl
  | b, x :: xs => by simp [laid, nodeAt, nodeSz, lenA, szN, laid_sz (b + 9) xs]
theorem szN_sum (xs : List Node) : (xs.map szN).sum ≤ 2 * szNodes xs := by
  unfold szNodes
  induction xs with
  | nil => simp
  | cons x xs ih => simp only [List.map_cons, List.sum_cons, List.length_cons, szN, szNode] at ih ⊢; omega
/-- A structure stands in a heap, in blocks of its own from a place on. -/
structure StrcIn (H : List Blk) (b : Nat) (x : Strc) : Prop where
  row : H[b + 7]? = some (.row true 93 4 (laid (b + 8) x.nodes))
  nodes : laidIn H (b + 8) x.nodes
  next : H[b + 8 + 9 * x.nodes.length]? = some (.row true 3 1 (x.next.map encInt))
theorem strcIn_mk {A C : List Blk} {x : Strc} : StrcIn (A ++ ((strcBs x).map (shB A.length) ++ C)) A.length x := by
  have e : (strcBs x).map (shB A.length) = (strcBs x).map (shB A.length) := rfl
  have hl : (strcBs x).length = 9 + 9 * x.nodes.length := by simp [strcBs, lblk_len]; omega
  have get : ∀ j k, (strcBs x)[j]? = some k → (A ++ ((strcBs x).map (shB A.length) ++ C))[A.length + j]? = some (shB A.length k) := fun j k hk => by
    have hj := (List.getElem?_eq_some_iff.1 hk).1
    rw [getHk, List.getElem?_append_left (by simpa using hj), List.getElem?_map, hk]; rfl
  refine ⟨?_, fun j k hk => ?_, ?_⟩
  · rw [get 7 (.row true 93 4 (laid 8 x.nodes)) rfl]
    simp [laid_sh]
  · rw [show lblk (A.length + 8) x.nodes = (lblk 8 x.nodes).map (shB A.length) from (lblk_sh _ _ _).symm, List.getElem?_map] at hk
    obtain ⟨q, hq, rfl⟩ := Option.map_eq_some_iff.1 hk
    have hj := (List.getElem?_eq_some_iff.1 hq).1
    have := get (8 + j) q (by
      show (([.dead, .dead, .dead, .cells [.slref 7 0 x.nodes.length x.nodes.length, .slref (8 + 9 * x.nodes.length) 0 x.next.length x.next.length], .dead, .dead, .dead] ++ ((.row true 93 4 (laid 8 x.nodes) :: lblk 8 x.nodes) ++ [.row true 3 1 (x.next.map encInt)])) : List Blk)[8 + j]? = some q
      rw [List.getElem?_append_right (by simp; omega)]
      simp only [List.length_cons, List.length_nil]
      rw [show 8 + j - (0 + 1 + 1 + 1 + 1 + 1 + 1 + 1) = j + 1 by omega, List.getElem?_append_left (by simpa using hj), List.getElem?_cons_succ, hq])
    rwa [show A.length + (8 + j) = A.length + 8 + j by omega] at this
  · have := get (8 + 9 * x.nodes.length) (.row true 3 1 (x.next.map encInt)) (by
      show (([.dead, .dead, .dead, .cells [.slref 7 0 x.nodes.length x.nodes.length, .slref (8 + 9 * x.nodes.length) 0 x.next.length x.next.length], .dead, .dead, .dead] ++ ((.row true 93 4 (laid 8 x.nodes) :: lblk 8 x.nodes) ++ [.row true 3 1 (x.next.map encInt)])) : List Blk)[8 + 9 * x.nodes.length]? = _
      rw [List.getElem?_append_right (by simp; omega), List.getElem?_append_right (by simp [lblk_len]; omega)]
      simp only [List.length_cons, List.length_nil, lblk_len]
      rw [show 8 + 9 * x.nodes.length - (0 + 1 + 1 + 1 + 1 + 1 + 1 + 1) - (9 * x.nodes.length + 1) = 0 by omega]
      rfl)
    rw [show A.length + (8 + 9 * x.nodes.length) = A.length + 8 + 9 * x.nodes.length by omega] at this
    rw [this]
    simp
theorem StrcIn.congr {H H' : List Blk} {b : Nat} {x : Strc} (h : StrcIn H b x) (he : ∀ j, b ≤ j → j < b + 9 + 9 * x.nodes.length → H'[j]? = H[j]?) : StrcIn H' b x := by
  refine ⟨by rw [he _ (by omega) (by omega), h.row], fun j k hk => ?_, by rw [he _ (by omega) (by omega), h.next]⟩
  have hj := (List.getElem?_eq_some_iff.1 hk).1
  rw [lblk_len] at hj
  rw [he _ (by omega) (by omega)]
  exact h.nodes j k hk
theorem StrcIn.lend {H : List Blk} {b : Nat} {x : Strc} (h : StrcIn H b x) : lendC (fun _ _ => true) H 20 (.slref (b + 7) 0 x.nodes.length x.nodes.length) = some (encL 4 encNode x.nodes) ∧ lendC (fun _ _ => true) H 20 (.slref (b + 8 + 9 * x.nodes.length) 0 x.next.length x.next.length) = some (encL 1 encInt x.next) := by
  constructor
  · have e := lend_laid (d := 17) h.nodes
    have hl := laid_len (b + 8) x.nodes
    simp only [lendC, h.row, hl, Nat.zero_add, Nat.le_refl, and_self, if_true, List.drop_zero]
    rw [List.take_of_length_le (by omega), e]
    rfl
  · simp [lendC, h.next]
theorem StrcIn.rowOk {H : List Blk} {b : Nat} {x : Strc} (h : StrcIn H b x) (hx : szStrc x ≤ 1048576) : rowOk H (b + 7) (b + 8 + 9 * x.nodes.length) (b + 7) (x.nodes.map szN) := by
  refine ⟨⟨by omega, by omega⟩, _, h.row, laid_sz _ _, rowOk_laid h.nodes (by omega) (by omega) fun y hy => ?_⟩
  have h1 := sum_mem szNode hy
  have h2 : szStrc x = szNodes x.nodes + x.next.length := rfl
  have h3 : szNodes x.nodes = x.nodes.length + (x.nodes.map szNode).sum := rfl
  omega
end Go.Vm
