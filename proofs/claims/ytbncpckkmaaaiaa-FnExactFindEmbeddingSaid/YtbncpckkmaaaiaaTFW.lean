/- FindEmbedding: the law. No condition. -/
import Derived.Test.YtbncpckkmaaaiaaTFG
import Derived.Test.YtbncpckkmaaaiaaTMT
set_option linter.unusedSimpArgs false
set_option linter.unusedVariables false
namespace Go.Vm
open Go.Proofs
def code_laws_FnExactFindEmbedding : F := ⟨119, [.tmp 4],
 .seq (.reg [⟨some 2, .box (.t 0), none⟩,
    ⟨some 3, .box (.t 1), none⟩,
    ⟨some 4, .mov (.k (.bool false)), none⟩])
 (.seq (.reg [⟨some 5, .mov (.k (.int .i64 1048576)), none⟩])
  (.seq (.reg [⟨some 17, .load 2 true (.t 2), none⟩,
      ⟨some 18, .mov (.t 5), none⟩,
      ⟨some 19, .call 13 [(.t 17), (.t 18)], none⟩,
      ⟨some 5, .mov (.t 19), none⟩])
   (.seq (.seq (.reg [⟨some 20, .mov (.t 5), none⟩,
        ⟨some 21, .bin .lss (.t 20) (.k (.int .i64 0)), none⟩])
     (.cond (.t 21)
      (.seq (.reg [⟨some 4, .mov (.k (.bool true)), none⟩])
       (.ret))
      (.skip)))
    (.seq (.reg [⟨some 22, .load 2 true (.t 3), none⟩,
        ⟨some 23, .mov (.t 5), none⟩,
        ⟨some 24, .call 13 [(.t 22), (.t 23)], none⟩,
        ⟨some 5, .mov (.t 24), none⟩])
     (.seq (.seq (.reg [⟨some 25, .mov (.t 5), none⟩,
          ⟨some 26, .bin .lss (.t 25) (.k (.int .i64 0)), none⟩])
       (.cond (.t 26)
        (.seq (.reg [⟨some 4, .mov (.k (.bool true)), none⟩])
         (.ret))
        (.skip)))
      (.seq (.dreg [false, false, false, true, true, true, false, false, false, true] [⟨some 28, .load 2 true (.t 2), none⟩,
          ⟨some 29, .call 15 [(.t 28)], none⟩,
          ⟨some 30, .load 2 true (.t 3), none⟩,
          ⟨some 31, .call 15 [(.t 30)], none⟩,
          ⟨some 32, .call 22 [(.t 29), (.t 31)], none⟩,
          ⟨some 27, .mov (.t 32), none⟩,
          ⟨some 33, .extr (.t 27) 0, none⟩,
          ⟨some 34, .extr (.t 27) 1, none⟩,
          ⟨some 6, .mov (.t 33), none⟩,
          ⟨some 7, .mov (.t 34), none⟩])
       (.seq (.reg [⟨some 35, .load 2 true (.t 2), none⟩,
           ⟨some 36, .call 15 [(.t 35)], none⟩,
           ⟨some 8, .alloc [(.sl .nil 0 []), (.sl .nil 0 [])], none⟩,
           ⟨none, .store 2 (.t 8) (.t 36), none⟩])
        (.seq (.reg [⟨some 37, .load 2 true (.t 3), none⟩,
            ⟨some 38, .call 15 [(.t 37)], none⟩,
            ⟨some 9, .alloc [(.sl .nil 0 []), (.sl .nil 0 [])], none⟩,
            ⟨none, .store 2 (.t 9) (.t 38), none⟩])
         (.seq (.reg [⟨some 40, .load 2 true (.t 8), none⟩,
             ⟨some 41, .load 2 true (.t 9), none⟩,
             ⟨some 42, .call 23 [(.t 40), (.t 41)], none⟩,
             ⟨some 39, .mov (.t 42), none⟩,
             ⟨some 43, .extr (.t 39) 0, none⟩,
             ⟨some 44, .extr (.t 39) 1, none⟩,
             ⟨some 10, .mov (.t 43), none⟩,
             ⟨some 11, .mov (.t 44), none⟩])
          (.seq (.seq (.reg [⟨some 45, .mov (.t 10), none⟩,
               ⟨some 46, .mov (.t 6), none⟩,
               ⟨some 47, .call 19 [(.t 45), (.t 46)], none⟩,
               ⟨some 48, .not (.t 47), none⟩,
               ⟨some 49, .mov (.t 48), none⟩,
               ⟨some 50, .mov (.t 11), some (49, false)⟩,
               ⟨some 51, .mov (.t 7), some (49, false)⟩,
               ⟨some 52, .beq true (.t 50) (.t 51), some (49, false)⟩,
               ⟨some 53, .pick (.t 49) (.k (.bool true)) (.t 52), none⟩])
            (.cond (.t 53)
             (.seq (.reg [⟨some 4, .mov (.k (.bool false)), none⟩])
              (.ret))
             (.skip)))
           (.seq (.seq (.dreg [false, false, false, true, true] [⟨some 54, .load 2 true (.t 8), none⟩,
                ⟨some 55, .load 2 true (.t 2), none⟩,
                ⟨some 56, .call 15 [(.t 55)], none⟩,
                ⟨some 57, .call 18 [(.t 54), (.t 56)], none⟩,
                ⟨some 58, .not (.t 57), none⟩])
             (.cond (.t 58)
              (.seq (.reg [⟨some 4, .mov (.k (.bool false)), none⟩])
               (.ret))
              (.skip)))
            (.seq (.seq (.dreg [false, false, false, true, true] [⟨some 59, .load 2 true (.t 9), none⟩,
                 ⟨some 60, .load 2 true (.t 3), none⟩,
                 ⟨some 61, .call 15 [(.t 60)], none⟩,
                 ⟨some 62, .call 18 [(.t 59), (.t 61)], none⟩,
                 ⟨some 63, .not (.t 62), none⟩])
              (.cond (.t 63)
               (.seq (.reg [⟨some 4, .mov (.k (.bool false)), none⟩])
                (.ret))
               (.skip)))
             (.seq (.reg [⟨some 12, .mov (.k (.int .i64 1)), none⟩])
              (.seq (.reg [⟨some 64, .load 2 true (.t 8), none⟩,
                  ⟨some 65, .mov (.t 12), none⟩,
                  ⟨some 66, .call 24 [(.t 64), (.t 65)], none⟩,
                  ⟨some 12, .mov (.t 66), none⟩])
               (.seq (.reg [⟨some 67, .load 2 true (.t 9), none⟩,
                   ⟨some 68, .mov (.t 12), none⟩,
                   ⟨some 69, .call 24 [(.t 67), (.t 68)], none⟩,
                   ⟨some 12, .mov (.t 69), none⟩])
                (.seq (.seq (.reg [⟨some 70, .mov (.t 12), none⟩,
                     ⟨some 71, .bin .lss (.t 70) (.k (.int .i64 0)), none⟩,
                     ⟨some 72, .mov (.t 71), none⟩,
                     ⟨some 73, .mov (.t 10), some (72, false)⟩,
                     ⟨some 74, .mov (.t 6), some (72, false)⟩,
                     ⟨some 75, .call 19 [(.t 73), (.t 74)], some (72, false)⟩,
                     ⟨some 76, .not (.t 75), some (72, false)⟩,
                     ⟨some 77, .pick (.t 72) (.k (.bool true)) (.t 76), none⟩,
                     ⟨some 78, .mov (.t 77), none⟩,
                     ⟨some 79, .mov (.t 11), some (78, false)⟩,
                     ⟨some 80, .mov (.t 7), some (78, false)⟩,
                     ⟨some 81, .beq true (.t 79) (.t 80), some (78, false)⟩,
                     ⟨some 82, .pick (.t 78) (.k (.bool true)) (.t 81), none⟩])
                  (.cond (.t 82)
                   (.seq (.reg [⟨some 4, .mov (.k (.bool false)), none⟩])
                    (.ret))
                   (.skip)))
                 (.seq (.reg [⟨some 13, .mov (.k (.int .i64 1)), none⟩])
                  (.seq (.reg [⟨some 83, .mov (.t 10), none⟩,
                      ⟨some 84, .mov (.t 13), none⟩,
                      ⟨some 85, .call 25 [(.t 83), (.t 84)], none⟩,
                      ⟨some 13, .mov (.t 85), none⟩])
                   (.seq (.reg [⟨some 14, .mov (.k (.int .i64 1)), none⟩])
                    (.seq (.reg [⟨some 86, .mov (.t 10), none⟩,
                        ⟨some 87, .mov (.t 14), none⟩,
                        ⟨some 88, .call 26 [(.t 86), (.t 87)], none⟩,
                        ⟨some 14, .mov (.t 88), none⟩])
                     (.seq (.seq (.reg [⟨some 89, .mov (.t 14), none⟩,
                          ⟨some 90, .bin .lss (.t 89) (.k (.int .i64 0)), none⟩])
                       (.cond (.t 90)
                        (.seq (.reg [⟨some 4, .mov (.k (.bool false)), none⟩])
                         (.ret))
                        (.skip)))
                      (.seq (.seq (.reg [⟨some 91, .mov (.t 14), none⟩,
                           ⟨some 92, .mov (.t 13), none⟩,
                           ⟨some 93, .bin .neq (.t 91) (.t 92), none⟩])
                        (.cond (.t 93)
                         (.seq (.reg [⟨some 4, .mov (.k (.bool false)), none⟩])
                          (.ret))
                         (.skip)))
                       (.seq (.dreg [false, false, false, true, true, true, false, false, false, true] [⟨some 95, .load 2 true (.t 2), none⟩,
                           ⟨some 96, .call 15 [(.t 95)], none⟩,
                           ⟨some 97, .load 2 true (.t 3), none⟩,
                           ⟨some 98, .call 15 [(.t 97)], none⟩,
                           ⟨some 99, .call 23 [(.t 96), (.t 98)], none⟩,
                           ⟨some 94, .mov (.t 99), none⟩,
                           ⟨some 100, .extr (.t 94) 0, none⟩,
                           ⟨some 101, .extr (.t 94) 1, none⟩,
                           ⟨some 15, .mov (.t 100), none⟩,
                           ⟨some 16, .mov (.t 101), none⟩])
                        (.seq (.seq (.reg [⟨some 102, .mov (.t 15), none⟩,
                             ⟨some 103, .mov (.t 6), none⟩,
                             ⟨some 104, .call 19 [(.t 102), (.t 103)], none⟩,
                             ⟨some 105, .not (.t 104), none⟩,
                             ⟨some 106, .mov (.t 105), none⟩,
                             ⟨some 107, .mov (.t 16), some (106, false)⟩,
                             ⟨some 108, .mov (.t 7), some (106, false)⟩,
                             ⟨some 109, .beq true (.t 107) (.t 108), some (106, false)⟩,
                             ⟨some 110, .pick (.t 106) (.k (.bool true)) (.t 109), none⟩])
                          (.cond (.t 110)
                           (.seq (.reg [⟨some 4, .mov (.k (.bool false)), none⟩])
                            (.ret))
                           (.skip)))
                         (.seq (.reg [⟨some 14, .mov (.k (.int .i64 1)), none⟩])
                          (.seq (.reg [⟨some 111, .mov (.t 10), none⟩,
                              ⟨some 112, .mov (.t 14), none⟩,
                              ⟨some 113, .call 26 [(.t 111), (.t 112)], none⟩,
                              ⟨some 14, .mov (.t 113), none⟩])
                           (.seq (.seq (.reg [⟨some 114, .mov (.t 14), none⟩,
                                ⟨some 115, .bin .lss (.t 114) (.k (.int .i64 0)), none⟩])
                             (.cond (.t 115)
                              (.seq (.reg [⟨some 4, .mov (.k (.bool false)), none⟩])
                               (.ret))
                              (.skip)))
                            (.seq (.seq (.reg [⟨some 116, .mov (.t 14), none⟩,
                                 ⟨some 117, .mov (.t 13), none⟩,
                                 ⟨some 118, .bin .neq (.t 116) (.t 117), none⟩])
                              (.cond (.t 118)
                               (.seq (.reg [⟨some 4, .mov (.k (.bool false)), none⟩])
                                (.ret))
                               (.skip)))
                             (.seq (.reg [⟨some 4, .mov (.k (.bool true)), none⟩])
                              (.ret))))))))))))))))))))))))))))))⟩
theorem fok_laws_FnExactFindEmbedding : FOk Try.prog 5 code_laws_FnExactFindEmbedding := fok Try.func5 (by kernel_rfl)
theorem nodeBs_get7 (b : Nat) (x : Node) : (nodeBs b x)[7]? = some (.row true 3 1 (x.vars.map encInt)) := rfl
theorem nodeBs_get8 (b : Nat) (x : Node) : (nodeBs b x)[8]? = some (.row true 3 1 (x.reach.map encInt)) := rfl
def szN (x : Node) : Nat := x.vars.length + x.reach.length + 2
/-- The blocks of some nodes stand in a heap. -/
def laidIn (H : List Blk) (b : Nat) (xs : List Node) : Prop := ∀ j k, (lblk b xs)[j]? = some k → H[b + j]? = some k
theorem laidIn_cons {H : List Blk} {b : Nat} {x : Node} {xs : List Node} (h : laidIn H b (x :: xs)) : H[b + 7]? = some (.row true 3 1 (x.vars.map encInt)) ∧ H[b + 8]? = some (.row true 3 1 (x.reach.map encInt)) ∧ laidIn H (b + 9) xs := by
  refine ⟨h 7 _ rfl, h 8 _ rfl, fun j k hk => ?_⟩
  have := h (9 + j) k (by
    rw [show lblk b (x :: xs) = nodeBs b x ++ lblk (b + 9) xs from rfl, List.getElem?_append_right (by simp [nodeBs])]
    simpa [nodeBs] using hk)
  rwa [show b + (9 + j) = b + 9 + j by omega] at this
theorem lend_laid {H : List Blk} {d : Nat} : ∀ {b : Nat} {xs : List Node}, laidIn H b xs → lendEls (fun _ _ => true) H (d + 2) (laid b xs) = some (xs.map encNode)
  | _, [], _ => by simp [laid, lendEls]
  | b, x :: xs, h => by
    obtain ⟨h7, h8, ht⟩ := laidIn_cons h
    have ih := lend_laid (d := d) ht
    have e1 : lendC (fun _ _ => true) H (d + 2) (.slref (b + 7) 0 x.vars.length x.vars.length) = some (encL 1 encInt x.vars) := by
      simp [lendC, h7]
    have e2 : lendC (fun _ _ => true) H (d + 2) (.slref (b + 8) 0 x.reach.length x.reach.length) = some (encL 1 encInt x.reach) := by
      simp [lendC, h8]
    simp only [laid, nodeAt, lendEls, lendCs, e1, e2, ih, lendC, List.map_cons]
    rfl
theorem rowOk_laid {H : List Blk} {lo hi : Nat} : ∀ {b : Nat} {xs : List Node}, laidIn H b xs → lo ≤ b → b + 9 * xs.length ≤ hi → (∀ x ∈ xs, szNode x ≤ 1048576) → ∀ e ∈ laid b xs, nodeOk H lo hi e
  | _, [], _, _, _, _, e, he => by simp [laid] at he
  | b, x :: xs, h, h1, h2, h3, e, he => by
    obtain ⟨h7, h8, ht⟩ := laidIn_cons h
    simp only [List.length_cons] at h2
    have hx := h3 x (by simp)
    simp only [szNode] at hx
    rcases List.mem_cons.1 he with rfl | he
    · exact ⟨_, _, _, _, rfl, ⟨b + 7, x.vars, rfl, ⟨by omega, by omega⟩, h7, by omega⟩, ⟨b + 8, x.reach, rfl, ⟨by omega, by omega⟩, h8, by omega⟩⟩
    · exact rowOk_laid ht (by omega) (by omega) (fun y hy => h3 y (by simp [hy])) e he
theorem laid_sz : ∀ (b : Nat) (xs : List Node), (laid b xs).map nodeSz = xs.map szN
  | _, [] => rfl
  | b, x :: xs => by simp [laid, nodeAt, nodeSz, lenA, szN, laid_sz (b + 9) xs]
theorem szN_sum (xs : List Node) : (xs.map szN).sum ≤ 2 * szNodes xs := by
  unfold szNodes
  induction xs with
  | nil => simp
  | cons x xs ih => simp only [List.map_cons, List.sum_cons, List.length_cons, szN, szNode] at ih ⊢; omega
/-- A structure stands in a heap, in blocks of its own from a place on. -/
structure StrcIn (H : List Blk) (b : Nat) (x : Strc) : Prop where
  row : H[b + 7]? = some (.row true 95 4 (laid (b + 8) x.nodes))
  nodes : laidIn H (b + 8) x.nodes
  next : H[b + 8 + 9 * x.nodes.length]? = some (.row true 3 1 (x.next.map encInt))
theorem strcIn_mk {A C : List Blk} {x : Strc} : StrcIn (A ++ ((strcBs x).map (shB A.length) ++ C)) A.length x := by
  have e : (strcBs x).map (shB A.length) = (strcBs x).map (shB A.length) := rfl
  have hl : (strcBs x).length = 9 + 9 * x.nodes.length := by simp [strcBs, lblk_len]; omega
  have get : ∀ j k, (strcBs x)[j]? = some k → (A ++ ((strcBs x).map (shB A.length) ++ C))[A.length + j]? = some (shB A.length k) := fun j k hk => by
    have hj := (List.getElem?_eq_some_iff.1 hk).1
    rw [getHk, List.getElem?_append_left (by simpa using hj), List.getElem?_map, hk]; rfl
  refine ⟨?_, fun j k hk => ?_, ?_⟩
  · rw [get 7 (.row true 95 4 (laid 8 x.nodes)) rfl]
    simp [laid_sh]
  · rw [show lblk (A.length + 8) x.nodes = (lblk 8 x.nodes).map (shB A.length) from (lblk_sh _ _ _).symm, List.getElem?_map] at hk
    obtain ⟨q, hq, rfl⟩ := Option.map_eq_some_iff.1 hk
    have hj := (List.getElem?_eq_some_iff.1 hq).1
    have := get (8 + j) q (by
      show (([.dead, .dead, .dead, .cells [.slref 7 0 x.nodes.length x.nodes.length, .slref (8 + 9 * x.nodes.length) 0 x.next.length x.next.length], .dead, .dead, .dead] ++ ((.row true 95 4 (laid 8 x.nodes) :: lblk 8 x.nodes) ++ [.row true 3 1 (x.next.map encInt)])) : List Blk)[8 + j]? = some q
      rw [List.getElem?_append_right (by simp; omega)]
      simp only [List.length_cons, List.length_nil]
      rw [show 8 + j - (0 + 1 + 1 + 1 + 1 + 1 + 1 + 1) = j + 1 by omega, List.getElem?_append_left (by simpa using hj), List.getElem?_cons_succ, hq])
    rwa [show A.length + (8 + j) = A.length + 8 + j by omega] at this
  · have := get (8 + 9 * x.nodes.length) (.row true 3 1 (x.next.map encInt)) (by
      show (([.dead, .dead, .dead, .cells [.slref 7 0 x.nodes.length x.nodes.length, .slref (8 + 9 * x.nodes.length) 0 x.next.length x.next.length], .dead, .dead, .dead] ++ ((.row true 95 4 (laid 8 x.nodes) :: lblk 8 x.nodes) ++ [.row true 3 1 (x.next.map encInt)])) : List Blk)[8 + 9 * x.nodes.length]? = _
      rw [List.getElem?_append_right (by simp; omega), List.getElem?_append_right (by simp [lblk_len]; omega)]
      simp only [List.length_cons, List.length_nil, lblk_len]
      rw [show 8 + 9 * x.nodes.length - (0 + 1 + 1 + 1 + 1 + 1 + 1 + 1) - (9 * x.nodes.length + 1) = 0 by omega]
      rfl)
    rw [show A.length + (8 + 9 * x.nodes.length) = A.length + 8 + 9 * x.nodes.length by omega] at this
    rw [this]
    simp
theorem StrcIn.congr {H H' : List Blk} {b : Nat} {x : Strc} (h : StrcIn H b x) (he : ∀ j, b ≤ j → j < b + 9 + 9 * x.nodes.length → H'[j]? = H[j]?) : StrcIn H' b x := by
  refine ⟨by rw [he _ (by omega) (by omega), h.row], fun j k hk => ?_, by rw [he _ (by omega) (by omega), h.next]⟩
  have hj := (List.getElem?_eq_some_iff.1 hk).1
  rw [lblk_len] at hj
  rw [he _ (by omega) (by omega)]
  exact h.nodes j k hk
theorem StrcIn.lend {H : List Blk} {b : Nat} {x : Strc} (h : StrcIn H b x) : lendC (fun _ _ => true) H 20 (.slref (b + 7) 0 x.nodes.length x.nodes.length) = some (encL 4 encNode x.nodes) ∧ lendC (fun _ _ => true) H 20 (.slref (b + 8 + 9 * x.nodes.length) 0 x.next.length x.next.length) = some (encL 1 encInt x.next) := by
  constructor
  · have e := lend_laid (d := 17) h.nodes
    have hl := laid_len (b + 8) x.nodes
    simp only [lendC, h.row, hl, Nat.zero_add, Nat.le_refl, and_self, if_true, List.drop_zero]
    rw [List.take_of_length_le (by omega), e]
    rfl
  · simp [lendC, h.next]
theorem StrcIn.rowOk {H : List Blk} {b : Nat} {x : Strc} (h : StrcIn H b x) (hx : szStrc x ≤ 1048576) : rowOk H (b + 7) (b + 8 + 9 * x.nodes.length) (b + 7) (x.nodes.map szN) := by
  refine ⟨⟨by omega, by omega⟩, _, h.row, laid_sz _ _, rowOk_laid h.nodes (by omega) (by omega) fun y hy => ?_⟩
  have h1 := sum_mem szNode hy
  have h2 : szStrc x = szNodes x.nodes + x.next.length := rfl
  have h3 : szNodes x.nodes = x.nodes.length + (x.nodes.map szNode).sum := rfl
  omega
@[simp] def ct_markNil : CtH := ⟨25, Int, fun _ _ => True, fun k => [.sl .nil 0 [], .int .i64 k], fun k _ => .int .i64 k, fun _ H => H⟩
theorem ok_markNil : ct_markNil.Ok Try.prog := by
  intro k H _
  change Int at k
  refine OkH.of_cw' fok_laws_markIntS (go_ok tab_nil ?_)
  simp [code_laws_markIntS, List.replicate]
  refine cw_round (fun (p : Nat) => ⟨slots 19 [(0, .sl .nil 0 []), (1, .int .i64 k), (5, .int .i64 p)], H⟩)
    (fun p => p = 0) (fun p => 0) 0 rfl ?_ ?_
  · exact weak_slots (by simp [List.replicate, less_undef, less_refl])
  · rintro N hN i hi
    subst hi
    refine go_ok tab_nil ?_
    simp [List.replicate, retH]
theorem emb_cases (x y : Strc) (G : List Blk) : ∃ gA : AV, sh G.length (embV x y) = .tup [gA, .bool (embed x y).isSome] ∧ ((gA = .sl .nil 0 [] ∧ (embed x y).getD [] = []) ∨
    ∃ f, gA = .slref f 0 ((embed x y).getD []).length ((embed x y).getD []).length ∧ G.length ≤ f ∧ (G ++ (embH x y).map (shB G.length))[f]? = some (.row true 3 1 (((embed x y).getD []).map encInt))) := by
  cases r : embed x y with
  | none => exact ⟨.sl .nil 0 [], by simp [embV, r], .inl ⟨rfl, rfl⟩⟩
  | some out =>
    have hl := findE_len r
    have hv : embV x y = .tup [fav0 x y 3 x.nodes.length, .bool true] := by simp [embV, r]
    rw [hv, fav0_eq r]
    have hH : embH x y = .dead :: .dead :: .dead :: rowsE x.nodes.length 0 out := by simp [embH, r]
    cases q : x.nodes.length with
    | zero =>
      have : out = [] := List.eq_nil_of_length_eq_zero (by omega)
      subst this
      exact ⟨.sl .nil 0 [], by simp, .inl ⟨rfl, rfl⟩⟩
    | succ n =>
      rw [q] at hH
      have g1 := rowsE_get n 0 out
      rw [List.take_of_length_le (by omega)] at g1
      refine ⟨.slref (G.length + (if n + 1 = 1 then 4 else 3 + 2 * (n + 1 - 1))) 0 out.length out.length, by simp, .inr ⟨_, rfl, by omega, ?_⟩⟩
      rw [getHk, List.getElem?_map, hH]
      by_cases h1 : n = 0
      · subst h1
        have e1 : out.length = 1 := by omega
        obtain ⟨v, rfl⟩ := List.length_eq_one_iff.1 e1
        simp [rowsE]
      · have h2 : ¬ n + 1 = 1 := by omega
        rw [if_neg h2, show 3 + 2 * (n + 1 - 1) = 2 * n + 1 + 1 + 1 by omega, List.getElem?_cons_succ, List.getElem?_cons_succ, List.getElem?_cons_succ, g1]
        simp
set_option maxHeartbeats 8000000 in
set_option maxRecDepth 100000 in
theorem ok_lawFindEmbedding (x y : Strc) : Ok Try.prog 5 [encStrc x, encStrc y] (.bool true) := by
  by_cases h1 : (szStrc x : Int) ≤ 1048576
  case neg =>
    refine Ok.of_cw fok_laws_FnExactFindEmbedding (go_ok (tab_cons ok_szStrc tab_nil) ?_)
    simp [code_laws_FnExactFindEmbedding, List.replicate, left_neg (by omega : (1048576:Int) < szStrc x)]
  have l1 := left_ge h1
  by_cases h2 : (szStrc y : Int) ≤ 1048576 - szStrc x
  case neg =>
    refine Ok.of_cw fok_laws_FnExactFindEmbedding (go_ok (tab_cons ok_szStrc tab_nil) ?_)
    simp [code_laws_FnExactFindEmbedding, List.replicate, l1, left_neg (by omega : (1048576:Int) - szStrc x < szStrc y)]
    omega
  have l2 := left_ge h2
  have hx : szStrc x ≤ 1048576 := by omega
  have hy : szStrc y ≤ 1048576 := by omega
  have a1 : ¬ ((1048576 : Int) - szStrc x < 0) := by omega
  have a1' : ¬ ((1048576 : Int) < szStrc x) := by omega
  have a2 : (szStrc x : Int) ≤ 1048576 := h1
  have a4 : (1048576 : Int) - szStrc x ≤ 1048576 := by omega
  have a3 : ¬ ((1048576 : Int) - szStrc x - szStrc y < 0) := by omega
  have a3' : ¬ ((1048576 : Int) - szStrc x < szStrc y) := by omega
  have hS : TabOk Try.prog _ := tab_cons ok_szStrc (tab_cons ok_toStrc (tab_cons ok_sFindEmb (tab_cons ok_pFindEmbP (tab_cons ok_eqStrc (tab_cons ok_eqIntS (tab_cons ok_heldI tab_nil))))))
  refine Ok.of_cw fok_laws_FnExactFindEmbedding ?_
  simp only [code_laws_FnExactFindEmbedding, frame, List.length_cons, List.length_nil, List.replicate, Nat.reduceSub, Nat.reduceAdd, List.cons_append, List.nil_append]
  refine cw_seq (go_ok hS ?_); simp [List.replicate]
  refine cw_seq (go_ok hS ?_); simp
  refine cw_seq (go_ok hS ?_); simp [l1, h1]
  refine cw_seq (go_ok hS ?_); simp [a1, a1']
  refine cw_seq (go_ok hS ?_); simp [l2, h2, a2, a4]
  refine cw_seq (go_ok hS ?_); simp [a3, a3']
  refine cw_seq (go_ok hS ?_); simp [hx, hy]
  generalize hw : (embed x y).getD [] = w0
  generalize hv : (embed x y).isSome = b0
  refine cw_weak (weak_seal (n0 := 0) 2 (by simp) (t' := slots 119 [(2, .pbox 0 0), (3, .pbox 1 0), (6, encL 1 encInt w0), (7, .bool b0)]) (H' := [.cells [encL 4 encNode x.nodes, encL 1 encInt x.next], .cells [encL 4 encNode y.nodes, encL 1 encInt y.next]]) (by simp [List.replicate]) (by simp [List.replicate])) ?_
  refine cw_seq (go_ok (tab_h (CtN.hok ok_toStrcN) tab_nil) ?_); simp [List.replicate, hx, strcAt]
  have sX : StrcIn (.cells [encL 4 encNode x.nodes, encL 1 encInt x.next] :: .cells [encL 4 encNode y.nodes, encL 1 encInt y.next] :: (List.map (shB 2) (strcBs x) ++ [.nrow, .nrow, .cells [.slref 9 0 x.nodes.length x.nodes.length, .slref (2 + (8 + 9 * x.nodes.length)) 0 x.next.length x.next.length]])) 2 x := strcIn_mk (A := [.cells [encL 4 encNode x.nodes, encL 1 encInt x.next], .cells [encL 4 encNode y.nodes, encL 1 encInt y.next]])
  have sL : (.cells [encL 4 encNode x.nodes, encL 1 encInt x.next] :: .cells [encL 4 encNode y.nodes, encL 1 encInt y.next] :: (List.map (shB 2) (strcBs x) ++ [.nrow, .nrow, .cells [.slref 9 0 x.nodes.length x.nodes.length, .slref (2 + (8 + 9 * x.nodes.length)) 0 x.next.length x.next.length]]) : List Blk).length = (strcBs x).length + 5 := by simp
  have s0 : (.cells [encL 4 encNode x.nodes, encL 1 encInt x.next] :: .cells [encL 4 encNode y.nodes, encL 1 encInt y.next] :: (List.map (shB 2) (strcBs x) ++ [.nrow, .nrow, .cells [.slref 9 0 x.nodes.length x.nodes.length, .slref (2 + (8 + 9 * x.nodes.length)) 0 x.next.length x.next.length]]) : List Blk)[(strcBs x).length + 1 + 1 + 2]? = some (.cells [.slref 9 0 x.nodes.length x.nodes.length, .slref (2 + (8 + 9 * x.nodes.length)) 0 x.next.length x.next.length]) := by
    rw [List.getElem?_cons_succ, List.getElem?_cons_succ, List.getElem?_append_right (by simp)]
    simp
  have s1 : (.cells [encL 4 encNode x.nodes, encL 1 encInt x.next] :: .cells [encL 4 encNode y.nodes, encL 1 encInt y.next] :: (List.map (shB 2) (strcBs x) ++ [.nrow, .nrow, .cells [.slref 9 0 x.nodes.length x.nodes.length, .slref (2 + (8 + 9 * x.nodes.length)) 0 x.next.length x.next.length]]) : List Blk)[0]? = some (.cells [encL 4 encNode x.nodes, encL 1 encInt x.next]) := rfl
  have s2 : (.cells [encL 4 encNode x.nodes, encL 1 encInt x.next] :: .cells [encL 4 encNode y.nodes, encL 1 encInt y.next] :: (List.map (shB 2) (strcBs x) ++ [.nrow, .nrow, .cells [.slref 9 0 x.nodes.length x.nodes.length, .slref (2 + (8 + 9 * x.nodes.length)) 0 x.next.length x.next.length]]) : List Blk)[1]? = some (.cells [encL 4 encNode y.nodes, encL 1 encInt y.next]) := rfl
  generalize hG : (.cells [encL 4 encNode x.nodes, encL 1 encInt x.next] :: .cells [encL 4 encNode y.nodes, encL 1 encInt y.next] :: (List.map (shB 2) (strcBs x) ++ [.nrow, .nrow, .cells [.slref 9 0 x.nodes.length x.nodes.length, .slref (2 + (8 + 9 * x.nodes.length)) 0 x.next.length x.next.length]]) : List Blk) = G at *
  clear hG
  have hbx : (strcBs x).length = 9 + 9 * x.nodes.length := by simp [strcBs, lblk_len]; omega
  have hby : (strcBs y).length = 9 + 9 * y.nodes.length := by simp [strcBs, lblk_len]; omega
  generalize hP0 : (strcBs x).length + 1 + 1 + 2 = P0 at *
  generalize hC0 : 2 + (8 + 9 * x.nodes.length) = C0 at *
  have g1 : ∀ a b c, (G ++ (List.map (shB G.length) (strcBs y) ++ [a, b, c]))[G.length + (strcBs y).length + 2]? = some c := fun a b c => by
    rw [Nat.add_assoc, getHk, List.getElem?_append_right (by simp)]; simp
  have g2 : ∀ a b c d, (G ++ (List.map (shB G.length) (strcBs y) ++ [a, b, c])).set (G.length + (strcBs y).length + 2) d = G ++ (List.map (shB G.length) (strcBs y) ++ [a, b, d]) := fun a b c d => by
    rw [Nat.add_assoc, setHk, List.set_append_right _ _ (by simp)]; simp
  refine cw_seq (go_ok (tab_h (CtN.hok ok_toStrcN) tab_nil) ?_); simp [List.replicate, hy, strcAt, s1, s2, getH0, getHk, setH0, setHk, g1, g2]
  have tY : StrcIn (G ++ (List.map (shB G.length) (strcBs y) ++ [Blk.nrow, Blk.nrow, Blk.cells [.slref (G.length + 7) 0 y.nodes.length y.nodes.length, .slref (G.length + (8 + 9 * y.nodes.length)) 0 y.next.length y.next.length]])) G.length y := strcIn_mk
  have t3 := g1 .nrow .nrow (.cells [.slref (G.length + 7) 0 y.nodes.length y.nodes.length, .slref (G.length + (8 + 9 * y.nodes.length)) 0 y.next.length y.next.length])
  have tl : (G ++ (List.map (shB G.length) (strcBs y) ++ [Blk.nrow, Blk.nrow, Blk.cells [.slref (G.length + 7) 0 y.nodes.length y.nodes.length, .slref (G.length + (8 + 9 * y.nodes.length)) 0 y.next.length y.next.length]])).length = G.length + (strcBs y).length + 3 := by simp; omega
  have hpre : ∀ j, j < G.length → (G ++ (List.map (shB G.length) (strcBs y) ++ [Blk.nrow, Blk.nrow, Blk.cells [.slref (G.length + 7) 0 y.nodes.length y.nodes.length, .slref (G.length + (8 + 9 * y.nodes.length)) 0 y.next.length y.next.length]]))[j]? = G[j]? := fun j hj => List.getElem?_append_left hj
  generalize G ++ (List.map (shB G.length) (strcBs y) ++ [Blk.nrow, Blk.nrow, Blk.cells [.slref (G.length + 7) 0 y.nodes.length y.nodes.length, .slref (G.length + (8 + 9 * y.nodes.length)) 0 y.next.length y.next.length]]) = G2 at *
  generalize hP1 : G.length + (strcBs y).length + 2 = P1 at *
  generalize hC1 : G.length + (8 + 9 * y.nodes.length) = C1 at *
  generalize hB1 : G.length + 7 = B1 at *
  have u0 : G2[P0]? = some (.cells [.slref 9 0 x.nodes.length x.nodes.length, .slref C0 0 x.next.length x.next.length]) := by rw [hpre _ (by omega), s0]
  have u1 : G2[0]? = some (.cells [encL 4 encNode x.nodes, encL 1 encInt x.next]) := by rw [hpre _ (by omega), s1]
  have u2 : G2[1]? = some (.cells [encL 4 encNode y.nodes, encL 1 encInt y.next]) := by rw [hpre _ (by omega), s2]
  have uX : StrcIn G2 2 x := sX.congr fun j _ hj => hpre j (by omega)
  have uL : P1 < G2.length := by omega
  have dP0 : P0 = 13 + 9 * x.nodes.length := by omega
  have dC0 : C0 = 10 + 9 * x.nodes.length := by omega
  have dL : G.length = 14 + 9 * x.nodes.length := by omega
  have dB1 : B1 = 21 + 9 * x.nodes.length := by omega
  have dC1 : C1 = 22 + 9 * x.nodes.length + 9 * y.nodes.length := by omega
  have dP1 : P1 = 25 + 9 * x.nodes.length + 9 * y.nodes.length := by omega
  rw [dL] at tY
  clear hpre tl g1 g2 s0 s1 s2 sX sL hP0 hP1 hC0 hC1 hB1
  have lx : ∀ G', StrcIn G' 2 x → lendC (fun _ _ => true) G' 20 (.slref 9 0 x.nodes.length x.nodes.length) = some (encL 4 encNode x.nodes) ∧ lendC (fun _ _ => true) G' 20 (.slref C0 0 x.next.length x.next.length) = some (encL 1 encInt x.next) := fun G' h => by
    have := h.lend
    rwa [show 2 + 8 + 9 * x.nodes.length = C0 by omega] at this
  have ly : ∀ G', StrcIn G' (14 + 9 * x.nodes.length) y → lendC (fun _ _ => true) G' 20 (.slref B1 0 y.nodes.length y.nodes.length) = some (encL 4 encNode y.nodes) ∧ lendC (fun _ _ => true) G' 20 (.slref C1 0 y.next.length y.next.length) = some (encL 1 encInt y.next) := fun G' h => by
    have := h.lend
    rwa [show 14 + 9 * x.nodes.length + 7 = B1 by omega, show 14 + 9 * x.nodes.length + 8 + 9 * y.nodes.length = C1 by omega] at this
  obtain ⟨x1, x2⟩ := lx G2 uX
  obtain ⟨y1, y2⟩ := ly G2 tY
  obtain ⟨gA, hgA, hgB⟩ := emb_cases x y G2
  rw [hv] at hgA
  rw [hw] at hgB
  refine cw_seq (go_ok (tab_h (CtN.hok ok_pFindEmb) tab_nil) ?_); simp [List.replicate, hx, hy, u0, t3, x1, x2, y1, y2, hgA]
  have hwl : w0.length ≤ 1048576 := by
    rw [← hw]
    have := (strc_le x).1
    cases r : embed x y with
    | none => simp
    | some out => have := findE_len r; simp; omega
  have hpre : ∀ j, j < G2.length → (G2 ++ List.map (shB G2.length) (embH x y))[j]? = G2[j]? := fun j hj => List.getElem?_append_left hj
  have hlen : G2.length ≤ (G2 ++ List.map (shB G2.length) (embH x y)).length := by simp
  have uY : StrcIn G2 (14 + 9 * x.nodes.length) y := tY
  rcases hgB with ⟨rfl, hw0⟩ | ⟨f, rfl, hf, hfr⟩
  · subst hw0
    generalize G2 ++ List.map (shB G2.length) (embH x y) = G3 at *
    have v0 : G3[P0]? = _ := (hpre _ (by omega)).trans u0
    have v1 : G3[0]? = _ := (hpre _ (by omega)).trans u1
    have v2 : G3[1]? = _ := (hpre _ (by omega)).trans u2
    have v3 : G3[P1]? = _ := (hpre _ (by omega)).trans t3
    have vX : StrcIn G3 2 x := uX.congr fun j _ hj => hpre j (by omega)
    have vY : StrcIn G3 (14 + 9 * x.nodes.length) y := uY.congr fun j _ hj => hpre j (by omega)
    have vL : P1 < G3.length := by omega
    obtain ⟨x3, x4⟩ := lx G3 vX
    obtain ⟨y3, y4⟩ := ly G3 vY
    clear x1 x2 y1 y2 u0 u1 u2 t3 uX uY tY
    have bX := szN_sum x.nodes
    have bY := szN_sum y.nodes
    have bX2 : szStrc x = szNodes x.nodes + x.next.length := rfl
    have bY2 : szStrc y = szNodes y.nodes + y.next.length := rfl
    have bX3 : x.nodes.length ≤ 1048576 := by have := (strc_le x).1; omega
    have bY3 : y.nodes.length ≤ 1048576 := by have := (strc_le y).1; omega
    refine cw_seq (go_ok hS ?_); simp [List.replicate]
    refine cw_seq (go_ok hS ?_); simp [List.replicate, hx, x3, x4, v0, v1, v2, v3]
    refine cw_seq (go_ok hS ?_); simp [List.replicate, hy, y3, y4, v0, v1, v2, v3]
    refine cw_seq (go_ok hS ?_); simp [List.replicate]
    refine cw_seq (go_ok (tab_h ok_markStrc tab_nil) ?_); simp [List.replicate, v0]
    have rX : rowOk G3 9 C0 9 (x.nodes.map szN) := by have := vX.rowOk hx; rwa [show 2 + 8 + 9 * x.nodes.length = C0 by omega] at this
    have nX := vX.next
    rw [show 2 + 8 + 9 * x.nodes.length = C0 by omega] at nX
    refine ⟨x.nodes.map szN, by simp, 9, C0, x.next, rfl, by omega, by simp; omega, by omega, by omega, by omega, Nat.le_refl _, rX, nX, ?_⟩
    have e4 : ∀ j, j < 9 ∨ C0 < j → ((deadR 9 C0 G3).set C0 (.row true 3 1 (List.map encInt (marks (1 + ((x.nodes.map szN).sum : Nat)) x.next.length))))[j]? = G3[j]? := fun j hj => by rw [List.getElem?_set_ne (by omega), deadR_get (by omega) (by omega), if_pos (by omega)]
    have l4 : ((deadR 9 C0 G3).set C0 (.row true 3 1 (List.map encInt (marks (1 + ((x.nodes.map szN).sum : Nat)) x.next.length)))).length = G3.length := by rw [List.length_set, deadR_len (by omega) (by omega)]
    generalize (deadR 9 C0 G3).set C0 (.row true 3 1 (List.map encInt (marks (1 + ((x.nodes.map szN).sum : Nat)) x.next.length))) = G4 at *
    have wY : StrcIn G4 (14 + 9 * x.nodes.length) y := vY.congr fun j hj _ => e4 j (by omega)
    have w3 : G4[P1]? = _ := (e4 _ (by omega)).trans v3
    refine cw_seq (go_ok (tab_h ok_markStrc tab_nil) ?_); simp [List.replicate, w3]
    have rY : rowOk G4 B1 C1 B1 (y.nodes.map szN) := by have := wY.rowOk hy; rwa [show 14 + 9 * x.nodes.length + 7 = B1 by omega, show 14 + 9 * x.nodes.length + 8 + 9 * y.nodes.length = C1 by omega] at this
    have nY := wY.next
    rw [show 14 + 9 * x.nodes.length + 8 + 9 * y.nodes.length = C1 by omega] at nY
    refine ⟨y.nodes.map szN, by simp, B1, C1, y.next, rfl, by omega, by omega, by omega, by simp; omega, by omega, by omega, by omega, Nat.le_refl _, rY, nY, ?_⟩
    have e5 : ∀ j, j < B1 ∨ C1 < j → ((deadR B1 C1 G4).set C1 (.row true 3 1 (List.map encInt (marks (1 + ((x.nodes.map szN).sum : Nat) + x.next.length + ((y.nodes.map szN).sum : Nat)) y.next.length))))[j]? = G4[j]? := fun j hj => by rw [List.getElem?_set_ne (by omega), deadR_get (by omega) (by omega), if_pos (by omega)]
    generalize (deadR B1 C1 G4).set C1 (.row true 3 1 (List.map encInt (marks (1 + ((x.nodes.map szN).sum : Nat) + x.next.length + ((y.nodes.map szN).sum : Nat)) y.next.length))) = G5 at *
    have z1 : G5[0]? = _ := (e5 _ (by omega)).trans ((e4 _ (by omega)).trans v1)
    have z2 : G5[1]? = _ := (e5 _ (by omega)).trans ((e4 _ (by omega)).trans v2)
    have nk : ¬ (1 + (((x.nodes.map szN).sum : Nat) : Int) + x.next.length + ((y.nodes.map szN).sum : Nat) + y.next.length < 0) := by omega
    refine cw_seq (go_ok hS ?_); simp [List.replicate, nk]
    refine cw_seq (go_ok hS ?_); simp [List.replicate]
    refine cw_seq (go_ok (tab_h ok_markNil tab_nil) ?_); simp [List.replicate]
    refine cw_seq (go_ok hS ?_); simp [List.replicate]
    refine cw_seq (go_ok hS ?_); simp [List.replicate, marks]
    refine cw_seq (go_ok hS ?_); simp [List.replicate, marks]
    refine cw_seq (go_ok hS ?_); simp [List.replicate, marks]
    refine cw_seq (go_ok hS ?_); simp [List.replicate, hx, hy, z1, z2, hw, hv]
    refine cw_seq (go_ok hS ?_); simp [List.replicate]
    refine cw_seq (go_ok hS ?_); simp [List.replicate]
    refine cw_seq (go_ok hS ?_); simp [List.replicate, marks]
    refine cw_seq (go_ok hS ?_); simp [List.replicate, marks]
    refine cw_seq (go_ok hS ?_); simp [List.replicate, marks]
    refine go_ok hS ?_; simp [List.replicate]
  · have lg : lendC (fun _ _ => true) (G2 ++ List.map (shB G2.length) (embH x y)) 20 (.slref f 0 w0.length w0.length) = some (encL 1 encInt w0) := by simp [lendC, hfr]
    generalize G2 ++ List.map (shB G2.length) (embH x y) = G3 at *
    have v0 : G3[P0]? = _ := (hpre _ (by omega)).trans u0
    have v1 : G3[0]? = _ := (hpre _ (by omega)).trans u1
    have v2 : G3[1]? = _ := (hpre _ (by omega)).trans u2
    have v3 : G3[P1]? = _ := (hpre _ (by omega)).trans t3
    have vX : StrcIn G3 2 x := uX.congr fun j _ hj => hpre j (by omega)
    have vY : StrcIn G3 (14 + 9 * x.nodes.length) y := uY.congr fun j _ hj => hpre j (by omega)
    have vL : P1 < G3.length := by omega
    obtain ⟨x3, x4⟩ := lx G3 vX
    obtain ⟨y3, y4⟩ := ly G3 vY
    clear x1 x2 y1 y2 u0 u1 u2 t3 uX uY tY
    have bX := szN_sum x.nodes
    have bY := szN_sum y.nodes
    have bX2 : szStrc x = szNodes x.nodes + x.next.length := rfl
    have bY2 : szStrc y = szNodes y.nodes + y.next.length := rfl
    have bX3 : x.nodes.length ≤ 1048576 := by have := (strc_le x).1; omega
    have bY3 : y.nodes.length ≤ 1048576 := by have := (strc_le y).1; omega
    refine cw_seq (go_ok hS ?_); simp [List.replicate, lg]
    refine cw_seq (go_ok hS ?_); simp [List.replicate, hx, x3, x4, v0, v1, v2, v3]
    refine cw_seq (go_ok hS ?_); simp [List.replicate, hy, y3, y4, v0, v1, v2, v3]
    refine cw_seq (go_ok hS ?_); simp [List.replicate]
    refine cw_seq (go_ok (tab_h ok_markStrc tab_nil) ?_); simp [List.replicate, v0]
    have rX : rowOk G3 9 C0 9 (x.nodes.map szN) := by have := vX.rowOk hx; rwa [show 2 + 8 + 9 * x.nodes.length = C0 by omega] at this
    have nX := vX.next
    rw [show 2 + 8 + 9 * x.nodes.length = C0 by omega] at nX
    refine ⟨x.nodes.map szN, by simp, 9, C0, x.next, rfl, by omega, by simp; omega, by omega, by omega, by omega, Nat.le_refl _, rX, nX, ?_⟩
    have e4 : ∀ j, j < 9 ∨ C0 < j → ((deadR 9 C0 G3).set C0 (.row true 3 1 (List.map encInt (marks (1 + ((x.nodes.map szN).sum : Nat)) x.next.length))))[j]? = G3[j]? := fun j hj => by rw [List.getElem?_set_ne (by omega), deadR_get (by omega) (by omega), if_pos (by omega)]
    have l4 : ((deadR 9 C0 G3).set C0 (.row true 3 1 (List.map encInt (marks (1 + ((x.nodes.map szN).sum : Nat)) x.next.length)))).length = G3.length := by rw [List.length_set, deadR_len (by omega) (by omega)]
    generalize (deadR 9 C0 G3).set C0 (.row true 3 1 (List.map encInt (marks (1 + ((x.nodes.map szN).sum : Nat)) x.next.length))) = G4 at *
    have wY : StrcIn G4 (14 + 9 * x.nodes.length) y := vY.congr fun j hj _ => e4 j (by omega)
    have w3 : G4[P1]? = _ := (e4 _ (by omega)).trans v3
    refine cw_seq (go_ok (tab_h ok_markStrc tab_nil) ?_); simp [List.replicate, w3]
    have rY : rowOk G4 B1 C1 B1 (y.nodes.map szN) := by have := wY.rowOk hy; rwa [show 14 + 9 * x.nodes.length + 7 = B1 by omega, show 14 + 9 * x.nodes.length + 8 + 9 * y.nodes.length = C1 by omega] at this
    have nY := wY.next
    rw [show 14 + 9 * x.nodes.length + 8 + 9 * y.nodes.length = C1 by omega] at nY
    refine ⟨y.nodes.map szN, by simp, B1, C1, y.next, rfl, by omega, by omega, by omega, by simp; omega, by omega, by omega, by omega, Nat.le_refl _, rY, nY, ?_⟩
    have e5 : ∀ j, j < B1 ∨ C1 < j → ((deadR B1 C1 G4).set C1 (.row true 3 1 (List.map encInt (marks (1 + ((x.nodes.map szN).sum : Nat) + x.next.length + ((y.nodes.map szN).sum : Nat)) y.next.length))))[j]? = G4[j]? := fun j hj => by rw [List.getElem?_set_ne (by omega), deadR_get (by omega) (by omega), if_pos (by omega)]
    generalize (deadR B1 C1 G4).set C1 (.row true 3 1 (List.map encInt (marks (1 + ((x.nodes.map szN).sum : Nat) + x.next.length + ((y.nodes.map szN).sum : Nat)) y.next.length))) = G5 at *
    have z1 : G5[0]? = _ := (e5 _ (by omega)).trans ((e4 _ (by omega)).trans v1)
    have z2 : G5[1]? = _ := (e5 _ (by omega)).trans ((e4 _ (by omega)).trans v2)
    have zf : G5[f]? = _ := (e5 _ (by omega)).trans ((e4 _ (by omega)).trans hfr)
    have lg5 : lendC (fun _ _ => true) G5 20 (.slref f 0 w0.length w0.length) = some (encL 1 encInt w0) := by simp [lendC, zf]
    have nk : ¬ (1 + (((x.nodes.map szN).sum : Nat) : Int) + x.next.length + ((y.nodes.map szN).sum : Nat) + y.next.length < 0) := by omega
    refine cw_seq (go_ok hS ?_); simp [List.replicate, nk, lg5]
    refine cw_seq (go_ok hS ?_); simp [List.replicate]
    have m9 : w0.length ≤ 1099511627776 := by omega
    refine cw_seq (go_ok (tab_h (ok_markI 3) tab_nil) ?_); simp [List.replicate]
    refine ⟨w0, rfl, m9, zf, ?_⟩
    have hfl : f < G5.length := (List.getElem?_eq_some_iff.1 zf).1
    have q1 : (G5.set f (.row true 3 1 (List.map encInt (marks 1 w0.length))))[0]? = _ := (List.getElem?_set_ne (by omega)).trans z1
    have q2 : (G5.set f (.row true 3 1 (List.map encInt (marks 1 w0.length))))[1]? = _ := (List.getElem?_set_ne (by omega)).trans z2
    have qf : (G5.set f (.row true 3 1 (List.map encInt (marks 1 w0.length))))[f]? = some (.row true 3 1 (List.map encInt (marks 1 w0.length))) := List.getElem?_set_self hfl
    generalize G5.set f (.row true 3 1 (List.map encInt (marks 1 w0.length))) = G6 at *
    have tm : List.take w0.length (List.map encInt (marks 1 w0.length)) = List.map encInt (marks 1 w0.length) := List.take_of_length_le (by simp)
    have lg6 : lendC (fun _ _ => true) G6 20 (.slref f 0 w0.length w0.length) = some (encL 1 encInt (marks 1 w0.length)) := by simp [lendC, qf, tm]
    have nm : ¬ ((1 : Int) + w0.length < 0) := by omega
    have nm' : ¬ ((w0.length : Int) + 1 < 0) := by omega
    refine cw_seq (go_ok hS ?_); simp [List.replicate]
    refine cw_seq (go_ok hS ?_); simp [List.replicate, lg6, m9, nm, nm']
    refine cw_seq (go_ok hS ?_); simp [List.replicate, lg6, m9, nm, nm']
    refine cw_seq (go_ok hS ?_); simp [List.replicate, lg6, m9, nm, nm']
    refine cw_seq (go_ok hS ?_); simp [List.replicate, hx, hy, q1, q2, hw, hv]
    refine cw_seq (go_ok hS ?_); simp [List.replicate]
    refine cw_seq (go_ok hS ?_); simp [List.replicate]
    refine cw_seq (go_ok hS ?_); simp [List.replicate, lg6, m9, nm, nm']
    refine cw_seq (go_ok hS ?_); simp [List.replicate, lg6, m9, nm, nm']
    refine cw_seq (go_ok hS ?_); simp [List.replicate, lg6, m9, nm, nm']
    refine go_ok hS ?_; simp [List.replicate]
end Go.Vm
