/- The reference's draw of a heap that is sometimes bent. No condition. -/
import Derived.Test.YtkclkieeapdeiaaTRF
import Derived.Test.YtkclkieeapdeiaaVme
set_option linter.unusedSimpArgs false
set_option linter.unusedVariables false
namespace Go.Vm
open Go.Proofs
def bentC (c : Cur) : Cur := (drawY c 3).1
def bentB (c : Cur) : Int := (bentC c).below 8
def bentH (c : Cur) : Heap := drawH c 3
/-- The cursor, the number and the heap that are drawn. -/
def bentR (c : Cur) : Cur × Int × Heap :=
  if bentB c = 0 then ((bentC c).step.step, 3, ⟨(bentH c).vars.set 0 ((bentC c).step.below 8 - 2), (bentH c).next⟩)
  else if bentB c = 1 then ((bentC c).step.step, 3, ⟨(bentH c).vars, (bentH c).next ++ [(bentC c).step.below 5 - 2]⟩)
  else if bentB c = 2 then (if 0 < (bentH c).next.length then ((bentC c).step.step, 3, ⟨(bentH c).vars, (bentH c).next.set 0 ((bentC c).step.below (bentH c).next.length)⟩) else ((bentC c).step, 3, bentH c))
  else if bentB c = 3 then ((bentC c).step.step, 2 + (bentC c).step.below 3, bentH c)
  else ((bentC c).step, 3, bentH c)
theorem drawH_len (c : Cur) (v : Nat) : (drawH c v).vars.length = v ∧ (drawH c v).next.length ≤ 5 := by
  have hc := drawR_cells c v
  have h1 := met_good (drawR c v)
  have h2 := goodC_len h1
  obtain ⟨a1, -, -⟩ := drawA_ok c.step (drawN c)
  obtain ⟨b1, -, -⟩ := drawB_ok (drawN c) (drawX c).1 v
  have hn := (drawN_le c).1
  have e1 : (drawR c v).next.length = drawN c := a1
  have e2 : (drawR c v).vars.length = v := b1
  unfold drawH canonH
  rw [if_pos hc]
  simp only [List.length_map]
  exact ⟨e2, by omega⟩
theorem cells_inj {a b : Cur} : (a.cells = b.cells) = (a = b) := propext ⟨fun h => by
  obtain ⟨x, y, z⟩ := a
  obtain ⟨x', y', z'⟩ := b
  simp [Cur.cells] at h
  obtain ⟨h1, h2, h3⟩ := h
  have h4 : y = y' := by omega
  subst h1; subst h4; subst h3; rfl, fun h => by rw [h]⟩
@[simp] def ct_below : CtH := ⟨58, Nat × Cur × Int, fun x H => H[x.1]? = some x.2.1.cells ∧ 0 < x.2.2 ∧ x.2.2 ≤ 256 ∧ x.2.1.buf.length ≤ 1048576, fun x => [.pbox x.1 0, .int .i64 x.2.2], fun x _ => .int .i64 (x.2.1.below x.2.2), fun x H => H.set x.1 x.2.1.step.cells⟩
theorem ok_below : ct_below.Ok Try.prog := by
  rintro ⟨p, c, n⟩ H ⟨h1, h2, h3, h4⟩
  exact ok_l1Below ⟨p, c, n⟩ H ⟨⟨h2, h3⟩, h4, h1⟩
@[simp] def ct_once : CtH := ⟨30, Nat × Cur × Int, fun x H => H[x.1]? = some x.2.1.cells ∧ 0 < x.2.2 ∧ x.2.2 ≤ 256 ∧ x.2.1.buf.length ≤ 1048576, fun x => [.pbox x.1 0, .int .i64 x.2.2], fun x _ => .bool (decide (x.2.1.below x.2.2 = 0)), fun x H => H.set x.1 x.2.1.step.cells⟩
theorem ok_once : ct_once.Ok Try.prog := by
  rintro ⟨p, c, n⟩ H ⟨h1, h2, h3, h4⟩
  exact ok_l1Once ⟨p, c, n⟩ H ⟨⟨h2, h3⟩, h4, h1⟩
def code_spec_l7Bent : F := ⟨48, [.tmp 2, .cell 2 true 3],
 .seq (.reg [⟨some 2, .mov (.k (.int .i64 0)), none⟩,
    ⟨some 3, .alloc [(.sl .nil 0 []), (.sl .nil 0 [])], none⟩])
 (.seq (.reg [⟨some 5, .mov (.t 0), none⟩,
     ⟨some 6, .call 32 [(.t 5), (.k (.int .i64 3))], none⟩,
     ⟨some 4, .alloc [(.sl .nil 0 []), (.sl .nil 0 [])], none⟩,
     ⟨none, .store 2 (.t 4) (.t 6), none⟩])
  (.seq (.seq (.reg [⟨some 7, .mov (.t 0), none⟩,
       ⟨some 8, .call 58 [(.t 7), (.k (.int .i64 8))], none⟩])
    (.block 0 (.seq (.reg [⟨some 10, .bin .eql (.t 8) (.k (.int .i64 0)), none⟩,
         ⟨some 9, .mov (.t 10), none⟩])
      (.cond (.t 9)
       (.dreg [false, false, false, false, false, true, true] [false, false, false, true, false, false, false] [⟨some 11, .faddr 0 (.t 4), none⟩,
          ⟨some 12, .load 1 false (.t 11), none⟩,
          ⟨some 13, .mov (.t 0), none⟩,
          ⟨some 14, .call 58 [(.t 13), (.k (.int .i64 8))], none⟩,
          ⟨some 15, .bin .sub (.t 14) (.k (.int .i64 2)), none⟩,
          ⟨some 16, .iaddr 1 (.t 12) (.k (.int .i64 0)), none⟩,
          ⟨none, .store 1 (.t 16) (.t 15), none⟩])
       (.seq (.reg [⟨some 18, .bin .eql (.t 8) (.k (.int .i64 1)), none⟩,
           ⟨some 17, .mov (.t 18), none⟩])
        (.cond (.t 17)
         (.dreg [false, false, false, false, false, false, true, true, true] [false, false, false, true, false, false, false, false, false] [⟨some 19, .faddr 1 (.t 4), none⟩,
            ⟨some 20, .load 1 false (.t 19), none⟩,
            ⟨some 21, .mov (.t 0), none⟩,
            ⟨some 22, .call 58 [(.t 21), (.k (.int .i64 5))], none⟩,
            ⟨some 23, .bin .sub (.t 22) (.k (.int .i64 2)), none⟩,
            ⟨some 24, .bsl 3 1 1 (.int .i64 0) [(0, (.t 23))], none⟩,
            ⟨some 25, .append 3 1 8 (.t 20) (.t 24), none⟩,
            ⟨some 26, .faddr 1 (.t 4), none⟩,
            ⟨none, .store 1 (.t 26) (.t 25), none⟩])
         (.seq (.reg [⟨some 28, .bin .eql (.t 8) (.k (.int .i64 2)), none⟩,
             ⟨some 27, .mov (.t 28), none⟩])
          (.cond (.t 27)
           (.seq (.reg [⟨some 29, .faddr 1 (.t 4), none⟩,
               ⟨some 30, .load 1 false (.t 29), none⟩,
               ⟨some 31, .len (.t 30), none⟩,
               ⟨some 32, .bin .gtr (.t 31) (.k (.int .i64 0)), none⟩])
            (.cond (.t 32)
             (.dreg [false, false, false, false, false, false, false, true, true] [false, false, false, false, false, false, true, false, false] [⟨some 33, .faddr 1 (.t 4), none⟩,
                ⟨some 34, .load 1 false (.t 33), none⟩,
                ⟨some 35, .mov (.t 0), none⟩,
                ⟨some 36, .faddr 1 (.t 4), none⟩,
                ⟨some 37, .load 1 false (.t 36), none⟩,
                ⟨some 38, .len (.t 37), none⟩,
                ⟨some 39, .call 58 [(.t 35), (.t 38)], none⟩,
                ⟨some 40, .iaddr 1 (.t 34) (.k (.int .i64 0)), none⟩,
                ⟨none, .store 1 (.t 40) (.t 39), none⟩])
             (.skip)))
           (.seq (.reg [⟨some 42, .bin .eql (.t 8) (.k (.int .i64 3)), none⟩,
               ⟨some 41, .mov (.t 42), none⟩])
            (.cond (.t 41)
             (.seq (.dreg [false, false, false, false, false, true] [false, true, false, false, false, false] [⟨some 43, .mov (.t 0), none⟩,
                 ⟨some 44, .call 58 [(.t 43), (.k (.int .i64 3))], none⟩,
                 ⟨some 45, .bin .add (.k (.int .i64 2)) (.t 44), none⟩,
                 ⟨some 46, .load 2 true (.t 4), none⟩,
                 ⟨some 2, .mov (.t 45), none⟩,
                 ⟨none, .store 2 (.t 3) (.t 46), none⟩])
              (.ret))
             (.skip)))))))))))
   (.seq (.dreg [false, false, true] [false, false, false] [⟨some 47, .load 2 true (.t 4), none⟩,
       ⟨some 2, .mov (.k (.int .i64 3)), none⟩,
       ⟨none, .store 2 (.t 3) (.t 47), none⟩])
    (.ret))))⟩
theorem fok_spec_l7Bent : FOk Try.prog 33 code_spec_l7Bent := fok Try.func33 (by kernel_rfl)
@[simp] def ct_l7Bent : CtH := ⟨33, Nat × Cur, fun x H => x.2.buf.length ≤ 1048576 ∧ H[x.1]? = some x.2.cells, fun x => [.pbox x.1 0],
  fun x H => .tup [.int .i64 (bentR x.2).2.1, .agg [.slref (H.length + 18) 0 (bentR x.2).2.2.vars.length (bentR x.2).2.2.vars.length, .slref (H.length + 19) 0 (bentR x.2).2.2.next.length (bentR x.2).2.2.next.length]],
  fun x H => H.set x.1 (bentR x.2).1.cells ++ [.dead, .dead, .cells [.slref (H.length + 18) 0 (bentR x.2).2.2.vars.length (bentR x.2).2.2.vars.length, .slref (H.length + 19) 0 (bentR x.2).2.2.next.length (bentR x.2).2.2.next.length], .dead, .dead, .dead, .dead, .dead, .dead, .dead, .dead, .dead, .dead, .dead, .dead, .dead, .dead, .dead, .row true 3 1 ((bentR x.2).2.2.vars.map encInt), .row true 3 1 ((bentR x.2).2.2.next.map encInt), .dead, .dead, .dead]⟩
set_option maxHeartbeats 8000000 in
set_option maxRecDepth 100000 in
theorem ok_l7Bent : ct_l7Bent.Ok Try.prog := by
  rintro ⟨p, c⟩ H ⟨hbuf, hp⟩
  change c.buf.length ≤ 1048576 at hbuf
  change H[p]? = some c.cells at hp
  have hpl : p < H.length := (List.getElem?_eq_some_iff.1 hp).1
  obtain ⟨hl1, hl2⟩ := drawH_len c 3
  have hT : TabOk Try.prog _ := tab_h ok_below (tab_h ok_l7Draw tab_nil)
  have hH : H = H.set p c.cells := (set_same hp).symm
  have hgp : ∀ x T, (H.set p x ++ T)[p]? = some x := fun x T => by rw [List.getElem?_append_left (by simpa using hpl), List.getElem?_set_self hpl]
  have hsp : ∀ x y T, (H.set p x ++ T).set p y = H.set p y ++ T := fun x y T => by rw [List.set_append_left _ _ (by simpa using hpl), List.set_set]
  have hcw : ∀ (c : Cur) n H2, SlB n H2 c.cells c.cells := fun c n H2 => by simp [Cur.cells]
  have hsl : ∀ x : Blk, (H.set p x).length = H.length := fun x => by simp
  have hga : ∀ x T k, (H.set p x ++ T)[H.length + k]? = T[k]? := fun x T k => get_at (hsl x)
  have hsa : ∀ x T k y, (H.set p x ++ T).set (H.length + k) y = H.set p x ++ T.set k y := fun x T k y => set_at (hsl x)
  refine OkH.of_self fun hB => OkH.of_cw fok_spec_l7Bent ?_
  simp only [code_spec_l7Bent, frame, List.length_cons, List.length_nil, List.replicate, Nat.reduceSub, Nat.reduceAdd, List.cons_append, List.nil_append]
  refine cw_seq (go_ok hT ?_); simp [List.replicate, getHk, getH0, setHk, setH0, Nat.add_assoc]
  rw [hH]
  simp only [hsl]
  refine cw_seq (go_ok hT ?_); simp [List.replicate, hgp, hsp, hbuf, hsl, getHk, getH0, setHk, setH0, Nat.add_assoc]
  refine ⟨c, 3, rfl, by omega, hbuf, rfl, ?_⟩
  have hcb : (bentC c).buf.length ≤ 1048576 := by
    obtain ⟨-, a2, -⟩ := drawA_ok c.step (drawN c)
    obtain ⟨-, b2, -⟩ := drawB_ok (drawN c) (drawX c).1 3
    have e : (bentC c).buf = c.buf := b2.trans a2
    rw [e]; exact hbuf
  have hsb : (bentC c).step.buf.length ≤ 1048576 := hcb
  change CW _ _ _ _ ⟨_, H.set p (bentC c).cells ++ _⟩
  have hR : bentR c = if bentB c = 0 then ((bentC c).step.step, 3, ⟨(bentH c).vars.set 0 ((bentC c).step.below 8 - 2), (bentH c).next⟩)
    else if bentB c = 1 then ((bentC c).step.step, 3, ⟨(bentH c).vars, (bentH c).next ++ [(bentC c).step.below 5 - 2]⟩)
    else if bentB c = 2 then (if 0 < (bentH c).next.length then ((bentC c).step.step, 3, ⟨(bentH c).vars, (bentH c).next.set 0 ((bentC c).step.below (bentH c).next.length)⟩) else ((bentC c).step, 3, bentH c))
    else if bentB c = 3 then ((bentC c).step.step, 2 + (bentC c).step.below 3, bentH c)
    else ((bentC c).step, 3, bentH c) := rfl
  have hBd : (bentC c).below 8 = bentB c := rfl
  have hDH : drawH c 3 = bentH c := rfl
  simp only [hDH] at *
  generalize bentR c = R at *
  generalize bentB c = b at *
  generalize hh : bentH c = h at *
  obtain ⟨vs, ns⟩ := h
  generalize bentC c = e at *
  clear hh hDH
  simp only at hl1 hl2
  refine cw_weak (weak_less (t' := slots 48 [(0, .pbox p 0), (3, .pbox (H.length + 2) 0), (4, .pbox (H.length + 22) 0)]) (H' := H.set p e.cells ++ [.dead, .dead, .cells [.slref H.length 0 0 0, .slref (H.length + 1) 0 0 0], .dead, .dead, .dead, .dead, .dead, .dead, .dead, .dead, .dead, .dead, .dead, .dead, .dead, .dead, .dead, .row true 3 1 (vs.map encInt), .row true 3 1 (ns.map encInt), .dead, .dead, .cells [.slref (H.length + 18) 0 vs.length vs.length, .slref (H.length + 19) 0 ns.length ns.length]]) (by simp) (by simp [List.replicate])) ?_
  have hv0 : 0 < vs.length := by omega
  have hnb : (ns.length + 1) * 8 ≤ 140737488355328 := by omega
  have hx8 := below_lt e.step (n := 8) (by omega)
  have hw8 : IntKind.i64.wrap (e.step.below 8 - 2) = e.step.below 8 - 2 := by rw [wrap_i64] <;> omega
  have hx5 := below_lt e.step (n := 5) (by omega)
  have hw5 : IntKind.i64.wrap (e.step.below 5 - 2) = e.step.below 5 - 2 := by rw [wrap_i64] <;> omega
  have hx3 := below_lt e.step (n := 3) (by omega)
  have hw3 : IntKind.i64.wrap (2 + e.step.below 3) = 2 + e.step.below 3 := by rw [wrap_i64] <;> omega
  generalize hTl : ([.dead, .dead, .cells [.slref H.length 0 0 0, .slref (H.length + 1) 0 0 0], .dead, .dead, .dead, .dead, .dead, .dead, .dead, .dead, .dead, .dead, .dead, .dead, .dead, .dead, .dead, .row true 3 1 (vs.map encInt), .row true 3 1 (ns.map encInt), .dead, .dead, .cells [.slref (H.length + 18) 0 vs.length vs.length, .slref (H.length + 19) 0 ns.length ns.length]] : List Blk) = Tl
  have t22 : Tl[22]? = some (.cells [.slref (H.length + 18) 0 vs.length vs.length, .slref (H.length + 19) 0 ns.length ns.length]) := by rw [← hTl]; rfl
  have t2 : Tl[2]? = some (.cells [.slref H.length 0 0 0, .slref (H.length + 1) 0 0 0]) := by rw [← hTl]; rfl
  have t18 : Tl[18]? = some (.row true 3 1 (vs.map encInt)) := by rw [← hTl]; rfl
  have t19 : Tl[19]? = some (.row true 3 1 (ns.map encInt)) := by rw [← hTl]; rfl
  have tl : Tl.length = 23 := by rw [← hTl]; rfl
  have hgT : ∀ T k y, k < 23 → Tl[k]? = some y → (Tl ++ T)[k]? = some y := fun T k y hk h => by rw [List.getElem?_append_left (by omega)]; exact h
  have g22 := fun T => hgT T 22 _ (by omega) t22
  have g2 := fun T => hgT T 2 _ (by omega) t2
  have g18 := fun T => hgT T 18 _ (by omega) t18
  have g19 := fun T => hgT T 19 _ (by omega) t19
  clear hgT
  have s22 : ∀ y z, ((Tl.set 19 y).set 22 z)[22]? = some z := fun y z => by rw [List.getElem?_set_self (by simp [tl])]
  have n2 : 0 < ns.length → (ns.length : Int) ≤ 256 := fun _ => by omega
  by_cases b0 : b = 0
  · rw [if_pos b0] at hR
    refine goC_ok hT p ?_
    simp [List.replicate, hgp, hsp, hcb, cells_inj, hBd, b0, hga, hsa, hsb, isH, needs1, hpl, t22, t2, t18, t19, g22, g2, g18, g19, hv0, hw8]
    refine ⟨⟨slots 48 [(2, .int .i64 R.2.1), (3, .pbox (H.length + 2) 0)], _⟩, weak_less (H' := H.set p R.1.cells ++ [.dead, .dead, .cells [.slref (H.length + 18) 0 R.2.2.vars.length R.2.2.vars.length, .slref (H.length + 19) 0 R.2.2.next.length R.2.2.next.length], .dead, .dead, .dead, .dead, .dead, .dead, .dead, .dead, .dead, .dead, .dead, .dead, .dead, .dead, .dead, .row true 3 1 (R.2.2.vars.map encInt), .row true 3 1 (R.2.2.next.map encInt), .dead, .dead, .dead]) ?_ ?_, ?_⟩
    · subst hTl; simp [hR]
    · subst hTl; simp [List.replicate, hR]
    · simp [retH, List.replicate, hga, hR]
  by_cases b1 : b = 1
  · rw [if_neg b0, if_pos b1] at hR
    refine goC_ok hT p ?_
    simp [List.replicate, hgp, hsp, hcb, cells_inj, hBd, b1, hga, hsa, hsb, isH, needs1, hpl, t22, t2, t18, t19, g22, g2, g18, g19, hnb, hw5, app1, s22]
    refine ⟨⟨slots 48 [(2, .int .i64 R.2.1), (3, .pbox (H.length + 2) 0)], _⟩, weak_less (H' := H.set p R.1.cells ++ [.dead, .dead, .cells [.slref (H.length + 18) 0 R.2.2.vars.length R.2.2.vars.length, .slref (H.length + 19) 0 R.2.2.next.length R.2.2.next.length], .dead, .dead, .dead, .dead, .dead, .dead, .dead, .dead, .dead, .dead, .dead, .dead, .dead, .dead, .dead, .row true 3 1 (R.2.2.vars.map encInt), .row true 3 1 (R.2.2.next.map encInt), .dead, .dead, .dead]) ?_ ?_, ?_⟩
    · subst hTl; simp [hR]
    · subst hTl; simp [List.replicate, hR]
    · simp [retH, List.replicate, hga, hR]
  by_cases b2 : b = 2
  · rw [if_neg b0, if_neg b1, if_pos b2] at hR
    by_cases n0 : 0 < ns.length
    · rw [if_pos n0] at hR
      have n3 := n2 n0
      have n4 : ¬ ns.length = 0 := by omega
      have n5 : ¬ ns = [] := by intro h; simp [h] at n0
      refine goC_ok hT p ?_
      simp [List.replicate, hgp, hsp, hcb, cells_inj, hBd, b2, hga, hsa, hsb, isH, needs1, hpl, t22, t2, t18, t19, g22, g2, g18, g19, n0, n3, n4, n5]
      refine ⟨⟨slots 48 [(2, .int .i64 R.2.1), (3, .pbox (H.length + 2) 0)], _⟩, weak_less (H' := H.set p R.1.cells ++ [.dead, .dead, .cells [.slref (H.length + 18) 0 R.2.2.vars.length R.2.2.vars.length, .slref (H.length + 19) 0 R.2.2.next.length R.2.2.next.length], .dead, .dead, .dead, .dead, .dead, .dead, .dead, .dead, .dead, .dead, .dead, .dead, .dead, .dead, .dead, .row true 3 1 (R.2.2.vars.map encInt), .row true 3 1 (R.2.2.next.map encInt), .dead, .dead, .dead]) ?_ ?_, ?_⟩
      · subst hTl; simp [hR]
      · subst hTl; simp [List.replicate, hR]
      · simp [retH, List.replicate, hga, hR]
    · rw [if_neg n0] at hR
      have n4 : ns = [] := List.eq_nil_of_length_eq_zero (by omega)
      subst n4
      refine goC_ok hT p ?_
      simp [List.replicate, hgp, hsp, hcb, cells_inj, hBd, b2, hga, hsa, hsb, isH, needs1, hpl, t22, t2, t18, t19, g22, g2, g18, g19]
      refine ⟨⟨slots 48 [(2, .int .i64 R.2.1), (3, .pbox (H.length + 2) 0)], _⟩, weak_less (H' := H.set p R.1.cells ++ [.dead, .dead, .cells [.slref (H.length + 18) 0 R.2.2.vars.length R.2.2.vars.length, .slref (H.length + 19) 0 R.2.2.next.length R.2.2.next.length], .dead, .dead, .dead, .dead, .dead, .dead, .dead, .dead, .dead, .dead, .dead, .dead, .dead, .dead, .dead, .row true 3 1 (R.2.2.vars.map encInt), .row true 3 1 (R.2.2.next.map encInt), .dead, .dead, .dead]) ?_ ?_, ?_⟩
      · subst hTl; simp [hR]
      · subst hTl; simp [List.replicate, hR]
      · simp [retH, List.replicate, hga, hR]
  by_cases b3 : b = 3
  · rw [if_neg b0, if_neg b1, if_neg b2, if_pos b3] at hR
    refine goC_ok hT p ?_
    simp [List.replicate, hgp, hsp, hcb, cells_inj, hBd, b3, hga, hsa, hsb, isH, needs1, hpl, t22, t2, t18, t19, g22, g2, g18, g19, hw3]
    refine ⟨⟨slots 48 [(2, .int .i64 R.2.1), (3, .pbox (H.length + 2) 0)], _⟩, weak_less (H' := H.set p R.1.cells ++ [.dead, .dead, .cells [.slref (H.length + 18) 0 R.2.2.vars.length R.2.2.vars.length, .slref (H.length + 19) 0 R.2.2.next.length R.2.2.next.length], .dead, .dead, .dead, .dead, .dead, .dead, .dead, .dead, .dead, .dead, .dead, .dead, .dead, .dead, .dead, .row true 3 1 (R.2.2.vars.map encInt), .row true 3 1 (R.2.2.next.map encInt), .dead, .dead, .dead]) ?_ ?_, ?_⟩
    · subst hTl; simp [hR]
    · subst hTl; simp [List.replicate, hR]
    · simp [retH, List.replicate, hga, hR]
  · rw [if_neg b0, if_neg b1, if_neg b2, if_neg b3] at hR
    refine goC_ok hT p ?_
    simp [List.replicate, hgp, hsp, hcb, cells_inj, hBd, b0, b1, b2, b3, hga, hsa, hsb, isH, needs1, hpl, t22, t2, t18, t19, g22, g2, g18, g19]
    refine ⟨⟨slots 48 [(2, .int .i64 R.2.1), (3, .pbox (H.length + 2) 0)], _⟩, weak_less (H' := H.set p R.1.cells ++ [.dead, .dead, .cells [.slref (H.length + 18) 0 R.2.2.vars.length R.2.2.vars.length, .slref (H.length + 19) 0 R.2.2.next.length R.2.2.next.length], .dead, .dead, .dead, .dead, .dead, .dead, .dead, .dead, .dead, .dead, .dead, .dead, .dead, .dead, .dead, .row true 3 1 (R.2.2.vars.map encInt), .row true 3 1 (R.2.2.next.map encInt), .dead, .dead, .dead]) ?_ ?_, ?_⟩
    · subst hTl; simp [hR]
    · subst hTl; simp [List.replicate, hR]
    · simp [retH, List.replicate, hga, hR]
end Go.Vm
