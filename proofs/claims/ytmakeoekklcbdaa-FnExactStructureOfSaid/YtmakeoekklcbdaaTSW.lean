/- StructureOf: the law. No condition. -/
import Derived.Test.YtmakeoekklcbdaaTSV
import Derived.Test.YtmakeoekklcbdaaTSS
set_option linter.unusedSimpArgs false
set_option linter.unusedVariables false
namespace Go.Vm
open Go.Proofs
def code_laws_FnExactStructureOf : F := ⟨69, [.tmp 2],
 .seq (.reg [⟨some 1, .box (.t 0), none⟩,
    ⟨some 2, .mov (.k (.bool false)), none⟩])
 (.seq (.reg [⟨some 3, .mov (.k (.int .i64 1048576)), none⟩])
  (.seq (.reg [⟨some 11, .load 2 true (.t 1), none⟩,
      ⟨some 12, .mov (.t 3), none⟩,
      ⟨some 13, .call 21 [(.t 11), (.t 12)], none⟩,
      ⟨some 3, .mov (.t 13), none⟩])
   (.seq (.seq (.reg [⟨some 14, .mov (.t 3), none⟩,
        ⟨some 15, .bin .lss (.t 14) (.k (.int .i64 0)), none⟩])
     (.cond (.t 15)
      (.seq (.reg [⟨some 2, .mov (.k (.bool true)), none⟩])
       (.ret))
      (.skip)))
    (.seq (.reg [⟨some 16, .load 2 true (.t 1), none⟩,
        ⟨some 17, .call 23 [(.t 16)], none⟩,
        ⟨some 18, .call 22 [(.t 17)], none⟩,
        ⟨some 4, .alloc [(.sl .nil 0 []), (.sl .nil 0 [])], none⟩,
        ⟨none, .store 2 (.t 4) (.t 18), none⟩])
     (.seq (.reg [⟨some 19, .load 2 true (.t 1), none⟩,
         ⟨some 20, .call 23 [(.t 19)], none⟩,
         ⟨some 5, .alloc [(.sl .nil 0 []), (.sl .nil 0 [])], none⟩,
         ⟨none, .store 2 (.t 5) (.t 20), none⟩])
      (.seq (.reg [⟨some 21, .load 2 true (.t 5), none⟩,
          ⟨some 22, .call 24 [(.t 21)], none⟩,
          ⟨some 6, .alloc [(.sl .nil 0 []), (.sl .nil 0 [])], none⟩,
          ⟨none, .store 2 (.t 6) (.t 22), none⟩])
       (.seq (.seq (.reg [⟨some 23, .load 2 true (.t 6), none⟩,
            ⟨some 24, .load 2 true (.t 4), none⟩,
            ⟨some 25, .call 17 [(.t 23), (.t 24)], none⟩,
            ⟨some 26, .not (.t 25), none⟩])
         (.cond (.t 26)
          (.seq (.reg [⟨some 2, .mov (.k (.bool false)), none⟩])
           (.ret))
          (.skip)))
        (.seq (.seq (.dreg [false, false, false, true, true] [false, false, true, true, false] [⟨some 27, .load 2 true (.t 5), none⟩,
             ⟨some 28, .load 2 true (.t 1), none⟩,
             ⟨some 29, .call 23 [(.t 28)], none⟩,
             ⟨some 30, .call 16 [(.t 27), (.t 29)], none⟩,
             ⟨some 31, .not (.t 30), none⟩])
          (.cond (.t 31)
           (.seq (.reg [⟨some 2, .mov (.k (.bool false)), none⟩])
            (.ret))
           (.skip)))
         (.seq (.reg [⟨some 7, .mov (.k (.int .i64 1)), none⟩])
          (.seq (.reg [⟨some 32, .load 2 true (.t 5), none⟩,
              ⟨some 33, .mov (.t 7), none⟩,
              ⟨some 34, .call 19 [(.t 32), (.t 33)], none⟩,
              ⟨some 7, .mov (.t 34), none⟩])
           (.seq (.seq (.reg [⟨some 35, .mov (.t 7), none⟩,
                ⟨some 36, .bin .lss (.t 35) (.k (.int .i64 0)), none⟩,
                ⟨some 37, .mov (.t 36), none⟩,
                ⟨some 38, .load 2 true (.t 6), some (37, false)⟩,
                ⟨some 39, .load 2 true (.t 4), some (37, false)⟩,
                ⟨some 40, .call 17 [(.t 38), (.t 39)], some (37, false)⟩,
                ⟨some 41, .not (.t 40), some (37, false)⟩,
                ⟨some 42, .pick (.t 37) (.k (.bool true)) (.t 41), none⟩])
             (.cond (.t 42)
              (.seq (.reg [⟨some 2, .mov (.k (.bool false)), none⟩])
               (.ret))
              (.skip)))
            (.seq (.reg [⟨some 8, .mov (.k (.int .i64 1)), none⟩])
             (.seq (.reg [⟨some 43, .load 2 true (.t 6), none⟩,
                 ⟨some 44, .mov (.t 8), none⟩,
                 ⟨some 45, .call 18 [(.t 43), (.t 44)], none⟩,
                 ⟨some 8, .mov (.t 45), none⟩])
              (.seq (.reg [⟨some 9, .mov (.k (.int .i64 1)), none⟩])
               (.seq (.reg [⟨some 46, .load 2 true (.t 6), none⟩,
                   ⟨some 47, .mov (.t 9), none⟩,
                   ⟨some 48, .call 25 [(.t 46), (.t 47)], none⟩,
                   ⟨some 9, .mov (.t 48), none⟩])
                (.seq (.seq (.reg [⟨some 49, .mov (.t 9), none⟩,
                     ⟨some 50, .bin .lss (.t 49) (.k (.int .i64 0)), none⟩])
                  (.cond (.t 50)
                   (.seq (.reg [⟨some 2, .mov (.k (.bool false)), none⟩])
                    (.ret))
                   (.skip)))
                 (.seq (.seq (.reg [⟨some 51, .mov (.t 9), none⟩,
                      ⟨some 52, .mov (.t 8), none⟩,
                      ⟨some 53, .bin .neq (.t 51) (.t 52), none⟩])
                   (.cond (.t 53)
                    (.seq (.reg [⟨some 2, .mov (.k (.bool false)), none⟩])
                     (.ret))
                    (.skip)))
                  (.seq (.reg [⟨some 54, .load 2 true (.t 1), none⟩,
                      ⟨some 55, .call 23 [(.t 54)], none⟩,
                      ⟨some 56, .call 24 [(.t 55)], none⟩,
                      ⟨some 10, .alloc [(.sl .nil 0 []), (.sl .nil 0 [])], none⟩,
                      ⟨none, .store 2 (.t 10) (.t 56), none⟩])
                   (.seq (.seq (.reg [⟨some 57, .load 2 true (.t 10), none⟩,
                        ⟨some 58, .load 2 true (.t 4), none⟩,
                        ⟨some 59, .call 17 [(.t 57), (.t 58)], none⟩,
                        ⟨some 60, .not (.t 59), none⟩])
                     (.cond (.t 60)
                      (.seq (.reg [⟨some 2, .mov (.k (.bool false)), none⟩])
                       (.ret))
                      (.skip)))
                    (.seq (.reg [⟨some 9, .mov (.k (.int .i64 1)), none⟩])
                     (.seq (.reg [⟨some 61, .load 2 true (.t 6), none⟩,
                         ⟨some 62, .mov (.t 9), none⟩,
                         ⟨some 63, .call 25 [(.t 61), (.t 62)], none⟩,
                         ⟨some 9, .mov (.t 63), none⟩])
                      (.seq (.seq (.reg [⟨some 64, .mov (.t 9), none⟩,
                           ⟨some 65, .bin .lss (.t 64) (.k (.int .i64 0)), none⟩])
                        (.cond (.t 65)
                         (.seq (.reg [⟨some 2, .mov (.k (.bool false)), none⟩])
                          (.ret))
                         (.skip)))
                       (.seq (.seq (.reg [⟨some 66, .mov (.t 9), none⟩,
                            ⟨some 67, .mov (.t 8), none⟩,
                            ⟨some 68, .bin .neq (.t 66) (.t 67), none⟩])
                         (.cond (.t 68)
                          (.seq (.reg [⟨some 2, .mov (.k (.bool false)), none⟩])
                           (.ret))
                          (.skip)))
                        (.seq (.reg [⟨some 2, .mov (.k (.bool true)), none⟩])
                         (.ret)))))))))))))))))))))))))⟩
theorem fok_laws_FnExactStructureOf : FOk Try.prog 4 code_laws_FnExactStructureOf := fok Try.func4 (by kernel_rfl)
/-- impl.StructureOf, chosen. -/
theorem strc_small (x : Heap) : (strcOf x).nodes.length ≤ 10 ∧ (strcOf x).next.length ≤ 100 ∧ ((strcOf x).nodes.map szM).sum ≤ 100 := by
  unfold strcOf
  split
  · rename_i hf
    unfold fitS at hf
    simp only [Bool.and_eq_true, decide_eq_true_eq] at hf
    obtain ⟨⟨hc, h1⟩, h2, h3⟩ := hf
    refine ⟨by rw [nodesT_len]; exact h1, ?_, ?_⟩
    · show (nextsT x.next x.next.length).length ≤ 100
      rw [nextsT_len]; exact Nat.mul_le_mul h1 h1
    · have : ∀ n, n ≤ 10 → ((nodesT x.vars x.next n).map szM).sum ≤ n * 10 := by
        intro n
        induction n with
        | zero => intro _; simp [nodesT]
        | succ n ih =>
          intro hn
          have := ih (by omega)
          rw [nodesT_succ, List.map_append, List.sum_append]
          simp only [List.map_cons, List.map_nil, List.sum_cons, List.sum_nil, szM, nodeT, List.length_map]
          omega
      have := this x.next.length h1
      show ((nodesT x.vars x.next x.next.length).map szM).sum ≤ 100
      omega
  · simp
theorem strcOf_eta (x : Heap) : strcOf x = ⟨(strcOf x).nodes, (strcOf x).next⟩ := rfl
set_option maxHeartbeats 8000000 in
set_option maxRecDepth 100000 in
theorem ok_lawStructureOf (x : Heap) : Ok Try.prog 4 [encHeap x] (.bool true) := by
  by_cases h1 : (szHeap x : Int) ≤ 1048576
  case neg =>
    refine Ok.of_cw fok_laws_FnExactStructureOf (go_ok (tab_cons ok_szHeap tab_nil) ?_)
    simp [code_laws_FnExactStructureOf, List.replicate, left_neg (by omega : (1048576:Int) < szHeap x)]
  have l1 := left_ge h1
  have hx : szHeap x ≤ 1048576 := by omega
  have a1 : ¬ ((1048576 : Int) - szHeap x < 0) := by omega
  have a1' : ¬ ((1048576 : Int) < szHeap x) := by omega
  have hxv : x.vars.length ≤ 1048576 := by unfold szHeap at hx; omega
  have hxn : x.next.length ≤ 1048576 := by unfold szHeap at hx; omega
  have hS : TabOk Try.prog _ := tab_cons ok_szHeap (tab_cons ok_toHeap (tab_cons ok_sStructureOf (tab_cons ok_pStructureOf (tab_cons ok_eqStrc (tab_cons ok_eqHeap (tab_cons ok_heldSM tab_nil))))))
  obtain ⟨a, c, els, p, q, N, hk, hown, hNa, hNx, hNc, hNo⟩ := made_Strc x hx
  obtain ⟨b1, b2, b3⟩ := strc_small x
  refine Ok.of_cw fok_laws_FnExactStructureOf ?_
  simp only [code_laws_FnExactStructureOf, frame, List.length_cons, List.length_nil, List.replicate, Nat.reduceSub, Nat.reduceAdd, List.cons_append, List.nil_append]
  refine cw_seq (go_ok hS ?_); simp [List.replicate]
  refine cw_seq (go_ok hS ?_); simp
  refine cw_seq (go_ok hS ?_); simp [l1, h1]
  refine cw_seq (go_ok hS ?_); simp [a1, a1']
  refine cw_seq (go_ok hS ?_); simp [hx]
  refine cw_weak (weak_seal (n0 := 0) 4 (by simp) (t' := slots 69 [(1, .pbox 0 0), (4, .pbox 3 0)]) (H' := [.cells [encL 1 encInt x.vars, encL 1 encInt x.next], .dead, .dead, .cells [encL 4 encNode (strcOf x).nodes, encL 1 encInt (strcOf x).next]]) (by simp [List.replicate]) (by simp [List.replicate])) ?_
  refine cw_seq (go_ok (tab_h (CtN.hok ok_toHeapN) tab_nil) ?_); simp [List.replicate, hx]
  refine cw_weak (weak_less (n0 := 0) (t' := slots 69 [(1, .pbox 0 0), (4, .pbox 3 0), (5, .pbox 15 0)]) (H' := [.cells [encL 1 encInt x.vars, encL 1 encInt x.next], .dead, .dead, .cells [encL 4 encNode (strcOf x).nodes, encL 1 encInt (strcOf x).next], .dead, .dead, .dead, .dead, .dead, .dead, .dead, .row true 3 1 (x.vars.map encInt), .row true 3 1 (x.next.map encInt), .dead, .dead, .cells [.slref 11 0 x.vars.length x.vars.length, .slref 12 0 x.next.length x.next.length]]) (by simp [List.replicate]) (by simp [List.replicate])) ?_
  have okN : CtN.Ok Try.prog ⟨24, Unit, fun _ => True, fun _ => [.agg [encL 1 encInt x.vars, encL 1 encInt x.next]], fun _ => (.agg [.slref a 0 (strcOf x).nodes.length (strcOf x).nodes.length, .slref c 0 (strcOf x).next.length (strcOf x).next.length]), fun _ => N⟩ := ⟨fun _ _ => hk, fun _ _ => rfl, fun _ _ => hown⟩
  refine cw_seq (go_ok (tab_h (CtN.hok okN) tab_nil) ?_); simp [List.replicate]
  rw [show N.length + 1 + 1 + 1 + 1 + 1 + 1 + 1 + 9 + 2 = N.length + 18 by omega]
  obtain ⟨G, hG⟩ : ∃ G : List Blk, G = ([.cells [encL 1 encInt x.vars, encL 1 encInt x.next], .dead, .dead, .cells [encL 4 encNode (strcOf x).nodes, encL 1 encInt (strcOf x).next], .dead, .dead, .dead, .dead, .dead, .dead, .dead, .row true 3 1 (x.vars.map encInt), .row true 3 1 (x.next.map encInt), .dead, .dead, .cells [.slref 11 0 x.vars.length x.vars.length, .slref 12 0 x.next.length x.next.length]] : List Blk) ++ (N.map (shB 16) ++ [.dead, .dead, .cells [.slref (16 + a) 0 (strcOf x).nodes.length (strcOf x).nodes.length, .slref (16 + c) 0 (strcOf x).next.length (strcOf x).next.length]]) := ⟨_, rfl⟩
  refine cw_weak (weak_less (n0 := 0) (t' := slots 69 [(1, .pbox 0 0), (4, .pbox 3 0), (5, .pbox 15 0), (6, .pbox (N.length + 18) 0)]) (H' := G) (by rw [hG]; simp) (by simp [List.replicate])) ?_
  have xG : NIx G (shL 16 els) (strcOf x).nodes (fun i => 16 + p i) (fun i => 16 + q i) := by
    have := (hNx.sh [.cells [encL 1 encInt x.vars, encL 1 encInt x.next], .dead, .dead, .cells [encL 4 encNode (strcOf x).nodes, encL 1 encInt (strcOf x).next], .dead, .dead, .dead, .dead, .dead, .dead, .dead, .row true 3 1 (x.vars.map encInt), .row true 3 1 (x.next.map encInt), .dead, .dead, .cells [.slref 11 0 x.vars.length x.vars.length, .slref 12 0 x.next.length x.next.length]]).app [.dead, .dead, .cells [.slref (16 + a) 0 (strcOf x).nodes.length (strcOf x).nodes.length, .slref (16 + c) 0 (strcOf x).next.length (strcOf x).next.length]]
    rw [hG, ← List.append_assoc]; exact this
  have g16 : ∀ j k, N[j]? = some k → G[16 + j]? = some (shB 16 k) := fun j k h => by
    have hl := (List.getElem?_eq_some_iff.1 h).1
    rw [hG, List.getElem?_append_right (by simp), List.getElem?_append_left (by simp; omega), List.getElem?_map]
    simp [h]
  have ga : G[16 + a]? = some (.row true 85 4 (shL 16 els)) := g16 _ _ hNa
  have gc : G[16 + c]? = some (.row true 3 1 ((strcOf x).next.map encInt)) := by
    rw [g16 _ _ hNc]; simp [shB]
  have gP : G[N.length + 18]? = some (.cells [.slref (16 + a) 0 (strcOf x).nodes.length (strcOf x).nodes.length, .slref (16 + c) 0 (strcOf x).next.length (strcOf x).next.length]) := by
    rw [hG, List.getElem?_append_right (by simp), List.getElem?_append_right (by simp)]; simp
  have g0 : G[0]? = some (.cells [encL 1 encInt x.vars, encL 1 encInt x.next]) := by rw [hG]; rfl
  have g3 : G[3]? = some (.cells [encL 4 encNode (strcOf x).nodes, encL 1 encInt (strcOf x).next]) := by rw [hG]; rfl
  have g11 : G[11]? = some (.row true 3 1 (x.vars.map encInt)) := by rw [hG]; rfl
  have g12 : G[12]? = some (.row true 3 1 (x.next.map encInt)) := by rw [hG]; rfl
  have g15 : G[15]? = some (.cells [.slref 11 0 x.vars.length x.vars.length, .slref 12 0 x.next.length x.next.length]) := by rw [hG]; rfl
  have ho : ¬ NIx.own (strcOf x).nodes.length (fun i => 16 + p i) (fun i => 16 + q i) (16 + c) := by
    rintro ⟨i, hi, e⟩
    simp only at e
    exact hNo ⟨i, hi, by omega⟩
  have hge : ∀ j, NIx.own (strcOf x).nodes.length (fun i => 16 + p i) (fun i => 16 + q i) j → 16 ≤ j := by
    rintro j ⟨i, hi, e⟩; simp only at e; omega
  have hle : N.length + 18 < G.length := (List.getElem?_eq_some_iff.1 gP).1
  have hoP : ¬ NIx.own (strcOf x).nodes.length (fun i => 16 + p i) (fun i => 16 + q i) (N.length + 18) := fun h => by
    obtain ⟨l, e⟩ := xG.is1 h
    rw [gP] at e; simp at e
  have hPa : N.length + 18 ≠ 16 + a := fun e => by rw [e, ga] at gP; simp at gP
  have hPc : N.length + 18 ≠ 16 + c := fun e => by rw [e, gc] at gP; simp at gP
  have hal : 16 ≤ 16 + a := by omega
  have hcl : 16 ≤ 16 + c := by omega
  have hPl : 16 ≤ N.length + 18 := by omega
  generalize (fun i => 16 + p i) = p' at *
  generalize (fun i => 16 + q i) = q' at *
  generalize shL 16 els = els' at *
  generalize 16 + a = a' at *
  generalize 16 + c = c' at *
  generalize N.length + 18 = P at *
  clear hG g16 hNx hNa hNc hNo hk hown okN
  have hs := strcOf_eta x
  generalize hw : (strcOf x).nodes = ns at *
  generalize hwn : (strcOf x).next = ys at *
  have la : ∀ G' : List Blk, ∀ e, NIx G' e ns p' q' → G'[a']? = some (.row true 85 4 e) → lendC (fun _ _ => true) G' 20 (.slref a' 0 ns.length ns.length) = some (encL 4 encNode ns) := fun G' e h1 h2 => h1.lend h2
  have lc : ∀ G' : List Blk, ∀ zs : List Int, zs.length = ys.length → G'[c']? = some (.row true 3 1 (zs.map encInt)) → lendC (fun _ _ => true) G' 20 (.slref c' 0 ys.length ys.length) = some (encL 1 encInt zs) := fun G' zs hz h => by simp [lendC, h, ← hz]
  have e1 := la G _ xG ga
  have e2 := lc G ys rfl gc
  refine cw_seq (go_ok hS ?_); simp [List.replicate, gP, g3, e1, e2]
  refine cw_seq (go_ok hS ?_); simp [List.replicate, hx, g0, g11, g12, g15]
  refine cw_seq (go_ok hS ?_); simp [List.replicate]
  refine cw_seq (go_ok (tab_h (ok_markHp 3) tab_nil) ?_); simp [List.replicate, g15, hxv, hxn]
  refine ⟨x.vars, rfl, x.next, rfl, hxv, hxn, g11, g12, ?_⟩
  have e4 : ∀ j, j ≠ 11 → j ≠ 12 → ((G.set 11 (.row true 3 1 (List.map encInt (marks 1 x.vars.length)))).set 12 (.row true 3 1 (List.map encInt (marks (1 + x.vars.length) x.next.length))))[j]? = G[j]? := fun j h1 h2 => by rw [List.getElem?_set_ne (by omega), List.getElem?_set_ne (by omega)]
  have l4 : ((G.set 11 (.row true 3 1 (List.map encInt (marks 1 x.vars.length)))).set 12 (.row true 3 1 (List.map encInt (marks (1 + x.vars.length) x.next.length)))).length = G.length := by simp
  generalize (G.set 11 (.row true 3 1 (List.map encInt (marks 1 x.vars.length)))).set 12 (.row true 3 1 (List.map encInt (marks (1 + x.vars.length) x.next.length))) = G2 at *
  have xG2 : NIx G2 els' ns p' q' := xG.congr fun j hj => e4 j (by have := hge j hj; omega) (by have := hge j hj; omega)
  have ga2 := (e4 a' (by omega) (by omega)).trans ga
  have gc2 := (e4 c' (by omega) (by omega)).trans gc
  have gP2 := (e4 P (by omega) (by omega)).trans gP
  have g02 := (e4 0 (by omega) (by omega)).trans g0
  have g32 := (e4 3 (by omega) (by omega)).trans g3
  have e3 := la G2 _ xG2 ga2
  have e5 := lc G2 ys rfl gc2
  have nk : ¬ ((1 : Int) + x.vars.length + x.next.length < 0) := by omega
  refine cw_seq (go_ok hS ?_); simp [List.replicate, nk, gP2, g32, e3, e5]
  refine cw_seq (go_ok hS ?_); simp [List.replicate]
  obtain ⟨H2, els2, mk, ml, mf, ma, mN, mc⟩ := mark_strc (k := 1) xG2 ga2 gc2 ho (by omega) (by omega) (by omega) (by omega) (by omega)
  refine cw_seq (go_ok (tab_h (c := ⟨18, Unit, fun _ H => H = G2, fun _ => [.agg [.slref a' 0 ns.length ns.length, .slref c' 0 ys.length ys.length], .int .i64 1], fun _ _ => .int .i64 (1 + ((ns.map szM).sum : Nat) + ys.length), fun _ _ => H2⟩) (fun _ H e => by cases e; exact mk) tab_nil) ?_)
  simp [List.replicate, gP2]
  have hP3 := (mf P (by rintro rfl; exact hPa rfl) (by rintro rfl; exact hPc rfl) hoP (by omega)).trans gP2
  have h03 := (mf 0 (by omega) (by omega) (fun h => by have := hge 0 h; omega) (by omega)).trans g02
  have h33 := (mf 3 (by omega) (by omega) (fun h => by have := hge 3 h; omega) (by omega)).trans g32
  clear mk mf
  have hml := mkdNs_len ns 1
  have la2 : ∀ G' : List Blk, ∀ e, NIx G' e (mkdNs ns 1) p' q' → G'[a']? = some (.row true 85 4 e) → lendC (fun _ _ => true) G' 20 (.slref a' 0 ns.length ns.length) = some (encL 4 encNode (mkdNs ns 1)) := fun G' e h1 h2 => by have := h1.lend h2; rwa [hml] at this
  have e6 := la2 H2 _ mN ma
  have e7 := lc H2 _ (by simp) mc
  have okQ : Ct.Ok Try.prog ⟨25, Unit, fun _ => True, fun _ => [.agg [encL 4 encNode (mkdNs ns 1), encL 1 encInt (marks (1 + ((ns.map szM).sum : Nat)) ys.length)], .int .i64 1], fun _ => .int .i64 (1 + ((ns.map szM).sum : Nat) + ys.length)⟩ := fun _ _ => ok_heldSM ((ns, ys), 1) ⟨⟨by simp, by simp⟩, by simp only; omega, by simp only; omega, by simp only; omega⟩
  have nq : ¬ ((1 : Int) + ((ns.map szM).sum : Nat) + ys.length < 0) := by omega
  refine cw_seq (go_ok hS ?_); simp [List.replicate]
  refine cw_seq (go_ok (tab_cons okQ tab_nil) ?_); simp [List.replicate, hP3, e6, e7]
  refine cw_seq (go_ok hS ?_); simp [List.replicate, nq]
  refine cw_seq (go_ok hS ?_); simp [List.replicate]
  refine cw_seq (go_ok hS ?_); simp [List.replicate, hx, h03]
  rw [hs]
  have e9 : ∀ j k, H2[j]? = some k → (H2 ++ [Blk.nrow, Blk.nrow, Blk.cells [encL 4 encNode ns, encL 1 encInt ys]])[j]? = some k := fun j k h => by
    rw [List.getElem?_append_left (List.getElem?_eq_some_iff.1 h).1]; exact h
  have r10 : (H2 ++ [Blk.nrow, Blk.nrow, Blk.cells [encL 4 encNode ns, encL 1 encInt ys]])[H2.length + 2]? = some (.cells [encL 4 encNode ns, encL 1 encInt ys]) := by rw [getHk]; rfl
  have rN := mN.app [Blk.nrow, Blk.nrow, Blk.cells [encL 4 encNode ns, encL 1 encInt ys]]
  have ra := e9 _ _ ma
  have rc := e9 _ _ mc
  have rP := e9 _ _ hP3
  have r3 := e9 _ _ h33
  generalize H2 ++ [Blk.nrow, Blk.nrow, Blk.cells [encL 4 encNode ns, encL 1 encInt ys]] = G6 at *
  generalize H2.length + 2 = P6 at *
  have f6 := la2 G6 _ rN ra
  have f7 := lc G6 _ (by simp) rc
  refine cw_seq (go_ok hS ?_); simp [List.replicate, r10, r3]
  refine cw_seq (go_ok hS ?_); simp [List.replicate]
  refine cw_seq (go_ok (tab_cons okQ tab_nil) ?_); simp [List.replicate, rP, f6, f7]
  refine cw_seq (go_ok hS ?_); simp [List.replicate, nq]
  refine cw_seq (go_ok hS ?_); simp [List.replicate]
  refine go_ok hS ?_; simp [List.replicate]
end Go.Vm
