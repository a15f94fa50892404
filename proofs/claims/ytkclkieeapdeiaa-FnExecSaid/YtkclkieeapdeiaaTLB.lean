/- spec.l8Do on two rows of the caller's. No condition. -/
import Derived.Test.YtkclkieeapdeiaaTLA
import Derived.Test.YtkclkieeapdeiaaTEX
set_option linter.unusedSimpArgs false
set_option linter.unusedVariables false
namespace Go.Vm
open Go.Proofs
def code_spec_l8Do : F := ⟨110, [.cell 2 true 8, .tmp 9],
 .seq (.reg [⟨some 4, .box (.t 0), none⟩,
    ⟨some 5, .box (.t 1), none⟩,
    ⟨some 8, .alloc [(.sl .nil 0 []), (.sl .nil 0 [])], none⟩,
    ⟨some 9, .mov (.k (.int .i64 0)), none⟩])
 (.seq (.seq (.reg [⟨some 12, .faddr 0 (.t 4), none⟩,
      ⟨some 13, .load 1 false (.t 12), none⟩])
   (.block 0 (.seq (.reg [⟨some 15, .bin .eql (.t 13) (.k (.int .i64 2)), none⟩,
        ⟨some 14, .mov (.t 15), none⟩])
     (.cond (.t 14)
      (.reg [⟨some 16, .faddr 0 (.t 5), none⟩,
         ⟨some 17, .load 1 false (.t 16), none⟩,
         ⟨some 18, .mov (.t 2), none⟩,
         ⟨some 19, .iaddr 1 (.t 17) (.t 18), none⟩,
         ⟨none, .store 1 (.t 19) (.k (.int .i64 (-1))), none⟩])
      (.seq (.reg [⟨some 21, .bin .eql (.t 13) (.k (.int .i64 3)), none⟩,
          ⟨some 20, .mov (.t 21), none⟩])
       (.cond (.t 20)
        (.seq (.reg [⟨some 22, .faddr 0 (.t 5), none⟩,
            ⟨some 23, .load 1 false (.t 22), none⟩,
            ⟨some 24, .mov (.t 2), none⟩,
            ⟨some 25, .faddr 1 (.t 5), none⟩,
            ⟨some 26, .load 1 false (.t 25), none⟩,
            ⟨some 27, .len (.t 26), none⟩,
            ⟨some 28, .iaddr 1 (.t 23) (.t 24), none⟩,
            ⟨none, .store 1 (.t 28) (.t 27), none⟩])
         (.reg [⟨some 29, .faddr 1 (.t 5), none⟩,
            ⟨some 30, .load 1 false (.t 29), none⟩,
            ⟨some 31, .bsl 3 1 1 (.int .i64 0) [(0, (.k (.int .i64 (-1))))], none⟩,
            ⟨some 32, .append 3 1 8 (.t 30) (.t 31), none⟩,
            ⟨some 33, .faddr 1 (.t 5), none⟩,
            ⟨none, .store 1 (.t 33) (.t 32), none⟩]))
        (.seq (.reg [⟨some 35, .bin .eql (.t 13) (.k (.int .i64 4)), none⟩,
            ⟨some 34, .mov (.t 35), none⟩])
         (.cond (.t 34)
          (.dreg [false, false, false, false, false, false, false, false, true, true] [false, false, false, false, false, false, false, false, false, false] [⟨some 36, .faddr 0 (.t 5), none⟩,
             ⟨some 37, .load 1 false (.t 36), none⟩,
             ⟨some 38, .mov (.t 2), none⟩,
             ⟨some 39, .faddr 0 (.t 5), none⟩,
             ⟨some 40, .load 1 false (.t 39), none⟩,
             ⟨some 41, .mov (.t 3), none⟩,
             ⟨some 42, .iaddr 1 (.t 40) (.t 41), none⟩,
             ⟨some 43, .load 1 false (.t 42), none⟩,
             ⟨some 44, .iaddr 1 (.t 37) (.t 38), none⟩,
             ⟨none, .store 1 (.t 44) (.t 43), none⟩])
          (.seq (.reg [⟨some 46, .bin .eql (.t 13) (.k (.int .i64 5)), none⟩,
              ⟨some 45, .mov (.t 46), none⟩])
           (.cond (.t 45)
            (.dreg [false, false, false, false, false, false, false, false, false, false, false, false, true, true] [false, false, false, false, false, false, false, false, false, false, false, false, false, false] [⟨some 47, .faddr 0 (.t 5), none⟩,
               ⟨some 48, .load 1 false (.t 47), none⟩,
               ⟨some 49, .mov (.t 2), none⟩,
               ⟨some 50, .faddr 1 (.t 5), none⟩,
               ⟨some 51, .load 1 false (.t 50), none⟩,
               ⟨some 52, .faddr 0 (.t 5), none⟩,
               ⟨some 53, .load 1 false (.t 52), none⟩,
               ⟨some 54, .mov (.t 3), none⟩,
               ⟨some 55, .iaddr 1 (.t 53) (.t 54), none⟩,
               ⟨some 56, .load 1 false (.t 55), none⟩,
               ⟨some 57, .iaddr 1 (.t 51) (.t 56), none⟩,
               ⟨some 58, .load 1 false (.t 57), none⟩,
               ⟨some 59, .iaddr 1 (.t 48) (.t 49), none⟩,
               ⟨none, .store 1 (.t 59) (.t 58), none⟩])
            (.seq (.reg [⟨some 61, .bin .eql (.t 13) (.k (.int .i64 6)), none⟩,
                ⟨some 60, .mov (.t 61), none⟩])
             (.cond (.t 60)
              (.dreg [false, false, false, false, false, false, false, true, true] [false, false, false, false, false, false, false, false, false] [⟨some 62, .faddr 1 (.t 5), none⟩,
                 ⟨some 63, .load 1 false (.t 62), none⟩,
                 ⟨some 64, .faddr 0 (.t 5), none⟩,
                 ⟨some 65, .load 1 false (.t 64), none⟩,
                 ⟨some 66, .mov (.t 2), none⟩,
                 ⟨some 67, .iaddr 1 (.t 65) (.t 66), none⟩,
                 ⟨some 68, .load 1 false (.t 67), none⟩,
                 ⟨some 69, .iaddr 1 (.t 63) (.t 68), none⟩,
                 ⟨none, .store 1 (.t 69) (.k (.int .i64 (-1))), none⟩])
              (.seq (.reg [⟨some 71, .bin .eql (.t 13) (.k (.int .i64 7)), none⟩,
                  ⟨some 70, .mov (.t 71), none⟩])
               (.cond (.t 70)
                (.seq (.seq (.dreg [false, false, false, false, false, false, false, false, false, false, false, false, true] [false, false, false, false, false, false, true, false, false, false, false, false, true] [⟨some 72, .load 2 true (.t 5), none⟩,
                     ⟨some 73, .faddr 0 (.t 5), none⟩,
                     ⟨some 74, .load 1 false (.t 73), none⟩,
                     ⟨some 75, .mov (.t 3), none⟩,
                     ⟨some 76, .iaddr 1 (.t 74) (.t 75), none⟩,
                     ⟨some 77, .load 1 false (.t 76), none⟩,
                     ⟨some 78, .call 88 [(.t 72), (.t 77)], none⟩,
                     ⟨some 79, .faddr 0 (.t 5), none⟩,
                     ⟨some 80, .load 1 false (.t 79), none⟩,
                     ⟨some 81, .mov (.t 2), none⟩,
                     ⟨some 82, .iaddr 1 (.t 80) (.t 81), none⟩,
                     ⟨some 83, .load 1 false (.t 82), none⟩,
                     ⟨some 84, .call 87 [(.t 78), (.t 83)], none⟩])
                  (.cond (.t 84)
                   (.seq (.reg [⟨some 85, .build [(.sl .nil 0 []), (.sl .nil 0 [])] [], none⟩,
                       ⟨none, .store 2 (.t 8) (.t 85), none⟩,
                       ⟨some 9, .mov (.k (.int .i64 3)), none⟩])
                    (.ret))
                   (.skip)))
                 (.dreg [false, false, false, false, false, false, false, false, false, false, false, false, true, true] [false, false, false, false, false, false, false, false, false, false, false, false, false, false] [⟨some 86, .faddr 1 (.t 5), none⟩,
                    ⟨some 87, .load 1 false (.t 86), none⟩,
                    ⟨some 88, .faddr 0 (.t 5), none⟩,
                    ⟨some 89, .load 1 false (.t 88), none⟩,
                    ⟨some 90, .mov (.t 2), none⟩,
                    ⟨some 91, .iaddr 1 (.t 89) (.t 90), none⟩,
                    ⟨some 92, .load 1 false (.t 91), none⟩,
                    ⟨some 93, .faddr 0 (.t 5), none⟩,
                    ⟨some 94, .load 1 false (.t 93), none⟩,
                    ⟨some 95, .mov (.t 3), none⟩,
                    ⟨some 96, .iaddr 1 (.t 94) (.t 95), none⟩,
                    ⟨some 97, .load 1 false (.t 96), none⟩,
                    ⟨some 98, .iaddr 1 (.t 87) (.t 92), none⟩,
                    ⟨none, .store 1 (.t 98) (.t 97), none⟩]))
                (.seq (.reg [⟨some 100, .bin .eql (.t 13) (.k (.int .i64 8)), none⟩,
                    ⟨some 99, .mov (.t 100), none⟩])
                 (.cond (.t 99)
                  (.seq (.reg [⟨some 102, .load 2 true (.t 5), none⟩,
                      ⟨some 103, .mov (.t 2), none⟩,
                      ⟨some 104, .call 89 [(.t 102), (.t 103)], none⟩,
                      ⟨some 101, .mov (.t 104), none⟩,
                      ⟨some 105, .extr (.t 101) 0, none⟩,
                      ⟨some 106, .extr (.t 101) 1, none⟩,
                      ⟨some 10, .alloc [(.sl .nil 0 []), (.sl .nil 0 [])], none⟩,
                      ⟨none, .store 2 (.t 10) (.t 105), none⟩,
                      ⟨some 11, .mov (.t 106), none⟩])
                   (.seq (.reg [⟨some 107, .load 2 true (.t 10), none⟩,
                       ⟨some 108, .mov (.t 11), none⟩,
                       ⟨none, .store 2 (.t 8) (.t 107), none⟩,
                       ⟨some 9, .mov (.t 108), none⟩])
                    (.ret)))
                  (.skip)))))))))))))))))
  (.seq (.reg [⟨some 109, .load 2 true (.t 5), none⟩,
      ⟨none, .store 2 (.t 8) (.t 109), none⟩,
      ⟨some 9, .mov (.k (.int .i64 0)), none⟩])
   (.ret)))⟩
theorem fok_spec_l8Do : FOk Try.prog 54 code_spec_l8Do := fok Try.func54 (by kernel_rfl)
structure D8 where
  y : List Blk
  vs : List Int
  nx : List Int
  s : Stmt
  i : Nat
  j : Nat
def D8.a (x : D8) : Int := x.vs.getD x.i 0
def D8.b (x : D8) : Int := x.vs.getD x.j 0
def D8.code (x : D8) : Int := if x.s.kind = 8 ∧ (1 < (pos x.vs x.a).length ∨ x.a ∈ x.nx) then 5 else if x.s.kind = 7 ∧ x.a ∈ followed x.nx x.b then 3 else 0
def D8.out (x : D8) : Heap := if x.code = 0 then perfH x.s.kind ⟨x.vs, x.nx⟩ x.i x.a x.b else ⟨[], []⟩
def D8.own (x : D8) : Prop := x.code = 0 ∧ ¬ x.s.kind = 8
instance (x : D8) : Decidable x.own := by unfold D8.own; infer_instance
structure D8.Pre (x : D8) : Prop where
  ly : x.y.length = 10
  lv : x.vs.length ≤ 4
  ln : x.nx.length ≤ 6
  hi : x.i < x.vs.length
  hj : x.j < x.vs.length
  bv : ∀ t ∈ x.vs, -1 ≤ t ∧ t ≤ 1000
  bn : ∀ t ∈ x.nx, -1 ≤ t ∧ t ≤ 1000
  cl : closedC x.nx
  ca : x.s.kind = 6 ∨ x.s.kind = 7 ∨ x.s.kind = 8 → 0 ≤ x.a ∧ x.a < x.nx.length
  cb : x.s.kind = 5 → 0 ≤ x.b ∧ x.b < x.nx.length
  cc : x.b = -1 ∨ inC x.nx.length x.b
def D8.hp (x : D8) : List Blk := x.y ++ (if x.own then [.row true 3 1 (x.out.vars.map encInt), .row true 3 1 (x.out.next.map encInt), .dead, .dead, .dead, .dead, .cells [.slref 10 0 x.out.vars.length x.out.vars.length, .slref 11 0 x.out.next.length x.out.next.length]] else [.dead, .dead, .dead, .dead, .dead, .dead, .cells [encL 1 encInt x.out.vars, encL 1 encInt x.out.next]])
def D8.rs (x : D8) : AV := .tup [if x.own then .agg [.slref 10 0 x.out.vars.length x.out.vars.length, .slref 11 0 x.out.next.length x.out.next.length] else encHeap x.out, .int .i64 x.code]
@[simp] def ct_l8Do : CtH := ⟨54, D8, fun x H => H = x.y ++ [.row true 3 1 (x.vs.map encInt), .row true 3 1 (x.nx.map encInt)] ∧ x.Pre,
  fun x => [encStmt x.s, .agg [.slref 10 0 x.vs.length x.vs.length, .slref 11 0 x.nx.length x.nx.length], .int .i64 x.i, .int .i64 x.j],
  fun x _ => x.rs, fun x _ => x.hp⟩
set_option maxRecDepth 20000 in
set_option maxHeartbeats 8000000 in
theorem ok_l8Do : ct_l8Do.Ok Try.prog := by
  rintro ⟨y, vs, nx, s, i, j⟩ H ⟨rfl, ⟨ly, lv, ln, hi, hj, bv, bn, cl, ca, cb, cc⟩⟩
  simp only [D8.a, D8.b] at ly lv ln hi hj bv bn cl ca cb cc
  rcases y with _ | ⟨y0, _ | ⟨y1, _ | ⟨y2, _ | ⟨y3, _ | ⟨y4, _ | ⟨y5, _ | ⟨y6, _ | ⟨y7, _ | ⟨y8, _ | ⟨y9, _ | ⟨y10, y⟩⟩⟩⟩⟩⟩⟩⟩⟩⟩⟩ <;> simp at ly
  have hT : TabOk Try.prog _ := tab_h (CtN.hok ok_FollowedN) (tab_h ok_l8Free (tab_cons ok_l7Has tab_nil))
  have e1 : vs.getD i 0 = vs[i] := by simp [List.getD_eq_getElem?_getD, hi]
  have e2 : vs.getD j 0 = vs[j] := by simp [List.getD_eq_getElem?_getD, hj]
  rw [e1] at ca
  rw [e2] at cb cc
  have hc : D8.code ⟨[y0, y1, y2, y3, y4, y5, y6, y7, y8, y9], vs, nx, s, i, j⟩ = if s.kind = 8 ∧ (1 < (pos vs vs[i]).length ∨ vs[i] ∈ nx) then 5 else if s.kind = 7 ∧ vs[i] ∈ followed nx vs[j] then 3 else 0 := by
    unfold D8.code D8.a D8.b; simp only [e1, e2]
  simp only [ct_l8Do, D8.rs, D8.hp, D8.own, D8.out, D8.a, D8.b, e1, e2, hc]
  clear hc e1 e2
  have z1 : vs.length ≤ 1048576 := by omega
  have z2 : nx.length ≤ 1048576 := by omega
  refine OkH.of_self fun hB => OkH.of_cw fok_spec_l8Do ?_
  have hs := hB 17 (by simp)
  simp only [List.cons_append, List.nil_append, all2_cons, forall_and] at hs
  obtain ⟨s0, s1, s2, s3, s4, s5, s6, s7, s8, s9, -, -, -⟩ := hs
  clear hB
  simp only [code_spec_l8Do, frame, List.length_cons, List.length_nil, List.replicate, Nat.reduceSub, Nat.reduceAdd, List.cons_append, List.nil_append]
  refine cw_seq (go_ok hT ?_); simp [List.replicate, encStmt_eq]
  have hset : ∀ (l : List Int) (i : Nat) (y : Int), (List.map encInt l).set i (.int .i64 y) = List.map encInt (l.set i y) := fun l i y => by rw [List.map_set]; rfl
  generalize hav : vs[i] = a at *
  generalize hbv : vs[j] = b at *
  by_cases k2 : s.kind = 2
  · refine cw_seq (go_ok hT ?_)
    simp [List.replicate, k2, hi]
    refine go_ok hT ?_
    simp [List.replicate, -List.map_set, hset, perfH, k2, hi]
    refine ⟨⟨slots 110 [(8, .pbox 16 0), (9, .int .i64 0)], [y0, y1, y2, y3, y4, y5, y6, y7, y8, y9, .row true 3 1 ((vs.set i (-1)).map encInt), .row true 3 1 ((nx).map encInt), .dead, .dead, .dead, .dead, .cells [.slref 10 0 (vs.set i (-1)).length (vs.set i (-1)).length, .slref 11 0 (nx).length (nx).length]]⟩, weak_less ?_ ?_, ?_⟩
    · simp [encInt]
    · simp [List.replicate]
    · simp [retH, List.replicate, encInt]
  by_cases k3 : s.kind = 3
  · have hnb : (nx.length + 1) * 8 ≤ 140737488355328 := by omega
    refine cw_seq (go_ok hT ?_)
    simp [List.replicate, k3, hi, app1, hnb]
    refine go_ok hT ?_
    simp [List.replicate, -List.map_set, hset, perfH, k3, hi, app1, hnb]
    refine ⟨⟨slots 110 [(8, .pbox 16 0), (9, .int .i64 0)], [y0, y1, y2, y3, y4, y5, y6, y7, y8, y9, .row true 3 1 ((vs.set i nx.length).map encInt), .row true 3 1 ((nx ++ [-1]).map encInt), .dead, .dead, .dead, .dead, .cells [.slref 10 0 (vs.set i nx.length).length (vs.set i nx.length).length, .slref 11 0 (nx ++ [-1]).length (nx ++ [-1]).length]]⟩, weak_seal 17 (by simp) ?_ ?_, ?_⟩
    · simp [encInt, s0, s1, s2, s3, s4, s5, s6, s7, s8, s9]
    · simp [List.replicate]
    · simp [retH, List.replicate, encInt]
  by_cases k4 : s.kind = 4
  · refine cw_seq (go_ok hT ?_)
    simp [List.replicate, isH, needs1, hasAl, k4, hi, hj, hbv]
    refine go_ok hT ?_
    simp [List.replicate, -List.map_set, hset, perfH, k4, hi, hj, hbv]
    refine ⟨⟨slots 110 [(8, .pbox 16 0), (9, .int .i64 0)], [y0, y1, y2, y3, y4, y5, y6, y7, y8, y9, .row true 3 1 ((vs.set i b).map encInt), .row true 3 1 ((nx).map encInt), .dead, .dead, .dead, .dead, .cells [.slref 10 0 (vs.set i b).length (vs.set i b).length, .slref 11 0 (nx).length (nx).length]]⟩, weak_less ?_ ?_, ?_⟩
    · simp [encInt]
    · simp [List.replicate]
    · simp [retH, List.replicate, encInt]
  by_cases k5 : s.kind = 5
  · obtain ⟨b1, b2⟩ := cb k5
    have b3 : b.toNat < nx.length := by omega
    refine cw_seq (go_ok hT ?_)
    simp [List.replicate, isH, needs1, hasAl, k5, hi, hj, hbv, b1, b2, b3]
    refine go_ok hT ?_
    simp [List.replicate, -List.map_set, hset, perfH, k5, hi, hj, hbv, b1, b2, b3]
    refine ⟨⟨slots 110 [(8, .pbox 16 0), (9, .int .i64 0)], [y0, y1, y2, y3, y4, y5, y6, y7, y8, y9, .row true 3 1 ((vs.set i nx[b.toNat]).map encInt), .row true 3 1 ((nx).map encInt), .dead, .dead, .dead, .dead, .cells [.slref 10 0 (vs.set i nx[b.toNat]).length (vs.set i nx[b.toNat]).length, .slref 11 0 (nx).length (nx).length]]⟩, weak_less ?_ ?_, ?_⟩
    · simp [encInt]
    · simp [List.replicate]
    · simp [retH, List.replicate, encInt]
  by_cases k6 : s.kind = 6
  · obtain ⟨a1, a2⟩ := ca (by omega)
    have a3 : a.toNat < nx.length := by omega
    refine cw_seq (go_ok hT ?_)
    simp [List.replicate, isH, needs1, hasAl, k6, hi, hj, hav, a1, a2, a3]
    refine go_ok hT ?_
    simp [List.replicate, -List.map_set, hset, perfH, k6, hi, hj, hav, a1, a2, a3]
    refine ⟨⟨slots 110 [(8, .pbox 16 0), (9, .int .i64 0)], [y0, y1, y2, y3, y4, y5, y6, y7, y8, y9, .row true 3 1 ((vs).map encInt), .row true 3 1 ((nx.set a.toNat (-1)).map encInt), .dead, .dead, .dead, .dead, .cells [.slref 10 0 (vs).length (vs).length, .slref 11 0 (nx.set a.toNat (-1)).length (nx.set a.toNat (-1)).length]]⟩, weak_less ?_ ?_, ?_⟩
    · simp [encInt]
    · simp [List.replicate]
    · simp [retH, List.replicate, encInt]
  by_cases k7 : s.kind = 7
  · obtain ⟨a1, a2⟩ := ca (by omega)
    have a3 : a.toNat < nx.length := by omega
    have hfl : (followed nx b).length ≤ 1048576 := by have := goodC_len (followed_good nx b); omega
    by_cases q : a ∈ followed nx b
    · refine cw_seq (go_ok hT ?_)
      simp [List.replicate, isH, needs1, hasAl, k7, hi, hj, hav, hbv, q, z1, z2]
      refine ⟨cl, cc, hfl, ?_⟩
      refine ⟨⟨slots 110 [(8, .pbox 16 0), (9, .int .i64 3)], [y0, y1, y2, y3, y4, y5, y6, y7, y8, y9, .dead, .dead, .dead, .dead, .dead, .dead, .cells [encL 1 encInt [], encL 1 encInt []]]⟩, weak_seal 17 (by simp) ?_ ?_, ?_⟩
      · simp [s0, s1, s2, s3, s4, s5, s6, s7, s8, s9]
      · simp [List.replicate]
      · simp [retH, List.replicate, encHeap_eq]
    · refine cw_seq (go_ok hT ?_)
      simp [List.replicate, isH, needs1, hasAl, k7, hi, hj, hav, hbv, q, z1, z2]
      refine ⟨cl, cc, hfl, ?_⟩
      simp [a1, a2, a3]
      refine go_ok hT ?_
      simp [List.replicate, -List.map_set, hset, perfH, k7]
      refine ⟨⟨slots 110 [(8, .pbox 16 0), (9, .int .i64 0)], [y0, y1, y2, y3, y4, y5, y6, y7, y8, y9, .row true 3 1 ((vs).map encInt), .row true 3 1 ((nx.set a.toNat b).map encInt), .dead, .dead, .dead, .dead, .cells [.slref 10 0 (vs).length (vs).length, .slref 11 0 (nx.set a.toNat b).length (nx.set a.toNat b).length]]⟩, weak_seal 17 (by simp) ?_ ?_, ?_⟩
      · simp [encInt, s0, s1, s2, s3, s4, s5, s6, s7, s8, s9]
      · simp [List.replicate]
      · simp [retH, List.replicate, encInt]
  by_cases k8 : s.kind = 8
  · obtain ⟨a1, a2⟩ := ca (by omega)
    refine cw_seq (go_ok hT ?_)
    simp [List.replicate, isH, needs1, hasAl, k8, hi, hj, hav, hbv, z1, z2]
    have ea : F8.a ⟨[y0, y1, y2, y3, y4, y5, y6, y7, y8, y9], vs, nx, [.cells [.int .i64 8, .str s.a, .str s.b], .cells [.slref 10 0 vs.length vs.length, .slref 11 0 nx.length nx.length], .nrow, .nrow, .cells [.slref 14 0 0 0, .slref 15 0 0 0]], i⟩ = a := by simp [F8.a, List.getD_eq_getElem?_getD, hi, hav]
    have ho : F8.out ⟨[y0, y1, y2, y3, y4, y5, y6, y7, y8, y9], vs, nx, [.cells [.int .i64 8, .str s.a, .str s.b], .cells [.slref 10 0 vs.length vs.length, .slref 11 0 nx.length nx.length], .nrow, .nrow, .cells [.slref 14 0 0 0, .slref 15 0 0 0]], i⟩ = if 1 < (pos vs a).length ∨ a ∈ nx then ⟨[], []⟩ else ⟨(vs.set i (-1)).map (decC a.toNat), (nx.eraseIdx a.toNat).map (decC a.toNat)⟩ := by
      unfold F8.out F8.bad; simp only [ea]
    have hc : F8.code ⟨[y0, y1, y2, y3, y4, y5, y6, y7, y8, y9], vs, nx, [.cells [.int .i64 8, .str s.a, .str s.b], .cells [.slref 10 0 vs.length vs.length, .slref 11 0 nx.length nx.length], .nrow, .nrow, .cells [.slref 14 0 0 0, .slref 15 0 0 0]], i⟩ = if 1 < (pos vs a).length ∨ a ∈ nx then 5 else 0 := by
      unfold F8.code F8.bad; simp only [ea]
    refine ⟨⟨[y0, y1, y2, y3, y4, y5, y6, y7, y8, y9], vs, nx, [.cells [.int .i64 8, .str s.a, .str s.b], .cells [.slref 10 0 vs.length vs.length, .slref 11 0 nx.length nx.length], .nrow, .nrow, .cells [.slref 14 0 0 0, .slref 15 0 0 0]], i⟩, rfl, rfl, rfl, rfl, ⟨rfl, rfl, lv, ln, hi, bv, bn, by rw [ea]; exact a1⟩, ?_⟩
    simp only [ho, hc]
    clear ho hc ea
    have hp : perfH 8 ⟨vs, nx⟩ (i : Int) a b = ⟨(vs.set i (-1)).map (decC a.toNat), (nx.eraseIdx a.toNat).map (decC a.toNat)⟩ := by simp [perfH]
    rw [hp]
    by_cases q : 1 < (pos vs a).length ∨ a ∈ nx
    · have q' : ((pos vs a).length ≤ 1 ∧ ¬ a ∈ nx) = False := eq_false fun h => q.elim (fun h1 => by omega) h.2
      simp only [q, q', if_true, if_false]
      simp
      refine ⟨⟨slots 110 [(8, .pbox 16 0), (9, .int .i64 5)], [y0, y1, y2, y3, y4, y5, y6, y7, y8, y9, .dead, .dead, .dead, .dead, .dead, .dead, .cells [encL 1 encInt [], encL 1 encInt []]]⟩, weak_seal 17 (by simp) ?_ ?_, ?_⟩
      · simp [s0, s1, s2, s3, s4, s5, s6, s7, s8, s9]
      · simp [List.replicate]
      · simp [retH, List.replicate, encHeap_eq]
    · have q' : ((pos vs a).length ≤ 1 ∧ ¬ a ∈ nx) = True := eq_true ⟨by have := fun h => q (.inl h); omega, fun h => q (.inr h)⟩
      have e3 : (List.map (decC a.toNat) vs).set i (decC a.toNat (-1)) = List.map (decC a.toNat) (vs.set i (-1)) := by simp
      simp only [q, q', if_true, if_false, e3]
      generalize (vs.set i (-1)).map (decC a.toNat) = A at *
      generalize (nx.eraseIdx a.toNat).map (decC a.toNat) = Z at *
      simp
      refine ⟨⟨slots 110 [(8, .pbox 16 0), (9, .int .i64 0)], [y0, y1, y2, y3, y4, y5, y6, y7, y8, y9, .dead, .dead, .dead, .dead, .dead, .dead, .cells [encL 1 encInt A, encL 1 encInt Z]]⟩, weak_seal 17 (by simp) ?_ ?_, ?_⟩
      · simp [s0, s1, s2, s3, s4, s5, s6, s7, s8, s9]
      · simp [List.replicate]
      · simp [retH, List.replicate, encHeap_eq]
  · refine cw_seq (go_ok hT ?_)
    simp [List.replicate, k2, k3, k4, k5, k6, k7, k8]
    refine go_ok hT ?_
    simp [List.replicate, -List.map_set, hset, perfH, k2, k3, k4, k5, k6, k7, k8]
    refine ⟨⟨slots 110 [(8, .pbox 16 0), (9, .int .i64 0)], [y0, y1, y2, y3, y4, y5, y6, y7, y8, y9, .row true 3 1 ((vs).map encInt), .row true 3 1 ((nx).map encInt), .dead, .dead, .dead, .dead, .cells [.slref 10 0 (vs).length (vs).length, .slref 11 0 (nx).length (nx).length]]⟩, weak_less ?_ ?_, ?_⟩
    · simp [encInt]
    · simp [List.replicate]
    · simp [retH, List.replicate, encInt]
end Go.Vm
