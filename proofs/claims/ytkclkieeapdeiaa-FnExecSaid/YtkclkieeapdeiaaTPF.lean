/- (impl.Heap).performed. No condition. -/
import Derived.Test.YtkclkieeapdeiaaTWO
import Derived.Test.YtkclkieeapdeiaaTSS
set_option linter.unusedSimpArgs false
set_option linter.unusedVariables false
namespace Go.Vm
open Go.Proofs
/-- The heap behind a statement that can be performed. -/
def perfH (k : Int) (h : Heap) (o a b : Int) : Heap :=
  if k = 2 then ⟨h.vars.set o.toNat (-1), h.next⟩
  else if k = 3 then ⟨h.vars.set o.toNat h.next.length, h.next ++ [-1]⟩
  else if k = 4 then ⟨h.vars.set o.toNat b, h.next⟩
  else if k = 5 then ⟨h.vars.set o.toNat (h.next.getD b.toNat 0), h.next⟩
  else if k = 6 then ⟨h.vars, h.next.set a.toNat (-1)⟩
  else if k = 7 then ⟨h.vars, h.next.set a.toNat b⟩
  else if k = 8 then ⟨(h.vars.set o.toNat (-1)).map (decC a.toNat), (h.next.eraseIdx a.toNat).map (decC a.toNat)⟩
  else h
structure Pf where
  h : Heap
  s : Stmt
  o : Int
  a : Int
  b : Int
structure Pf.Pre (x : Pf) : Prop where
  lv : x.h.vars.length ≤ 4
  ln : x.h.next.length ≤ 6
  bv : ∀ y ∈ x.h.vars, -1 ≤ y ∧ y ≤ 1000
  bn : ∀ y ∈ x.h.next, -1 ≤ y ∧ y ≤ 1000
  own : x.s.kind = 2 ∨ x.s.kind = 3 ∨ x.s.kind = 4 ∨ x.s.kind = 5 ∨ x.s.kind = 8 → 0 ≤ x.o ∧ x.o < x.h.vars.length
  ca : x.s.kind = 6 ∨ x.s.kind = 7 ∨ x.s.kind = 8 → 0 ≤ x.a ∧ x.a < x.h.next.length
  cb : x.s.kind = 5 → 0 ≤ x.b ∧ x.b < x.h.next.length
def code_impl_Heap_performed : F := ⟨82, [.cell 2 true 10],
 .seq (.reg [⟨some 5, .box (.t 0), none⟩,
    ⟨some 6, .box (.t 1), none⟩,
    ⟨some 10, .alloc [(.sl .nil 0 []), (.sl .nil 0 [])], none⟩])
 (.seq (.dreg [false, false, false, false, false, false, false, false, true] [false, false, true, false, false, true, false, false, false] [⟨some 12, .faddr 0 (.t 5), none⟩,
     ⟨some 13, .load 1 false (.t 12), none⟩,
     ⟨some 14, .call 83 [(.t 13)], none⟩,
     ⟨some 15, .faddr 1 (.t 5), none⟩,
     ⟨some 16, .load 1 false (.t 15), none⟩,
     ⟨some 17, .call 83 [(.t 16)], none⟩,
     ⟨some 18, .build [(.sl .nil 0 []), (.sl .nil 0 [])] [(0, 1, (.t 14)), (1, 1, (.t 17))], none⟩,
     ⟨some 11, .alloc [(.sl .nil 0 []), (.sl .nil 0 [])], none⟩,
     ⟨none, .store 2 (.t 11) (.t 18), none⟩])
  (.seq (.seq (.reg [⟨some 19, .faddr 0 (.t 6), none⟩,
       ⟨some 20, .load 1 false (.t 19), none⟩])
    (.block 0 (.seq (.reg [⟨some 22, .bin .eql (.t 20) (.k (.int .i64 2)), none⟩,
         ⟨some 21, .mov (.t 22), none⟩])
      (.cond (.t 21)
       (.reg [⟨some 23, .faddr 0 (.t 11), none⟩,
          ⟨some 24, .load 1 false (.t 23), none⟩,
          ⟨some 25, .mov (.t 2), none⟩,
          ⟨some 26, .iaddr 1 (.t 24) (.t 25), none⟩,
          ⟨none, .store 1 (.t 26) (.k (.int .i64 (-1))), none⟩])
       (.seq (.reg [⟨some 28, .bin .eql (.t 20) (.k (.int .i64 3)), none⟩,
           ⟨some 27, .mov (.t 28), none⟩])
        (.cond (.t 27)
         (.seq (.reg [⟨some 29, .faddr 0 (.t 11), none⟩,
             ⟨some 30, .load 1 false (.t 29), none⟩,
             ⟨some 31, .mov (.t 2), none⟩,
             ⟨some 32, .faddr 1 (.t 11), none⟩,
             ⟨some 33, .load 1 false (.t 32), none⟩,
             ⟨some 34, .len (.t 33), none⟩,
             ⟨some 35, .iaddr 1 (.t 30) (.t 31), none⟩,
             ⟨none, .store 1 (.t 35) (.t 34), none⟩])
          (.reg [⟨some 36, .faddr 1 (.t 11), none⟩,
             ⟨some 37, .load 1 false (.t 36), none⟩,
             ⟨some 38, .bsl 3 1 1 (.int .i64 0) [(0, (.k (.int .i64 (-1))))], none⟩,
             ⟨some 39, .append 3 1 8 (.t 37) (.t 38), none⟩,
             ⟨some 40, .faddr 1 (.t 11), none⟩,
             ⟨none, .store 1 (.t 40) (.t 39), none⟩]))
         (.seq (.reg [⟨some 42, .bin .eql (.t 20) (.k (.int .i64 4)), none⟩,
             ⟨some 41, .mov (.t 42), none⟩])
          (.cond (.t 41)
           (.reg [⟨some 43, .faddr 0 (.t 11), none⟩,
              ⟨some 44, .load 1 false (.t 43), none⟩,
              ⟨some 45, .mov (.t 2), none⟩,
              ⟨some 46, .mov (.t 4), none⟩,
              ⟨some 47, .iaddr 1 (.t 44) (.t 45), none⟩,
              ⟨none, .store 1 (.t 47) (.t 46), none⟩])
           (.seq (.reg [⟨some 49, .bin .eql (.t 20) (.k (.int .i64 5)), none⟩,
               ⟨some 48, .mov (.t 49), none⟩])
            (.cond (.t 48)
             (.dreg [false, false, false, false, false, false, false, false, true, true] [false, false, false, false, false, false, false, false, false, false] [⟨some 50, .faddr 0 (.t 11), none⟩,
                ⟨some 51, .load 1 false (.t 50), none⟩,
                ⟨some 52, .mov (.t 2), none⟩,
                ⟨some 53, .faddr 1 (.t 5), none⟩,
                ⟨some 54, .load 1 false (.t 53), none⟩,
                ⟨some 55, .mov (.t 4), none⟩,
                ⟨some 56, .iaddr 1 (.t 54) (.t 55), none⟩,
                ⟨some 57, .load 1 false (.t 56), none⟩,
                ⟨some 58, .iaddr 1 (.t 51) (.t 52), none⟩,
                ⟨none, .store 1 (.t 58) (.t 57), none⟩])
             (.seq (.reg [⟨some 60, .bin .eql (.t 20) (.k (.int .i64 6)), none⟩,
                 ⟨some 59, .mov (.t 60), none⟩])
              (.cond (.t 59)
               (.reg [⟨some 61, .faddr 1 (.t 11), none⟩,
                  ⟨some 62, .load 1 false (.t 61), none⟩,
                  ⟨some 63, .mov (.t 3), none⟩,
                  ⟨some 64, .iaddr 1 (.t 62) (.t 63), none⟩,
                  ⟨none, .store 1 (.t 64) (.k (.int .i64 (-1))), none⟩])
               (.seq (.reg [⟨some 66, .bin .eql (.t 20) (.k (.int .i64 7)), none⟩,
                   ⟨some 65, .mov (.t 66), none⟩])
                (.cond (.t 65)
                 (.reg [⟨some 67, .faddr 1 (.t 11), none⟩,
                    ⟨some 68, .load 1 false (.t 67), none⟩,
                    ⟨some 69, .mov (.t 3), none⟩,
                    ⟨some 70, .mov (.t 4), none⟩,
                    ⟨some 71, .iaddr 1 (.t 68) (.t 69), none⟩,
                    ⟨none, .store 1 (.t 71) (.t 70), none⟩])
                 (.seq (.reg [⟨some 73, .bin .eql (.t 20) (.k (.int .i64 8)), none⟩,
                     ⟨some 72, .mov (.t 73), none⟩])
                  (.cond (.t 72)
                   (.seq (.reg [⟨some 74, .faddr 0 (.t 11), none⟩,
                       ⟨some 75, .load 1 false (.t 74), none⟩,
                       ⟨some 76, .mov (.t 2), none⟩,
                       ⟨some 77, .iaddr 1 (.t 75) (.t 76), none⟩,
                       ⟨none, .store 1 (.t 77) (.k (.int .i64 (-1))), none⟩])
                    (.reg [⟨some 78, .load 2 true (.t 11), none⟩,
                       ⟨some 79, .mov (.t 3), none⟩,
                       ⟨some 80, .call 84 [(.t 78), (.t 79)], none⟩,
                       ⟨none, .store 2 (.t 11) (.t 80), none⟩]))
                   (.skip)))))))))))))))))
   (.seq (.reg [⟨some 81, .load 2 true (.t 11), none⟩,
       ⟨none, .store 2 (.t 10) (.t 81), none⟩])
    (.ret))))⟩
theorem fok_impl_Heap_performed : FOk Try.prog 45 code_impl_Heap_performed := fok Try.func45 (by kernel_rfl)
@[simp] def ct_performed : Ct := ⟨45, Pf, Pf.Pre, fun x => [encHeap x.h, encStmt x.s, .int .i64 x.o, .int .i64 x.a, .int .i64 x.b], fun x => encHeap (perfH x.s.kind x.h x.o x.a x.b)⟩
set_option maxHeartbeats 4000000 in
theorem ok_performed : ct_performed.Ok Try.prog := by
  rintro ⟨⟨vs, nx⟩, s, o, a, b⟩ ⟨lv, ln, bv, bn, ow, ca, cb⟩
  simp only at lv ln bv bn ow ca cb
  have hT : TabOk Try.prog _ := tab_h (CtN.hok ok_CloneN) (tab_h ok_without tab_nil)
  have z1 : vs.length ≤ 1048576 := by omega
  have z2 : nx.length ≤ 1048576 := by omega
  simp only [ct_performed]
  refine Ok.of_cw fok_impl_Heap_performed ?_
  simp only [code_impl_Heap_performed, frame, List.length_cons, List.length_nil, List.replicate, Nat.reduceSub, Nat.reduceAdd, List.cons_append, List.nil_append]
  refine cw_seq (go_ok hT ?_); simp [List.replicate, encStmt_eq, encHeap_eq]
  refine cw_weak (weak_void.trans (weak_void.trans weak_void)) ?_
  refine cw_seq (cw_dreg8K hT [_, _, _, _, _] [.void, .void, .void] [none, none, some 0, none, none, some 1, none, some 2] [[], [], [true, false, false], [], [], [false, true, false], [], [false, false, true]] (by rfl) ?_)
  simp [List.replicate, z1, z2]
  have hset : ∀ (l : List Int) (i : Nat) (y : Int), (List.map encInt l).set i (.int .i64 y) = List.map encInt (l.set i y) := fun l i y => by rw [List.map_set]; rfl
  have htv : ∀ i y, List.take vs.length (List.map encInt (vs.set i y)) = List.map encInt (vs.set i y) := fun i y => List.take_of_length_le (by simp)
  have htn : ∀ i y, List.take nx.length (List.map encInt (nx.set i y)) = List.map encInt (nx.set i y) := fun i y => List.take_of_length_le (by simp)
  have hta : List.take (nx.length + 1) (List.map encInt nx ++ [AV.int .i64 (-1)]) = List.map encInt (nx ++ [-1]) := by rw [List.take_of_length_le (by simp)]; simp
  have hen : encL 1 encInt (nx ++ [-1]) = mksl 1 (List.map encInt nx ++ [AV.int .i64 (-1)]) := by simp [encL]
  by_cases k2 : s.kind = 2
  · obtain ⟨o1, o2⟩ := ow (by omega)
    have o3 : o.toNat < vs.length := by omega
    refine cw_seq (go_ok hT ?_)
    simp [List.replicate, k2, o1, o2, o3]
    refine go_ok hT ?_
    simp [List.replicate, -List.map_set, hset, htv, htn, hta, perfH, k2, o1, o2, o3]
  by_cases k3 : s.kind = 3
  · obtain ⟨o1, o2⟩ := ow (by omega)
    have o3 : o.toNat < vs.length := by omega
    have hnb : (nx.length + 1) * 8 ≤ 140737488355328 := by omega
    refine cw_seq (go_ok hT ?_)
    simp [List.replicate, k3, o1, o2, o3, app1, hnb]
    refine go_ok hT ?_
    simp [List.replicate, -List.map_set, hset, htv, htn, hta, hen, perfH, k3, o1, o2, o3, app1, hnb]
  by_cases k4 : s.kind = 4
  · obtain ⟨o1, o2⟩ := ow (by omega)
    have o3 : o.toNat < vs.length := by omega
    refine cw_seq (go_ok hT ?_)
    simp [List.replicate, k4, o1, o2, o3]
    refine go_ok hT ?_
    simp [List.replicate, -List.map_set, hset, htv, htn, hta, perfH, k4, o1, o2, o3]
  by_cases k5 : s.kind = 5
  · obtain ⟨o1, o2⟩ := ow (by omega)
    have o3 : o.toNat < vs.length := by omega
    obtain ⟨b1, b2⟩ := cb (by omega)
    have b3 : b.toNat < nx.length := by omega
    refine cw_seq (go_ok hT ?_)
    simp (maxSteps := 2000000) [List.replicate, k5, o1, o2, o3, b1, b2, b3]
    refine go_ok hT ?_
    simp [List.replicate, -List.map_set, hset, htv, htn, hta, perfH, k5, o1, o2, o3, b1, b2, b3]
  by_cases k6 : s.kind = 6
  · obtain ⟨a1, a2⟩ := ca (by omega)
    have a3 : a.toNat < nx.length := by omega
    refine cw_seq (go_ok hT ?_)
    simp [List.replicate, k6, a1, a2, a3]
    refine go_ok hT ?_
    simp [List.replicate, -List.map_set, hset, htv, htn, hta, perfH, k6, a1, a2, a3]
  by_cases k7 : s.kind = 7
  · obtain ⟨a1, a2⟩ := ca (by omega)
    have a3 : a.toNat < nx.length := by omega
    refine cw_seq (go_ok hT ?_)
    simp [List.replicate, k7, a1, a2, a3]
    refine go_ok hT ?_
    simp [List.replicate, -List.map_set, hset, htv, htn, hta, perfH, k7, a1, a2, a3]
  by_cases k8 : s.kind = 8
  · obtain ⟨o1, o2⟩ := ow (by omega)
    have o3 : o.toNat < vs.length := by omega
    obtain ⟨a1, a2⟩ := ca (by omega)
    have a3 : a.toNat < nx.length := by omega
    refine cw_seq (go_ok hT ?_)
    simp [List.replicate, k8, o1, o2, o3]
    have hvb : ∀ y ∈ vs.set o.toNat (-1), -1 ≤ y ∧ y ≤ 1000 := fun y hy => by
      rcases List.mem_or_eq_of_mem_set hy with h | h
      · exact bv y h
      · omega
    have hzl : (nx.eraseIdx a.toNat).length = nx.length - 1 := by rw [List.length_eraseIdx]; simp [a3]
    refine ⟨⟨(_, _, _, _, _, _), vs.set o.toNat (-1), nx, a.toNat⟩, by simp, rfl, by simp only; omega, by rw [← hset]; rfl, a3, by simp; omega, ln, hvb, bn, ?_⟩
    simp only [fst6_eq, List.length_set]
    have hp : perfH 8 ⟨vs, nx⟩ o a b = ⟨(vs.set o.toNat (-1)).map (decC a.toNat), (nx.eraseIdx a.toNat).map (decC a.toNat)⟩ := rfl
    rw [hp]
    have hl1 : ((vs.set o.toNat (-1)).map (decC a.toNat)).length = vs.length := by simp
    have hl2 : ((nx.eraseIdx a.toNat).map (decC a.toNat)).length = nx.length - 1 := by simp [hzl]
    simp only [← List.map_map]
    generalize (vs.set o.toNat (-1)).map (decC a.toNat) = A at *
    generalize (nx.eraseIdx a.toNat).map (decC a.toNat) = Z at *
    have t1 : List.take vs.length (List.map encInt A) = List.map encInt A := List.take_of_length_le (by simp [hl1])
    have t2 : List.take (nx.length - 1) (List.map encInt Z ++ [AV.int .i64 0]) = List.map encInt Z := by rw [List.take_append_of_le_length (by simp [hl2]), List.take_of_length_le (by simp [hl2])]
    have t3 : nx.length - 1 + 1 = nx.length := by omega
    have t4 : nx.length - 1 ≤ nx.length := by omega
    simp
    refine go_ok hT ?_
    simp [List.replicate, hl1, hl2, t1, t2, t3, t4]
  · refine cw_seq (go_ok hT ?_)
    simp [List.replicate, k2, k3, k4, k5, k6, k7, k8]
    refine go_ok hT ?_
    simp [List.replicate, -List.map_set, hset, htv, htn, hta, perfH, k2, k3, k4, k5, k6, k7, k8]
end Go.Vm
