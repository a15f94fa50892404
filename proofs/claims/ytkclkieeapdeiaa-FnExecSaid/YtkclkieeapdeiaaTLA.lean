/- spec.l8Free on two rows of the caller's, which are given up. No condition. -/
import Derived.Test.YtkclkieeapdeiaaTEZ
import Derived.Test.YtkclkieeapdeiaaTKC
import Derived.Test.YtkclkieeapdeiaaTPN
import Derived.Test.YtkclkieeapdeiaaTCS
set_option linter.unusedSimpArgs false
set_option linter.unusedVariables false
namespace Go.Vm
open Go.Proofs
def code_spec_l8Free : F := ⟨32, [.cell 2 true 4, .tmp 5],
 .seq (.reg [⟨some 2, .box (.t 0), none⟩,
    ⟨some 4, .alloc [(.sl .nil 0 []), (.sl .nil 0 [])], none⟩,
    ⟨some 5, .mov (.k (.int .i64 0)), none⟩])
 (.seq (.reg [⟨some 7, .faddr 0 (.t 2), none⟩,
     ⟨some 8, .load 1 false (.t 7), none⟩,
     ⟨some 9, .mov (.t 1), none⟩,
     ⟨some 10, .iaddr 1 (.t 8) (.t 9), none⟩,
     ⟨some 11, .load 1 false (.t 10), none⟩,
     ⟨some 6, .mov (.t 11), none⟩])
  (.seq (.seq (.reg [⟨some 12, .faddr 0 (.t 2), none⟩,
       ⟨some 13, .load 1 false (.t 12), none⟩,
       ⟨some 14, .mov (.t 6), none⟩,
       ⟨some 15, .call 99 [(.t 13), (.t 14)], none⟩,
       ⟨some 16, .len (.t 15), none⟩,
       ⟨some 17, .bin .gtr (.t 16) (.k (.int .i64 1)), none⟩,
       ⟨some 18, .mov (.t 17), none⟩,
       ⟨some 19, .faddr 1 (.t 2), some (18, false)⟩,
       ⟨some 20, .load 1 false (.t 19), some (18, false)⟩,
       ⟨some 21, .mov (.t 6), some (18, false)⟩,
       ⟨some 22, .call 87 [(.t 20), (.t 21)], some (18, false)⟩,
       ⟨some 23, .pick (.t 18) (.k (.bool true)) (.t 22), none⟩])
    (.cond (.t 23)
     (.seq (.reg [⟨some 24, .build [(.sl .nil 0 []), (.sl .nil 0 [])] [], none⟩,
         ⟨none, .store 2 (.t 4) (.t 24), none⟩,
         ⟨some 5, .mov (.k (.int .i64 5)), none⟩])
      (.ret))
     (.skip)))
   (.seq (.reg [⟨some 25, .faddr 0 (.t 2), none⟩,
       ⟨some 26, .load 1 false (.t 25), none⟩,
       ⟨some 27, .mov (.t 1), none⟩,
       ⟨some 28, .iaddr 1 (.t 26) (.t 27), none⟩,
       ⟨none, .store 1 (.t 28) (.k (.int .i64 (-1))), none⟩])
    (.seq (.reg [⟨some 29, .load 2 true (.t 2), none⟩,
        ⟨some 30, .mov (.t 6), none⟩,
        ⟨some 31, .call 100 [(.t 29), (.t 30)], none⟩,
        ⟨none, .store 2 (.t 4) (.t 31), none⟩,
        ⟨some 5, .mov (.k (.int .i64 0)), none⟩])
     (.ret)))))⟩
theorem fok_spec_l8Free : FOk Try.prog 89 code_spec_l8Free := fok Try.func89 (by kernel_rfl)
structure F8 where
  y : List Blk
  vs : List Int
  nx : List Int
  z : List Blk
  i : Nat
def F8.a (x : F8) : Int := x.vs.getD x.i 0
def F8.bad (x : F8) : Prop := 1 < (pos x.vs x.a).length ∨ x.a ∈ x.nx
instance (x : F8) : Decidable x.bad := by unfold F8.bad; infer_instance
def F8.out (x : F8) : Heap := if x.bad then ⟨[], []⟩ else ⟨(x.vs.set x.i (-1)).map (decC x.a.toNat), (x.nx.eraseIdx x.a.toNat).map (decC x.a.toNat)⟩
def F8.code (x : F8) : Int := if x.bad then 5 else 0
structure F8.Pre (x : F8) : Prop where
  ly : x.y.length = 10
  lz : x.z.length = 5
  lv : x.vs.length ≤ 4
  ln : x.nx.length ≤ 6
  hi : x.i < x.vs.length
  bv : ∀ t ∈ x.vs, -1 ≤ t ∧ t ≤ 1000
  bn : ∀ t ∈ x.nx, -1 ≤ t ∧ t ≤ 1000
  ha : 0 ≤ x.a
@[simp] def ct_l8Free : CtH := ⟨89, F8, fun x H => H = x.y ++ .row true 3 1 (x.vs.map encInt) :: .row true 3 1 (x.nx.map encInt) :: x.z ∧ x.Pre,
  fun x => [.agg [.slref 10 0 x.vs.length x.vs.length, .slref 11 0 x.nx.length x.nx.length], .int .i64 x.i],
  fun x _ => .tup [encHeap x.out, .int .i64 x.code], fun x _ => x.y ++ .dead :: .dead :: (x.z ++ [.dead, .dead, .dead, .cells [encL 1 encInt x.out.vars, encL 1 encInt x.out.next]])⟩
set_option maxHeartbeats 4000000 in
theorem ok_l8Free : ct_l8Free.Ok Try.prog := by
  rintro ⟨y, vs, nx, z, i⟩ H ⟨rfl, ⟨ly, lz, lv, ln, hi, bv, bn, ha⟩⟩
  simp only at ly lz lv ln hi bv bn
  rcases y with _ | ⟨y0, _ | ⟨y1, _ | ⟨y2, _ | ⟨y3, _ | ⟨y4, _ | ⟨y5, _ | ⟨y6, _ | ⟨y7, _ | ⟨y8, _ | ⟨y9, _ | ⟨y10, y⟩⟩⟩⟩⟩⟩⟩⟩⟩⟩⟩ <;> simp at ly
  rcases z with _ | ⟨z0, _ | ⟨z1, _ | ⟨z2, _ | ⟨z3, _ | ⟨z4, _ | ⟨z5, z⟩⟩⟩⟩⟩⟩ <;> simp at lz
  have hT : TabOk Try.prog _ := tab_h (CtN.hok ok_PositionsN) (tab_cons ok_l7Has (tab_cons ok_sWithout tab_nil))
  have e1 : F8.a ⟨[y0, y1, y2, y3, y4, y5, y6, y7, y8, y9], vs, nx, [z0, z1, z2, z3, z4], i⟩ = vs[i] := by simp [F8.a, List.getD_eq_getElem?_getD, hi]
  rw [e1] at ha
  have ho : F8.out ⟨[y0, y1, y2, y3, y4, y5, y6, y7, y8, y9], vs, nx, [z0, z1, z2, z3, z4], i⟩ = if 1 < (pos vs vs[i]).length ∨ vs[i] ∈ nx then ⟨[], []⟩ else ⟨(vs.set i (-1)).map (decC vs[i].toNat), (nx.eraseIdx vs[i].toNat).map (decC vs[i].toNat)⟩ := by
    unfold F8.out F8.bad; simp only [e1]
  have hc : F8.code ⟨[y0, y1, y2, y3, y4, y5, y6, y7, y8, y9], vs, nx, [z0, z1, z2, z3, z4], i⟩ = if 1 < (pos vs vs[i]).length ∨ vs[i] ∈ nx then 5 else 0 := by
    unfold F8.code F8.bad; simp only [e1]
  simp only [ct_l8Free, ho, hc]
  clear ho hc e1
  have z1' : vs.length ≤ 1048576 := by omega
  have z2' : nx.length ≤ 1048576 := by omega
  refine OkH.of_self fun hB => OkH.of_cw fok_spec_l8Free ?_
  have hs := hB 21 (by simp)
  simp only [List.cons_append, List.nil_append, all2_cons, forall_and] at hs
  obtain ⟨s0, s1, s2, s3, s4, s5, s6, s7, s8, s9, -, -, r0, r1, r2, r3, r4, -⟩ := hs
  clear hB
  simp only [code_spec_l8Free, frame, List.length_cons, List.length_nil, List.replicate, Nat.reduceSub, Nat.reduceAdd, List.cons_append, List.nil_append]
  refine cw_seq (go_ok hT ?_); simp [List.replicate]
  refine cw_seq (go_ok hT ?_); simp [List.replicate, hi]
  generalize hav : vs[i] = a at *
  by_cases q : 1 < (pos vs a).length ∨ a ∈ nx
  · simp only [q, if_true]
    refine cw_seq (cw_to ⟨slots 32 [(4, .pbox 20 0), (23, .bool true)], [y0, y1, y2, y3, y4, y5, y6, y7, y8, y9, .dead, .dead, z0, z1, z2, z3, z4, .dead, .nrow, .nrow, .cells [.slref 18 0 0 0, .slref 19 0 0 0], .dead]⟩ ?_ ?_)
    · refine go_ok hT ?_
      by_cases q1 : 1 < (pos vs a).length
      · have q2 : (1 : Int) < (pos vs a).length := by omega
        have q3 : ¬ ((pos vs a).length : Int) ≤ 1 := by omega
        simp [List.replicate, q1, q2, q3, z1']
        exact weak_less (by simp) (by simp [List.replicate])
      · have q2 : ¬ (1 : Int) < (pos vs a).length := by omega
        have q3 : ((pos vs a).length : Int) ≤ 1 := by omega
        have q4 : a ∈ nx := q.resolve_left q1
        simp [List.replicate, q1, q2, q3, q4, z1', z2']
        exact weak_less (by simp) (by simp [List.replicate])
    · refine go_ok hT ?_; simp [List.replicate]
      refine ⟨⟨slots 32 [(4, .pbox 20 0), (5, .int .i64 5)], _⟩, weak_seal 21 (by simp) (H' := [y0, y1, y2, y3, y4, y5, y6, y7, y8, y9, .dead, .dead, z0, z1, z2, z3, z4, .dead, .dead, .dead, .cells [encL 1 encInt [], encL 1 encInt []]]) ?_ ?_, ?_⟩
      · simp [s0, s1, s2, s3, s4, s5, s6, s7, s8, s9, r0, r1, r2, r3, r4]
      · simp [List.replicate]
      · simp [retH, List.replicate, encHeap_eq]
  · simp only [q, if_false]
    have q1 : ¬ 1 < (pos vs a).length := fun h => q (.inl h)
    have q2 : ¬ (1 : Int) < (pos vs a).length := by omega
    have q3 : ((pos vs a).length : Int) ≤ 1 := by omega
    have q4 : ¬ a ∈ nx := fun h => q (.inr h)
    refine cw_seq (cw_to ⟨slots 32 [(1, .int .i64 i), (2, .pbox 17 0), (4, .pbox 20 0), (6, .int .i64 a), (23, .bool false)], [y0, y1, y2, y3, y4, y5, y6, y7, y8, y9, .row true 3 1 (vs.map encInt), .row true 3 1 (nx.map encInt), z0, z1, z2, z3, z4, .cells [.slref 10 0 vs.length vs.length, .slref 11 0 nx.length nx.length], .nrow, .nrow, .cells [.slref 18 0 0 0, .slref 19 0 0 0], .dead]⟩ ?_ ?_)
    · refine go_ok hT ?_
      simp [List.replicate, q1, q2, q3, q4, z1', z2']
      exact weak_less (by simp) (by simp [List.replicate])
    · refine go_ok hT ?_; simp [List.replicate]
      have hm : (vs.set i (-1)).length = vs.length := by simp
      have b1 : ∀ t ∈ vs.set i (-1), -1 ≤ t ∧ t ≤ 1000 := fun t ht => by
        rcases List.mem_or_eq_of_mem_set ht with h | h
        · exact bv t h
        · subst h; decide
      obtain ⟨c, rfl⟩ : ∃ c : Nat, a = c := ⟨a.toNat, by omega⟩
      have eA : (c : Int).toNat = c := by simp
      rw [eA]
      have hl8 : (vs.set i (-1)).length ≤ 4 := by omega
      refine cw_to ⟨slots 32 [(2, .pbox 17 0), (4, .pbox 20 0), (6, .int .i64 c)], [y0, y1, y2, y3, y4, y5, y6, y7, y8, y9, .row true 3 1 ((vs.set i (-1)).map encInt), .row true 3 1 (nx.map encInt), z0, z1, z2, z3, z4, .cells [.slref 10 0 (vs.set i (-1)).length (vs.set i (-1)).length, .slref 11 0 nx.length nx.length], .nrow, .nrow, .cells [.slref 18 0 0 0, .slref 19 0 0 0], .dead]⟩ ?_ ?_
      · refine go_ok hT ?_; simp [List.replicate, hi]
        exact weak_less (by simp [encInt]) (by simp [List.replicate])
      · have e3 : (List.map (decC c) vs).set i (decC c (-1)) = List.map (decC c) (vs.set i (-1)) := by simp
        simp only [e3]
        clear e3
        generalize vs.set i (-1) = ws at *
        clear hm hav
        refine cw_seq (go_ok hT ?_); simp [List.replicate]
        refine ⟨⟨⟨ws, nx⟩, c⟩, ?_⟩
        simp [encHeap_eq, hl8, ln]
        refine ⟨b1, bn, ?_⟩
        simp [Blk.freeze, Blk.frozen]
        refine go_ok hT ?_; simp [List.replicate]
        refine ⟨⟨slots 32 [(4, .pbox 20 0), (5, .int .i64 0)], _⟩, weak_seal 21 (by simp) (H' := [y0, y1, y2, y3, y4, y5, y6, y7, y8, y9, .dead, .dead, z0, z1, z2, z3, z4, .dead, .dead, .dead, .cells [encL 1 encInt (ws.map (decC c)), encL 1 encInt ((nx.eraseIdx c).map (decC c))]]) ?_ ?_, ?_⟩
        · simp [s0, s1, s2, s3, s4, s5, s6, s7, s8, s9, r0, r1, r2, r3, r4]
        · simp [List.replicate]
        · simp [retH, List.replicate, encHeap_eq]
end Go.Vm
