/- A heap copied: (impl.Heap).own on the caller's rows. No condition. -/
import Derived.Test.YtmakeoekklcbdaaTMK
import Derived.Test.YtmakeoekklcbdaaTWL
set_option linter.unusedSimpArgs false
set_option linter.unusedVariables false
namespace Go.Vm
open Go.Proofs
def code_slices_Clone_int_int : F := ⟨8, [.tmp 2],
 .seq (.reg [⟨some 2, .mov (.k (.sl .nil 0 [])), none⟩])
 (.seq (.seq (.reg [⟨some 3, .mov (.t 0), none⟩,
      ⟨some 4, .isnil false (.t 3), none⟩])
   (.cond (.t 4)
    (.seq (.reg [⟨some 2, .mov (.k (.sl .nil 0 [])), none⟩])
     (.ret))
    (.skip)))
  (.seq (.reg [⟨some 5, .bsl 3 1 0 (.int .i64 0) [], none⟩,
      ⟨some 6, .mov (.t 0), none⟩,
      ⟨some 7, .append 3 1 8 (.t 5) (.t 6), none⟩,
      ⟨some 2, .mov (.t 7), none⟩])
   (.ret)))⟩
theorem fok_slices_Clone_int_int : FOk Try.prog 168 code_slices_Clone_int_int := fok Try.func168 (by kernel_rfl)
def code_impl_Heap_own : F := ⟨10, [.cell 2 true 2],
 .seq (.reg [⟨some 1, .box (.t 0), none⟩,
    ⟨some 2, .alloc [(.sl .nil 0 []), (.sl .nil 0 [])], none⟩])
 (.seq (.dreg [false, false, false, false, false, true, true, true] [false, false, true, false, false, true, false, false] [⟨some 3, .faddr 0 (.t 1), none⟩,
     ⟨some 4, .load 1 false (.t 3), none⟩,
     ⟨some 5, .call 168 [(.t 4)], none⟩,
     ⟨some 6, .faddr 1 (.t 1), none⟩,
     ⟨some 7, .load 1 false (.t 6), none⟩,
     ⟨some 8, .call 168 [(.t 7)], none⟩,
     ⟨some 9, .build [(.sl .nil 0 []), (.sl .nil 0 [])] [(0, 1, (.t 5)), (1, 1, (.t 8))], none⟩,
     ⟨none, .store 2 (.t 2) (.t 9), none⟩])
  (.ret))⟩
theorem fok_impl_Heap_own : FOk Try.prog 89 code_impl_Heap_own := fok Try.func89 (by kernel_rfl)
theorem ite_nilR {xs : List Int} (h : ¬ xs.length = 0) {α : Type} (a b : α) : (if xs = [] then a else b) = b := if_neg (fun e => h (by rw [e]; rfl))
@[simp] def ct_CloneR (E : Nat) : CtH := ⟨168, Nat × List Int × Nat, fun x H => (x.2.2 ≤ x.2.1.length ∧ (x.2.2 = 0 → x.2.1.length = 0)) ∧ x.2.1.length ≤ 1048576 ∧ H[x.1]? = some (if x.2.2 = 0 then Blk.nrow else .row true E 1 (x.2.1.map encInt)), fun x => [.slref x.1 0 x.2.2 x.2.1.length], fun x H => if x.2.2 = 0 then .sl .nil 0 [] else .slref H.length 0 x.2.2 x.2.2, fun x H => if x.2.2 = 0 then H else H ++ [.row true 3 1 ((x.2.1.take x.2.2).map encInt)]⟩
theorem ok_CloneR (E : Nat) : (ct_CloneR E).Ok Try.prog := by
  rintro ⟨b, xs, v⟩ H ⟨⟨h0, h1⟩, h2, h3⟩
  change v ≤ xs.length at h0
  change v = 0 → xs.length = 0 at h1
  change xs.length ≤ 1048576 at h2
  change H[b]? = some (if v = 0 then Blk.nrow else .row true E 1 (xs.map encInt)) at h3
  by_cases hv : v = 0
  · subst hv
    have e := h1 rfl
    simp only [if_true] at h3
    refine OkH.of_cw' fok_slices_Clone_int_int (go_ok tab_nil ?_)
    simp [code_slices_Clone_int_int, List.replicate, retH, h3, e]
  · rw [if_neg hv] at h3
    have hb : b < H.length := (List.getElem?_eq_some_iff.1 h3).1
    have h3' : ∀ L, (H ++ L)[b]? = some (.row true E 1 (xs.map encInt)) := fun L => by rw [List.getElem?_append_left hb, h3]
    have h4 : v * 8 ≤ 140737488355328 := by omega
    have h5 : ¬ xs.length = 0 := by omega
    have h6 : min v xs.length = v := by omega
    have h7 : 0 < v := by omega
    have h8 : 0 < xs.length := by omega
    have h9 : xs ≠ [] := fun e => h5 (by rw [e]; rfl)
    refine OkH.of_cw' fok_slices_Clone_int_int (go_ok tab_nil ?_)
    simp [code_slices_Clone_int_int, List.replicate, retH, h0, h7, h8, h9, hv, h3, h3', h4, h6, ite_nilR h5, getHk, getH0, setHk, setH0, List.map_take]
@[simp] def ct_ownR (E : Nat) : CtH := ⟨89, (Nat × List Int × Nat) × (Nat × List Int), fun x H => (0 < x.1.2.2 ∧ x.1.2.2 ≤ x.1.2.1.length) ∧ x.1.2.1.length ≤ 1048576 ∧ (0 < x.2.2.length ∧ x.2.2.length ≤ 1048576) ∧ H[x.1.1]? = some (.row true E 1 (x.1.2.1.map encInt)) ∧ H[x.2.1]? = some (.row true E 1 (x.2.2.map encInt)),
  fun x => [.agg [.slref x.1.1 0 x.1.2.2 x.1.2.1.length, .slref x.2.1 0 x.2.2.length x.2.2.length]], fun x H => .agg [.slref (H.length + 4) 0 x.1.2.2 x.1.2.2, .slref (H.length + 5) 0 x.2.2.length x.2.2.length],
  fun x H => H ++ [.dead, .dead, .dead, .cells [.slref (H.length + 4) 0 x.1.2.2 x.1.2.2, .slref (H.length + 5) 0 x.2.2.length x.2.2.length], .row true 3 1 ((x.1.2.1.take x.1.2.2).map encInt), .row true 3 1 (x.2.2.map encInt)]⟩
set_option maxHeartbeats 2000000 in
theorem ok_ownR (E : Nat) : (ct_ownR E).Ok Try.prog := by
  rintro ⟨⟨a, vs, v⟩, ⟨c, ns⟩⟩ H ⟨⟨h0, h1⟩, h2, ⟨h3, h4⟩, h5, h6⟩
  change 0 < v at h0
  change v ≤ vs.length at h1
  change vs.length ≤ 1048576 at h2
  change 0 < ns.length at h3
  change ns.length ≤ 1048576 at h4
  change H[a]? = some (.row true E 1 (vs.map encInt)) at h5
  change H[c]? = some (.row true E 1 (ns.map encInt)) at h6
  have h5' : ∀ L, (H ++ L)[a]? = some (.row true E 1 (vs.map encInt)) := fun L => by rw [List.getElem?_append_left (List.getElem?_eq_some_iff.1 h5).1, h5]
  have h6' : ∀ L, (H ++ L)[c]? = some (.row true E 1 (ns.map encInt)) := fun L => by rw [List.getElem?_append_left (List.getElem?_eq_some_iff.1 h6).1, h6]
  have hv : ¬ v = 0 := by omega
  have hn : ¬ ns.length = 0 := by omega
  have hnt : (ns.map encInt).take ns.length = ns.map encInt := List.take_of_length_le (by simp)
  refine OkH.of_cw fok_impl_Heap_own (go_ok (tab_h (ok_CloneR E) tab_nil) ?_)
  simp [code_impl_Heap_own, List.replicate, retH, h0, h1, h2, h3, h4, h5', h6', hv, hn, getHk, getH0, setHk, setH0, isH, needs1, Nat.add_assoc]
  refine ⟨vs, rfl, h1, h2, rfl, by rw [List.take_append, List.take_of_length_le (by omega : H.length ≤ H.length + 4)]; simp, ns, rfl, Nat.le_refl _, h4, rfl, ⟨[.undef, .undef, .pbox (H.length + 3) 0] ++ List.replicate 7 .undef, H ++ [.dead, .dead, .dead, .cells [.slref (H.length + 4) 0 v v, .slref (H.length + 5) 0 ns.length ns.length], .row true 3 1 ((vs.take v).map encInt), .row true 3 1 (ns.map encInt)]⟩, weak_less ?_ ?_, ?_⟩
  · simp [List.map_take, hnt]
  · simp [List.replicate]
  · simp [getHk, List.map_take]
@[simp] def ct_ownN (E : Nat) : CtH := ⟨89, (Nat × List Int × Nat) × Nat, fun x H => (0 < x.1.2.2 ∧ x.1.2.2 ≤ x.1.2.1.length) ∧ x.1.2.1.length ≤ 1048576 ∧ H[x.1.1]? = some (.row true E 1 (x.1.2.1.map encInt)) ∧ H[x.2]? = some Blk.nrow,
  fun x => [.agg [.slref x.1.1 0 x.1.2.2 x.1.2.1.length, .slref x.2 0 0 0]], fun x H => .agg [.slref (H.length + 4) 0 x.1.2.2 x.1.2.2, .slref (H.length + 5) 0 0 0],
  fun x H => H ++ [.dead, .dead, .dead, .cells [.slref (H.length + 4) 0 x.1.2.2 x.1.2.2, .slref (H.length + 5) 0 0 0], .row true 3 1 ((x.1.2.1.take x.1.2.2).map encInt), .nrow]⟩
set_option maxHeartbeats 2000000 in
theorem ok_ownN (E : Nat) : (ct_ownN E).Ok Try.prog := by
  rintro ⟨⟨a, vs, v⟩, c⟩ H ⟨⟨h0, h1⟩, h2, h5, h6⟩
  change 0 < v at h0
  change v ≤ vs.length at h1
  change vs.length ≤ 1048576 at h2
  change H[a]? = some (.row true E 1 (vs.map encInt)) at h5
  change H[c]? = some Blk.nrow at h6
  have h5' : ∀ L, (H ++ L)[a]? = some (.row true E 1 (vs.map encInt)) := fun L => by rw [List.getElem?_append_left (List.getElem?_eq_some_iff.1 h5).1, h5]
  have h6' : ∀ L, (H ++ L)[c]? = some Blk.nrow := fun L => by rw [List.getElem?_append_left (List.getElem?_eq_some_iff.1 h6).1, h6]
  have hv : ¬ v = 0 := by omega
  refine OkH.of_cw fok_impl_Heap_own (go_ok (tab_h (ok_CloneR E) tab_nil) ?_)
  simp [code_impl_Heap_own, List.replicate, retH, h0, h1, h2, h5', h6', hv, getHk, getH0, setHk, setH0, isH, needs1, Nat.add_assoc]
  refine ⟨vs, rfl, h1, h2, rfl, by rw [List.take_append, List.take_of_length_le (by omega : H.length ≤ H.length + 4)]; simp, [], rfl, rfl, by simp, ⟨[.undef, .undef, .pbox (H.length + 3) 0] ++ List.replicate 7 .undef, H ++ [.dead, .dead, .dead, .cells [.slref (H.length + 4) 0 v v, .slref (H.length + 5) 0 0 0], .row true 3 1 ((vs.take v).map encInt), .nrow]⟩, weak_less ?_ ?_, ?_⟩
  · simp [List.map_take]
  · simp [List.replicate]
  · simp [getHk, List.map_take]
end Go.Vm
