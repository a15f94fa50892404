/- The reference's copy of a heap, in blocks of its own. No condition. -/
import Derived.Test.YtkclkieeapdeiaaTD
import Derived.Test.YtkclkieeapdeiaaTWL
import Derived.Test.YtkclkieeapdeiaaVme
set_option linter.unusedSimpArgs false
set_option linter.unusedVariables false
namespace Go.Vm
open Go.Proofs
theorem appRow_all {H : List Blk} {e s b c len : Nat} {xs els : List AV} (hl : els.length = len) : appRow H e s b c len len xs (some (.row true e s els)) = if (len + xs.length) * b ≤ 140737488355328 then some (.slref c 0 (len + xs.length) (len + xs.length), H.set c (.row true e s (els ++ xs))) else none := by
  subst hl
  simp only [appRow, true_and, Nat.le_refl]
  by_cases h : (els.length + xs.length) * b ≤ 140737488355328
  · rw [if_pos h, if_pos h]
    cases xs with
    | nil => simp
    | cons x xs => rw [if_neg (by simp)]; simp
  · rw [if_neg h, if_neg h]
def code_spec_l7Copy : F := ⟨12, [.cell 2 true 2],
 .seq (.reg [⟨some 1, .box (.t 0), none⟩,
    ⟨some 2, .alloc [(.sl .nil 0 []), (.sl .nil 0 [])], none⟩])
 (.seq (.dreg [false, false, false, false, false, false, false, true, true, true] [false, false, false, false, false, false, false, false, false, false] [⟨some 3, .bsl 3 1 0 (.int .i64 0) [], none⟩,
     ⟨some 4, .faddr 0 (.t 1), none⟩,
     ⟨some 5, .load 1 false (.t 4), none⟩,
     ⟨some 6, .append 3 1 8 (.t 3) (.t 5), none⟩,
     ⟨some 7, .bsl 3 1 0 (.int .i64 0) [], none⟩,
     ⟨some 8, .faddr 1 (.t 1), none⟩,
     ⟨some 9, .load 1 false (.t 8), none⟩,
     ⟨some 10, .append 3 1 8 (.t 7) (.t 9), none⟩,
     ⟨some 11, .build [(.sl .nil 0 []), (.sl .nil 0 [])] [(0, 1, (.t 6)), (1, 1, (.t 10))], none⟩,
     ⟨none, .store 2 (.t 2) (.t 11), none⟩])
  (.ret))⟩
theorem fok_spec_l7Copy : FOk Try.prog 55 code_spec_l7Copy := fok Try.func55 (by kernel_rfl)
@[simp] def ct_l7CopyN : CtN := ⟨55, Heap, fun x => szHeap x ≤ 1048576, fun x => [encHeap x], fun x => .agg [.slref 4 0 x.vars.length x.vars.length, .slref 5 0 x.next.length x.next.length],
  fun x => [.dead, .dead, .dead, .cells [.slref 4 0 x.vars.length x.vars.length, .slref 5 0 x.next.length x.next.length], .row true 3 1 (x.vars.map encInt), .row true 3 1 (x.next.map encInt)]⟩
set_option maxHeartbeats 2000000 in
theorem ok_l7CopyH (x : Heap) (hx : szHeap x ≤ 1048576) : OkH Try.prog 55 [encHeap x] [] (ct_l7CopyN.res x) (ct_l7CopyN.new x) := by
  obtain ⟨vs, nx⟩ := x
  change vs.length + nx.length ≤ 1048576 at hx
  have h1 : vs.length * 8 ≤ 140737488355328 := by omega
  have h2 : nx.length * 8 ≤ 140737488355328 := by omega
  simp only [ct_l7CopyN]
  refine OkH.of_cw fok_spec_l7Copy ?_
  simp only [code_spec_l7Copy, frame, List.length_cons, List.length_nil, List.replicate, Nat.reduceSub, Nat.reduceAdd, List.cons_append, List.nil_append]
  refine cw_seq (go_ok tab_nil ?_); simp [List.replicate]
  refine cw_weak (weak_void.trans weak_void) ?_
  refine cw_seq (cw_dreg8K tab_nil [.cells [encL 1 encInt vs, encL 1 encInt nx], .nrow, .nrow, .cells [.slref 1 0 0 0, .slref 2 0 0 0]] [.void, .void]
    [some 0, none, none, some 0, some 1, none, none] [[true, false], [], [], [true, false], [false, true], [], []] (by rfl) ?_)
  simp [List.replicate, -appRow, appRow_all, h1, h2]
  refine go_ok tab_nil ?_
  simp
  refine ⟨⟨slots 12 [(2, .pbox 3 0)], _⟩, weak_less (H' := [.dead, .dead, .dead, .cells [.slref 4 0 vs.length vs.length, .slref 5 0 nx.length nx.length], .row true 3 1 (vs.map encInt), .row true 3 1 (nx.map encInt)]) (by simp) (by simp [List.replicate]), ?_⟩
  simp [retH, List.replicate]
theorem ok_l7CopyN : ct_l7CopyN.Ok Try.prog where
  ok := ok_l7CopyH
  res := fun x _ => rfl
  new := fun x _ => by simp [ownB, ownVL, ownV]
end Go.Vm
