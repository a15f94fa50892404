/- The reference's draws of heaps. No condition. -/
import Derived.Test.YtfelkhckpfjgjaaTRG
import Derived.Test.YtfelkhckpfjgjaaTGB
import Derived.Test.YtfelkhckpfjgjaaTGJ
import Derived.Test.YtfelkhckpfjgjaaVme
set_option linter.unusedSimpArgs false
set_option linter.unusedVariables false
namespace Go.Vm
open Go.Proofs
end Go.Vm
namespace Go.Vm
open Go.Proofs
def drawB2 (bs : List UInt8) : Strc := (bent12 (cur0 bs)).2
theorem made_bentW {H : List Blk} {p : Nat} {c : Cur} (hbuf : c.buf.length ≤ 1048576) (hp : H[p]? = some c.cells) : ∃ (va vn wa wn : Nat) (L : List Blk),
    Stn H.length (H.set p (bent12 c).1.cells ++ L) (.slref va 0 vn vn) (.slref wa 0 wn wn) (bent12 c).2 ∧ Wrt H.length (H.set p (bent12 c).1.cells ++ L) va vn wa wn (bent12 c).2 ∧ OkH Try.prog 60 [.pbox p 0] H (.agg [.slref va 0 vn vn, .slref wa 0 wn wn]) (H.set p (bent12 c).1.cells ++ L) := by
  obtain ⟨va, vn, wa, wn, G, ⟨g1, g2, g3, g4⟩, g5, ok⟩ := made_l12Bent hbuf hp
  have hpl := (List.getElem?_eq_some_iff.1 hp).1
  have e : G = H.set p (bent12 c).1.cells ++ G.drop H.length := by
    apply List.ext_getElem?
    intro j
    by_cases g : j < H.length
    · rw [List.getElem?_append_left (by simpa using g)]
      by_cases q : j = p
      · subst q; rw [g1, List.getElem?_set_self hpl]
      · rw [g3 j g q, List.getElem?_set_ne (Ne.symm q)]
    · rw [List.getElem?_append_right (by simp; omega), List.getElem?_drop]
      congr 1; simp; omega
  refine ⟨va, vn, wa, wn, G.drop H.length, ?_, ?_, ?_⟩
  · rw [← e]; exact g4
  · rw [← e]; exact g5
  · rw [← e]; exact ok
theorem made_bent {H : List Blk} {p : Nat} {c : Cur} (hbuf : c.buf.length ≤ 1048576) (hp : H[p]? = some c.cells) : ∃ (va vn wa wn : Nat) (L : List Blk),
    Stn H.length (H.set p (bent12 c).1.cells ++ L) (.slref va 0 vn vn) (.slref wa 0 wn wn) (bent12 c).2 ∧ OkH Try.prog 60 [.pbox p 0] H (.agg [.slref va 0 vn vn, .slref wa 0 wn wn]) (H.set p (bent12 c).1.cells ++ L) := by
  obtain ⟨va, vn, wa, wn, L, g4, -, ok⟩ := made_bentW hbuf hp
  exact ⟨va, vn, wa, wn, L, g4, ok⟩
theorem bent12_buf (c : Cur) : (bent12 c).1.buf = c.buf := by
  have h := (d12_sh c).2
  unfold bent12
  (repeat' split) <;> exact h
def code_spec_DrawNextOf : F := ⟨20,[.cell 2 true 2,.tmp 3,.tmp 4],.seq (.reg [⟨some 2,.alloc [(.sl .nil 0 []),(.sl .nil 0 [])],none⟩,⟨some 3,.mov (.k (.int .i64 0)),none⟩,⟨some 4,.mov (.k (.int .i64 0)),none⟩]) (.seq (.reg [⟨some 8,.mov (.t 0),none⟩,⟨some 9,.call 36 [.t 8],none⟩,⟨some 5,.mov (.t 9),none⟩]) (.seq (.reg [⟨some 10,.mov (.t 5),none⟩,⟨some 11,.call 60 [.t 10],none⟩,⟨some 6,.alloc [(.sl .nil 0 []),(.sl .nil 0 [])],none⟩,⟨none,.store 2 (.t 6) (.t 11),none⟩]) (.seq (.reg [⟨some 12,.mov (.t 5),none⟩,⟨some 13,.call 39 [.t 12,(.k (.int .i64 5))],none⟩,⟨some 14,.bin .sub (.t 13) (.k (.int .i64 1)),none⟩,⟨some 7,.mov (.t 14),none⟩]) (.seq (.dreg [false,false,false,false,false,false,false,true] [false,false,false,true,false,false,false,false] [⟨some 15,.load 2 true (.t 6),none⟩,⟨some 16,.mov (.t 7),none⟩,⟨some 17,.mov (.t 5),none⟩,⟨some 18,.call 39 [.t 17,(.k (.int .i64 5))],none⟩,⟨some 19,.bin .sub (.t 18) (.k (.int .i64 1)),none⟩,⟨none,.store 2 (.t 2) (.t 15),none⟩,⟨some 3,.mov (.t 16),none⟩,⟨some 4,.mov (.t 19),none⟩]) (.ret)))))⟩
theorem fok_spec_DrawNextOf : FOk Try.prog 65 code_spec_DrawNextOf := fok Try.func65 (by kernel_rfl)
def drawN1 (bs : List UInt8) : Int := (bent12 (cur0 bs)).1.below 5 - 1
def drawN2 (bs : List UInt8) : Int := (bent12 (cur0 bs)).1.step.below 5 - 1
@[simp] def ct_DrawNextOf : Ct := ⟨65, List UInt8, fun bs => bs.length ≤ 1048576, fun bs => [encL 1 encU bs], fun bs => .tup [encStrc (drawB2 bs), .int .i64 (drawN1 bs), .int .i64 (drawN2 bs)]⟩
set_option maxHeartbeats 4000000 in
theorem ok_DrawNextOf : ct_DrawNextOf.Ok Try.prog := by
  intro bs hbs
  change List UInt8 at bs
  change bs.length ≤ 1048576 at hbs
  obtain ⟨va, vn, wa, wn, L, g4, ok⟩ := made_bent (H := [.nrow, .nrow, .cells [.slref 0 0 0 0, .slref 1 0 0 0], (cur0 bs).cells]) (p := 3) (c := cur0 bs) hbs rfl
  have okB : CtH.Ok Try.prog ⟨60, Unit, fun _ H => H = [.nrow, .nrow, .cells [.slref 0 0 0 0, .slref 1 0 0 0], (cur0 bs).cells], fun _ => [.pbox 3 0], fun _ _ => .agg [.slref va 0 vn vn, .slref wa 0 wn wn], fun _ _ => .nrow :: .nrow :: .cells [.slref 0 0 0 0, .slref 1 0 0 0] :: (bent12 (cur0 bs)).1.cells :: L⟩ := by
    intro x H' hH
    have hH : H' = _ := hH
    rw [hH]; exact ok
  have hbuf : (bent12 (cur0 bs)).1.buf.length ≤ 1048576 := by rw [bent12_buf]; exact hbs
  have hbuf2 : (bent12 (cur0 bs)).1.step.buf.length ≤ 1048576 := hbuf
  have hx1 := below_lt (bent12 (cur0 bs)).1 (n := 5) (by omega)
  have hx2 := below_lt (bent12 (cur0 bs)).1.step (n := 5) (by omega)
  have hw1 : IntKind.i64.wrap ((bent12 (cur0 bs)).1.below 5 - 1) = (bent12 (cur0 bs)).1.below 5 - 1 := by rw [wrap_i64] <;> omega
  have hw2 : IntKind.i64.wrap ((bent12 (cur0 bs)).1.step.below 5 - 1) = (bent12 (cur0 bs)).1.step.below 5 - 1 := by rw [wrap_i64] <;> omega
  have hLg : ∀ (T : List Blk) k, (L ++ T)[L.length + k]? = T[k]? := fun T k => getHk _ _ _
  have hLs : ∀ (T : List Blk) k y, (L ++ T).set (L.length + k) y = L ++ T.set k y := fun T k y => setHk _ _ _ _
  have hT : TabOk Try.prog _ := tab_h ok_l1New (tab_h okB (tab_h ok_below tab_nil))
  refine Ok.of_cw fok_spec_DrawNextOf ?_
  simp only [code_spec_DrawNextOf, frame, List.length_cons, List.length_nil, List.replicate, Nat.reduceSub, Nat.reduceAdd, List.cons_append, List.nil_append]
  refine cw_seq (go_ok hT ?_); simp [List.replicate]
  refine cw_seq (go_ok hT ?_); simp [List.replicate, hbs]
  refine cw_seq (go_ok hT ?_); simp [List.replicate, hLg, hLs, Nat.add_assoc]
  refine cw_seq (go_ok hT ?_); simp [List.replicate, cells_inj, hbuf, hw1]
  refine cw_seq (cw_dreg8R hT [_, _, _, _] _ [none, none, none, some 3, none, some 2, none] [[true, true, false, false], [true, true, false, false], [true, true, false, false], [true, true, false, true], [true, true, false, false], [true, true, true, false], [true, true, false, false]] (by rfl) ?_)
  simp [List.replicate, hLg, cells_inj, hbuf2, hw2]
  obtain ⟨l1, l2⟩ := g4 (.nrow :: .nrow :: .cells [.slref va 0 vn vn, .slref wa 0 wn wn] :: (bent12 (cur0 bs)).1.step.step.cells :: (L ++ [.nrow, .nrow, .cells [.slref va 0 vn vn, .slref wa 0 wn wn]])) (fun j h1 h2 => by
    obtain ⟨k, rfl⟩ : ∃ k, j = k + 4 := ⟨j - 4, by simp at h1; omega⟩
    show (L ++ _)[k]? = L[k]?
    exact List.getElem?_append_left (by simp at h2; omega))
  refine go_ok tab_nil ?_
  simp [List.replicate, l1, l2]
  exact ⟨rfl, rfl, rfl⟩
end Go.Vm
