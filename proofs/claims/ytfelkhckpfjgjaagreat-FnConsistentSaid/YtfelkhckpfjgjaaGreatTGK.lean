/- The reference's draws of heaps. No condition. -/
import Derived.Test.YtfelkhckpfjgjaaGreatTRG
import Derived.Test.YtfelkhckpfjgjaaGreatTKC
import Derived.Test.YtfelkhckpfjgjaaGreatTGJ
import Derived.Test.YtfelkhckpfjgjaaGreatVme
set_option linter.unusedSimpArgs false
set_option linter.unusedVariables false
namespace Go.Vm
open Go.Proofs
theorem bent_len (c : Cur) : (bentR c).2.2.vars.length = 3 ∧ (bentR c).2.2.next.length ≤ 6 ∧ (bentR c).1.buf = c.buf ∧ 2 ≤ (bentR c).2.1 ∧ (bentR c).2.1 ≤ 4 := by
  obtain ⟨h1, h2⟩ := drawH_len c 3
  have h1' : (bentH c).vars.length = 3 := h1
  have h2' : (bentH c).next.length ≤ 5 := h2
  obtain ⟨-, a2, -⟩ := drawA_ok c.step (drawN c)
  obtain ⟨-, b2, -⟩ := drawB_ok (drawN c) (drawX c).1 3
  have e : (bentC c).buf = c.buf := b2.trans a2
  have hb := below_lt (bentC c).step (n := 3) (by omega)
  unfold bentR
  split
  · exact ⟨by simp [h1'], by simp only; omega, e, by simp, by simp⟩
  split
  · exact ⟨h1', by simp; omega, e, by simp, by simp⟩
  split
  · split
    · exact ⟨h1', by simp; omega, e, by simp, by simp⟩
    · exact ⟨h1', by simp only; omega, e, by simp, by simp⟩
  split
  · exact ⟨h1', by simp only; omega, e, by simp only; omega, by simp only; omega⟩
  · exact ⟨h1', by simp only; omega, e, by simp, by simp⟩
def drawCan (bs : List UInt8) : Int × Heap := (bentR (cur0 bs)).2
def code_spec_DrawCanonHeap : F := ⟨12,[.cell 2 true 2],.seq (.reg [⟨some 2,.alloc [(.sl .nil 0 []),(.sl .nil 0 [])],none⟩]) (.seq (.reg [⟨some 6,.mov (.t 0),none⟩,⟨some 7,.call 40 [.t 6],none⟩,⟨some 8,.call 91 [.t 7],none⟩,⟨some 5,.mov (.t 8),none⟩,⟨some 9,.extr (.t 5) 0,none⟩,⟨some 10,.extr (.t 5) 1,none⟩,⟨some 4,.alloc [(.sl .nil 0 []),(.sl .nil 0 [])],none⟩,⟨some 3,.mov (.t 9),none⟩,⟨none,.store 2 (.t 4) (.t 10),none⟩]) (.seq (.reg [⟨some 11,.load 2 true (.t 4),none⟩,⟨none,.store 2 (.t 2) (.t 11),none⟩]) (.ret)))⟩
theorem fok_spec_DrawCanonHeap : FOk Tryz.prog 33 code_spec_DrawCanonHeap := fok Tryz.func33 (by kernel_rfl)
@[simp] def ct_DrawCanonHeap : Ct := ⟨33, List UInt8, fun bs => bs.length ≤ 1048576, fun bs => [encL 1 encU bs], fun bs => encHeap (drawCan bs).2⟩
set_option maxHeartbeats 1000000 in
theorem ok_DrawCanonHeap : ct_DrawCanonHeap.Ok Tryz.prog := by
  intro bs hbs
  change List UInt8 at bs
  change bs.length ≤ 1048576 at hbs
  have hT : TabOk Tryz.prog _ := tab_h ok_l1New (tab_h ok_l7Bent tab_nil)
  refine Ok.of_cw fok_spec_DrawCanonHeap (go_ok hT ?_)
  simp [code_spec_DrawCanonHeap, List.replicate, hbs, cells_inj]
  exact ⟨cur0 bs, hbs, rfl, rfl⟩
end Go.Vm
namespace Go.Vm
open Go.Proofs
def drawB2 (bs : List UInt8) : Strc := (bent12 (cur0 bs)).2
theorem made_bentW {H : List Blk} {p : Nat} {c : Cur} (hbuf : c.buf.length ≤ 1048576) (hp : H[p]? = some c.cells) : ∃ (va vn wa wn : Nat) (L : List Blk),
    Stn H.length (H.set p (bent12 c).1.cells ++ L) (.slref va 0 vn vn) (.slref wa 0 wn wn) (bent12 c).2 ∧ Wrt H.length (H.set p (bent12 c).1.cells ++ L) va vn wa wn (bent12 c).2 ∧ OkH Tryz.prog 43 [.pbox p 0] H (.agg [.slref va 0 vn vn, .slref wa 0 wn wn]) (H.set p (bent12 c).1.cells ++ L) := by
  obtain ⟨va, vn, wa, wn, G, ⟨g1, g2, g3, g4⟩, g5, ok⟩ := made_l12Bent hbuf hp
  have hpl := (List.getElem?_eq_some_iff.1 hp).1
  have e : G = H.set p (bent12 c).1.cells ++ G.drop H.length := by
    apply List.ext_getElem?
    intro j
    by_cases g : j < H.length
    · rw [List.getElem?_append_left (by simpa using g)]
      by_cases q : j = p
      · subst q; rw [g1, List.getElem?_set_self hpl]
      · rw [g3 j g q, List.getElem?_set_ne (Ne.symm q)]
    · rw [List.getElem?_append_right (by simp; omega), List.getElem?_drop]
      congr 1; simp; omega
  refine ⟨va, vn, wa, wn, G.drop H.length, ?_, ?_, ?_⟩
  · rw [← e]; exact g4
  · rw [← e]; exact g5
  · rw [← e]; exact ok
theorem made_bent {H : List Blk} {p : Nat} {c : Cur} (hbuf : c.buf.length ≤ 1048576) (hp : H[p]? = some c.cells) : ∃ (va vn wa wn : Nat) (L : List Blk),
    Stn H.length (H.set p (bent12 c).1.cells ++ L) (.slref va 0 vn vn) (.slref wa 0 wn wn) (bent12 c).2 ∧ OkH Tryz.prog 43 [.pbox p 0] H (.agg [.slref va 0 vn vn, .slref wa 0 wn wn]) (H.set p (bent12 c).1.cells ++ L) := by
  obtain ⟨va, vn, wa, wn, L, g4, -, ok⟩ := made_bentW hbuf hp
  exact ⟨va, vn, wa, wn, L, g4, ok⟩
theorem bent12_buf (c : Cur) : (bent12 c).1.buf = c.buf := by
  have h := (d12_sh c).2
  unfold bent12
  (repeat' split) <;> exact h
end Go.Vm
