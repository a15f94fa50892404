/- laws.big; sizes of structures of heaps. No condition. -/
import Derived.Test.YtfelkhckpfjgjaaTGG
import Derived.Test.YtfelkhckpfjgjaaTGJ
import Derived.Test.YtfelkhckpfjgjaaTGK
import Derived.Test.YtfelkhckpfjgjaaTGL
import Derived.Test.YtfelkhckpfjgjaaVme
set_option linter.unusedSimpArgs false
set_option linter.unusedVariables false
namespace Go.Vm
open Go.Proofs
def code_laws_big : F := ⟨6,[.tmp 2],.seq (.reg [⟨some 2,.mov (.k (.bool false)),none⟩]) (.seq (.reg [⟨some 3,.mov (.t 0),none⟩,⟨some 4,.len (.t 3),none⟩,⟨some 5,.bin .gtr (.t 4) (.k (.int .i64 1048576)),none⟩,⟨some 2,.mov (.t 5),none⟩]) (.ret))⟩
theorem fok_laws_big : FOk Try.prog 6 code_laws_big := fok Try.func6 (by kernel_rfl)
@[simp] def ct_bigK : Ct := ⟨6, List UInt8, fun _ => True, fun bs => [encL 1 encU bs], fun bs => .bool (decide (1048576 < bs.length))⟩
theorem ok_bigK : ct_bigK.Ok Try.prog := by
  intro bs _
  change List UInt8 at bs
  refine Ok.of_cw fok_laws_big (go_ok tab_nil ?_)
  simp [code_laws_big, List.replicate]
  omega
end Go.Vm
namespace Go.Vm
open Go.Proofs
theorem curB (c : Cur) : ∀ n H2, SlB n H2 c.cells c.cells := fun n H2 => by simp [Cur.cells]
theorem Stn.sl {L : Nat} {G : List Blk} {v w : AV} {s : Strc} (h : Stn L G v w s) : SlC L G v (encL 4 encNode s.nodes) ∧ SlC L G w (encL 1 encInt s.next) :=
  ⟨slC_from fun G' hG => (h G' hG).1, slC_from fun G' hG => (h G' hG).2⟩
theorem take_cur {H G : List Blk} {p : Nat} {k : Blk} (hp : p < H.length) (hl : H.length ≤ G.length) (hc : G[p]? = some k) (ho : ∀ j, j < H.length → j ≠ p → G[j]? = H[j]?) : G.take H.length = H.set p k := by
  apply List.ext_getElem?
  intro j
  rw [List.getElem?_take]
  by_cases g : j < H.length
  · rw [if_pos g]
    by_cases q : j = p
    · subst q; rw [hc, List.getElem?_set_self hp]
    · rw [ho j g q, List.getElem?_set_ne (Ne.symm q)]
  · rw [if_neg g, List.getElem?_eq_none (by simpa using g)]
@[simp] def ct_l12DrawS : CtH := ⟨47, Nat × Cur, fun x H => x.2.buf.length ≤ 1048576 ∧ H[x.1]? = some x.2.cells, fun x => [.pbox x.1 0, .int .i64 3], fun x _ => encStrc (d12 x.2).2, fun x H => H.set x.1 (d12 x.2).1.cells⟩
theorem ok_l12DrawS : ct_l12DrawS.Ok Try.prog := by
  rintro ⟨p, c⟩ H ⟨hbuf, hp⟩
  change c.buf.length ≤ 1048576 at hbuf
  change H[p]? = some c.cells at hp
  obtain ⟨b4, b5, a, d, P, Q, G, els, fg, ok⟩ := made_l12Draw hbuf hp
  obtain ⟨s1, s2⟩ := fg.sg.stn.sl
  have hpl := (List.getElem?_eq_some_iff.1 hp).1
  have hl : H.length ≤ G.length := by
    have h1 := fg.l4
    obtain ⟨u, v, h2⟩ := fg.g4
    have := (List.getElem?_eq_some_iff.1 h2).1
    omega
  refine OkH.of_self fun hB => OkH.weak ok ?_
  refine weak_seal H.length (Nat.le_refl _) ?_ (.cons ?_ .nil)
  · rw [take_cur hpl hl fg.cur fg.old]
    exact (selfB_set hB (curB _)) H.length (by simp) G
  · exact .cons s1 (.cons s2 .nil)
@[simp] def ct_l12BentS : CtH := ⟨60, Nat × Cur, fun x H => x.2.buf.length ≤ 1048576 ∧ H[x.1]? = some x.2.cells, fun x => [.pbox x.1 0], fun x _ => encStrc (bent12 x.2).2, fun x H => H.set x.1 (bent12 x.2).1.cells⟩
theorem ok_l12BentS : ct_l12BentS.Ok Try.prog := by
  rintro ⟨p, c⟩ H ⟨hbuf, hp⟩
  change c.buf.length ≤ 1048576 at hbuf
  change H[p]? = some c.cells at hp
  obtain ⟨va, vn, wa, wn, G, ⟨g1, g2, g3, g4⟩, -, ok⟩ := made_l12Bent hbuf hp
  obtain ⟨s1, s2⟩ := g4.sl
  have hpl := (List.getElem?_eq_some_iff.1 hp).1
  refine OkH.of_self fun hB => OkH.weak ok ?_
  refine weak_seal H.length (Nat.le_refl _) ?_ (.cons ?_ .nil)
  · rw [take_cur hpl g2 g1 g3]
    exact (selfB_set hB (curB _)) H.length (by simp) G
  · exact .cons s1 (.cons s2 .nil)
end Go.Vm
