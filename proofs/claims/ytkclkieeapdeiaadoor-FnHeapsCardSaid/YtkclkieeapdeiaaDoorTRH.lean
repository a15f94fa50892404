/- The reference's draws of heaps. No condition. -/
import Derived.Test.YtkclkieeapdeiaaDoorTRG
import Derived.Test.YtkclkieeapdeiaaDoorTKC
set_option linter.unusedSimpArgs false
set_option linter.unusedVariables false
namespace Go.Vm
open Go.Proofs
theorem bent_len (c : Cur) : (bentR c).2.2.vars.length = 3 ∧ (bentR c).2.2.next.length ≤ 6 ∧ (bentR c).1.buf = c.buf ∧ 2 ≤ (bentR c).2.1 ∧ (bentR c).2.1 ≤ 4 := by
  obtain ⟨h1, h2⟩ := drawH_len c 3
  have h1' : (bentH c).vars.length = 3 := h1
  have h2' : (bentH c).next.length ≤ 5 := h2
  obtain ⟨-, a2, -⟩ := drawA_ok c.step (drawN c)
  obtain ⟨-, b2, -⟩ := drawB_ok (drawN c) (drawX c).1 3
  have e : (bentC c).buf = c.buf := b2.trans a2
  have hb := below_lt (bentC c).step (n := 3) (by omega)
  unfold bentR
  split
  · exact ⟨by simp [h1'], by simp only; omega, e, by simp, by simp⟩
  split
  · exact ⟨h1', by simp; omega, e, by simp, by simp⟩
  split
  · split
    · exact ⟨h1', by simp; omega, e, by simp, by simp⟩
    · exact ⟨h1', by simp only; omega, e, by simp, by simp⟩
  split
  · exact ⟨h1', by simp only; omega, e, by simp only; omega, by simp only; omega⟩
  · exact ⟨h1', by simp only; omega, e, by simp, by simp⟩
def drawCan (bs : List UInt8) : Int × Heap := (bentR (cur0 bs)).2
def code_spec_DrawCanonHeap : F := ⟨12, [.cell 2 true 2],
 .seq (.reg [⟨some 2, .alloc [(.sl .nil 0 []), (.sl .nil 0 [])], none⟩])
 (.seq (.reg [⟨some 6, .mov (.t 0), none⟩,
     ⟨some 7, .call 24 [(.t 6)], none⟩,
     ⟨some 8, .call 23 [(.t 7)], none⟩,
     ⟨some 5, .mov (.t 8), none⟩,
     ⟨some 9, .extr (.t 5) 0, none⟩,
     ⟨some 10, .extr (.t 5) 1, none⟩,
     ⟨some 4, .alloc [(.sl .nil 0 []), (.sl .nil 0 [])], none⟩,
     ⟨some 3, .mov (.t 9), none⟩,
     ⟨none, .store 2 (.t 4) (.t 10), none⟩])
  (.seq (.reg [⟨some 11, .load 2 true (.t 4), none⟩,
      ⟨none, .store 2 (.t 2) (.t 11), none⟩])
   (.ret)))⟩
theorem fok_spec_DrawCanonHeap : FOk Tryd.prog 5 code_spec_DrawCanonHeap := fok Tryd.func5 (by kernel_rfl)
@[simp] def ct_DrawCanonHeap : Ct := ⟨5, List UInt8, fun bs => bs.length ≤ 1048576, fun bs => [encL 1 encU bs], fun bs => encHeap (drawCan bs).2⟩
set_option maxHeartbeats 1000000 in
theorem ok_DrawCanonHeap : ct_DrawCanonHeap.Ok Tryd.prog := by
  intro bs hbs
  change List UInt8 at bs
  change bs.length ≤ 1048576 at hbs
  have hT : TabOk Tryd.prog _ := tab_h ok_l1New (tab_h ok_l7Bent tab_nil)
  refine Ok.of_cw fok_spec_DrawCanonHeap (go_ok hT ?_)
  simp [code_spec_DrawCanonHeap, List.replicate, hbs, cells_inj]
  exact ⟨cur0 bs, hbs, rfl, rfl⟩
def code_spec_DrawIsHeap : F := ⟨14, [.tmp 2, .cell 2 true 3],
 .seq (.reg [⟨some 2, .mov (.k (.int .i64 0)), none⟩,
    ⟨some 3, .alloc [(.sl .nil 0 []), (.sl .nil 0 [])], none⟩])
 (.seq (.reg [⟨some 7, .mov (.t 0), none⟩,
     ⟨some 8, .call 24 [(.t 7)], none⟩,
     ⟨some 9, .call 23 [(.t 8)], none⟩,
     ⟨some 6, .mov (.t 9), none⟩,
     ⟨some 10, .extr (.t 6) 0, none⟩,
     ⟨some 11, .extr (.t 6) 1, none⟩,
     ⟨some 5, .alloc [(.sl .nil 0 []), (.sl .nil 0 [])], none⟩,
     ⟨some 4, .mov (.t 10), none⟩,
     ⟨none, .store 2 (.t 5) (.t 11), none⟩])
  (.seq (.dreg [false, false, false, true] [false, false, false, false] [⟨some 12, .mov (.t 4), none⟩,
      ⟨some 13, .load 2 true (.t 5), none⟩,
      ⟨some 2, .mov (.t 12), none⟩,
      ⟨none, .store 2 (.t 3) (.t 13), none⟩])
   (.ret)))⟩
theorem fok_spec_DrawIsHeap : FOk Tryd.prog 7 code_spec_DrawIsHeap := fok Tryd.func7 (by kernel_rfl)
@[simp] def ct_DrawIsHeap : Ct := ⟨7, List UInt8, fun bs => bs.length ≤ 1048576, fun bs => [encL 1 encU bs], fun bs => .tup [.int .i64 (drawCan bs).1, encHeap (drawCan bs).2]⟩
set_option maxHeartbeats 1000000 in
theorem ok_DrawIsHeap : ct_DrawIsHeap.Ok Tryd.prog := by
  intro bs hbs
  change List UInt8 at bs
  change bs.length ≤ 1048576 at hbs
  have hT : TabOk Tryd.prog _ := tab_h ok_l1New (tab_h ok_l7Bent tab_nil)
  refine Ok.of_cw fok_spec_DrawIsHeap (go_ok hT ?_)
  simp [code_spec_DrawIsHeap, List.replicate, hbs, cells_inj, needs1, isH]
  exact ⟨cur0 bs, hbs, rfl, rfl, rfl⟩
@[simp] theorem isVoid_cur {c : Cur} : isVoid (some c.cells) = false := (rfl)
def drawFol (bs : List UInt8) : Heap × Int := ((drawCan bs).2, (bentR (cur0 bs)).1.below 7 - 1)
def code_spec_DrawFollowed : F := ⟨18, [.cell 2 true 2, .tmp 3],
 .seq (.reg [⟨some 2, .alloc [(.sl .nil 0 []), (.sl .nil 0 [])], none⟩,
    ⟨some 3, .mov (.k (.int .i64 0)), none⟩])
 (.seq (.reg [⟨some 7, .mov (.t 0), none⟩,
     ⟨some 8, .call 24 [(.t 7)], none⟩,
     ⟨some 4, .mov (.t 8), none⟩])
  (.seq (.reg [⟨some 10, .mov (.t 4), none⟩,
      ⟨some 11, .call 23 [(.t 10)], none⟩,
      ⟨some 9, .mov (.t 11), none⟩,
      ⟨some 12, .extr (.t 9) 0, none⟩,
      ⟨some 13, .extr (.t 9) 1, none⟩,
      ⟨some 6, .alloc [(.sl .nil 0 []), (.sl .nil 0 [])], none⟩,
      ⟨some 5, .mov (.t 12), none⟩,
      ⟨none, .store 2 (.t 6) (.t 13), none⟩])
   (.seq (.dreg [false, false, false, false, false, true] [false, false, true, false, false, false] [⟨some 14, .load 2 true (.t 6), none⟩,
       ⟨some 15, .mov (.t 4), none⟩,
       ⟨some 16, .call 37 [(.t 15), (.k (.int .i64 7))], none⟩,
       ⟨some 17, .bin .sub (.t 16) (.k (.int .i64 1)), none⟩,
       ⟨none, .store 2 (.t 2) (.t 14), none⟩,
       ⟨some 3, .mov (.t 17), none⟩])
    (.ret))))⟩
theorem fok_spec_DrawFollowed : FOk Tryd.prog 14 code_spec_DrawFollowed := fok Tryd.func14 (by kernel_rfl)
@[simp] def ct_DrawFollowed : Ct := ⟨14, List UInt8, fun bs => bs.length ≤ 1048576, fun bs => [encL 1 encU bs], fun bs => .tup [encHeap (drawFol bs).1, .int .i64 (drawFol bs).2]⟩
set_option maxHeartbeats 1000000 in
theorem ok_DrawFollowed : ct_DrawFollowed.Ok Tryd.prog := by
  intro bs hbs
  change List UInt8 at bs
  change bs.length ≤ 1048576 at hbs
  have hT : TabOk Tryd.prog _ := tab_h ok_l1New (tab_h ok_l7Bent (tab_h ok_below tab_nil))
  obtain ⟨b1, b2, b3, -⟩ := bent_len (cur0 bs)
  have hb : (bentR (cur0 bs)).1.buf.length ≤ 1048576 := by rw [b3]; exact hbs
  have hx := below_lt (bentR (cur0 bs)).1 (n := 7) (by omega)
  have hw : IntKind.i64.wrap ((bentR (cur0 bs)).1.below 7 - 1) = (bentR (cur0 bs)).1.below 7 - 1 := by rw [wrap_i64] <;> omega
  refine Ok.of_cw fok_spec_DrawFollowed ?_
  simp only [code_spec_DrawFollowed, frame, List.length_cons, List.length_nil, List.replicate, Nat.reduceSub, Nat.reduceAdd, List.cons_append, List.nil_append]
  refine cw_seq (go_ok hT ?_); simp [List.replicate]
  refine cw_seq (go_ok hT ?_); simp [List.replicate, hbs]
  refine cw_seq (go_ok hT ?_); simp [List.replicate, hbs, cells_inj]
  refine ⟨cur0 bs, hbs, rfl, ?_⟩
  change CW _ _ _ _ ⟨_, _⟩
  have hr : drawFol bs = ((bentR (cur0 bs)).2.2, (bentR (cur0 bs)).1.below 7 - 1) := rfl
  rw [hr]
  generalize bentR (cur0 bs) = R at *
  obtain ⟨c1, n, h⟩ := R
  refine cw_seq (cw_dreg8K hT [_, _] _ [none, none, some 1, none, some 0] [false :: false :: List.replicate 30 true, false :: false :: List.replicate 30 true, false :: true :: List.replicate 30 true, false :: false :: List.replicate 30 true, true :: false :: List.replicate 30 true] (by rfl) ?_)
  simp only [] at b1 b2 b3 hb hx hw ⊢
  simp [List.replicate, hb, hw, cells_inj]
  refine go_ok tab_nil ?_
  simp
  rfl
def code_spec_l2Vars : F := ⟨2, [.tmp 0],
 .seq (.reg [⟨some 0, .mov (.k (.sl .nil 0 [])), none⟩])
 (.seq (.reg [⟨some 1, .bsl 9 1 3 (.str []) [(0, (.k (.str [120]))), (1, (.k (.str [121]))), (2, (.k (.str [116])))], none⟩,
     ⟨some 0, .mov (.t 1), none⟩])
  (.ret))⟩
theorem fok_spec_l2Vars : FOk Tryd.prog 38 code_spec_l2Vars := fok Tryd.func38 (by kernel_rfl)
@[simp] def ct_l2Vars : Ct := ⟨38, Unit, fun _ => True, fun _ => [], fun _ => encL 1 encStr [[120], [121], [116]]⟩
theorem ok_l2Vars : ct_l2Vars.Ok Tryd.prog := by
  rintro ⟨⟩ -
  refine Ok.of_cw fok_spec_l2Vars (go_ok tab_nil ?_)
  simp [code_spec_l2Vars, List.replicate]
  rfl
def code_spec_DrawHeapText : F := ⟨7, [.tmp 2, .cell 2 true 3],
 .seq (.reg [⟨some 2, .mov (.k (.sl .nil 0 [])), none⟩,
    ⟨some 3, .alloc [(.sl .nil 0 []), (.sl .nil 0 [])], none⟩])
 (.seq (.reg [⟨some 4, .call 38 [], none⟩,
     ⟨some 5, .mov (.t 0), none⟩,
     ⟨some 6, .call 5 [(.t 5)], none⟩,
     ⟨some 2, .mov (.t 4), none⟩,
     ⟨none, .store 2 (.t 3) (.t 6), none⟩])
  (.ret))⟩
theorem fok_spec_DrawHeapText : FOk Tryd.prog 15 code_spec_DrawHeapText := fok Tryd.func15 (by kernel_rfl)
@[simp] def ct_DrawHeapText : Ct := ⟨15, List UInt8, fun bs => bs.length ≤ 1048576, fun bs => [encL 1 encU bs], fun bs => .tup [encL 1 encStr [[120], [121], [116]], encHeap (drawCan bs).2]⟩
theorem ok_DrawHeapText : ct_DrawHeapText.Ok Tryd.prog := by
  intro bs hbs
  change List UInt8 at bs
  change bs.length ≤ 1048576 at hbs
  refine Ok.of_cw fok_spec_DrawHeapText (go_ok (tab_cons ok_l2Vars (tab_cons ok_DrawCanonHeap tab_nil)) ?_)
  simp [code_spec_DrawHeapText, List.replicate, hbs]
  rfl
def drawEq (bs : List UInt8) : Heap × Heap := if (bentR (cur0 bs)).1.below 2 = 0 then ((drawCan bs).2, (drawCan bs).2) else ((drawCan bs).2, (bentR (bentR (cur0 bs)).1.step).2.2)
def code_spec_DrawEqualHeap : F := ⟨28, [.cell 2 true 2, .cell 2 true 3],
 .seq (.reg [⟨some 2, .alloc [(.sl .nil 0 []), (.sl .nil 0 [])], none⟩,
    ⟨some 3, .alloc [(.sl .nil 0 []), (.sl .nil 0 [])], none⟩])
 (.seq (.reg [⟨some 9, .mov (.t 0), none⟩,
     ⟨some 10, .call 24 [(.t 9)], none⟩,
     ⟨some 4, .mov (.t 10), none⟩])
  (.seq (.reg [⟨some 12, .mov (.t 4), none⟩,
      ⟨some 13, .call 23 [(.t 12)], none⟩,
      ⟨some 11, .mov (.t 13), none⟩,
      ⟨some 14, .extr (.t 11) 0, none⟩,
      ⟨some 15, .extr (.t 11) 1, none⟩,
      ⟨some 6, .alloc [(.sl .nil 0 []), (.sl .nil 0 [])], none⟩,
      ⟨some 5, .mov (.t 14), none⟩,
      ⟨none, .store 2 (.t 6) (.t 15), none⟩])
   (.seq (.seq (.reg [⟨some 16, .mov (.t 4), none⟩,
        ⟨some 17, .call 39 [(.t 16), (.k (.int .i64 2))], none⟩])
     (.cond (.t 17)
      (.seq (.dreg [false, false, false, true, true] [false, false, true, false, false] [⟨some 18, .load 2 true (.t 6), none⟩,
          ⟨some 19, .load 2 true (.t 6), none⟩,
          ⟨some 20, .call 40 [(.t 19)], none⟩,
          ⟨none, .store 2 (.t 2) (.t 18), none⟩,
          ⟨none, .store 2 (.t 3) (.t 20), none⟩])
       (.ret))
      (.skip)))
    (.seq (.reg [⟨some 22, .mov (.t 4), none⟩,
        ⟨some 23, .call 23 [(.t 22)], none⟩,
        ⟨some 21, .mov (.t 23), none⟩,
        ⟨some 24, .extr (.t 21) 0, none⟩,
        ⟨some 25, .extr (.t 21) 1, none⟩,
        ⟨some 8, .alloc [(.sl .nil 0 []), (.sl .nil 0 [])], none⟩,
        ⟨some 7, .mov (.t 24), none⟩,
        ⟨none, .store 2 (.t 8) (.t 25), none⟩])
     (.seq (.dreg [false, false, false, true] [false, false, false, false] [⟨some 26, .load 2 true (.t 6), none⟩,
         ⟨some 27, .load 2 true (.t 8), none⟩,
         ⟨none, .store 2 (.t 2) (.t 26), none⟩,
         ⟨none, .store 2 (.t 3) (.t 27), none⟩])
      (.ret))))))⟩
theorem fok_spec_DrawEqualHeap : FOk Tryd.prog 16 code_spec_DrawEqualHeap := fok Tryd.func16 (by kernel_rfl)
@[simp] def ct_DrawEqualHeap : Ct := ⟨16, List UInt8, fun bs => bs.length ≤ 1048576, fun bs => [encL 1 encU bs], fun bs => .tup [encHeap (drawEq bs).1, encHeap (drawEq bs).2]⟩
set_option maxHeartbeats 2000000 in
theorem ok_DrawEqualHeap : ct_DrawEqualHeap.Ok Tryd.prog := by
  intro bs hbs
  change List UInt8 at bs
  change bs.length ≤ 1048576 at hbs
  have hT : TabOk Tryd.prog _ := tab_h ok_l1New (tab_h ok_l7Bent (tab_h ok_once (tab_h (CtN.hok ok_l7CopyN) tab_nil)))
  obtain ⟨b1, b2, b3, -⟩ := bent_len (cur0 bs)
  have hb : (bentR (cur0 bs)).1.buf.length ≤ 1048576 := by rw [b3]; exact hbs
  refine Ok.of_cw fok_spec_DrawEqualHeap ?_
  simp only [code_spec_DrawEqualHeap, frame, List.length_cons, List.length_nil, List.replicate, Nat.reduceSub, Nat.reduceAdd, List.cons_append, List.nil_append]
  refine cw_seq (go_ok hT ?_); simp [List.replicate]
  refine cw_seq (go_ok hT ?_); simp [List.replicate, hbs]
  refine cw_seq (go_ok hT ?_); simp [List.replicate, hbs, cells_inj]
  refine ⟨cur0 bs, hbs, rfl, ?_⟩
  change CW _ _ _ _ ⟨_, _⟩
  have hr : drawEq bs = if (bentR (cur0 bs)).1.below 2 = 0 then ((bentR (cur0 bs)).2.2, (bentR (cur0 bs)).2.2) else ((bentR (cur0 bs)).2.2, (bentR (bentR (cur0 bs)).1.step).2.2) := rfl
  rw [hr]
  generalize bentR (cur0 bs) = R at *
  obtain ⟨c1, n, h⟩ := R
  simp only [] at b1 b2 b3 hb hr ⊢
  have hsz : szHeap h ≤ 1048576 := by change h.vars.length + h.next.length ≤ _; omega
  by_cases h0 : c1.below 2 = 0
  · simp only [h0, if_true]
    refine cw_seq (go_ok hT ?_); simp [List.replicate, hb, cells_inj, h0, needs1, isH]
    exact ⟨hsz, rfl⟩
  · simp only [h0, if_false]
    refine cw_seq (go_ok hT ?_); simp [List.replicate, hb, cells_inj, h0]
    have hb2 : c1.step.buf.length ≤ 1048576 := hb
    refine cw_seq (go_ok hT ?_); simp [List.replicate, hb2, cells_inj]
    refine ⟨c1.step, hb2, rfl, ?_⟩
    generalize bentR c1.step = R2 at *
    obtain ⟨c2, n2, h2⟩ := R2
    simp only []
    refine cw_seq (cw_dreg8K hT [_, _] _ [none, none, some 0] [false :: List.replicate 60 true, false :: List.replicate 60 true, List.replicate 61 true] (by rfl) ?_)
    simp [List.replicate]
    refine go_ok tab_nil ?_
    simp
    exact ⟨rfl, rfl⟩
end Go.Vm
