/- The program's formula for what is shared behind a cut, laid in blocks of its own. No condition. -/
import Derived.Test.YtmakeoekklcbdaaTFQ
import Derived.Test.YtmakeoekklcbdaaTDR
set_option linter.unusedSimpArgs false
set_option linter.unusedVariables false
namespace Go.Vm
open Go.Proofs
def code_impl_cutShared : F := ⟨32, [.cell 5 true 2],
 .seq (.reg [⟨some 2, .alloc [(.int .i64 0), (.int .i64 0), (.int .i64 0), (.int .i64 0), (.sl .nil 0 [])], none⟩])
 (.seq (.reg [⟨some 5, .call 100 [(.k (.int .i64 1)), (.k (.int .i64 0))], none⟩,
     ⟨some 6, .call 100 [(.k (.int .i64 2)), (.k (.int .i64 0))], none⟩,
     ⟨some 7, .call 99 [(.t 5), (.t 6)], none⟩,
     ⟨some 8, .build [(.int .i64 0), (.int .i64 0), (.int .i64 0), (.int .i64 0), (.sl .nil 0 [])] [(0, 1, (.k (.int .i64 6))), (2, 1, (.k (.int .i64 1))), (3, 1, (.k (.int .i64 2)))], none⟩,
     ⟨some 9, .call 101 [(.t 8)], none⟩,
     ⟨some 10, .call 99 [(.t 7), (.t 9)], none⟩,
     ⟨some 3, .alloc [(.int .i64 0), (.int .i64 0), (.int .i64 0), (.int .i64 0), (.sl .nil 0 [])], none⟩,
     ⟨none, .store 5 (.t 3) (.t 10), none⟩])
  (.seq (.dreg [false, false, false, false, false, false, false, false, false, false, false, false, true] [false, false, true, true, false, true, true, true, true, true, true, false, false] [⟨some 11, .load 5 true (.t 3), none⟩,
      ⟨some 12, .mov (.t 0), none⟩,
      ⟨some 13, .call 102 [(.t 12), (.k (.int .i64 1))], none⟩,
      ⟨some 14, .call 101 [(.t 13)], none⟩,
      ⟨some 15, .mov (.t 0), none⟩,
      ⟨some 16, .call 102 [(.t 15), (.k (.int .i64 2))], none⟩,
      ⟨some 17, .call 101 [(.t 16)], none⟩,
      ⟨some 18, .call 99 [(.t 14), (.t 17)], none⟩,
      ⟨some 19, .call 99 [(.t 11), (.t 18)], none⟩,
      ⟨some 20, .call 184 [(.k (.int .i64 2)), (.t 19)], none⟩,
      ⟨some 21, .call 184 [(.k (.int .i64 1)), (.t 20)], none⟩,
      ⟨some 4, .alloc [(.int .i64 0), (.int .i64 0), (.int .i64 0), (.int .i64 0), (.sl .nil 0 [])], none⟩,
      ⟨none, .store 5 (.t 4) (.t 21), none⟩])
   (.seq (.dreg [false, false, false, false, false, false, false, false, true, true, true] [true, false, true, true, true, true, true, false, true, true, false] [⟨some 22, .call 188 [(.k (.int .i64 0))], none⟩,
       ⟨some 23, .mov (.t 0), none⟩,
       ⟨some 24, .call 102 [(.t 23), (.k (.int .i64 1))], none⟩,
       ⟨some 25, .call 100 [(.k (.int .i64 1)), (.k (.int .i64 0))], none⟩,
       ⟨some 26, .call 99 [(.t 24), (.t 25)], none⟩,
       ⟨some 27, .call 184 [(.k (.int .i64 1)), (.t 26)], none⟩,
       ⟨some 28, .call 101 [(.t 27)], none⟩,
       ⟨some 29, .load 5 true (.t 4), none⟩,
       ⟨some 30, .call 103 [(.t 28), (.t 29)], none⟩,
       ⟨some 31, .call 99 [(.t 22), (.t 30)], none⟩,
       ⟨none, .store 5 (.t 2) (.t 31), none⟩])
    (.ret))))⟩
theorem fok_impl_cutShared : FOk Try.prog 187 code_impl_cutShared := fok Try.func187 (by kernel_rfl)
set_option maxHeartbeats 8000000
set_option maxRecDepth 100000
theorem made_CutShared (a : Int) : ∃ p, MadeP 187 [.int .i64 a] (.mk 9 0 0 0 [.mk 4 (0) (0) (0) [], .mk 10 0 0 0 [.mk 8 0 0 0 [.mk 11 0 1 0 [.mk 9 0 0 0 [.mk 2 (a) (1) (0) [], .mk 5 (0) (1) (0) []]]], .mk 11 0 1 0 [.mk 11 0 2 0 [.mk 9 0 0 0 [.mk 9 0 0 0 [.mk 9 0 0 0 [.mk 5 (0) (1) (0) [], .mk 5 (0) (2) (0) []], .mk 8 0 0 0 [.mk 6 0 1 2 []]], .mk 9 0 0 0 [.mk 8 0 0 0 [.mk 2 (a) (1) (0) []], .mk 8 0 0 0 [.mk 2 (a) (2) (0) []]]]]]]]) p := by
  have hT : TabOk Try.prog _ := tab_cons ok_on (tab_cons ok_next (tab_cons ok_sharedAt (tab_h ok_fmSome (tab_h ok_fmNot (tab_h ok_fmAnd (tab_h ok_fmOr tab_nil))))))
  apply Exists.intro (⟨⟨9, 0, 0, 0, .row _ 0 2 2⟩, _⟩ : FV × List Blk)
  refine ⟨OkH.of_cw' fok_impl_cutShared ?_, ?_, rfl, rfl, rfl, rfl, ?_⟩
  · simp only [code_impl_cutShared, frame, List.length_cons, List.length_nil, List.replicate, Nat.reduceSub, Nat.reduceAdd, List.cons_append, List.nil_append]
    refine cw_seq (go_ok hT ?_)
    simp [List.replicate]
    refine cw_seq (go_ok hT ?_)
    simp [List.replicate, r1, r2, mk1, mk2, av_nil, av_any, av_row, FV.av_mk, boxF_nil, boxF_any, boxF_row, inF_nil, inF_any, inF_row, Nat.add_assoc, needs1, isH]
    refine cw_seq (cw_dreg3K hT [.int .i64 0, .int .i64 0, .int .i64 0, .int .i64 0, .sl .nil 0 []] 4 ?_)
    simp [dops3K, List.replicate, r1, r2, mk1, mk2, av_nil, av_any, av_row, FV.av_mk, boxF_nil, boxF_any, boxF_row, inF_nil, inF_any, inF_row, Nat.add_assoc, needs1, isH, missV, missE, missC, missR, missB]
    refine cw_seq (go_ok hT ?_)
    simp [List.replicate, r1, r2, mk1, mk2, av_nil, av_any, av_row, FV.av_mk, boxF_nil, boxF_any, boxF_row, inF_nil, inF_any, inF_row, Nat.add_assoc, needs1, isH]
    refine go_ok hT ?_
    simp [List.replicate, retH, FV.av_mk, av_row]
    exact ⟨rfl, rfl⟩
  · simp [ownB, ownV, ownVL]
  · simp only [av_row]
    apply Exists.intro
    repeat' (first | exact AIn.any | exact AIn.nil _ rfl | (apply AIn.row1; (· rfl)) | (apply AIn.row2; (· rfl)))
    all_goals simp
end Go.Vm
