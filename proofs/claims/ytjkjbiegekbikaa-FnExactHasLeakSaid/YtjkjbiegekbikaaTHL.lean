/- HasLeak: the law. No condition. -/
import Derived.Test.YtjkjbiegekbikaaTHP
import Derived.Test.YtjkjbiegekbikaaTL2
set_option linter.unusedSimpArgs false
set_option linter.unusedVariables false
namespace Go.Vm
open Go.Proofs
def code_laws_FnExactHasLeak : F := ⟨27, [.tmp 2],
 .seq (.reg [⟨some 1, .box (.t 0), none⟩,
    ⟨some 2, .mov (.k (.bool false)), none⟩])
 (.seq (.reg [⟨some 3, .mov (.k (.int .i64 1048576)), none⟩])
  (.seq (.reg [⟨some 7, .load 2 true (.t 1), none⟩,
      ⟨some 8, .mov (.t 3), none⟩,
      ⟨some 9, .call 30 [(.t 7), (.t 8)], none⟩,
      ⟨some 3, .mov (.t 9), none⟩])
   (.seq (.seq (.reg [⟨some 10, .mov (.t 3), none⟩,
        ⟨some 11, .bin .lss (.t 10) (.k (.int .i64 0)), none⟩])
     (.cond (.t 11)
      (.seq (.reg [⟨some 2, .mov (.k (.bool true)), none⟩])
       (.ret))
      (.skip)))
    (.seq (.reg [⟨some 12, .load 2 true (.t 1), none⟩,
        ⟨some 13, .call 32 [(.t 12)], none⟩,
        ⟨some 14, .call 31 [(.t 13)], none⟩,
        ⟨some 4, .mov (.t 14), none⟩])
     (.seq (.reg [⟨some 15, .load 2 true (.t 1), none⟩,
         ⟨some 16, .call 32 [(.t 15)], none⟩,
         ⟨some 5, .alloc [(.sl .nil 0 []), (.sl .nil 0 [])], none⟩,
         ⟨none, .store 2 (.t 5) (.t 16), none⟩])
      (.seq (.reg [⟨some 17, .load 2 true (.t 5), none⟩,
          ⟨some 18, .call 33 [(.t 17)], none⟩,
          ⟨some 6, .mov (.t 18), none⟩])
       (.seq (.seq (.reg [⟨some 19, .mov (.t 6), none⟩,
            ⟨some 20, .mov (.t 4), none⟩,
            ⟨some 21, .beq true (.t 19) (.t 20), none⟩])
         (.cond (.t 21)
          (.seq (.reg [⟨some 2, .mov (.k (.bool false)), none⟩])
           (.ret))
          (.skip)))
        (.seq (.seq (.dreg [false, false, false, true, true] [⟨some 22, .load 2 true (.t 5), none⟩,
             ⟨some 23, .load 2 true (.t 1), none⟩,
             ⟨some 24, .call 32 [(.t 23)], none⟩,
             ⟨some 25, .call 34 [(.t 22), (.t 24)], none⟩,
             ⟨some 26, .not (.t 25), none⟩])
          (.cond (.t 26)
           (.seq (.reg [⟨some 2, .mov (.k (.bool false)), none⟩])
            (.ret))
           (.skip)))
         (.seq (.reg [⟨some 2, .mov (.k (.bool true)), none⟩])
          (.ret))))))))))⟩
theorem fok_laws_FnExactHasLeak : FOk Try.prog 9 code_laws_FnExactHasLeak := fok Try.func9 (by kernel_rfl)
set_option maxRecDepth 100000 in
theorem ok_lawHasLeak (x : Heap) : Ok Try.prog 9 [encHeap x] (.bool true) := by
  refine Ok.of_cw fok_laws_FnExactHasLeak (go_ok (tab_cons ok_szHeap (tab_cons ok_toHeap (tab_cons ok_sHasLeak (tab_cons ok_pHasLeak (tab_cons ok_eqHeap tab_nil))))) ?_)
  simp [code_laws_FnExactHasLeak, List.replicate]
  intro h
  have := left_ge0.1 h
  omega
end Go.Vm
