/- What the laws' further size, copy and comparison functions answer. No condition. -/
import Derived.Test.YtkclkieeapdeiaaTG
set_option linter.unusedSimpArgs false
set_option linter.unusedVariables false
namespace Go.Vm
open Go.Proofs
@[simp] theorem belowE_encL {α : Type} (d k : Nat) (f : α → AV) (xs : List α) : belowE d (encL k f xs) = true := by simp [encL, mksl, belowE, belowC, belowR]
@[simp] theorem withCells_encL {α : Type} (k : Nat) (f : α → AV) (xs : List α) (c : AV) : (encL k f xs).withCells [c] = c := by simp [encL, mksl]
def szStrcs (l : List Strc) : Nat := l.length + (l.map szStrc).sum
def szStrcss (l : List (List Strc)) : Nat := l.length + (l.map szStrcs).sum
def szAnal (x : Anal) : Nat := szStrcss x.sets + x.alarms.length
def code_laws_szHeap : F := ⟨18, [.tmp 4],
 .seq (.reg [⟨some 2, .box (.t 0), none⟩,
    ⟨some 4, .mov (.k (.int .i64 0)), none⟩])
 (.seq (.reg [⟨some 5, .faddr 0 (.t 2), none⟩,
     ⟨some 6, .load 1 false (.t 5), none⟩,
     ⟨some 7, .mov (.t 1), none⟩,
     ⟨some 8, .call 65 [(.t 6), (.t 7)], none⟩,
     ⟨some 1, .mov (.t 8), none⟩])
  (.seq (.seq (.reg [⟨some 9, .mov (.t 1), none⟩,
       ⟨some 10, .bin .lss (.t 9) (.k (.int .i64 0)), none⟩])
    (.cond (.t 10)
     (.seq (.reg [⟨some 4, .mov (.k (.int .i64 (-1))), none⟩])
      (.ret))
     (.skip)))
   (.seq (.reg [⟨some 11, .faddr 1 (.t 2), none⟩,
       ⟨some 12, .load 1 false (.t 11), none⟩,
       ⟨some 13, .mov (.t 1), none⟩,
       ⟨some 14, .call 65 [(.t 12), (.t 13)], none⟩,
       ⟨some 1, .mov (.t 14), none⟩])
    (.seq (.seq (.reg [⟨some 15, .mov (.t 1), none⟩,
         ⟨some 16, .bin .lss (.t 15) (.k (.int .i64 0)), none⟩])
      (.cond (.t 16)
       (.seq (.reg [⟨some 4, .mov (.k (.int .i64 (-1))), none⟩])
        (.ret))
       (.skip)))
     (.seq (.reg [⟨some 17, .mov (.t 1), none⟩,
         ⟨some 4, .mov (.t 17), none⟩])
      (.ret))))))⟩
theorem fok_laws_szHeap : FOk Try.prog 19 code_laws_szHeap := fok Try.func19 (by kernel_rfl)
@[simp] def ct_szHeap : Ct := ⟨19, Heap × Int, fun x => 0 ≤ x.2 ∧ x.2 ≤ 1048576, fun x => [encHeap x.1, .int .i64 x.2], fun x => .int .i64 (left (szHeap x.1) x.2)⟩
theorem ok_szHeap : ct_szHeap.Ok Try.prog := by
  rintro ⟨x, l⟩ ⟨h1, h2⟩
  change 0 ≤ l at h1
  change l ≤ 1048576 at h2
  refine Ok.of_cw fok_laws_szHeap (go_ok (tab_cons ok_szIntS tab_nil) ?_)
  simp [code_laws_szHeap, List.replicate, encHeap_eq, h1, h2]
  simp only [left, szHeap]
  (repeat' split) <;> omega
def code_laws_toHeap : F := ⟨13, [.cell 2 true 2],
 .seq (.reg [⟨some 1, .box (.t 0), none⟩,
    ⟨some 2, .alloc [(.sl .nil 0 []), (.sl .nil 0 [])], none⟩])
 (.seq (.reg [⟨some 3, .alloc [(.sl .nil 0 []), (.sl .nil 0 [])], none⟩])
  (.seq (.reg [⟨some 4, .faddr 0 (.t 1), none⟩,
      ⟨some 5, .load 1 false (.t 4), none⟩,
      ⟨some 6, .call 66 [(.t 5)], none⟩,
      ⟨some 7, .faddr 0 (.t 3), none⟩,
      ⟨none, .store 1 (.t 7) (.t 6), none⟩])
   (.seq (.reg [⟨some 8, .faddr 1 (.t 1), none⟩,
       ⟨some 9, .load 1 false (.t 8), none⟩,
       ⟨some 10, .call 66 [(.t 9)], none⟩,
       ⟨some 11, .faddr 1 (.t 3), none⟩,
       ⟨none, .store 1 (.t 11) (.t 10), none⟩])
    (.seq (.reg [⟨some 12, .load 2 true (.t 3), none⟩,
        ⟨none, .store 2 (.t 2) (.t 12), none⟩])
     (.ret)))))⟩
theorem fok_laws_toHeap : FOk Try.prog 22 code_laws_toHeap := fok Try.func22 (by kernel_rfl)
@[simp] def ct_toHeap : Ct := ⟨22, Heap, fun x => szHeap x ≤ 1048576, fun x => [encHeap x], fun x => encHeap x⟩
theorem ok_toHeap : ct_toHeap.Ok Try.prog := by
  intro x hx
  change Heap at x
  change szHeap x ≤ 1048576 at hx
  unfold szHeap at hx
  refine Ok.of_cw fok_laws_toHeap (go_ok (tab_cons ok_toIntS tab_nil) ?_)
  simp [code_laws_toHeap, List.replicate, encHeap_eq]
  omega
def code_laws_eqHeap : F := ⟨17, [.tmp 4],
 .seq (.reg [⟨some 2, .box (.t 0), none⟩,
    ⟨some 3, .box (.t 1), none⟩,
    ⟨some 4, .mov (.k (.bool false)), none⟩])
 (.seq (.seq (.reg [⟨some 5, .faddr 0 (.t 2), none⟩,
      ⟨some 6, .load 1 false (.t 5), none⟩,
      ⟨some 7, .faddr 0 (.t 3), none⟩,
      ⟨some 8, .load 1 false (.t 7), none⟩,
      ⟨some 9, .call 67 [(.t 6), (.t 8)], none⟩,
      ⟨some 10, .not (.t 9), none⟩])
   (.cond (.t 10)
    (.seq (.reg [⟨some 4, .mov (.k (.bool false)), none⟩])
     (.ret))
    (.skip)))
  (.seq (.seq (.reg [⟨some 11, .faddr 1 (.t 2), none⟩,
       ⟨some 12, .load 1 false (.t 11), none⟩,
       ⟨some 13, .faddr 1 (.t 3), none⟩,
       ⟨some 14, .load 1 false (.t 13), none⟩,
       ⟨some 15, .call 67 [(.t 12), (.t 14)], none⟩,
       ⟨some 16, .not (.t 15), none⟩])
    (.cond (.t 16)
     (.seq (.reg [⟨some 4, .mov (.k (.bool false)), none⟩])
      (.ret))
     (.skip)))
   (.seq (.reg [⟨some 4, .mov (.k (.bool true)), none⟩])
    (.ret))))⟩
theorem fok_laws_eqHeap : FOk Try.prog 23 code_laws_eqHeap := fok Try.func23 (by kernel_rfl)
@[simp] def ct_eqHeap : Ct := ⟨23, Heap × Heap, fun _ => True, fun x => [encHeap x.1, encHeap x.2], fun x => .bool (decide (x.1 = x.2))⟩
theorem ok_eqHeap : ct_eqHeap.Ok Try.prog := by
  rintro ⟨⟨a, b⟩, ⟨a', b'⟩⟩ -
  refine Ok.of_cw fok_laws_eqHeap (go_ok (tab_cons ok_eqIntS tab_nil) ?_)
  simp [code_laws_eqHeap, List.replicate]
  grind
end Go.Vm
