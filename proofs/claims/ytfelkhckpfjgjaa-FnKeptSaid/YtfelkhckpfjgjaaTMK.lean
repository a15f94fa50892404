/- Slices put together; are the elements of a heap cells? No condition. -/
import Derived.Test.YtfelkhckpfjgjaaTHP
import Derived.Test.YtfelkhckpfjgjaaTEM
import Derived.Test.YtfelkhckpfjgjaaTG
import Derived.Test.YtfelkhckpfjgjaaVme
set_option linter.unusedSimpArgs false
set_option linter.unusedVariables false
namespace Go.Vm
open Go.Proofs
def code_spec_l7Cells : F := ⟨41,[.tmp 2],.seq (.reg [⟨some 1,.box (.t 0),none⟩,⟨some 2,.mov (.k (.bool false)),none⟩]) (.seq (.seq (.reg [⟨some 3,.mov (.k (.int .i64 0)),none⟩]) (.block 0 (.loop (.seq (.seq (.reg [⟨some 5,.mov (.t 3),none⟩,⟨some 6,.faddr 0 (.t 1),none⟩,⟨some 7,.load 1 false (.t 6),none⟩,⟨some 8,.len (.t 7),none⟩,⟨some 9,.bin .lss (.t 5) (.t 8),none⟩]) (.cond (.t 9) (.skip) (.exit 0))) (.seq (.block 1 (.seq (.dreg [false,false,false,false,false,false,false,false,false,true,true] [false,false,false,false,false,false,false,false,false,true,false] [⟨some 12,.faddr 0 (.t 1),none⟩,⟨some 13,.load 1 false (.t 12),none⟩,⟨some 14,.mov (.t 3),none⟩,⟨some 15,.iaddr 1 (.t 13) (.t 14),none⟩,⟨some 16,.load 1 false (.t 15),none⟩,⟨some 17,.faddr 1 (.t 1),none⟩,⟨some 18,.load 1 false (.t 17),none⟩,⟨some 19,.len (.t 18),none⟩,⟨some 20,.bin .sub (.t 19) (.k (.int .i64 1)),none⟩,⟨some 21,.call 48 [.t 16,(.k (.int .i64 (-1))),.t 20],none⟩,⟨some 22,.not (.t 21),none⟩]) (.cond (.t 22) (.seq (.reg [⟨some 2,.mov (.k (.bool false)),none⟩]) (.ret)) (.skip)))) (.reg [⟨some 10,.mov (.t 3),none⟩,⟨some 11,.bin .add (.t 10) (.k (.int .i64 1)),none⟩,⟨some 3,.mov (.t 11),none⟩])))))) (.seq (.seq (.reg [⟨some 4,.mov (.k (.int .i64 0)),none⟩]) (.block 2 (.loop (.seq (.seq (.reg [⟨some 23,.mov (.t 4),none⟩,⟨some 24,.faddr 1 (.t 1),none⟩,⟨some 25,.load 1 false (.t 24),none⟩,⟨some 26,.len (.t 25),none⟩,⟨some 27,.bin .lss (.t 23) (.t 26),none⟩]) (.cond (.t 27) (.skip) (.exit 2))) (.seq (.block 3 (.seq (.dreg [false,false,false,false,false,false,false,false,false,true,true] [false,false,false,false,false,false,false,false,false,true,false] [⟨some 30,.faddr 1 (.t 1),none⟩,⟨some 31,.load 1 false (.t 30),none⟩,⟨some 32,.mov (.t 4),none⟩,⟨some 33,.iaddr 1 (.t 31) (.t 32),none⟩,⟨some 34,.load 1 false (.t 33),none⟩,⟨some 35,.faddr 1 (.t 1),none⟩,⟨some 36,.load 1 false (.t 35),none⟩,⟨some 37,.len (.t 36),none⟩,⟨some 38,.bin .sub (.t 37) (.k (.int .i64 1)),none⟩,⟨some 39,.call 48 [.t 34,(.k (.int .i64 (-1))),.t 38],none⟩,⟨some 40,.not (.t 39),none⟩]) (.cond (.t 40) (.seq (.reg [⟨some 2,.mov (.k (.bool false)),none⟩]) (.ret)) (.skip)))) (.reg [⟨some 28,.mov (.t 4),none⟩,⟨some 29,.bin .add (.t 28) (.k (.int .i64 1)),none⟩,⟨some 4,.mov (.t 29),none⟩])))))) (.seq (.reg [⟨some 2,.mov (.k (.bool true)),none⟩]) (.ret))))⟩
theorem fok_spec_l7Cells : FOk Try.prog 93 code_spec_l7Cells := fok Try.func93 (by kernel_rfl)
def cellsB (h : Heap) : Bool := (h.vars ++ h.next).all fun n => decide (n = -1) || (decide (0 ≤ n) && decide (n < h.next.length))
def badC (h : Heap) (n : Int) : Bool := !decide (n = -1) && !(decide (0 ≤ n) && decide (n ≤ (h.next.length : Int) - 1))
theorem any_bad (h : Heap) : (!(h.vars ++ h.next).any (badC h)) = cellsB h := by
  unfold cellsB
  rw [List.all_eq_not_any_not]
  congr 2
  funext n
  simp [badC]
  grind
@[simp] def ct_l7Cells : Ct := ⟨93, Heap, fun x => szHeap x ≤ 1048576, fun x => [encHeap x], fun x => .bool (cellsB x)⟩
theorem cells_any (h : Heap) : cellsB h = (!h.vars.any (badC h) && !h.next.any (badC h)) := by
  rw [← any_bad, List.any_append, Bool.not_or]
set_option maxHeartbeats 1000000 in
theorem ok_l7Cells : ct_l7Cells.Ok Try.prog := by
  rintro ⟨a, b⟩ hx
  change a.length + b.length ≤ 1048576 at hx
  refine Ok.of_cw fok_spec_l7Cells (go_ok tab_nil ?_)
  have w0 : IntKind.i64.wrap ((b.length : Int) - 1) = (b.length : Int) - 1 := by rw [wrap_i64] <;> omega
  simp [code_spec_l7Cells, List.replicate]
  refine cw_round (fun (i : Nat) => ⟨slots 41 [(1, .pbox 0 0), (3, .int .i64 i)], [.cells [encL 1 encInt a, encL 1 encInt b]]⟩)
    (fun i => i ≤ a.length ∧ noHit (badC ⟨a, b⟩) a i) (fun i => a.length - i) 0 ⟨by omega, noHit_zero⟩ ?_ ?_
  · exact weak_seal 1 (by omega) (by simp) (by simp [List.replicate])
  · rintro N hN i ⟨hi, hn⟩
    have hw : IntKind.i64.wrap ((i : Int) + 1) = ((i + 1 : Nat) : Int) := by rw [wrap_i64] <;> omega
    by_cases h : i < a.length
    · have h2 : ¬ a.length ≤ i := by omega
      refine go_ok (tab_cons ok_l1In tab_nil) ?_
      by_cases p : badC ⟨a, b⟩ a[i] = true
      · have hf : cellsB ⟨a, b⟩ = false := by
          rw [cells_any]; simp only; rw [any_hit h p]; rfl
        have p' : ¬ (-1 ≤ a[i] ∧ a[i] ≤ (b.length : Int) - 1) := by
          simp [badC] at p; omega
        simp [List.replicate, hw, h, h2, w0, hf]
        exact fun x y => absurd ⟨x, y⟩ p'
      · have p : badC ⟨a, b⟩ a[i] = false := by simpa using p
        have p' : -1 ≤ a[i] ∧ a[i] ≤ (b.length : Int) - 1 := by
          simp [badC] at p; omega
        have p3 : ¬ ((b.length : Int) - 1 < a[i]) := by omega
        simp [List.replicate, hw, h, h2, w0, p'.1, p'.2, p3]
        refine hN i (i + 1) _ ⟨by omega, noHit_succ hn h p⟩ (by omega) (weak_seal 1 (by omega) ?_ ?_)
        · simp
        · simp [List.replicate, p'.1, p'.2]
    · have h2 : a.length ≤ i := by omega
      refine go_ok tab_nil ?_
      simp [List.replicate, h, h2]
      refine cw_round (fun (i : Nat) => ⟨slots 41 [(1, .pbox 0 0), (4, .int .i64 i)], [.cells [encL 1 encInt a, encL 1 encInt b]]⟩)
        (fun i => i ≤ b.length ∧ noHit (badC ⟨a, b⟩) b i) (fun i => b.length - i) 0 ⟨by omega, noHit_zero⟩ ?_ ?_
      · exact weak_seal 1 (by omega) (by simp) (by simp [List.replicate])
      · rintro M hM j ⟨hj, hm⟩
        have hw : IntKind.i64.wrap ((j : Int) + 1) = ((j + 1 : Nat) : Int) := by rw [wrap_i64] <;> omega
        refine go_ok (tab_cons ok_l1In tab_nil) ?_
        by_cases k : j < b.length
        · have k2 : ¬ b.length ≤ j := by omega
          by_cases p : badC ⟨a, b⟩ b[j] = true
          · have hf : cellsB ⟨a, b⟩ = false := by
              rw [cells_any]; simp only; rw [any_hit k p]; simp
            have p' : ¬ (-1 ≤ b[j] ∧ b[j] ≤ (b.length : Int) - 1) := by
              simp [badC] at p; omega
            simp [List.replicate, hw, k, k2, w0, hf]
            exact fun x y => absurd ⟨x, y⟩ p'
          · have p : badC ⟨a, b⟩ b[j] = false := by simpa using p
            have p' : -1 ≤ b[j] ∧ b[j] ≤ (b.length : Int) - 1 := by
              simp [badC] at p; omega
            have p3 : ¬ ((b.length : Int) - 1 < b[j]) := by omega
            simp [List.replicate, hw, k, k2, w0, p'.1, p'.2, p3]
            refine hM j (j + 1) _ ⟨by omega, noHit_succ hm k p⟩ (by omega) (weak_seal 1 (by omega) ?_ ?_)
            · simp
            · simp [List.replicate, p'.1, p'.2]
        · have k2 : b.length ≤ j := by omega
          have hf : cellsB ⟨a, b⟩ = true := by
            rw [cells_any]; simp only; rw [any_none hn h2, any_none hm k2]; rfl
          simp [List.replicate, k, k2, hf]
end Go.Vm
namespace Go.Vm
open Go.Proofs
@[simp] theorem map_encInt_inj (a b : List Int) : (List.map encInt a = List.map encInt b) = (a = b) := by
  apply propext
  constructor
  · intro h
    exact (List.map_inj_right (fun x y e => by simpa using e)).1 h
  · rintro rfl; rfl
theorem set_same {α : Type} {l : List α} {b : Nat} {x : α} (h : l[b]? = some x) : l.set b x = l := by
  apply List.ext_getElem?
  intro j
  by_cases e : b = j
  · subst e; rw [List.getElem?_set_self (List.getElem?_eq_some_iff.1 h).1, h]
  · rw [List.getElem?_set_ne e]
theorem selfB_set {H : List Blk} {b : Nat} {k : Blk} (h : SelfB H) (hk : ∀ n H2, SlB n H2 k k) : SelfB (H.set b k) := by
  intro n hn H2
  rw [List.length_set] at hn
  exact (h n hn H2).set b (hk n H2)
theorem slB_ints {n E : Nat} {H2 : List Blk} {xs : List Int} : SlB n H2 (.row true E 1 (xs.map encInt)) (.row true E 1 (xs.map encInt)) := by
  simp
theorem weak_back {n0 : Nat} {H X : List Blk} {t t' : List AV} (hB : SelfB H) (hn : n0 ≤ H.length) (ht : All2 (SlV (H.length + 0) (H ++ X)) t t') : Weak n0 ⟨t, H ++ X⟩ ⟨t', H⟩ := by
  have := weak_sealH 0 (X' := []) hB hn (by simp) ht
  rwa [List.append_nil] at this
end Go.Vm
