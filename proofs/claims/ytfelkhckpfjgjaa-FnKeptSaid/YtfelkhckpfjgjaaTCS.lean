/- CanonHeap of both. No condition. -/
import Derived.Test.YtfelkhckpfjgjaaTMK
set_option linter.unusedSimpArgs false
set_option linter.unusedVariables false
namespace Go.Vm
open Go.Proofs
def code_spec_l7New : F := ⟨15,[.tmp 4],.seq (.reg [⟨some 4,.mov (.k (.int .i64 0)),none⟩]) (.seq (.reg [⟨some 6,.mov (.t 0),none⟩,⟨some 7,.mov (.t 1),none⟩,⟨some 8,.call 95 [.t 6,.t 7],none⟩,⟨some 5,.mov (.t 8),none⟩]) (.seq (.seq (.reg [⟨some 9,.mov (.t 5),none⟩,⟨some 10,.len (.t 9),none⟩,⟨some 11,.bin .eql (.t 10) (.k (.int .i64 0)),none⟩]) (.cond (.t 11) (.seq (.reg [⟨some 4,.mov (.k (.int .i64 (-1))),none⟩]) (.ret)) (.skip))) (.seq (.reg [⟨some 12,.mov (.t 5),none⟩,⟨some 13,.iaddr 1 (.t 12) (.k (.int .i64 0)),none⟩,⟨some 14,.load 1 false (.t 13),none⟩,⟨some 4,.mov (.t 14),none⟩]) (.ret))))⟩
theorem fok_spec_l7New : FOk Try.prog 117 code_spec_l7New := fok Try.func117 (by kernel_rfl)
def code_spec_CanonHeap : F := ⟨55,[.cell 2 true 2],.seq (.reg [⟨some 1,.box (.t 0),none⟩,⟨some 2,.alloc [(.sl .nil 0 []),(.sl .nil 0 [])],none⟩]) (.seq (.seq (.reg [⟨some 7,.load 2 true (.t 1),none⟩,⟨some 8,.call 93 [.t 7],none⟩,⟨some 9,.not (.t 8),none⟩]) (.cond (.t 9) (.seq (.reg [⟨some 10,.build [(.sl .nil 0 []),(.sl .nil 0 [])] [],none⟩,⟨none,.store 2 (.t 2) (.t 10),none⟩]) (.ret)) (.skip))) (.seq (.reg [⟨some 11,.load 2 true (.t 1),none⟩,⟨some 12,.call 116 [.t 11],none⟩,⟨some 3,.mov (.t 12),none⟩]) (.seq (.reg [⟨some 13,.build [(.sl .nil 0 []),(.sl .nil 0 [])] [],none⟩,⟨some 4,.alloc [(.sl .nil 0 []),(.sl .nil 0 [])],none⟩,⟨none,.store 2 (.t 4) (.t 13),none⟩]) (.seq (.seq (.reg [⟨some 5,.mov (.k (.int .i64 0)),none⟩]) (.block 0 (.loop (.seq (.seq (.reg [⟨some 14,.mov (.t 5),none⟩,⟨some 15,.faddr 0 (.t 1),none⟩,⟨some 16,.load 1 false (.t 15),none⟩,⟨some 17,.len (.t 16),none⟩,⟨some 18,.bin .lss (.t 14) (.t 17),none⟩]) (.cond (.t 18) (.skip) (.exit 0))) (.seq (.block 1 (.dreg [false,false,false,false,false,false,false,false,false,false,true,true,true] [false,false,false,false,false,false,false,false,true,false,false,false,false] [⟨some 21,.faddr 0 (.t 4),none⟩,⟨some 22,.load 1 false (.t 21),none⟩,⟨some 23,.mov (.t 3),none⟩,⟨some 24,.faddr 0 (.t 1),none⟩,⟨some 25,.load 1 false (.t 24),none⟩,⟨some 26,.mov (.t 5),none⟩,⟨some 27,.iaddr 1 (.t 25) (.t 26),none⟩,⟨some 28,.load 1 false (.t 27),none⟩,⟨some 29,.call 117 [.t 23,.t 28],none⟩,⟨some 30,.bsl 3 1 1 (.int .i64 0) [(0,.t 29)],none⟩,⟨some 31,.append 3 1 8 (.t 22) (.t 30),none⟩,⟨some 32,.faddr 0 (.t 4),none⟩,⟨none,.store 1 (.t 32) (.t 31),none⟩])) (.reg [⟨some 19,.mov (.t 5),none⟩,⟨some 20,.bin .add (.t 19) (.k (.int .i64 1)),none⟩,⟨some 5,.mov (.t 20),none⟩])))))) (.seq (.seq (.reg [⟨some 6,.mov (.k (.int .i64 0)),none⟩]) (.block 2 (.loop (.seq (.seq (.reg [⟨some 33,.mov (.t 6),none⟩,⟨some 34,.mov (.t 3),none⟩,⟨some 35,.len (.t 34),none⟩,⟨some 36,.bin .lss (.t 33) (.t 35),none⟩]) (.cond (.t 36) (.skip) (.exit 2))) (.seq (.block 3 (.dreg [false,false,false,false,false,false,false,false,false,false,false,false,false,true,true,true] [false,false,false,false,false,false,false,false,false,false,false,true,false,false,false,false] [⟨some 39,.faddr 1 (.t 4),none⟩,⟨some 40,.load 1 false (.t 39),none⟩,⟨some 41,.mov (.t 3),none⟩,⟨some 42,.faddr 1 (.t 1),none⟩,⟨some 43,.load 1 false (.t 42),none⟩,⟨some 44,.mov (.t 3),none⟩,⟨some 45,.mov (.t 6),none⟩,⟨some 46,.iaddr 1 (.t 44) (.t 45),none⟩,⟨some 47,.load 1 false (.t 46),none⟩,⟨some 48,.iaddr 1 (.t 43) (.t 47),none⟩,⟨some 49,.load 1 false (.t 48),none⟩,⟨some 50,.call 117 [.t 41,.t 49],none⟩,⟨some 51,.bsl 3 1 1 (.int .i64 0) [(0,.t 50)],none⟩,⟨some 52,.append 3 1 8 (.t 40) (.t 51),none⟩,⟨some 53,.faddr 1 (.t 4),none⟩,⟨none,.store 1 (.t 53) (.t 52),none⟩])) (.reg [⟨some 37,.mov (.t 6),none⟩,⟨some 38,.bin .add (.t 37) (.k (.int .i64 1)),none⟩,⟨some 6,.mov (.t 38),none⟩])))))) (.seq (.reg [⟨some 54,.load 2 true (.t 4),none⟩,⟨none,.store 2 (.t 2) (.t 54),none⟩]) (.ret)))))))⟩
theorem fok_spec_CanonHeap : FOk Try.prog 92 code_spec_CanonHeap := fok Try.func92 (by kernel_rfl)
theorem range_pre {n j : Nat} {l₁ l₂ : List Nat} (h : List.range n = l₁ ++ j :: l₂) : j = l₁.length ∧ ∀ k, k < j → k ∈ l₁ := by
  have hj : (List.range n)[l₁.length]? = some j := by rw [h]; simp
  have hj2 : l₁.length = j := by
    have := List.getElem?_eq_some_iff.1 hj
    obtain ⟨h1, h2⟩ := this
    simpa using h2
  refine ⟨hj2.symm, fun k hk => ?_⟩
  have hk1 : k < l₁.length := by omega
  have : (List.range n)[k]? = l₁[k]? := by rw [h, List.getElem?_append_left hk1]
  rw [List.getElem?_eq_getElem hk1] at this
  obtain ⟨h1, h2⟩ := List.getElem?_eq_some_iff.1 this
  have : l₁[k] = k := by rw [← h2]; simp
  rw [← this]; exact List.getElem_mem hk1
theorem pos_head {xs : List Int} {v : Int} : (pos xs v = [] ∧ findI (fun a => v == a) xs = -1) ∨ ∃ j l, pos xs v = (j : Int) :: l ∧ findI (fun a => v == a) xs = (j : Int) := by
  cases hf : (List.range xs.length).filter (fun i => xs.getD i 0 == v) with
  | nil =>
    left
    refine ⟨by unfold pos; rw [hf]; rfl, ?_⟩
    rw [List.filter_eq_nil_iff] at hf
    refine findI_none (i := xs.length) ?_ (Nat.le_refl _)
    intro a ha
    rw [List.take_length] at ha
    obtain ⟨j, hj, e⟩ := List.mem_iff_getElem.1 ha
    have := hf j (by simpa using hj)
    simp [List.getD_eq_getElem?_getD, hj, e] at this
    simpa using fun e => this e.symm
  | cons j l =>
    right
    refine ⟨j, l.map Int.ofNat, by unfold pos; rw [hf]; rfl, ?_⟩
    obtain ⟨l₁, l₂, h1, h2, h3, -⟩ := List.filter_eq_cons_iff.1 hf
    obtain ⟨-, h5⟩ := range_pre h1
    have hj : j < xs.length := by
      have : j ∈ List.range xs.length := by rw [h1]; simp
      simpa using this
    refine findI_hit (i := j) ?_ hj ?_
    · intro a ha
      rw [List.mem_take_iff_getElem] at ha
      obtain ⟨k, hk, e⟩ := ha
      have hk1 : k < j := by omega
      have hk2 : k < xs.length := by omega
      have := h2 k (h5 k hk1)
      simp [List.getD_eq_getElem?_getD, hk2, e] at this
      simpa using fun e => this e.symm
    · simp [List.getD_eq_getElem?_getD, hj] at h3
      simp [h3]
def nameT (order : List Int) (c : Int) : Int := findI (fun a => c == a) order
@[simp] def ct_l7New : Ct := ⟨117, List Int × Int, fun x => x.1.length ≤ 1048576, fun x => [encL 1 encInt x.1, .int .i64 x.2], fun x => .int .i64 (nameT x.1 x.2)⟩
theorem ok_l7New : ct_l7New.Ok Try.prog := by
  rintro ⟨xs, v⟩ hx
  change xs.length ≤ 1048576 at hx
  refine Ok.of_cw fok_spec_l7New (go_ok (tab_cons ok_sPositions tab_nil) ?_)
  rcases pos_head (xs := xs) (v := v) with ⟨h1, h2⟩ | ⟨j, l, h1, h2⟩
  · simp [code_spec_l7New, List.replicate, nameT, hx, h1, h2]
  · have h3 : ¬ ((l.length : Int) + 1 = 0) := by omega
    simp [code_spec_l7New, List.replicate, nameT, hx, h1, h2, h3]
def canonH (h : Heap) : Heap := if cellsB h = true then ⟨h.vars.map (nameT (met h)), (met h).map fun c => nameT (met h) (h.next.getD c.toNat 0)⟩ else ⟨[], []⟩
def nextN (order nx : List Int) (c : Int) : Int := nameT order (nx.getD c.toNat 0)
theorem met_good (h : Heap) : goodC h.next.length (met h) := metTo_good h.next h.vars [] (goodC_nil _)
end Go.Vm
namespace Go.Vm
open Go.Proofs
theorem cw_to {P : Program} {n0 : Nat} {A B : C} {Q : Exit → St → Prop} {st : St} (st' : St) (h1 : CW P n0 A (fun e s => e = .normal ∧ Weak n0 s st') st) (h2 : CW P n0 B Q st') : CW P n0 (.seq A B) Q st :=
  cw_seq (cw_mono h1 fun e s h => by obtain ⟨rfl, hw⟩ := h; exact cw_weak hw h2)
end Go.Vm
