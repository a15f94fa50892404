/- Slices put together; are the elements of a heap cells? No condition. -/
import Derived.Test.YtfelkhckpfjgjaaTHP
import Derived.Test.YtfelkhckpfjgjaaTGA
import Derived.Test.YtfelkhckpfjgjaaTG
import Derived.Test.YtfelkhckpfjgjaaVme
set_option linter.unusedSimpArgs false
set_option linter.unusedVariables false
namespace Go.Vm
open Go.Proofs
def code_slices_Grow_int_int : F := ⟨27,[.tmp 4],.seq (.reg [⟨some 4,.mov (.k (.sl .nil 0 [])),none⟩]) (.seq (.seq (.reg [⟨some 5,.mov (.t 1),none⟩,⟨some 6,.bin .lss (.t 5) (.k (.int .i64 0)),none⟩]) (.cond (.t 6) (.reg [⟨some 7,.bad,none⟩,⟨none,.bad,none⟩]) (.skip))) (.seq (.seq (.reg [⟨some 8,.mov (.t 1),none⟩,⟨some 9,.mov (.t 0),none⟩,⟨some 10,.cap (.t 9),none⟩,⟨some 11,.mov (.t 0),none⟩,⟨some 12,.len (.t 11),none⟩,⟨some 13,.bin .sub (.t 10) (.t 12),none⟩,⟨some 14,.bin .sub (.t 8) (.t 13),none⟩,⟨some 1,.mov (.t 14),none⟩]) (.seq (.reg [⟨some 15,.mov (.t 1),none⟩,⟨some 16,.bin .gtr (.t 15) (.k (.int .i64 0)),none⟩]) (.cond (.t 16) (.reg [⟨some 17,.mov (.t 0),none⟩,⟨some 18,.mov (.t 0),none⟩,⟨some 19,.cap (.t 18),none⟩,⟨some 20,.slice 1 (.t 17) none (some (.t 19)),none⟩,⟨some 21,.mov (.t 1),none⟩,⟨some 22,.appz 3 1 8 ((.int .i64 0)) (.t 20) (.t 21),none⟩,⟨some 23,.mov (.t 0),none⟩,⟨some 24,.len (.t 23),none⟩,⟨some 25,.slice 1 (.t 22) none (some (.t 24)),none⟩,⟨some 0,.mov (.t 25),none⟩]) (.skip)))) (.seq (.reg [⟨some 26,.mov (.t 0),none⟩,⟨some 4,.mov (.t 26),none⟩]) (.ret))))⟩
theorem fok_slices_Grow_int_int : FOk Try.prog 127 code_slices_Grow_int_int := fok Try.func127 (by kernel_rfl)
def code_slices_Concat_int_int : F := ⟨36,[.tmp 2],.seq (.reg [⟨some 2,.mov (.k (.sl .nil 0 [])),none⟩]) (.seq (.reg [⟨some 3,.mov (.k (.int .i64 0)),none⟩]) (.seq (.seq (.reg [⟨some 9,.mov (.t 0),none⟩,⟨some 10,.len (.t 9),none⟩,⟨some 11,.mov (.k (.int .i64 0)),none⟩]) (.block 0 (.loop (.seq (.reg [⟨some 12,.bin .lss (.t 11) (.t 10),none⟩]) (.seq (.cond (.t 12) (.skip) (.exit 0)) (.seq (.block 1 (.seq (.reg [⟨some 13,.iaddr 1 (.t 9) (.t 11),none⟩,⟨some 14,.load 1 false (.t 13),none⟩,⟨some 5,.mov (.t 14),none⟩]) (.seq (.reg [⟨some 15,.mov (.t 3),none⟩,⟨some 16,.mov (.t 5),none⟩,⟨some 17,.len (.t 16),none⟩,⟨some 18,.bin .add (.t 15) (.t 17),none⟩,⟨some 3,.mov (.t 18),none⟩]) (.seq (.reg [⟨some 19,.mov (.t 3),none⟩,⟨some 20,.bin .lss (.t 19) (.k (.int .i64 0)),none⟩]) (.cond (.t 20) (.reg [⟨some 21,.bad,none⟩,⟨none,.bad,none⟩]) (.skip)))))) (.reg [⟨some 22,.bin .add (.t 11) (.k (.int .i64 1)),none⟩,⟨some 11,.mov (.t 22),none⟩]))))))) (.seq (.reg [⟨some 23,.mov (.t 3),none⟩,⟨some 24,.call 127 [(.k (.sl .nil 0 [])),.t 23],none⟩,⟨some 6,.mov (.t 24),none⟩]) (.seq (.seq (.reg [⟨some 25,.mov (.t 0),none⟩,⟨some 26,.len (.t 25),none⟩,⟨some 27,.mov (.k (.int .i64 0)),none⟩]) (.block 2 (.loop (.seq (.reg [⟨some 28,.bin .lss (.t 27) (.t 26),none⟩]) (.seq (.cond (.t 28) (.skip) (.exit 2)) (.seq (.block 3 (.seq (.reg [⟨some 29,.iaddr 1 (.t 25) (.t 27),none⟩,⟨some 30,.load 1 false (.t 29),none⟩,⟨some 8,.mov (.t 30),none⟩]) (.reg [⟨some 31,.mov (.t 6),none⟩,⟨some 32,.mov (.t 8),none⟩,⟨some 33,.append 3 1 8 (.t 31) (.t 32),none⟩,⟨some 6,.mov (.t 33),none⟩]))) (.reg [⟨some 34,.bin .add (.t 27) (.k (.int .i64 1)),none⟩,⟨some 27,.mov (.t 34),none⟩]))))))) (.seq (.reg [⟨some 35,.mov (.t 6),none⟩,⟨some 2,.mov (.t 35),none⟩]) (.ret))))))⟩
theorem fok_slices_Concat_int_int : FOk Try.prog 120 code_slices_Concat_int_int := fok Try.func120 (by kernel_rfl)
def code_impl_Heap_areCells_1 : F := ⟨12,[.tmp 3],.seq (.reg [⟨some 3,.mov (.k (.bool false)),none⟩]) (.seq (.reg [⟨some 4,.mov (.t 0),none⟩,⟨some 5,.bin .neq (.t 4) (.k (.int .i64 (-1))),none⟩,⟨some 6,.mov (.t 5),none⟩,⟨some 7,.load 2 true (.t 1),some (6,true)⟩,⟨some 8,.mov (.t 0),some (6,true)⟩,⟨some 9,.call 122 [.t 7,.t 8],some (6,true)⟩,⟨some 10,.not (.t 9),some (6,true)⟩,⟨some 11,.pick (.t 6) (.t 10) (.k (.bool false)),none⟩,⟨some 3,.mov (.t 11),none⟩]) (.ret))⟩
theorem fok_impl_Heap_areCells_1 : FOk Try.prog 121 code_impl_Heap_areCells_1 := fok Try.func121 (by kernel_rfl)
def code_impl_Heap_areCells : F := ⟨12,[.tmp 2],.seq (.reg [⟨some 1,.box (.t 0),none⟩,⟨some 2,.mov (.k (.bool false)),none⟩]) (.seq (.reg [⟨some 3,.faddr 0 (.t 1),none⟩,⟨some 4,.load 1 false (.t 3),none⟩,⟨some 5,.faddr 1 (.t 1),none⟩,⟨some 6,.load 1 false (.t 5),none⟩,⟨some 7,.bsl 25 1 2 (.sl .nil 0 []) [(0,.t 4),(1,.t 6)],none⟩,⟨some 8,.call 120 [.t 7],none⟩,⟨some 9,.mkfn 121 [.t 1],none⟩,⟨some 10,.call 119 [.t 8,.t 9],none⟩,⟨some 11,.not (.t 10),none⟩,⟨some 2,.mov (.t 11),none⟩]) (.ret))⟩
theorem fok_impl_Heap_areCells : FOk Try.prog 100 code_impl_Heap_areCells := fok Try.func100 (by kernel_rfl)
def code_spec_l7Cells : F := ⟨41,[.tmp 2],.seq (.reg [⟨some 1,.box (.t 0),none⟩,⟨some 2,.mov (.k (.bool false)),none⟩]) (.seq (.seq (.reg [⟨some 3,.mov (.k (.int .i64 0)),none⟩]) (.block 0 (.loop (.seq (.seq (.reg [⟨some 5,.mov (.t 3),none⟩,⟨some 6,.faddr 0 (.t 1),none⟩,⟨some 7,.load 1 false (.t 6),none⟩,⟨some 8,.len (.t 7),none⟩,⟨some 9,.bin .lss (.t 5) (.t 8),none⟩]) (.cond (.t 9) (.skip) (.exit 0))) (.seq (.block 1 (.seq (.dreg [false,false,false,false,false,false,false,false,false,true,true] [false,false,false,false,false,false,false,false,false,true,false] [⟨some 12,.faddr 0 (.t 1),none⟩,⟨some 13,.load 1 false (.t 12),none⟩,⟨some 14,.mov (.t 3),none⟩,⟨some 15,.iaddr 1 (.t 13) (.t 14),none⟩,⟨some 16,.load 1 false (.t 15),none⟩,⟨some 17,.faddr 1 (.t 1),none⟩,⟨some 18,.load 1 false (.t 17),none⟩,⟨some 19,.len (.t 18),none⟩,⟨some 20,.bin .sub (.t 19) (.k (.int .i64 1)),none⟩,⟨some 21,.call 48 [.t 16,(.k (.int .i64 (-1))),.t 20],none⟩,⟨some 22,.not (.t 21),none⟩]) (.cond (.t 22) (.seq (.reg [⟨some 2,.mov (.k (.bool false)),none⟩]) (.ret)) (.skip)))) (.reg [⟨some 10,.mov (.t 3),none⟩,⟨some 11,.bin .add (.t 10) (.k (.int .i64 1)),none⟩,⟨some 3,.mov (.t 11),none⟩])))))) (.seq (.seq (.reg [⟨some 4,.mov (.k (.int .i64 0)),none⟩]) (.block 2 (.loop (.seq (.seq (.reg [⟨some 23,.mov (.t 4),none⟩,⟨some 24,.faddr 1 (.t 1),none⟩,⟨some 25,.load 1 false (.t 24),none⟩,⟨some 26,.len (.t 25),none⟩,⟨some 27,.bin .lss (.t 23) (.t 26),none⟩]) (.cond (.t 27) (.skip) (.exit 2))) (.seq (.block 3 (.seq (.dreg [false,false,false,false,false,false,false,false,false,true,true] [false,false,false,false,false,false,false,false,false,true,false] [⟨some 30,.faddr 1 (.t 1),none⟩,⟨some 31,.load 1 false (.t 30),none⟩,⟨some 32,.mov (.t 4),none⟩,⟨some 33,.iaddr 1 (.t 31) (.t 32),none⟩,⟨some 34,.load 1 false (.t 33),none⟩,⟨some 35,.faddr 1 (.t 1),none⟩,⟨some 36,.load 1 false (.t 35),none⟩,⟨some 37,.len (.t 36),none⟩,⟨some 38,.bin .sub (.t 37) (.k (.int .i64 1)),none⟩,⟨some 39,.call 48 [.t 34,(.k (.int .i64 (-1))),.t 38],none⟩,⟨some 40,.not (.t 39),none⟩]) (.cond (.t 40) (.seq (.reg [⟨some 2,.mov (.k (.bool false)),none⟩]) (.ret)) (.skip)))) (.reg [⟨some 28,.mov (.t 4),none⟩,⟨some 29,.bin .add (.t 28) (.k (.int .i64 1)),none⟩,⟨some 4,.mov (.t 29),none⟩])))))) (.seq (.reg [⟨some 2,.mov (.k (.bool true)),none⟩]) (.ret))))⟩
theorem fok_spec_l7Cells : FOk Try.prog 93 code_spec_l7Cells := fok Try.func93 (by kernel_rfl)
def growV (n : Nat) (H : List Blk) : AV := if n = 0 then .sl .nil 0 [] else .slref H.length 0 0 n
def growH (n : Nat) (H : List Blk) : List Blk := if n = 0 then H else H ++ [.row true 3 1 (List.replicate n (.int .i64 0))]
@[simp] def ct_GrowI : CtH := ⟨127, Nat, fun n _ => n ≤ 1048576, fun n => [.sl .nil 0 [], .int .i64 n], growV, growH⟩
theorem ok_GrowI : ct_GrowI.Ok Try.prog := by
  rintro n H h1
  change Nat at n
  change n ≤ 1048576 at h1
  refine OkH.of_cw' fok_slices_Grow_int_int (go_ok tab_nil ?_)
  by_cases h0 : n = 0
  · subst h0
    simp [code_slices_Grow_int_int, List.replicate, retH, growV, growH]
  have w0 : IntKind.i64.wrap (n : Int) = n := by rw [wrap_i64] <;> omega
  have h2 : 0 < (n : Int) := by omega
  have h3 : ¬ ((n : Int) < 0) := by omega
  have h4 : ¬ ((n : Int) ≤ 0) := by omega
  have h5 : 0 < n := by omega
  have h6 : ((n : Int) : Int) * 8 ≤ 281474976710656 := by omega
  have h7 : (n : Int) ≤ (maxLen : Nat) := by simp only [maxLen]; omega
  simp [code_slices_Grow_int_int, List.replicate, retH, w0, h2, h3, h4, h5, h6, h7, h0, growV, growH]
theorem flat_len_take {xss : List (List Int)} {i : Nat} (h : i < xss.length) : (xss.take (i + 1)).flatten = (xss.take i).flatten ++ xss[i] := by
  rw [List.take_succ_eq_append_getElem h, List.flatten_append]; simp
theorem flat_len_le {xss : List (List Int)} {i : Nat} : (xss.take i).flatten.length ≤ xss.flatten.length := by
  have := congrArg (fun l => l.flatten.length) (List.take_append_drop i xss)
  simp only [List.flatten_append, List.length_append] at this
  omega
@[simp] def ct_ConcatI : Ct := ⟨120, List (List Int), fun x => x.length ≤ 1048576 ∧ x.flatten.length ≤ 1048576, fun x => [encL 1 (encL 1 encInt) x], fun x => encL 1 encInt x.flatten⟩
set_option maxHeartbeats 2000000 in
theorem ok_ConcatI : ct_ConcatI.Ok Try.prog := by
  rintro xss ⟨hx1, hx2⟩
  change List (List Int) at xss
  change xss.length ≤ 1048576 at hx1
  change xss.flatten.length ≤ 1048576 at hx2
  refine Ok.of_cw fok_slices_Concat_int_int (go_ok (tab_h ok_GrowI tab_nil) ?_)
  simp [code_slices_Concat_int_int, List.replicate]
  refine cw_round (fun (i : Nat) => ⟨slots 36 [(0, encL 1 (encL 1 encInt) xss), (3, .int .i64 (xss.take i).flatten.length), (9, encL 1 (encL 1 encInt) xss), (10, .int .i64 xss.length), (11, .int .i64 i)], []⟩)
    (fun i => i ≤ xss.length) (fun i => xss.length - i) 0 (by omega) ?_ ?_
  · exact weak_seal 0 (by omega) (by simp) (by simp [List.replicate])
  · rintro N hN i hi
    have hw : IntKind.i64.wrap ((i : Int) + 1) = ((i + 1 : Nat) : Int) := by rw [wrap_i64] <;> omega
    by_cases h : i < xss.length
    · have hf := flat_len_take h
      have hle := flat_len_le (xss := xss) (i := i + 1)
      rw [hf, List.length_append] at hle
      generalize hq : (xss.take i).flatten.length = q at *
      have w1 : IntKind.i64.wrap ((q : Int) + (xss[i].length : Int)) = (q : Int) + (xss[i].length : Int) := by rw [wrap_i64] <;> omega
      have h3 : (0 : Int) ≤ (q : Int) + (xss[i].length : Int) := by omega
      refine go_ok tab_nil ?_
      simp [List.replicate, hw, h, hq, w1, h3, -List.length_flatten]
      refine hN i (i + 1) _ (by omega) (by omega) (weak_seal 0 (by omega) ?_ ?_)
      · simp
      · simp [List.replicate, hf, hq, -List.length_flatten, -List.flatten_append]
    · have e : i = xss.length := by omega
      subst e
      rw [List.take_length]
      generalize hT : xss.flatten.length = T at *
      refine go_ok tab_nil ?_
      simp [List.replicate, -List.length_flatten, hT]
      refine ⟨T, rfl, hx2, ?_⟩
      refine cw_round (fun (p : Nat × List Int) => ⟨slots 36 [(0, encL 1 (encL 1 encInt) xss), (6, .slref 0 0 (xss.take p.1).flatten.length p.2.length), (25, encL 1 (encL 1 encInt) xss), (26, .int .i64 xss.length), (27, .int .i64 p.1)], [.row true 3 1 (p.2.map encInt)]⟩)
        (fun p => p.1 ≤ xss.length ∧ p.2.length = T ∧ p.2.take (xss.take p.1).flatten.length = (xss.take p.1).flatten) (fun p => xss.length - p.1) (0, List.replicate T 0) ⟨by simp, by simp, by simp⟩ ?_ ?_
      · by_cases h0 : T = 0
        · subst h0
          simp only [growV, growH, if_true]
          refine (weak_nil 6 3 1 (k := .nil) (sz' := 0) rfl rfl).trans ?_
          exact weak_seal 1 (by omega) (by simp) (by simp [List.replicate])
        · simp only [growV, growH, if_neg h0]
          exact weak_seal 1 (by omega) (by simp) (by simp [List.replicate])
      · rintro M hM ⟨i, els⟩ ⟨hi, hl, ht⟩
        change i ≤ xss.length at hi
        change els.length = T at hl
        change els.take (xss.take i).flatten.length = (xss.take i).flatten at ht
        have hw : IntKind.i64.wrap ((i : Int) + 1) = ((i + 1 : Nat) : Int) := by rw [wrap_i64] <;> omega
        refine go_ok tab_nil ?_
        by_cases h : i < xss.length
        · have hf := flat_len_take h
          have hle := flat_len_le (xss := xss) (i := i + 1)
          rw [hf, List.length_append, hT] at hle
          generalize hF : (xss.take i).flatten = F at *
          have c1 : F.length ≤ T := by omega
          have c2 : F.length + xss[i].length ≤ T := hle
          have c3 : (F.length + xss[i].length) * 8 ≤ 140737488355328 := by omega
          have m1 : List.take F.length (List.map encInt els) = List.map encInt F := by rw [← List.map_take, ht]
          have m2 : List.drop (F.length + xss[i].length) (List.map encInt els) = List.map encInt (List.drop (F.length + xss[i].length) els) := by rw [List.map_drop]
          simp [List.replicate, hw, h, hl, c1, c2, c3, -List.length_flatten, hF, m1, m2, -List.map_drop, -List.map_take]
          refine hM (i, els) (i + 1, F ++ xss[i] ++ els.drop (F.length + xss[i].length)) _ ⟨by simp; omega, ?_, ?_⟩ (by simp; omega) (weak_seal 1 (by omega) ?_ ?_)
          · simp; omega
          · simp only [hf, List.length_append]
            rw [List.take_append_of_le_length (by simp)]
            rw [List.take_of_length_le (by simp)]
          · simp [-List.map_drop]
          · simp [List.replicate, hf, -List.length_flatten, -List.flatten_append, hl]
            omega
        · have e : i = xss.length := by omega
          subst e
          rw [List.take_length, hT] at ht
          have m3 : List.take T (List.map encInt els) = List.map encInt xss.flatten := by rw [← List.map_take, ht]
          simp [List.replicate, -List.length_flatten, hT, hl, m3, -List.map_take, -List.map_flatten]
def cellsB (h : Heap) : Bool := (h.vars ++ h.next).all fun n => decide (n = -1) || (decide (0 ≤ n) && decide (n < h.next.length))
def badC (h : Heap) (n : Int) : Bool := !decide (n = -1) && !(decide (0 ≤ n) && decide (n ≤ (h.next.length : Int) - 1))
@[simp] def ct_areCells1 : Ct := ⟨121, Int × Heap, fun _ => True, fun x => [.int .i64 x.1, .pro [encL 1 encInt x.2.vars, encL 1 encInt x.2.next]], fun x => .bool (badC x.2 x.1)⟩
theorem ok_areCells1 : ct_areCells1.Ok Try.prog := by
  rintro ⟨n, a, b⟩ -
  refine Ok.of_cw fok_impl_Heap_areCells_1 (go_ok (tab_cons ok_isCell tab_nil) ?_)
  simp [code_impl_Heap_areCells_1, List.replicate, badC]
  grind
theorem any_bad (h : Heap) : (!(h.vars ++ h.next).any (badC h)) = cellsB h := by
  unfold cellsB
  rw [List.all_eq_not_any_not]
  congr 2
  funext n
  simp [badC]
  grind
@[simp] def ct_areCells : Ct := ⟨100, Heap, fun x => szHeap x ≤ 1048576, fun x => [encHeap x], fun x => .bool (cellsB x)⟩
theorem ok_areCells : ct_areCells.Ok Try.prog := by
  rintro ⟨a, b⟩ hx
  change a.length + b.length ≤ 1048576 at hx
  refine Ok.of_cw fok_impl_Heap_areCells (go_ok (tab_cons ok_ConcatI (tab_cons ok_ContainsFuncI tab_nil)) ?_)
  have l2 : ∀ m H, lendEls m H 19 [encL 1 encInt a, encL 1 encInt b] = some [encL 1 encInt a, encL 1 encInt b] := fun m H => by
    rw [lendEls_cons_enc (f := encL 1 encInt), lendEls_cons_enc (f := encL 1 encInt)]; simp [lendEls]
  have hc : callable Try.prog 121 = true := by kernel_rfl
  simp [code_impl_Heap_areCells, List.replicate, l2, Blk.freeze, Blk.frozen, capOk, hc]
  refine ⟨[a, b], rfl, by simp, by simp; omega, rfl, badC ⟨a, b⟩, fun n _ _ _ => ok_areCells1 (n, ⟨a, b⟩) trivial, ?_⟩
  rw [← any_bad]
  simp
@[simp] def ct_l7Cells : Ct := ⟨93, Heap, fun x => szHeap x ≤ 1048576, fun x => [encHeap x], fun x => .bool (cellsB x)⟩
theorem cells_any (h : Heap) : cellsB h = (!h.vars.any (badC h) && !h.next.any (badC h)) := by
  rw [← any_bad, List.any_append, Bool.not_or]
set_option maxHeartbeats 1000000 in
theorem ok_l7Cells : ct_l7Cells.Ok Try.prog := by
  rintro ⟨a, b⟩ hx
  change a.length + b.length ≤ 1048576 at hx
  refine Ok.of_cw fok_spec_l7Cells (go_ok tab_nil ?_)
  have w0 : IntKind.i64.wrap ((b.length : Int) - 1) = (b.length : Int) - 1 := by rw [wrap_i64] <;> omega
  simp [code_spec_l7Cells, List.replicate]
  refine cw_round (fun (i : Nat) => ⟨slots 41 [(1, .pbox 0 0), (3, .int .i64 i)], [.cells [encL 1 encInt a, encL 1 encInt b]]⟩)
    (fun i => i ≤ a.length ∧ noHit (badC ⟨a, b⟩) a i) (fun i => a.length - i) 0 ⟨by omega, noHit_zero⟩ ?_ ?_
  · exact weak_seal 1 (by omega) (by simp) (by simp [List.replicate])
  · rintro N hN i ⟨hi, hn⟩
    have hw : IntKind.i64.wrap ((i : Int) + 1) = ((i + 1 : Nat) : Int) := by rw [wrap_i64] <;> omega
    by_cases h : i < a.length
    · have h2 : ¬ a.length ≤ i := by omega
      refine go_ok (tab_cons ok_l1In tab_nil) ?_
      by_cases p : badC ⟨a, b⟩ a[i] = true
      · have hf : cellsB ⟨a, b⟩ = false := by
          rw [cells_any]; simp only; rw [any_hit h p]; rfl
        have p' : ¬ (-1 ≤ a[i] ∧ a[i] ≤ (b.length : Int) - 1) := by
          simp [badC] at p; omega
        simp [List.replicate, hw, h, h2, w0, hf]
        exact fun x y => absurd ⟨x, y⟩ p'
      · have p : badC ⟨a, b⟩ a[i] = false := by simpa using p
        have p' : -1 ≤ a[i] ∧ a[i] ≤ (b.length : Int) - 1 := by
          simp [badC] at p; omega
        have p3 : ¬ ((b.length : Int) - 1 < a[i]) := by omega
        simp [List.replicate, hw, h, h2, w0, p'.1, p'.2, p3]
        refine hN i (i + 1) _ ⟨by omega, noHit_succ hn h p⟩ (by omega) (weak_seal 1 (by omega) ?_ ?_)
        · simp
        · simp [List.replicate, p'.1, p'.2]
    · have h2 : a.length ≤ i := by omega
      refine go_ok tab_nil ?_
      simp [List.replicate, h, h2]
      refine cw_round (fun (i : Nat) => ⟨slots 41 [(1, .pbox 0 0), (4, .int .i64 i)], [.cells [encL 1 encInt a, encL 1 encInt b]]⟩)
        (fun i => i ≤ b.length ∧ noHit (badC ⟨a, b⟩) b i) (fun i => b.length - i) 0 ⟨by omega, noHit_zero⟩ ?_ ?_
      · exact weak_seal 1 (by omega) (by simp) (by simp [List.replicate])
      · rintro M hM j ⟨hj, hm⟩
        have hw : IntKind.i64.wrap ((j : Int) + 1) = ((j + 1 : Nat) : Int) := by rw [wrap_i64] <;> omega
        refine go_ok (tab_cons ok_l1In tab_nil) ?_
        by_cases k : j < b.length
        · have k2 : ¬ b.length ≤ j := by omega
          by_cases p : badC ⟨a, b⟩ b[j] = true
          · have hf : cellsB ⟨a, b⟩ = false := by
              rw [cells_any]; simp only; rw [any_hit k p]; simp
            have p' : ¬ (-1 ≤ b[j] ∧ b[j] ≤ (b.length : Int) - 1) := by
              simp [badC] at p; omega
            simp [List.replicate, hw, k, k2, w0, hf]
            exact fun x y => absurd ⟨x, y⟩ p'
          · have p : badC ⟨a, b⟩ b[j] = false := by simpa using p
            have p' : -1 ≤ b[j] ∧ b[j] ≤ (b.length : Int) - 1 := by
              simp [badC] at p; omega
            have p3 : ¬ ((b.length : Int) - 1 < b[j]) := by omega
            simp [List.replicate, hw, k, k2, w0, p'.1, p'.2, p3]
            refine hM j (j + 1) _ ⟨by omega, noHit_succ hm k p⟩ (by omega) (weak_seal 1 (by omega) ?_ ?_)
            · simp
            · simp [List.replicate, p'.1, p'.2]
        · have k2 : b.length ≤ j := by omega
          have hf : cellsB ⟨a, b⟩ = true := by
            rw [cells_any]; simp only; rw [any_none hn h2, any_none hm k2]; rfl
          simp [List.replicate, k, k2, hf]
end Go.Vm
namespace Go.Vm
open Go.Proofs
@[simp] theorem map_encInt_inj (a b : List Int) : (List.map encInt a = List.map encInt b) = (a = b) := by
  apply propext
  constructor
  · intro h
    exact (List.map_inj_right (fun x y e => by simpa using e)).1 h
  · rintro rfl; rfl
theorem set_same {α : Type} {l : List α} {b : Nat} {x : α} (h : l[b]? = some x) : l.set b x = l := by
  apply List.ext_getElem?
  intro j
  by_cases e : b = j
  · subst e; rw [List.getElem?_set_self (List.getElem?_eq_some_iff.1 h).1, h]
  · rw [List.getElem?_set_ne e]
theorem selfB_set {H : List Blk} {b : Nat} {k : Blk} (h : SelfB H) (hk : ∀ n H2, SlB n H2 k k) : SelfB (H.set b k) := by
  intro n hn H2
  rw [List.length_set] at hn
  exact (h n hn H2).set b (hk n H2)
theorem slB_ints {n E : Nat} {H2 : List Blk} {xs : List Int} : SlB n H2 (.row true E 1 (xs.map encInt)) (.row true E 1 (xs.map encInt)) := by
  simp
theorem weak_back {n0 : Nat} {H X : List Blk} {t t' : List AV} (hB : SelfB H) (hn : n0 ≤ H.length) (ht : All2 (SlV (H.length + 0) (H ++ X)) t t') : Weak n0 ⟨t, H ++ X⟩ ⟨t', H⟩ := by
  have := weak_sealH 0 (X' := []) hB hn (by simp) ht
  rwa [List.append_nil] at this
end Go.Vm
