/- Reaching in a structure, plain: what a search with a queue keeps. No condition. -/
import Derived.Test.YtfelkhckpfjgjaaTPT
import Derived.Test.YtfelkhckpfjgjaaTEF
set_option linter.unusedSimpArgs false
set_option linter.unusedVariables false
namespace Go.Vm
open Go.Proofs
structure BInv (s : Strc) (v : Int) (i j : Nat) (seen : List Bool) (q : List Int) : Prop where
  len : seen.length = s.nodes.length
  snd : ∀ y, seen[y]? = some true → Rch (edgeG s v) i y
  qs : ∀ x ∈ q, ∃ a : Nat, x = a ∧ a < s.nodes.length ∧ (a = i ∨ seen[a]? = some true)
  nj : seen[j]? ≠ some true
  cl : ∀ a : Nat, a < s.nodes.length → (a = i ∨ seen[a]? = some true) → (a : Int) ∈ q ∨ ∀ y, edgeG s v a y → seen[y]? = some true
structure IInv (s : Strc) (v : Int) (i j x k : Nat) (seen : List Bool) (q : List Int) : Prop where
  len : seen.length = s.nodes.length
  snd : ∀ y, seen[y]? = some true → Rch (edgeG s v) i y
  qs : ∀ x ∈ q, ∃ a : Nat, x = a ∧ a < s.nodes.length ∧ (a = i ∨ seen[a]? = some true)
  nj : seen[j]? ≠ some true
  cl : ∀ a : Nat, a < s.nodes.length → (a = i ∨ seen[a]? = some true) → (a : Int) ∈ q ∨ a = x ∨ ∀ y, edgeG s v a y → seen[y]? = some true
  hx : x < s.nodes.length ∧ (x = i ∨ seen[x]? = some true)
  part : ∀ y, y < k → edgeG s v x y → seen[y]? = some true
section
variable {s : Strc} {v : Int} {i j x k : Nat} {seen : List Bool} {q : List Int}
theorem IInv.skip (h : IInv s v i j x k seen q) (hk : seen[k]? = some true ∨ ¬ edgeG s v x k) : IInv s v i j x (k + 1) seen q := by
  refine ⟨h.len, h.snd, h.qs, h.nj, h.cl, h.hx, fun y hy he => ?_⟩
  by_cases e : y = k
  · subst e
    rcases hk with hk | hk
    · exact hk
    · exact absurd he hk
  · exact h.part y (by omega) he
theorem IInv.reach (h : IInv s v i j x k seen q) {y : Nat} (he : edgeG s v x y) : Rch (edgeG s v) i y := by
  rcases h.hx.2 with rfl | hs
  · exact .one he
  · exact .more (h.snd x hs) he
theorem set_true {seen : List Bool} {k a : Nat} (hk : k < seen.length) : (seen.set k true)[a]? = some true ↔ a = k ∨ seen[a]? = some true := by
  by_cases e : k = a
  · subst e; simp [hk]
  · rw [List.getElem?_set_ne e]
    constructor
    · exact .inr
    · rintro (h | h)
      · exact absurd h.symm e
      · exact h
theorem IInv.push (h : IInv s v i j x k seen q) (he : edgeG s v x k) (hj : k ≠ j) : IInv s v i j x (k + 1) (seen.set k true) (q ++ [(k : Int)]) := by
  have hk : k < seen.length := by rw [h.len]; exact he.2.1
  refine ⟨by simp [h.len], fun y hy => ?_, fun z hz => ?_, fun hs => ?_, fun a ha hs => ?_, ⟨h.hx.1, h.hx.2.imp id fun g => (set_true hk).2 (.inr g)⟩, fun y hy hey => ?_⟩
  · rcases (set_true hk).1 hy with rfl | hy
    · exact h.reach he
    · exact h.snd y hy
  · rcases List.mem_append.1 hz with hz | hz
    · obtain ⟨a, e, ha, hs⟩ := h.qs z hz
      exact ⟨a, e, ha, hs.imp id fun g => (set_true hk).2 (.inr g)⟩
    · rw [List.mem_singleton.1 hz]
      exact ⟨k, rfl, he.2.1, .inr ((set_true hk).2 (.inl rfl))⟩
  · rcases (set_true hk).1 hs with e | hs
    · exact hj e.symm
    · exact h.nj hs
  · by_cases e : a = k
    · subst e; exact .inl (by simp)
    · have hs' : a = i ∨ seen[a]? = some true := hs.imp id fun g => ((set_true hk).1 g).resolve_left e
      rcases h.cl a ha hs' with g | g | g
      · exact .inl (List.mem_append.2 (.inl g))
      · exact .inr (.inl g)
      · exact .inr (.inr fun y hy => (set_true hk).2 (.inr (g y hy)))
  · by_cases e : y = k
    · exact (set_true hk).2 (.inl e)
    · exact (set_true hk).2 (.inr (h.part y (by omega) hey))
theorem IInv.done (h : IInv s v i j x k seen q) (hk : s.nodes.length ≤ k) : BInv s v i j seen q := by
  refine ⟨h.len, h.snd, h.qs, h.nj, fun a ha hs => ?_⟩
  rcases h.cl a ha hs with g | rfl | g
  · exact .inl g
  · exact .inr fun y hy => h.part y (by have := hy.2.1; omega) hy
  · exact .inr g
theorem BInv.fin (h : BInv s v i j seen []) (hi : i < s.nodes.length) : rchB s v i j = false := by
  rw [rchB_not]
  intro hr
  have hall : ∀ y, Rch (edgeG s v) i y → seen[y]? = some true := by
    intro y hy
    induction hy with
    | one he => exact (h.cl i hi (.inl rfl)).resolve_left (by simp) _ he
    | more hx he ih => exact (h.cl _ (rch_lt hx) (.inr ih)).resolve_left (by simp) _ he
  exact h.nj (hall j hr)
end
end Go.Vm
namespace Go.Vm
open Go.Proofs
def code_spec_l13One : F := ⟨42,[.tmp 6],.seq (.reg [⟨some 3,.box (.t 0),none⟩,⟨some 4,.box (.t 1),none⟩,⟨some 6,.mov (.k (.int .i64 0)),none⟩]) (.seq (.block 0 (.seq (.reg [⟨some 8,.mov (.t 2),none⟩,⟨some 9,.bin .lss (.t 8) (.k (.int .i64 0)),none⟩,⟨some 7,.mov (.t 9),none⟩]) (.cond (.t 7) (.seq (.reg [⟨some 6,.mov (.k (.int .i64 1)),none⟩]) (.ret)) (.seq (.reg [⟨some 11,.faddr 0 (.t 4),none⟩,⟨some 12,.load 1 false (.t 11),none⟩,⟨some 13,.bin .eql (.t 12) (.k (.int .i64 2)),none⟩,⟨some 10,.mov (.t 13),none⟩]) (.cond (.t 10) (.seq (.dreg [false,false,false,false,false,false,false,false,true,true] [false,false,false,false,false,false,false,false,true,false] [⟨some 14,.faddr 0 (.t 3),none⟩,⟨some 15,.load 1 false (.t 14),none⟩,⟨some 16,.mov (.t 2),none⟩,⟨some 17,.iaddr 4 (.t 15) (.t 16),none⟩,⟨some 18,.faddr 0 (.t 17),none⟩,⟨some 19,.load 1 false (.t 18),none⟩,⟨some 20,.faddr 1 (.t 4),none⟩,⟨some 21,.load 1 false (.t 20),none⟩,⟨some 22,.call 112 [.t 19,.t 21],none⟩,⟨some 6,.mov (.t 22),none⟩]) (.ret)) (.seq (.reg [⟨some 24,.faddr 0 (.t 4),none⟩,⟨some 25,.load 1 false (.t 24),none⟩,⟨some 26,.bin .eql (.t 25) (.k (.int .i64 3)),none⟩,⟨some 23,.mov (.t 26),none⟩]) (.cond (.t 23) (.seq (.dreg [false,false,false,false,false,false,false,false,true,true] [false,false,false,false,false,false,false,false,true,false] [⟨some 27,.faddr 0 (.t 3),none⟩,⟨some 28,.load 1 false (.t 27),none⟩,⟨some 29,.mov (.t 2),none⟩,⟨some 30,.iaddr 4 (.t 28) (.t 29),none⟩,⟨some 31,.faddr 1 (.t 30),none⟩,⟨some 32,.load 1 false (.t 31),none⟩,⟨some 33,.faddr 1 (.t 4),none⟩,⟨some 34,.load 1 false (.t 33),none⟩,⟨some 35,.call 112 [.t 32,.t 34],none⟩,⟨some 6,.mov (.t 35),none⟩]) (.ret)) (.skip)))))))) (.seq (.reg [⟨some 36,.faddr 0 (.t 3),none⟩,⟨some 37,.load 1 false (.t 36),none⟩,⟨some 38,.mov (.t 2),none⟩,⟨some 39,.iaddr 4 (.t 37) (.t 38),none⟩,⟨some 40,.faddr 2 (.t 39),none⟩,⟨some 41,.load 1 false (.t 40),none⟩,⟨some 6,.mov (.t 41),none⟩]) (.ret)))⟩
theorem fok_spec_l13One : FOk Try.prog 75 code_spec_l13One := fok Try.func75 (by kernel_rfl)
def code_spec_l13Two : F := ⟨44,[.tmp 8],.seq (.reg [⟨some 4,.box (.t 0),none⟩,⟨some 5,.box (.t 1),none⟩,⟨some 8,.mov (.k (.int .i64 0)),none⟩]) (.seq (.block 0 (.seq (.reg [⟨some 10,.mov (.t 2),none⟩,⟨some 11,.bin .lss (.t 10) (.k (.int .i64 0)),none⟩,⟨some 12,.mov (.t 11),none⟩,⟨some 13,.mov (.t 3),some (12,false)⟩,⟨some 14,.bin .lss (.t 13) (.k (.int .i64 0)),some (12,false)⟩,⟨some 15,.pick (.t 12) (.k (.bool true)) (.t 14),none⟩,⟨some 9,.mov (.t 15),none⟩]) (.cond (.t 9) (.seq (.reg [⟨some 8,.mov (.k (.int .i64 1)),none⟩]) (.ret)) (.seq (.reg [⟨some 17,.faddr 0 (.t 5),none⟩,⟨some 18,.load 1 false (.t 17),none⟩,⟨some 19,.bin .eql (.t 18) (.k (.int .i64 5)),none⟩,⟨some 16,.mov (.t 19),none⟩]) (.cond (.t 16) (.seq (.reg [⟨some 20,.load 2 true (.t 4),none⟩,⟨some 21,.mov (.t 2),none⟩,⟨some 22,.mov (.t 3),none⟩,⟨some 23,.call 99 [.t 20,.t 21,.t 22],none⟩,⟨some 8,.mov (.t 23),none⟩]) (.ret)) (.seq (.reg [⟨some 25,.faddr 0 (.t 5),none⟩,⟨some 26,.load 1 false (.t 25),none⟩,⟨some 27,.bin .eql (.t 26) (.k (.int .i64 7)),none⟩,⟨some 24,.mov (.t 27),none⟩]) (.cond (.t 24) (.seq (.reg [⟨some 28,.load 2 true (.t 4),none⟩,⟨some 29,.mov (.t 2),none⟩,⟨some 30,.mov (.t 3),none⟩,⟨some 31,.call 29 [.t 28,.t 29,.t 30],none⟩,⟨some 8,.mov (.t 31),none⟩]) (.ret)) (.seq (.reg [⟨some 33,.mov (.t 2),none⟩,⟨some 34,.mov (.t 3),none⟩,⟨some 35,.bin .neq (.t 33) (.t 34),none⟩,⟨some 32,.mov (.t 35),none⟩]) (.cond (.t 32) (.seq (.reg [⟨some 8,.mov (.k (.int .i64 0)),none⟩]) (.ret)) (.seq (.reg [⟨some 37,.faddr 0 (.t 4),none⟩,⟨some 38,.load 1 false (.t 37),none⟩,⟨some 39,.mov (.t 2),none⟩,⟨some 40,.iaddr 4 (.t 38) (.t 39),none⟩,⟨some 41,.faddr 3 (.t 40),none⟩,⟨some 42,.load 1 false (.t 41),none⟩,⟨some 43,.bin .eql (.t 42) (.k (.int .i64 0)),none⟩,⟨some 36,.mov (.t 43),none⟩]) (.cond (.t 36) (.seq (.reg [⟨some 8,.mov (.k (.int .i64 2)),none⟩]) (.ret)) (.skip)))))))))))) (.seq (.reg [⟨some 8,.mov (.k (.int .i64 1)),none⟩]) (.ret)))⟩
theorem fok_spec_l13Two : FOk Try.prog 77 code_spec_l13Two := fok Try.func77 (by kernel_rfl)
@[simp] noncomputable def ct_sPathR (R : Strc → Prop) : Ct := ⟨29, Strc × Int × Int, fun x => R x.1 ∧ szStrc x.1 ≤ 1048576, fun x => [encStrc x.1, .int .i64 x.2.1, .int .i64 x.2.2], fun x => .int .i64 (pathT x.1 x.2.1 x.2.2)⟩
@[simp] def ct_l13One : Ct := ⟨75, Strc × Fm × Int, fun x => szStrc x.1 ≤ 1048576 ∧ (2 ≤ x.2.1.kind ∧ x.2.1.kind ≤ 4) ∧ (x.2.2 = -1 ∨ inN x.1 x.2.2),
  fun x => [encStrc x.1, encFm x.2.1, .int .i64 x.2.2], fun x => .int .i64 (oneT x.1 x.2.1 x.2.2)⟩
set_option maxHeartbeats 2000000 in
set_option maxRecDepth 100000 in
theorem ok_l13One : ct_l13One.Ok Try.prog := by
  rintro ⟨s, ⟨kind, k, u, v, args⟩, i⟩ ⟨hs, hk, hi⟩
  change szStrc s ≤ 1048576 at hs
  change 2 ≤ kind ∧ kind ≤ 4 at hk
  change i = -1 ∨ inN s i at hi
  have hT : TabOk Try.prog _ := tab_cons ok_l13At tab_nil
  have hI : inN s i → 0 ≤ i ∧ ¬ i < 0 ∧ i < s.nodes.length ∧ i.toNat < s.nodes.length := fun h => by unfold inN at h; omega
  have hv : inN s i → (nodeI s i).vars.length ≤ 1048576 ∧ (nodeI s i).reach.length ≤ 1048576 := fun h => by
    have h1 := node_le (x := s) (n := nodeI s i) (by rw [nodeI_get (hI h).2.2.2]; exact List.getElem_mem _)
    omega
  refine Ok.of_cw fok_spec_l13One ?_
  simp only [code_spec_l13One, frame, List.length_cons, List.length_nil, List.replicate, Nat.reduceSub, Nat.reduceAdd, List.cons_append, List.nil_append]
  refine cw_seq (go_ok hT ?_)
  simp
  refine cw_seq (go_ok hT ?_)
  rcases hi with rfl | hi
  · simp [oneT]
  · obtain ⟨i0, i1, i2, i3⟩ := hI hi
    obtain ⟨v1, v2⟩ := hv hi
    have e := nodeI_get i3
    rw [e] at v1 v2
    obtain rfl | rfl | rfl : kind = 2 ∨ kind = 3 ∨ kind = 4 := by omega
    · simp [oneT, i0, i1, i2, i3, e, v1, v2]
    · simp [oneT, i0, i1, i2, i3, e, v1, v2]
    · simp [oneT, i0, i1, i2, i3, e, v1, v2]
      refine go_ok hT ?_
      simp [i0, i1, i2, i3, e, v1, v2]
@[simp] noncomputable def ct_l13Two (R : Strc → Prop) : Ct := ⟨77, Strc × Fm × Int × Int, fun x => szStrc x.1 ≤ 1048576 ∧ (5 ≤ x.2.1.kind ∧ x.2.1.kind ≤ 7) ∧ (x.2.2.1 = -1 ∨ inN x.1 x.2.2.1) ∧ (x.2.2.2 = -1 ∨ inN x.1 x.2.2.2) ∧ (R x.1 ∨ x.2.1.kind ≠ 7),
  fun x => [encStrc x.1, encFm x.2.1, .int .i64 x.2.2.1, .int .i64 x.2.2.2], fun x => .int .i64 (twoT x.1 x.2.1 x.2.2.1 x.2.2.2)⟩
set_option maxHeartbeats 2000000 in
set_option maxRecDepth 100000 in
theorem ok_l13Two {R : Strc → Prop} (hP : (ct_sPathR R).Ok Try.prog) : (ct_l13Two R).Ok Try.prog := by
  rintro ⟨s, ⟨kind, k, u, v, args⟩, i, j⟩ ⟨hs, hk, hi, hj, hR⟩
  change szStrc s ≤ 1048576 at hs
  change 5 ≤ kind ∧ kind ≤ 7 at hk
  change i = -1 ∨ inN s i at hi
  change j = -1 ∨ inN s j at hj
  change R s ∨ kind ≠ 7 at hR
  have hT : TabOk Try.prog _ := tab_cons ok_sNextOf (tab_cons hP tab_nil)
  have hI : inN s i → 0 ≤ i ∧ ¬ i < 0 ∧ i < s.nodes.length ∧ i.toNat < s.nodes.length := fun h => by unfold inN at h; omega
  have hJ : inN s j → ¬ j < 0 := fun h => by unfold inN at h; omega
  refine Ok.of_cw fok_spec_l13Two ?_
  simp only [code_spec_l13Two, frame, List.length_cons, List.length_nil, List.replicate, Nat.reduceSub, Nat.reduceAdd, List.cons_append, List.nil_append]
  refine cw_seq (go_ok hT ?_)
  simp
  refine cw_seq (go_ok hT ?_)
  rcases hi with rfl | hi
  · simp [twoT]
  · obtain ⟨i0, i1, i2, i3⟩ := hI hi
    rcases hj with rfl | hj
    · simp [twoT, i1]
    · have j1 := hJ hj
      obtain rfl | rfl | rfl : kind = 5 ∨ kind = 6 ∨ kind = 7 := by omega
      · simp [twoT, i1, j1, hs]
      · by_cases hij : i = j
        · subst hij
          have e : sameT s i = if (s.nodes[i.toNat]).many = 0 then 2 else 1 := by unfold sameT; simp [List.getD_eq_getElem?_getD, i3]
          by_cases hm : (s.nodes[i.toNat]).many = 0
          · simp [twoT, i0, i1, i2, i3, e, hm]
          · simp [twoT, i0, i1, i2, i3, e, hm]
            refine go_ok hT ?_
            simp
        · simp [twoT, i1, j1, hij]
      · have hRs : R s := by rcases hR with h | h; exact h; exact absurd rfl h
        simp [twoT, i1, j1, hs, hRs]
end Go.Vm
