/- FindEmbedding and IsEmbedded of the program. No condition. -/
import Derived.Test.YtfelkhckpfjgjaaTFF
import Derived.Test.YtfelkhckpfjgjaaTG
set_option linter.unusedSimpArgs false
set_option linter.unusedVariables false
namespace Go.Vm
open Go.Proofs
@[simp high] theorem callvK_hit {P : Go.Program} {c : CtH} {cs : List CtH} {S : List Ct} {H : List Blk} {K : AV → List Blk → Prop} {f : Nat} {caps vs : List AV} (h : c.f = f) : callvK P ⟨S, c :: cs⟩ (.fn f caps) vs H K = (callable P f = true ∧ ∃ x, vs ++ caps = c.args x ∧ c.pre x H ∧ K (c.res x H) (c.heap x H)) := by
  simp only [callvK, tabH, h, if_true]
theorem findE_len {s t : Strc} {out : List Int} (h : embed s t = some out) : out.length = s.nodes.length := by
  have := (findE_pre h).1
  simpa using this
def embV (s t : Strc) : AV := match embed s t with
  | some out => .tup [fav0 s t 3 s.nodes.length, .bool true]
  | none => .tup [.sl .nil 0 [], .bool false]
def embH (s t : Strc) : List Blk := match embed s t with
  | some out => [.dead, .dead, .dead] ++ rowsE s.nodes.length 0 out
  | none => []
@[simp] def ct_pFindEmb : CtN := ⟨9, Strc × Strc, fun x => szStrc x.1 ≤ 1048576 ∧ szStrc x.2 ≤ 1048576, fun x => [encStrc x.1, encStrc x.2], fun x => embV x.1 x.2, fun x => embH x.1 x.2⟩
theorem fav0_eq {s t : Strc} {out : List Int} (h : embed s t = some out) (b : Nat) : fav0 s t b s.nodes.length = if s.nodes.length = 0 then .sl .nil 0 [] else .slref (if s.nodes.length = 1 then b + 1 else b + 2 * (s.nodes.length - 1)) 0 out.length out.length := by
  unfold embed at h
  cases hn : s.nodes.length with
  | zero => simp [fav0]
  | succ n => rw [hn] at h; simp [fav0, h]
theorem fheapE_eq {s t : Strc} {out : List Int} (h : embed s t = some out) : fheapE s t s.nodes.length [] = rowsE s.nodes.length 0 out := by
  unfold embed at h
  cases hn : s.nodes.length with
  | zero => simp [fheapE, rowsE]
  | succ n => rw [hn] at h; simp [fheapE, h]
theorem fheapE_none {s t : Strc} (h : embed s t = none) : fheapE s t s.nodes.length [] = [] := by
  unfold embed at h
  cases hn : s.nodes.length with
  | zero => simp [fheapE]
  | succ n => rw [hn] at h; simp [fheapE, h]
set_option maxHeartbeats 2000000 in
theorem ok_pFindEmb : ct_pFindEmb.Ok Try.prog := by
  refine ⟨?_, ?_, ?_⟩
  · rintro ⟨s, t⟩ ⟨hs, ht⟩
    change szStrc s ≤ 1048576 at hs
    change szStrc t ≤ 1048576 at ht
    have hc : callable Try.prog 40 = true := by kernel_rfl
    have hm : memE s t 0 1 2 [.cells [encL 4 encNode s.nodes, encL 1 encInt s.next], .cells [encL 4 encNode t.nodes, encL 1 encInt t.next], .cells [.fn 40 [.pbox 0 0, .pbox 1 0, .pbox 2 0]]] := ⟨rfl, rfl, rfl⟩
    refine OkH.of_cw fok_impl_FindEmbedding (go_ok (tab_h (ok_find0 s t 0 1 2 s.nodes.length) tab_nil) ?_)
    cases r : embed s t with
    | some out =>
      have hr := fresE_some r
      have hl := findE_len r
      have hV : ∀ H2, SlV (3 + 2 * s.nodes.length) H2 (fav0 s t 3 s.nodes.length) (fav0 s t 3 s.nodes.length) := by
        intro H2
        rw [fav0_eq r]
        split
        · simp
        · rename_i h0
          split
          · refine .inr (.inl ⟨rfl, ?_⟩); simp [belowC, belowR]; omega
          · refine .inr (.inl ⟨rfl, ?_⟩); simp [belowC, belowR]; omega
      have hT : ∀ ys, fav0 s t 3 s.nodes.length ≠ .tup ys := by
        intro ys
        rw [fav0_eq r]
        split
        · simp
        · split <;> simp
      simp [code_impl_FindEmbedding, List.replicate, hc, hs, ht, hm, hr, fheapE_eq r, capOk, AV.isFn]
      refine ⟨⟨[.undef, .undef, .undef, .undef, fav0 s t 3 s.nodes.length, .bool true, .undef, .undef, .undef, .undef, .undef, .undef, .undef, .undef, .undef, .undef, .undef, .undef], [.dead, .dead, .dead] ++ rowsE s.nodes.length 0 out⟩, weak_seal (3 + 2 * s.nodes.length) (by omega) ?_ ?_, ?_⟩
      · rw [List.take_of_length_le (by simp [rowsE_len]; omega)]
        exact .cons (by simp) (.cons (by simp) (.cons (by simp) (rowsE_sl _ _ _)))
      · simp [hV]
      · simp [retH, embV, embH, r, hT]
    | none =>
      have hr := fresE_none r
      simp [code_impl_FindEmbedding, List.replicate, hc, hs, ht, hm, hr, fheapE_none r, capOk, AV.isFn]
      refine ⟨⟨[.undef, .undef, .undef, .undef, .sl .nil 0 [], .bool false, .undef, .undef, .undef, .undef, .undef, .undef, .undef, .undef, .undef, .undef, .undef, .undef], []⟩, weak_seal 0 (by omega) (by simp) (by simp), ?_⟩
      simp [retH, embV, embH, r]
  · rintro ⟨s, t⟩ -
    simp only [ct_pFindEmb, embV]
    cases r : embed s t with
    | some out => simp only [fav0_eq r]; split <;> simp [ownV, ownVL]
    | none => simp [ownV, ownVL]
  · rintro ⟨s, t⟩ -
    simp only [ct_pFindEmb, embH]
    cases r : embed s t with
    | some out =>
      intro k hk
      simp only [List.cons_append, List.nil_append, List.mem_cons] at hk
      rcases hk with rfl | rfl | rfl | hk
      · rfl
      · rfl
      · rfl
      · exact rowsE_own _ _ _ k hk
    | none => simp
@[simp] def ct_pFindEmbP : Ct := ⟨9, Strc × Strc, fun x => szStrc x.1 ≤ 1048576 ∧ szStrc x.2 ≤ 1048576, fun x => [encStrc x.1, encStrc x.2], fun x => .tup [encL 1 encInt ((embed x.1 x.2).getD []), .bool (embed x.1 x.2).isSome]⟩
theorem ok_pFindEmbP : ct_pFindEmbP.Ok Try.prog := by
  rintro ⟨s, t⟩ hp
  have h0 := ok_pFindEmb.ok (s, t) hp
  cases r : embed s t with
  | none =>
    rw [show ct_pFindEmb.res (s, t) = .tup [.sl .nil 0 [], .bool false] from by simp [embV, r]] at h0
    refine Ok.of_okHT h0 ?_
    simp [r]
  | some out =>
    have hl := findE_len r
    rw [show ct_pFindEmb.res (s, t) = .tup [fav0 s t 3 s.nodes.length, .bool true] from by simp [embV, r]] at h0
    refine Ok.of_okHT h0 ?_
    rw [fav0_eq r]
    have hn : ct_pFindEmb.new (s, t) = .dead :: .dead :: .dead :: rowsE s.nodes.length 0 out := by simp [embH, r]
    rw [hn]
    cases q : s.nodes.length with
    | zero =>
      have : out = [] := List.eq_nil_of_length_eq_zero (by omega)
      subst this
      simp [r]
    | succ n =>
      have hn1 : ∀ i, (Blk.dead :: .dead :: .dead :: rowsE (n + 1) 0 out)[3 + i]? = (rowsE (n + 1) 0 out)[i]? := fun i => by
        rw [show 3 + i = i + 1 + 1 + 1 by omega]; rfl
      have g1 := rowsE_get n 0 out
      rw [List.take_of_length_le (by omega)] at g1
      by_cases h1 : n = 0
      · subst h1
        have e1 : out.length = 1 := by omega
        obtain ⟨v, rfl⟩ : ∃ v, out = [v] := List.length_eq_one_iff.1 e1
        simp [r, rowsE]; rfl
      · have h2 : ¬ n + 1 = 1 := by omega
        have g2 := hn1 (2 * n)
        rw [g1] at g2
        simp [r, h1, h2, g2]
end Go.Vm
namespace Go.Vm
open Go.Proofs
end Go.Vm
