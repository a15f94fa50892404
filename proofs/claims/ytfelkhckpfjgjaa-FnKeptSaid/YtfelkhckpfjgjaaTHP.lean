/- Searching numbers by a test. No condition. -/
import Derived.Test.YtfelkhckpfjgjaaTG
import Derived.Test.YtfelkhckpfjgjaaTNX
import Derived.Test.YtfelkhckpfjgjaaTTR
set_option linter.unusedSimpArgs false
set_option linter.unusedVariables false
namespace Go.Vm
open Go.Proofs
end Go.Vm
namespace Go.Vm
open Go.Proofs
def goodC (n : Nat) (l : List Int) : Prop := l.Nodup ∧ ∀ x ∈ l, 0 ≤ x ∧ x < n
theorem goodC_nil (n : Nat) : goodC n [] := ⟨by simp, by simp⟩
theorem goodC_len : ∀ {n : Nat} {l : List Int}, goodC n l → l.length ≤ n
  | 0, l, h => by
    cases l with
    | nil => simp
    | cons x l => have := h.2 x (by simp); omega
  | n + 1, l, h => by
    by_cases hm : (n : Int) ∈ l
    · have h1 := goodC_len (n := n) (l := l.erase n) ⟨h.1.erase _, fun x hx => by
        have h2 := (List.Nodup.mem_erase_iff h.1).1 hx
        have h3 := h.2 x h2.2
        omega⟩
      rw [List.length_erase_of_mem hm] at h1
      omega
    · have h1 := goodC_len (n := n) (l := l) ⟨h.1, fun x hx => by
        have h3 := h.2 x hx
        have : x ≠ n := fun e => hm (e ▸ hx)
        omega⟩
      omega
theorem goodC_add {n : Nat} {l : List Int} {c : Int} (h : goodC n l) (hc : c ∉ l) (h0 : 0 ≤ c) (h1 : c < n) : goodC n (l ++ [c]) := by
  refine ⟨?_, fun x hx => ?_⟩
  · rw [List.nodup_append]
    refine ⟨h.1, by simp, fun a ha b hb => ?_⟩
    rw [List.mem_singleton.1 hb]
    exact fun e => hc (e ▸ ha)
  · rcases List.mem_append.1 hx with hx | hx
    · exact h.2 x hx
    · rw [List.mem_singleton.1 hx]; exact ⟨h0, h1⟩
def follow (nx : List Int) : Nat → List Int → Int → List Int
  | 0, out, _ => out
  | n + 1, out, c => if c = -1 ∨ c ∈ out then out else if 0 ≤ c ∧ c < nx.length then follow nx n (out ++ [c]) (nx.getD c.toNat 0) else []
def followed (nx : List Int) (c : Int) : List Int := follow nx (nx.length + 1) [] c
theorem follow_good {nx : List Int} : ∀ {n : Nat} {out : List Int} {c : Int}, goodC nx.length out → goodC nx.length (follow nx n out c)
  | 0, out, c, h => h
  | n + 1, out, c, h => by
    unfold follow
    split
    · exact h
    · rename_i h1
      split
      · rename_i h2
        exact follow_good (goodC_add h (fun e => h1 (.inr e)) h2.1 h2.2)
      · exact goodC_nil _
theorem followed_good (nx : List Int) (c : Int) : goodC nx.length (followed nx c) := follow_good (goodC_nil _)
theorem follow_stop {nx out : List Int} {c : Int} {n : Nat} (h : c = -1 ∨ c ∈ out) : follow nx (n + 1) out c = out := by unfold follow; rw [if_pos h]
theorem follow_out {nx out : List Int} {c : Int} {n : Nat} (h : ¬ (c = -1 ∨ c ∈ out)) (h2 : ¬ (0 ≤ c ∧ c < nx.length)) : follow nx (n + 1) out c = [] := by unfold follow; rw [if_neg h, if_neg h2]
theorem follow_step {nx out : List Int} {c : Int} {n : Nat} (h : ¬ (c = -1 ∨ c ∈ out)) (h2 : 0 ≤ c ∧ c < nx.length) : follow nx (n + 1) out c = follow nx n (out ++ [c]) (nx.getD c.toNat 0) := by
  rw [follow, if_neg h, if_pos h2]
def addNew (out xs : List Int) : List Int := xs.foldl (fun o x => if x ∈ o then o else o ++ [x]) out
def metTo (nx vs : List Int) : List Int := vs.foldl (fun o c => addNew o (followed nx c)) []
def met (h : Heap) : List Int := metTo h.next h.vars
theorem foldl_take {α β : Type} (f : β → α → β) (a : β) {xs : List α} {i : Nat} (h : i < xs.length) : (xs.take (i + 1)).foldl f a = f ((xs.take i).foldl f a) xs[i] := by
  rw [List.take_succ_eq_append_getElem h, List.foldl_append]; rfl
theorem addNew_good {n : Nat} : ∀ {xs out : List Int}, goodC n out → (∀ x ∈ xs, 0 ≤ x ∧ x < n) → goodC n (addNew out xs)
  | [], out, h, _ => h
  | x :: xs, out, h, hx => by
    unfold addNew
    rw [List.foldl_cons]
    have h0 := hx x (by simp)
    refine addNew_good (xs := xs) ?_ fun y hy => hx y (by simp [hy])
    split
    · exact h
    · rename_i hm; exact goodC_add h hm h0.1 h0.2
theorem metTo_good (nx : List Int) : ∀ vs : List Int, ∀ out, goodC nx.length out → goodC nx.length (vs.foldl (fun o c => addNew o (followed nx c)) out)
  | [], out, h => h
  | v :: vs, out, h => metTo_good nx vs _ (addNew_good h (followed_good nx v).2)
theorem metTo_step {nx vs : List Int} {i : Nat} (h : i < vs.length) : metTo nx (vs.take (i + 1)) = addNew (metTo nx (vs.take i)) (followed nx vs[i]) := foldl_take (fun o c => addNew o (followed nx c)) [] h
def code_spec_Followed : F := ⟨33,[.tmp 4],.seq (.reg [⟨some 2,.box (.t 0),none⟩,⟨some 4,.mov (.k (.sl .nil 0 [])),none⟩]) (.seq (.reg [⟨some 6,.bsl 3 1 0 (.int .i64 0) [],none⟩,⟨some 5,.mov (.t 6),none⟩]) (.seq (.block 0 (.loop (.seq (.seq (.reg [⟨some 7,.mov (.t 1),none⟩,⟨some 8,.bin .neq (.t 7) (.k (.int .i64 (-1))),none⟩,⟨some 9,.mov (.t 8),none⟩,⟨some 10,.mov (.t 5),some (9,true)⟩,⟨some 11,.mov (.t 1),some (9,true)⟩,⟨some 12,.call 50 [.t 10,.t 11],some (9,true)⟩,⟨some 13,.not (.t 12),some (9,true)⟩,⟨some 14,.pick (.t 9) (.t 13) (.k (.bool false)),none⟩]) (.cond (.t 14) (.skip) (.exit 0))) (.block 1 (.seq (.seq (.reg [⟨some 15,.mov (.t 1),none⟩,⟨some 16,.faddr 1 (.t 2),none⟩,⟨some 17,.load 1 false (.t 16),none⟩,⟨some 18,.len (.t 17),none⟩,⟨some 19,.bin .sub (.t 18) (.k (.int .i64 1)),none⟩,⟨some 20,.call 48 [.t 15,(.k (.int .i64 0)),.t 19],none⟩,⟨some 21,.not (.t 20),none⟩]) (.cond (.t 21) (.seq (.reg [⟨some 22,.bsl 3 1 0 (.int .i64 0) [],none⟩,⟨some 4,.mov (.t 22),none⟩]) (.ret)) (.skip))) (.seq (.reg [⟨some 23,.mov (.t 5),none⟩,⟨some 24,.mov (.t 1),none⟩,⟨some 25,.bsl 3 1 1 (.int .i64 0) [(0,.t 24)],none⟩,⟨some 26,.append 3 1 8 (.t 23) (.t 25),none⟩,⟨some 5,.mov (.t 26),none⟩]) (.reg [⟨some 27,.faddr 1 (.t 2),none⟩,⟨some 28,.load 1 false (.t 27),none⟩,⟨some 29,.mov (.t 1),none⟩,⟨some 30,.iaddr 1 (.t 28) (.t 29),none⟩,⟨some 31,.load 1 false (.t 30),none⟩,⟨some 1,.mov (.t 31),none⟩]))))))) (.seq (.reg [⟨some 32,.mov (.t 5),none⟩,⟨some 4,.mov (.t 32),none⟩]) (.ret))))⟩
theorem fok_spec_Followed : FOk Try.prog 96 code_spec_Followed := fok Try.func96 (by kernel_rfl)
def code_spec_l7Order : F := ⟨43,[.tmp 2],.seq (.reg [⟨some 1,.box (.t 0),none⟩,⟨some 2,.mov (.k (.sl .nil 0 [])),none⟩]) (.seq (.reg [⟨some 7,.bsl 3 1 0 (.int .i64 0) [],none⟩,⟨some 3,.mov (.t 7),none⟩]) (.seq (.seq (.reg [⟨some 4,.mov (.k (.int .i64 0)),none⟩]) (.block 0 (.loop (.seq (.seq (.reg [⟨some 8,.mov (.t 4),none⟩,⟨some 9,.faddr 0 (.t 1),none⟩,⟨some 10,.load 1 false (.t 9),none⟩,⟨some 11,.len (.t 10),none⟩,⟨some 12,.bin .lss (.t 8) (.t 11),none⟩]) (.cond (.t 12) (.skip) (.exit 0))) (.seq (.block 1 (.seq (.dreg [false,false,false,false,false,false,true,true] [false,false,false,false,false,false,true,false] [⟨some 15,.load 2 true (.t 1),none⟩,⟨some 16,.faddr 0 (.t 1),none⟩,⟨some 17,.load 1 false (.t 16),none⟩,⟨some 18,.mov (.t 4),none⟩,⟨some 19,.iaddr 1 (.t 17) (.t 18),none⟩,⟨some 20,.load 1 false (.t 19),none⟩,⟨some 21,.call 96 [.t 15,.t 20],none⟩,⟨some 5,.mov (.t 21),none⟩]) (.seq (.reg [⟨some 6,.mov (.k (.int .i64 0)),none⟩]) (.block 2 (.loop (.seq (.seq (.reg [⟨some 22,.mov (.t 6),none⟩,⟨some 23,.mov (.t 5),none⟩,⟨some 24,.len (.t 23),none⟩,⟨some 25,.bin .lss (.t 22) (.t 24),none⟩]) (.cond (.t 25) (.skip) (.exit 2))) (.seq (.block 3 (.seq (.reg [⟨some 28,.mov (.t 3),none⟩,⟨some 29,.mov (.t 5),none⟩,⟨some 30,.mov (.t 6),none⟩,⟨some 31,.iaddr 1 (.t 29) (.t 30),none⟩,⟨some 32,.load 1 false (.t 31),none⟩,⟨some 33,.call 50 [.t 28,.t 32],none⟩,⟨some 34,.not (.t 33),none⟩]) (.cond (.t 34) (.reg [⟨some 35,.mov (.t 3),none⟩,⟨some 36,.mov (.t 5),none⟩,⟨some 37,.mov (.t 6),none⟩,⟨some 38,.iaddr 1 (.t 36) (.t 37),none⟩,⟨some 39,.load 1 false (.t 38),none⟩,⟨some 40,.bsl 3 1 1 (.int .i64 0) [(0,.t 39)],none⟩,⟨some 41,.append 3 1 8 (.t 35) (.t 40),none⟩,⟨some 3,.mov (.t 41),none⟩]) (.skip)))) (.reg [⟨some 26,.mov (.t 6),none⟩,⟨some 27,.bin .add (.t 26) (.k (.int .i64 1)),none⟩,⟨some 6,.mov (.t 27),none⟩])))))))) (.reg [⟨some 13,.mov (.t 4),none⟩,⟨some 14,.bin .add (.t 13) (.k (.int .i64 1)),none⟩,⟨some 4,.mov (.t 14),none⟩])))))) (.seq (.reg [⟨some 42,.mov (.t 3),none⟩,⟨some 2,.mov (.t 42),none⟩]) (.ret))))⟩
theorem fok_spec_l7Order : FOk Try.prog 116 code_spec_l7Order := fok Try.func116 (by kernel_rfl)
@[simp] def ct_sFollowed : Ct := ⟨96, Heap × Int, fun x => x.1.next.length ≤ 1048576, fun x => [encHeap x.1, .int .i64 x.2], fun x => encL 1 encInt (followed x.1.next x.2)⟩
set_option maxHeartbeats 1000000 in
theorem ok_sFollowed : ct_sFollowed.Ok Try.prog := by
  rintro ⟨⟨vs, nx⟩, c0⟩ hx
  change nx.length ≤ 1048576 at hx
  refine Ok.of_cw fok_spec_Followed (go_ok tab_nil ?_)
  simp [code_spec_Followed, List.replicate]
  refine cw_round (fun (p : List Int × Int) => ⟨slots 33 [(1, .int .i64 p.2), (2, .pbox 0 0), (5, .slref 1 0 p.1.length p.1.length)], [.cells [encL 1 encInt vs, encL 1 encInt nx], .row true 3 1 (p.1.map encInt)]⟩)
    (fun p => goodC nx.length p.1 ∧ followed nx c0 = follow nx (nx.length + 1 - p.1.length) p.1 p.2) (fun p => nx.length + 1 - p.1.length) ([], c0) ⟨goodC_nil _, rfl⟩ ?_ ?_
  · exact weak_seal 2 (by omega) (by simp) (by simp [List.replicate])
  · rintro N hN ⟨out, c⟩ ⟨hg, hf⟩
    change goodC nx.length out at hg
    change followed nx c0 = follow nx (nx.length + 1 - out.length) out c at hf
    have hlen := goodC_len hg
    obtain ⟨d, hd⟩ : ∃ d, nx.length + 1 - out.length = d + 1 := ⟨nx.length - out.length, by omega⟩
    rw [hd] at hf
    have hw : IntKind.i64.wrap ((nx.length : Int) - 1) = (nx.length : Int) - 1 := by rw [wrap_i64] <;> omega
    have hb : (out.length + 1) * 8 ≤ 140737488355328 := by omega
    have hol : out.length ≤ 1048576 := by omega
    refine go_ok (tab_cons ok_l7Has (tab_cons ok_l1In tab_nil)) ?_
    by_cases h1 : c = -1
    · rw [follow_stop (.inl h1)] at hf
      simp [List.replicate, h1, hf]
    by_cases h2 : c ∈ out
    · rw [follow_stop (.inr h2)] at hf
      simp [List.replicate, h1, h2, hf, hol]
    have h12 : ¬ (c = -1 ∨ c ∈ out) := by simp [h1, h2]
    by_cases h3 : 0 ≤ c ∧ c < nx.length
    · rw [follow_step h12 h3] at hf
      have h4 : c ≤ (nx.length : Int) - 1 := by omega
      have h5 : c.toNat < nx.length := by omega
      have h6 : ¬ ((nx.length : Int) - 1 < c) := by omega
      simp [List.replicate, h1, h2, h3, h4, h5, h6, hol, hw, hb, app1]
      refine hN (out, c) (out ++ [c], nx[c.toNat]) _ ⟨goodC_add hg h2 h3.1 h3.2, ?_⟩ (by simp; omega) (weak_seal 2 (by omega) ?_ ?_)
      · rw [hf]
        simp [List.getD_eq_getElem?_getD, h5]
        congr 1; omega
      · simp
      · simp [List.replicate]
    · rw [follow_out h12 h3] at hf
      have h4 : ¬ (0 ≤ c ∧ c ≤ (nx.length : Int) - 1) := by omega
      simp [List.replicate, h1, h2, hol, hw, hf]
      exact fun a b => absurd ⟨a, b⟩ h4
@[simp] def ct_l7Order : Ct := ⟨116, Heap, fun x => szHeap x ≤ 1048576, fun x => [encHeap x], fun x => encL 1 encInt (met x)⟩
set_option maxHeartbeats 2000000 in
theorem ok_l7Order : ct_l7Order.Ok Try.prog := by
  rintro ⟨vs, nx⟩ hx
  change vs.length + nx.length ≤ 1048576 at hx
  refine Ok.of_cw fok_spec_l7Order (go_ok tab_nil ?_)
  simp [code_spec_l7Order, List.replicate]
  refine cw_round (fun (p : Nat × List Int) => ⟨slots 43 [(1, .pbox 0 0), (3, .slref 1 0 p.2.length p.2.length), (4, .int .i64 p.1)], [.cells [encL 1 encInt vs, encL 1 encInt nx], .row true 3 1 (p.2.map encInt)]⟩)
    (fun p => p.1 ≤ vs.length ∧ goodC nx.length p.2 ∧ p.2 = metTo nx (vs.take p.1)) (fun p => vs.length - p.1) (0, []) ⟨by simp, goodC_nil _, rfl⟩ ?_ ?_
  · exact weak_seal 2 (by omega) (by simp) (by simp [List.replicate])
  · rintro N hN ⟨i, out⟩ ⟨hi, hg, hm⟩
    change i ≤ vs.length at hi
    change goodC nx.length out at hg
    change out = metTo nx (vs.take i) at hm
    have hw : IntKind.i64.wrap ((i : Int) + 1) = ((i + 1 : Nat) : Int) := by rw [wrap_i64] <;> omega
    refine go_ok (tab_cons ok_sFollowed tab_nil) ?_
    by_cases h : i < vs.length
    · have hnx : nx.length ≤ 1048576 := by omega
      have h2 : ¬ vs.length ≤ i := by omega
      simp [List.replicate, hw, h, h2, hnx]
      have hfg := followed_good nx vs[i]
      generalize hL : followed nx vs[i] = L at *
      have hLl := goodC_len hfg
      refine cw_round (fun (p : Nat × List Int) => ⟨slots 43 [(1, .pbox 0 0), (3, .slref 1 0 p.2.length p.2.length), (4, .int .i64 i), (5, encL 1 encInt L), (6, .int .i64 p.1)], [.cells [encL 1 encInt vs, encL 1 encInt nx], .row true 3 1 (p.2.map encInt)]⟩)
        (fun p => p.1 ≤ L.length ∧ goodC nx.length p.2 ∧ p.2 = addNew out (L.take p.1)) (fun p => L.length - p.1) (0, out) ⟨by simp, hg, rfl⟩ ?_ ?_
      · exact weak_seal 2 (by omega) (by simp) (by simp [List.replicate])
      · rintro M hM ⟨j, o⟩ ⟨hj, ho, hq⟩
        change j ≤ L.length at hj
        change goodC nx.length o at ho
        change o = addNew out (L.take j) at hq
        have hjw : IntKind.i64.wrap ((j : Int) + 1) = ((j + 1 : Nat) : Int) := by rw [wrap_i64] <;> omega
        have hol := goodC_len ho
        have hol2 : o.length ≤ 1048576 := by omega
        have hb : (o.length + 1) * 8 ≤ 140737488355328 := by omega
        refine go_ok (tab_cons ok_l7Has tab_nil) ?_
        by_cases k : j < L.length
        · have k2 : ¬ L.length ≤ j := by omega
          have hx := hfg.2 _ (List.getElem_mem k)
          have hs : addNew out (L.take (j + 1)) = if L[j] ∈ o then o else o ++ [L[j]] := by
            rw [hq]; exact foldl_take _ _ k
          by_cases hmem : L[j] ∈ o
          · rw [if_pos hmem] at hs
            simp [List.replicate, hjw, k, k2, hmem, hol2]
            refine hM (j, o) (j + 1, o) _ ⟨by simp; omega, ho, hs.symm⟩ (by simp; omega) (weak_seal 2 (by omega) ?_ ?_)
            · simp
            · simp [List.replicate]
          · rw [if_neg hmem] at hs
            simp [List.replicate, hjw, k, k2, hmem, hol2, hb, app1]
            refine hM (j, o) (j + 1, o ++ [L[j]]) _ ⟨by simp; omega, goodC_add ho hmem hx.1 hx.2, hs.symm⟩ (by simp; omega) (weak_seal 2 (by omega) ?_ ?_)
            · simp
            · simp [List.replicate]
        · have e : j = L.length := by omega
          subst e
          simp [List.replicate, hw]
          refine hN (i, out) (i + 1, o) _ ⟨by simp; omega, ho, ?_⟩ (by simp; omega) (weak_seal 2 (by omega) ?_ ?_)
          · rw [hq, List.take_length, hm, ← hL]
            exact (metTo_step h).symm
          · simp
          · simp [List.replicate]
    · have e : i = vs.length := by omega
      subst e
      simp [List.replicate]
      rw [hm, List.take_length]
      rfl
end Go.Vm
