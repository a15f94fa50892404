/- What formulas come to: in definite structures; in structures that are embedded. Plain; no condition. -/
import Derived.Test.YtfelkhckpfjgjaaTKMb
import Derived.Test.YtfelkhckpfjgjaaTPT
import Derived.Test.YtfelkhckpfjgjaaTWL
set_option linter.unusedSimpArgs false
set_option linter.unusedVariables false
namespace Go.Vm
open Go.Proofs
theorem formB_parts {v kind k u w : Int} {l : List Fm} (h : formB v (.mk kind k u w l) = true) : (∀ x ∈ l, formB v x = true) ∧ (0 ≤ u ∧ u ≤ 3) ∧ (0 ≤ w ∧ w ≤ 3) ∧ arity kind = l.length ∧ ((kind = 2 ∨ kind = 3) → 0 ≤ k ∧ k < v) := by
  unfold formB headB at h
  simp only [Bool.and_eq_true, decide_eq_true_eq, Bool.not_eq_true', Bool.or_eq_false_iff, in3_iff] at h
  obtain ⟨h1, ⟨⟨⟨h2, h3⟩, h4⟩, h5⟩, ⟨h6, h7⟩, h8⟩ := h
  refine ⟨formS_iff.1 h1, h6, h7, h8.symm, fun hk => ?_⟩
  have e : (decide (kind = 2) || decide (kind = 3)) = true := by simpa using hk
  rw [e, Bool.true_and] at h5
  simp at h5
  omega
theorem over_max {g : Nat → Int} : ∀ {n : Nat}, (∀ j, j < n → isTruth (g j) = true) → (∀ j, j < n → g j ≤ overT false n g) ∧ (overT false n g = 0 ∨ ∃ j, j < n ∧ g j = overT false n g)
  | 0, _ => ⟨fun j hj => by omega, .inl rfl⟩
  | n + 1, h => by
    obtain ⟨h1, h2⟩ := over_max (g := g) (n := n) fun j hj => h j (by omega)
    have ht := overT_truth false n g
    have hg := h n (by omega)
    rw [isTruth_iff] at ht hg
    have e : overT false (n + 1) g = if overT false n g ≤ g n then g n else overT false n g := by
      rw [overT_succ]
      unfold overOp orT
      simp [isTruth_iff, ht, hg]
    rw [e]
    refine ⟨fun j hj => ?_, ?_⟩
    · by_cases q : j = n
      · subst q; split <;> omega
      · have := h1 j (by omega); split <;> omega
    · split
      · exact .inr ⟨n, by omega, rfl⟩
      · rcases h2 with h2 | ⟨j, hj, h2⟩
        · exact .inl h2
        · exact .inr ⟨j, by omega, h2⟩
theorem over_min {g : Nat → Int} : ∀ {n : Nat}, (∀ j, j < n → isTruth (g j) = true) → (∀ j, j < n → overT true n g ≤ g j) ∧ (overT true n g = 2 ∨ ∃ j, j < n ∧ g j = overT true n g)
  | 0, _ => ⟨fun j hj => by omega, .inl rfl⟩
  | n + 1, h => by
    obtain ⟨h1, h2⟩ := over_min (g := g) (n := n) fun j hj => h j (by omega)
    have ht := overT_truth true n g
    have hg := h n (by omega)
    rw [isTruth_iff] at ht hg
    have e : overT true (n + 1) g = if overT true n g ≤ g n then overT true n g else g n := by
      rw [overT_succ]
      unfold overOp andT
      simp [isTruth_iff, ht, hg]
    rw [e]
    refine ⟨fun j hj => ?_, ?_⟩
    · by_cases q : j = n
      · subst q; split <;> omega
      · have := h1 j (by omega); split <;> omega
    · split
      · rcases h2 with h2 | ⟨j, hj, h2⟩
        · exact .inl h2
        · exact .inr ⟨j, by omega, h2⟩
      · exact .inr ⟨n, by omega, rfl⟩
theorem pad4_four {l : List Int} (h : l.length = 4) : pad4 l = l := by
  unfold pad4
  rw [List.take_of_length_le (by omega), h]; simp
theorem nodeI_nat' {s : Strc} {i : Nat} (h : i < s.nodes.length) : nodeI s (i : Int) = s.nodes[i] := by simp [nodeI, List.getD_eq_getElem?_getD, h]
theorem structB_len {v : Int} {s : Strc} (h : structB v s = true) : s.nodes.length ≤ 10 ∧ s.next.length = s.nodes.length * s.nodes.length := by
  unfold structB at h
  simp only [Bool.and_eq_true, decide_eq_true_eq] at h
  obtain ⟨⟨⟨⟨-, h3⟩, h4⟩, -⟩, -⟩ := h
  exact ⟨by omega, by exact_mod_cast h4⟩
theorem nextOf_in {s : Strc} {v : Int} (h : structB v s = true) {i j : Nat} (hi : i < s.nodes.length) (hj : j < s.nodes.length) : nextOf s i j ∈ s.next := by
  obtain ⟨-, h3⟩ := structB_len h
  unfold nextOf
  rw [if_pos ⟨⟨by omega, by omega⟩, ⟨by omega, by omega⟩, by rw [h3]; simp⟩]
  have e2 : ((i : Int) * s.nodes.length + j).toNat = i * s.nodes.length + j := by
    rw [show ((i : Int) * s.nodes.length + j) = ((i * s.nodes.length + j : Nat) : Int) by simp, Int.toNat_natCast]
  have hlt : i * s.nodes.length + j < s.next.length := by
    rw [h3]
    have : (i + 1) * s.nodes.length ≤ s.nodes.length * s.nodes.length := Nat.mul_le_mul_right _ hi
    rw [Nat.add_mul] at this; omega
  rw [e2, List.getD_eq_getElem?_getD, List.getElem?_eq_getElem hlt]
  exact List.getElem_mem hlt
theorem def_node {s : Strc} (hd : isDef s = true) {i : Nat} (hi : i < s.nodes.length) : 1 ∉ s.next ∧ s.nodes[i].shared ≠ 1 ∧ s.nodes[i].many ≠ 1 ∧ 1 ∉ s.nodes[i].vars ∧ 1 ∉ s.nodes[i].reach := by
  unfold isDef at hd
  simp only [Bool.and_eq_true, Bool.not_eq_true', List.any_eq_false, decide_eq_false_iff_not] at hd
  obtain ⟨d1, d2⟩ := hd
  have := d2 _ (List.getElem_mem hi)
  simp only [halfN, Bool.or_eq_true, beq_iff_eq, decide_eq_true_eq, not_or] at this
  exact ⟨d1, this.1.1.1, this.1.1.2, this.1.2, this.2⟩
theorem at1_mem {l : List Int} {k : Int} (h0 : 0 ≤ k) (h1 : k < l.length) : at1 l k ∈ l := by
  unfold at1
  rw [if_pos ⟨h0, h1⟩]
  have : k.toNat < l.length := by omega
  rw [List.getD_eq_getElem?_getD, List.getElem?_eq_getElem this]
  exact List.getElem_mem this
theorem edge_up {v : Int} {s : Strc} (hs : structB v s = true) (h1 : 1 ∉ s.next) {i j : Nat} (h : Rch (edgeG s 1) i j) : Rch (edgeG s 2) i j := by
  have up : ∀ x y, edgeG s 1 x y → edgeG s 2 x y := fun x y ⟨a, b, c⟩ => by
    refine ⟨a, b, ?_⟩
    have hm := nextOf_in hs a b
    have ht := structB_truth hs _ hm
    rw [isTruth_iff] at ht
    have : nextOf s x y ≠ 1 := fun e => h1 (e ▸ hm)
    omega
  induction h with
  | one g => exact .one (up _ _ g)
  | more _ g ih => exact .more ih (up _ _ g)
theorem path_def {v : Int} {s : Strc} (hs : structB v s = true) (hd : isDef s = true) {i j : Nat} (hi : i < s.nodes.length) (hj : j < s.nodes.length) : pathT s i j ≠ 1 := by
  obtain ⟨d1, d2, d3, d4, d5⟩ := def_node hd hi
  obtain ⟨-, -, -, m1, m2⟩ := structB_node hs hi
  have hsame : sameT s (i : Int) = 2 := by
    unfold sameT
    rw [show ((i : Int)).toNat = i by omega, nodes_getD hi, if_pos (by omega)]
  unfold pathT
  rw [if_pos ⟨⟨by omega, by omega⟩, ⟨by omega, by omega⟩⟩, hsame]
  simp only [Int.toNat_natCast]
  by_cases g : rchB s 2 i j = true
  · rw [if_pos g]; omega
  rw [if_neg g]
  by_cases e : (i : Int) = j
  · rw [if_pos ⟨e, trivial⟩]; omega
  · rw [if_neg (fun h => e h.1), if_neg (fun h => g (by rw [rchB_iff] at h ⊢; exact edge_up hs d1 h)), if_neg e]; omega
def goodN (s : Strc) (nodes : List Int) : Prop := nodes.length = 4 ∧ ∀ x ∈ nodes, ∃ i : Nat, x = i ∧ i < s.nodes.length
theorem good_at {s : Strc} {nodes : List Int} (h : goodN s nodes) {u : Int} (hu : 0 ≤ u ∧ u ≤ 3) : ∃ i : Nat, nodeOf s nodes u = i ∧ i < s.nodes.length := by
  obtain ⟨h1, h2⟩ := h
  have hl : u.toNat < nodes.length := by omega
  obtain ⟨i, e, hi⟩ := h2 _ (List.getElem_mem hl)
  refine ⟨i, ?_, hi⟩
  unfold nodeOf
  have e2 : nodes.getD u.toNat 0 = i := by rw [List.getD_eq_getElem?_getD, List.getElem?_eq_getElem hl]; exact e
  rw [e2, if_pos ⟨hu.1, hu.2, by omega, ⟨by omega, by omega⟩⟩]
theorem notT3_def {a : Int} (h : isTruth a = true) (h1 : a ≠ 1) : notT3 a ≠ 1 := by
  unfold notT3; rw [if_pos h]; omega
theorem andT_def {a b : Int} (ha : isTruth a = true) (hb : isTruth b = true) (h1 : a ≠ 1) (h2 : b ≠ 1) : andT a b ≠ 1 := by
  unfold andT; rw [ha, hb]; simp only [Bool.and_self, if_true]; split <;> assumption
theorem orT_def {a b : Int} (ha : isTruth a = true) (hb : isTruth b = true) (h1 : a ≠ 1) (h2 : b ≠ 1) : orT a b ≠ 1 := by
  unfold orT; rw [ha, hb]; simp only [Bool.and_self, if_true]; split <;> assumption
theorem known_def {a : Int} (h : isTruth a = true) (h1 : a ≠ 1) : knownT a ≠ 1 := by unfold knownT; rw [if_pos h]; exact h1
theorem evalN_succ (s : Strc) (n : Nat) (f : Fm) (nodes : List Int) : evalN s (n + 1) f nodes =
    if arity f.kind = f.args.length then
      if f.kind = 8 then notT3 (evalN s n (fget f 0) nodes)
      else if f.kind = 9 then andT (evalN s n (fget f 0) nodes) (evalN s n (fget f 1) nodes)
      else if f.kind = 10 then orT (evalN s n (fget f 0) nodes) (evalN s n (fget f 1) nodes)
      else if f.kind = 11 ∨ f.kind = 12 then
        if 0 ≤ f.u ∧ f.u ≤ 3 then overT (decide (f.kind = 12)) s.nodes.length (fun i => evalN s n (fget f 0) ((pad4 nodes).set f.u.toNat (i : Nat))) else 1
      else plainT s f (nodeOf s nodes f.u) (nodeOf s nodes f.v)
    else 1 := rfl
theorem eval_def {v : Int} {s : Strc} (hs : structB v s = true) (hd : isDef s = true) : ∀ (m : Nat) (f : Fm) (nodes : List Int), f.size ≤ m → formB v f = true → goodN s nodes → evalN s m f nodes ≠ 1
  | 0, f, _, h, _, _ => by rw [size_eq] at h; omega
  | m + 1, .mk kind k u w l, nodes, h, hf, hg => by
    obtain ⟨f1, f2, f3, f4, f5⟩ := formB_parts hf
    have hsz : sizes l ≤ m := by simp only [Fm.size] at h; omega
    have sub : ∀ j (hj : j < l.length) ns, goodN s ns → evalN s m l[j] ns ≠ 1 := fun j hj ns hns => eval_def hs hd m l[j] ns (by have := size_mem (xs := l) hj; omega) (f1 _ (List.getElem_mem hj)) hns
    have fg : ∀ j (hj : j < l.length), fget (.mk kind k u w l) j = l[j] := fun j hj => by simp [fget, List.getD_eq_getElem?_getD, hj]
    rw [evalN_succ s m (.mk kind k u w l) nodes]
    have f4' : arity (Fm.mk kind k u w l).kind = (Fm.mk kind k u w l).args.length := f4
    rw [if_pos f4']
    change (if kind = 8 then _ else if kind = 9 then _ else if kind = 10 then _ else if kind = 11 ∨ kind = 12 then (if 0 ≤ u ∧ u ≤ 3 then overT (decide (kind = 12)) s.nodes.length (fun i => evalN s m (fget (.mk kind k u w l) 0) ((pad4 nodes).set u.toNat (i : Nat))) else 1) else plainT s (.mk kind k u w l) (nodeOf s nodes u) (nodeOf s nodes w)) ≠ 1
    rcases arity_cases f4 with ⟨a1, a2, a3⟩ | ⟨rfl, a3⟩ | ⟨rfl, a3⟩ | ⟨rfl, a3⟩ | ⟨rfl, a3⟩ | ⟨rfl, a3⟩
    · rw [if_neg (by omega), if_neg (by omega), if_neg (by omega), if_neg (by omega)]
      obtain ⟨i, e1, hi⟩ := good_at hg f2
      obtain ⟨j, e2, hj⟩ := good_at hg f3
      rw [e1, e2]
      obtain ⟨d1, d2, d3, d4, d5⟩ := def_node hd hi
      obtain ⟨⟨b1, b2⟩, ⟨b3, b4⟩, b5, b6, b7⟩ := structB_node hs hi
      change (if kind = 1 then (2 : Int) else if kind ≤ 4 then knownT (oneT s (.mk kind k u w l) i) else knownT (twoT s (.mk kind k u w l) i j)) ≠ 1
      by_cases k1 : kind = 1
      · rw [if_pos k1]; omega
      rw [if_neg k1]
      have i0 : ¬ (i : Int) < 0 := by omega
      have j0 : ¬ (j : Int) < 0 := by omega
      by_cases k4 : kind ≤ 4
      · rw [if_pos k4]
        change knownT (if (i : Int) < 0 then 1 else if kind = 2 then at1 (nodeI s i).vars k else if kind = 3 then at1 (nodeI s i).reach k else (nodeI s i).shared) ≠ 1
        rw [if_neg i0, nodeI_nat' hi]
        by_cases k2 : kind = 2
        · rw [if_pos k2]
          have hm := at1_mem (l := s.nodes[i].vars) (k := k) (by have := f5 (.inl k2); omega) (by have := f5 (.inl k2); omega)
          exact known_def (b3 _ hm) fun e => d4 (e ▸ hm)
        rw [if_neg k2]
        by_cases k3 : kind = 3
        · rw [if_pos k3]
          have hm := at1_mem (l := s.nodes[i].reach) (k := k) (by have := f5 (.inr k3); omega) (by have := f5 (.inr k3); omega)
          exact known_def (b4 _ hm) fun e => d5 (e ▸ hm)
        rw [if_neg k3]
        exact known_def b5 d2
      · rw [if_neg k4]
        change knownT (if (i : Int) < 0 ∨ (j : Int) < 0 then 1 else if kind = 5 then nextOf s i j else if kind = 7 then pathT s i j else if (i : Int) = j then sameT s i else 0) ≠ 1
        rw [if_neg (by omega)]
        by_cases k5 : kind = 5
        · rw [if_pos k5]
          have hm := nextOf_in hs hi hj
          exact known_def (structB_truth hs _ hm) fun e => d1 (e ▸ hm)
        rw [if_neg k5]
        by_cases k7 : kind = 7
        · rw [if_pos k7]
          exact known_def (pathT_truth _ _ _) (path_def hs hd hi hj)
        rw [if_neg k7]
        split
        · have hsame : sameT s (i : Int) = 2 := by
            unfold sameT
            rw [show ((i : Int)).toNat = i by omega, nodes_getD hi, if_pos (by omega)]
          rw [hsame]; decide
        · decide
    · rw [if_pos rfl, fg 0 (by omega)]
      exact notT3_def (evalN_truth _ _ _ _) (sub 0 (by omega) _ hg)
    · rw [if_neg (by omega), if_pos rfl, fg 0 (by omega), fg 1 (by omega)]
      exact andT_def (evalN_truth _ _ _ _) (evalN_truth _ _ _ _) (sub 0 (by omega) _ hg) (sub 1 (by omega) _ hg)
    · rw [if_neg (by omega), if_neg (by omega), if_pos rfl, fg 0 (by omega), fg 1 (by omega)]
      exact orT_def (evalN_truth _ _ _ _) (evalN_truth _ _ _ _) (sub 0 (by omega) _ hg) (sub 1 (by omega) _ hg)
    all_goals
      rw [if_neg (by omega), if_neg (by omega), if_neg (by omega), if_pos (by omega), if_pos f2, fg 0 (by omega), pad4_four hg.1]
      have hgs : ∀ i : Nat, i < s.nodes.length → goodN s (nodes.set u.toNat (i : Int)) := fun i hi => by
        refine ⟨by simpa using hg.1, fun x hx => ?_⟩
        rcases List.mem_or_eq_of_mem_set hx with hx | rfl
        · exact hg.2 x hx
        · exact ⟨i, rfl, hi⟩
    · have e12 : decide ((11 : Int) = 12) = false := rfl
      rw [e12]
      rcases (over_max (n := s.nodes.length) (g := fun i => evalN s m l[0] (nodes.set u.toNat (i : Nat))) fun j _ => evalN_truth _ _ _ _).2 with e | ⟨j, hj, e⟩
      · rw [e]; omega
      · rw [← e]; exact sub 0 (by omega) _ (hgs j hj)
    · have e12 : decide ((12 : Int) = 12) = true := rfl
      rw [e12]
      rcases (over_min (n := s.nodes.length) (g := fun i => evalN s m l[0] (nodes.set u.toNat (i : Nat))) fun j _ => evalN_truth _ _ _ _).2 with e | ⟨j, hj, e⟩
      · rw [e]; omega
      · rw [← e]; exact sub 0 (by omega) _ (hgs j hj)
theorem path_step {s : Strc} (hx : truthS s) {i j k : Nat} (hi : i < s.nodes.length) (hj : j < s.nodes.length) (hk : k < s.nodes.length) : andT (pathT s i j) (nextOf s j k) ≤ pathT s i k := by
  have t1 := pathT_truth s i j
  have t2 := nextOf_truth hx j k
  have t3 := pathT_truth s i k
  have hA : andT (pathT s i j) (nextOf s j k) = if pathT s i j ≤ nextOf s j k then pathT s i j else nextOf s j k := by unfold andT; rw [t1, t2]; simp
  rw [hA]
  rw [isTruth_iff] at t1 t2 t3
  have r2 : pathT s i j = 2 → Rch (edgeG s 2) i j ∨ (i = j ∧ sameT s i = 2) := fun h => by
    unfold pathT at h
    rw [if_pos ⟨⟨by omega, by omega⟩, ⟨by omega, by omega⟩⟩] at h
    simp only [Int.toNat_natCast] at h
    by_cases g : rchB s 2 i j = true
    · rw [rchB_iff] at g; exact .inl g
    rw [if_neg g] at h
    by_cases e : (i : Int) = j ∧ sameT s i = 2
    · exact .inr ⟨by omega, e.2⟩
    rw [if_neg e] at h
    (repeat' split at h) <;> omega
  have r1 : 1 ≤ pathT s i j → Rch (edgeG s 1) i j ∨ i = j := fun h => by
    unfold pathT at h
    rw [if_pos ⟨⟨by omega, by omega⟩, ⟨by omega, by omega⟩⟩] at h
    simp only [Int.toNat_natCast] at h
    by_cases g : rchB s 2 i j = true
    · rw [rchB_iff] at g; exact .inl (rch_mono (by omega) g)
    rw [if_neg g] at h
    by_cases e : (i : Int) = j
    · exact .inr (by omega)
    rw [if_neg (fun q => e q.1)] at h
    by_cases g1 : rchB s 1 i j = true
    · rw [rchB_iff] at g1; exact .inl g1
    rw [if_neg g1, if_neg e] at h; omega
  have w2 : Rch (edgeG s 2) i k → pathT s i k = 2 := fun h => by
    unfold pathT
    rw [if_pos ⟨⟨by omega, by omega⟩, ⟨by omega, by omega⟩⟩]
    simp only [Int.toNat_natCast]
    rw [if_pos (by rw [rchB_iff]; exact h)]
  have w1 : Rch (edgeG s 1) i k → 1 ≤ pathT s i k := fun h => by
    unfold pathT
    rw [if_pos ⟨⟨by omega, by omega⟩, ⟨by omega, by omega⟩⟩]
    simp only [Int.toNat_natCast]
    split
    · omega
    split
    · omega
    rw [if_pos (by rw [rchB_iff]; exact h)]; omega
  by_cases q2 : nextOf s j k = 2 ∧ pathT s i j = 2
  · have e : edgeG s 2 j k := ⟨hj, hk, by omega⟩
    have : pathT s i k = 2 := by
      rcases r2 q2.2 with g | ⟨rfl, -⟩
      · exact w2 (.more g e)
      · exact w2 (.one e)
    split <;> omega
  by_cases q1 : 1 ≤ nextOf s j k ∧ 1 ≤ pathT s i j
  · have e : edgeG s 1 j k := ⟨hj, hk, q1.1⟩
    have : 1 ≤ pathT s i k := by
      rcases r1 q1.2 with g | rfl
      · exact w1 (.more g e)
      · exact w1 (.one e)
    split <;> omega
  · split <;> omega
end Go.Vm
namespace Go.Vm
open Go.Proofs
def copyR (H : List Blk) (K : AV → List Blk → Prop) (b off n tot : Nat) (xs : List AV) : Option Blk → Prop
  | some (.row true e2 1 els) => els.length = tot ∧ off + n ≤ tot ∧ K (.int .i64 (Min.min xs.length n : Nat)) (H.set b (.row true e2 1 (els.take off ++ xs.take n ++ els.drop (off + Min.min xs.length n))))
  | _ => False
def copyK (H : List Blk) (K : AV → List Blk → Prop) (v : AV) (xs : List AV) : Prop := match v with
  | .slref b off n tot => copyR H K b off n tot xs H[b]?
  | _ => False
theorem copyK_stepK {P : Go.Program} {T : Tab} {t : List AV} {H : List Blk} {d s : Opd} {K : AV → List Blk → Prop} : stepK P T t H (.copy d s) K = ∃ xs, elsOf H 1 (s.ev t) = some xs ∧ copyK H K (d.ev t) xs := by
  simp only [stepK, O.eval]
  cases hs : elsOf H 1 (s.ev t) with
  | none => cases d.ev t <;> simp [evK]
  | some xs =>
    cases d.ev t with
    | slref b off n tot =>
      simp only [copyK, copyR, Option.some.injEq, exists_eq_left']
      cases hb : H[b]? with
      | none => simp [evK]
      | some k =>
        cases k with
        | row ow e sz els =>
          cases ow with
          | false => simp [evK]
          | true =>
            by_cases h1 : sz = 1
            · subst h1
              simp only
              by_cases g : els.length = tot ∧ off + n ≤ tot
              · rw [if_pos g]; simp [evK, g.1, g.2]
              · rw [if_neg g]
                simp only [evK, false_iff, eq_iff_iff]
                rintro ⟨a, b, _⟩; exact g ⟨a, b⟩
            · split <;> simp_all [evK]
        | _ => simp [evK]
    | _ => simp [copyK, evK]
@[simp] theorem copyK_some {H : List Blk} {K : AV → List Blk → Prop} {b off n tot : Nat} {xs : List AV} : copyK H K (.slref b off n tot) xs = copyR H K b off n tot xs H[b]? := (rfl)
@[simp] theorem copyR_some {H : List Blk} {K : AV → List Blk → Prop} {b off n tot e2 : Nat} {xs els : List AV} : copyR H K b off n tot xs (some (.row true e2 1 els)) = (els.length = tot ∧ off + n ≤ tot ∧ K (.int .i64 (Min.min xs.length n : Nat)) (H.set b (.row true e2 1 (els.take off ++ xs.take n ++ els.drop (off + Min.min xs.length n))))) := (rfl)
def code_impl_evalPlain : F := ⟨79,[.tmp 8],.seq (.reg [⟨some 4,.box (.t 0),none⟩,⟨some 5,.box (.t 1),none⟩,⟨some 8,.mov (.k (.int .i64 0)),none⟩]) (.seq (.seq (.reg [⟨some 9,.faddr 0 (.t 5),none⟩,⟨some 10,.load 1 false (.t 9),none⟩,⟨some 11,.call 108 [.t 10],none⟩,⟨some 12,.mov (.t 11),none⟩,⟨some 13,.mov (.t 2),some (12,true)⟩,⟨some 14,.bin .lss (.t 13) (.k (.int .i64 0)),some (12,true)⟩,⟨some 15,.pick (.t 12) (.t 14) (.k (.bool false)),none⟩,⟨some 16,.mov (.t 15),none⟩,⟨some 17,.faddr 0 (.t 5),some (16,false)⟩,⟨some 18,.load 1 false (.t 17),some (16,false)⟩,⟨some 19,.call 109 [.t 18],some (16,false)⟩,⟨some 20,.mov (.t 19),some (16,false)⟩,⟨some 21,.mov (.t 3),some (20,true)⟩,⟨some 22,.bin .lss (.t 21) (.k (.int .i64 0)),some (20,true)⟩,⟨some 23,.pick (.t 20) (.t 22) (.k (.bool false)),some (16,false)⟩,⟨some 24,.pick (.t 16) (.k (.bool true)) (.t 23),none⟩]) (.cond (.t 24) (.seq (.reg [⟨some 8,.mov (.k (.int .i64 1)),none⟩]) (.ret)) (.skip))) (.seq (.seq (.reg [⟨some 25,.faddr 0 (.t 5),none⟩,⟨some 26,.load 1 false (.t 25),none⟩]) (.block 0 (.seq (.reg [⟨some 28,.bin .eql (.t 26) (.k (.int .i64 1)),none⟩,⟨some 27,.mov (.t 28),none⟩]) (.cond (.t 27) (.seq (.reg [⟨some 8,.mov (.k (.int .i64 2)),none⟩]) (.ret)) (.seq (.reg [⟨some 30,.bin .eql (.t 26) (.k (.int .i64 2)),none⟩,⟨some 29,.mov (.t 30),none⟩]) (.cond (.t 29) (.seq (.dreg [false,false,false,false,false,false,false,false,true,true] [false,false,false,false,false,false,false,false,true,false] [⟨some 31,.faddr 0 (.t 4),none⟩,⟨some 32,.load 1 false (.t 31),none⟩,⟨some 33,.mov (.t 2),none⟩,⟨some 34,.iaddr 4 (.t 32) (.t 33),none⟩,⟨some 35,.faddr 0 (.t 34),none⟩,⟨some 36,.load 1 false (.t 35),none⟩,⟨some 37,.faddr 1 (.t 5),none⟩,⟨some 38,.load 1 false (.t 37),none⟩,⟨some 39,.call 110 [.t 36,.t 38],none⟩,⟨some 8,.mov (.t 39),none⟩]) (.ret)) (.seq (.reg [⟨some 41,.bin .eql (.t 26) (.k (.int .i64 3)),none⟩,⟨some 40,.mov (.t 41),none⟩]) (.cond (.t 40) (.seq (.dreg [false,false,false,false,false,false,false,false,true,true] [false,false,false,false,false,false,false,false,true,false] [⟨some 42,.faddr 0 (.t 4),none⟩,⟨some 43,.load 1 false (.t 42),none⟩,⟨some 44,.mov (.t 2),none⟩,⟨some 45,.iaddr 4 (.t 43) (.t 44),none⟩,⟨some 46,.faddr 1 (.t 45),none⟩,⟨some 47,.load 1 false (.t 46),none⟩,⟨some 48,.faddr 1 (.t 5),none⟩,⟨some 49,.load 1 false (.t 48),none⟩,⟨some 50,.call 110 [.t 47,.t 49],none⟩,⟨some 8,.mov (.t 50),none⟩]) (.ret)) (.seq (.reg [⟨some 52,.bin .eql (.t 26) (.k (.int .i64 4)),none⟩,⟨some 51,.mov (.t 52),none⟩]) (.cond (.t 51) (.seq (.reg [⟨some 53,.faddr 0 (.t 4),none⟩,⟨some 54,.load 1 false (.t 53),none⟩,⟨some 55,.mov (.t 2),none⟩,⟨some 56,.iaddr 4 (.t 54) (.t 55),none⟩,⟨some 57,.faddr 2 (.t 56),none⟩,⟨some 58,.load 1 false (.t 57),none⟩,⟨some 59,.call 111 [.t 58],none⟩,⟨some 8,.mov (.t 59),none⟩]) (.ret)) (.seq (.reg [⟨some 61,.bin .eql (.t 26) (.k (.int .i64 5)),none⟩,⟨some 60,.mov (.t 61),none⟩]) (.cond (.t 60) (.seq (.reg [⟨some 62,.load 2 true (.t 4),none⟩,⟨some 63,.mov (.t 2),none⟩,⟨some 64,.mov (.t 3),none⟩,⟨some 65,.call 34 [.t 62,.t 63,.t 64],none⟩,⟨some 66,.call 111 [.t 65],none⟩,⟨some 8,.mov (.t 66),none⟩]) (.ret)) (.seq (.reg [⟨some 68,.bin .eql (.t 26) (.k (.int .i64 6)),none⟩,⟨some 67,.mov (.t 68),none⟩]) (.cond (.t 67) (.seq (.seq (.reg [⟨some 69,.mov (.t 2),none⟩,⟨some 70,.mov (.t 3),none⟩,⟨some 71,.bin .neq (.t 69) (.t 70),none⟩]) (.cond (.t 71) (.seq (.reg [⟨some 8,.mov (.k (.int .i64 0)),none⟩]) (.ret)) (.skip))) (.seq (.reg [⟨some 72,.load 2 true (.t 4),none⟩,⟨some 73,.mov (.t 2),none⟩,⟨some 74,.call 83 [.t 72,.t 73],none⟩,⟨some 8,.mov (.t 74),none⟩]) (.ret))) (.skip))))))))))))))) (.seq (.reg [⟨some 75,.load 2 true (.t 4),none⟩,⟨some 76,.mov (.t 2),none⟩,⟨some 77,.mov (.t 3),none⟩,⟨some 78,.call 28 [.t 75,.t 76,.t 77],none⟩,⟨some 8,.mov (.t 78),none⟩]) (.ret))))⟩
theorem fok_impl_evalPlain : FOk Try.prog 71 code_impl_evalPlain := fok Try.func71 (by kernel_rfl)
@[simp] noncomputable def ct_pPathR (R : Strc → Prop) : Ct := ⟨28, Strc × Int × Int, fun x => R x.1 ∧ szStrc x.1 ≤ 1048576, fun x => [encStrc x.1, .int .i64 x.2.1, .int .i64 x.2.2], fun x => .int .i64 (pathT x.1 x.2.1 x.2.2)⟩
@[simp] noncomputable def ct_evalPlain (R : Strc → Prop) : Ct := ⟨71, Strc × Fm × Int × Int, fun x => szStrc x.1 ≤ 1048576 ∧ (1 ≤ x.2.1.kind ∧ x.2.1.kind ≤ 7) ∧ (x.2.2.1 = -1 ∨ inN x.1 x.2.2.1) ∧ (x.2.2.2 = -1 ∨ inN x.1 x.2.2.2) ∧ (R x.1 ∨ x.2.1.kind ≠ 7),
  fun x => [encStrc x.1, encFm x.2.1, .int .i64 x.2.2.1, .int .i64 x.2.2.2], fun x => .int .i64 (plainT x.1 x.2.1 x.2.2.1 x.2.2.2)⟩
set_option maxHeartbeats 2000000 in
set_option maxRecDepth 100000 in
theorem ok_evalPlain {R : Strc → Prop} (hP : (ct_pPathR R).Ok Try.prog) : (ct_evalPlain R).Ok Try.prog := by
  rintro ⟨s, ⟨kind, k, u, v, args⟩, i, j⟩ ⟨hs, hk, hi, hj, hR⟩
  change szStrc s ≤ 1048576 at hs
  change 1 ≤ kind ∧ kind ≤ 7 at hk
  change i = -1 ∨ inN s i at hi
  change j = -1 ∨ inN s j at hj
  change R s ∨ kind ≠ 7 at hR
  have hT : TabOk Try.prog _ := tab_cons ok_usesU (tab_cons ok_usesV (tab_cons ok_element (tab_cons ok_known (tab_cons ok_pNextOf (tab_cons ok_sameNode (tab_cons hP tab_nil))))))
  have hI : inN s i → 0 ≤ i ∧ ¬ i < 0 ∧ i < s.nodes.length ∧ i.toNat < s.nodes.length := fun h => by unfold inN at h; omega
  have hJ : inN s j → ¬ j < 0 := fun h => by unfold inN at h; omega
  have hv : inN s i → (nodeI s i).vars.length ≤ 1048576 ∧ (nodeI s i).reach.length ≤ 1048576 := fun h => by
    have h1 := node_le (x := s) (n := nodeI s i) (by rw [nodeI_get (hI h).2.2.2]; exact List.getElem_mem _)
    omega
  rcases hi with rfl | hi
  · obtain rfl | rfl | rfl | rfl | rfl | rfl | rfl : kind = 1 ∨ kind = 2 ∨ kind = 3 ∨ kind = 4 ∨ kind = 5 ∨ kind = 6 ∨ kind = 7 := by omega
    all_goals (refine Ok.of_cw fok_impl_evalPlain ?_; simp only [code_impl_evalPlain, frame, List.length_cons, List.length_nil, List.replicate, Nat.reduceSub, Nat.reduceAdd, List.cons_append, List.nil_append]; refine cw_seq (go_ok hT ?_); simp; refine cw_seq (go_ok hT ?_); simp [useU, useV, plainT, oneT, twoT, knownT, isTruth]; try (refine cw_seq (go_ok hT ?_); simp [plainT, oneT, twoT, knownT, isTruth]; try (refine go_ok hT ?_; simp [plainT, oneT, twoT, knownT, isTruth])))
  · obtain ⟨i0, i1, i2, i3⟩ := hI hi
    obtain ⟨v1, v2⟩ := hv hi
    have e := nodeI_get i3
    rw [e] at v1 v2
    by_cases hk4 : kind ≤ 4
    · obtain rfl | rfl | rfl | rfl : kind = 1 ∨ kind = 2 ∨ kind = 3 ∨ kind = 4 := by omega
      all_goals (refine Ok.of_cw fok_impl_evalPlain ?_; simp only [code_impl_evalPlain, frame, List.length_cons, List.length_nil, List.replicate, Nat.reduceSub, Nat.reduceAdd, List.cons_append, List.nil_append]; refine cw_seq (go_ok hT ?_); simp; refine cw_seq (go_ok hT ?_); simp [useU, useV, plainT, oneT, i0, i1, i2, i3, e, v1, v2]; try (refine cw_seq (go_ok hT ?_); simp [plainT, oneT, i0, i1, i2, i3, e, v1, v2]; try (refine go_ok hT ?_; simp [plainT, oneT, i0, i1, i2, i3, e, v1, v2])))
    · rcases hj with rfl | hj
      · obtain rfl | rfl | rfl : kind = 5 ∨ kind = 6 ∨ kind = 7 := by omega
        all_goals (refine Ok.of_cw fok_impl_evalPlain ?_; simp only [code_impl_evalPlain, frame, List.length_cons, List.length_nil, List.replicate, Nat.reduceSub, Nat.reduceAdd, List.cons_append, List.nil_append]; refine cw_seq (go_ok hT ?_); simp; refine cw_seq (go_ok hT ?_); simp [useU, useV, plainT, twoT, knownT, isTruth, i0, i1, i2, i3]; try (refine cw_seq (go_ok hT ?_); simp [plainT, twoT, knownT, isTruth, i0, i1, i2, i3]; try (refine go_ok hT ?_; simp [plainT, twoT, knownT, isTruth, i0, i1, i2, i3])))
      · have j1 := hJ hj
        have ks : knownT (sameT s i) = sameT s i := knownT_of (by unfold sameT; split <;> simp [isTruth])
        have kp : knownT (pathT s i j) = pathT s i j := knownT_of (pathT_truth _ _ _)
        have k0 : knownT 0 = 0 := by simp [knownT, isTruth]
        obtain rfl | rfl | rfl : kind = 5 ∨ kind = 6 ∨ kind = 7 := by omega
        · (refine Ok.of_cw fok_impl_evalPlain ?_; simp only [code_impl_evalPlain, frame, List.length_cons, List.length_nil, List.replicate, Nat.reduceSub, Nat.reduceAdd, List.cons_append, List.nil_append]; refine cw_seq (go_ok hT ?_); simp; refine cw_seq (go_ok hT ?_); simp [useU, useV, plainT, twoT, i0, i1, i2, i3, j1, hs]; try (refine cw_seq (go_ok hT ?_); simp [plainT, twoT, i0, i1, i2, i3, j1, hs]; try (refine go_ok hT ?_; simp [plainT, twoT, i0, i1, i2, i3, j1, hs])))
        · by_cases hij : i = j
          · subst hij
            (refine Ok.of_cw fok_impl_evalPlain ?_; simp only [code_impl_evalPlain, frame, List.length_cons, List.length_nil, List.replicate, Nat.reduceSub, Nat.reduceAdd, List.cons_append, List.nil_append]; refine cw_seq (go_ok hT ?_); simp; refine cw_seq (go_ok hT ?_); simp [useU, useV, plainT, twoT, i0, i1, i2, i3, j1, hs, ks, hi]; try (refine cw_seq (go_ok hT ?_); simp [plainT, twoT, i0, i1, i2, i3, j1, hs, ks, hi]; try (refine go_ok hT ?_; simp [plainT, twoT, i0, i1, i2, i3, j1, hs, ks, hi])))
          · (refine Ok.of_cw fok_impl_evalPlain ?_; simp only [code_impl_evalPlain, frame, List.length_cons, List.length_nil, List.replicate, Nat.reduceSub, Nat.reduceAdd, List.cons_append, List.nil_append]; refine cw_seq (go_ok hT ?_); simp; refine cw_seq (go_ok hT ?_); simp [useU, useV, plainT, twoT, i0, i1, i2, i3, j1, hs, hij, k0]; try (refine cw_seq (go_ok hT ?_); simp [plainT, twoT, i0, i1, i2, i3, j1, hs, hij, k0]; try (refine go_ok hT ?_; simp [plainT, twoT, i0, i1, i2, i3, j1, hs, hij, k0])))
        · have hRs : R s := by rcases hR with h | h; exact h; exact absurd rfl h
          (refine Ok.of_cw fok_impl_evalPlain ?_; simp only [code_impl_evalPlain, frame, List.length_cons, List.length_nil, List.replicate, Nat.reduceSub, Nat.reduceAdd, List.cons_append, List.nil_append]; refine cw_seq (go_ok hT ?_); simp; refine cw_seq (go_ok hT ?_); simp [useU, useV, plainT, twoT, i0, i1, i2, i3, j1, hs, kp, hRs]; try (refine cw_seq (go_ok hT ?_); simp [plainT, twoT, i0, i1, i2, i3, j1, hs, kp, hRs]; try (refine go_ok hT ?_; simp [plainT, twoT, i0, i1, i2, i3, j1, hs, kp, hRs])))
end Go.Vm
