/- Formulas that stand in blocks of their own: what they are, and how they are marked. No condition. -/
import Derived.Test.YtmakeoekklcbdaaTFL
import Derived.Test.YtmakeoekklcbdaaTMX
set_option linter.unusedSimpArgs false
set_option linter.unusedVariables false
namespace Go.Vm
open Go.Proofs
/-- The parts of a formula stand in a heap, each in a row of its own. -/
inductive AIn (H : List Blk) : AV → List Fm → List Nat → Prop
  | any : AIn H (.sl .any 0 []) [] []
  | nil (b : Nat) : H[b]? = some .nrow → AIn H (.slref b 0 0 0) [] []
  | row1 (m : Nat) (a b c d : Int) (s : AV) (xs : List Fm) (R : List Nat) : H[m]? = some (.row true 57 5 [.agg [.int .i64 a, .int .i64 b, .int .i64 c, .int .i64 d, s]]) → AIn H s xs R → m ∉ R → AIn H (.slref m 0 1 1) [.mk a b c d xs] (m :: R)
  | row2 (m : Nat) (a b c d : Int) (s : AV) (xs : List Fm) (R : List Nat) (a' b' c' d' : Int) (s' : AV) (xs' : List Fm) (R' : List Nat) :
      H[m]? = some (.row true 57 5 [.agg [.int .i64 a, .int .i64 b, .int .i64 c, .int .i64 d, s], .agg [.int .i64 a', .int .i64 b', .int .i64 c', .int .i64 d', s']]) →
      AIn H s xs R → AIn H s' xs' R' → m ∉ R → m ∉ R' → (∀ i ∈ R, i ∉ R') → AIn H (.slref m 0 2 2) [.mk a b c d xs, .mk a' b' c' d' xs'] (m :: (R ++ R'))
theorem AIn.congr {H H' : List Blk} {s : AV} {xs : List Fm} {R : List Nat} (h : AIn H s xs R) (hr : ∀ i ∈ R, H'[i]? = H[i]?) (hn : ∀ i : Nat, H[i]? = some Blk.nrow → H'[i]? = some Blk.nrow) : AIn H' s xs R := by
  induction h with
  | any => exact .any
  | nil b h => exact .nil b (hn b h)
  | row1 m a b c d s xs R h h1 h2 ih => exact .row1 m a b c d s xs R (by rw [hr m (by simp), h]) (ih fun i hi => hr i (by simp [hi])) h2
  | row2 m a b c d s xs R a' b' c' d' s' xs' R' h h1 h1' h2 h2' h3 ih ih' =>
    exact .row2 m a b c d s xs R a' b' c' d' s' xs' R' (by rw [hr m (by simp), h]) (ih fun i hi => hr i (by simp [hi])) (ih' fun i hi => hr i (by simp [hi])) h2 h2' h3
theorem AIn.lt {H : List Blk} {s : AV} {xs : List Fm} {R : List Nat} (h : AIn H s xs R) : ∀ i ∈ R, i < H.length := by
  induction h with
  | any => simp
  | nil b h => simp
  | row1 m a b c d s xs R h h1 h2 ih =>
    intro i hi
    rcases List.mem_cons.1 hi with rfl | hi
    · exact (List.getElem?_eq_some_iff.1 h).1
    · exact ih i hi
  | row2 m a b c d s xs R a' b' c' d' s' xs' R' h h1 h1' h2 h2' h3 ih ih' =>
    intro i hi
    rcases List.mem_cons.1 hi with rfl | hi
    · exact (List.getElem?_eq_some_iff.1 h).1
    · rcases List.mem_append.1 hi with hi | hi
      · exact ih i hi
      · exact ih' i hi
theorem AIn.rows {H : List Blk} {s : AV} {xs : List Fm} {R : List Nat} (h : AIn H s xs R) : ∀ i ∈ R, H[i]? ≠ some .nrow := by
  induction h with
  | any => simp
  | nil b h => simp
  | row1 m a b c d s xs R h h1 h2 ih =>
    intro i hi
    rcases List.mem_cons.1 hi with rfl | hi
    · rw [h]; simp
    · exact ih i hi
  | row2 m a b c d s xs R a' b' c' d' s' xs' R' h h1 h1' h2 h2' h3 ih ih' =>
    intro i hi
    rcases List.mem_cons.1 hi with rfl | hi
    · rw [h]; simp
    · rcases List.mem_append.1 hi with hi | hi
      · exact ih i hi
      · exact ih' i hi
/-- Renumbered. -/
theorem AIn.sh {N : List Blk} {s : AV} {xs : List Fm} {R : List Nat} (h : AIn N s xs R) (H : List Blk) : AIn (H ++ N.map (shB H.length)) (Go.Vm.sh H.length s) xs (R.map (H.length + ·)) := by
  have get : ∀ m k, N[m]? = some k → (H ++ N.map (shB H.length))[H.length + m]? = some (shB H.length k) := fun m k hk => by
    rw [getHk, List.getElem?_map, hk]; rfl
  have inj : ∀ (m : Nat) (R : List Nat), m ∉ R → H.length + m ∉ R.map (H.length + ·) := fun m R h1 h2 => by
    obtain ⟨j, hj, e⟩ := List.mem_map.1 h2
    have : j = m := by omega
    exact h1 (this ▸ hj)
  induction h with
  | any => simpa using AIn.any
  | nil b h => simpa using AIn.nil _ (by simpa using get b _ h)
  | row1 m a b c d s xs R h h1 h2 ih =>
    have g := get m _ h
    simp only [shB_row, shL_cons, shL_nil, sh_agg, sh_int] at g
    simpa using AIn.row1 _ a b c d _ xs _ g ih (inj m R h2)
  | row2 m a b c d s xs R a' b' c' d' s' xs' R' h h1 h1' h2 h2' h3 ih ih' =>
    have g := get m _ h
    simp only [shB_row, shL_cons, shL_nil, sh_agg, sh_int] at g
    have := AIn.row2 _ a b c d _ xs _ a' b' c' d' _ xs' _ g ih ih' (inj m R h2) (inj m R' h2') (fun i hi => by
      obtain ⟨j, hj, rfl⟩ := List.mem_map.1 hi
      exact inj j R' (h3 j hj))
    simpa using this
mutual
def dep : Fm → Nat | .mk _ _ _ _ l => 1 + deps l
def deps : List Fm → Nat | [] => 0 | x :: xs => max (dep x) (deps xs)
end
theorem dep_mk (a b c d : Int) (l : List Fm) : dep (.mk a b c d l) = 1 + deps l := by simp [dep]
theorem deps_nil : deps [] = 0 := by simp [deps]
theorem deps_cons (x : Fm) (l : List Fm) : deps (x :: l) = max (dep x) (deps l) := by simp [deps]
/-- The parts as they are read. -/
theorem AIn.lend {H : List Blk} {s : AV} {xs : List Fm} {R : List Nat} (h : AIn H s xs R) : ∀ n, deps xs < n → lendC (fun _ _ => true) H n s = some (encL 5 encFm xs) := by
  induction h with
  | any => intro n hn; obtain ⟨n, rfl⟩ : ∃ m, n = m + 1 := ⟨n - 1, by omega⟩; simp [lendC]
  | nil b h => intro n hn; obtain ⟨n, rfl⟩ : ∃ m, n = m + 1 := ⟨n - 1, by omega⟩; simp [lendC, h]
  | row1 m a b c d s xs R h h1 h2 ih =>
    intro n hn
    simp only [deps_cons, deps_nil, dep_mk] at hn
    obtain ⟨n, rfl⟩ : ∃ m, n = m + 1 := ⟨n - 1, by omega⟩
    have := ih n (by omega)
    simp [lendC, h, lendEls, lendCs, this]
    rw [show encL 5 encFm [.mk a b c d xs] = mksl 5 [encFm (.mk a b c d xs)] from rfl, encFm_eq]
    rfl
  | row2 m a b c d s xs R a' b' c' d' s' xs' R' h h1 h1' h2 h2' h3 ih ih' =>
    intro n hn
    simp only [deps_cons, deps_nil, dep_mk] at hn
    obtain ⟨n, rfl⟩ : ∃ m, n = m + 1 := ⟨n - 1, by omega⟩
    have := ih n (by omega)
    have := ih' n (by omega)
    simp [lendC, h, lendEls, lendCs, *]
    rw [show encL 5 encFm [.mk a b c d xs, .mk a' b' c' d' xs'] = mksl 5 [encFm (.mk a b c d xs), encFm (.mk a' b' c' d' xs')] from rfl, encFm_eq (.mk a b c d xs), encFm_eq (.mk a' b' c' d' xs')]
    rfl
mutual
def mkdF : Fm → Int → Fm
  | .mk _ _ _ _ l, k => .mk k (k + 1) (k + 2) (k + 3) (mkdS l (k + 4))
def mkdS : List Fm → Int → List Fm
  | [], _ => []
  | x :: xs, k => mkdF x k :: mkdS xs (k + 4 * x.size)
end
mutual
theorem mkdF_size : ∀ (x : Fm) (k : Int), (mkdF x k).size = x.size
  | .mk a b c d l, k => by simp only [mkdF, size_mk]; rw [mkdS_size l (k + 4)]
theorem mkdS_size : ∀ (xs : List Fm) (k : Int), sizes (mkdS xs k) = sizes xs
  | [], _ => rfl
  | x :: xs, k => by simp only [mkdS, sizes_cons, mkdF_size x k, mkdS_size xs]
end
mutual
theorem dep_mkd : ∀ (x : Fm) (k : Int), dep (mkdF x k) = dep x
  | .mk a b c d l, k => by simp only [mkdF, dep_mk]; rw [deps_mkd l (k + 4)]
theorem deps_mkd : ∀ (xs : List Fm) (k : Int), deps (mkdS xs k) = deps xs
  | [], _ => rfl
  | x :: xs, k => by simp only [mkdS, deps_cons, dep_mkd x k, deps_mkd xs]
end
mutual
theorem heldF_mkd : ∀ (x : Fm) (k : Int), 0 ≤ k → heldF (mkdF x k) k = k + 4 * x.size
  | .mk a b c d l, k, h => by
    simp only [mkdF, heldF, if_true]
    rw [heldS_mkd l (k + 4) (by omega), size_mk]; omega
theorem heldS_mkd : ∀ (xs : List Fm) (k : Int), 0 ≤ k → heldS (mkdS xs k) k = k + 4 * sizes xs
  | [], k, _ => by simp [mkdS, heldS, sizes_nil]
  | x :: xs, k, h => by
    simp only [mkdS, heldS]
    rw [heldF_mkd x k h, if_neg (by omega), heldS_mkd xs _ (by omega), sizes_cons]; omega
end
/-- Marking what stands in rows of its own. -/
theorem AIn.mark {H : List Blk} {s : AV} {xs : List Fm} {R : List Nat} (h : AIn H s xs R) : ∀ (n : Nat) (k : Int), sizes xs < n → 0 ≤ k → k + 4 * sizes xs ≤ 1099511627776 →
    (s = .sl .any 0 [] ∨ True) → ∃ H', markS 57 n s k H = some (k + 4 * sizes xs, H') ∧ H'.length = H.length ∧ (∀ i, i ∉ R → H'[i]? = H[i]?) ∧ AIn H' s (mkdS xs k) R := by
  suffices G : ∀ H0 : List Blk, H0.length = H.length → (∀ i ∈ R, H0[i]? = H[i]?) → (∀ i : Nat, H[i]? = some Blk.nrow → H0[i]? = some Blk.nrow) → ∀ (n : Nat) (k : Int), sizes xs < n → 0 ≤ k → k + 4 * sizes xs ≤ 1099511627776 →
    ∃ H', markS 57 n s k H0 = some (k + 4 * sizes xs, H') ∧ H'.length = H0.length ∧ (∀ i, i ∉ R → H'[i]? = H0[i]?) ∧ AIn H' s (mkdS xs k) R from
    fun n k h1 h2 h3 _ => G H rfl (fun _ _ => rfl) (fun _ h => h) n k h1 h2 h3
  induction h with
  | any =>
    intro H0 _ _ _ n k hn hk hb
    obtain ⟨n, rfl⟩ : ∃ m, n = m + 1 := ⟨n - 1, by omega⟩
    exact ⟨H0, by simp [markS, sizes_nil], rfl, fun _ _ => rfl, .any⟩
  | nil b h =>
    intro H0 _ _ hn0 n k hn hk hb
    obtain ⟨n, rfl⟩ : ∃ m, n = m + 1 := ⟨n - 1, by omega⟩
    have h0 := hn0 b h
    exact ⟨H0, by simp [markS, markR, sizes_nil, h0, rowy], rfl, fun _ _ => rfl, .nil b h0⟩
  | row1 m a b c d s xs R h h1 h2 ih =>
    intro H0 hl hr hn0 n k hn hk hb
    simp only [sizes_cons, sizes_nil, size_mk] at hn hb
    obtain ⟨n, rfl⟩ : ∃ m, n = m + 1 := ⟨n - 1, by omega⟩
    have hm : H0[m]? = _ := (hr m (by simp)).trans h
    have hml : m < H0.length := (List.getElem?_eq_some_iff.1 hm).1
    have e0 : ∀ x i, i ≠ m → (H0.set m x)[i]? = H0[i]? := fun x i hi => List.getElem?_set_ne (Ne.symm hi)
    obtain ⟨H1, m1, l1, f1, a1⟩ := ih (H0.set m (.row true 57 5 [.agg [.int .i64 k, .int .i64 (k + 1), .int .i64 (k + 2), .int .i64 (k + 3), s]])) (by simp [hl])
      (fun i hi => by rw [e0 _ i (fun e => h2 (e ▸ hi)), hr i (by simp [hi])])
      (fun i hi => by rw [e0 _ i (fun e => by subst e; rw [h] at hi; simp at hi), hn0 i hi]) n (k + 4) (by omega) (by omega) (by omega)
    have g1 : H1[m]? = some (.row true 57 5 [.agg [.int .i64 k, .int .i64 (k + 1), .int .i64 (k + 2), .int .i64 (k + 3), s]]) := by rw [f1 m h2, List.getElem?_set_self hml]
    refine ⟨H1, ?_, by simpa using l1, fun i hi => ?_, ?_⟩
    · have c1 : k + 4 ≤ 1099511627776 := by omega
      have c2 : k + 4 + 4 * (sizes xs : Int) ≤ 1099511627776 ∧ 0 ≤ k + 4 + 4 * (sizes xs : Int) := by omega
      have c3 : k + 4 + 4 * (sizes xs : Int) = k + 4 * ((sizes [.mk a b c d xs] : Nat) : Int) := by simp only [sizes_cons, sizes_nil, size_mk]; omega
      simp [markS, markR, hm, c1, m1, c2, g1, rowy, c3]
      rw [← c3]; exact c2
    · simp only [List.mem_cons, not_or] at hi
      rw [f1 i hi.2, e0 _ i hi.1]
    · simp only [mkdS, mkdF]
      exact .row1 m _ _ _ _ s _ R g1 a1 h2
  | row2 m a b c d s xs R a' b' c' d' s' xs' R' h h1 h1' h2 h2' h3 ih ih' =>
    intro H0 hl hr hn0 n k hn hk hb
    simp only [sizes_cons, sizes_nil, size_mk] at hn hb
    obtain ⟨n, rfl⟩ : ∃ m, n = m + 1 := ⟨n - 1, by omega⟩
    have hm : H0[m]? = _ := (hr m (by simp)).trans h
    have hml : m < H0.length := (List.getElem?_eq_some_iff.1 hm).1
    have e0 : ∀ x i, i ≠ m → (H0.set m x)[i]? = H0[i]? := fun x i hi => List.getElem?_set_ne (Ne.symm hi)
    have nr : ∀ i : Nat, H[i]? = some Blk.nrow → i ≠ m := fun i hi e => by subst e; rw [h] at hi; simp at hi
    obtain ⟨H1, m1, l1, f1, a1⟩ := ih (H0.set m (.row true 57 5 [.agg [.int .i64 k, .int .i64 (k + 1), .int .i64 (k + 2), .int .i64 (k + 3), s], .agg [.int .i64 a', .int .i64 b', .int .i64 c', .int .i64 d', s']])) (by simp [hl])
      (fun i hi => by rw [e0 _ i (fun e => h2 (e ▸ hi)), hr i (by simp [hi])])
      (fun i hi => by rw [e0 _ i (nr i hi), hn0 i hi]) n (k + 4) (by omega) (by omega) (by omega)
    have g1 : H1[m]? = some (.row true 57 5 [.agg [.int .i64 k, .int .i64 (k + 1), .int .i64 (k + 2), .int .i64 (k + 3), s], .agg [.int .i64 a', .int .i64 b', .int .i64 c', .int .i64 d', s']]) := by rw [f1 m h2, List.getElem?_set_self hml]
    have l1 : H1.length = H0.length := by simpa using l1
    have e1 : ∀ x i, i ≠ m → (H1.set m x)[i]? = H1[i]? := fun x i hi => List.getElem?_set_ne (Ne.symm hi)
    have q := fun i hi => h1.rows i hi
    generalize hk1 : k + 4 + 4 * (sizes xs : Int) = k1 at *
    obtain ⟨H2, m2, l2, f2, a2⟩ := ih' (H1.set m (.row true 57 5 [.agg [.int .i64 k, .int .i64 (k + 1), .int .i64 (k + 2), .int .i64 (k + 3), s], .agg [.int .i64 k1, .int .i64 (k1 + 1), .int .i64 (k1 + 2), .int .i64 (k1 + 3), s']])) (by simp [l1, hl])
      (fun i hi => by rw [e1 _ i (fun e => h2' (e ▸ hi)), f1 i (fun hj => h3 i hj hi), e0 _ i (fun e => h2' (e ▸ hi)), hr i (by simp [hi])])
      (fun i hi => by rw [e1 _ i (nr i hi), f1 i (fun hj => q i hj hi), e0 _ i (nr i hi), hn0 i hi]) n (k1 + 4) (by omega) (by omega) (by omega)
    have g2 : H2[m]? = some (.row true 57 5 [.agg [.int .i64 k, .int .i64 (k + 1), .int .i64 (k + 2), .int .i64 (k + 3), s], .agg [.int .i64 k1, .int .i64 (k1 + 1), .int .i64 (k1 + 2), .int .i64 (k1 + 3), s']]) := by rw [f2 m h2', List.getElem?_set_self (by omega)]
    refine ⟨H2, ?_, by simpa [l1] using l2, fun i hi => ?_, ?_⟩
    · have c1 : k + 4 ≤ 1099511627776 := by omega
      have c2 : k1 ≤ 1099511627776 ∧ 0 ≤ k1 := by omega
      have c4 : k1 + 4 ≤ 1099511627776 := by omega
      have c5 : k1 + 4 + 4 * (sizes xs' : Int) ≤ 1099511627776 ∧ 0 ≤ k1 + 4 + 4 * (sizes xs' : Int) := by omega
      have c3 : k1 + 4 + 4 * (sizes xs' : Int) = k + 4 * ((sizes [.mk a b c d xs, .mk a' b' c' d' xs'] : Nat) : Int) := by simp only [sizes_cons, sizes_nil, size_mk]; omega
      simp [markS, markR, hm, c1, m1, c2, g1, c4, m2, c5, g2, rowy, c3]
      rw [← c3]; exact c5
    · simp only [List.mem_cons, List.mem_append, not_or] at hi
      rw [f2 i hi.2.2, e1 _ i hi.1, f1 i hi.2.1, e0 _ i hi.1]
    · have e : k + 4 * ((Fm.mk a b c d xs).size : Int) = k1 := by simp only [size_mk]; omega
      simp only [mkdS, mkdF, e]
      refine .row2 m _ _ _ _ s _ R _ _ _ _ s' _ R' g2 ?_ a2 h2 h2' h3
      refine a1.congr (fun i hi => ?_) (fun i hi => ?_)
      · rw [f2 i (h3 i hi), e1 _ i (fun e => h2 (e ▸ hi))]
      · by_cases hR : i ∈ R'
        · exact absurd hi (by rw [f1 i (fun hj => h3 i hj hR), e0 _ i (fun e => h2' (e ▸ hR)), hr i (by simp [hR])]; exact h1'.rows i hR)
        · rw [f2 i hR, e1 _ i (fun e => by subst e; rw [g1] at hi; simp at hi), hi]
end Go.Vm
