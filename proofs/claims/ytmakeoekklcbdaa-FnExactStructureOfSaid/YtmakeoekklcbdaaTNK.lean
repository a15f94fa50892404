/- Marked structures are held. No condition. -/
import Derived.Test.YtmakeoekklcbdaaTNJ
set_option linter.unusedSimpArgs false
set_option linter.unusedVariables false
namespace Go.Vm
open Go.Proofs
def code_laws_heldNodeS : F := ⟨49, [.tmp 4],
 .seq (.reg [⟨some 4, .mov (.k (.int .i64 0)), none⟩])
 (.seq (.seq (.reg [⟨some 5, .mov (.k (.int .i64 0)), none⟩])
   (.block 0 (.loop (.seq (.seq (.reg [⟨some 6, .mov (.t 5), none⟩,
          ⟨some 7, .mov (.t 0), none⟩,
          ⟨some 8, .len (.t 7), none⟩,
          ⟨some 9, .bin .lss (.t 6) (.t 8), none⟩])
       (.cond (.t 9)
        (.skip)
        (.exit 0)))
      (.seq (.block 1 (.seq (.reg [⟨some 12, .mov (.t 0), none⟩,
            ⟨some 13, .mov (.t 5), none⟩,
            ⟨some 14, .iaddr 4 (.t 12) (.t 13), none⟩,
            ⟨some 15, .faddr 0 (.t 14), none⟩,
            ⟨some 16, .load 1 false (.t 15), none⟩,
            ⟨some 17, .mov (.t 1), none⟩,
            ⟨some 18, .call 74 [(.t 16), (.t 17)], none⟩,
            ⟨some 1, .mov (.t 18), none⟩])
         (.seq (.seq (.reg [⟨some 19, .mov (.t 1), none⟩,
              ⟨some 20, .bin .lss (.t 19) (.k (.int .i64 0)), none⟩])
           (.cond (.t 20)
            (.seq (.reg [⟨some 4, .mov (.k (.int .i64 (-1))), none⟩])
             (.ret))
            (.skip)))
          (.seq (.reg [⟨some 21, .mov (.t 0), none⟩,
              ⟨some 22, .mov (.t 5), none⟩,
              ⟨some 23, .iaddr 4 (.t 21) (.t 22), none⟩,
              ⟨some 24, .faddr 1 (.t 23), none⟩,
              ⟨some 25, .load 1 false (.t 24), none⟩,
              ⟨some 26, .mov (.t 1), none⟩,
              ⟨some 27, .call 74 [(.t 25), (.t 26)], none⟩,
              ⟨some 1, .mov (.t 27), none⟩])
           (.seq (.seq (.reg [⟨some 28, .mov (.t 1), none⟩,
                ⟨some 29, .bin .lss (.t 28) (.k (.int .i64 0)), none⟩])
             (.cond (.t 29)
              (.seq (.reg [⟨some 4, .mov (.k (.int .i64 (-1))), none⟩])
               (.ret))
              (.skip)))
            (.seq (.seq (.reg [⟨some 30, .mov (.t 0), none⟩,
                 ⟨some 31, .mov (.t 5), none⟩,
                 ⟨some 32, .iaddr 4 (.t 30) (.t 31), none⟩,
                 ⟨some 33, .faddr 2 (.t 32), none⟩,
                 ⟨some 34, .load 1 false (.t 33), none⟩,
                 ⟨some 35, .mov (.t 1), none⟩,
                 ⟨some 36, .bin .neq (.t 34) (.t 35), none⟩])
              (.cond (.t 36)
               (.seq (.reg [⟨some 4, .mov (.k (.int .i64 (-1))), none⟩])
                (.ret))
               (.skip)))
             (.seq (.reg [⟨some 37, .mov (.t 1), none⟩,
                 ⟨some 38, .bin .add (.t 37) (.k (.int .i64 1)), none⟩,
                 ⟨some 1, .mov (.t 38), none⟩])
              (.seq (.seq (.reg [⟨some 39, .mov (.t 0), none⟩,
                   ⟨some 40, .mov (.t 5), none⟩,
                   ⟨some 41, .iaddr 4 (.t 39) (.t 40), none⟩,
                   ⟨some 42, .faddr 3 (.t 41), none⟩,
                   ⟨some 43, .load 1 false (.t 42), none⟩,
                   ⟨some 44, .mov (.t 1), none⟩,
                   ⟨some 45, .bin .neq (.t 43) (.t 44), none⟩])
                (.cond (.t 45)
                 (.seq (.reg [⟨some 4, .mov (.k (.int .i64 (-1))), none⟩])
                  (.ret))
                 (.skip)))
               (.reg [⟨some 46, .mov (.t 1), none⟩,
                  ⟨some 47, .bin .add (.t 46) (.k (.int .i64 1)), none⟩,
                  ⟨some 1, .mov (.t 47), none⟩])))))))))
       (.reg [⟨some 10, .mov (.t 5), none⟩,
          ⟨some 11, .bin .add (.t 10) (.k (.int .i64 1)), none⟩,
          ⟨some 5, .mov (.t 11), none⟩]))))))
  (.seq (.reg [⟨some 48, .mov (.t 1), none⟩,
      ⟨some 4, .mov (.t 48), none⟩])
   (.ret)))⟩
theorem fok_laws_heldNodeS : FOk Try.prog 87 code_laws_heldNodeS := fok Try.func87 (by kernel_rfl)
def code_laws_heldStructure : F := ⟨18, [.tmp 4],
 .seq (.reg [⟨some 2, .box (.t 0), none⟩,
    ⟨some 4, .mov (.k (.int .i64 0)), none⟩])
 (.seq (.reg [⟨some 5, .faddr 0 (.t 2), none⟩,
     ⟨some 6, .load 1 false (.t 5), none⟩,
     ⟨some 7, .mov (.t 1), none⟩,
     ⟨some 8, .call 87 [(.t 6), (.t 7)], none⟩,
     ⟨some 1, .mov (.t 8), none⟩])
  (.seq (.seq (.reg [⟨some 9, .mov (.t 1), none⟩,
       ⟨some 10, .bin .lss (.t 9) (.k (.int .i64 0)), none⟩])
    (.cond (.t 10)
     (.seq (.reg [⟨some 4, .mov (.k (.int .i64 (-1))), none⟩])
      (.ret))
     (.skip)))
   (.seq (.reg [⟨some 11, .faddr 1 (.t 2), none⟩,
       ⟨some 12, .load 1 false (.t 11), none⟩,
       ⟨some 13, .mov (.t 1), none⟩,
       ⟨some 14, .call 74 [(.t 12), (.t 13)], none⟩,
       ⟨some 1, .mov (.t 14), none⟩])
    (.seq (.seq (.reg [⟨some 15, .mov (.t 1), none⟩,
         ⟨some 16, .bin .lss (.t 15) (.k (.int .i64 0)), none⟩])
      (.cond (.t 16)
       (.seq (.reg [⟨some 4, .mov (.k (.int .i64 (-1))), none⟩])
        (.ret))
       (.skip)))
     (.seq (.reg [⟨some 17, .mov (.t 1), none⟩,
         ⟨some 4, .mov (.t 17), none⟩])
      (.ret))))))⟩
theorem fok_laws_heldStructure : FOk Try.prog 25 code_laws_heldStructure := fok Try.func25 (by kernel_rfl)
theorem mkdNs_get : ∀ {xs : List Node} {i : Nat} (k : Int) (h : i < xs.length), (mkdNs xs k)[i]? = some (mkdN xs[i] (k + (((xs.take i).map szM).sum : Nat)))
  | x :: xs, 0, k, _ => by simp [mkdNs]
  | x :: xs, i + 1, k, h => by
    have := mkdNs_get (xs := xs) (i := i) (k + szM x) (by simpa using h)
    simp only [mkdNs, List.getElem?_cons_succ, this, List.getElem_cons_succ, List.take_succ_cons, List.map_cons, List.sum_cons]
    congr 2; omega
@[simp] def ct_heldNM : Ct := ⟨87, List Node × Int, fun x => (0 ≤ x.2 ∧ x.2 ≤ 1073741824) ∧ (x.1.map szM).sum ≤ 1073741824 ∧ x.1.length ≤ 1048576, fun x => [encL 4 encNode (mkdNs x.1 x.2), .int .i64 x.2], fun x => .int .i64 (x.2 + ((x.1.map szM).sum : Nat))⟩
set_option maxHeartbeats 4000000 in
set_option maxRecDepth 100000 in
theorem ok_heldNM : ct_heldNM.Ok Try.prog := by
  rintro ⟨xs, k⟩ ⟨⟨h1, h2⟩, h3, h4⟩
  change 0 ≤ k at h1
  change k ≤ 1073741824 at h2
  change (xs.map szM).sum ≤ 1073741824 at h3
  change xs.length ≤ 1048576 at h4
  have hl := mkdNs_len xs k
  refine Ok.of_cw fok_laws_heldNodeS (go_ok tab_nil ?_)
  simp [code_laws_heldNodeS, List.replicate]
  refine cw_round (fun (i : Nat) => ⟨slots 49 [(0, encL 4 encNode (mkdNs xs k)), (1, .int .i64 (k + (((xs.take i).map szM).sum : Nat))), (5, .int .i64 i)], []⟩)
    (fun i => i ≤ xs.length) (fun i => xs.length - i) 0 (by omega) ?_ ?_
  · exact weak_seal 0 (by omega) (by simp) (by simp [List.replicate])
  · rintro N hN i hi
    have hw : IntKind.i64.wrap ((i : Int) + 1) = ((i + 1 : Nat) : Int) := by rw [wrap_i64] <;> omega
    have hle := szM_take_le (l := xs) (i := i)
    by_cases g : i < xs.length
    · have g2 : ¬ xs.length ≤ i := by omega
      have hg := mkdNs_get k g
      have hs := szM_take g
      have hle2 := szM_take_le (l := xs) (i := i + 1)
      have hsz : szM xs[i] = xs[i].vars.length + xs[i].reach.length + 2 := rfl
      have gl : i < (mkdNs xs k).length := by omega
      have gl2 : ¬ (mkdNs xs k).length ≤ i := by omega
      rw [List.getElem?_eq_getElem gl] at hg
      have hg := Option.some.inj hg
      generalize hS : ((xs.take i).map szM).sum = S at *
      generalize xs[i] = x at *
      obtain ⟨vs, rs, sh, mn⟩ := x
      simp only at hsz
      simp only [mkdN] at hg
      have m0 : 0 ≤ k + (S : Int) := by omega
      have m1 : k + (S : Int) ≤ 1099511627776 := by omega
      have m2 : vs.length ≤ 1099511627776 := by omega
      have m3 : rs.length ≤ 1099511627776 := by omega
      have m4 : 0 ≤ k + (S : Int) + vs.length := by omega
      have m5 : k + (S : Int) + vs.length ≤ 1099511627776 := by omega
      have n4 : ¬ (k + (S : Int) + vs.length < 0) := by omega
      have n5 : ¬ (k + (S : Int) + vs.length + rs.length < 0) := by omega
      have w1 : IntKind.i64.wrap (k + (S : Int) + vs.length + rs.length + 1) = k + S + vs.length + rs.length + 1 := by rw [wrap_i64] <;> omega
      have w2 : IntKind.i64.wrap (k + (S : Int) + vs.length + rs.length + 1 + 1) = k + S + vs.length + rs.length + 2 := by rw [wrap_i64] <;> omega
      refine go_ok (tab_cons ok_heldI tab_nil) ?_
      simp [List.replicate, g, g2, gl, gl2, hl, hg, hw, m0, m1, m2, m3, m4, m5, n4, n5, w1, w2]
      have hs' : k + ((((xs.take (i + 1)).map szM).sum : Nat) : Int) = k + S + vs.length + rs.length + 2 := by rw [hs, hsz]; omega
      refine fun _ => hN i (i + 1) _ (by omega) (by omega) (weak_seal 0 (by omega) (by simp) ?_)
      simp only [hs']
      simp [List.replicate]
    · have e : i = xs.length := by omega
      subst e
      rw [List.take_length]
      refine go_ok tab_nil ?_
      simp [List.replicate, hw, hl]
@[simp] def ct_heldSM : Ct := ⟨25, (List Node × List Int) × Int, fun x => (0 ≤ x.2 ∧ x.2 ≤ 1073741824) ∧ (x.1.1.map szM).sum ≤ 1073741824 ∧ x.1.1.length ≤ 1048576 ∧ x.1.2.length ≤ 1048576,
  fun x => [.agg [encL 4 encNode (mkdNs x.1.1 x.2), encL 1 encInt (marks (x.2 + ((x.1.1.map szM).sum : Nat)) x.1.2.length)], .int .i64 x.2], fun x => .int .i64 (x.2 + ((x.1.1.map szM).sum : Nat) + x.1.2.length)⟩
set_option maxHeartbeats 4000000 in
set_option maxRecDepth 100000 in
theorem ok_heldSM : ct_heldSM.Ok Try.prog := by
  rintro ⟨⟨xs, ys⟩, k⟩ ⟨⟨h1, h2⟩, h3, h4, h5⟩
  change 0 ≤ k at h1
  change k ≤ 1073741824 at h2
  change (xs.map szM).sum ≤ 1073741824 at h3
  change xs.length ≤ 1048576 at h4
  change ys.length ≤ 1048576 at h5
  have hN : Ok Try.prog 87 [encL 4 encNode (mkdNs xs k), .int .i64 k] (.int .i64 (k + ((xs.map szM).sum : Nat))) := ok_heldNM (xs, k) ⟨⟨h1, h2⟩, h3, h4⟩
  have k5 : 0 ≤ k + (((xs.map szM).sum : Nat) : Int) := by omega
  have k6 : k + (((xs.map szM).sum : Nat) : Int) ≤ 1099511627776 := by omega
  have k7 : ys.length ≤ 1099511627776 := by omega
  have n5 : ¬ (k + (((xs.map szM).sum : Nat) : Int) < 0) := by omega
  have n6 : ¬ (k + (((xs.map szM).sum : Nat) : Int) + ys.length < 0) := by omega
  refine Ok.of_cw fok_laws_heldStructure (go_ok (tab_cons (c := ⟨87, Unit, fun _ => True, fun _ => [encL 4 encNode (mkdNs xs k), .int .i64 k], fun _ => .int .i64 (k + ((xs.map szM).sum : Nat))⟩) (fun _ _ => hN) (tab_cons ok_heldI tab_nil)) ?_)
  simp [code_laws_heldStructure, List.replicate, k5, k6, k7, n5, n6]
end Go.Vm
