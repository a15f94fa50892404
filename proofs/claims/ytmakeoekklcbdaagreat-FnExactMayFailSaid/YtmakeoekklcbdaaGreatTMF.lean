/- The formulas of faults: both. No condition. -/
import Derived.Test.YtmakeoekklcbdaaGreatTPS
set_option linter.unusedSimpArgs false
set_option linter.unusedVariables false
namespace Go.Vm
open Go.Proofs
def code_impl_joined : F := ⟨21, [.cell 5 true 2],
 .seq (.reg [⟨some 2, .alloc [(.int .i64 0), (.int .i64 0), (.int .i64 0), (.int .i64 0), (.sl .nil 0 [])], none⟩])
 (.seq (.reg [⟨some 6, .mov (.t 0), none⟩,
     ⟨some 7, .iaddr 5 (.t 6) (.k (.int .i64 0)), none⟩,
     ⟨some 8, .load 5 true (.t 7), none⟩,
     ⟨some 3, .alloc [(.int .i64 0), (.int .i64 0), (.int .i64 0), (.int .i64 0), (.sl .nil 0 [])], none⟩,
     ⟨none, .store 5 (.t 3) (.t 8), none⟩])
  (.seq (.seq (.reg [⟨some 9, .mov (.t 0), none⟩,
       ⟨some 10, .slice 5 (.t 9) (some (.k (.int .i64 1))) none, none⟩,
       ⟨some 11, .len (.t 10), none⟩,
       ⟨some 12, .mov (.k (.int .i64 0)), none⟩])
    (.block 0 (.loop (.seq (.reg [⟨some 13, .bin .lss (.t 12) (.t 11), none⟩])
       (.seq (.cond (.t 13)
         (.skip)
         (.exit 0))
        (.seq (.block 1 (.seq (.reg [⟨some 14, .iaddr 5 (.t 10) (.t 12), none⟩,
              ⟨some 15, .load 5 true (.t 14), none⟩,
              ⟨some 5, .alloc [(.int .i64 0), (.int .i64 0), (.int .i64 0), (.int .i64 0), (.sl .nil 0 [])], none⟩,
              ⟨none, .store 5 (.t 5) (.t 15), none⟩])
           (.reg [⟨some 16, .load 5 true (.t 3), none⟩,
              ⟨some 17, .load 5 true (.t 5), none⟩,
              ⟨some 18, .call 59 [(.t 16), (.t 17)], none⟩,
              ⟨none, .store 5 (.t 3) (.t 18), none⟩])))
         (.reg [⟨some 19, .bin .add (.t 12) (.k (.int .i64 1)), none⟩,
            ⟨some 12, .mov (.t 19), none⟩])))))))
   (.seq (.reg [⟨some 20, .load 5 true (.t 3), none⟩,
       ⟨none, .store 5 (.t 2) (.t 20), none⟩])
    (.ret))))⟩
theorem fok_impl_joined : FOk Tryz.prog 60 code_impl_joined := fok Tryz.func60 (by kernel_rfl)
def code_impl_faultFormula : F := ⟨62, [.cell 5 true 4, .tmp 5, .tmp 6],
 .seq (.reg [⟨some 3, .box (.t 1), none⟩,
    ⟨some 4, .alloc [(.int .i64 0), (.int .i64 0), (.int .i64 0), (.int .i64 0), (.sl .nil 0 [])], none⟩,
    ⟨some 5, .mov (.k (.int .i64 0)), none⟩,
    ⟨some 6, .mov (.k (.bool false)), none⟩])
 (.seq (.dreg [false, false, false, false, false, false, false, true, true, true] [⟨some 12, .mov (.t 0), none⟩,
     ⟨some 13, .faddr 1 (.t 3), none⟩,
     ⟨some 14, .load 1 false (.t 13), none⟩,
     ⟨some 15, .call 52 [(.t 12), (.t 14)], none⟩,
     ⟨some 16, .mov (.t 0), none⟩,
     ⟨some 17, .faddr 2 (.t 3), none⟩,
     ⟨some 18, .load 1 false (.t 17), none⟩,
     ⟨some 19, .call 52 [(.t 16), (.t 18)], none⟩,
     ⟨some 7, .mov (.t 15), none⟩,
     ⟨some 8, .mov (.t 19), none⟩])
  (.seq (.seq (.reg [⟨some 20, .faddr 0 (.t 3), none⟩,
       ⟨some 21, .load 1 false (.t 20), none⟩])
    (.block 0 (.seq (.reg [⟨some 23, .bin .eql (.t 21) (.k (.int .i64 7)), none⟩,
         ⟨some 22, .mov (.t 23), none⟩])
      (.cond (.t 22)
       (.seq (.reg [⟨some 24, .mov (.t 7), none⟩,
           ⟨some 25, .call 56 [(.t 24), (.k (.int .i64 0))], none⟩,
           ⟨some 26, .mov (.t 8), none⟩,
           ⟨some 27, .call 57 [(.t 26), (.k (.int .i64 0))], none⟩,
           ⟨some 28, .call 55 [(.t 25), (.t 27)], none⟩,
           ⟨some 29, .call 54 [(.k (.int .i64 0)), (.t 28)], none⟩,
           ⟨none, .store 5 (.t 4) (.t 29), none⟩,
           ⟨some 5, .mov (.k (.int .i64 3)), none⟩,
           ⟨some 6, .mov (.k (.bool true)), none⟩])
        (.ret))
       (.seq (.reg [⟨some 31, .bin .eql (.t 21) (.k (.int .i64 8)), none⟩,
           ⟨some 30, .mov (.t 31), none⟩])
        (.cond (.t 30)
         (.seq (.reg [⟨some 32, .bsl 52 5 0 (.agg [(.int .i64 0), (.int .i64 0), (.int .i64 0), (.int .i64 0), (.sl .nil 0 [])]) [], none⟩,
             ⟨some 9, .mov (.t 32), none⟩])
          (.seq (.seq (.reg [⟨some 33, .mov (.t 0), none⟩,
               ⟨some 34, .len (.t 33), none⟩,
               ⟨some 35, .mov (.k (.int .i64 0)), none⟩])
            (.block 1 (.loop (.seq (.reg [⟨some 36, .bin .lss (.t 35) (.t 34), none⟩])
               (.seq (.cond (.t 36)
                 (.skip)
                 (.exit 1))
                (.seq (.block 2 (.seq (.reg [⟨some 37, .mov (.t 35), none⟩,
                      ⟨some 10, .mov (.t 37), none⟩])
                   (.seq (.reg [⟨some 38, .mov (.t 10), none⟩,
                       ⟨some 39, .mov (.t 7), none⟩,
                       ⟨some 40, .bin .neq (.t 38) (.t 39), none⟩])
                    (.cond (.t 40)
                     (.reg [⟨some 41, .mov (.t 9), none⟩,
                        ⟨some 42, .mov (.t 10), none⟩,
                        ⟨some 43, .call 56 [(.t 42), (.k (.int .i64 0))], none⟩,
                        ⟨some 44, .bsl 52 5 1 (.agg [(.int .i64 0), (.int .i64 0), (.int .i64 0), (.int .i64 0), (.sl .nil 0 [])]) [(0, (.t 43))], none⟩,
                        ⟨some 45, .append 52 5 56 (.t 41) (.t 44), none⟩,
                        ⟨some 9, .mov (.t 45), none⟩])
                     (.skip)))))
                 (.reg [⟨some 46, .bin .add (.t 35) (.k (.int .i64 1)), none⟩,
                    ⟨some 35, .mov (.t 46), none⟩])))))))
           (.seq (.reg [⟨some 47, .call 58 [(.k (.int .i64 1)), (.k (.int .i64 0))], none⟩,
               ⟨some 48, .call 54 [(.k (.int .i64 1)), (.t 47)], none⟩,
               ⟨some 11, .alloc [(.int .i64 0), (.int .i64 0), (.int .i64 0), (.int .i64 0), (.sl .nil 0 [])], none⟩,
               ⟨none, .store 5 (.t 11) (.t 48), none⟩])
            (.seq (.seq (.reg [⟨some 49, .mov (.t 9), none⟩,
                 ⟨some 50, .len (.t 49), none⟩,
                 ⟨some 51, .bin .gtr (.t 50) (.k (.int .i64 0)), none⟩])
              (.cond (.t 51)
               (.dreg [false, false, false, true, true] [⟨some 52, .mov (.t 9), none⟩,
                  ⟨some 53, .call 60 [(.t 52)], none⟩,
                  ⟨some 54, .load 5 true (.t 11), none⟩,
                  ⟨some 55, .call 59 [(.t 53), (.t 54)], none⟩,
                  ⟨none, .store 5 (.t 11) (.t 55), none⟩])
               (.skip)))
             (.seq (.dreg [false, false, false, true, true, true, true, true] [⟨some 56, .mov (.t 7), none⟩,
                 ⟨some 57, .call 56 [(.t 56), (.k (.int .i64 0))], none⟩,
                 ⟨some 58, .load 5 true (.t 11), none⟩,
                 ⟨some 59, .call 55 [(.t 57), (.t 58)], none⟩,
                 ⟨some 60, .call 54 [(.k (.int .i64 0)), (.t 59)], none⟩,
                 ⟨none, .store 5 (.t 4) (.t 60), none⟩,
                 ⟨some 5, .mov (.k (.int .i64 5)), none⟩,
                 ⟨some 6, .mov (.k (.bool true)), none⟩])
              (.ret))))))
         (.skip)))))))
   (.seq (.reg [⟨some 61, .build [(.int .i64 0), (.int .i64 0), (.int .i64 0), (.int .i64 0), (.sl .nil 0 [])] [], none⟩,
       ⟨none, .store 5 (.t 4) (.t 61), none⟩,
       ⟨some 5, .mov (.k (.int .i64 0)), none⟩,
       ⟨some 6, .mov (.k (.bool false)), none⟩])
    (.ret))))⟩
theorem fok_impl_faultFormula : FOk Tryz.prog 31 code_impl_faultFormula := fok Tryz.func31 (by kernel_rfl)
def code_spec_l22Bad : F := ⟨62, [.cell 5 true 4, .tmp 5],
 .seq (.reg [⟨some 3, .box (.t 1), none⟩,
    ⟨some 4, .alloc [(.int .i64 0), (.int .i64 0), (.int .i64 0), (.int .i64 0), (.sl .nil 0 [])], none⟩,
    ⟨some 5, .mov (.k (.int .i64 0)), none⟩])
 (.seq (.reg [⟨some 10, .mov (.t 0), none⟩,
     ⟨some 11, .faddr 1 (.t 3), none⟩,
     ⟨some 12, .load 1 false (.t 11), none⟩,
     ⟨some 13, .call 38 [(.t 10), (.t 12)], none⟩,
     ⟨some 6, .mov (.t 13), none⟩])
  (.seq (.seq (.reg [⟨some 14, .faddr 0 (.t 3), none⟩,
       ⟨some 15, .load 1 false (.t 14), none⟩])
    (.block 0 (.seq (.reg [⟨some 17, .bin .eql (.t 15) (.k (.int .i64 7)), none⟩,
         ⟨some 16, .mov (.t 17), none⟩])
      (.cond (.t 16)
       (.seq (.dreg [false, false, false, false, false, true, true, true, true, true, true] [⟨some 18, .mov (.t 6), none⟩,
           ⟨some 19, .call 41 [(.t 18), (.k (.int .i64 0))], none⟩,
           ⟨some 20, .mov (.t 0), none⟩,
           ⟨some 21, .faddr 2 (.t 3), none⟩,
           ⟨some 22, .load 1 false (.t 21), none⟩,
           ⟨some 23, .call 38 [(.t 20), (.t 22)], none⟩,
           ⟨some 24, .call 43 [(.t 23), (.k (.int .i64 0))], none⟩,
           ⟨some 25, .call 42 [(.t 19), (.t 24)], none⟩,
           ⟨some 26, .call 40 [(.k (.int .i64 0)), (.t 25)], none⟩,
           ⟨none, .store 5 (.t 4) (.t 26), none⟩,
           ⟨some 5, .mov (.k (.int .i64 3)), none⟩])
        (.ret))
       (.seq (.reg [⟨some 28, .bin .eql (.t 15) (.k (.int .i64 8)), none⟩,
           ⟨some 27, .mov (.t 28), none⟩])
        (.cond (.t 27)
         (.seq (.reg [⟨some 29, .call 44 [(.k (.int .i64 1)), (.k (.int .i64 0))], none⟩,
             ⟨some 30, .call 40 [(.k (.int .i64 1)), (.t 29)], none⟩,
             ⟨some 7, .alloc [(.int .i64 0), (.int .i64 0), (.int .i64 0), (.int .i64 0), (.sl .nil 0 [])], none⟩,
             ⟨none, .store 5 (.t 7) (.t 30), none⟩])
          (.seq (.reg [⟨some 31, .build [(.int .i64 0), (.int .i64 0), (.int .i64 0), (.int .i64 0), (.sl .nil 0 [])] [], none⟩,
              ⟨some 8, .alloc [(.int .i64 0), (.int .i64 0), (.int .i64 0), (.int .i64 0), (.sl .nil 0 [])], none⟩,
              ⟨none, .store 5 (.t 8) (.t 31), none⟩])
           (.seq (.seq (.reg [⟨some 9, .mov (.k (.int .i64 0)), none⟩])
             (.block 1 (.loop (.seq (.seq (.reg [⟨some 32, .mov (.t 9), none⟩,
                    ⟨some 33, .mov (.t 0), none⟩,
                    ⟨some 34, .len (.t 33), none⟩,
                    ⟨some 35, .bin .lss (.t 32) (.t 34), none⟩])
                 (.cond (.t 35)
                  (.skip)
                  (.exit 1)))
                (.seq (.block 2 (.seq (.seq (.reg [⟨some 38, .mov (.t 9), none⟩,
                       ⟨some 39, .mov (.t 6), none⟩,
                       ⟨some 40, .bin .eql (.t 38) (.t 39), none⟩])
                    (.cond (.t 40)
                     (.exit 2)
                     (.skip)))
                   (.seq (.reg [⟨some 41, .faddr 0 (.t 8), none⟩,
                       ⟨some 42, .load 1 false (.t 41), none⟩,
                       ⟨some 43, .bin .eql (.t 42) (.k (.int .i64 0)), none⟩])
                    (.cond (.t 43)
                     (.reg [⟨some 44, .mov (.t 9), none⟩,
                        ⟨some 45, .call 41 [(.t 44), (.k (.int .i64 0))], none⟩,
                        ⟨none, .store 5 (.t 8) (.t 45), none⟩])
                     (.dreg [false, false, false, true, true] [⟨some 46, .load 5 true (.t 8), none⟩,
                        ⟨some 47, .mov (.t 9), none⟩,
                        ⟨some 48, .call 41 [(.t 47), (.k (.int .i64 0))], none⟩,
                        ⟨some 49, .call 45 [(.t 46), (.t 48)], none⟩,
                        ⟨none, .store 5 (.t 8) (.t 49), none⟩])))))
                 (.reg [⟨some 36, .mov (.t 9), none⟩,
                    ⟨some 37, .bin .add (.t 36) (.k (.int .i64 1)), none⟩,
                    ⟨some 9, .mov (.t 37), none⟩]))))))
            (.seq (.seq (.reg [⟨some 50, .faddr 0 (.t 8), none⟩,
                 ⟨some 51, .load 1 false (.t 50), none⟩,
                 ⟨some 52, .bin .neq (.t 51) (.k (.int .i64 0)), none⟩])
              (.cond (.t 52)
               (.reg [⟨some 53, .load 5 true (.t 8), none⟩,
                  ⟨some 54, .load 5 true (.t 7), none⟩,
                  ⟨some 55, .call 45 [(.t 53), (.t 54)], none⟩,
                  ⟨none, .store 5 (.t 7) (.t 55), none⟩])
               (.skip)))
             (.seq (.dreg [false, false, false, true, true, true, true] [⟨some 56, .mov (.t 6), none⟩,
                 ⟨some 57, .call 41 [(.t 56), (.k (.int .i64 0))], none⟩,
                 ⟨some 58, .load 5 true (.t 7), none⟩,
                 ⟨some 59, .call 42 [(.t 57), (.t 58)], none⟩,
                 ⟨some 60, .call 40 [(.k (.int .i64 0)), (.t 59)], none⟩,
                 ⟨none, .store 5 (.t 4) (.t 60), none⟩,
                 ⟨some 5, .mov (.k (.int .i64 5)), none⟩])
              (.ret))))))
         (.skip)))))))
   (.seq (.reg [⟨some 61, .build [(.int .i64 0), (.int .i64 0), (.int .i64 0), (.int .i64 0), (.sl .nil 0 [])] [], none⟩,
       ⟨none, .store 5 (.t 4) (.t 61), none⟩,
       ⟨some 5, .mov (.k (.int .i64 0)), none⟩])
    (.ret))))⟩
theorem fok_spec_l22Bad : FOk Tryz.prog 25 code_spec_l22Bad := fok Tryz.func25 (by kernel_rfl)
def orF (a b : Fm) : Fm := .mk 10 0 0 0 [a, b]
def varF (k : Int) : Fm := .mk 2 k 0 0 []
/-- Formulas with or between them, from the left. -/
def joinL : List Fm → Fm
  | [] => .mk 0 0 0 0 []
  | x :: xs => xs.foldl orF x
def restTo (a : Int) (k : Nat) : List Fm := ((List.range k).filter fun (x : Nat) => decide ((x : Int) ≠ a)).map fun (x : Nat) => varF x
theorem restTo_hit {a : Int} {k : Nat} (h : (k : Int) = a) : restTo a (k + 1) = restTo a k := by
  unfold restTo
  rw [List.range_succ, List.filter_append]
  simp [h]
theorem restTo_miss {a : Int} {k : Nat} (h : ¬ (k : Int) = a) : restTo a (k + 1) = restTo a k ++ [varF k] := by
  unfold restTo
  rw [List.range_succ, List.filter_append, List.map_append]
  simp [h]
theorem restTo_len (a : Int) (k : Nat) : (restTo a k).length ≤ k := by
  have := List.length_filter_le (fun x : Nat => decide ((x : Int) ≠ a)) (List.range k)
  simpa [restTo] using this
theorem joinL_snoc {xs : List Fm} (h : xs ≠ []) (x : Fm) : joinL (xs ++ [x]) = orF (joinL xs) x := by
  cases xs with
  | nil => exact absurd rfl h
  | cons y ys => simp [joinL, List.foldl_append]
theorem joinL_kind {xs : List Fm} (h : xs ≠ []) (hv : ∀ x ∈ xs, ∃ k, x = varF k) : (joinL xs).kind = 2 ∨ (joinL xs).kind = 10 := by
  cases xs with
  | nil => exact absurd rfl h
  | cons y ys =>
    rcases List.eq_nil_or_concat ys with rfl | ⟨zs, z, rfl⟩
    · obtain ⟨k, rfl⟩ := hv y (by simp)
      exact .inl rfl
    · right
      simp [joinL, List.foldl_append, orF]
theorem restTo_var {a : Int} {k : Nat} : ∀ x ∈ restTo a k, ∃ j, x = varF j := by
  intro x hx
  simp only [restTo, List.mem_map] at hx
  obtain ⟨j, _, rfl⟩ := hx
  exact ⟨j, rfl⟩
theorem joinL_size : ∀ (n : Nat) (xs : List Fm), xs.length ≤ n → (∀ x ∈ xs, ∃ k, x = varF k) → (joinL xs).size ≤ 2 * n + 1
  | n, [], _, _ => by simp [joinL, Fm.size, sizes]
  | 0, x :: xs, h, _ => by simp at h
  | n + 1, x :: xs, h, hv => by
    rcases List.eq_nil_or_concat xs with rfl | ⟨zs, z, rfl⟩
    · obtain ⟨k, rfl⟩ := hv x (by simp)
      simp [joinL, varF, Fm.size, sizes]
    · have ih := joinL_size n (x :: zs) (by simp at h ⊢; omega) (fun y hy => hv y (by simp at hy ⊢; rcases hy with rfl | hy <;> simp_all))
      obtain ⟨k, rfl⟩ := hv z (by simp)
      rw [show x :: zs.concat (varF k) = (x :: zs) ++ [varF k] by simp, joinL_snoc (by simp)]
      simp only [orF, varF, Fm.size, sizes] at ih ⊢
      omega
theorem joinL_noPath : ∀ (n : Nat) (xs : List Fm), xs.length ≤ n → (∀ x ∈ xs, ∃ k, x = varF k) → noPathF (joinL xs) = true
  | _, [], _, _ => by simp [joinL, noPathF, noPathS]
  | 0, x :: xs, h, _ => by simp at h
  | n + 1, x :: xs, h, hv => by
    rcases List.eq_nil_or_concat xs with rfl | ⟨zs, z, rfl⟩
    · obtain ⟨k, rfl⟩ := hv x (by simp)
      simp [joinL, varF, noPathF, noPathS]
    · have ih := joinL_noPath n (x :: zs) (by simp at h ⊢; omega) (fun y hy => hv y (by simp at hy ⊢; rcases hy with rfl | hy <;> simp_all))
      obtain ⟨k, rfl⟩ := hv z (by simp)
      rw [show x :: zs.concat (varF k) = (x :: zs) ++ [varF k] by simp, joinL_snoc (by simp)]
      simp [orF, varF, noPathF, noPathS, ih]
def intoF : Fm := .mk 11 0 1 0 [.mk 5 0 1 0 []]
def othersF (l : List Fm) : Fm := if l = [] then intoF else orF (joinL l) intoF
def linkF (a b : Int) : Fm := .mk 11 0 0 0 [.mk 9 0 0 0 [.mk 2 a 0 0 [], .mk 3 b 0 0 []]]
def freeF (a : Int) (n : Nat) : Fm := .mk 11 0 0 0 [.mk 9 0 0 0 [.mk 2 a 0 0 [], othersF (restTo a n)]]
def faultF (vars : List (List UInt8)) (s : Stmt) : Fm := if s.kind = 7 then linkF (ixS vars s.a) (ixS vars s.b) else if s.kind = 8 then freeF (ixS vars s.a) vars.length else .mk 0 0 0 0 []
def faultC (k : Int) : Int := if k = 7 then 3 else if k = 8 then 5 else 0
def faultB (k : Int) : Bool := decide (k = 7) || decide (k = 8)
theorem othersF_noPath (a : Int) (n : Nat) : noPathF (othersF (restTo a n)) = true := by
  unfold othersF
  split
  · simp [intoF, noPathF, noPathS]
  · simp [orF, intoF, noPathF, noPathS, joinL_noPath _ _ (Nat.le_refl _) restTo_var]
theorem faultF_noPath (vars : List (List UInt8)) (s : Stmt) : noPathF (faultF vars s) = true := by
  unfold faultF
  split
  · simp [linkF, noPathF, noPathS]
  · split
    · simp [freeF, noPathF, noPathS, othersF_noPath]
    · simp [noPathF, noPathS]
@[simp] def ct_joined : Ct := ⟨60, List Fm, fun l => l ≠ [] ∧ l.length ≤ 1048576, fun l => [encL 5 encFm l], fun l => encFm (joinL l)⟩
set_option maxHeartbeats 2000000 in
set_option maxRecDepth 100000 in
theorem ok_joined : ct_joined.Ok Tryz.prog := by
  rintro l ⟨hne, hl⟩
  change List Fm at l
  change l ≠ [] at hne
  change l.length ≤ 1048576 at hl
  obtain ⟨x, xs, rfl⟩ := List.exists_cons_of_ne_nil hne
  have hT : TabOk Tryz.prog _ := tab_cons ok_fmOrP tab_nil
  refine Ok.of_cw fok_impl_joined ?_
  simp only [code_impl_joined, frame, List.length_cons, List.length_nil, List.replicate, Nat.reduceSub, Nat.reduceAdd, List.cons_append, List.nil_append]
  refine cw_seq (go_ok hT ?_)
  simp
  refine cw_seq (go_ok hT ?_)
  simp
  refine cw_seq (go_ok hT ?_)
  simp
  have hxs : xs.length ≤ 1048576 := by simp at hl; omega
  refine ⟨by omega, ?_⟩
  refine cw_round (fun (p : Nat) => ⟨slots 21 [(2, .pbox 1 0), (3, .pbox 3 0), (10, encL 5 encFm xs), (11, .int .i64 xs.length), (12, .int .i64 p)], [.nrow, .cells [.int .i64 0, .int .i64 0, .int .i64 0, .int .i64 0, .slref 0 0 0 0], .nrow, .cells [.int .i64 ((xs.take p).foldl orF x).kind, .int .i64 ((xs.take p).foldl orF x).k, .int .i64 ((xs.take p).foldl orF x).u, .int .i64 ((xs.take p).foldl orF x).v, encL 5 encFm ((xs.take p).foldl orF x).args]]⟩)
    (fun p => p ≤ xs.length) (fun p => xs.length - p) 0 (by simp) ?_ ?_
  · refine weak_seal 4 (by simp) ?_ ?_
    · simp
    · simp [List.replicate]
  rintro N hN p hp
  have hw : IntKind.i64.wrap ((p : Int) + 1) = ((p + 1 : Nat) : Int) := by rw [wrap_i64] <;> omega
  refine go_ok hT ?_
  by_cases g : p < xs.length
  · have g2 : ¬ xs.length ≤ p := by omega
    have e : (xs.take (p + 1)).foldl orF x = orF ((xs.take p).foldl orF x) xs[p] := by rw [List.take_succ_eq_append_getElem g, List.foldl_append]; rfl
    simp [List.replicate, hw, g, g2]
    refine hN p (p + 1) _ (by omega) (by omega) (weak_seal 4 (by simp) ?_ ?_)
    · rw [e]; simp [orF]
    · simp [List.replicate]
  · have e : p = xs.length := by omega
    subst e
    rw [List.take_length]
    simp [List.replicate, joinL]
    refine go_ok hT ?_
    simp [joinL]
    exact encFm_eq _
end Go.Vm
