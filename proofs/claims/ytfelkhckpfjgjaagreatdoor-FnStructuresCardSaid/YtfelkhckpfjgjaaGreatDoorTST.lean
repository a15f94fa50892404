/- Decimal digits, and texts put together: both. No condition. -/
import Derived.Test.YtfelkhckpfjgjaaGreatDoorTXJ
import Derived.Test.YtfelkhckpfjgjaaGreatDoorTG
import Derived.Test.YtfelkhckpfjgjaaGreatDoorTKC
import Derived.Test.YtfelkhckpfjgjaaGreatDoorTSL
import Derived.Test.YtfelkhckpfjgjaaGreatDoorTTR
set_option linter.unusedSimpArgs false
set_option linter.unusedVariables false
namespace Go.Vm
open Go.Proofs
def code_spec_FormatInt : F := ⟨31, [.tmp 2],
 .seq (.reg [⟨some 2, .mov (.k (.str [])), none⟩])
 (.seq (.seq (.reg [⟨some 6, .mov (.t 0), none⟩,
      ⟨some 7, .bin .eql (.t 6) (.k (.int .i64 0)), none⟩])
   (.cond (.t 7)
    (.seq (.reg [⟨some 2, .mov (.k (.str [48])), none⟩])
     (.ret))
    (.skip)))
  (.seq (.reg [⟨some 8, .mov (.t 0), none⟩,
      ⟨some 9, .bin .lss (.t 8) (.k (.int .i64 0)), none⟩,
      ⟨some 3, .mov (.t 9), none⟩])
   (.seq (.reg [⟨some 4, .mov (.k (.str [])), none⟩])
    (.seq (.block 0 (.loop (.seq (.seq (.reg [⟨some 10, .mov (.t 0), none⟩,
            ⟨some 11, .bin .neq (.t 10) (.k (.int .i64 0)), none⟩])
         (.cond (.t 11)
          (.skip)
          (.exit 0)))
        (.block 1 (.seq (.reg [⟨some 12, .mov (.t 0), none⟩,
             ⟨some 13, .bin .rem (.t 12) (.k (.int .i64 10)), none⟩,
             ⟨some 5, .mov (.t 13), none⟩])
          (.seq (.seq (.reg [⟨some 14, .mov (.t 5), none⟩,
               ⟨some 15, .bin .lss (.t 14) (.k (.int .i64 0)), none⟩])
            (.cond (.t 15)
             (.reg [⟨some 16, .mov (.t 5), none⟩,
                ⟨some 17, .bin .sub (.k (.int .i64 0)) (.t 16), none⟩,
                ⟨some 5, .mov (.t 17), none⟩])
             (.skip)))
           (.seq (.reg [⟨some 18, .mov (.t 5), none⟩,
               ⟨some 19, .bin .add (.k (.int .i64 48)) (.t 18), none⟩,
               ⟨some 20, .conv .u8 (.t 19), none⟩,
               ⟨some 21, .bsl 5 1 1 (.int .u8 0) [(0, (.t 20))], none⟩,
               ⟨some 22, .b2s (.t 21), none⟩,
               ⟨some 23, .mov (.t 4), none⟩,
               ⟨some 24, .bin .add (.t 22) (.t 23), none⟩,
               ⟨some 4, .mov (.t 24), none⟩])
            (.reg [⟨some 25, .mov (.t 0), none⟩,
               ⟨some 26, .bin .quo (.t 25) (.k (.int .i64 10)), none⟩,
               ⟨some 0, .mov (.t 26), none⟩]))))))))
     (.seq (.seq (.reg [⟨some 27, .mov (.t 3), none⟩])
       (.cond (.t 27)
        (.seq (.reg [⟨some 28, .mov (.t 4), none⟩,
            ⟨some 29, .bin .add (.k (.str [45])) (.t 28), none⟩,
            ⟨some 2, .mov (.t 29), none⟩])
         (.ret))
        (.skip)))
      (.seq (.reg [⟨some 30, .mov (.t 4), none⟩,
          ⟨some 2, .mov (.t 30), none⟩])
       (.ret)))))))⟩
theorem fok_spec_FormatInt : FOk Tryz.prog 68 code_spec_FormatInt := fok Tryz.func68 (by kernel_rfl)
def code_impl_FormatInt : F := ⟨5, [.tmp 2],
 .seq (.reg [⟨some 2, .mov (.k (.str [])), none⟩])
 (.seq (.reg [⟨some 3, .mov (.t 0), none⟩,
     ⟨some 4, .call 62 [(.t 3)], none⟩,
     ⟨some 2, .mov (.t 4), none⟩])
  (.ret))⟩
theorem fok_impl_FormatInt : FOk Tryz.prog 44 code_impl_FormatInt := fok Tryz.func44 (by kernel_rfl)
def code_strconv_Itoa : F := ⟨5, [.tmp 2],
 .seq (.reg [⟨some 2, .mov (.k (.str [])), none⟩])
 (.seq (.reg [⟨some 3, .mov (.t 0), none⟩,
     ⟨some 4, .call 74 [(.t 3)], none⟩,
     ⟨some 2, .mov (.t 4), none⟩])
  (.ret))⟩
theorem fok_strconv_Itoa : FOk Tryz.prog 62 code_strconv_Itoa := fok Tryz.func62 (by kernel_rfl)
def code_internal_strconv_Itoa : F := ⟨5, [.tmp 2],
 .seq (.reg [⟨some 2, .mov (.k (.str [])), none⟩])
 (.seq (.reg [⟨some 3, .mov (.t 0), none⟩,
     ⟨some 4, .call 86 [(.t 3), (.k (.int .i64 10))], none⟩,
     ⟨some 2, .mov (.t 4), none⟩])
  (.ret))⟩
theorem fok_internal_strconv_Itoa : FOk Tryz.prog 74 code_internal_strconv_Itoa := fok Tryz.func74 (by kernel_rfl)
def code_internal_strconv_FormatInt : F := ⟨54, [.tmp 4],
 .seq (.reg [⟨some 4, .mov (.k (.str [])), none⟩])
 (.seq (.seq (.reg [⟨some 10, .mov (.t 1), none⟩,
      ⟨some 11, .bin .eql (.t 10) (.k (.int .i64 10)), none⟩])
   (.cond (.t 11)
    (.seq (.seq (.reg [⟨some 12, .mov (.t 0), none⟩,
         ⟨some 13, .bin .leq (.k (.int .i64 0)) (.t 12), none⟩,
         ⟨some 14, .mov (.t 13), none⟩,
         ⟨some 15, .mov (.t 0), some (14, true)⟩,
         ⟨some 16, .bin .lss (.t 15) (.k (.int .i64 100)), some (14, true)⟩,
         ⟨some 17, .pick (.t 14) (.t 16) (.k (.bool false)), none⟩])
      (.cond (.t 17)
       (.seq (.reg [⟨some 18, .mov (.t 0), none⟩,
           ⟨some 19, .call 93 [(.t 18)], none⟩,
           ⟨some 4, .mov (.t 19), none⟩])
        (.ret))
       (.skip)))
     (.seq (.reg [⟨some 5, .alloc [(.int .u8 0), (.int .u8 0), (.int .u8 0), (.int .u8 0), (.int .u8 0), (.int .u8 0), (.int .u8 0), (.int .u8 0), (.int .u8 0), (.int .u8 0), (.int .u8 0), (.int .u8 0), (.int .u8 0), (.int .u8 0), (.int .u8 0), (.int .u8 0), (.int .u8 0), (.int .u8 0), (.int .u8 0), (.int .u8 0), (.int .u8 0), (.int .u8 0), (.int .u8 0), (.int .u8 0)], none⟩])
      (.seq (.reg [⟨some 20, .mov (.t 0), none⟩,
          ⟨some 21, .conv .u64 (.t 20), none⟩,
          ⟨some 6, .mov (.t 21), none⟩])
       (.seq (.seq (.reg [⟨some 22, .mov (.t 0), none⟩,
            ⟨some 23, .bin .lss (.t 22) (.k (.int .i64 0)), none⟩])
         (.cond (.t 23)
          (.reg [⟨some 24, .mov (.t 6), none⟩,
             ⟨some 25, .neg (.t 24), none⟩,
             ⟨some 6, .mov (.t 25), none⟩])
          (.skip)))
        (.seq (.reg [⟨some 26, .mov (.t 6), none⟩,
            ⟨some 27, .call 94 [(.t 26)], none⟩,
            ⟨some 7, .mov (.t 27), none⟩])
         (.seq (.reg [⟨some 28, .mov (.t 7), none⟩,
             ⟨some 29, .bin .add (.k (.int .i64 1)) (.t 28), none⟩,
             ⟨some 30, .bad, none⟩,
             ⟨some 31, .mov (.t 6), none⟩,
             ⟨some 32, .call 95 [(.t 30), (.t 31)], none⟩])
          (.seq (.seq (.reg [⟨some 33, .mov (.t 0), none⟩,
               ⟨some 34, .bin .lss (.t 33) (.k (.int .i64 0)), none⟩])
            (.cond (.t 34)
             (.seq (.reg [⟨some 35, .bad, none⟩,
                 ⟨none, .store 1 (.t 35) (.k (.int .u8 45)), none⟩])
              (.seq (.reg [⟨some 36, .mov (.t 7), none⟩,
                  ⟨some 37, .bin .add (.k (.int .i64 1)) (.t 36), none⟩,
                  ⟨some 38, .bad, none⟩,
                  ⟨some 39, .b2s (.t 38), none⟩,
                  ⟨some 4, .mov (.t 39), none⟩])
               (.ret)))
             (.skip)))
           (.seq (.reg [⟨some 40, .mov (.t 7), none⟩,
               ⟨some 41, .bin .add (.k (.int .i64 1)) (.t 40), none⟩,
               ⟨some 42, .bad, none⟩,
               ⟨some 43, .b2s (.t 42), none⟩,
               ⟨some 4, .mov (.t 43), none⟩])
            (.ret)))))))))
    (.skip)))
  (.seq (.reg [⟨some 45, .mov (.t 0), none⟩,
      ⟨some 46, .conv .u64 (.t 45), none⟩,
      ⟨some 47, .mov (.t 1), none⟩,
      ⟨some 48, .mov (.t 0), none⟩,
      ⟨some 49, .bin .lss (.t 48) (.k (.int .i64 0)), none⟩,
      ⟨some 50, .call 96 [(.k (.sl .nil 0 [])), (.t 46), (.t 47), (.t 49), (.k (.bool false))], none⟩,
      ⟨some 44, .mov (.t 50), none⟩,
      ⟨some 51, .extr (.t 44) 0, none⟩,
      ⟨some 52, .extr (.t 44) 1, none⟩,
      ⟨some 8, .mov (.t 51), none⟩,
      ⟨some 9, .mov (.t 52), none⟩])
   (.seq (.reg [⟨some 53, .mov (.t 9), none⟩,
       ⟨some 4, .mov (.t 53), none⟩])
    (.ret))))⟩
theorem fok_internal_strconv_FormatInt : FOk Tryz.prog 86 code_internal_strconv_FormatInt := fok Tryz.func86 (by kernel_rfl)
def code_internal_strconv_small : F := ⟨15, [.tmp 2],
 .seq (.reg [⟨some 2, .mov (.k (.str [])), none⟩])
 (.seq (.seq (.reg [⟨some 3, .mov (.t 0), none⟩,
      ⟨some 4, .bin .lss (.t 3) (.k (.int .i64 10)), none⟩])
   (.cond (.t 4)
    (.seq (.reg [⟨some 5, .mov (.t 0), none⟩,
        ⟨some 6, .mov (.t 0), none⟩,
        ⟨some 7, .bin .add (.t 6) (.k (.int .i64 1)), none⟩,
        ⟨some 8, .sslice (.k (.str [48, 49, 50, 51, 52, 53, 54, 55, 56, 57, 97, 98, 99, 100, 101, 102, 103, 104, 105, 106, 107, 108, 109, 110, 111, 112, 113, 114, 115, 116, 117, 118, 119, 120, 121, 122])) (some (.t 5)) (some (.t 7)), none⟩,
        ⟨some 2, .mov (.t 8), none⟩])
     (.ret))
    (.skip)))
  (.seq (.reg [⟨some 9, .mov (.t 0), none⟩,
      ⟨some 10, .bin .mul (.t 9) (.k (.int .i64 2)), none⟩,
      ⟨some 11, .mov (.t 0), none⟩,
      ⟨some 12, .bin .mul (.t 11) (.k (.int .i64 2)), none⟩,
      ⟨some 13, .bin .add (.t 12) (.k (.int .i64 2)), none⟩,
      ⟨some 14, .sslice (.k (.str [48, 48, 48, 49, 48, 50, 48, 51, 48, 52, 48, 53, 48, 54, 48, 55, 48, 56, 48, 57, 49, 48, 49, 49, 49, 50, 49, 51, 49, 52, 49, 53, 49, 54, 49, 55, 49, 56, 49, 57, 50, 48, 50, 49, 50, 50, 50, 51, 50, 52, 50, 53, 50, 54, 50, 55, 50, 56, 50, 57, 51, 48, 51, 49, 51, 50, 51, 51, 51, 52, 51, 53, 51, 54, 51, 55, 51, 56, 51, 57, 52, 48, 52, 49, 52, 50, 52, 51, 52, 52, 52, 53, 52, 54, 52, 55, 52, 56, 52, 57, 53, 48, 53, 49, 53, 50, 53, 51, 53, 52, 53, 53, 53, 54, 53, 55, 53, 56, 53, 57, 54, 48, 54, 49, 54, 50, 54, 51, 54, 52, 54, 53, 54, 54, 54, 55, 54, 56, 54, 57, 55, 48, 55, 49, 55, 50, 55, 51, 55, 52, 55, 53, 55, 54, 55, 55, 55, 56, 55, 57, 56, 48, 56, 49, 56, 50, 56, 51, 56, 52, 56, 53, 56, 54, 56, 55, 56, 56, 56, 57, 57, 48, 57, 49, 57, 50, 57, 51, 57, 52, 57, 53, 57, 54, 57, 55, 57, 56, 57, 57])) (some (.t 10)) (some (.t 13)), none⟩,
      ⟨some 2, .mov (.t 14), none⟩])
   (.ret)))⟩
theorem fok_internal_strconv_small : FOk Tryz.prog 93 code_internal_strconv_small := fok Tryz.func93 (by kernel_rfl)
def code_spec_Join : F := ⟨27, [.tmp 4],
 .seq (.reg [⟨some 4, .mov (.k (.str [])), none⟩])
 (.seq (.reg [⟨some 7, .bsl 5 1 0 (.int .u8 0) [], none⟩,
     ⟨some 5, .mov (.t 7), none⟩])
  (.seq (.seq (.reg [⟨some 6, .mov (.k (.int .i64 0)), none⟩])
    (.block 0 (.loop (.seq (.seq (.reg [⟨some 8, .mov (.t 6), none⟩,
           ⟨some 9, .mov (.t 0), none⟩,
           ⟨some 10, .len (.t 9), none⟩,
           ⟨some 11, .bin .lss (.t 8) (.t 10), none⟩])
        (.cond (.t 11)
         (.skip)
         (.exit 0)))
       (.seq (.block 1 (.seq (.seq (.reg [⟨some 14, .mov (.t 6), none⟩,
              ⟨some 15, .bin .gtr (.t 14) (.k (.int .i64 0)), none⟩])
           (.cond (.t 15)
            (.reg [⟨some 16, .mov (.t 5), none⟩,
               ⟨some 17, .mov (.t 1), none⟩,
               ⟨some 18, .appends 5 1 (.t 16) (.t 17), none⟩,
               ⟨some 5, .mov (.t 18), none⟩])
            (.skip)))
          (.reg [⟨some 19, .mov (.t 5), none⟩,
             ⟨some 20, .mov (.t 0), none⟩,
             ⟨some 21, .mov (.t 6), none⟩,
             ⟨some 22, .iaddr 1 (.t 20) (.t 21), none⟩,
             ⟨some 23, .load 1 false (.t 22), none⟩,
             ⟨some 24, .appends 5 1 (.t 19) (.t 23), none⟩,
             ⟨some 5, .mov (.t 24), none⟩])))
        (.reg [⟨some 12, .mov (.t 6), none⟩,
           ⟨some 13, .bin .add (.t 12) (.k (.int .i64 1)), none⟩,
           ⟨some 6, .mov (.t 13), none⟩]))))))
   (.seq (.reg [⟨some 25, .mov (.t 5), none⟩,
       ⟨some 26, .b2s (.t 25), none⟩,
       ⟨some 4, .mov (.t 26), none⟩])
    (.ret))))⟩
theorem fok_spec_Join : FOk Tryz.prog 48 code_spec_Join := fok Tryz.func48 (by kernel_rfl)
def code_impl_Join : F := ⟨8, [.tmp 4],
 .seq (.reg [⟨some 4, .mov (.k (.str [])), none⟩])
 (.seq (.reg [⟨some 5, .mov (.t 0), none⟩,
     ⟨some 6, .mov (.t 1), none⟩,
     ⟨some 7, .call 63 [(.t 5), (.t 6)], none⟩,
     ⟨some 4, .mov (.t 7), none⟩])
  (.ret))⟩
theorem fok_impl_Join : FOk Tryz.prog 45 code_impl_Join := fok Tryz.func45 (by kernel_rfl)
def digS (n : Nat) : List UInt8 := [UInt8.ofNat (48 + n)]
theorem digS_len (n : Nat) : (digS n).length = 1 := rfl
theorem ten {n : Nat} (h : n < 10) : n = 0 ∨ n = 1 ∨ n = 2 ∨ n = 3 ∨ n = 4 ∨ n = 5 ∨ n = 6 ∨ n = 7 ∨ n = 8 ∨ n = 9 := by omega
@[simp] def ct_small : Ct := ⟨93, Int, fun n => 0 ≤ n ∧ n < 10, fun n => [.int .i64 n], fun n => .str (digS n.toNat)⟩
theorem ok_small : ct_small.Ok Tryz.prog := by
  intro n h
  change Int at n
  change 0 ≤ n ∧ n < 10 at h
  obtain ⟨n, rfl⟩ := Int.eq_ofNat_of_zero_le h.1
  replace h : n < 10 := by omega
  rcases ten h with rfl | rfl | rfl | rfl | rfl | rfl | rfl | rfl | rfl | rfl <;> refine Ok.of_cw fok_internal_strconv_small (go_ok tab_nil ?_) <;> simp [code_internal_strconv_small, List.replicate, digS]
@[simp] def ct_iFormatInt : Ct := ⟨86, Int, fun n => 0 ≤ n ∧ n < 10, fun n => [.int .i64 n, .int .i64 10], fun n => .str (digS n.toNat)⟩
theorem ok_iFormatInt : ct_iFormatInt.Ok Tryz.prog := by
  intro n h
  change Int at n
  obtain ⟨h0, h⟩ : 0 ≤ n ∧ n < 10 := h
  have h1 : n < 100 := by omega
  refine Ok.of_cw fok_internal_strconv_FormatInt (go_ok (tab_cons ok_small tab_nil) ?_)
  simp [code_internal_strconv_FormatInt, List.replicate, h, h0, h1]
@[simp] def ct_iItoa : Ct := ⟨74, Int, fun n => 0 ≤ n ∧ n < 10, fun n => [.int .i64 n], fun n => .str (digS n.toNat)⟩
theorem ok_iItoa : ct_iItoa.Ok Tryz.prog := by
  intro n h
  change Int at n
  obtain ⟨h0, h⟩ : 0 ≤ n ∧ n < 10 := h
  refine Ok.of_cw fok_internal_strconv_Itoa (go_ok (tab_cons ok_iFormatInt tab_nil) ?_)
  simp [code_internal_strconv_Itoa, List.replicate, h, h0]
@[simp] def ct_Itoa : Ct := ⟨62, Int, fun n => 0 ≤ n ∧ n < 10, fun n => [.int .i64 n], fun n => .str (digS n.toNat)⟩
theorem ok_Itoa : ct_Itoa.Ok Tryz.prog := by
  intro n h
  change Int at n
  obtain ⟨h0, h⟩ : 0 ≤ n ∧ n < 10 := h
  refine Ok.of_cw fok_strconv_Itoa (go_ok (tab_cons ok_iItoa tab_nil) ?_)
  simp [code_strconv_Itoa, List.replicate, h, h0]
@[simp] def ct_pFormatInt : Ct := ⟨44, Int, fun n => 0 ≤ n ∧ n < 10, fun n => [.int .i64 n], fun n => .str (digS n.toNat)⟩
theorem ok_pFormatInt : ct_pFormatInt.Ok Tryz.prog := by
  intro n h
  change Int at n
  obtain ⟨h0, h⟩ : 0 ≤ n ∧ n < 10 := h
  refine Ok.of_cw fok_impl_FormatInt (go_ok (tab_cons ok_Itoa tab_nil) ?_)
  simp [code_impl_FormatInt, List.replicate, h, h0]
@[simp] def ct_sFormatInt : Ct := ⟨68, Int, fun n => 0 ≤ n ∧ n < 10, fun n => [.int .i64 n], fun n => .str (digS n.toNat)⟩
set_option maxHeartbeats 2000000 in
theorem ok_sFormatInt : ct_sFormatInt.Ok Tryz.prog := by
  intro n h
  change Int at n
  change 0 ≤ n ∧ n < 10 at h
  obtain ⟨n, rfl⟩ := Int.eq_ofNat_of_zero_le h.1
  replace h : n < 10 := by omega
  refine Ok.of_cw fok_spec_FormatInt (go_ok tab_nil ?_)
  by_cases h0 : n = 0
  · subst h0
    simp [code_spec_FormatInt, List.replicate, digS]
  have h0' : ¬ (n : Int) = 0 := by omega
  have h0n : ¬ (n : Int) < 0 := by omega
  simp [code_spec_FormatInt, List.replicate, h0, h0', h0n]
  refine cw_round (fun (p : Nat × List UInt8) => ⟨slots 31 [(0, .int .i64 p.1), (3, .bool false), (4, .str p.2)], []⟩)
    (fun p => p = (n, []) ∨ p = (0, digS n)) (fun p => p.1) (n, []) (.inl rfl) ?_ ?_
  · refine weak_seal 0 (by omega) ?_ ?_
    · simp
    · simp [List.replicate]
  · rintro N hN ⟨k, s⟩ hp
    rcases hp with hp | hp
    · cases hp
      refine go_ok tab_nil ?_
      rcases ten h with rfl | rfl | rfl | rfl | rfl | rfl | rfl | rfl | rfl | rfl
      · exact absurd rfl h0
      all_goals
        simp [List.replicate, bytesOf]
        refine hN _ (0, digS _) _ (.inr rfl) (by simp) (weak_seal 0 (by omega) ?_ ?_)
        · simp
        · simp [List.replicate, digS]
          decide
    · cases hp
      refine go_ok tab_nil ?_
      simp [List.replicate]
/-! ### texts put together -/
theorem appRow_full {H : List Blk} {e s b c len : Nat} {xs els : List AV} (hl : els.length = len) : appRow H e s b c len len xs (some (.row true e s els)) = if (len + xs.length) * b ≤ 140737488355328 then some (.slref c 0 (len + xs.length) (len + xs.length), H.set c (.row true e s (els ++ xs))) else none := by
  subst hl
  simp only [appRow, true_and, Nat.le_refl]
  by_cases h : (els.length + xs.length) * b ≤ 140737488355328
  · rw [if_pos h, if_pos h]
    cases xs with
    | nil => simp
    | cons x xs => rw [if_neg (by simp)]; simp
  · rw [if_neg h, if_neg h]
def encB (c : UInt8) : AV := .int .u8 c.toNat
theorem bytesOf_map : ∀ s : List UInt8, bytesOf (s.map fun c => AV.int .u8 c.toNat) = some s
  | [] => rfl
  | c :: s => by simp [bytesOf, bytesOf_map s]
theorem joinTail_snoc (sep y : List UInt8) (r : List (List UInt8)) : Lib.joinTail sep (r ++ [y]) = Lib.joinTail sep r ++ (sep ++ y) := by simp [Lib.joinTail]
theorem joinS_snoc (sep y : List UInt8) : ∀ l : List (List UInt8), joinS (l ++ [y]) sep = joinS l sep ++ ((if l = [] then [] else sep) ++ y)
  | [] => by simp [joinS, Lib.join_nil, Lib.join_one]
  | x :: l => by simp [joinS, Lib.join_cons, joinTail_snoc]
theorem joinS_nil (sep : List UInt8) : joinS [] sep = [] := rfl
theorem joinTail_len (sep : List UInt8) (m : Nat) : ∀ l : List (List UInt8), (∀ s ∈ l, s.length ≤ m) → (Lib.joinTail sep l).length ≤ l.length * (m + sep.length)
  | [], _ => by simp [Lib.joinTail]
  | x :: l, h => by
    have h1 := joinTail_len sep m l fun s hs => h s (by simp [hs])
    have h2 := h x (by simp)
    have e : Lib.joinTail sep (x :: l) = (sep ++ x) ++ Lib.joinTail sep l := by simp [Lib.joinTail]
    rw [e, List.length_append, List.length_append, List.length_cons, Nat.add_mul]
    omega
theorem joinS_len (sep : List UInt8) (m : Nat) (l : List (List UInt8)) (h : ∀ s ∈ l, s.length ≤ m) : (joinS l sep).length ≤ l.length * (m + sep.length) := by
  cases l with
  | nil => simp [joinS_nil]
  | cons x l =>
    have h1 := joinTail_len sep m l fun s hs => h s (by simp [hs])
    have h2 := h x (by simp)
    rw [joinS, Lib.join_cons, List.length_append, List.length_cons, Nat.add_mul]
    omega
theorem joinS_take (sep : List UInt8) {xs : List (List UInt8)} {k : Nat} (h : k < xs.length) : joinS (xs.take (k + 1)) sep = joinS (xs.take k) sep ++ ((if 0 < k then sep else []) ++ xs[k]) := by
  rw [List.take_succ_eq_append_getElem h, joinS_snoc]
  congr 2
  by_cases h0 : 0 < k
  · rw [if_neg (by intro e; have := congrArg List.length e; rw [List.length_take, List.length_nil] at this; omega), if_pos h0]
  · have : k = 0 := by omega
    subst this
    simp
def joinOk (x : List (List UInt8) × List UInt8) : Prop := x.1.length ≤ 1048576 ∧ x.2.length ≤ 1048576 ∧ ∀ s ∈ x.1, s.length ≤ 1048576
@[simp] def ct_sJoin : Ct := ⟨48, List (List UInt8) × List UInt8, joinOk, fun x => [encL 1 encStr x.1, .str x.2], fun x => .str (joinS x.1 x.2)⟩
set_option maxHeartbeats 2000000 in
theorem ok_sJoin : ct_sJoin.Ok Tryz.prog := by
  rintro ⟨xs, sep⟩ ⟨h1, h2, h3⟩
  change xs.length ≤ 1048576 at h1
  change sep.length ≤ 1048576 at h2
  change ∀ s ∈ xs, s.length ≤ 1048576 at h3
  refine Ok.of_cw fok_spec_Join (go_ok tab_nil ?_)
  simp [code_spec_Join, List.replicate]
  refine cw_round (fun (p : Nat × List UInt8) => ⟨slots 27 [(0, encL 1 encStr xs), (1, .str sep), (5, .slref 0 0 p.2.length p.2.length), (6, .int .i64 p.1)], [.row true 5 1 (p.2.map fun c => .int .u8 c.toNat)]⟩)
    (fun p => p.1 ≤ xs.length ∧ p.2 = joinS (xs.take p.1) sep) (fun p => xs.length - p.1) (0, []) ⟨by simp, by simp [joinS_nil]⟩ ?_ ?_
  · refine weak_less ?_ ?_
    · simp
    · simp [List.replicate]
  · rintro N hN ⟨k, b⟩ ⟨hk, hb⟩
    change k ≤ xs.length at hk
    change b = joinS (xs.take k) sep at hb
    have hw : IntKind.i64.wrap ((k : Int) + 1) = ((k + 1 : Nat) : Int) := by rw [wrap_i64] <;> omega
    have hbl : b.length ≤ 2199023255552 := by
      have := joinS_len sep 1048576 (xs.take k) fun s hs => h3 s (List.mem_of_mem_take hs)
      rw [← hb] at this
      have h4 : (xs.take k).length ≤ 1048576 := by rw [List.length_take]; omega
      have h5 : (xs.take k).length * (1048576 + sep.length) ≤ 1048576 * 2097152 := Nat.mul_le_mul h4 (by omega)
      omega
    by_cases g : k < xs.length
    · have g2 : ¬ xs.length ≤ k := by omega
      have hs := joinS_take sep g
      rw [← hb] at hs
      have hxl := h3 xs[k] (List.getElem_mem g)
      refine go_ok tab_nil ?_
      by_cases h0 : 0 < k
      · have h0' : ¬ k = 0 := by omega
        have b1 : b.length + sep.length ≤ 140737488355328 := by omega
        have b2 : b.length + (sep.length + xs[k].length) ≤ 140737488355328 := by omega
        rw [if_pos h0] at hs
        simp [-appRow, appRow_full, List.replicate, hw, g, g2, h0, h0', b1, b2, Nat.add_assoc]
        refine hN (k, b) (k + 1, b ++ (sep ++ xs[k])) _ ⟨by simp only; omega, hs.symm⟩ (by simp only; omega) (weak_less ?_ ?_)
        · simp
        · simp [List.replicate, Nat.add_assoc]
      · have e : k = 0 := by omega
        subst e
        rw [if_neg h0] at hs
        have b1 : b.length + xs[0].length ≤ 140737488355328 := by omega
        have hne : xs ≠ [] := by rintro rfl; simp at g
        simp [-appRow, appRow_full, List.replicate, hw, g, g2, b1, hne]
        refine hN (0, b) (1, b ++ xs[0]) _ ⟨by simp only; omega, by simpa using hs.symm⟩ (by simp only; omega) (weak_less ?_ ?_)
        · simp
        · simp [List.replicate]
    · have e : k = xs.length := by omega
      subst e
      rw [List.take_length] at hb
      subst hb
      refine go_ok tab_nil ?_
      simp [List.replicate, hw, bytesOf_map]
@[simp] def ct_pJoin : Ct := ⟨45, List (List UInt8) × List UInt8, joinOk, fun x => [encL 1 encStr x.1, .str x.2], fun x => .str (joinS x.1 x.2)⟩
theorem ok_pJoin : ct_pJoin.Ok Tryz.prog := by
  rintro ⟨xs, sep⟩ ⟨h1, h2, h3⟩
  change xs.length ≤ 1048576 at h1
  change sep.length ≤ 1048576 at h2
  change ∀ s ∈ xs, s.length ≤ 1048576 at h3
  have h4 := joinS_len sep 1048576 xs h3
  have h5 : xs.length * (1048576 + sep.length) ≤ 1048576 * 2097152 := Nat.mul_le_mul h1 (by omega)
  have h6 : (joinS xs sep).length ≤ 140737488355328 := by omega
  have h7 : xs.length ≤ 140737488355328 := by omega
  refine Ok.of_cw fok_impl_Join (go_ok (tab_cons ok_libJoin tab_nil) ?_)
  simp [code_impl_Join, List.replicate, h6, h7]
end Go.Vm

namespace Go.Vm
open Go.Proofs
def code_spec_IsName : F := ⟨23, [.tmp 2],
 .seq (.reg [⟨some 2, .mov (.k (.bool false)), none⟩])
 (.seq (.seq (.reg [⟨some 3, .mov (.k (.int .i64 0)), none⟩])
   (.block 0 (.loop (.seq (.seq (.reg [⟨some 4, .mov (.t 3), none⟩,
          ⟨some 5, .mov (.t 0), none⟩,
          ⟨some 6, .slen (.t 5), none⟩,
          ⟨some 7, .bin .lss (.t 4) (.t 6), none⟩])
       (.cond (.t 7)
        (.skip)
        (.exit 0)))
      (.seq (.block 1 (.seq (.reg [⟨some 10, .mov (.t 0), none⟩,
            ⟨some 11, .mov (.t 3), none⟩,
            ⟨some 12, .idxs (.t 10) (.t 11), none⟩,
            ⟨some 13, .bin .lss (.t 12) (.k (.int .u8 97)), none⟩,
            ⟨some 14, .mov (.t 13), none⟩,
            ⟨some 15, .mov (.t 0), some (14, false)⟩,
            ⟨some 16, .mov (.t 3), some (14, false)⟩,
            ⟨some 17, .idxs (.t 15) (.t 16), some (14, false)⟩,
            ⟨some 18, .bin .gtr (.t 17) (.k (.int .u8 122)), some (14, false)⟩,
            ⟨some 19, .pick (.t 14) (.k (.bool true)) (.t 18), none⟩])
         (.cond (.t 19)
          (.seq (.reg [⟨some 2, .mov (.k (.bool false)), none⟩])
           (.ret))
          (.skip))))
       (.reg [⟨some 8, .mov (.t 3), none⟩,
          ⟨some 9, .bin .add (.t 8) (.k (.int .i64 1)), none⟩,
          ⟨some 3, .mov (.t 9), none⟩]))))))
  (.seq (.reg [⟨some 20, .mov (.t 0), none⟩,
      ⟨some 21, .slen (.t 20), none⟩,
      ⟨some 22, .call 37 [(.t 21), (.k (.int .i64 1)), (.k (.int .i64 2))], none⟩,
      ⟨some 2, .mov (.t 22), none⟩])
   (.ret)))⟩
theorem fok_spec_IsName : FOk Tryz.prog 64 code_spec_IsName := fok Tryz.func64 (by kernel_rfl)
def code_impl_IsName : F := ⟨23, [.tmp 2],
 .seq (.reg [⟨some 2, .mov (.k (.bool false)), none⟩])
 (.seq (.seq (.reg [⟨some 4, .mov (.t 0), none⟩,
      ⟨some 5, .slen (.t 4), none⟩,
      ⟨some 6, .mov (.k (.int .i64 0)), none⟩])
   (.block 0 (.loop (.seq (.reg [⟨some 7, .bin .lss (.t 6) (.t 5), none⟩])
      (.seq (.cond (.t 7)
        (.skip)
        (.exit 0))
       (.seq (.block 1 (.seq (.reg [⟨some 8, .mov (.t 6), none⟩,
             ⟨some 3, .mov (.t 8), none⟩])
          (.seq (.reg [⟨some 9, .mov (.t 0), none⟩,
              ⟨some 10, .mov (.t 3), none⟩,
              ⟨some 11, .idxs (.t 9) (.t 10), none⟩,
              ⟨some 12, .bin .lss (.t 11) (.k (.int .u8 97)), none⟩,
              ⟨some 13, .mov (.t 12), none⟩,
              ⟨some 14, .mov (.t 0), some (13, false)⟩,
              ⟨some 15, .mov (.t 3), some (13, false)⟩,
              ⟨some 16, .idxs (.t 14) (.t 15), some (13, false)⟩,
              ⟨some 17, .bin .gtr (.t 16) (.k (.int .u8 122)), some (13, false)⟩,
              ⟨some 18, .pick (.t 13) (.k (.bool true)) (.t 17), none⟩])
           (.cond (.t 18)
            (.seq (.reg [⟨some 2, .mov (.k (.bool false)), none⟩])
             (.ret))
            (.skip)))))
        (.reg [⟨some 19, .bin .add (.t 6) (.k (.int .i64 1)), none⟩,
           ⟨some 6, .mov (.t 19), none⟩])))))))
  (.seq (.reg [⟨some 20, .mov (.t 0), none⟩,
      ⟨some 21, .slen (.t 20), none⟩,
      ⟨some 22, .call 30 [(.t 21), (.k (.int .i64 1)), (.k (.int .i64 2))], none⟩,
      ⟨some 2, .mov (.t 22), none⟩])
   (.ret)))⟩
theorem fok_impl_IsName : FOk Tryz.prog 59 code_impl_IsName := fok Tryz.func59 (by kernel_rfl)
def code_spec_IndexOf : F := ⟨19, [.tmp 4],
 .seq (.reg [⟨some 4, .mov (.k (.int .i64 0)), none⟩])
 (.seq (.seq (.reg [⟨some 5, .mov (.k (.int .i64 0)), none⟩])
   (.block 0 (.loop (.seq (.seq (.reg [⟨some 6, .mov (.t 5), none⟩,
          ⟨some 7, .mov (.t 0), none⟩,
          ⟨some 8, .len (.t 7), none⟩,
          ⟨some 9, .bin .lss (.t 6) (.t 8), none⟩])
       (.cond (.t 9)
        (.skip)
        (.exit 0)))
      (.seq (.block 1 (.seq (.reg [⟨some 12, .mov (.t 0), none⟩,
            ⟨some 13, .mov (.t 5), none⟩,
            ⟨some 14, .iaddr 1 (.t 12) (.t 13), none⟩,
            ⟨some 15, .load 1 false (.t 14), none⟩,
            ⟨some 16, .mov (.t 1), none⟩,
            ⟨some 17, .bin .eql (.t 15) (.t 16), none⟩])
         (.cond (.t 17)
          (.seq (.reg [⟨some 18, .mov (.t 5), none⟩,
              ⟨some 4, .mov (.t 18), none⟩])
           (.ret))
          (.skip))))
       (.reg [⟨some 10, .mov (.t 5), none⟩,
          ⟨some 11, .bin .add (.t 10) (.k (.int .i64 1)), none⟩,
          ⟨some 5, .mov (.t 11), none⟩]))))))
  (.seq (.reg [⟨some 4, .mov (.k (.int .i64 (-1))), none⟩])
   (.ret)))⟩
theorem fok_spec_IndexOf : FOk Tryz.prog 65 code_spec_IndexOf := fok Tryz.func65 (by kernel_rfl)
def code_slices_Index_string_string : F := ⟨19, [.tmp 4],
 .seq (.reg [⟨some 4, .mov (.k (.int .i64 0)), none⟩])
 (.seq (.seq (.reg [⟨some 6, .mov (.t 0), none⟩,
      ⟨some 7, .len (.t 6), none⟩,
      ⟨some 8, .mov (.k (.int .i64 0)), none⟩])
   (.block 0 (.loop (.seq (.reg [⟨some 9, .bin .lss (.t 8) (.t 7), none⟩])
      (.seq (.cond (.t 9)
        (.skip)
        (.exit 0))
       (.seq (.block 1 (.seq (.reg [⟨some 10, .mov (.t 8), none⟩,
             ⟨some 5, .mov (.t 10), none⟩])
          (.seq (.reg [⟨some 11, .mov (.t 1), none⟩,
              ⟨some 12, .mov (.t 0), none⟩,
              ⟨some 13, .mov (.t 5), none⟩,
              ⟨some 14, .iaddr 1 (.t 12) (.t 13), none⟩,
              ⟨some 15, .load 1 false (.t 14), none⟩,
              ⟨some 16, .bin .eql (.t 11) (.t 15), none⟩])
           (.cond (.t 16)
            (.seq (.reg [⟨some 17, .mov (.t 5), none⟩,
                ⟨some 4, .mov (.t 17), none⟩])
             (.ret))
            (.skip)))))
        (.reg [⟨some 18, .bin .add (.t 8) (.k (.int .i64 1)), none⟩,
           ⟨some 8, .mov (.t 18), none⟩])))))))
  (.seq (.reg [⟨some 4, .mov (.k (.int .i64 (-1))), none⟩])
   (.ret)))⟩
theorem fok_slices_Index_string_string : FOk Tryz.prog 73 code_slices_Index_string_string := fok Tryz.func73 (by kernel_rfl)
def code_impl_IndexOf : F := ⟨8, [.tmp 4],
 .seq (.reg [⟨some 4, .mov (.k (.int .i64 0)), none⟩])
 (.seq (.reg [⟨some 5, .mov (.t 0), none⟩,
     ⟨some 6, .mov (.t 1), none⟩,
     ⟨some 7, .call 73 [(.t 5), (.t 6)], none⟩,
     ⟨some 4, .mov (.t 7), none⟩])
  (.ret))⟩
theorem fok_impl_IndexOf : FOk Tryz.prog 60 code_impl_IndexOf := fok Tryz.func60 (by kernel_rfl)
def code_spec_AreVars : F := ⟨29, [.tmp 2],
 .seq (.reg [⟨some 2, .mov (.k (.bool false)), none⟩])
 (.seq (.seq (.reg [⟨some 3, .mov (.k (.int .i64 0)), none⟩])
   (.block 0 (.loop (.seq (.seq (.reg [⟨some 4, .mov (.t 3), none⟩,
          ⟨some 5, .mov (.t 0), none⟩,
          ⟨some 6, .len (.t 5), none⟩,
          ⟨some 7, .bin .lss (.t 4) (.t 6), none⟩])
       (.cond (.t 7)
        (.skip)
        (.exit 0)))
      (.seq (.block 1 (.seq (.reg [⟨some 10, .mov (.t 0), none⟩,
            ⟨some 11, .mov (.t 3), none⟩,
            ⟨some 12, .iaddr 1 (.t 10) (.t 11), none⟩,
            ⟨some 13, .load 1 false (.t 12), none⟩,
            ⟨some 14, .call 64 [(.t 13)], none⟩,
            ⟨some 15, .not (.t 14), none⟩,
            ⟨some 16, .mov (.t 15), none⟩,
            ⟨some 17, .mov (.t 0), some (16, false)⟩,
            ⟨some 18, .mov (.t 0), some (16, false)⟩,
            ⟨some 19, .mov (.t 3), some (16, false)⟩,
            ⟨some 20, .iaddr 1 (.t 18) (.t 19), some (16, false)⟩,
            ⟨some 21, .load 1 false (.t 20), some (16, false)⟩,
            ⟨some 22, .call 65 [(.t 17), (.t 21)], some (16, false)⟩,
            ⟨some 23, .mov (.t 3), some (16, false)⟩,
            ⟨some 24, .bin .neq (.t 22) (.t 23), some (16, false)⟩,
            ⟨some 25, .pick (.t 16) (.k (.bool true)) (.t 24), none⟩])
         (.cond (.t 25)
          (.seq (.reg [⟨some 2, .mov (.k (.bool false)), none⟩])
           (.ret))
          (.skip))))
       (.reg [⟨some 8, .mov (.t 3), none⟩,
          ⟨some 9, .bin .add (.t 8) (.k (.int .i64 1)), none⟩,
          ⟨some 3, .mov (.t 9), none⟩]))))))
  (.seq (.reg [⟨some 26, .mov (.t 0), none⟩,
      ⟨some 27, .len (.t 26), none⟩,
      ⟨some 28, .call 37 [(.t 27), (.k (.int .i64 1)), (.k (.int .i64 4))], none⟩,
      ⟨some 2, .mov (.t 28), none⟩])
   (.ret)))⟩
theorem fok_spec_AreVars : FOk Tryz.prog 46 code_spec_AreVars := fok Tryz.func46 (by kernel_rfl)
def code_impl_AreVars : F := ⟨26, [.tmp 2],
 .seq (.reg [⟨some 2, .mov (.k (.bool false)), none⟩])
 (.seq (.seq (.reg [⟨some 5, .mov (.t 0), none⟩,
      ⟨some 6, .len (.t 5), none⟩,
      ⟨some 7, .mov (.k (.int .i64 0)), none⟩])
   (.block 0 (.loop (.seq (.reg [⟨some 8, .bin .lss (.t 7) (.t 6), none⟩])
      (.seq (.cond (.t 8)
        (.skip)
        (.exit 0))
       (.seq (.block 1 (.seq (.reg [⟨some 9, .mov (.t 7), none⟩,
             ⟨some 10, .iaddr 1 (.t 5) (.t 7), none⟩,
             ⟨some 11, .load 1 false (.t 10), none⟩,
             ⟨some 3, .mov (.t 9), none⟩,
             ⟨some 4, .mov (.t 11), none⟩])
          (.seq (.reg [⟨some 12, .mov (.t 4), none⟩,
              ⟨some 13, .call 59 [(.t 12)], none⟩,
              ⟨some 14, .not (.t 13), none⟩,
              ⟨some 15, .mov (.t 14), none⟩,
              ⟨some 16, .mov (.t 0), some (15, false)⟩,
              ⟨some 17, .mov (.t 4), some (15, false)⟩,
              ⟨some 18, .call 60 [(.t 16), (.t 17)], some (15, false)⟩,
              ⟨some 19, .mov (.t 3), some (15, false)⟩,
              ⟨some 20, .bin .neq (.t 18) (.t 19), some (15, false)⟩,
              ⟨some 21, .pick (.t 15) (.k (.bool true)) (.t 20), none⟩])
           (.cond (.t 21)
            (.seq (.reg [⟨some 2, .mov (.k (.bool false)), none⟩])
             (.ret))
            (.skip)))))
        (.reg [⟨some 22, .bin .add (.t 7) (.k (.int .i64 1)), none⟩,
           ⟨some 7, .mov (.t 22), none⟩])))))))
  (.seq (.reg [⟨some 23, .mov (.t 0), none⟩,
      ⟨some 24, .len (.t 23), none⟩,
      ⟨some 25, .call 30 [(.t 24), (.k (.int .i64 1)), (.k (.int .i64 4))], none⟩,
      ⟨some 2, .mov (.t 25), none⟩])
   (.ret)))⟩
theorem fok_impl_AreVars : FOk Tryz.prog 42 code_impl_AreVars := fok Tryz.func42 (by kernel_rfl)
def highC (c : UInt8) : Bool := decide ((c.toNat : Int) < 97) || decide ((122 : Int) < (c.toNat : Int))
def nameB (s : List UInt8) : Bool := !s.any highC && (decide ((1 : Int) ≤ (s.length : Int)) && decide ((s.length : Int) ≤ 2))
@[simp] def ct_sIsName : Ct := ⟨64, List UInt8, fun s => s.length ≤ 4611686018427387904, fun s => [.str s], fun s => .bool (nameB s)⟩
set_option maxHeartbeats 1000000 in
theorem ok_sIsName : ct_sIsName.Ok Tryz.prog := by
  rintro s hs
  change List UInt8 at s
  change s.length ≤ 4611686018427387904 at hs
  refine Ok.of_cw fok_spec_IsName (go_ok (tab_cons ok_l1In tab_nil) ?_)
  simp [code_spec_IsName, List.replicate]
  refine cw_round (fun (i : Nat) => ⟨slots 23 [(0, .str s), (3, .int .i64 i)], []⟩)
    (fun i => i ≤ s.length ∧ noHit highC s i) (fun i => s.length - i) 0 ⟨by omega, noHit_zero⟩ ?_ ?_
  · exact weak_seal 0 (by omega) (by simp) (by simp [List.replicate])
  · rintro N hN i ⟨hi, hn⟩
    have hw : IntKind.i64.wrap ((i : Int) + 1) = ((i + 1 : Nat) : Int) := by rw [wrap_i64] <;> omega
    refine go_ok (tab_cons ok_l1In tab_nil) ?_
    by_cases h : i < s.length
    · have h2 : ¬ s.length ≤ i := by omega
      by_cases c1 : ((s[i].toNat : Nat) : Int) < 97
      · have hf : nameB s = false := by unfold nameB; rw [any_hit h (by simp [highC, c1])]; rfl
        have c1n : ¬ ((97 : Int) ≤ ((s[i].toNat : Nat) : Int)) := by omega
        simp [List.replicate, hw, h, h2, c1, c1n, hf]
      · by_cases c2 : (122 : Int) < ((s[i].toNat : Nat) : Int)
        · have hf : nameB s = false := by unfold nameB; rw [any_hit h (by simp [highC, c2])]; rfl
          have c1n : (97 : Int) ≤ ((s[i].toNat : Nat) : Int) := by omega
          have c2n : ¬ (((s[i].toNat : Nat) : Int) ≤ 122) := by omega
          simp [List.replicate, hw, h, h2, c1, c2, c1n, c2n, hf]
        · have c1n : (97 : Int) ≤ ((s[i].toNat : Nat) : Int) := by omega
          have c2n : ((s[i].toNat : Nat) : Int) ≤ 122 := by omega
          simp [List.replicate, hw, h, h2, c1, c2, c1n, c2n]
          refine hN i (i + 1) _ ⟨by omega, noHit_succ hn h (by simp [highC]; omega)⟩ (by omega) (weak_seal 0 (by omega) ?_ ?_)
          · simp
          · simp [List.replicate]
    · have hf : nameB s = (decide ((1 : Int) ≤ (s.length : Int)) && decide ((s.length : Int) ≤ 2)) := by unfold nameB; rw [any_none hn (by omega)]; rfl
      have h2 : s.length ≤ i := by omega
      simp [List.replicate, h, h2, hf]
@[simp] def ct_pIsName : Ct := ⟨59, List UInt8, fun s => s.length ≤ 4611686018427387904, fun s => [.str s], fun s => .bool (nameB s)⟩
set_option maxHeartbeats 1000000 in
theorem ok_pIsName : ct_pIsName.Ok Tryz.prog := by
  rintro s hs
  change List UInt8 at s
  change s.length ≤ 4611686018427387904 at hs
  refine Ok.of_cw fok_impl_IsName (go_ok (tab_cons ok_within tab_nil) ?_)
  simp [code_impl_IsName, List.replicate]
  refine cw_round (fun (i : Nat) => ⟨slots 23 [(0, .str s), (5, .int .i64 s.length), (6, .int .i64 i)], []⟩)
    (fun i => i ≤ s.length ∧ noHit highC s i) (fun i => s.length - i) 0 ⟨by omega, noHit_zero⟩ ?_ ?_
  · exact weak_seal 0 (by omega) (by simp) (by simp [List.replicate])
  · rintro N hN i ⟨hi, hn⟩
    have hw : IntKind.i64.wrap ((i : Int) + 1) = ((i + 1 : Nat) : Int) := by rw [wrap_i64] <;> omega
    refine go_ok (tab_cons ok_within tab_nil) ?_
    by_cases h : i < s.length
    · have h2 : ¬ s.length ≤ i := by omega
      by_cases c1 : ((s[i].toNat : Nat) : Int) < 97
      · have hf : nameB s = false := by unfold nameB; rw [any_hit h (by simp [highC, c1])]; rfl
        have c1n : ¬ ((97 : Int) ≤ ((s[i].toNat : Nat) : Int)) := by omega
        simp [List.replicate, hw, h, h2, c1, c1n, hf]
      · by_cases c2 : (122 : Int) < ((s[i].toNat : Nat) : Int)
        · have hf : nameB s = false := by unfold nameB; rw [any_hit h (by simp [highC, c2])]; rfl
          have c1n : (97 : Int) ≤ ((s[i].toNat : Nat) : Int) := by omega
          have c2n : ¬ (((s[i].toNat : Nat) : Int) ≤ 122) := by omega
          simp [List.replicate, hw, h, h2, c1, c2, c1n, c2n, hf]
        · have c1n : (97 : Int) ≤ ((s[i].toNat : Nat) : Int) := by omega
          have c2n : ((s[i].toNat : Nat) : Int) ≤ 122 := by omega
          simp [List.replicate, hw, h, h2, c1, c2, c1n, c2n]
          refine hN i (i + 1) _ ⟨by omega, noHit_succ hn h (by simp [highC]; omega)⟩ (by omega) (weak_seal 0 (by omega) ?_ ?_)
          · simp
          · simp [List.replicate]
    · have hf : nameB s = (decide ((1 : Int) ≤ (s.length : Int)) && decide ((s.length : Int) ≤ 2)) := by unfold nameB; rw [any_none hn (by omega)]; rfl
      have h2 : s.length ≤ i := by omega
      simp [List.replicate, h, h2, hf]
def ixS (list : List (List UInt8)) (s : List UInt8) : Int := findI (fun a => s == a) list
@[simp] def ct_IndexS : Ct := ⟨73, List (List UInt8) × List UInt8, fun _ => True, fun x => [encL 1 encStr x.1, .str x.2], fun x => .int .i64 (ixS x.1 x.2)⟩
theorem ok_IndexS : ct_IndexS.Ok Tryz.prog := by
  rintro ⟨xs, v⟩ -
  refine Ok.lens fun hl => Ok.of_cw fok_slices_Index_string_string (go_ok tab_nil ?_)
  simp [lensOkL_cons, lensOk_encL] at hl
  simp [code_slices_Index_string_string, List.replicate]
  refine cw_round (fun (p : Nat) => ⟨slots 19 [(0, encL 1 encStr xs), (1, .str v), (7, .int .i64 xs.length), (8, .int .i64 p)], []⟩)
    (fun p => p ≤ xs.length ∧ noHit (fun a => v == a) xs p) (fun p => xs.length - p) 0 ⟨by omega, noHit_zero⟩ ?_ ?_
  · exact weak_seal 0 (by omega) (by simp) (by simp [List.replicate])
  · rintro N hN i ⟨hi, hn⟩
    have hw : i < xs.length → IntKind.i64.wrap ((i : Int) + 1) = ((i + 1 : Nat) : Int) := fun h => by rw [wrap_i64] <;> omega
    refine go_ok tab_nil ?_
    by_cases h : i < xs.length
    · simp [List.replicate, hw, h]
      refine ⟨fun e => ?_, fun e => ?_⟩
      · unfold ixS
        rw [findI_hit hn h (by simp [e])]
      · refine hN _ (i + 1) _ ⟨by omega, noHit_succ hn h (by simp [e])⟩ (by omega) (weak_seal 0 (by omega) ?_ ?_)
        · simp
        · simp [List.replicate]
    · simp [List.replicate, h]
      unfold ixS
      rw [findI_none hn (by omega)]
@[simp] def ct_pIndexOf : Ct := ⟨60, List (List UInt8) × List UInt8, fun _ => True, fun x => [encL 1 encStr x.1, .str x.2], fun x => .int .i64 (ixS x.1 x.2)⟩
theorem ok_pIndexOf : ct_pIndexOf.Ok Tryz.prog := by
  rintro ⟨xs, v⟩ -
  refine Ok.of_cw fok_impl_IndexOf (go_ok (tab_cons ok_IndexS tab_nil) ?_)
  simp [code_impl_IndexOf, List.replicate]
@[simp] def ct_sIndexOf : Ct := ⟨65, List (List UInt8) × List UInt8, fun _ => True, fun x => [encL 1 encStr x.1, .str x.2], fun x => .int .i64 (ixS x.1 x.2)⟩
theorem ok_sIndexOf : ct_sIndexOf.Ok Tryz.prog := by
  rintro ⟨xs, v⟩ -
  refine Ok.lens fun hl => Ok.of_cw fok_spec_IndexOf (go_ok tab_nil ?_)
  simp [lensOkL_cons, lensOk_encL] at hl
  simp [code_spec_IndexOf, List.replicate]
  refine cw_round (fun (p : Nat) => ⟨slots 19 [(0, encL 1 encStr xs), (1, .str v), (5, .int .i64 p)], []⟩)
    (fun p => p ≤ xs.length ∧ noHit (fun a => v == a) xs p) (fun p => xs.length - p) 0 ⟨by omega, noHit_zero⟩ ?_ ?_
  · exact weak_seal 0 (by omega) (by simp) (by simp [List.replicate])
  · rintro N hN i ⟨hi, hn⟩
    have hw : i < xs.length → IntKind.i64.wrap ((i : Int) + 1) = ((i + 1 : Nat) : Int) := fun h => by rw [wrap_i64] <;> omega
    refine go_ok tab_nil ?_
    by_cases h : i < xs.length
    · have h2 : ¬ xs.length ≤ i := by omega
      simp [List.replicate, hw, h, h2]
      refine ⟨fun e => ?_, fun e => ?_⟩
      · unfold ixS
        rw [findI_hit hn h (by simp [e])]
      · refine hN _ (i + 1) _ ⟨by omega, noHit_succ hn h (by simp; exact fun q => e q.symm)⟩ (by omega) (weak_seal 0 (by omega) ?_ ?_)
        · simp
        · simp [List.replicate]
    · have h2 : xs.length ≤ i := by omega
      simp [List.replicate, h, h2]
      unfold ixS
      rw [findI_none hn (by omega)]
/-- Which of the elements is no name, or stands there again? -/
def badV (list : List (List UInt8)) (i : Nat) : Bool := !nameB (list.getD i []) || !decide (ixS list (list.getD i []) = (i : Int))
def varsB (list : List (List UInt8)) : Bool := (List.range list.length).all (fun i => !badV list i) && (decide ((1 : Int) ≤ (list.length : Int)) && decide ((list.length : Int) ≤ 4))
def szVarsOk (list : List (List UInt8)) : Prop := list.length ≤ 1048576 ∧ ∀ s ∈ list, s.length ≤ 4611686018427387904
theorem range_bad {p : Nat → Bool} {n i : Nat} (h : i < n) (e : p i = true) : (List.range n).all (fun i => !p i) = false := by
  rw [List.all_eq_false]
  exact ⟨i, by simpa using h, by simp [e]⟩
theorem range_good {p : Nat → Bool} {n : Nat} (h : ∀ j, j < n → p j = false) : (List.range n).all (fun i => !p i) = true := by
  rw [List.all_eq_true]
  intro j hj
  rw [h j (by simpa using hj)]; rfl
@[simp] def ct_sAreVars : Ct := ⟨46, List (List UInt8), szVarsOk, fun x => [encL 1 encStr x], fun x => .bool (varsB x)⟩
set_option maxHeartbeats 1000000 in
theorem ok_sAreVars : ct_sAreVars.Ok Tryz.prog := by
  rintro xs ⟨hx, hsz⟩
  change List (List UInt8) at xs
  refine Ok.of_cw fok_spec_AreVars (go_ok (tab_cons ok_l1In tab_nil) ?_)
  simp [code_spec_AreVars, List.replicate]
  refine cw_round (fun (i : Nat) => ⟨slots 29 [(0, encL 1 encStr xs), (3, .int .i64 i)], []⟩)
    (fun i => i ≤ xs.length ∧ ∀ j, j < i → badV xs j = false) (fun i => xs.length - i) 0 ⟨by omega, fun j hj => absurd hj (by omega)⟩ ?_ ?_
  · exact weak_seal 0 (by omega) (by simp) (by simp [List.replicate])
  · rintro N hN i ⟨hi, hn⟩
    have hw : IntKind.i64.wrap ((i : Int) + 1) = ((i + 1 : Nat) : Int) := by rw [wrap_i64] <;> omega
    refine go_ok (tab_cons ok_sIsName (tab_cons ok_sIndexOf tab_nil)) ?_
    by_cases h : i < xs.length
    · have h2 : ¬ xs.length ≤ i := by omega
      have hs := hsz xs[i] (List.getElem_mem h)
      have eg : xs.getD i [] = xs[i] := by simp [h]
      have bad : badV xs i = true → varsB xs = false := fun e => by unfold varsB; rw [range_bad h e]; rfl
      cases c1 : nameB xs[i]
      · have hf := bad (by unfold badV; rw [eg, c1]; rfl)
        simp [List.replicate, hw, h, h2, hs, c1, hf]
      · by_cases c2 : ixS xs xs[i] = (i : Int)
        · have hg : badV xs i = false := by unfold badV; rw [eg, c1, decide_eq_true c2]; rfl
          simp [List.replicate, hw, h, h2, hs, c1, c2]
          refine hN i (i + 1) _ ⟨by omega, fun j hj => ?_⟩ (by omega) (weak_seal 0 (by omega) ?_ ?_)
          · by_cases q : j = i
            · subst q; exact hg
            · exact hn j (by omega)
          · simp
          · simp [List.replicate]
        · have hf := bad (by unfold badV; rw [eg, c1, decide_eq_false c2]; rfl)
          simp [List.replicate, hw, h, h2, hs, c1, c2, hf]
    · have h2 : xs.length ≤ i := by omega
      have hf : varsB xs = (decide ((1 : Int) ≤ (xs.length : Int)) && decide ((xs.length : Int) ≤ 4)) := by unfold varsB; rw [range_good fun j hj => hn j (by omega)]; rfl
      simp [List.replicate, h, h2, hf]
@[simp] def ct_pAreVars : Ct := ⟨42, List (List UInt8), szVarsOk, fun x => [encL 1 encStr x], fun x => .bool (varsB x)⟩
set_option maxHeartbeats 1000000 in
theorem ok_pAreVars : ct_pAreVars.Ok Tryz.prog := by
  rintro xs ⟨hx, hsz⟩
  change List (List UInt8) at xs
  refine Ok.of_cw fok_impl_AreVars (go_ok (tab_cons ok_within tab_nil) ?_)
  simp [code_impl_AreVars, List.replicate]
  refine cw_round (fun (i : Nat) => ⟨slots 26 [(0, encL 1 encStr xs), (5, encL 1 encStr xs), (6, .int .i64 xs.length), (7, .int .i64 i)], []⟩)
    (fun i => i ≤ xs.length ∧ ∀ j, j < i → badV xs j = false) (fun i => xs.length - i) 0 ⟨by omega, fun j hj => absurd hj (by omega)⟩ ?_ ?_
  · exact weak_seal 0 (by omega) (by simp) (by simp [List.replicate])
  · rintro N hN i ⟨hi, hn⟩
    have hw : IntKind.i64.wrap ((i : Int) + 1) = ((i + 1 : Nat) : Int) := by rw [wrap_i64] <;> omega
    refine go_ok (tab_cons ok_pIsName (tab_cons ok_pIndexOf tab_nil)) ?_
    by_cases h : i < xs.length
    · have h2 : ¬ xs.length ≤ i := by omega
      have hs := hsz xs[i] (List.getElem_mem h)
      have eg : xs.getD i [] = xs[i] := by simp [h]
      have bad : badV xs i = true → varsB xs = false := fun e => by unfold varsB; rw [range_bad h e]; rfl
      cases c1 : nameB xs[i]
      · have hf := bad (by unfold badV; rw [eg, c1]; rfl)
        simp [List.replicate, hw, h, h2, hs, c1, hf]
      · by_cases c2 : ixS xs xs[i] = (i : Int)
        · have hg : badV xs i = false := by unfold badV; rw [eg, c1, decide_eq_true c2]; rfl
          simp [List.replicate, hw, h, h2, hs, c1, c2]
          refine hN i (i + 1) _ ⟨by omega, fun j hj => ?_⟩ (by omega) (weak_seal 0 (by omega) ?_ ?_)
          · by_cases q : j = i
            · subst q; exact hg
            · exact hn j (by omega)
          · simp
          · simp [List.replicate]
        · have hf := bad (by unfold badV; rw [eg, c1, decide_eq_false c2]; rfl)
          simp [List.replicate, hw, h, h2, hs, c1, c2, hf]
    · have h2 : xs.length ≤ i := by omega
      have hf : varsB xs = (decide ((1 : Int) ≤ (xs.length : Int)) && decide ((xs.length : Int) ≤ 4)) := by unfold varsB; rw [range_good fun j hj => hn j (by omega)]; rfl
      simp [List.replicate, h, h2, hf]
def namesN (k : Int) : Int := if k = 1 then 0 else if k = 2 ∨ k = 3 ∨ k = 6 ∨ k = 8 ∨ k = 9 ∨ k = 10 then 1 else if k = 4 ∨ k = 5 ∨ k = 7 ∨ k = 11 ∨ k = 12 then 2 else -1
theorem kinds {k : Int} (h : 1 ≤ k ∧ k ≤ 12) : k = 1 ∨ k = 2 ∨ k = 3 ∨ k = 4 ∨ k = 5 ∨ k = 6 ∨ k = 7 ∨ k = 8 ∨ k = 9 ∨ k = 10 ∨ k = 11 ∨ k = 12 := by omega
end Go.Vm
