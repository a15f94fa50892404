/- StructureOf: the law. No condition. -/
import Derived.Test.YtfelkhckpfjgjaaTSZ
import Derived.Test.YtfelkhckpfjgjaaTSS
import Derived.Test.YtfelkhckpfjgjaaTKI
import Derived.Test.YtfelkhckpfjgjaaTFF
set_option linter.unusedSimpArgs false
set_option linter.unusedVariables false
namespace Go.Vm
open Go.Proofs
end Go.Vm
namespace Go.Vm
open Go.Proofs
def code_laws_sameInts : F := ⟨26,[.tmp 4],.seq (.reg [⟨some 4,.mov (.k (.bool false)),none⟩]) (.seq (.seq (.reg [⟨some 6,.mov (.t 0),none⟩,⟨some 7,.len (.t 6),none⟩,⟨some 8,.mov (.t 1),none⟩,⟨some 9,.len (.t 8),none⟩,⟨some 10,.bin .neq (.t 7) (.t 9),none⟩]) (.cond (.t 10) (.seq (.reg [⟨some 4,.mov (.k (.bool false)),none⟩]) (.ret)) (.skip))) (.seq (.seq (.reg [⟨some 5,.mov (.k (.int .i64 0)),none⟩]) (.block 0 (.loop (.seq (.seq (.reg [⟨some 11,.mov (.t 5),none⟩,⟨some 12,.mov (.t 0),none⟩,⟨some 13,.len (.t 12),none⟩,⟨some 14,.bin .lss (.t 11) (.t 13),none⟩]) (.cond (.t 14) (.skip) (.exit 0))) (.seq (.block 1 (.seq (.dreg [false,false,false,false,false,false,false,false,true] [false,false,false,false,false,false,false,false,false] [⟨some 17,.mov (.t 0),none⟩,⟨some 18,.mov (.t 5),none⟩,⟨some 19,.iaddr 1 (.t 17) (.t 18),none⟩,⟨some 20,.load 1 false (.t 19),none⟩,⟨some 21,.mov (.t 1),none⟩,⟨some 22,.mov (.t 5),none⟩,⟨some 23,.iaddr 1 (.t 21) (.t 22),none⟩,⟨some 24,.load 1 false (.t 23),none⟩,⟨some 25,.bin .neq (.t 20) (.t 24),none⟩]) (.cond (.t 25) (.seq (.reg [⟨some 4,.mov (.k (.bool false)),none⟩]) (.ret)) (.skip)))) (.reg [⟨some 15,.mov (.t 5),none⟩,⟨some 16,.bin .add (.t 15) (.k (.int .i64 1)),none⟩,⟨some 5,.mov (.t 16),none⟩])))))) (.seq (.reg [⟨some 4,.mov (.k (.bool true)),none⟩]) (.ret))))⟩
theorem fok_laws_sameInts : FOk Try.prog 14 code_laws_sameInts := fok Try.func14 (by kernel_rfl)
@[simp] def ct_sameSelf : Ct := ⟨14, List Int, fun _ => True, fun x => [encL 1 encInt x, encL 1 encInt x], fun _ => .bool true⟩
set_option maxHeartbeats 1000000 in
theorem ok_sameSelf : ct_sameSelf.Ok Try.prog := by
  rintro xs -
  change List Int at xs
  refine Ok.lens fun hl => Ok.of_cw fok_laws_sameInts (go_ok tab_nil ?_)
  have hl : lensOkL [encL 1 encInt xs, encL 1 encInt xs] := hl
  rw [lensOkL_cons, lensOk_encL] at hl
  have hl := hl.1.1
  simp [code_laws_sameInts, List.replicate]
  refine cw_round (fun (i : Nat) => ⟨slots 26 [(0, encL 1 encInt xs), (1, encL 1 encInt xs), (5, .int .i64 i)], []⟩)
    (fun i => i ≤ xs.length) (fun i => xs.length - i) 0 (by simp) ?_ ?_
  · exact weak_seal 0 (by omega) (by simp) (by simp [List.replicate])
  · rintro N hN i hi
    change i ≤ xs.length at hi
    refine go_ok tab_nil ?_
    by_cases h : i < xs.length
    · have h2 : ¬ xs.length ≤ i := by omega
      have hw : IntKind.i64.wrap ((i : Int) + 1) = ((i + 1 : Nat) : Int) := by rw [wrap_i64] <;> omega
      simp [List.replicate, hw, h, h2]
      refine hN i (i + 1) _ (by show i + 1 ≤ xs.length; omega) (by omega) (weak_seal 0 (by omega) ?_ ?_)
      · simp
      · simp [List.replicate]
    · have h2 : xs.length ≤ i := by omega
      simp [List.replicate, h, h2]
def code_impl_Describes : F := ⟨9,[.tmp 4],.seq (.reg [⟨some 2,.box (.t 0),none⟩,⟨some 3,.box (.t 1),none⟩,⟨some 4,.mov (.k (.bool false)),none⟩]) (.seq (.dreg [false,false,false,true,true] [false,true,false,true,false] [⟨some 5,.load 2 true (.t 3),none⟩,⟨some 6,.call 51 [.t 5],none⟩,⟨some 7,.load 2 true (.t 2),none⟩,⟨some 8,.call 17 [.t 6,.t 7],none⟩,⟨some 4,.mov (.t 8),none⟩]) (.ret))⟩
theorem fok_impl_Describes : FOk Try.prog 15 code_impl_Describes := fok Try.func15 (by kernel_rfl)
def code_spec_Describes : F := ⟨9,[.tmp 4],.seq (.reg [⟨some 2,.box (.t 0),none⟩,⟨some 3,.box (.t 1),none⟩,⟨some 4,.mov (.k (.bool false)),none⟩]) (.seq (.dreg [false,false,false,true,true] [false,true,false,true,false] [⟨some 5,.load 2 true (.t 3),none⟩,⟨some 6,.call 46 [.t 5],none⟩,⟨some 7,.load 2 true (.t 2),none⟩,⟨some 8,.call 18 [.t 6,.t 7],none⟩,⟨some 4,.mov (.t 8),none⟩]) (.ret))⟩
theorem fok_spec_Describes : FOk Try.prog 16 code_spec_Describes := fok Try.func16 (by kernel_rfl)
@[simp] def ct_pDescribesK : Ct := ⟨15, Strc × Heap, fun x => szStrc x.1 ≤ 1048576 ∧ szHeap x.2 ≤ 1048576, fun x => [encStrc x.1, encHeap x.2], fun x => .bool (embed (strcOf x.2) x.1).isSome⟩
set_option maxHeartbeats 1000000 in
theorem ok_pDescribesK : ct_pDescribesK.Ok Try.prog := by
  rintro ⟨s, h⟩ ⟨h1, h2⟩
  change szStrc s ≤ 1048576 at h1
  change szHeap h ≤ 1048576 at h2
  have h3 := strcOf_szK h
  refine Ok.of_cw fok_impl_Describes (go_ok (tab_cons ok_pStructureOf (tab_cons ok_pIsEmbedded tab_nil)) ?_)
  simp [code_impl_Describes, List.replicate, h1, h2, h3]
@[simp] def ct_sDescribesK : Ct := ⟨16, Strc × Heap, fun x => szStrc x.1 ≤ 1048576 ∧ szHeap x.2 ≤ 1048576, fun x => [encStrc x.1, encHeap x.2], fun x => .bool (embed (strcOf x.2) x.1).isSome⟩
set_option maxHeartbeats 1000000 in
theorem ok_sDescribesK : ct_sDescribesK.Ok Try.prog := by
  rintro ⟨s, h⟩ ⟨h1, h2⟩
  change szStrc s ≤ 1048576 at h1
  change szHeap h ≤ 1048576 at h2
  have h3 := strcOf_szK h
  refine Ok.of_cw fok_spec_Describes (go_ok (tab_cons ok_sStructureOf (tab_cons ok_sIsEmbedded tab_nil)) ?_)
  simp [code_spec_Describes, List.replicate, h1, h2, h3]
theorem drawDs_sz (bs : List UInt8) : szStrc (drawDs bs).1 ≤ 1048576 ∧ szHeap (drawDs bs).2 ≤ 1048576 := by
  obtain ⟨hl1, hl2⟩ := drawH_len (cur0 bs) 3
  have hsz : szHeap (drawH (cur0 bs) 3) ≤ 1048576 := by change (drawH (cur0 bs) 3).vars.length + (drawH (cur0 bs) 3).next.length ≤ _; omega
  have hsh := strcOf_sh (drawH_fit (cur0 bs)) hl1 hl2
  have h1 := (sh12_sz (blurS_sh hsh)).1
  have h2 := (sh12_sz (d12_sh (drawY (cur0 bs) 3).1.step).1).1
  unfold drawDs
  generalize (drawY (cur0 bs) 3).1 = e at *
  generalize strcOf (drawH (cur0 bs) 3) = s at *
  generalize drawH (cur0 bs) 3 = h at *
  split
  · exact ⟨h1, hsz⟩
  · exact ⟨h2, hsz⟩
def emB (s t : Strc) : Bool := (embed s t).isSome
def emL (s t : Strc) : List Int := (embed s t).getD []
@[simp] def ct_pIsEmbK : Ct := ⟨17, Strc × Strc, fun x => szStrc x.1 ≤ 1048576 ∧ szStrc x.2 ≤ 1048576, fun x => [encStrc x.1, encStrc x.2], fun x => .bool (emB x.1 x.2)⟩
theorem ok_pIsEmbK : ct_pIsEmbK.Ok Try.prog := ok_pIsEmbedded
@[simp] def ct_sIsEmbK : Ct := ⟨18, Strc × Strc, fun x => szStrc x.1 ≤ 1048576 ∧ szStrc x.2 ≤ 1048576, fun x => [encStrc x.1, encStrc x.2], fun x => .bool (emB x.1 x.2)⟩
theorem ok_sIsEmbK : ct_sIsEmbK.Ok Try.prog := ok_sIsEmbedded
@[simp] def ct_pFindK : Ct := ⟨9, Strc × Strc, fun x => szStrc x.1 ≤ 1048576 ∧ szStrc x.2 ≤ 1048576, fun x => [encStrc x.1, encStrc x.2], fun x => .tup [encL 1 encInt (emL x.1 x.2), .bool (emB x.1 x.2)]⟩
theorem ok_pFindK : ct_pFindK.Ok Try.prog := ok_pFindEmbP
@[simp] def ct_sFindK : Ct := ⟨10, Strc × Strc, fun x => szStrc x.1 ≤ 1048576 ∧ szStrc x.2 ≤ 1048576, fun x => [encStrc x.1, encStrc x.2], fun x => .tup [encL 1 encInt (emL x.1 x.2), .bool (emB x.1 x.2)]⟩
theorem ok_sFindK : ct_sFindK.Ok Try.prog := ok_sFindEmb
theorem some_get {α : Type} {o : Option (List α)} (h : o.isSome = true) : o = some (o.getD []) := by
  cases o with
  | none => cases h
  | some x => rfl
def code_laws_FnEmbedded : F := ⟨116,[.tmp 2],.seq (.reg [⟨some 2,.mov (.k (.bool false)),none⟩]) (.seq (.seq (.reg [⟨some 14,.mov (.t 0),none⟩,⟨some 15,.call 6 [.t 14],none⟩]) (.cond (.t 15) (.seq (.reg [⟨some 2,.mov (.k (.bool true)),none⟩]) (.ret)) (.skip))) (.seq (.reg [⟨some 17,.mov (.t 0),none⟩,⟨some 18,.call 7 [.t 17],none⟩,⟨some 16,.mov (.t 18),none⟩,⟨some 19,.extr (.t 16) 0,none⟩,⟨some 20,.extr (.t 16) 1,none⟩,⟨some 21,.extr (.t 16) 2,none⟩,⟨some 3,.alloc [(.sl .nil 0 []),(.sl .nil 0 [])],none⟩,⟨some 4,.alloc [(.sl .nil 0 []),(.sl .nil 0 [])],none⟩,⟨none,.store 2 (.t 3) (.t 19),none⟩,⟨none,.store 2 (.t 4) (.t 20),none⟩,⟨some 5,.mov (.t 21),none⟩]) (.seq (.reg [⟨some 23,.mov (.t 0),none⟩,⟨some 24,.call 8 [.t 23],none⟩,⟨some 22,.mov (.t 24),none⟩,⟨some 25,.extr (.t 22) 0,none⟩,⟨some 26,.extr (.t 22) 1,none⟩,⟨some 6,.alloc [(.sl .nil 0 []),(.sl .nil 0 [])],none⟩,⟨some 7,.alloc [(.sl .nil 0 []),(.sl .nil 0 [])],none⟩,⟨none,.store 2 (.t 6) (.t 25),none⟩,⟨none,.store 2 (.t 7) (.t 26),none⟩]) (.seq (.reg [⟨some 28,.load 2 true (.t 6),none⟩,⟨some 29,.load 2 true (.t 7),none⟩,⟨some 30,.call 9 [.t 28,.t 29],none⟩,⟨some 27,.mov (.t 30),none⟩,⟨some 31,.extr (.t 27) 0,none⟩,⟨some 32,.extr (.t 27) 1,none⟩,⟨some 8,.mov (.t 31),none⟩,⟨some 9,.mov (.t 32),none⟩]) (.seq (.reg [⟨some 34,.load 2 true (.t 6),none⟩,⟨some 35,.load 2 true (.t 7),none⟩,⟨some 36,.call 10 [.t 34,.t 35],none⟩,⟨some 33,.mov (.t 36),none⟩,⟨some 37,.extr (.t 33) 0,none⟩,⟨some 38,.extr (.t 33) 1,none⟩,⟨some 10,.mov (.t 37),none⟩,⟨some 11,.mov (.t 38),none⟩]) (.seq (.reg [⟨some 40,.mov (.t 0),none⟩,⟨some 41,.call 11 [.t 40],none⟩,⟨some 39,.mov (.t 41),none⟩,⟨some 42,.extr (.t 39) 0,none⟩,⟨some 43,.extr (.t 39) 1,none⟩,⟨some 12,.alloc [(.sl .nil 0 []),(.sl .nil 0 [])],none⟩,⟨some 13,.alloc [(.sl .nil 0 []),(.sl .nil 0 [])],none⟩,⟨none,.store 2 (.t 12) (.t 42),none⟩,⟨none,.store 2 (.t 13) (.t 43),none⟩]) (.seq (.seq (.dreg [false,false,false,false,false,false,false,true,true,true,false,false,true,true,true,false,false,true,true,true,true,false,false,false,false,false,true,true,true] [false,false,false,true,false,false,false,true,false,false,false,false,false,false,false,false,false,true,false,false,false,false,false,true,false,false,true,false,false] [⟨some 44,.load 2 true (.t 3),none⟩,⟨some 45,.load 2 true (.t 4),none⟩,⟨some 46,.mov (.t 5),none⟩,⟨some 47,.call 12 [.t 44,.t 45,.t 46],none⟩,⟨some 48,.load 2 true (.t 3),none⟩,⟨some 49,.load 2 true (.t 4),none⟩,⟨some 50,.mov (.t 5),none⟩,⟨some 51,.call 13 [.t 48,.t 49,.t 50],none⟩,⟨some 52,.beq true (.t 47) (.t 51),none⟩,⟨some 53,.mov (.t 52),none⟩,⟨some 54,.mov (.t 9),some (53,false)⟩,⟨some 55,.mov (.t 11),some (53,false)⟩,⟨some 56,.beq true (.t 54) (.t 55),some (53,false)⟩,⟨some 57,.pick (.t 53) (.k (.bool true)) (.t 56),none⟩,⟨some 58,.mov (.t 57),none⟩,⟨some 59,.mov (.t 8),some (58,false)⟩,⟨some 60,.mov (.t 10),some (58,false)⟩,⟨some 61,.call 14 [.t 59,.t 60],some (58,false)⟩,⟨some 62,.not (.t 61),some (58,false)⟩,⟨some 63,.pick (.t 58) (.k (.bool true)) (.t 62),none⟩,⟨some 64,.mov (.t 63),none⟩,⟨some 65,.load 2 true (.t 12),some (64,false)⟩,⟨some 66,.load 2 true (.t 13),some (64,false)⟩,⟨some 67,.call 15 [.t 65,.t 66],some (64,false)⟩,⟨some 68,.load 2 true (.t 12),some (64,false)⟩,⟨some 69,.load 2 true (.t 13),some (64,false)⟩,⟨some 70,.call 16 [.t 68,.t 69],some (64,false)⟩,⟨some 71,.beq true (.t 67) (.t 70),some (64,false)⟩,⟨some 72,.pick (.t 64) (.k (.bool true)) (.t 71),none⟩]) (.cond (.t 72) (.seq (.reg [⟨some 2,.mov (.k (.bool false)),none⟩]) (.ret)) (.skip))) (.seq (.seq (.reg [⟨some 73,.mov (.t 9),none⟩,⟨some 74,.mov (.t 73),none⟩,⟨some 75,.load 2 true (.t 6),some (74,true)⟩,⟨some 76,.load 2 true (.t 7),some (74,true)⟩,⟨some 77,.mov (.t 8),some (74,true)⟩,⟨some 78,.call 12 [.t 75,.t 76,.t 77],some (74,true)⟩,⟨some 79,.not (.t 78),some (74,true)⟩,⟨some 80,.pick (.t 74) (.t 79) (.k (.bool false)),none⟩,⟨some 81,.mov (.t 80),none⟩,⟨some 82,.load 2 true (.t 3),some (81,false)⟩,⟨some 83,.load 2 true (.t 4),some (81,false)⟩,⟨some 84,.mov (.t 5),some (81,false)⟩,⟨some 85,.call 12 [.t 82,.t 83,.t 84],some (81,false)⟩,⟨some 86,.mov (.t 85),some (81,false)⟩,⟨some 87,.load 2 true (.t 3),some (86,true)⟩,⟨some 88,.load 2 true (.t 4),some (86,true)⟩,⟨some 89,.call 17 [.t 87,.t 88],some (86,true)⟩,⟨some 90,.not (.t 89),some (86,true)⟩,⟨some 91,.pick (.t 86) (.t 90) (.k (.bool false)),some (81,false)⟩,⟨some 92,.pick (.t 81) (.k (.bool true)) (.t 91),none⟩]) (.cond (.t 92) (.seq (.reg [⟨some 2,.mov (.k (.bool false)),none⟩]) (.ret)) (.skip))) (.seq (.dreg [false,false,false,false,false,true,true,true,true,true,true,true,false,false,true,true,false,false,false,true,true,true,true,true] [false,false,true,false,false,true,false,false,false,true,false,false,false,false,true,false,false,false,true,true,false,false,false,false] [⟨some 93,.load 2 true (.t 6),none⟩,⟨some 94,.load 2 true (.t 6),none⟩,⟨some 95,.call 17 [.t 93,.t 94],none⟩,⟨some 96,.load 2 true (.t 6),none⟩,⟨some 97,.load 2 true (.t 6),none⟩,⟨some 98,.call 18 [.t 96,.t 97],none⟩,⟨some 99,.beq false (.t 95) (.t 98),none⟩,⟨some 100,.mov (.t 99),none⟩,⟨some 101,.load 2 true (.t 6),some (100,true)⟩,⟨some 102,.call 19 [(.k (.int .i64 3)),.t 101],some (100,true)⟩,⟨some 103,.not (.t 102),some (100,true)⟩,⟨some 104,.mov (.t 103),some (100,true)⟩,⟨some 105,.load 2 true (.t 6),some (104,false)⟩,⟨some 106,.load 2 true (.t 6),some (104,false)⟩,⟨some 107,.call 17 [.t 105,.t 106],some (104,false)⟩,⟨some 108,.mov (.t 107),some (104,false)⟩,⟨some 109,.load 2 true (.t 6),some (108,true)⟩,⟨some 110,.load 2 true (.t 6),some (108,true)⟩,⟨some 111,.call 20 [.t 110],some (108,true)⟩,⟨some 112,.call 17 [.t 109,.t 111],some (108,true)⟩,⟨some 113,.pick (.t 108) (.t 112) (.k (.bool false)),some (104,false)⟩,⟨some 114,.pick (.t 104) (.k (.bool true)) (.t 113),some (100,true)⟩,⟨some 115,.pick (.t 100) (.t 114) (.k (.bool false)),none⟩,⟨some 2,.mov (.t 115),none⟩]) (.ret))))))))))⟩
theorem fok_laws_FnEmbedded : FOk Try.prog 3 code_laws_FnEmbedded := fok Try.func3 (by kernel_rfl)
def tl9 : C → C
  | .seq _ (.seq _ (.seq _ (.seq _ (.seq _ (.seq _ (.seq _ (.seq _ (.seq _ x)))))))) => x
  | c => c
set_option maxHeartbeats 8000000 in
set_option maxRecDepth 100000 in
theorem ok_lawEmbedded (bs : List UInt8) : Ok Try.prog 3 [encL 1 encU bs] (.bool true) := by
  by_cases hbs : bs.length ≤ 1048576
  case neg =>
    have hb2 : 1048576 < bs.length := by omega
    refine Ok.of_cw fok_laws_FnEmbedded (go_ok (tab_cons ok_bigK tab_nil) ?_)
    simp [code_laws_FnEmbedded, List.replicate, hb2]
  have hb2 : ¬ 1048576 < bs.length := by omega
  have hT : TabOk Try.prog _ := tab_cons ok_bigK (tab_cons ok_DrawIsEmbedding (tab_cons ok_DrawFindEmbedding (tab_cons ok_DrawDescribes (tab_cons ok_pFindK (tab_cons ok_sFindK (tab_cons ok_pIsEmbedding (tab_cons ok_sIsEmbedding (tab_cons ok_pIsEmbK (tab_cons ok_sIsEmbK (tab_cons ok_pDescribesK (tab_cons ok_sDescribesK (tab_cons ok_sameSelf (tab_cons ok_sIsStructure (tab_cons ok_BlurS tab_nil))))))))))))))
  obtain ⟨sh1, sh2⟩ := pair16_sh (cur0 bs)
  have z1 : szStrc (drawF1 bs) ≤ 1048576 := (sh12_sz sh1).1
  have z2 : szStrc (drawF2 bs) ≤ 1048576 := (sh12_sz sh2).1
  have z3 : (drawF1 bs).nodes.length ≤ 10 := by have := sh1.n; show (pair16 (cur0 bs)).2.1.nodes.length ≤ 10; omega
  have z4 : szStrc (blurS (drawF1 bs)) ≤ 1048576 := (sh12_sz (blurS_sh sh1)).1
  obtain ⟨z5, z6⟩ := drawDs_sz bs
  have w1 : emB (drawF1 bs) (drawF2 bs) = true → embB (drawF1 bs) (drawF2 bs) (emL (drawF1 bs) (drawF2 bs)) = true := fun h => embed_good (some_get h)
  have w2 : embB (drawF1 bs) (drawF2 bs) (drawI3 bs) = true → emB (drawF1 bs) (drawF2 bs) = true := embed_find
  have w3 : structB 3 (drawF1 bs) = true → emB (drawF1 bs) (drawF1 bs) = true := fun h => embed_find (embB_self h)
  have w4 : structB 3 (drawF1 bs) = true → emB (drawF1 bs) (blurS (drawF1 bs)) = true := fun h => by
    obtain ⟨to, h⟩ := embB_blur h
    exact embed_find h
  have w5 : structB 3 (drawF1 bs) = true → (drawF1 bs).nodes = [] ∨ structB (nvars (drawF1 bs)) (drawF1 bs) = true := fun h => by
    by_cases h0 : (drawF1 bs).nodes = []
    · exact .inl h0
    · right; rw [nvars_of h (List.length_pos_iff.2 h0)]; exact h
  refine Ok.of_cw fok_laws_FnEmbedded ?_
  simp only [code_laws_FnEmbedded, frame, List.length_cons, List.length_nil, List.replicate, Nat.reduceSub, Nat.reduceAdd, List.cons_append, List.nil_append]
  refine cw_seq (go_ok hT ?_); simp [List.replicate]
  refine cw_seq (go_ok hT ?_); simp [List.replicate, hbs, hb2]
  refine cw_seq (go_ok hT ?_); simp [List.replicate, hbs]
  refine cw_seq (go_ok hT ?_); simp [List.replicate, hbs]
  generalize drawF1 bs = x at *
  generalize drawF2 bs = y at *
  generalize drawI3 bs = to at *
  refine cw_seq (go_ok hT ?_); simp [List.replicate, z1, z2]
  refine cw_seq (go_ok hT ?_); simp [List.replicate, z1, z2]
  refine cw_seq (go_ok hT ?_); simp [List.replicate, hbs]
  generalize drawDs bs = dh at *
  obtain ⟨d, h⟩ := dh
  simp only at z5 z6 ⊢
  refine cw_seq (cw_seq (go_ok hT ?_)); simp (maxSteps := 4000000) [List.replicate, z1, z2, z5, z6]
  refine go_ok hT ?_; simp [List.replicate]
  have fin : ∀ t, All2 (SlV 18 [.nrow, .nrow, .cells [encL 4 encNode x.nodes, encL 1 encInt x.next], .nrow, .nrow, .cells [encL 4 encNode y.nodes, encL 1 encInt y.next], .nrow, .nrow, .cells [encL 4 encNode x.nodes, encL 1 encInt x.next], .nrow, .nrow, .cells [encL 4 encNode y.nodes, encL 1 encInt y.next], .nrow, .nrow, .cells [encL 4 encNode d.nodes, encL 1 encInt d.next], .nrow, .nrow, .cells [encL 1 encInt h.vars, encL 1 encInt h.next]]) t (slots 116 [(6, .pbox 8 0)]) →
      CW Try.prog 0 (tl9 code_laws_FnEmbedded.c) (retP code_laws_FnEmbedded.rs (.bool true)) ⟨t, [.nrow, .nrow, .cells [encL 4 encNode x.nodes, encL 1 encInt x.next], .nrow, .nrow, .cells [encL 4 encNode y.nodes, encL 1 encInt y.next], .nrow, .nrow, .cells [encL 4 encNode x.nodes, encL 1 encInt x.next], .nrow, .nrow, .cells [encL 4 encNode y.nodes, encL 1 encInt y.next], .nrow, .nrow, .cells [encL 4 encNode d.nodes, encL 1 encInt d.next], .nrow, .nrow, .cells [encL 1 encInt h.vars, encL 1 encInt h.next]]⟩ := by
    intro t ht
    refine cw_weak (weak_seal 18 (by omega) (H' := [.dead, .dead, .dead, .dead, .dead, .dead, .dead, .dead, .cells [encL 4 encNode x.nodes, encL 1 encInt x.next], .dead, .dead, .dead, .dead, .dead, .dead, .dead, .dead, .dead]) (by simp) ht) ?_
    simp only [code_laws_FnEmbedded, tl9]
    cases hS : structB 3 x
    · cases hxx : emB x x
      · refine cw_seq (go_ok hT ?_); simp (maxSteps := 4000000) [List.replicate, z1, z2, z3, z4, hS, hxx]
        refine go_ok hT ?_; simp [List.replicate]
      · refine cw_seq (go_ok hT ?_); simp (maxSteps := 4000000) [List.replicate, z1, z2, z3, z4, hS, hxx]
        refine go_ok hT ?_; simp [List.replicate]
    · have v3 := w3 hS
      have v4 := w4 hS
      have v5 := w5 hS
      refine cw_seq (go_ok hT ?_); simp (maxSteps := 4000000) [List.replicate, z1, z2, z3, z4, hS, v3, v4, v5]
      refine go_ok hT ?_; simp [List.replicate]
  simp only [code_laws_FnEmbedded, tl9] at fin
  cases hE : emB x y
  · have hto : embB x y to = false := by
      cases q : embB x y to
      · rfl
      · rw [w2 q] at hE; cases hE
    refine cw_seq (cw_seq (go_ok hT ?_)); simp [List.replicate, z1, z2, hE, hto]
    refine go_ok hT ?_; simp [List.replicate]
    refine fin _ ?_; simp [List.replicate]
  · have hm := w1 hE
    cases hto : embB x y to
    · refine cw_seq (cw_seq (go_ok hT ?_)); simp [List.replicate, z1, z2, hE, hto, hm]
      refine go_ok hT ?_; simp [List.replicate]
      refine fin _ ?_; simp [List.replicate]
    · refine cw_seq (cw_seq (go_ok hT ?_)); simp [List.replicate, z1, z2, hE, hto, hm]
      refine go_ok hT ?_; simp [List.replicate]
      refine fin _ ?_; simp [List.replicate]
end Go.Vm
