/- strings.Join: the library's contract, told of plain values. No condition. -/
import Derived.Test.YtkclkieeapdeiaaDoorTD
import Derived.Test.YtkclkieeapdeiaaDoorVme
import Derived.Shelf.Strings.OnBuilder
namespace Go.Proofs
def Tryd.lays156_ren : Go.Shelf.Ren := ⟨fun | 156 => 62 | 165 => 69 | 166 => 70 | 169 => 71 | 240 => 73 | 241 => 74 | 276 => 79 | 277 => 80 | n => n, fun | 31 => 36 | 9 => 9 | 3 => 3 | 4 => 4 | 0 => 0 | 20 => 20 | 72 => 75 | 76 => 79 | 70 => 73 | 37 => 22 | 75 => 78 | 127 => 83 | 164 => 90 | 5 => 5 | 80 => 81 | n => n, fun | n => n⟩
theorem Tryd.lays156 : Go.Proofs.Lays.n156 Tryd.prog Tryd.lays156_ren := {
  mixed := by kernel_rfl,
  f156 := Tryd.func62.trans (congrArg some (by kernel_rfl)),
  f165 := Tryd.func69.trans (congrArg some (by kernel_rfl)),
  f166 := Tryd.func70.trans (congrArg some (by kernel_rfl)),
  f169 := Tryd.func71.trans (congrArg some (by kernel_rfl)),
  f240 := Tryd.func73.trans (congrArg some (by kernel_rfl)),
  f241 := Tryd.func74.trans (congrArg some (by kernel_rfl)),
  f276 := Tryd.func79.trans (congrArg some (by kernel_rfl)),
  f277 := Tryd.func80.trans (congrArg some (by kernel_rfl)),
  t0 := Tryd.underlying0,
  a0 := Tryd.isAgg0,
  z0 := Tryd.sizeOf0,
  v0 := Tryd.zeroValue0,
  t3 := Tryd.underlying3,
  a3 := Tryd.isAgg3,
  z3 := Tryd.sizeOf3,
  v3 := Tryd.zeroValue3,
  t4 := Tryd.underlying4,
  a4 := Tryd.isAgg4,
  z4 := Tryd.sizeOf4,
  v4 := Tryd.zeroValue4,
  t9 := Tryd.underlying9,
  a9 := Tryd.isAgg9,
  z9 := Tryd.sizeOf9,
  v9 := Tryd.zeroValue9,
  t20 := Tryd.underlying20,
  a20 := Tryd.isAgg20,
  z20 := Tryd.sizeOf20,
  v20 := Tryd.zeroValue20,
  t31 := Tryd.underlying36,
  a31 := Tryd.isAgg36,
  z31 := Tryd.sizeOf36,
  v31 := Tryd.zeroValue36,
  t37 := Tryd.underlying22,
  a37 := Tryd.isAgg22,
  z37 := Tryd.sizeOf22,
  v37 := Tryd.zeroValue22,
  t70 := Tryd.underlying73,
  a70 := Tryd.isAgg73,
  z70 := Tryd.sizeOf73,
  v70 := Tryd.zeroValue73,
  t72 := Tryd.underlying75,
  a72 := Tryd.isAgg75,
  z72 := Tryd.sizeOf75,
  v72 := Tryd.zeroValue75,
  t75 := Tryd.underlying78,
  a75 := Tryd.isAgg78,
  z75 := Tryd.sizeOf78,
  v75 := Tryd.zeroValue78,
  t76 := Tryd.underlying79,
  a76 := Tryd.isAgg79,
  z76 := Tryd.sizeOf79,
  v76 := Tryd.zeroValue79,
  t127 := Tryd.underlying83,
  a127 := Tryd.isAgg83,
  z127 := Tryd.sizeOf83,
  v127 := Tryd.zeroValue83,
  t164 := Tryd.underlying90,
  a164 := Tryd.isAgg90,
  z164 := Tryd.sizeOf90,
  v164 := Tryd.zeroValue90 }
theorem Tryd.builderX : Builder.Extra Tryd.prog Tryd.lays156_ren := {
  sizeBuilder := by kernel_rfl,
  liesBuilder := by kernel_rfl,
  t5 := Tryd.underlying5,
  a5 := Tryd.isAgg5,
  z5 := Tryd.sizeOf5,
  v5 := Tryd.zeroValue5,
  infoByte := by kernel_rfl,
  cellsByte := by kernel_rfl,
  sizeByte := by kernel_rfl,
  neB5 := by decide }
end Go.Proofs
set_option linter.unusedSimpArgs false
set_option linter.unusedVariables false
namespace Go.Vm
open Go.Proofs Go.RowKit
/-- Texts put together with a text between them. -/
def joinS (xs : List (List UInt8)) (sep : List UInt8) : List UInt8 := Lib.join xs sep
@[simp] def ct_libJoin : Ct := ⟨62, List (List UInt8) × List UInt8, fun x => x.1.length ≤ 140737488355328 ∧ (joinS x.1 x.2).length ≤ 140737488355328, fun x => [encL 1 encStr x.1, .str x.2], fun x => .str (joinS x.1 x.2)⟩
theorem ok_libJoin : ct_libJoin.Ok Tryd.prog := by
  rintro ⟨xs, sep⟩ ⟨hN, hl⟩
  change xs.length ≤ 140737488355328 at hN
  change (Lib.join xs sep).length ≤ 140737488355328 at hl
  intro w N vs hNg ha
  change All2 (PureV w N) [encL 1 encStr xs, .str sep] vs.toList at ha
  obtain ⟨v1, v2, hvs⟩ : ∃ v1 v2, vs = #[v1, v2] := by
    have := ha.length
    rcases vs with ⟨l⟩
    simp at this
    match l, this with
    | [a, b], _ => exact ⟨a, b, rfl⟩
  subst hvs
  simp only at ha
  rcases ha with _ | ⟨h1, _ | ⟨h2, _⟩⟩
  have h2' : RepC w N (.str sep) v2 := by simpa only [PureV, PureU] using h2
  have h1' : RepC w N (encL 1 encStr xs) v1 := by simpa only [PureV, PureU, encL, mksl] using h1
  cases h2' with
  | @str s _ hs =>
  subst hs
  have fin : ∀ w', PureV w' (fun g => N g ∨ (w.heap.size ≤ g ∧ g < w'.heap.size)) (.str (joinS xs s.data.toList)) (.string ⟨(Lib.join xs s.data.toList).toArray⟩) := by
    intro w'
    simp only [PureV, PureU]; exact .str rfl
  cases xs with
  | nil =>
    simp only [encL, mksl, List.map_nil] at h1'
    have hz : ∃ a c, v1 = .slice a 0 c := by
      cases h1' with
      | nilSl _ => exact ⟨_, _, rfl⟩
      | slE _ _ => exact ⟨_, _, rfl⟩
      | sl hk hn hc hm h => simp at hn; subst hn; exact ⟨_, _, rfl⟩
    obtain ⟨a, c, rfl⟩ := hz
    refine (Any.strings_Join_none Tryd.lays156 Tryd.builderX a c s w).mono fun e w' ⟨he, hw⟩ => ⟨_, he, hw ▸ Below.refl _ _, fin w'⟩
  | cons x xs =>
    simp only [encL, mksl, List.map_cons] at h1'
    cases h1' with
    | @sl _ _ _ g o c n hk hn hc hm h =>
    simp only [List.length_cons, List.length_map] at hn hc
    subst hn
    have hget : ∀ (j : Nat) (y : ByteArray), ((x :: xs).map fun l => (⟨l.toArray⟩ : ByteArray))[j]? = some y → w.cell? ⟨g, o + j, none⟩ = some (.string y) ∧ N g := by
      intro j y hy
      rw [List.getElem?_map] at hy
      obtain ⟨l, hl', rfl⟩ := Option.map_eq_some_iff.1 hy
      have hg := RepE.get h (i := j) (a := .str l) (by
        have : (encStr x :: List.map encStr xs) = (x :: xs).map encStr := rfl
        rw [this, List.getElem?_map, hl']; rfl)
      obtain ⟨-, hr⟩ := hg
      rw [Nat.mul_one] at hr
      simp only [AV.cells] at hr
      cases hr with
      | cons hNN hcell hrep _ =>
        cases hrep with
        | @str t _ ht =>
          refine ⟨?_, hNN⟩
          rw [hcell]
          rcases t with ⟨⟨t⟩⟩
          simp at ht
          subst ht
          rfl
    have hb : g < w.heap.size := hNg g (hget 0 ⟨x.toArray⟩ rfl).2
    have hmap : ((x :: xs).map fun l => (⟨l.toArray⟩ : ByteArray)).map (·.data.toList) = x :: xs := by
      rw [List.map_map]
      conv => rhs; rw [← List.map_id (x :: xs)]
      congr 1
    have := Any.strings_Join Tryd.lays156 Tryd.builderX g o c ((x :: xs).map fun l => (⟨l.toArray⟩ : ByteArray)) s w (fun j y hy => (hget j y hy).1) hb (by simpa using hN) (by simpa using hc) (by rw [hmap]; exact hl)
    rw [hmap, List.length_map] at this
    exact this.mono fun e w' ⟨he, hw⟩ => ⟨_, he, hw, fin w'⟩
end Go.Vm
