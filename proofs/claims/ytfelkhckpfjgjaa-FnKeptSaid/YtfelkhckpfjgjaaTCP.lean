/- The nodes with equal names, in the order of the names. Plain; no condition. -/
import Derived.Test.YtfelkhckpfjgjaaTEM
import Derived.Test.YtfelkhckpfjgjaaTG
set_option linter.unusedSimpArgs false
set_option linter.unusedVariables false
namespace Go.Vm
open Go.Proofs
def lowP (nm : List (List UInt8)) (x : List UInt8) : Nat := (nm.takeWhile fun y => Op.bytesLess y x).length
theorem lowP_le (nm : List (List UInt8)) (x : List UInt8) : lowP nm x ≤ nm.length := by
  unfold lowP
  exact (List.takeWhile_sublist _).length_le
theorem lowP_eq : ∀ {nm : List (List UInt8)} {x : List UInt8} {k : Nat}, k ≤ nm.length → (∀ j (h : j < nm.length), j < k → Op.bytesLess nm[j] x = true) → (∀ h : k < nm.length, Op.bytesLess nm[k] x = false) → lowP nm x = k
  | [], x, k, hk, _, _ => by simp at hk; subst hk; rfl
  | y :: ys, x, 0, _, _, h => by
    have := h (by simp)
    simp at this
    simp [lowP, this]
  | y :: ys, x, k + 1, hk, h1, h2 => by
    have e := h1 0 (by simp) (by omega)
    simp at e
    have ih := lowP_eq (nm := ys) (x := x) (k := k) (by simpa using hk) (fun j h hj => h1 (j + 1) (by simp only [List.length_cons]; omega) (by omega)) (fun h => h2 (by simp only [List.length_cons]; omega))
    unfold lowP at ih ⊢
    simp [e, ih]
structure Gs where
  nm : List (List UInt8)
  od : List Nat
  cr : List (List Int)
def Gs.step (g : Gs) (x : List UInt8) (i : Int) : Gs :=
  if g.nm[lowP g.nm x]? = some x then ⟨g.nm, g.od, g.cr.set (g.od.getD (lowP g.nm x) 0) (g.cr.getD (g.od.getD (lowP g.nm x) 0) [] ++ [i])⟩
  else ⟨g.nm.take (lowP g.nm x) ++ x :: g.nm.drop (lowP g.nm x), g.od.take (lowP g.nm x) ++ g.cr.length :: g.od.drop (lowP g.nm x), g.cr ++ [[i]]⟩
structure Gs.Ok (g : Gs) (i : Nat) : Prop where
  lo : g.od.length = g.nm.length
  lc : g.cr.length = g.nm.length
  nd : g.od.Nodup
  rg : ∀ c ∈ g.od, c < g.cr.length
  li : g.nm.length ≤ i
  ne : ∀ l ∈ g.cr, l ≠ []
  el : ∀ l ∈ g.cr, l.length ≤ i ∧ ∀ x ∈ l, 0 ≤ x ∧ x < i
theorem Gs.ok0 : Gs.Ok ⟨[], [], []⟩ 0 := ⟨rfl, rfl, by simp, by simp, by simp, by simp, by simp⟩
theorem Gs.Ok.step {g : Gs} {i : Nat} (h : g.Ok i) (x : List UInt8) : (g.step x i).Ok (i + 1) := by
  obtain ⟨lo, lc, nd, rg, li, ne, el⟩ := h
  have hle := lowP_le g.nm x
  unfold Gs.step
  generalize lowP g.nm x = a at *
  split
  · rename_i e
    have ha : a < g.nm.length := (List.getElem?_eq_some_iff.1 e).1
    have hao : a < g.od.length := by omega
    have e1 : g.od.getD a 0 = g.od[a] := by simp [List.getD_eq_getElem?_getD, hao]
    have hc : g.od[a] < g.cr.length := rg _ (List.getElem_mem hao)
    have e2 : g.cr.getD g.od[a] [] = g.cr[g.od[a]] := by simp [List.getD_eq_getElem?_getD, hc]
    rw [e1, e2]
    refine ⟨lo, by simpa using lc, nd, fun c hc' => by simpa using rg c hc', by simp only; omega, fun l hl => ?_, fun l hl => ?_⟩
    · rcases List.mem_or_eq_of_mem_set hl with h | h
      · exact ne l h
      · subst h; simp
    · rcases List.mem_or_eq_of_mem_set hl with h | h
      · obtain ⟨h1, h2⟩ := el l h
        exact ⟨by omega, fun y hy => by have := h2 y hy; omega⟩
      · subst h
        obtain ⟨h1, h2⟩ := el _ (List.getElem_mem hc)
        refine ⟨by simp; omega, fun y hy => ?_⟩
        rcases List.mem_append.1 hy with h | h
        · have := h2 y h; omega
        · simp at h; omega
  · refine ⟨by simp; omega, by simp; omega, ?_, fun c hc => ?_, by simp; omega, fun l hl => ?_, fun l hl => ?_⟩
    · have hnew : g.cr.length ∉ g.od := fun hm => by have := rg _ hm; omega
      rw [List.nodup_append]
      have e := List.take_append_drop a g.od
      rw [← e, List.nodup_append] at nd
      refine ⟨nd.1, List.nodup_cons.2 ⟨fun hm => hnew (List.mem_of_mem_drop hm), nd.2.1⟩, fun y hy z hz => ?_⟩
      rcases List.mem_cons.1 hz with rfl | hz
      · rintro rfl; exact hnew (List.mem_of_mem_take hy)
      · exact nd.2.2 y hy z hz
    · simp only [List.length_append, List.length_cons, List.length_nil]
      rcases List.mem_append.1 hc with h | h
      · have := rg _ (List.mem_of_mem_take h); omega
      · rcases List.mem_cons.1 h with rfl | h
        · omega
        · have := rg _ (List.mem_of_mem_drop h); omega
    · rcases List.mem_append.1 hl with h | h
      · exact ne l h
      · simp at h; subst h; simp
    · rcases List.mem_append.1 hl with h | h
      · obtain ⟨h1, h2⟩ := el l h
        exact ⟨by omega, fun y hy => by have := h2 y hy; omega⟩
      · simp at h; subst h; simp; omega
def Gs.out (g : Gs) : List (List Int) := g.od.map fun c => g.cr.getD c []
def gblk : List (List Int) → List Blk
  | [] => []
  | l :: ls => .dead :: .dead :: .dead :: .row true 3 1 (l.map encInt) :: .dead :: gblk ls
theorem gblk_len : ∀ ls : List (List Int), (gblk ls).length = 5 * ls.length
  | [] => rfl
  | l :: ls => by simp [gblk, gblk_len ls]; omega
theorem gblk_get : ∀ {ls : List (List Int)} {c : Nat} (h : c < ls.length), (gblk ls)[5 * c + 3]? = some (.row true 3 1 (ls[c].map encInt))
  | l :: ls, 0, _ => rfl
  | l :: ls, c + 1, h => by
    have := gblk_get (ls := ls) (c := c) (by simpa using h)
    rw [show 5 * (c + 1) + 3 = 5 * c + 3 + 1 + 1 + 1 + 1 + 1 by omega]
    simpa [gblk] using this
theorem gblk_set : ∀ {ls : List (List Int)} {c : Nat} (h : c < ls.length) (l' : List Int), (gblk ls).set (5 * c + 3) (.row true 3 1 (l'.map encInt)) = gblk (ls.set c l')
  | l :: ls, 0, _, l' => rfl
  | l :: ls, c + 1, h, l' => by
    have := gblk_set (ls := ls) (c := c) (by simpa using h) l'
    rw [show 5 * (c + 1) + 3 = 5 * c + 3 + 1 + 1 + 1 + 1 + 1 by omega]
    simpa [gblk] using this
theorem gblk_snoc : ∀ (ls : List (List Int)) (l : List Int), gblk (ls ++ [l]) = gblk ls ++ [.dead, .dead, .dead, .row true 3 1 (l.map encInt), .dead]
  | [], l => rfl
  | k :: ls, l => by simp [gblk, gblk_snoc ls l]
def gref (cr : List (List Int)) (c : Nat) : AV := .slref (5 * c + 6) 0 (cr.getD c []).length (cr.getD c []).length
def gsOf (s : Strc) (nm : Nat → List UInt8) : Nat → Gs
  | 0 => ⟨[], [], []⟩
  | i + 1 => (gsOf s nm i).step (nm i) i
theorem gsOf_ok (s : Strc) (nm : Nat → List UInt8) : ∀ i, (gsOf s nm i).Ok i
  | 0 => Gs.ok0
  | i + 1 => (gsOf_ok s nm i).step (nm i)
end Go.Vm
namespace Go.Vm
open Go.Proofs
def code_spec_l15Vars : F := ⟨13,[.tmp 2],.seq (.reg [⟨some 1,.box (.t 0),none⟩,⟨some 2,.mov (.k (.int .i64 0)),none⟩]) (.seq (.seq (.reg [⟨some 3,.faddr 0 (.t 1),none⟩,⟨some 4,.load 1 false (.t 3),none⟩,⟨some 5,.len (.t 4),none⟩,⟨some 6,.bin .eql (.t 5) (.k (.int .i64 0)),none⟩]) (.cond (.t 6) (.seq (.reg [⟨some 2,.mov (.k (.int .i64 0)),none⟩]) (.ret)) (.skip))) (.seq (.reg [⟨some 7,.faddr 0 (.t 1),none⟩,⟨some 8,.load 1 false (.t 7),none⟩,⟨some 9,.iaddr 4 (.t 8) (.k (.int .i64 0)),none⟩,⟨some 10,.faddr 0 (.t 9),none⟩,⟨some 11,.load 1 false (.t 10),none⟩,⟨some 12,.len (.t 11),none⟩,⟨some 2,.mov (.t 12),none⟩]) (.ret)))⟩
theorem fok_spec_l15Vars : FOk Try.prog 54 code_spec_l15Vars := fok Try.func54 (by kernel_rfl)
def code_spec_CountPredicates : F := ⟨11,[.tmp 2],.seq (.reg [⟨some 1,.box (.t 0),none⟩,⟨some 2,.mov (.k (.int .i64 0)),none⟩]) (.seq (.seq (.reg [⟨some 3,.faddr 0 (.t 1),none⟩,⟨some 4,.load 1 false (.t 3),none⟩,⟨some 5,.len (.t 4),none⟩,⟨some 6,.bin .eql (.t 5) (.k (.int .i64 0)),none⟩]) (.cond (.t 6) (.seq (.reg [⟨some 2,.mov (.k (.int .i64 0)),none⟩]) (.ret)) (.skip))) (.seq (.reg [⟨some 7,.load 2 true (.t 1),none⟩,⟨some 8,.call 54 [.t 7],none⟩,⟨some 9,.bin .mul (.k (.int .i64 2)) (.t 8),none⟩,⟨some 10,.bin .add (.t 9) (.k (.int .i64 1)),none⟩,⟨some 2,.mov (.t 10),none⟩]) (.ret)))⟩
theorem fok_spec_CountPredicates : FOk Try.prog 123 code_spec_CountPredicates := fok Try.func123 (by kernel_rfl)
def nvars (x : Strc) : Nat := match x.nodes with | [] => 0 | n :: _ => n.vars.length
@[simp] def ct_l15Vars : Ct := ⟨54, Strc, fun _ => True, fun x => [encStrc x], fun x => .int .i64 (nvars x)⟩
theorem ok_l15Vars : ct_l15Vars.Ok Try.prog := by
  rintro ⟨a, b⟩ -
  refine Ok.of_cw fok_spec_l15Vars (go_ok tab_nil ?_)
  cases a with
  | nil => simp [code_spec_l15Vars, List.replicate, nvars]
  | cons n a => simp [code_spec_l15Vars, List.replicate, nvars]; omega
def cntP (x : Strc) : Int := if x.nodes = [] then 0 else IntKind.i64.wrap (IntKind.i64.wrap (2 * (nvars x : Int)) + 1)
@[simp] def ct_spec_Count : Ct := ⟨123, Strc, fun _ => True, fun x => [encStrc x], fun x => .int .i64 (cntP x)⟩
theorem ok_spec_Count : ct_spec_Count.Ok Try.prog := by
  rintro ⟨a, b⟩ -
  refine Ok.of_cw fok_spec_CountPredicates (go_ok (tab_cons ok_l15Vars tab_nil) ?_)
  simp [code_spec_CountPredicates, List.replicate, cntP]
  exact ⟨fun h k => absurd h k, fun h k => absurd k h⟩
end Go.Vm
