/- A machine of plain values, part a: what the program's operations do, told of plain values. It holds over any program; no condition. -/
import Derived.Below
import Derived.Orders
import Derived.Laws.AppendOwn
import Derived.Laws.AppendOwnNone
import Derived.Laws.StructEq
import Derived.Laws.CopyRow
import Derived.Laws.Rows
set_option linter.unusedSimpArgs false
set_option linter.unusedVariables false
namespace Go.Vm
open Go.RowKit
inductive Nk where
  | nil | non | any
  deriving DecidableEq, Inhabited, Repr
inductive AV where
  | undef
  | hole
  | int (k : IntKind) (n : Int)
  | bool (b : Bool)
  | str (s : List UInt8)
  | nilp
  | sl (k : Nk) (sz : Nat) (l : List AV)
  | pro (cs : List AV)
  | slref (b off len tot : Nat)
  | pbox (b off : Nat)
  | prow (b i off tot : Nat)
  | fn (f : Nat) (caps : List AV)
  | agg (cs : List AV)
  | tup (vs : List AV)
  deriving Inhabited, Repr
def AV.cells : AV → List AV
  | .agg cs => cs
  | v => [v]
inductive Blk where
  | dead
  | nrow
  | cells (cs : List AV)
  | row (ow : Bool) (e sz : Nat) (els : List AV)
  | void
  deriving Inhabited, Repr
inductive All2 {α β : Type} (R : α → β → Prop) : List α → List β → Prop where
  | nil : All2 R [] []
  | cons {a b as bs} (h : R a b) (t : All2 R as bs) : All2 R (a :: as) (b :: bs)
namespace All2
variable {α β : Type} {R S : α → β → Prop}
theorem mono (hr : ∀ a b, R a b → S a b) : ∀ {as : List α} {bs : List β}, All2 R as bs → All2 S as bs
  | _, _, .nil => .nil
  | _, _, .cons h t => .cons (hr _ _ h) (mono hr t)
theorem length : ∀ {as : List α} {bs : List β}, All2 R as bs → as.length = bs.length
  | _, _, .nil => rfl
  | _, _, .cons _ t => by simp [length t]
theorem get : ∀ {as : List α} {bs : List β}, All2 R as bs → ∀ {i : Nat} {a : α}, as[i]? = some a → ∃ b, bs[i]? = some b ∧ R a b
  | _, _, .nil, i, a, h => by simp at h
  | _, _, .cons h t, 0, a, e => by simp at e; subst e; exact ⟨_, rfl, h⟩
  | _, _, .cons _ t, i + 1, a, e => by simp at e; exact get t e
theorem get_r : ∀ {as : List α} {bs : List β}, All2 R as bs → ∀ {i : Nat} {b : β}, bs[i]? = some b → ∃ a, as[i]? = some a ∧ R a b
  | _, _, .nil, i, a, h => by simp at h
  | _, _, .cons h t, 0, a, e => by simp at e; subst e; exact ⟨_, rfl, h⟩
  | _, _, .cons _ t, i + 1, a, e => by simp at e; exact get_r t e
theorem append : ∀ {as as' : List α} {bs bs' : List β}, All2 R as bs → All2 R as' bs' → All2 R (as ++ as') (bs ++ bs')
  | _, _, _, _, .nil, h => h
  | _, _, _, _, .cons h t, k => .cons h (append t k)
theorem take : ∀ (n : Nat) {as : List α} {bs : List β}, All2 R as bs → All2 R (as.take n) (bs.take n)
  | 0, _, _, _ => by simp; exact .nil
  | n + 1, _, _, .nil => by simp; exact .nil
  | n + 1, _, _, .cons h t => by simp only [List.take_succ_cons]; exact .cons h (take n t)
theorem drop : ∀ (n : Nat) {as : List α} {bs : List β}, All2 R as bs → All2 R (as.drop n) (bs.drop n)
  | 0, _, _, h => by simpa using h
  | n + 1, _, _, .nil => by simp; exact .nil
  | n + 1, _, _, .cons h t => by simp only [List.drop_succ_cons]; exact drop n t
theorem set : ∀ (i : Nat) {as : List α} {bs : List β} {a : α} {b : β}, All2 R as bs → R a b → All2 R (as.set i a) (bs.set i b)
  | _, _, _, _, _, .nil, _ => .nil
  | 0, _, _, _, _, .cons _ t, k => .cons k t
  | i + 1, _, _, _, _, .cons h t, k => .cons h (set i t k)
theorem of_get : ∀ {as : List α} {bs : List β}, as.length = bs.length → (∀ (i : Nat) (a : α) (b : β), as[i]? = some a → bs[i]? = some b → R a b) → All2 R as bs
  | [], [], _, _ => .nil
  | [], _ :: _, h, _ => by simp at h
  | _ :: _, [], h, _ => by simp at h
  | a :: as, b :: bs, h, k => .cons (k 0 a b rfl rfl) (of_get (by simpa using h) fun i x y hx hy => k (i + 1) x y (by simpa using hx) (by simpa using hy))
end All2
mutual
inductive RepC (w : World) (N : Nat → Prop) : AV → Value → Prop where
  | hole {v} (h : v.oneCell' = true) : RepC w N .hole v
  | int {k n} : RepC w N (.int k n) (.int k n)
  | bool {b} : RepC w N (.bool b) (.bool b)
  | str {s l} (h : s.data.toList = l) : RepC w N (.str l) (.string s)
  | nilp : RepC w N .nilp (.pointer none)
  | nilSl {k sz} (h : k ≠ .non) : RepC w N (.sl k sz []) (.slice none 0 0)
  | slE {k sz a c} (hk : k ≠ .nil) (hm : c ≤ maxLen) : RepC w N (.sl k sz []) (.slice (some a) 0 c)
  | sl {k sz l g o c n} (hk : k ≠ .nil) (hn : n = l.length) (hc : l.length ≤ c) (hm : c ≤ maxLen) (h : RepE w N sz l g o) :
      RepC w N (.sl k sz l) (.slice (some ⟨g, o, none⟩) n c)
  | pro {cs g o} (h : RepL w N cs g o) : RepC w N (.pro cs) (.pointer (some ⟨g, o, none⟩))
  | fn {f caps cs} (h : RepVs w N caps cs) : RepC w N (.fn f caps) (.func (.func f) #[] cs.toArray)
inductive RepL (w : World) (N : Nat → Prop) : List AV → Nat → Nat → Prop where
  | nil {g o} : RepL w N [] g o
  | cons {a v as g o} (hN : N g) (hc : w.cell? ⟨g, o, none⟩ = some v) (h : RepC w N a v) (t : RepL w N as g (o + 1)) : RepL w N (a :: as) g o
inductive RepE (w : World) (N : Nat → Prop) : Nat → List AV → Nat → Nat → Prop where
  | nil {sz g o} : RepE w N sz [] g o
  | cons {sz a as g o} (hl : a.cells.length = sz) (h : RepL w N a.cells g o) (t : RepE w N sz as g (o + sz)) : RepE w N sz (a :: as) g o
inductive RepVs (w : World) (N : Nat → Prop) : List AV → List Value → Prop where
  | nil : RepVs w N [] []
  | cons {a v as vs} (h : RepC w N a v) (t : RepVs w N as vs) : RepVs w N (a :: as) (v :: vs)
end
section mono
variable {w w' : World} {N N' : Nat → Prop}
theorem cell_same (hw : ∀ g, N g → w'.heap[g]? = w.heap[g]?) {g o : Nat} {v : Value} (hg : N g) (h : w.cell? ⟨g, o, none⟩ = some v) : w'.cell? ⟨g, o, none⟩ = some v := by
  rw [World.cell?_of_block (w := w) (w' := w') (a := ⟨g, o, none⟩) (hw g hg)]; exact h
mutual
theorem RepC.mono (hN : ∀ g, N g → N' g) (hw : ∀ g, N g → w'.heap[g]? = w.heap[g]?) : ∀ {a : AV} {v : Value}, RepC w N a v → RepC w' N' a v
  | _, _, .hole h => .hole h
  | _, _, .int => .int
  | _, _, .bool => .bool
  | _, _, .str h => .str h
  | _, _, .nilp => .nilp
  | _, _, .nilSl h => .nilSl h
  | _, _, .slE h1 h2 => .slE h1 h2
  | _, _, .sl hk hn hc hm h => .sl hk hn hc hm (RepE.mono hN hw h)
  | _, _, .pro h => .pro (RepL.mono hN hw h)
  | _, _, .fn h => .fn (RepVs.mono hN hw h)
theorem RepL.mono (hN : ∀ g, N g → N' g) (hw : ∀ g, N g → w'.heap[g]? = w.heap[g]?) : ∀ {as : List AV} {g o : Nat}, RepL w N as g o → RepL w' N' as g o
  | _, _, _, .nil => .nil
  | _, _, _, .cons hg hc h t => .cons (hN _ hg) (cell_same hw hg hc) (RepC.mono hN hw h) (RepL.mono hN hw t)
theorem RepE.mono (hN : ∀ g, N g → N' g) (hw : ∀ g, N g → w'.heap[g]? = w.heap[g]?) : ∀ {sz : Nat} {as : List AV} {g o : Nat}, RepE w N sz as g o → RepE w' N' sz as g o
  | _, _, _, _, .nil => .nil
  | _, _, _, _, .cons hl h t => .cons hl (RepL.mono hN hw h) (RepE.mono hN hw t)
theorem RepVs.mono (hN : ∀ g, N g → N' g) (hw : ∀ g, N g → w'.heap[g]? = w.heap[g]?) : ∀ {as : List AV} {vs : List Value}, RepVs w N as vs → RepVs w' N' as vs
  | _, _, .nil => .nil
  | _, _, .cons h t => .cons (RepC.mono hN hw h) (RepVs.mono hN hw t)
end
end mono
section reps
variable {w : World} {N : Nat → Prop}
theorem RepL.all : ∀ {cs : List AV} {g o : Nat}, RepL w N cs g o → ∃ vs : List Value, All2 (RepC w N) cs vs ∧ (∀ j v, vs[j]? = some v → w.cell? ⟨g, o + j, none⟩ = some v)
  | _, _, _, .nil => ⟨[], .nil, by simp⟩
  | _, g, o, .cons (v := v) _ hc h t => by
    obtain ⟨vs, h1, h2⟩ := RepL.all t
    refine ⟨v :: vs, .cons h h1, fun j u hu => ?_⟩
    cases j with
    | zero => simp at hu; subst hu; simpa using hc
    | succ j => simp at hu; have := h2 j u hu; rwa [show o + 1 + j = o + (j + 1) by omega] at this
theorem RepL.of_all (g : Nat) (hN : N g) : ∀ {cs : List AV} {vs : List Value} (o : Nat), All2 (RepC w N) cs vs → (∀ j v, vs[j]? = some v → w.cell? ⟨g, o + j, none⟩ = some v) → RepL w N cs g o
  | _, _, _, .nil, _ => .nil
  | _, _, o, .cons h t, k => .cons hN (by simpa using k 0 _ rfl) h (RepL.of_all g hN (o + 1) t fun j v hv => by
      have := k (j + 1) v (by simpa using hv); rwa [show o + (j + 1) = o + 1 + j by omega] at this)
theorem RepL.drop : ∀ (n : Nat) {cs : List AV} {g o : Nat}, RepL w N cs g o → RepL w N (cs.drop n) g (o + n)
  | 0, _, _, _, h => by simpa using h
  | n + 1, _, _, _, .nil => by simp; exact .nil
  | n + 1, _, g, o, .cons _ _ _ t => by
    simp only [List.drop_succ_cons]
    have := RepL.drop n t
    rwa [show o + 1 + n = o + (n + 1) by omega] at this
theorem RepL.take : ∀ (n : Nat) {cs : List AV} {g o : Nat}, RepL w N cs g o → RepL w N (cs.take n) g o
  | 0, _, _, _, _ => by simp; exact .nil
  | n + 1, _, _, _, .nil => by simp; exact .nil
  | n + 1, _, _, _, .cons a b c t => by simp only [List.take_succ_cons]; exact .cons a b c (RepL.take n t)
theorem RepE.get : ∀ {sz : Nat} {l : List AV} {g o : Nat}, RepE w N sz l g o → ∀ {i : Nat} {a : AV}, l[i]? = some a → a.cells.length = sz ∧ RepL w N a.cells g (o + i * sz)
  | _, _, _, _, .nil, i, a, h => by simp at h
  | sz, _, g, o, .cons hl h t, 0, a, e => by simp at e; subst e; simpa using ⟨hl, h⟩
  | sz, _, g, o, .cons hl h t, i + 1, a, e => by
    simp at e
    have := RepE.get t e
    rwa [show o + sz + i * sz = o + (i + 1) * sz by rw [Nat.add_mul]; omega] at this
theorem RepE.drop : ∀ (n : Nat) {sz : Nat} {l : List AV} {g o : Nat}, RepE w N sz l g o → RepE w N sz (l.drop n) g (o + n * sz)
  | 0, _, _, _, _, h => by simpa using h
  | n + 1, _, _, _, _, .nil => by simp; exact .nil
  | n + 1, sz, _, g, o, .cons _ _ t => by
    simp only [List.drop_succ_cons]
    have := RepE.drop n t
    rwa [show o + sz + n * sz = o + (n + 1) * sz by rw [Nat.add_mul]; omega] at this
theorem RepE.take : ∀ (n : Nat) {sz : Nat} {l : List AV} {g o : Nat}, RepE w N sz l g o → RepE w N sz (l.take n) g o
  | 0, _, _, _, _, _ => by simp; exact .nil
  | n + 1, _, _, _, _, .nil => by simp; exact .nil
  | n + 1, _, _, _, _, .cons a b t => by simp only [List.take_succ_cons]; exact .cons a b (RepE.take n t)
def flat (els : List AV) : List AV := els.flatMap AV.cells
theorem flat_cons (a : AV) (as : List AV) : flat (a :: as) = a.cells ++ flat as := by simp [flat]
theorem flat_append (as bs : List AV) : flat (as ++ bs) = flat as ++ flat bs := by simp [flat]
theorem flat_length {sz : Nat} : ∀ {els : List AV}, (∀ x ∈ els, x.cells.length = sz) → (flat els).length = els.length * sz
  | [], _ => by simp [flat]
  | a :: as, h => by
    rw [flat_cons, List.length_append, h a (by simp), flat_length (fun x hx => h x (by simp [hx])), List.length_cons, Nat.add_mul]
    omega
theorem flat_take {sz : Nat} : ∀ (n : Nat) {els : List AV}, (∀ x ∈ els, x.cells.length = sz) → flat (els.take n) = (flat els).take (n * sz)
  | 0, _, _ => by simp [flat]
  | n + 1, [], _ => by simp [flat]
  | n + 1, a :: as, h => by
    have h0 := h a (by simp)
    rw [List.take_succ_cons, flat_cons, flat_cons, flat_take n (fun x hx => h x (by simp [hx])), List.take_append]
    rw [List.take_of_length_le (l := a.cells) (by rw [h0, Nat.add_mul]; omega)]
    congr 2
    rw [h0, Nat.add_mul]; omega
theorem flat_drop {sz : Nat} : ∀ (n : Nat) {els : List AV}, (∀ x ∈ els, x.cells.length = sz) → flat (els.drop n) = (flat els).drop (n * sz)
  | 0, _, _ => by simp
  | n + 1, [], _ => by simp [flat]
  | n + 1, a :: as, h => by
    have h0 := h a (by simp)
    rw [List.drop_succ_cons, flat_cons, flat_drop n (fun x hx => h x (by simp [hx])), List.drop_append]
    rw [List.drop_of_length_le (l := a.cells) (by rw [h0, Nat.add_mul]; omega), List.nil_append]
    congr 1
    rw [h0, Nat.add_mul]; omega
theorem RepE.all : ∀ {sz : Nat} {l : List AV} {g o : Nat}, RepE w N sz l g o → (∀ x ∈ l, x.cells.length = sz) ∧ RepL w N (flat l) g o
  | _, _, _, _, .nil => ⟨by simp, .nil⟩
  | sz, _, g, o, .cons (a := a) (as := as) hl h t => by
    obtain ⟨h1, h2⟩ := RepE.all t
    refine ⟨fun x hx => ?_, ?_⟩
    · rcases List.mem_cons.1 hx with rfl | hx
      · exact hl
      · exact h1 x hx
    · rw [flat_cons]
      exact go h (hl ▸ h2)
where
  go : ∀ {cs ds : List AV} {g o : Nat}, RepL w N cs g o → RepL w N ds g (o + cs.length) → RepL w N (cs ++ ds) g o
    | _, _, _, _, .nil, k => by simpa using k
    | _, ds, g, o, .cons (as := as) a b c t, k => .cons a b c (go t (by rwa [List.length_cons, show o + (as.length + 1) = o + 1 + as.length by omega] at k))
theorem RepE.of_flat {sz : Nat} : ∀ {l : List AV} {g o : Nat}, (∀ x ∈ l, x.cells.length = sz) → RepL w N (flat l) g o → RepE w N sz l g o
  | [], _, _, _, _ => .nil
  | a :: as, g, o, hl, h => by
    have h0 := hl a (by simp)
    rw [flat_cons] at h
    have h1 := RepL.take a.cells.length h
    have h2 := RepL.drop a.cells.length h
    simp at h1 h2
    rw [h0] at h2
    exact .cons h0 h1 (RepE.of_flat (fun x hx => hl x (by simp [hx])) h2)
theorem RepVs.fwd : ∀ {as : List AV} {vs : List Value}, RepVs w N as vs → All2 (RepC w N) as vs
  | _, _, .nil => .nil
  | _, _, .cons h t => .cons h (RepVs.fwd t)
theorem RepVs.bwd : ∀ {as : List AV} {vs : List Value}, All2 (RepC w N) as vs → RepVs w N as vs
  | _, _, .nil => .nil
  | _, _, .cons h t => .cons h (RepVs.bwd t)
theorem RepC.one {a : AV} {v : Value} (h : RepC w N a v) : v.oneCell' = true ∧ v.cells = #[v] ∧ a.cells = [a] := by
  cases h with
  | hole h => exact ⟨h, by cases v <;> simp_all [Value.oneCell', Value.cells], rfl⟩
  | _ => simp [Value.oneCell', Value.cells, AV.cells]
end reps
abbrev Mu := Nat → Option (Nat × Nat)
structure Base where
  w0 : World
  N0 : Nat → Prop
def Owned (H : List Blk) (μ : Mu) (g : Nat) : Prop :=
  ∃ b c, μ b = some (g, c) ∧ ((∃ cs, H[b]? = some (.cells cs)) ∨ ∃ e sz els, H[b]? = some (.row true e sz els))
def Imm (B : Base) (w : World) (H : List Blk) (μ : Mu) (g : Nat) : Prop :=
  (B.N0 g ∨ B.w0.heap.size ≤ g) ∧ g < w.heap.size ∧ ¬ Owned H μ g
def RepR0 (B : Base) (w : World) (H : List Blk) (μ : Mu) : AV → Value → Prop
  | .slref b off len tot, v => match H[b]? with
    | some .dead => True
    | some .nrow => tot = 0 ∧ off = 0 ∧ len = 0 ∧ v = .slice none 0 0
    | some (.row _ _ sz els) => tot ≤ els.length ∧ (els.length = tot → off + len ≤ tot ∧ ((μ b = none ∧ v = .slice none 0 0) ∨
        ∃ g cap a c, μ b = some (g, cap) ∧ v = .slice (some a) len c ∧ (len ≤ c ∧ c ≤ maxLen ∧ a.spot = none) ∧ (off = 0 ∨ 0 < c → a = ⟨g, off * sz, none⟩) ∧ c + off = cap))
    | _ => False
  | .pbox b off, v => match H[b]? with
    | some .dead => True
    | some (.cells _) => ∃ g c, μ b = some (g, c) ∧ v = .pointer (some ⟨g, off, none⟩)
    | _ => False
  | .prow b i off tot, v => match H[b]? with
    | some .dead => True
    | some (.row _ _ sz els) => tot ≤ els.length ∧ (els.length = tot → i < tot ∧ ∃ g cap, μ b = some (g, cap) ∧ v = .pointer (some ⟨g, i * sz + off, none⟩))
    | _ => False
  | a, v => RepC w (Imm B w H μ) a v
def RepR (B : Base) (w : World) (H : List Blk) (μ : Mu) (a : AV) (v : Value) : Prop := v.oneCell' = true ∧ RepR0 B w H μ a v
def RepA (B : Base) (w : World) (H : List Blk) (μ : Mu) : AV → Value → Prop
  | .fn f caps, v => ∃ cs, v = .func (.func f) #[] cs ∧ All2 (RepR B w H μ) caps cs.toList
  | a, v => RepR B w H μ a v
def RepU (B : Base) (w : World) (H : List Blk) (μ : Mu) : AV → Value → Prop
  | .undef, _ => True
  | .agg cs, v => ∃ vs, v = .agg vs ∧ All2 (RepA B w H μ) cs vs.toList
  | a, v => RepA B w H μ a v
def RepV (B : Base) (w : World) (H : List Blk) (μ : Mu) : AV → Value → Prop
  | .tup xs, v => ∃ vs, v = .tuple vs ∧ All2 (RepU B w H μ) xs vs.toList
  | a, v => RepU B w H μ a v
def BlkOk (B : Base) (w : World) (H : List Blk) (μ : Mu) (b : Nat) : Blk → Prop
  | .dead => True
  | .nrow => True
  | .void => True
  | .cells cs => ∃ g c T vs, μ b = some (g, c) ∧ w.heap[g]? = some (.cells vs T (0, 0)) ∧ All2 (RepA B w H μ) cs vs.toList
  | .row _ e sz els => (∀ x ∈ els, x.cells.length = sz) ∧ ((μ b = none ∧ els = []) ∨
      ∃ g cap cur, μ b = some (g, cap) ∧ w.heap[g]? = some (.cells cur e (0, 0)) ∧ els.length ≤ cap ∧ cap ≤ maxLen ∧ cur.size = cap * sz ∧
        All2 (RepA B w H μ) (flat els) (cur.toList.take (els.length * sz)))
def Blk.live : Blk → Bool
  | .cells _ | .row .. => true
  | _ => false
structure Rel (B : Base) (w : World) (H : List Blk) (μ : Mu) : Prop where
  below : Below B.w0.heap.size B.w0 w
  n0 : ∀ g, B.N0 g → g < B.w0.heap.size
  blk : ∀ b k, H[b]? = some k → BlkOk B w H μ b k
  inj : ∀ b b' k k' g c c', H[b]? = some k → H[b']? = some k' → k.live = true → k'.live = true → μ b = some (g, c) → μ b' = some (g, c') → b = b'
  own : ∀ b k g c, H[b]? = some k → k.live = true → μ b = some (g, c) → B.w0.heap.size ≤ g
def Blk.turns (same none : Prop) : Blk → Blk → Prop
  | .void, _ => True
  | _, .dead => True
  | .nrow, .nrow => True
  | .nrow, .row _ _ _ els => els = [] → none
  | .cells cs, .cells cs' => cs.length = cs'.length ∧ same
  | .row _ e sz els, .row _ e' sz' els' => e = e' ∧ sz = sz' ∧ els.length ≤ els'.length ∧ (els.length = els'.length → same)
  | _, _ => False
structure Ext (B : Base) (w : World) (H : List Blk) (μ : Mu) (w' : World) (H' : List Blk) (μ' : Mu) : Prop where
  imm : ∀ g, Imm B w H μ g → Imm B w' H' μ' g ∧ w'.heap[g]? = w.heap[g]?
  blk : ∀ b k, H[b]? = some k → ∃ k', H'[b]? = some k' ∧ Blk.turns (μ' b = μ b) (μ' b = none) k k'
end Go.Vm
namespace Go.Vm
open Go.RowKit
theorem Blk.turns_refl {p q : Prop} (hp : p) : ∀ k : Blk, Blk.turns p q k k
  | .dead => trivial
  | .nrow => trivial
  | .void => trivial
  | .cells _ => ⟨rfl, hp⟩
  | .row .. => ⟨rfl, rfl, Nat.le_refl _, fun _ => hp⟩
theorem Blk.turns_trans {p q p' q' r r' : Prop} (hpq : p → q → r) (hn : p' → q → r') (hn' : q' → r') : ∀ {k k' k'' : Blk}, Blk.turns p p' k k' → Blk.turns q q' k' k'' → Blk.turns r r' k k'' := by
  intro k k' k'' h1 h2
  by_cases hv : k = .void
  · subst hv; cases k'' <;> trivial
  by_cases hv' : k' = .void
  · subst hv'; cases k <;> simp_all [Blk.turns]
  cases k'' with
  | void => cases k' <;> simp_all [Blk.turns]
  | dead => cases k <;> trivial
  | nrow => cases k' <;> cases k <;> simp_all [Blk.turns]
  | cells cs => cases k' <;> cases k <;> simp_all [Blk.turns]
  | row o e sz els =>
    cases k' with
    | void => exact absurd rfl hv'
    | row o' e' sz' els' =>
      simp only [Blk.turns] at h2
      obtain ⟨rfl, rfl, b3, b4⟩ := h2
      cases k with
      | void => exact absurd rfl hv
      | row o'' e'' sz'' els'' =>
        simp only [Blk.turns] at h1 ⊢
        obtain ⟨rfl, rfl, a3, a4⟩ := h1
        exact ⟨rfl, rfl, by omega, fun he => hpq (a4 (by omega)) (b4 (by omega))⟩
      | nrow =>
        simp only [Blk.turns] at h1 ⊢
        intro he
        subst he
        have h0 : els' = [] := List.eq_nil_of_length_eq_zero (by simpa using b3)
        subst h0
        exact hn (h1 rfl) (b4 rfl)
      | dead => simp [Blk.turns] at h1
      | cells _ => simp [Blk.turns] at h1
    | nrow =>
      cases k with
      | void => exact absurd rfl hv
      | nrow => simp only [Blk.turns] at h2 ⊢; exact fun he => hn' (h2 he)
      | _ => simp [Blk.turns] at h1
    | _ => simp [Blk.turns] at h2
section
variable {B : Base} {w w' w'' : World} {H H' H'' : List Blk} {μ μ' μ'' : Mu}
theorem Ext.refl (B : Base) (w : World) (H : List Blk) (μ : Mu) : Ext B w H μ w H μ := ⟨fun _ h => ⟨h, rfl⟩, fun _ k h => ⟨k, h, Blk.turns_refl rfl k⟩⟩
theorem Ext.trans (h : Ext B w H μ w' H' μ') (k : Ext B w' H' μ' w'' H'' μ'') : Ext B w H μ w'' H'' μ'' := by
  refine ⟨fun g hg => ?_, fun b x hx => ?_⟩
  · obtain ⟨h1, h2⟩ := h.imm g hg
    obtain ⟨k1, k2⟩ := k.imm g h1
    exact ⟨k1, k2.trans h2⟩
  · obtain ⟨y, hy, t1⟩ := h.blk b x hx
    obtain ⟨z, hz, t2⟩ := k.blk b y hy
    exact ⟨z, hz, Blk.turns_trans (fun p q => q.trans p) (fun p q => q.trans p) id t1 t2⟩
theorem Ext.repC (h : Ext B w H μ w' H' μ') {a : AV} {v : Value} (r : RepC w (Imm B w H μ) a v) : RepC w' (Imm B w' H' μ') a v :=
  r.mono (fun g hg => (h.imm g hg).1) (fun g hg => (h.imm g hg).2)
theorem RepR.ext (h : Ext B w H μ w' H' μ') : ∀ {a : AV} {v : Value}, RepR B w H μ a v → RepR B w' H' μ' a v := by
  rintro a v ⟨r0, r⟩
  refine ⟨r0, ?_⟩
  cases a with
  | slref b off len tot =>
    simp only [RepR0] at r ⊢
    cases hb : H[b]? with
    | none => simp [hb] at r
    | some k =>
      obtain ⟨k', hk', ht⟩ := h.blk b k hb
      rw [hk']
      rw [hb] at r
      cases k with
      | void => simp at r
      | dead => cases k' <;> simp_all [Blk.turns]
      | nrow =>
        cases k' with
        | void => simp [Blk.turns] at ht
        | dead => trivial
        | nrow => exact r
        | cells _ => simp [Blk.turns] at ht
        | row o e sz els =>
          simp only [Blk.turns] at ht
          simp only at r ⊢
          obtain ⟨rfl, rfl, rfl, rfl⟩ := r
          refine ⟨Nat.zero_le _, fun he => ⟨Nat.le_refl _, .inl ⟨ht (List.eq_nil_of_length_eq_zero he), rfl⟩⟩⟩
      | cells _ => simp at r
      | row o e sz els =>
        cases k' with
        | void => simp [Blk.turns] at ht
        | dead => trivial
        | nrow => simp [Blk.turns] at ht
        | cells _ => simp [Blk.turns] at ht
        | row o' e' sz' els' =>
          simp only [Blk.turns] at ht
          obtain ⟨rfl, rfl, hle, hsame⟩ := ht
          obtain ⟨r1, r2⟩ := r
          refine ⟨by omega, fun he => ?_⟩
          have hmu := hsame (by omega)
          have := r2 (by omega)
          rw [hmu]
          exact this
  | pbox b off =>
    simp only [RepR0] at r ⊢
    cases hb : H[b]? with
    | none => simp [hb] at r
    | some k =>
      obtain ⟨k', hk', ht⟩ := h.blk b k hb
      rw [hk']
      rw [hb] at r
      cases k <;> cases k' <;> simp_all [Blk.turns]
  | prow b i off tot =>
    simp only [RepR0] at r ⊢
    cases hb : H[b]? with
    | none => simp [hb] at r
    | some k =>
      obtain ⟨k', hk', ht⟩ := h.blk b k hb
      rw [hk']
      rw [hb] at r
      cases k with
      | row o e sz els =>
        cases k' with
        | void => simp [Blk.turns] at ht
        | dead => trivial
        | nrow => simp [Blk.turns] at ht
        | cells _ => simp [Blk.turns] at ht
        | row o' e' sz' els' =>
          simp only [Blk.turns] at ht
          obtain ⟨rfl, rfl, hle, hsame⟩ := ht
          obtain ⟨r1, r2⟩ := r
          refine ⟨by omega, fun he => ?_⟩
          have hmu := hsame (by omega)
          have := r2 (by omega)
          rw [hmu]
          exact this
      | _ => cases k' <;> simp_all [Blk.turns]
  | _ => exact h.repC r
theorem RepA.ext (h : Ext B w H μ w' H' μ') : ∀ {a : AV} {v : Value}, RepA B w H μ a v → RepA B w' H' μ' a v := by
  intro a v r
  cases a with
  | fn f caps =>
    obtain ⟨cs, hv, hc⟩ := r
    exact ⟨cs, hv, hc.mono fun _ _ => RepR.ext h⟩
  | _ => simp only [RepA] at r ⊢; exact RepR.ext h r
theorem RepU.ext (h : Ext B w H μ w' H' μ') : ∀ {a : AV} {v : Value}, RepU B w H μ a v → RepU B w' H' μ' a v := by
  intro a v r
  cases a with
  | undef => trivial
  | agg cs =>
    obtain ⟨vs, hv, hc⟩ := r
    exact ⟨vs, hv, hc.mono fun _ _ => RepA.ext h⟩
  | _ => simp only [RepU] at r ⊢; exact RepA.ext h r
theorem RepV.ext (h : Ext B w H μ w' H' μ') : ∀ {a : AV} {v : Value}, RepV B w H μ a v → RepV B w' H' μ' a v := by
  intro a v r
  cases a with
  | tup cs =>
    obtain ⟨vs, hv, hc⟩ := r
    exact ⟨vs, hv, hc.mono fun _ _ => RepU.ext h⟩
  | _ => simp only [RepV] at r ⊢; exact RepU.ext h r
theorem RepR.of_repC {a : AV} {v : Value} (r : RepC w (Imm B w H μ) a v) : RepR B w H μ a v := by
  refine ⟨r.one.1, ?_⟩
  cases r <;> simp only [RepR0] <;> constructor <;> assumption
theorem RepA.of_repC {a : AV} {v : Value} (r : RepC w (Imm B w H μ) a v) : RepA B w H μ a v := by
  cases a with
  | fn f caps =>
    cases r with
    | fn h => exact ⟨_, rfl, by simpa using (RepVs.fwd h).mono fun _ _ => RepR.of_repC⟩
  | _ => exact RepR.of_repC r
theorem RepA.one {a : AV} {v : Value} (r : RepA B w H μ a v) : v.oneCell' = true := by
  cases a with
  | fn f caps => obtain ⟨cs, rfl, _⟩ := r; rfl
  | _ => exact r.1
theorem cells_of_one {v : Value} (h : v.oneCell' = true) : v.cells = #[v] := by cases v <;> simp_all [Value.oneCell', Value.cells]
end
end Go.Vm
namespace Go.Vm
open Go.RowKit
def Blk.owned : Blk → Bool
  | .cells _ => true
  | .row ow _ _ _ => ow
  | _ => false
theorem Blk.live_of_owned : ∀ {k : Blk}, k.owned = true → k.live = true := by intro k h; cases k <;> simp_all [Blk.owned, Blk.live]
theorem owned_iff {H : List Blk} {μ : Mu} {g : Nat} : Owned H μ g ↔ ∃ b c k, μ b = some (g, c) ∧ H[b]? = some k ∧ k.owned = true := by
  constructor
  · rintro ⟨b, c, hm, ⟨cs, h⟩ | ⟨e, sz, els, h⟩⟩
    · exact ⟨b, c, _, hm, h, rfl⟩
    · exact ⟨b, c, _, hm, h, rfl⟩
  · rintro ⟨b, c, k, hm, h, hk⟩
    cases k with
    | cells cs => exact ⟨b, c, hm, .inl ⟨cs, h⟩⟩
    | row ow e sz els => simp [Blk.owned] at hk; subst hk; exact ⟨b, c, hm, .inr ⟨e, sz, els, h⟩⟩
    | void => simp [Blk.owned] at hk
    | dead => simp [Blk.owned] at hk
    | nrow => simp [Blk.owned] at hk
section
variable {B : Base} {w w' : World} {H H' : List Blk} {μ μ' : Mu}
theorem Rel.size (R : Rel B w H μ) : B.w0.heap.size ≤ w.heap.size := R.below.size
theorem BlkOk.lt {b : Nat} {k : Blk} (h : BlkOk B w H μ b k) (hk : k.live = true) {g c : Nat} (hm : μ b = some (g, c)) : g < w.heap.size := by
  cases k with
  | void => simp [Blk.live] at hk
  | dead => simp [Blk.live] at hk
  | nrow => simp [Blk.live] at hk
  | cells cs =>
    obtain ⟨g', c', T, vs, h1, h2, _⟩ := h
    rw [h1] at hm; cases hm
    exact (Array.getElem?_eq_some_iff.1 h2).1
  | row ow e sz els =>
    obtain ⟨_, ⟨h1, _⟩ | ⟨g', cap, cur, h1, h2, _⟩⟩ := h
    · rw [h1] at hm; cases hm
    · rw [h1] at hm; cases hm
      exact (Array.getElem?_eq_some_iff.1 h2).1
theorem BlkOk.carry {b : Nat} {k : Blk} (h : BlkOk B w H μ b k) (E : Ext B w H μ w' H' μ') (hm : k.live = true → μ' b = μ b)
    (hw : ∀ g c, k.live = true → μ b = some (g, c) → w'.heap[g]? = w.heap[g]?) : BlkOk B w' H' μ' b k := by
  cases k with
  | void => trivial
  | dead => trivial
  | nrow => trivial
  | cells cs =>
    obtain ⟨g, c, T, vs, h1, h2, h3⟩ := h
    exact ⟨g, c, T, vs, (hm rfl).trans h1, (hw g c rfl h1).trans h2, h3.mono fun _ _ => RepA.ext E⟩
  | row ow e sz els =>
    obtain ⟨h0, ⟨h1, h2⟩ | ⟨g, cap, cur, h1, h2, h3, h4, h5, h6⟩⟩ := h
    · exact ⟨h0, .inl ⟨(hm rfl).trans h1, h2⟩⟩
    · exact ⟨h0, .inr ⟨g, cap, cur, (hm rfl).trans h1, (hw g cap rfl h1).trans h2, h3, h4, h5, h6.mono fun _ _ => RepA.ext E⟩⟩
theorem Rel.world (R : Rel B w H μ) (h : Below w.heap.size w w') : Rel B w' H μ ∧ Ext B w H μ w' H μ := by
  have E : Ext B w H μ w' H μ := ⟨fun g hg => ⟨⟨hg.1, Nat.lt_of_lt_of_le hg.2.1 h.size, hg.2.2⟩, h.block g hg.2.1⟩, fun b k hk => ⟨k, hk, Blk.turns_refl rfl k⟩⟩
  refine ⟨⟨R.below.trans (h.mono R.size), R.n0, fun b k hk => ?_, R.inj, R.own⟩, E⟩
  have hb := R.blk b k hk
  exact hb.carry E (fun _ => rfl) fun g c hl hm => h.block g (hb.lt hl hm)
theorem Rel.push (R : Rel B w H μ) (k : Blk) (hk : k.live = false) : Rel B w (H ++ [k]) μ ∧ Ext B w H μ w (H ++ [k]) μ := by
  have hget : ∀ (b : Nat) (x : Blk), (H ++ [k])[b]? = some x → x.live = true → H[b]? = some x := by
    intro b x hx hl
    rcases Nat.lt_or_ge b H.length with hlt | hge
    · rwa [List.getElem?_append_left hlt] at hx
    · rw [List.getElem?_append_right hge] at hx
      cases hj : b - H.length with
      | zero => rw [hj] at hx; simp at hx; subst hx; simp [hk] at hl
      | succ n => rw [hj] at hx; simp at hx
  have hown : ∀ g, Owned (H ++ [k]) μ g → Owned H μ g := by
    intro g hg
    obtain ⟨b, c, x, hm, hx, ho⟩ := owned_iff.1 hg
    exact owned_iff.2 ⟨b, c, x, hm, hget b x hx (Blk.live_of_owned ho), ho⟩
  have hold : ∀ (b : Nat) (x : Blk), H[b]? = some x → (H ++ [k])[b]? = some x := by
    intro b x hx
    rw [List.getElem?_append_left (List.getElem?_eq_some_iff.1 hx).1]; exact hx
  have E : Ext B w H μ w (H ++ [k]) μ := ⟨fun g hg => ⟨⟨hg.1, hg.2.1, fun h => hg.2.2 (hown g h)⟩, rfl⟩, fun b x hx => ⟨x, hold b x hx, Blk.turns_refl rfl x⟩⟩
  refine ⟨⟨R.below, R.n0, fun b x hx => ?_, fun b b' x x' g c c' hx hx' hl hl' => R.inj b b' x x' g c c' (hget _ _ hx hl) (hget _ _ hx' hl') hl hl', fun b x g c hx hl hm => R.own b x g c (hget _ _ hx hl) hl hm⟩, E⟩
  cases hl : x.live with
  | true => exact (R.blk b x (hget b x hx hl)).carry E (fun _ => rfl) fun _ _ _ _ => rfl
  | false => cases x <;> simp_all [Blk.live, BlkOk]
theorem Rel.upd (R : Rel B w H μ) {b : Nat} {k k' : Blk} (hb : H[b]? = some k) (m : Option (Nat × Nat)) (hbel : Below B.w0.heap.size w w')
    (hm : ∀ g c, m = some (g, c) → (k.owned = true ∧ ∃ c0, μ b = some (g, c0)) ∨ w.heap.size ≤ g)
    (hw : ∀ i, i < w.heap.size → (∀ c, m ≠ some (i, c)) → w'.heap[i]? = w.heap[i]?)
    (ht : Blk.turns (m = μ b) (m = none) k k')
    (hk' : Ext B w H μ w' (H.set b k') (fun x => if x = b then m else μ x) → BlkOk B w' (H.set b k') (fun x => if x = b then m else μ x) b k') :
    Rel B w' (H.set b k') (fun x => if x = b then m else μ x) ∧ Ext B w H μ w' (H.set b k') (fun x => if x = b then m else μ x) := by
  have hlt : b < H.length := (List.getElem?_eq_some_iff.1 hb).1
  have hsame : (H.set b k')[b]? = some k' := by simp [hlt]
  have hoth : ∀ x, x ≠ b → (H.set b k')[x]? = H[x]? := fun x hx => List.getElem?_set_ne (Ne.symm hx)
  have hown : ∀ g, g < w.heap.size → Owned (H.set b k') (fun x => if x = b then m else μ x) g → Owned H μ g := by
    intro g hg ho
    obtain ⟨x, c, y, hx, hy, hyo⟩ := owned_iff.1 ho
    by_cases hxb : x = b
    · subst hxb
      simp only [if_true] at hx
      rcases hm g c hx with ⟨hko, c0, hc0⟩ | h
      · exact owned_iff.2 ⟨x, c0, k, hc0, hb, hko⟩
      · omega
    · simp only [if_neg hxb] at hx
      rw [hoth x hxb] at hy
      exact owned_iff.2 ⟨x, c, y, hx, hy, hyo⟩
  have E : Ext B w H μ w' (H.set b k') (fun x => if x = b then m else μ x) := by
    refine ⟨fun g hg => ⟨⟨hg.1, Nat.lt_of_lt_of_le hg.2.1 hbel.size, fun h => hg.2.2 (hown g hg.2.1 h)⟩, ?_⟩, fun x y hy => ?_⟩
    · refine hw g hg.2.1 fun c hc => ?_
      rcases hm g c hc with ⟨hko, c0, hc0⟩ | h
      · exact hg.2.2 (owned_iff.2 ⟨b, c0, k, hc0, hb, hko⟩)
      · exact absurd hg.2.1 (by omega)
    · by_cases hxb : x = b
      · subst hxb
        rw [hb] at hy; cases hy
        refine ⟨k', hsame, ?_⟩
        simp only [if_true]
        exact ht
      · refine ⟨y, by rw [hoth x hxb]; exact hy, ?_⟩
        simp only [if_neg hxb]
        exact Blk.turns_refl trivial y
  refine ⟨⟨R.below.trans hbel, R.n0, fun x y hy => ?_, fun x x' y y' g c c' hy hy' hl hl' hx hx' => ?_, fun x y g c hy hl hx => ?_⟩, E⟩
  · by_cases hxb : x = b
    · subst hxb
      rw [hsame] at hy; cases hy
      exact hk' E
    · rw [hoth x hxb] at hy
      have hok := R.blk x y hy
      refine hok.carry E (fun _ => by simp [hxb]) fun g c hl hxm => ?_
      have hgs := hok.lt hl hxm
      refine hw g hgs fun c' hc' => ?_
      rcases hm g c' hc' with ⟨hko, c0, hc0⟩ | h
      · exact hxb (R.inj x b y k g c c0 hy hb hl (Blk.live_of_owned hko) hxm hc0)
      · omega
  · have key : ∀ z y g c, z ≠ b → H[z]? = some y → y.live = true → μ z = some (g, c) → ∀ c2, m ≠ some (g, c2) := by
      intro z y g c hz hy hl hzm c2 hc2
      have hgs := (R.blk z y hy).lt hl hzm
      rcases hm g c2 hc2 with ⟨hko, c0, hc0⟩ | h
      · exact hz (R.inj z b y k g c c0 hy hb hl (Blk.live_of_owned hko) hzm hc0)
      · omega
    by_cases hxb : x = b
    · by_cases hxb' : x' = b
      · rw [hxb, hxb']
      · subst hxb
        simp only [if_true] at hx
        simp only [if_neg hxb'] at hx'
        rw [hoth x' hxb'] at hy'
        exact absurd hx (key x' y' g c' hxb' hy' hl' hx' c)
    · by_cases hxb' : x' = b
      · subst hxb'
        simp only [if_true] at hx'
        simp only [if_neg hxb] at hx
        rw [hoth x hxb] at hy
        exact absurd hx' (key x y g c hxb hy hl hx c')
      · simp only [if_neg hxb] at hx
        simp only [if_neg hxb'] at hx'
        rw [hoth x hxb] at hy
        rw [hoth x' hxb'] at hy'
        exact R.inj x x' y y' g c c' hy hy' hl hl' hx hx'
  · by_cases hxb : x = b
    · subst hxb
      simp only [if_true] at hx
      rcases hm g c hx with ⟨hko, c0, hc0⟩ | h
      · exact R.own x k g c0 hb (Blk.live_of_owned hko) hc0
      · exact Nat.le_trans R.size h
    · simp only [if_neg hxb] at hx
      rw [hoth x hxb] at hy
      exact R.own x y g c hy hl hx
theorem Rel.freeze (R : Rel B w H μ) {b : Nat} {ow : Bool} {e sz : Nat} {els : List AV} (hb : H[b]? = some (.row ow e sz els)) :
    Rel B w (H.set b (.row false e sz els)) μ ∧ Ext B w H μ w (H.set b (.row false e sz els)) μ ∧ ∀ g, Owned (H.set b (.row false e sz els)) μ g → Owned H μ g := by
  have hlt : b < H.length := (List.getElem?_eq_some_iff.1 hb).1
  have hsame : (H.set b (.row false e sz els))[b]? = some (.row false e sz els) := by simp [hlt]
  have hoth : ∀ x, x ≠ b → (H.set b (.row false e sz els))[x]? = H[x]? := fun x hx => List.getElem?_set_ne (Ne.symm hx)
  have hown : ∀ g, Owned (H.set b (.row false e sz els)) μ g → Owned H μ g := by
    intro g ho
    obtain ⟨x, c, y, hx, hy, hyo⟩ := owned_iff.1 ho
    by_cases hxb : x = b
    · subst hxb; rw [hsame] at hy; cases hy; simp [Blk.owned] at hyo
    · rw [hoth x hxb] at hy; exact owned_iff.2 ⟨x, c, y, hx, hy, hyo⟩
  have E : Ext B w H μ w (H.set b (.row false e sz els)) μ := by
    refine ⟨fun g hg => ⟨⟨hg.1, hg.2.1, fun h => hg.2.2 (hown g h)⟩, rfl⟩, fun x y hy => ?_⟩
    by_cases hxb : x = b
    · subst hxb; rw [hb] at hy; cases hy; exact ⟨_, hsame, rfl, rfl, Nat.le_refl _, fun _ => rfl⟩
    · exact ⟨y, by rw [hoth x hxb]; exact hy, Blk.turns_refl rfl y⟩
  have hlive : ∀ (x : Nat) (y : Blk), (H.set b (.row false e sz els))[x]? = some y → y.live = true → ∃ y', H[x]? = some y' ∧ y'.live = true := by
    intro x y hy hl
    by_cases hxb : x = b
    · subst hxb; exact ⟨_, hb, rfl⟩
    · rw [hoth x hxb] at hy; exact ⟨y, hy, hl⟩
  refine ⟨⟨R.below, R.n0, fun x y hy => ?_, fun x x' y y' g c c' hy hy' hl hl' => ?_, fun x y g c hy hl hm => ?_⟩, E, hown⟩
  · by_cases hxb : x = b
    · subst hxb
      rw [hsame] at hy; cases hy
      have := (R.blk x _ hb).carry E (fun _ => rfl) fun _ _ _ _ => rfl
      exact this
    · rw [hoth x hxb] at hy
      exact (R.blk x y hy).carry E (fun _ => rfl) fun _ _ _ _ => rfl
  · obtain ⟨z, hz, hzl⟩ := hlive x y hy hl
    obtain ⟨z', hz', hzl'⟩ := hlive x' y' hy' hl'
    exact R.inj x x' z z' g c c' hz hz' hzl hzl'
  · obtain ⟨z, hz, hzl⟩ := hlive x y hy hl
    exact R.own x z g c hz hzl hm
theorem Rel.kill (R : Rel B w H μ) {b : Nat} {k : Blk} (hb : H[b]? = some k) :
    Rel B w (H.set b .dead) μ ∧ Ext B w H μ w (H.set b .dead) μ := by
  have hlt : b < H.length := (List.getElem?_eq_some_iff.1 hb).1
  have hsame : (H.set b .dead)[b]? = some .dead := by simp [hlt]
  have hoth : ∀ x, x ≠ b → (H.set b .dead)[x]? = H[x]? := fun x hx => List.getElem?_set_ne (Ne.symm hx)
  have hlive : ∀ (x : Nat) (y : Blk), (H.set b .dead)[x]? = some y → y.live = true → H[x]? = some y := by
    intro x y hy hl
    by_cases hxb : x = b
    · subst hxb; rw [hsame] at hy; cases hy; simp [Blk.live] at hl
    · rwa [hoth x hxb] at hy
  have hown : ∀ g, Owned (H.set b .dead) μ g → Owned H μ g := by
    intro g ho
    obtain ⟨x, c, y, hx, hy, hyo⟩ := owned_iff.1 ho
    exact owned_iff.2 ⟨x, c, y, hx, hlive x y hy (Blk.live_of_owned hyo), hyo⟩
  have E : Ext B w H μ w (H.set b .dead) μ := by
    refine ⟨fun g hg => ⟨⟨hg.1, hg.2.1, fun h => hg.2.2 (hown g h)⟩, rfl⟩, fun x y hy => ?_⟩
    by_cases hxb : x = b
    · subst hxb; exact ⟨_, hsame, by cases y <;> trivial⟩
    · exact ⟨y, by rw [hoth x hxb]; exact hy, Blk.turns_refl rfl y⟩
  refine ⟨⟨R.below, R.n0, fun x y hy => ?_, fun x x' y y' g c c' hy hy' hl hl' => R.inj x x' y y' g c c' (hlive _ _ hy hl) (hlive _ _ hy' hl') hl hl', fun x y g c hy hl hm => R.own x y g c (hlive _ _ hy hl) hl hm⟩, E⟩
  cases hl : y.live with
  | true => exact (R.blk x y (hlive x y hy hl)).carry E (fun _ => rfl) fun _ _ _ _ => rfl
  | false => cases y <;> simp_all [Blk.live, BlkOk]
end
end Go.Vm
namespace Go.Vm
open Go.RowKit
inductive Opd where
  | t (n : Nat)
  | k (v : AV)
  deriving Inhabited, Repr
def Opd.ev (ts : List AV) : Opd → AV
  | .t n => ts.getD n .undef
  | .k v => v
inductive O where
  | mov (x : Opd)
  | pick (c a b : Opd)
  | alloc (zero : List AV)
  | box (x : Opd)
  | build (zero : List AV) (parts : List (Nat × Nat × Opd))
  | bsl (e sz len : Nat) (zero : AV) (parts : List (Nat × Opd))
  | load (n : Nat) (agg : Bool) (a : Opd)
  | store (n : Nat) (a v : Opd)
  | nchk (x : Opd)
  | bin (op : BinOp) (x y : Opd)
  | beq (ne : Bool) (x y : Opd)
  | eqs (ne : Bool) (ks : List Bool) (x y : Opd)
  | isnil (ne : Bool) (x : Opd)
  | not (x : Opd)
  | neg (x : Opd)
  | conv (k : IntKind) (x : Opd)
  | b2s (x : Opd)
  | mkfn (f : Nat) (caps : List Opd)
  | mksl (e sz bytes : Nat) (zero : AV) (len cap : Opd)
  | slice (sz : Nat) (x : Opd) (lo hi : Option Opd)
  | sslice (x : Opd) (lo hi : Option Opd)
  | faddr (off : Nat) (x : Opd)
  | fld (off n : Nat) (agg : Bool) (x : Opd)
  | iaddr (sz : Nat) (x i : Opd)
  | idxs (x i : Opd)
  | extr (x : Opd) (i : Nat)
  | len (x : Opd)
  | slen (x : Opd)
  | append (e sz bytes : Nat) (s x : Opd)
  | appends (e bytes : Nat) (s x : Opd)
  | copy (d s : Opd)
  | min (x y : Opd)
  | max (x y : Opd)
  | bad
  | cap (x : Opd)
  | appz (e sz bytes : Nat) (zero : AV) (s n : Opd)
  | chk3 (x lo hi mx : Opd)
  | clear (zero : AV) (x : Opd)
  | call (f : Nat) (args : List Opd)
  | callv (x : Opd) (args : List Opd)
  deriving Inhabited, Repr
def AV.isCell : AV → Bool
  | .undef | .agg _ | .tup _ => false
  | _ => true
def AV.stored : AV → Option (List AV)
  | .agg cs => if cs.all AV.isCell then some cs else none
  | .undef | .tup _ => none
  | v => some [v]
def mkv (agg : Bool) (cs : List AV) : Option AV :=
  if agg then some (.agg cs) else match cs with | [c] => some c | _ => none
def cellsAt (H : List Blk) (n : Nat) : AV → Option (List AV)
  | .pro cs => if n ≤ cs.length then some (cs.take n) else none
  | .pbox b off => match H[b]? with
    | some (.cells cs) => if off + n ≤ cs.length then some ((cs.drop off).take n) else none
    | _ => none
  | .prow b i off tot => match H[b]? with
    | some (.row _ _ _ els) => if els.length = tot then match els[i]? with
        | some x => if off + n ≤ x.cells.length then some ((x.cells.drop off).take n) else none
        | none => none else none
    | _ => none
  | _ => none
def AV.withCells : AV → List AV → AV
  | .agg _, cs => .agg cs
  | _, [c] => c
  | _, cs => .agg cs
def setAt (H : List Blk) (vs : List AV) : AV → Option (List Blk)
  | .pbox b off => match H[b]? with
    | some (.cells cs) => if off + vs.length ≤ cs.length then some (H.set b (.cells (cs.take off ++ vs ++ cs.drop (off + vs.length)))) else none
    | _ => none
  | .prow b i off tot => match H[b]? with
    | some (.row true e sz els) => if els.length = tot then match els[i]? with
        | some x => if off + vs.length ≤ x.cells.length then
            some (H.set b (.row true e sz (els.set i (x.withCells (x.cells.take off ++ vs ++ x.cells.drop (off + vs.length)))))) else none
        | none => none else none
    | _ => none
  | _ => none
def nilfy : Nat → List AV → List AV
  | _, [] => []
  | n, .sl .nil _ [] :: r => .slref n 0 0 0 :: nilfy (n + 1) r
  | n, a :: r => a :: nilfy n r
def nils : List AV → Nat
  | [] => 0
  | .sl .nil _ [] :: r => nils r + 1
  | _ :: r => nils r
def fillAV (cs : List AV) : List (Nat × Nat × AV) → Option (List AV)
  | [] => some cs
  | (off, n, v) :: r => match v.stored with
    | some vs => if vs.length = n ∧ off + n ≤ cs.length then fillAV (cs.take off ++ vs ++ cs.drop (off + n)) r else none
    | none => none
def fillEls (sz : Nat) (els : List AV) : List (Nat × AV) → Option (List AV)
  | [] => some els
  | (i, v) :: r => match v.stored with
    | some vs => if vs.length = sz ∧ i < els.length then fillEls sz (els.set i v) r else none
    | none => none
def elsOf (H : List Blk) (sz : Nat) : AV → Option (List AV)
  | .sl _ sz' l => if sz' = sz ∨ l = [] then some l else none
  | .slref b off len tot => match H[b]? with
    | some .nrow => if off = 0 ∧ len = 0 ∧ tot = 0 then some [] else none
    | some (.row _ _ sz' els) => if sz' = sz ∧ els.length = tot ∧ off + len ≤ tot then some ((els.drop off).take len) else none
    | _ => none
  | _ => none
def fresh (H : List Blk) : AV → Bool
  | .pro _ => true
  | .pbox b _ => match H[b]? with | some (.cells _) => true | _ => false
  | .prow b _ _ tot => match H[b]? with | some (.row _ _ _ els) => els.length == tot | _ => false
  | .slref b _ _ tot => match H[b]? with | some .nrow => true | some (.row _ _ _ els) => els.length == tot | _ => false
  | .fn .. => true
  | _ => false
def lenOf (H : List Blk) : AV → Option Int
  | .sl _ _ l => some l.length
  | .slref b off len tot => if fresh H (.slref b off len tot) then some len else none
  | _ => none
def intBin (op : BinOp) (k : IntKind) (x y : Int) : Option AV :=
  match op with
  | .add => some (.int k (k.wrap (x + y)))
  | .sub => some (.int k (k.wrap (x - y)))
  | .mul => some (.int k (k.wrap (x * y)))
  | .quo => if y = 0 then none else some (.int k (k.wrap (x.tdiv y)))
  | .rem => if y = 0 then none else some (.int k (x.tmod y))
  | .and => some (.int k (k.wrap (BitVec.ofInt k.bits x &&& BitVec.ofInt k.bits y).toNat))
  | .or => some (.int k (k.wrap (BitVec.ofInt k.bits x ||| BitVec.ofInt k.bits y).toNat))
  | .xor => some (.int k (k.wrap (BitVec.ofInt k.bits x ^^^ BitVec.ofInt k.bits y).toNat))
  | .shl => if y < 0 then none else some (.int k (k.wrap (x * 2 ^ (Min.min y.toNat k.bits))))
  | .shr => if y < 0 then none else some (.int k (x.fdiv (2 ^ (Min.min y.toNat k.bits))))
  | .eql => some (.bool (decide (x = y)))
  | .neq => some (.bool (decide (x ≠ y)))
  | .lss => some (.bool (decide (x < y)))
  | .leq => some (.bool (decide (x ≤ y)))
  | .gtr => some (.bool (decide (y < x)))
  | .geq => some (.bool (decide (y ≤ x)))
  | _ => none
def strBin (op : BinOp) (x y : List UInt8) : Option AV :=
  match op with
  | .add => if x.length + y.length ≤ 4611686018427387904 then some (.str (x ++ y)) else none
  | .eql => some (.bool (decide (x = y)))
  | .neq => some (.bool (decide (x ≠ y)))
  | .lss => some (.bool (Op.bytesLess x y))
  | .leq => some (.bool (Op.bytesLess x y || decide (x = y)))
  | .gtr => some (.bool (!(Op.bytesLess x y || decide (x = y))))
  | .geq => some (.bool (!Op.bytesLess x y))
  | _ => none
def binAV (op : BinOp) : AV → AV → Option AV
  | .int k x, .int k' y => match op with
    | .shl | .shr => intBin op k x y
    | _ => if k = k' then intBin op k x y else none
  | .str x, .str y => strBin op x y
  | _, _ => none
def cellsEq : List Bool → List AV → List AV → Option Bool
  | [], [], [] => some true
  | true :: ks, .int k x :: as, .int k' y :: bs => if k = k' then (cellsEq ks as bs).map (decide (x = y) && ·) else none
  | false :: ks, .str x :: as, .str y :: bs => (cellsEq ks as bs).map (decide (x = y) && ·)
  | _, _, _ => none
def nilOf (H : List Blk) : AV → Option Bool
  | .sl .nil _ [] => some true
  | .sl _ _ (_ :: _) => some false
  | .sl .non _ _ => some false
  | .slref b _ _ tot => match H[b]? with
    | some .nrow => some true
    | some (.row _ _ _ els) => if els.length = tot ∧ 0 < tot then some false else none
    | _ => none
  | _ => none
def natOf (x : AV) (d : Nat) : Option Nat :=
  match x with
  | .int _ i => if 0 ≤ i ∧ i ≤ d then some i.toNat else none
  | _ => none
def hiOf (len : Nat) : Option AV → Option Nat
  | some v => natOf v len
  | none => some len
def loOf (h : Nat) : Option AV → Option Nat
  | some v => natOf v h
  | none => some 0
def cutOf (len : Nat) (lo hi : Option AV) : Option (Nat × Nat) := (hiOf len hi).bind fun h => (loOf h lo).map fun l => (l, h)
def mksl (sz : Nat) (l : List AV) : AV := .sl .any (match l with | [] => 0 | _ :: _ => sz) l
def sliceAV (H : List Blk) (sz : Nat) (lo hi : Option AV) : AV → Option AV
  | .sl .nil sz' [] => (cutOf 0 lo hi).map fun _ => .sl .nil sz' []
  | .sl _ sz' l => if sz' = sz ∨ l = [] then (cutOf l.length lo hi).map fun (a, b) => mksl sz' ((l.take b).drop a) else none
  | .slref b off len tot => match H[b]? with
    | some (.row _ _ sz' els) => if sz' = sz ∧ els.length = tot then (cutOf len lo hi).map fun (x, y) => .slref b (off + x) (y - x) tot else none
    | _ => none
  | _ => none
def iaddrAV (H : List Blk) (sz : Nat) (x i : AV) : Option AV :=
  match x, i with
  | .sl _ sz' l, .int _ n => if sz' = sz ∧ 0 ≤ n ∧ n < l.length then some (.pro (l.getD n.toNat .undef).cells) else none
  | .slref b off len tot, .int _ n => match H[b]? with
    | some (.row _ _ sz' els) => if sz' = sz ∧ els.length = tot ∧ off + len ≤ tot ∧ 0 ≤ n ∧ n < len then some (.prow b (off + n.toNat) 0 tot) else none
    | _ => none
  | _, _ => none
def faddrAV (H : List Blk) (off : Nat) (x : AV) : Option AV :=
  if fresh H x then match x with
    | .pro cs => some (.pro (cs.drop off))
    | .pbox b o => some (.pbox b (o + off))
    | .prow b i o t => some (.prow b i (o + off) t)
    | _ => none
  else none
def bytesOf : List AV → Option (List UInt8)
  | [] => some []
  | .int .u8 n :: r => (bytesOf r).map (UInt8.ofNat n.toNat :: ·)
  | _ :: _ => none
def appendAV (H : List Blk) (e sz bytes : Nat) (s : AV) (xs : List AV) : Option (AV × List Blk) :=
  match s with
  | .sl .nil _ [] => if xs.length * bytes ≤ 140737488355328 then some (.slref H.length 0 xs.length xs.length, H ++ [.row true e sz xs]) else none
  | .slref b 0 len tot => match H[b]? with
    | some .nrow => if len = 0 ∧ tot = 0 ∧ xs.length * bytes ≤ 140737488355328 then some (.slref b 0 xs.length xs.length, H.set b (.row true e sz xs)) else none
    | some (.row true e' sz' els) =>
      if e' = e ∧ sz' = sz ∧ els.length = tot ∧ len ≤ tot ∧ (len + xs.length) * bytes ≤ 140737488355328 then
        if len + xs.length ≤ tot then some (.slref b 0 (len + xs.length) tot, H.set b (.row true e sz (els.take len ++ xs ++ els.drop (len + xs.length))))
        else some (.slref b 0 (len + xs.length) (len + xs.length), H.set b (.row true e sz (els.take len ++ xs)))
      else none
    | _ => none
  | _ => none
def O.eval (ρ : Opd → AV) (H : List Blk) : O → Option (AV × List Blk)
  | .mov x => some (ρ x, H)
  | .pick c a b => match ρ c with | .bool t => some (if t then ρ a else ρ b, H) | _ => none
  | .alloc zero => if zero.all AV.isCell then some (.pbox (H.length + nils zero) 0, H ++ List.replicate (nils zero) .nrow ++ [.cells (nilfy H.length zero)]) else none
  | .box x => (ρ x).stored.map fun cs => (.pbox (H.length + nils cs) 0, H ++ List.replicate (nils cs) .nrow ++ [.cells (nilfy H.length cs)])
  | .build zero parts => if zero.all AV.isCell then (fillAV zero (parts.map fun (o, n, x) => (o, n, ρ x))).map fun cs => (.agg cs, H) else none
  | .bsl e sz m zero parts => match zero.stored with
    | some z => if z.length = sz then (fillEls sz (List.replicate m zero) (parts.map fun (i, x) => (i, ρ x))).map fun els => (.slref H.length 0 m m, H ++ [.row true e sz els]) else none
    | none => none
  | .load n agg a => ((cellsAt H n (ρ a)).bind (mkv agg)).map fun v => (v, H)
  | .store n a v => match (ρ v).stored with
    | some cs => if cs.length = n then (setAt (H ++ List.replicate (nils cs) .nrow) (nilfy H.length cs) (ρ a)).map fun H' => (.tup [], H') else none
    | none => none
  | .nchk x => if fresh H (ρ x) then match ρ x with
    | .slref .. => none
    | v => some (v, H)
    else none
  | .bin op x y => (binAV op (ρ x) (ρ y)).map fun v => (v, H)
  | .beq ne x y => match ρ x, ρ y with
    | .bool p, .bool q => some (.bool (decide (p = q) != ne), H)
    | _, _ => none
  | .eqs ne ks x y => match ρ x, ρ y with
    | .agg xs, .agg ys => (cellsEq ks xs ys).map fun b => (.bool (b != ne), H)
    | _, _ => none
  | .isnil ne x => (nilOf H (ρ x)).map fun b => (.bool (b != ne), H)
  | .not x => match ρ x with | .bool b => some (.bool (!b), H) | _ => none
  | .neg x => match ρ x with | .int k n => some (.int k (k.wrap (0 - n)), H) | _ => none
  | .conv k x => match ρ x with | .int _ n => some (.int k (k.wrap n), H) | _ => none
  | .b2s x => ((elsOf H 1 (ρ x)).bind bytesOf).map fun s => (.str s, H)
  | .mkfn f caps => if (caps.map ρ).all (fun v => v.isCell && !(match v with | .fn .. => true | _ => false)) then some (.fn f (caps.map ρ), H) else none
  | .mksl e sz bytes zero m c => match ρ m, ρ c, zero.stored with
    | .int _ n, .int _ c, some z => if 0 ≤ n ∧ n ≤ c ∧ c * bytes ≤ 140737488355328 ∧ c ≤ 140737488355328 ∧ z.length = sz then some (.slref H.length 0 n.toNat n.toNat, H ++ [.row true e sz (List.replicate n.toNat zero)]) else none
    | _, _, _ => none
  | .slice sz x lo hi => (sliceAV H sz (lo.map ρ) (hi.map ρ) (ρ x)).map fun v => (v, H)
  | .sslice x lo hi => match ρ x with
    | .str l => (cutOf l.length (lo.map ρ) (hi.map ρ)).map fun (a, b) => (.str ((l.take b).drop a), H)
    | _ => none
  | .faddr off x => (faddrAV H off (ρ x)).map fun v => (v, H)
  | .fld off n agg x => match ρ x with
    | .agg cs => if off + n ≤ cs.length then (mkv agg ((cs.drop off).take n)).map fun v => (v, H) else none
    | _ => none
  | .iaddr sz x i => (iaddrAV H sz (ρ x) (ρ i)).map fun v => (v, H)
  | .idxs x i => match ρ x, ρ i with
    | .str l, .int _ n => if 0 ≤ n ∧ n < l.length then some (.int .u8 (l.getD n.toNat 0).toNat, H) else none
    | _, _ => none
  | .extr x i => match ρ x with
    | .tup xs => match xs[i]? with | some v => some (v, H) | none => none
    | _ => none
  | .len x => (lenOf H (ρ x)).map fun n => (.int .i64 n, H)
  | .slen x => match ρ x with | .str l => some (.int .i64 l.length, H) | _ => none
  | .append e sz bytes s x => match elsOf H sz (ρ x) with
    | some xs => appendAV H e sz bytes (ρ s) xs
    | none => none
  | .appends e bytes s x => match ρ x with
    | .str l => appendAV H e 1 bytes (ρ s) (l.map fun b => .int .u8 b.toNat)
    | _ => none
  | .copy d s => match ρ d, elsOf H 1 (ρ s) with
    | .slref b off n tot, some xs => match H[b]? with
      | some (.row true e2 1 els) => if els.length = tot ∧ off + n ≤ tot then
          some (.int .i64 (Min.min xs.length n : Nat), H.set b (.row true e2 1 (els.take off ++ xs.take n ++ els.drop (off + Min.min xs.length n)))) else none
      | _ => none
    | _, _ => none
  | .min x y => match ρ x, ρ y with
    | .int k a, .int k' b => if k = k' then some (.int k (if b < a then b else a), H) else none
    | _, _ => none
  | .max x y => match ρ x, ρ y with
    | .int k a, .int k' b => if k = k' then some (.int k (if a < b then b else a), H) else none
    | _, _ => none
  | .bad => none
  | .cap x => match ρ x with
    | .sl .nil _ [] => some (.int .i64 0, H)
    | _ => none
  | .appz e sz bytes zero s n => match ρ s, ρ n with
    | .sl .nil _ [], .int .i64 m => match zero.stored with
      | some zc => if zc.length = sz ∧ 0 < sz ∧ 0 < m ∧ m ≤ maxLen ∧ m * bytes ≤ 281474976710656 then some (.slref H.length 0 m.toNat m.toNat, H ++ [.row true e sz (List.replicate m.toNat zero)]) else none
      | none => none
    | _, _ => none
  | .chk3 x lo hi mx => match lenOf H (ρ x), ρ lo, ρ hi, ρ mx with
    | some n, .int _ a, .int _ b, .int _ c => if 0 ≤ a ∧ a ≤ b ∧ b ≤ c ∧ c ≤ n then some (.undef, H) else none
    | _, _, _, _ => none
  | .clear zero x => match ρ x with
    | .slref b off n tot => match H[b]? with
      | some (.row true e2 1 els) => if els.length = tot ∧ off + n ≤ tot ∧ 0 < n then some (.tup [], H.set b (.row true e2 1 (els.take off ++ List.replicate n zero ++ els.drop (off + n)))) else none
      | _ => none
    | _ => none
  | .call .. | .callv .. => none
end Go.Vm
namespace Go.Vm
open Go.RowKit
section
variable {P : Program} {B : Base} {w w' : World} {H H' : List Blk} {μ μ' : Mu}
def sizeOf? (P : Program) (t : TypeId) : Option Nat := (P.info? t).map (·.size)
def aggOf? (P : Program) (t : TypeId) : Option Bool :=
  match P.underlying t with
  | some (.struct _) | some (.array _ _) => some true
  | some _ => some false
  | none => none
theorem run_sizeOf_vm {t : TypeId} {n : Nat} (h : sizeOf? P t = some n) (w : World) : (sizeOf t).run P w = .ok n w := by
  unfold sizeOf? at h
  cases hi : P.info? t with
  | none => simp [hi] at h
  | some i => simp [hi] at h; simp [sizeOf, typeInfo, hi, h]
theorem run_isAgg_vm {t : TypeId} {b : Bool} (h : aggOf? P t = some b) (w : World) : (isAgg t).run P w = .ok b w := by
  unfold aggOf? at h
  unfold isAgg
  cases hu : P.underlying t with
  | none => simp [hu] at h
  | some d =>
    rw [Sem.run_bind, run_underlying hu]
    rw [hu] at h
    cases d <;> simp_all
theorem RepU.mkv {agg : Bool} {cs : List AV} {v : AV} (h : mkv agg cs = some v) {us : List Value} (hc : All2 (RepA B w H μ) cs us) :
    ∃ val, RepU B w H μ v val ∧ (if agg then val = .agg us.toArray else us = [val]) := by
  unfold Vm.mkv at h
  cases agg with
  | true => simp at h; subst h; exact ⟨.agg us.toArray, ⟨us.toArray, rfl, by simpa using hc⟩, rfl⟩
  | false =>
    simp at h
    split at h
    · rename_i c
      simp at h; subst h
      cases hc with
      | cons h1 t => cases t; exact ⟨_, by
          cases c with
          | undef => trivial
          | agg cs => exact absurd h1 (by intro h; cases h.2)
          | _ => exact h1, rfl⟩
    · cases h
theorem RepU.repV {v : AV} {val : Value} (h : RepU B w H μ v val) (ht : ∀ xs, v ≠ .tup xs) : RepV B w H μ v val := by
  cases v <;> first | exact h | exact absurd rfl (ht _)
theorem mkv_tup {agg : Bool} {cs xs : List AV} (h : mkv agg cs = some (.tup xs)) (us : List Value) (hc : All2 (RepA B w H μ) cs us) : False := by
  unfold mkv at h
  cases agg with
  | true => simp at h
  | false =>
    simp at h
    split at h
    · simp at h; subst h
      cases hc with
      | cons h1 t => cases h1.2
    · cases h
theorem run_loadVar_vm {t : TypeId} {n : Nat} {agg : Bool} (hs : sizeOf? P t = some n) (ha : aggOf? P t = some agg) {g o : Nat} {us : List Value} (hl : us.length = n)
    (hu : ∀ (j : Nat) (u : Value), us[j]? = some u → w.cell? ⟨g, o + j, none⟩ = some u) {val : Value} (hv : if agg then val = .agg us.toArray else us = [val]) :
    (loadVar t ⟨g, o, none⟩).run P w = .ok val w := by
  unfold loadVar
  rw [Sem.run_bind, run_isAgg_vm ha]
  cases agg with
  | true =>
    simp at hv; subst hv
    subst hl
    have := run_loadCells_list (P := P) w ⟨g, o, none⟩ us (fun j v hv => by rw [Addr.add_lit]; exact hu j v hv)
    simp [run_sizeOf_vm hs, this]
  | false =>
    simp at hv; subst hv
    have := hu 0 val rfl
    simp at this
    simp [this]
theorem Rel.cellsAt (R : Rel B w H μ) {n : Nat} {a : AV} {v : Value} (hv : RepV B w H μ a v) {cs : List AV} (h : cellsAt H n a = some cs) :
    ∃ g o us, v = .pointer (some ⟨g, o, none⟩) ∧ cs.length = n ∧ All2 (RepA B w H μ) cs us ∧ ∀ (j : Nat) (u : Value), us[j]? = some u → w.cell? ⟨g, o + j, none⟩ = some u := by
  cases a with
  | pro ds =>
    simp only [Vm.cellsAt] at h
    split at h
    · rename_i hn
      simp at h; subst h
      cases hv.2 with
      | pro hl =>
        obtain ⟨us, h1, h2⟩ := (hl.take n).all
        exact ⟨_, _, us, rfl, by simp; omega, h1.mono fun _ _ => RepA.of_repC, h2⟩
    · cases h
  | pbox b off =>
    simp only [Vm.cellsAt] at h
    cases hb : H[b]? with
    | none => simp [hb] at h
    | some k =>
      cases k with
      | cells ds =>
        simp only [hb] at h
        split at h
        · rename_i hn
          simp at h; subst h
          have hv' := hv.2
          simp only [RepR0, hb] at hv'
          obtain ⟨g, c, hm, rfl⟩ := hv'
          obtain ⟨g', c', T, vs, h1, h2, h3⟩ := R.blk b _ hb
          rw [hm] at h1; cases h1
          refine ⟨g, off, (vs.toList.drop off).take n, rfl, by simp; omega, (h3.drop off).take n, fun j u hu => ?_⟩
          have : vs[off + j]? = some u := by
            rw [List.getElem?_take] at hu
            split at hu
            · rw [List.getElem?_drop] at hu; simpa using hu
            · cases hu
          simp [World.cell?, h2, this]
        · cases h
      | _ => simp [hb] at h
  | prow b i off tot =>
    simp only [Vm.cellsAt] at h
    cases hb : H[b]? with
    | none => simp [hb] at h
    | some k =>
      cases k with
      | row ow e sz els =>
        simp only [hb] at h
        split at h
        · rename_i htot
          cases hx : els[i]? with
          | none => simp [hx] at h
          | some x =>
            simp only [hx] at h
            split at h
            · rename_i hn
              simp at h; subst h
              have hv' := hv.2
              simp only [RepR0, hb] at hv'
              obtain ⟨hle, hv2⟩ := hv'
              obtain ⟨hi, g, cap, hm, rfl⟩ := hv2 htot
              obtain ⟨hsz, ⟨h1, h2⟩ | ⟨g', cap', cur, h1, h2, h3, h4, h5, h6⟩⟩ := R.blk b _ hb
              · rw [h1] at hm; cases hm
              · rw [hm] at h1; cases h1
                have hxs : x.cells.length = sz := hsz x (List.mem_of_getElem? hx)
                have hflat : ((flat els).drop (i * sz)).take sz = x.cells := by
                  rw [← flat_drop i hsz]
                  have : els.drop i = x :: els.drop (i + 1) := by
                    rw [List.drop_eq_getElem_cons (by rw [htot]; exact hi)]
                    congr 1
                    exact (List.getElem?_eq_some_iff.1 hx).2
                  rw [this, flat_cons, ← hxs, List.take_append]
                  simp
                have h7 := ((h6.drop (i * sz)).take sz)
                rw [hflat] at h7
                refine ⟨g, i * sz + off, ((((cur.toList.take (els.length * sz)).drop (i * sz)).take sz).drop off).take n, rfl, by simp; omega, (h7.drop off).take n, fun j u hu => ?_⟩
                have : cur[i * sz + off + j]? = some u := by
                  rw [List.getElem?_take] at hu
                  split at hu
                  · rw [List.getElem?_drop, List.getElem?_take] at hu
                    split at hu
                    · rw [List.getElem?_drop, List.getElem?_take] at hu
                      split at hu
                      · rw [← Nat.add_assoc] at hu; simpa using hu
                      · cases hu
                    · cases hu
                  · cases hu
                simp [World.cell?, h2, this]
            · cases h
        · cases h
      | _ => simp [hb] at h
  | _ => simp [Vm.cellsAt] at h
theorem ev_load (R : Rel B w H μ) {t : TypeId} {n : Nat} {agg : Bool} (hs : sizeOf? P t = some n) (ha : aggOf? P t = some agg) {a : AV} {v : Value} (hv : RepV B w H μ a v)
    {x : AV} (h : (Vm.cellsAt H n a).bind (Vm.mkv agg) = some x) : ∃ val, (Instr.loadAt t v).run P w = .ok val w ∧ RepV B w H μ x val := by
  cases hc : Vm.cellsAt H n a with
  | none => simp [hc] at h
  | some cs =>
    simp [hc] at h
    obtain ⟨g, o, us, rfl, hl, h2, h3⟩ := R.cellsAt hv hc
    obtain ⟨val, hr, hvl⟩ := RepU.mkv h h2
    refine ⟨val, ?_, hr.repV fun xs e => mkv_tup (e ▸ h) us h2⟩
    simp [Instr.loadAt, Instr.sureAddr, run_loadVar_vm hs ha (h2.length.symm.trans hl) h3 hvl]
end
end Go.Vm
namespace Go.Vm
open Go.RowKit
section
variable {P : Program} {B : Base} {w w' : World} {H H' H2 : List Blk} {μ μ' : Mu}
theorem RepV.stored {a : AV} {v : Value} (h : RepV B w H μ a v) {cs : List AV} (hs : a.stored = some cs) :
    All2 (RepA B w H μ) cs v.cells.toList := by
  cases a with
  | agg ds =>
    simp only [AV.stored] at hs
    split at hs
    · simp at hs; subst hs
      obtain ⟨vs, rfl, hc⟩ := h
      exact hc
    · cases hs
  | undef => simp [AV.stored] at hs
  | tup _ => simp [AV.stored] at hs
  | _ =>
    simp only [AV.stored, Option.some.injEq] at hs
    subst hs
    simp only [RepV, RepU] at h
    rw [cells_of_one h.one]
    exact .cons h .nil
theorem All2.ones {cs : List AV} {us : List Value} (h : All2 (RepA B w H μ) cs us) : ∀ u ∈ us, u.oneCell' = true := by
  intro u hu
  obtain ⟨i, hi⟩ := List.mem_iff_getElem?.1 hu
  obtain ⟨a, _, hr⟩ := h.get_r hi
  exact hr.one
theorem Rel.pushN (R : Rel B w H μ) : ∀ n, Rel B w (H ++ List.replicate n .nrow) μ ∧ Ext B w H μ w (H ++ List.replicate n .nrow) μ
  | 0 => by simpa using ⟨R, Ext.refl B w H μ⟩
  | n + 1 => by
    obtain ⟨R1, E1⟩ := R.pushN n
    obtain ⟨R2, E2⟩ := R1.push .nrow rfl
    rw [List.replicate_succ', ← List.append_assoc]
    exact ⟨R2, E1.trans E2⟩
theorem nilfy_rep (E : Ext B w H μ w' H2 μ') : ∀ {cs : List AV} {us : List Value} (n : Nat), All2 (RepA B w H μ) cs us → (∀ i, i < nils cs → H2[n + i]? = some .nrow) →
    All2 (RepA B w' H2 μ') (nilfy n cs) us := by
  intro cs us n h
  induction h generalizing n with
  | nil => intro _; simp only [nilfy]; exact .nil
  | @cons a u as us h t ih =>
    intro hn
    have hgen : (nilfy n (a :: as) = a :: nilfy n as ∧ nils (a :: as) = nils as) ∨ (∃ s, a = .sl .nil s []) := by
      cases a with
      | sl k s l => cases k <;> cases l <;> simp [nilfy, nils]
      | _ => simp [nilfy, nils]
    rcases hgen with ⟨e1, e2⟩ | ⟨s, rfl⟩
    · rw [e1]
      exact .cons (RepA.ext E h) (ih n fun i hi => hn i (by omega))
    · simp only [nilfy]
      simp only [nils] at hn
      have hv : u = .slice none 0 0 := by
        have := h.2
        simp only [RepR0] at this
        cases this with
        | nilSl _ => rfl
        | slE hk _ => exact absurd rfl hk
        | sl hk _ _ _ _ => exact absurd rfl hk
      subst hv
      refine .cons ⟨rfl, ?_⟩ (ih (n + 1) fun i hi => by have := hn (i + 1) (by omega); rwa [show n + (i + 1) = n + 1 + i by omega] at this)
      have h0 := hn 0 (by omega)
      simp only [Nat.add_zero] at h0
      simp [RepR0, h0]
theorem Rel.newBlk (R : Rel B w H μ) (cur : Array Value) (e : TypeId) (cap : Nat) (k' : Blk)
    (hok : ∀ {w2 : World} {H2 : List Blk} {μ2 : Mu}, Ext B w H μ w2 H2 μ2 → w2.heap[w.heap.size]? = some (.cells cur e (0, 0)) → μ2 H.length = some (w.heap.size, cap) → BlkOk B w2 H2 μ2 H.length k') :
    ∃ μ', Rel B (w.alloc (.cells cur e)) (H ++ [k']) μ' ∧ Ext B w H μ (w.alloc (.cells cur e)) (H ++ [k']) μ' ∧ μ' H.length = some (w.heap.size, cap) := by
  refine ⟨fun x => if x = H.length then some (w.heap.size, cap) else μ x, ?_⟩
  have hnew : (H ++ [k'])[H.length]? = some k' := by simp
  have hget : ∀ (b : Nat) (x : Blk), (H ++ [k'])[b]? = some x → (b ≠ H.length ∧ H[b]? = some x) ∨ (b = H.length ∧ x = k') := by
    intro b x hx
    rcases Nat.lt_trichotomy b H.length with hlt | he | hgt
    · rw [List.getElem?_append_left hlt] at hx; exact .inl ⟨by omega, hx⟩
    · subst he; rw [hnew] at hx; cases hx; exact .inr ⟨rfl, rfl⟩
    · rw [List.getElem?_eq_none (by simp; omega)] at hx; cases hx
  have hown : ∀ g, g < w.heap.size → Owned (H ++ [k']) (fun x => if x = H.length then some (w.heap.size, cap) else μ x) g → Owned H μ g := by
    intro g hg ho
    obtain ⟨b, c, x, hm, hx, hxo⟩ := owned_iff.1 ho
    rcases hget b x hx with ⟨hne, hb⟩ | ⟨he, _⟩
    · simp only [if_neg hne] at hm; exact owned_iff.2 ⟨b, c, x, hm, hb, hxo⟩
    · simp only [if_pos he, Option.some.injEq, Prod.mk.injEq] at hm; omega
  have hbel : Below B.w0.heap.size w (w.alloc (.cells cur e)) := (Below.refl _ _).alloc R.size _
  have E : Ext B w H μ (w.alloc (.cells cur e)) (H ++ [k']) (fun x => if x = H.length then some (w.heap.size, cap) else μ x) := by
    refine ⟨fun g hg => ⟨⟨hg.1, Nat.lt_of_lt_of_le hg.2.1 hbel.size, fun h => hg.2.2 (hown g hg.2.1 h)⟩, heap_alloc_old w _ g hg.2.1⟩, fun b x hx => ?_⟩
    have hlt : b < H.length := (List.getElem?_eq_some_iff.1 hx).1
    exact ⟨x, by rw [List.getElem?_append_left hlt]; exact hx, Blk.turns_refl (by simp; omega) x⟩
  refine ⟨⟨R.below.trans hbel, R.n0, fun b x hx => ?_, fun b b' x x' g c c' hx hx' hl hl' hm hm' => ?_, fun b x g c hx hl hm => ?_⟩, E, by simp⟩
  · rcases hget b x hx with ⟨hne, hb⟩ | ⟨rfl, rfl⟩
    · have hok := R.blk b x hb
      exact hok.carry E (fun _ => by simp [hne]) fun g c hl hm => heap_alloc_old w _ g (hok.lt hl hm)
    · exact hok E (heap_alloc_new w _) (by simp)
  · rcases hget b x hx with ⟨hne, hb⟩ | ⟨rfl, rfl⟩ <;> rcases hget b' x' hx' with ⟨hne', hb'⟩ | ⟨rfl, rfl⟩
    · simp only [if_neg hne] at hm
      simp only [if_neg hne'] at hm'
      exact R.inj b b' x x' g c c' hb hb' hl hl' hm hm'
    · simp only [if_neg hne] at hm
      simp only [if_true, Option.some.injEq, Prod.mk.injEq] at hm'
      have := (R.blk b x hb).lt hl hm
      omega
    · simp only [if_neg hne'] at hm'
      simp only [if_true, Option.some.injEq, Prod.mk.injEq] at hm
      have := (R.blk b' x' hb').lt hl' hm'
      omega
    · rfl
  · rcases hget b x hx with ⟨hne, hb⟩ | ⟨rfl, rfl⟩
    · simp only [if_neg hne] at hm
      exact R.own b x g c hb hl hm
    · simp only [if_true, Option.some.injEq, Prod.mk.injEq] at hm
      have := R.size
      omega
theorem Rel.newCells (R : Rel B w H μ) (cur : Array Value) (e : TypeId) {cs : List AV} (hc : All2 (RepA B w H μ) cs cur.toList) :
    ∃ μ', Rel B (w.alloc (.cells cur e)) (H ++ [.cells cs]) μ' ∧ Ext B w H μ (w.alloc (.cells cur e)) (H ++ [.cells cs]) μ' ∧
      RepV B (w.alloc (.cells cur e)) (H ++ [.cells cs]) μ' (.pbox H.length 0) (.pointer (some ⟨w.heap.size, 0, none⟩)) := by
  obtain ⟨μ', R', E', hm⟩ := R.newBlk cur e 0 (.cells cs) (fun E h1 h2 => ⟨_, _, e, cur, h2, h1, hc.mono fun _ _ => RepA.ext E⟩)
  refine ⟨μ', R', E', ⟨rfl, ?_⟩⟩
  simp only [RepR0, List.getElem?_concat_length]
  exact ⟨_, _, hm, rfl⟩
theorem Rel.newRow (R : Rel B w H μ) (cur : Array Value) (e : TypeId) (cap sz : Nat) {els : List AV} (hsz : ∀ x ∈ els, x.cells.length = sz) (hlen : els.length ≤ cap) (hcap : cap ≤ maxLen) (hcur : cur.size = cap * sz)
    (hc : All2 (RepA B w H μ) (flat els) (cur.toList.take (els.length * sz))) :
    ∃ μ', Rel B (w.alloc (.cells cur e)) (H ++ [.row true e sz els]) μ' ∧ Ext B w H μ (w.alloc (.cells cur e)) (H ++ [.row true e sz els]) μ' ∧
      RepV B (w.alloc (.cells cur e)) (H ++ [.row true e sz els]) μ' (.slref H.length 0 els.length els.length) (.slice (some ⟨w.heap.size, 0, none⟩) els.length cap) := by
  obtain ⟨μ', R', E', hm⟩ := R.newBlk cur e cap (.row true e sz els) (fun E h1 h2 => ⟨hsz, .inr ⟨_, _, cur, h2, h1, hlen, hcap, hcur, hc.mono fun _ _ => RepA.ext E⟩⟩)
  refine ⟨μ', R', E', ⟨rfl, ?_⟩⟩
  simp only [RepR0, List.getElem?_concat_length]
  exact ⟨Nat.le_refl _, fun _ => ⟨by omega, .inr ⟨_, _, _, _, hm, rfl, ⟨hlen, hcap, rfl⟩, fun _ => by simp, rfl⟩⟩⟩
theorem ev_newVar (R : Rel B w H μ) {t : TypeId} {v : Value} {cs : List AV} (hc : All2 (RepA B w H μ) cs v.cells.toList) :
    ∃ val w' μ', (newVar t v).run P w = .ok val w' ∧ Rel B w' (H ++ List.replicate (nils cs) .nrow ++ [.cells (nilfy H.length cs)]) μ' ∧
      Ext B w H μ w' (H ++ List.replicate (nils cs) .nrow ++ [.cells (nilfy H.length cs)]) μ' ∧
      RepV B w' (H ++ List.replicate (nils cs) .nrow ++ [.cells (nilfy H.length cs)]) μ' (.pbox (H.length + nils cs) 0) (.pointer (some val)) := by
  obtain ⟨R1, E1⟩ := R.pushN (nils cs)
  have hc1 := nilfy_rep E1 H.length hc (fun i hi => by
    rw [List.getElem?_append_right (by omega)]
    simp [hi])
  obtain ⟨μ', R2, E2, hv⟩ := R1.newCells v.cells t hc1
  simp only [List.length_append, List.length_replicate] at hv
  refine ⟨⟨w.heap.size, 0, none⟩, _, μ', ?_, R2, E1.trans E2, hv⟩
  simp [newVar, newRow]
end
end Go.Vm
namespace Go.Vm
open Go.RowKit
section
variable {P : Program} {B : Base} {w w' : World} {H H' H2 : List Blk} {μ μ' : Mu}
theorem RepA.cells1 {a : AV} {v : Value} (h : RepA B w H μ a v) : a.cells = [a] := by
  cases a with
  | agg cs => cases h.2
  | _ => rfl
theorem All2.cells1 {cs : List AV} {us : List Value} (h : All2 (RepA B w H μ) cs us) : ∀ c ∈ cs, c.cells = [c] := by
  intro c hc
  obtain ⟨i, hi⟩ := List.mem_iff_getElem?.1 hc
  obtain ⟨u, _, hr⟩ := h.get hi
  exact hr.cells1
theorem withCells_cells {x : AV} {cs : List AV} (hl : cs.length = x.cells.length) (h1 : ∀ c ∈ cs, c.cells = [c]) : (x.withCells cs).cells = cs := by
  cases x with
  | agg ds => rfl
  | _ =>
    simp only [AV.cells, List.length_singleton] at hl
    obtain ⟨c, rfl⟩ := List.length_eq_one_iff.1 hl
    simp [AV.withCells, h1 c (by simp)]
theorem flat_set {sz : Nat} {y : AV} (hy : y.cells.length = sz) : ∀ {els : List AV} {i : Nat}, (∀ x ∈ els, x.cells.length = sz) → i < els.length →
    flat (els.set i y) = (flat els).take (i * sz) ++ y.cells ++ (flat els).drop (i * sz + sz)
  | [], i, _, h => by simp at h
  | a :: as, 0, hs, _ => by
    have h0 := hs a (by simp)
    simp only [List.set_cons_zero, flat_cons, Nat.zero_mul, List.take_zero, List.nil_append, Nat.zero_add]
    rw [List.drop_append]
    rw [List.drop_of_length_le (l := a.cells) (by omega), h0]
    simp
  | a :: as, i + 1, hs, h => by
    have h0 := hs a (by simp)
    have ih := flat_set hy (els := as) (i := i) (fun x hx => hs x (by simp [hx])) (by simpa using h)
    simp only [List.set_cons_succ, flat_cons, ih]
    have e1 : (i + 1) * sz = a.cells.length + i * sz := by rw [Nat.add_mul, h0]; omega
    rw [e1, List.take_length_add_append, Nat.add_assoc, List.drop_length_add_append]
    simp [List.append_assoc]
theorem take_splice {α : Type} (L us : List α) (p N : Nat) (h : p + us.length ≤ N) (hN : N ≤ L.length) :
    (L.take p ++ us ++ L.drop (p + us.length)).take N = (L.take N).take p ++ (us ++ (L.take N).drop (p + us.length)) := by
  have hA : (L.take N).length = N := by simp; omega
  have e1 : L.take p = (L.take N).take p := by rw [List.take_take]; congr 1; omega
  have e2 : L.drop (p + us.length) = (L.take N).drop (p + us.length) ++ L.drop N := by
    conv => lhs; rw [← List.take_append_drop N L]
    rw [List.drop_append_of_le_length (by omega)]
  rw [e1, e2, ← List.append_assoc, List.append_assoc ((L.take N).take p)]
  have hlen : ((L.take N).take p ++ (us ++ (L.take N).drop (p + us.length))).length = N := by simp; omega
  rw [List.take_append_of_le_length (Nat.le_of_eq hlen.symm), List.take_of_length_le (Nat.le_of_eq hlen)]
theorem below_setRow {n : Nat} {w : World} {g : Nat} (hg : n ≤ g) (cs : Array Value) : Below n w (w.setRow g cs) :=
  ⟨rfl, rfl, rfl, by simp, fun k hk => setRow_other w g k cs (by omega)⟩
theorem Rel.owned_ge (R : Rel B w H μ) {b g c : Nat} {k : Blk} (hb : H[b]? = some k) (hk : k.owned = true) (hm : μ b = some (g, c)) : B.w0.heap.size ≤ g :=
  R.own b k g c hb (Blk.live_of_owned hk) hm
theorem Rel.write (R : Rel B w H μ) {b g c : Nat} {k k' : Blk} (hb : H[b]? = some k) (hk : k.owned = true) (hm : μ b = some (g, c)) {cur : Array Value} {T : TypeId}
    (_hg : w.heap[g]? = some (.cells cur T (0, 0))) (cs : Array Value) (ht : Blk.turns True False k k')
    (hok : ∀ {w2 : World} {H2 : List Blk} {μ2 : Mu}, Ext B w H μ w2 H2 μ2 → w2.heap[g]? = some (.cells cs T (0, 0)) → μ2 b = some (g, c) → BlkOk B w2 H2 μ2 b k') :
    ∃ μ', Rel B (w.setRow g cs) (H.set b k') μ' ∧ Ext B w H μ (w.setRow g cs) (H.set b k') μ' ∧ μ' b = some (g, c) := by
  have := R.upd (w' := w.setRow g cs) (k' := k') hb (some (g, c)) (below_setRow (R.owned_ge hb hk hm) cs)
    (fun g' c' h => by cases h; exact .inl ⟨hk, c, hm⟩)
    (fun i _ hne => setRow_other w g i cs (fun e => hne c (by rw [e])))
    (by rw [hm]; cases k <;> cases k' <;> simp_all [Blk.turns, Blk.owned])
    (fun E => hok E (setRow_heap w g cur cs T (0, 0) _hg) (by simp))
  exact ⟨_, this.1, this.2, by simp⟩
theorem Rel.setAt (R : Rel B w H μ) {a : AV} {v : Value} (hv : RepV B w H μ a v) {vs : List AV} {us : List Value} (hc : All2 (RepA B w H μ) vs us) (h : setAt H vs a = some H') :
    ∃ g o w' μ', v = .pointer (some ⟨g, o, none⟩) ∧ (storeCells ⟨g, o, none⟩ us).run P w = .ok () w' ∧ Rel B w' H' μ' ∧ Ext B w H μ w' H' μ' := by
  have hlen := hc.length
  cases a with
  | pbox b off =>
    simp only [Vm.setAt] at h
    cases hb : H[b]? with
    | none => simp [hb] at h
    | some k =>
      cases k with
      | cells ds =>
        simp only [hb] at h
        split at h
        · rename_i hn
          simp only [Option.some.injEq] at h; subst h
          have hv' := hv.2
          simp only [RepR0, hb] at hv'
          obtain ⟨g, c, hm, rfl⟩ := hv'
          obtain ⟨g', c', T, cur, h1, h2, h3⟩ := R.blk b _ hb
          rw [hm] at h1; cases h1
          have hcl := h3.length
          have hst := run_storeCells_at P g off T us 0 cur w h2 (by simp at hcl; omega) (All2.ones hc)
          obtain ⟨μ', R', E', _⟩ := R.write (k' := .cells (ds.take off ++ vs ++ ds.drop (off + vs.length))) hb rfl hm h2 (cur.toList.take off ++ us ++ cur.toList.drop (off + us.length)).toArray
            (by simp only [Blk.turns]; simp; omega)
            (fun E h4 h5 => ⟨g, c, T, _, h5, h4, by
              simp only
              rw [hlen]
              exact ((((h3.mono fun _ _ => RepA.ext E).take off).append (hc.mono fun _ _ => RepA.ext E)).append ((h3.mono fun _ _ => RepA.ext E).drop _))⟩)
          simp only [Nat.add_zero] at hst
          exact ⟨g, off, _, μ', rfl, hst, R', E'⟩
        · cases h
      | _ => simp [hb] at h
  | prow b i off tot =>
    simp only [Vm.setAt] at h
    cases hb : H[b]? with
    | none => simp [hb] at h
    | some k =>
      cases k with
      | row ow e sz els =>
        cases ow with
        | false => simp [hb] at h
        | true =>
          simp only [hb] at h
          split at h
          · rename_i htot
            cases hx : els[i]? with
            | none => simp [hx] at h
            | some x =>
              simp only [hx] at h
              split at h
              · rename_i hn
                simp only [Option.some.injEq] at h; subst h
                have hv' := hv.2
                simp only [RepR0, hb] at hv'
                obtain ⟨hle, hv2⟩ := hv'
                obtain ⟨hi, g, cap, hm, rfl⟩ := hv2 htot
                obtain ⟨hsz, ⟨h1, h2⟩ | ⟨g', cap', cur, h1, h2, h3, h4, h5, h6⟩⟩ := R.blk b _ hb
                · rw [h1] at hm; cases hm
                · rw [hm] at h1; cases h1
                  have hxs : x.cells.length = sz := hsz x (List.mem_of_getElem? hx)
                  have hil : i < els.length := by omega
                  have hbig : els.length * sz ≤ cap * sz := Nat.mul_le_mul_right _ h3
                  have hone : (i + 1) * sz ≤ els.length * sz := Nat.mul_le_mul_right _ hil
                  rw [Nat.add_mul] at hone
                  have hst := run_storeCells_at P g (i * sz + off) e us 0 cur w h2 (by rw [h5]; omega) (All2.ones hc)
                  simp only [Nat.add_zero] at hst
                  have hflat : ((flat els).drop (i * sz)).take sz = x.cells := by
                    rw [← flat_drop i hsz]
                    have : els.drop i = x :: els.drop (i + 1) := by
                      rw [List.drop_eq_getElem_cons hil]
                      congr 1
                      exact (List.getElem?_eq_some_iff.1 hx).2
                    rw [this, flat_cons, ← hxs, List.take_append]
                    simp
                  have hfl : (flat els).length = els.length * sz := flat_length hsz
                  have hx1 : ∀ c ∈ x.cells, c.cells = [c] := by
                    have h7 := ((h6.drop (i * sz)).take sz)
                    rw [hflat] at h7
                    exact All2.cells1 h7
                  have hyl : (x.cells.take off ++ vs ++ x.cells.drop (off + vs.length)).length = x.cells.length := by simp; omega
                  have hyc : (x.withCells (x.cells.take off ++ vs ++ x.cells.drop (off + vs.length))).cells = x.cells.take off ++ vs ++ x.cells.drop (off + vs.length) :=
                    withCells_cells hyl (by
                      intro c hc'
                      simp only [List.mem_append] at hc'
                      rcases hc' with (h | h) | h
                      · exact hx1 c (List.mem_of_mem_take h)
                      · exact All2.cells1 hc c h
                      · exact hx1 c (List.mem_of_mem_drop h))
                  obtain ⟨μ', R', E', _⟩ := R.write (k' := .row true e sz (els.set i (x.withCells (x.cells.take off ++ vs ++ x.cells.drop (off + vs.length))))) hb rfl hm h2
                    (cur.toList.take (i * sz + off) ++ us ++ cur.toList.drop (i * sz + off + us.length)).toArray
                    (by simp [Blk.turns])
                    (fun E h7 h8 => by
                      have hsz' : ∀ z ∈ els.set i (x.withCells (x.cells.take off ++ vs ++ x.cells.drop (off + vs.length))), z.cells.length = sz := by
                        intro z hz
                        rcases List.mem_or_eq_of_mem_set hz with hz | rfl
                        · exact hsz z hz
                        · rw [hyc, hyl, hxs]
                      refine ⟨hsz', .inr ⟨g, cap, _, h8, h7, by simpa using h3, h4, by simp; omega, ?_⟩⟩
                      rw [flat_set (by rw [hyc, hyl, hxs]) hsz hil, hyc]
                      have g6 := h6.mono fun _ _ => RepA.ext E
                      have gc := hc.mono fun _ _ => RepA.ext E
                      have A := (g6.take (i * sz + off)).append (gc.append (g6.drop (i * sz + off + vs.length)))
                      have eL : (flat els).take (i * sz) ++ (x.cells.take off ++ vs ++ x.cells.drop (off + vs.length)) ++ (flat els).drop (i * sz + sz) =
                          (flat els).take (i * sz + off) ++ (vs ++ (flat els).drop (i * sz + off + vs.length)) := by
                        have e1 : (flat els).take (i * sz + off) = (flat els).take (i * sz) ++ x.cells.take off := by
                          rw [List.take_add, ← hflat, List.take_take]
                          congr 2; omega
                        have e2 : (flat els).drop (i * sz + off + vs.length) = x.cells.drop (off + vs.length) ++ (flat els).drop (i * sz + sz) := by
                          have e3 : (flat els).drop (i * sz) = x.cells ++ (flat els).drop (i * sz + sz) := by
                            rw [← hflat, ← List.drop_drop, List.take_append_drop]
                          rw [Nat.add_assoc, ← List.drop_drop, e3, List.drop_append_of_le_length hn]
                        rw [e1, e2]
                        simp [List.append_assoc]
                      rw [eL]
                      have eR : (cur.toList.take (i * sz + off) ++ us ++ cur.toList.drop (i * sz + off + us.length)).toArray.toList.take ((els.set i (x.withCells (x.cells.take off ++ vs ++ x.cells.drop (off + vs.length)))).length * sz) =
                          (cur.toList.take (els.length * sz)).take (i * sz + off) ++ (us ++ (cur.toList.take (els.length * sz)).drop (i * sz + off + vs.length)) := by
                        simp only [List.length_set]
                        rw [hlen]
                        exact take_splice cur.toList us (i * sz + off) (els.length * sz) (by omega) (by have := Array.length_toList (xs := cur); omega)
                      rw [eR]
                      exact A)
                  exact ⟨g, _, _, μ', rfl, hst, R', E'⟩
              · cases h
          · cases h
      | _ => simp [hb] at h
  | _ => simp [Vm.setAt] at h
end
end Go.Vm
namespace Go.Vm
open Go.RowKit
def const1 : Value → Option AV
  | .int k n => some (.int k n)
  | .bool b => some (.bool b)
  | .string s => some (.str s.data.toList)
  | .pointer none => some .nilp
  | .slice none 0 0 => some (.sl .nil 0 [])
  | .nilFunc => some .hole
  | _ => none
def constAV : Value → Option AV
  | .agg cs => (cs.toList.mapM const1).map .agg
  | v => const1 v
section
variable {P : Program} {B : Base} {w w' : World} {H H' H2 : List Blk} {μ μ' : Mu}
theorem const1_rep {v : Value} {a : AV} (h : const1 v = some a) : RepA B w H μ a v := by
  unfold const1 at h
  split at h <;> simp only [Option.some.injEq, reduceCtorEq] at h <;> subst h
  · exact RepA.of_repC .int
  · exact RepA.of_repC .bool
  · exact RepA.of_repC (.str rfl)
  · exact RepA.of_repC .nilp
  · exact RepA.of_repC (.nilSl (by simp))
  · exact RepA.of_repC (.hole rfl)
theorem consts_rep : ∀ {vs : List Value} {as : List AV}, vs.mapM const1 = some as → All2 (RepA B w H μ) as vs
  | [], as, h => by simp at h; subst h; exact .nil
  | v :: vs, as, h => by
    simp only [List.mapM_cons, Option.bind_eq_bind, Option.bind_eq_some_iff] at h
    obtain ⟨a, ha, bs, hb, he⟩ := h
    simp only [Option.pure_def, Option.some.injEq] at he
    subst he
    exact .cons (const1_rep ha) (consts_rep hb)
theorem constAV_rep {v : Value} {a : AV} (h : constAV v = some a) : RepV B w H μ a v := by
  unfold constAV at h
  split at h
  · rename_i cs
    cases hc : cs.toList.mapM const1 with
    | none => simp [hc] at h
    | some as =>
      simp only [hc, Option.map_some, Option.some.injEq] at h
      subst h
      exact ⟨cs, rfl, consts_rep hc⟩
  · have hr := const1_rep (B := B) (w := w) (H := H) (μ := μ) h
    cases a with
    | tup _ => cases hr.2
    | undef => cases hr.2
    | agg _ => cases hr.2
    | _ => exact hr
def Sim (P : Program) (B : Base) (w : World) (H : List Blk) (μ : Mu) (s : Sem Value) (v : AV) (H' : List Blk) : Prop :=
  ∃ val w' μ', s.run P w = .ok val w' ∧ Rel B w' H' μ' ∧ Ext B w H μ w' H' μ' ∧ RepV B w' H' μ' v val
theorem Sim.quiet (R : Rel B w H μ) {s : Sem Value} {v : AV} {val : Value} (h : s.run P w = .ok val w) (hv : RepV B w H μ v val) : Sim P B w H μ s v H :=
  ⟨val, w, μ, h, R, Ext.refl B w H μ, hv⟩
theorem foldl_set : ∀ (vs : List Value) (k off : Nat) (cells : Array Value), off + k + vs.length ≤ cells.size →
    ((vs.zipIdx k).foldl (fun cs (x : Value × Nat) => cs.setIfInBounds (off + x.2) x.1) cells).toList = cells.toList.take (off + k) ++ vs ++ cells.toList.drop (off + k + vs.length)
  | [], k, off, cells, _ => by simp
  | v :: vs, k, off, cells, h => by
    simp only [List.length_cons] at h
    simp only [List.zipIdx_cons, List.foldl_cons]
    rw [foldl_set vs (k + 1) off _ (by simp; omega)]
    simp only [Array.toList_setIfInBounds]
    have hl : off + k < cells.toList.length := by simp; omega
    rw [show off + (k + 1) = off + k + 1 by omega, List.take_set, List.drop_set_of_lt (by omega)]
    rw [List.take_succ_eq_append_getElem hl, List.set_append_right _ _ (by simp; omega)]
    have e1 : off + k - (cells.toList.take (off + k)).length = 0 := by simp; omega
    rw [e1]
    simp only [List.set_cons_zero, List.append_assoc, List.cons_append, List.nil_append, List.length_cons]
    congr 4
    omega
theorem fill_sound {place : Nat → Option (Nat × Nat)} : ∀ {ap : List (Nat × Nat × AV)} {rp : List (Nat × Value)},
    All2 (fun (x : Nat × Nat × AV) (y : Nat × Value) => place y.1 = some (x.1, x.2.1) ∧ RepV B w H μ x.2.2 y.2) ap rp →
    ∀ {cs cs' : List AV} {cells : Array Value}, fillAV cs ap = some cs' → All2 (RepA B w H μ) cs cells.toList →
    ∃ cells', Instr.fill place cells rp = some cells' ∧ All2 (RepA B w H μ) cs' cells'.toList := by
  intro ap rp h
  induction h with
  | nil => intro cs cs' cells hf hc; simp only [fillAV, Option.some.injEq] at hf; subst hf; exact ⟨cells, rfl, hc⟩
  | @cons x y ap rp hxy t ih =>
    intro cs cs' cells hf hc
    obtain ⟨off, n, v⟩ := x
    obtain ⟨i, u⟩ := y
    obtain ⟨hp, hv⟩ := hxy
    simp only at hp hv
    simp only [fillAV] at hf
    cases hs : v.stored with
    | none => simp [hs] at hf
    | some vs =>
      simp only [hs] at hf
      split at hf
      · rename_i hn
        obtain ⟨hn1, hn2⟩ := hn
        have hst := hv.stored hs
        have hl := hst.length
        simp only [Array.length_toList] at hl
        have hcl := hc.length
        simp only [Array.length_toList] at hcl
        have hfold : ((u.cells.zipIdx).foldl (fun cs (x : Value × Nat) => cs.setIfInBounds (off + x.2) x.1) cells).toList = cells.toList.take off ++ u.cells.toList ++ cells.toList.drop (off + n) := by
          have := foldl_set u.cells.toList 0 off cells (by simp; omega)
          simp only [Nat.add_zero, Array.length_toList] at this
          rw [← hl, hn1] at this
          rw [← this, ← Array.foldl_toList, Array.toList_zipIdx]
        obtain ⟨cells', h1, h2⟩ := ih hf (cells := (u.cells.zipIdx).foldl (fun cs (x : Value × Nat) => cs.setIfInBounds (off + x.2) x.1) cells) (by
          rw [hfold]
          exact ((hc.take off).append hst).append (hc.drop _))
        refine ⟨cells', ?_, h2⟩
        simp only [Instr.fill, hp]
        rw [if_neg (by simp only [Bool.or_eq_true, decide_eq_true_eq]; omega)]
        exact h1
      · cases hf
theorem ev_build (R : Rel B w H μ) {t : TypeId} {i : TypeInfo} {z : Value} {fs : Array Field} (hu : P.underlying t = some (.struct fs)) (hi : P.info? t = some i) (hz : i.zero = some z)
    {zero : List AV} (hzero : z.cells.toList.mapM const1 = some zero) {ap : List (Nat × Nat × AV)} {rp : List (Nat × Value)}
    (hp : All2 (fun (x : Nat × Nat × AV) (y : Nat × Value) => (∃ f, fs[y.1]? = some f ∧ f.offset = x.1 ∧ sizeOf? P f.type = some x.2.1) ∧ RepV B w H μ x.2.2 y.2) ap rp)
    (hall : ∀ f ∈ fs.toList, (sizeOf? P f.type).isSome = true) {cs : List AV} (h : fillAV zero ap = some cs) :
    Sim P B w H μ (Instr.build t rp.toArray) (.agg cs) H := by
  have hplaces : ∀ (l : List Field), (∀ f ∈ l, (sizeOf? P f.type).isSome = true) → ∃ ps : List (Nat × Nat),
      (l.mapM fun f => Prod.mk f.offset <$> sizeOf f.type : Sem (List (Nat × Nat))).run P w = .ok ps w ∧ ∀ (j : Nat) (f : Field), l[j]? = some f → ∃ n, sizeOf? P f.type = some n ∧ ps[j]? = some (f.offset, n) := by
    intro l
    induction l with
    | nil => intro _; exact ⟨[], by simp, by simp⟩
    | cons f l ih =>
      intro hl
      obtain ⟨ps, h1, h2⟩ := ih fun f hf => hl f (by simp [hf])
      have hf := hl f (by simp)
      cases hs : sizeOf? P f.type with
      | none => simp [hs] at hf
      | some n =>
        refine ⟨(f.offset, n) :: ps, ?_, ?_⟩
        · simp only [List.mapM_cons, Sem.run_bind, Sem.run_map, run_sizeOf_vm hs, Result.andThen_ok, Sem.run_pure, h1]
        · intro j g hj
          cases j with
          | zero => simp at hj; subst hj; exact ⟨n, hs, rfl⟩
          | succ j => simp at hj; simpa using h2 j g hj
  obtain ⟨ps, hps, hps2⟩ := hplaces fs.toList hall
  have hp' : All2 (fun (x : Nat × Nat × AV) (y : Nat × Value) => ps.toArray[y.1]? = some (x.1, x.2.1) ∧ RepV B w H μ x.2.2 y.2) ap rp :=
    hp.mono fun x y hxy => by
      obtain ⟨⟨f, hf, ho, hs⟩, hv⟩ := hxy
      obtain ⟨n, hn, hpj⟩ := hps2 y.1 f (by simpa using hf)
      rw [hs] at hn; cases hn
      exact ⟨by simpa [ho] using hpj, hv⟩
  obtain ⟨cells', h1, h2⟩ := fill_sound hp' h (cells := z.cells) (consts_rep hzero)
  refine Sim.quiet R (val := .agg cells') ?_ ⟨cells', rfl, h2⟩
  have hmap : (fs.mapM fun f => Prod.mk f.offset <$> sizeOf f.type : Sem (Array (Nat × Nat))).run P w = .ok ps.toArray w := by
    rw [Array.mapM_eq_mapM_toList]
    simp [Sem.run_map, hps]
  have h1' : Instr.fill (fun x => ps[x]?) z.cells rp = some cells' := by
    rw [← h1]; congr 1; funext x; simp
  simp [Instr.build, zeroValue, typeInfo, hi, hz, run_underlying hu, hmap, h1']
theorem stored_cells {v : AV} {cs : List AV} (h : v.stored = some cs) : v.cells = cs := by
  cases v <;> simp [AV.stored] at h <;> first | exact h | (obtain ⟨_, rfl⟩ := h; rfl)
theorem fillEls_sound {size : Nat} : ∀ {ap : List (Nat × AV)} {rp : List (Nat × Value)},
    All2 (fun (x : Nat × AV) (y : Nat × Value) => x.1 = y.1 ∧ RepV B w H μ x.2 y.2) ap rp →
    ∀ {els els' : List AV} {cells : Array Value}, fillEls size els ap = some els' → (∀ x ∈ els, x.cells.length = size) → All2 (RepA B w H μ) (flat els) cells.toList →
    ∃ cells', Instr.fill (fun i => some (i * size, size)) cells rp = some cells' ∧ All2 (RepA B w H μ) (flat els') cells'.toList ∧ (∀ x ∈ els', x.cells.length = size) ∧ els'.length = els.length := by
  intro ap rp h
  induction h with
  | nil => intro els els' cells hf hs hc; simp only [fillEls, Option.some.injEq] at hf; subst hf; exact ⟨cells, rfl, hc, hs, rfl⟩
  | @cons x y ap rp hxy t ih =>
    intro els els' cells hf hsz hc
    obtain ⟨i, v⟩ := x
    obtain ⟨i', u⟩ := y
    obtain ⟨hp, hv⟩ := hxy
    simp only at hp hv
    subst hp
    simp only [fillEls] at hf
    cases hs : v.stored with
    | none => simp [hs] at hf
    | some vs =>
      simp only [hs] at hf
      split at hf
      · rename_i hn
        obtain ⟨hn1, hn2⟩ := hn
        have hst := hv.stored hs
        have hvc := stored_cells hs
        have hl := hst.length
        simp only [Array.length_toList] at hl
        have hcl := hc.length
        simp only [Array.length_toList] at hcl
        have hfl := flat_length hsz
        have hone : (i + 1) * size ≤ els.length * size := Nat.mul_le_mul_right _ hn2
        rw [Nat.add_mul] at hone
        have hfold : ((u.cells.zipIdx).foldl (fun cs (x : Value × Nat) => cs.setIfInBounds (i * size + x.2) x.1) cells).toList = cells.toList.take (i * size) ++ u.cells.toList ++ cells.toList.drop (i * size + size) := by
          have := foldl_set u.cells.toList 0 (i * size) cells (by simp; omega)
          simp only [Nat.add_zero, Array.length_toList] at this
          rw [← hl, hn1] at this
          rw [← this, ← Array.foldl_toList, Array.toList_zipIdx]
        obtain ⟨cells', h1, h2, h3, h4⟩ := ih hf (cells := (u.cells.zipIdx).foldl (fun cs (x : Value × Nat) => cs.setIfInBounds (i * size + x.2) x.1) cells)
          (fun z hz => by rcases List.mem_or_eq_of_mem_set hz with hz | rfl
                          · exact hsz z hz
                          · rw [hvc, hn1])
          (by rw [hfold, flat_set (by rw [hvc, hn1]) hsz hn2, hvc]
              exact ((hc.take _).append hst).append (hc.drop _))
        refine ⟨cells', ?_, h2, h3, by simpa using h4⟩
        simp only [Instr.fill]
        rw [if_neg (by simp only [Bool.or_eq_true, decide_eq_true_eq]; omega)]
        exact h1
      · cases hf
theorem flat_replicate {x : AV} (n : Nat) : flat (List.replicate n x) = (List.replicate n x.cells).flatten := by simp [flat, List.flatMap]
theorem rep_cells {zs : Array Value} {cs : List AV} (h : All2 (RepA B w H μ) cs zs.toList) : ∀ n, All2 (RepA B w H μ) ((List.replicate n cs).flatten) ((List.range (n * zs.size)).map fun i => zs[i % zs.size]!)
  | 0 => by simp; exact .nil
  | n + 1 => by
    have ih := rep_cells h n
    have e : (List.range ((n + 1) * zs.size)).map (fun i => zs[i % zs.size]!) = (List.range (n * zs.size)).map (fun i => zs[i % zs.size]!) ++ zs.toList := by
      rw [Nat.add_mul, Nat.one_mul, List.range_add, List.map_append, List.map_map]
      congr 1
      apply List.ext_getElem
      · simp
      · intro j h1 h2
        simp only [List.length_map, List.length_range] at h1
        simp [h1, Nat.mod_eq_of_lt h1]
    rw [e, List.replicate_succ', List.flatten_append]
    simpa using ih.append h
theorem ev_bsl (R : Rel B w H μ) {t e : TypeId} {i : TypeInfo} {z : Value} (hu : P.underlying t = some (.slice e)) (hi : P.info? e = some i) (hz : i.zero = some z)
    {zero : AV} (hzero : constAV z = some zero) {zc : List AV} (hzc : zero.stored = some zc) (hzl : zc.length = i.size) {n : Nat} (hn : n * i.size ≤ 16777216) (hcap : n ≤ maxLen)
    {ap : List (Nat × AV)} {rp : List (Nat × Value)}
    (hp : All2 (fun (x : Nat × AV) (y : Nat × Value) => x.1 = y.1 ∧ RepV B w H μ x.2 y.2) ap rp) {els : List AV} (h : fillEls i.size (List.replicate n zero) ap = some els) :
    Sim P B w H μ (Instr.buildSlice t n rp.toArray) (.slref H.length 0 n n) (H ++ [.row true e i.size els]) := by
  have hzr : All2 (RepA B w H μ) zc z.cells.toList := (constAV_rep hzero).stored hzc
  have hzs : z.cells.size = i.size := by have := hzr.length; simp at this; omega
  have hc0 : All2 (RepA B w H μ) (flat (List.replicate n zero)) ((Array.range (n * i.size)).map fun j => z.cells[j % z.cells.size]!).toList := by
    rw [flat_replicate, stored_cells hzc]
    have := rep_cells hzr n
    rw [hzs] at this ⊢
    simpa [Array.toList_map, Array.toList_range] using this
  obtain ⟨cells', h1, h2, h3, h4⟩ := fillEls_sound hp h (fun x hx => by
    rw [List.eq_of_mem_replicate hx, stored_cells hzc, hzl]) hc0
  have h4' : els.length = n := by simpa using h4
  subst h4'
  have hcs : cells'.size = els.length * i.size := by have := h2.length; rw [flat_length h3] at this; simpa using this.symm
  obtain ⟨μ', R', E', hv⟩ := R.newRow cells' e els.length i.size h3 (Nat.le_refl _) hcap hcs (by rw [List.take_of_length_le (by simp [hcs])]; exact h2)
  refine ⟨_, _, μ', ?_, R', E', hv⟩
  unfold Instr.buildSlice
  have hn' : ¬ (16777216 < els.length * i.size) := by omega
  by_cases h0 : els.length * i.size = 0
  · have r0 : Array.range 0 = #[] := by simp [Array.range]
    have e0 : (Array.range (els.length * i.size)).map (fun j => z.cells[j % z.cells.size]!) = #[] := by rw [h0, r0]; simp
    rw [e0] at h1
    simp [run_underlying hu, sizeOf, typeInfo, hi, h0, newRow, r0, h1]
  · simp [run_underlying hu, sizeOf, typeInfo, zeroValue, hi, hz, hn', h0, newRow, h1]
end
end Go.Vm
namespace Go.Vm
open Go.RowKit
theorem RepC.mksl {w : World} {N : Nat → Prop} {k : Nk} {sz : Nat} {l : List AV} {v : Value} (h : RepC w N (.sl k sz l) v) : RepC w N (Vm.mksl sz l) v := by
  cases h with
  | nilSl hk => exact .nilSl (by simp)
  | slE hk hm => exact .slE (by simp) hm
  | sl hk hn hc hm hE =>
    cases l with
    | nil => exact .sl (by simp) hn hc hm .nil
    | cons a as => exact .sl (by simp) hn hc hm hE
section
variable {P : Program} {B : Base} {w w' : World} {H H' H2 : List Blk} {μ μ' : Mu}
theorem RepV.int_inv {k : IntKind} {n : Int} {v : Value} (h : RepV B w H μ (.int k n) v) : v = .int k n := by
  have := h.2
  simp only [RepR0] at this
  cases this; rfl
theorem ev_iaddr (R : Rel B w H μ) {t e : TypeId} {sz : Nat} (hu : P.underlying t = some (.slice e)) (hs : sizeOf? P e = some sz) {x i r : AV} {v u : Value}
    (hx : RepV B w H μ x v) (hi : RepV B w H μ i u) (h : iaddrAV H sz x i = some r) : Sim P B w H μ (Instr.indexAt t v u) r H := by
  unfold iaddrAV at h
  split at h
  · rename_i k sz' l k2 n
    split at h
    · rename_i hc
      obtain ⟨rfl, h0, hn⟩ := hc
      simp only [Option.some.injEq] at h
      subst h
      rw [hi.int_inv]
      have hx2 := hx.2
      simp only [RepR0] at hx2
      cases hx2 with
      | nilSl _ => simp at hn; omega
      | slE _ _ => simp at hn; omega
      | @sl _ _ _ g o c n' hk hn' hcc hm hE =>
        subst hn'
        have hlt : n.toNat < l.length := by omega
        obtain ⟨h1, h2⟩ := hE.get (List.getElem?_eq_getElem hlt)
        refine Sim.quiet R (val := .pointer (some ⟨g, o + n.toNat * sz', none⟩)) ?_ ?_
        · simp [Instr.indexAt, asIntOf, run_underlying hu, h0, hn, run_sizeOf_vm hs, Addr.add_lit]
        · have : l.getD n.toNat .undef = l[n.toNat] := by simp [List.getD, List.getElem?_eq_getElem hlt]
          rw [this]
          exact ⟨rfl, by simp only [RepR0]; exact .pro h2⟩
    · cases h
  · rename_i b off len tot k2 n
    split at h
    · rename_i ow e' sz' els hb
      split at h
      · rename_i hc
        obtain ⟨rfl, htot, hle, h0, hn⟩ := hc
        simp only [Option.some.injEq] at h
        subst h
        rw [hi.int_inv]
        have hx2 := hx.2
        simp only [RepR0, hb] at hx2
        obtain ⟨_, hx3⟩ := hx2
        obtain ⟨_, hx4⟩ := hx3 htot
        rcases hx4 with ⟨hm, rfl⟩ | ⟨g, cap, a, c, hm, rfl, _, ha, _⟩
        · obtain ⟨_, ⟨_, he⟩ | ⟨g, cap, cur, hm', _⟩⟩ := R.blk b _ hb
          · subst he; simp at htot; omega
          · rw [hm] at hm'; cases hm'
        · rw [ha (.inr (by omega))]
          refine Sim.quiet R (val := .pointer (some ⟨g, off * sz' + n.toNat * sz', none⟩)) ?_ ?_
          · simp [Instr.indexAt, asIntOf, run_underlying hu, h0, hn, run_sizeOf_vm hs, Addr.add_lit]
          · refine ⟨rfl, ?_⟩
            simp only [RepR0, hb]
            exact ⟨by omega, fun _ => ⟨by omega, g, cap, hm, by rw [Nat.add_mul, Nat.add_zero]⟩⟩
      · cases h
    · cases h
  · cases h
def OptRep (B : Base) (w : World) (H : List Blk) (μ : Mu) : Option AV → Option Value → Prop
  | none, none => True
  | some a, some v => RepV B w H μ a v
  | _, _ => False
theorem natOf_run {a : AV} {v : Value} {d n y : Nat} (hv : RepV B w H μ a v) (h : natOf a d = some n) (hd : d ≤ y) (code : BoundsCode) : (Instr.sliceBound v y code).run P w = .ok n w ∧ n ≤ d := by
  unfold natOf at h
  split at h
  · rename_i k i
    split at h
    · rename_i hc
      simp only [Option.some.injEq] at h
      subst h
      rw [hv.int_inv]
      refine ⟨?_, by omega⟩
      simp only [Instr.sliceBound, asIntOf, Sem.run_bind, Sem.run_pure, Result.andThen_ok]
      rw [if_pos (by omega)]
      rfl
    · cases h
  · cases h
theorem run_cut (isS : Bool) {len cap a b : Nat} (hcap : len ≤ cap) {lo hi : Option AV} {lo' hi' : Option Value} (hlo : OptRep B w H μ lo lo') (hhi : OptRep B w H μ hi hi')
    (h : cutOf len lo hi = some (a, b)) : (Instr.sliceBounds isS len cap lo' hi' none).run P w = .ok (a, b, cap) w ∧ a ≤ b ∧ b ≤ len := by
  unfold cutOf at h
  obtain ⟨y, hy, h⟩ := Option.bind_eq_some_iff.1 h
  obtain ⟨x, hx, he⟩ := Option.map_eq_some_iff.1 h
  simp only [Prod.mk.injEq] at he
  obtain ⟨rfl, rfl⟩ := he
  unfold Instr.sliceBounds
  cases hi with
  | none =>
    cases hi' with
    | some _ => exact absurd hhi (by simp [OptRep])
    | none =>
      simp only [hiOf, Option.some.injEq] at hy
      subst hy
      cases lo with
      | none =>
        cases lo' with
        | some _ => exact absurd hlo (by simp [OptRep])
        | none =>
          simp only [loOf, Option.some.injEq] at hx
          subst hx
          exact ⟨by simp, by omega, by omega⟩
      | some l =>
        cases lo' with
        | none => exact absurd hlo (by simp [OptRep])
        | some l' =>
          obtain ⟨r1, r2⟩ := natOf_run (P := P) hlo hx (Nat.le_refl _) .sliceB
          exact ⟨by simp [r1], r2, by omega⟩
  | some hh =>
    cases hi' with
    | none => exact absurd hhi (by simp [OptRep])
    | some hh' =>
      obtain ⟨q1, q2⟩ := natOf_run (P := P) hhi hy hcap (if isS then .sliceAcap else .sliceAlen)
      cases lo with
      | none =>
        cases lo' with
        | some _ => exact absurd hlo (by simp [OptRep])
        | none =>
          simp only [loOf, Option.some.injEq] at hx
          subst hx
          exact ⟨by simp [q1], by omega, q2⟩
      | some l =>
        cases lo' with
        | none => exact absurd hlo (by simp [OptRep])
        | some l' =>
          obtain ⟨r1, r2⟩ := natOf_run (P := P) hlo hx (Nat.le_refl _) .sliceB
          exact ⟨by simp [q1, r1], r2, q2⟩
theorem ev_slice (R : Rel B w H μ) {t e : TypeId} {sz : Nat} (hu : P.underlying t = some (.slice e)) (hs : sizeOf? P e = some sz) {x r : AV} {lo hi : Option AV} {v : Value} {lo' hi' : Option Value}
    (hx : RepV B w H μ x v) (hlo : OptRep B w H μ lo lo') (hhi : OptRep B w H μ hi hi') (h : sliceAV H sz lo hi x = some r) : Sim P B w H μ (Instr.sliceAt t v lo' hi' none) r H := by
  unfold sliceAV at h
  split at h
  · rename_i sz'
    cases hc : cutOf 0 lo hi with
    | none => simp [hc] at h
    | some ab =>
      obtain ⟨a, b⟩ := ab
      simp only [hc, Option.map_some, Option.some.injEq] at h
      subst h
      have hx2 := hx.2
      simp only [RepR0] at hx2
      cases hx2 with
      | nilSl hk =>
        obtain ⟨r1, r2, r3⟩ := run_cut (P := P) (w := w) true (Nat.le_refl _) hlo hhi hc
        have ha : a = 0 := by omega
        have hb : b = 0 := by omega
        subst ha; subst hb
        refine Sim.quiet R (val := .slice none 0 0) ?_ ⟨rfl, RepC.nilSl hk⟩
        simp [Instr.sliceAt, Instr.slice, run_underlying hu, r1, run_sizeOf_vm hs]
      | slE hk hm => exact absurd rfl hk
      | sl hk => exact absurd rfl hk
  · rename_i k sz' l _
    split at h
    · rename_i hsz
      cases hc : cutOf l.length lo hi with
      | none => simp [hc] at h
      | some ab =>
        obtain ⟨a, b⟩ := ab
        simp only [hc, Option.map_some, Option.some.injEq] at h
        subst h
        have hx2 := hx.2
        simp only [RepR0] at hx2
        cases hx2 with
        | nilSl hk =>
          obtain ⟨r1, r2, r3⟩ := run_cut (P := P) (w := w) true (Nat.le_refl _) hlo hhi hc
          simp only [List.length_nil] at r1 r3
          have ha : a = 0 := by omega
          have hb : b = 0 := by omega
          subst ha; subst hb
          refine Sim.quiet R (val := .slice none 0 0) ?_ ⟨rfl, by show RepC _ _ (Vm.mksl _ _) _; exact RepC.mksl (k := k) (by simpa only [List.take_nil, List.drop_nil] using RepC.nilSl hk)⟩
          simp [Instr.sliceAt, Instr.slice, run_underlying hu, r1, run_sizeOf_vm hs]
        | @slE _ _ ad c hk hm =>
          obtain ⟨r1, r2, r3⟩ := run_cut (P := P) (w := w) true (show ([] : List AV).length ≤ c from Nat.zero_le c) hlo hhi hc
          simp only [List.length_nil] at r1 r2 r3
          have ha : a = 0 := by omega
          have hb : b = 0 := by omega
          subst ha; subst hb
          refine Sim.quiet R (val := .slice (if c = 0 then some ad else some (ad.add (0 * sz))) (0 - 0) (c - 0)) ?_ ?_
          · simp only [Instr.sliceAt, Instr.slice, run_underlying hu, r1, run_sizeOf_vm hs, Sem.run_bind, Result.andThen_ok, Sem.run_pure, Option.map_some]
          · refine ⟨rfl, ?_⟩
            show RepC _ _ (Vm.mksl _ _) _
            refine RepC.mksl (k := k) ?_
            simp only [List.take_nil, List.drop_nil, Nat.sub_zero]
            split <;> exact .slE hk hm
        | @sl _ _ _ g o c n' hk hn' hcc hm hE =>
          subst hn'
          obtain ⟨r1, r2, r3⟩ := run_cut (P := P) (w := w) true hcc hlo hhi hc
          have hlen : ((l.take b).drop a).length = b - a := by simp; omega
          refine Sim.quiet R (val := .slice (if c = a then some ⟨g, o, none⟩ else some ⟨g, o + a * sz, none⟩) (b - a) (c - a)) ?_ ?_
          · simp only [Instr.sliceAt, Instr.slice, run_underlying hu, r1, run_sizeOf_vm hs, Sem.run_bind, Result.andThen_ok, Sem.run_pure, Option.map_some, Addr.add_lit]
          · refine ⟨rfl, ?_⟩
            show RepC _ _ (Vm.mksl _ _) _
            refine RepC.mksl (k := k) ?_
            by_cases hca : c = a
            · rw [if_pos hca]
              have hnil : (l.take b).drop a = [] := List.eq_nil_of_length_eq_zero (by omega)
              rw [hnil]
              exact .sl hk (by simp; omega) (by simp) (by omega) .nil
            · rw [if_neg hca]
              refine .sl hk (by omega) (by omega) (by omega) ?_
              rcases hsz with rfl | rfl
              · exact (hE.take b).drop a
              · simp; exact .nil
    · cases h
  · rename_i b off len tot
    split at h
    · rename_i ow e' sz' els hb
      split at h
      · rename_i hq
        obtain ⟨rfl, htot⟩ := hq
        cases hc : cutOf len lo hi with
        | none => simp [hc] at h
        | some xy =>
          obtain ⟨x0, y0⟩ := xy
          simp only [hc, Option.map_some, Option.some.injEq] at h
          subst h
          have hx2 := hx.2
          simp only [RepR0, hb] at hx2
          obtain ⟨hle, hx3⟩ := hx2
          obtain ⟨hol, hx4⟩ := hx3 htot
          rcases hx4 with ⟨hm, rfl⟩ | ⟨g, cap, a, c, hm, rfl, hlc, ha, hcc⟩
          · obtain ⟨_, ⟨_, he⟩ | ⟨g, cap, cur, hm', _⟩⟩ := R.blk b _ hb
            · subst he
              simp only [List.length_nil] at htot
              subst htot
              obtain ⟨r1, r2, r3⟩ := run_cut (P := P) (w := w) true (cap := 0) (by omega) hlo hhi hc
              have h1 : len = 0 := by omega
              have h2 : off = 0 := by omega
              have h3 : x0 = 0 := by omega
              have h4 : y0 = 0 := by omega
              subst h1; subst h2; subst h3; subst h4
              refine Sim.quiet R (val := .slice none 0 0) ?_ ⟨rfl, ?_⟩
              · simp [Instr.sliceAt, Instr.slice, run_underlying hu, r1, run_sizeOf_vm hs]
              · simp only [RepR0, hb]
                exact ⟨Nat.le_refl _, fun _ => ⟨by omega, .inl ⟨hm, trivial⟩⟩⟩
            · rw [hm] at hm'; cases hm'
          · obtain ⟨r1, r2, r3⟩ := run_cut (P := P) (w := w) true hlc.1 hlo hhi hc
            refine Sim.quiet R (val := .slice (if c = x0 then some a else some (a.add (x0 * sz'))) (y0 - x0) (c - x0)) ?_ ?_
            · simp only [Instr.sliceAt, Instr.slice, run_underlying hu, r1, run_sizeOf_vm hs, Sem.run_bind, Result.andThen_ok, Sem.run_pure, Option.map_some]
            · by_cases hca : c = x0
              · rw [if_pos hca]
                refine ⟨rfl, ?_⟩
                simp only [RepR0, hb]
                refine ⟨hle, fun _ => ⟨by omega, .inr ⟨g, cap, a, c - x0, hm, rfl, ⟨by omega, by omega, hlc.2.2⟩, ?_, ?_⟩⟩⟩
                · rintro (h0 | h0)
                  · have := ha (.inl (by omega))
                    rw [this]
                    congr 1
                    rw [show off = 0 by omega, show x0 = 0 by omega]
                  · omega
                · omega
              · rw [if_neg hca]
                refine ⟨rfl, ?_⟩
                simp only [RepR0, hb]
                refine ⟨hle, fun _ => ⟨by omega, .inr ⟨g, cap, _, c - x0, hm, rfl, ⟨by omega, by omega, by unfold Addr.add; split <;> simp [hlc.2.2]⟩, ?_, ?_⟩⟩⟩
                · intro h0
                  rw [ha (by omega), Addr.add_lit, Nat.add_mul]
                · omega
      · cases h
    · cases h
  · cases h
theorem Rel.elsOf (R : Rel B w H μ) {sz : Nat} {x : AV} {v : Value} (hx : RepV B w H μ x v) {xs : List AV} (h : elsOf H sz x = some xs) :
    ∃ us, All2 (RepA B w H μ) (flat xs) us ∧ (∀ y ∈ xs, y.cells.length = sz) ∧
      ((v = .slice none 0 0 ∧ xs = []) ∨ ∃ a c, v = .slice (some a) xs.length c ∧ (∀ (j : Nat) (u : Value), us[j]? = some u → w.cell? (a.add j) = some u)) := by
  cases x with
  | sl k sz' l =>
    simp only [Vm.elsOf] at h
    split at h
    · rename_i hsz
      simp only [Option.some.injEq] at h
      subst h
      have hx2 := hx.2
      simp only [RepR0] at hx2
      cases hx2 with
      | nilSl _ => exact ⟨[], .nil, by simp, .inl ⟨rfl, rfl⟩⟩
      | @slE _ _ a c hk hm => exact ⟨[], .nil, by simp, .inr ⟨a, c, rfl, by simp⟩⟩
      | @sl _ _ _ g o c n' hk hn' hcc hm hE =>
        subst hn'
        obtain ⟨h1, h2⟩ := hE.all
        obtain ⟨us, h3, h4⟩ := h2.all
        refine ⟨us, h3.mono fun _ _ => RepA.of_repC, ?_, .inr ⟨_, _, rfl, fun j u hu => by rw [Addr.add_lit]; exact h4 j u hu⟩⟩
        rcases hsz with rfl | rfl
        · exact h1
        · simp
    · cases h
  | slref b off len tot =>
    simp only [Vm.elsOf] at h
    have hx2 := hx.2
    simp only [RepR0] at hx2
    cases hb : H[b]? with
    | none => simp [hb] at h
    | some k =>
      cases k with
      | nrow =>
        simp only [hb] at h hx2
        split at h
        · simp only [Option.some.injEq] at h
          subst h
          exact ⟨[], .nil, by simp, .inl ⟨hx2.2.2.2, rfl⟩⟩
        · cases h
      | row ow e sz' els =>
        simp only [hb] at h hx2
        split at h
        · rename_i hq
          obtain ⟨rfl, htot, hol⟩ := hq
          simp only [Option.some.injEq] at h
          subst h
          obtain ⟨hle, hx3⟩ := hx2
          obtain ⟨_, hx4⟩ := hx3 htot
          obtain ⟨hsz, hok⟩ := R.blk b _ hb
          have hmem : ∀ y ∈ (els.drop off).take len, y.cells.length = sz' := fun y hy => hsz y (List.mem_of_mem_drop (List.mem_of_mem_take hy))
          rcases hx4 with ⟨hm, rfl⟩ | ⟨g, cap, a, c, hm, rfl, hlc, ha, hcc⟩
          · rcases hok with ⟨_, he⟩ | ⟨g, cap, cur, hm', _⟩
            · subst he
              exact ⟨[], by simp [flat]; exact .nil, by simp, .inl ⟨rfl, by simp⟩⟩
            · rw [hm] at hm'; cases hm'
          · have hlen : ((els.drop off).take len).length = len := by simp; omega
            rcases hok with ⟨hm', _⟩ | ⟨g', cap', cur, h1, h2, h3, h4, h5, h6⟩
            · rw [hm] at hm'; cases hm'
            · rw [hm] at h1; cases h1
              refine ⟨((cur.toList.take (els.length * sz')).drop (off * sz')).take (len * sz'), ?_, hmem, .inr ⟨a, c, by rw [hlen], fun j u hu => ?_⟩⟩
              · rw [flat_take len (fun y hy => hsz y (List.mem_of_mem_drop hy)), flat_drop off hsz]
                exact (h6.drop _).take _
              · rw [List.getElem?_take] at hu
                split at hu
                · rename_i hj
                  have hpos : 0 < len := by
                    rcases Nat.eq_zero_or_pos len with h0 | h0
                    · subst h0; simp at hj
                    · exact h0
                  rw [ha (.inr (by omega)), Addr.add_lit]
                  rw [List.getElem?_drop, List.getElem?_take] at hu
                  split at hu
                  · simp [World.cell?, h2]
                    simpa using hu
                  · cases hu
                · cases hu
        · cases h
      | _ => simp [hb] at h
  | _ => simp [Vm.elsOf] at h
theorem run_append_vm {t ty e : TypeId} {i : TypeInfo} {z : Value} (ht : P.underlying t = some (.slice e)) (hi : P.info? e = some i) (hz : i.zero = some z) (hzs : z.cells.size = i.size)
    {v x : Value} {n m : Nat} {olds news : List Value} (hol : olds.length = n * i.size) (hnl : news.length = m * i.size) (h1 : ∀ u ∈ news, u.oneCell' = true)
    (hbytes : (n + m) * i.bytes ≤ 140737488355328) (hm63 : n + m ≤ maxLen)
    (hx : (x = .slice none 0 0 ∧ m = 0) ∨ ∃ a c, x = .slice (some a) m c ∧ (∀ (j : Nat) (u : Value), news[j]? = some u → w.cell? (a.add j) = some u)) {cap : Nat} {base : Option Nat}
    (hv : (base = none ∧ v = .slice none 0 0 ∧ n = 0 ∧ cap = 0) ∨ ∃ g cur, base = some g ∧ v = .slice (some ⟨g, 0, none⟩) n cap ∧ w.heap[g]? = some (.cells cur e (0, 0)) ∧ n ≤ cap ∧ cap ≤ maxLen ∧ cur.size = cap * i.size ∧
      cur.toList.take (n * i.size) = olds) :
    (base = none ∧ m = 0 ∧ (Builtin.append_ #[t, t] ty #[v, x]).run P w = .ok (.slice none 0 0) w) ∨
    (∃ g cur w', base = some g ∧ n + m ≤ cap ∧ w.heap[g]? = some (.cells cur e (0, 0)) ∧ cur.size = cap * i.size ∧ cap ≤ maxLen ∧ (Builtin.append_ #[t, t] ty #[v, x]).run P w = .ok (.slice (some ⟨g, 0, none⟩) (n + m) cap) w' ∧
      w'.os = w.os ∧ w'.tape = w.tape ∧ w'.output = w.output ∧ w'.heap.size = w.heap.size ∧ (∀ k, k ≠ g → w'.heap[k]? = w.heap[k]?) ∧
      w'.heap[g]? = some (.cells (cur.toList.take (n * i.size) ++ news ++ cur.toList.drop (n * i.size + news.length)).toArray e (0, 0))) ∨
    (∃ nc cur, cap < n + m ∧ n + m ≤ nc ∧ nc ≤ maxLen ∧ cur.size = nc * i.size ∧ cur.toList.take ((n + m) * i.size) = olds ++ news ∧
      (Builtin.append_ #[t, t] ty #[v, x]).run P w = .ok (.slice (some ⟨w.heap.size, 0, none⟩) (n + m) nc) (w.drew.alloc (.cells cur e))) := by
  have hsz0 : ∀ (k : Nat), (Builtin.zeroCells z.cells k).size = k * i.size := fun k => by rw [size_zeroCells, hzs]
  have hgrow : ∀ old, old < n + m →
      (((olds.toArray ++ news.toArray ++ Builtin.zeroCells z.cells (grownCap w (n + m) old e - (n + m))) : Array Value).size = grownCap w (n + m) old e * i.size ∧
      ((olds.toArray ++ news.toArray ++ Builtin.zeroCells z.cells (grownCap w (n + m) old e - (n + m))) : Array Value).toList.take ((n + m) * i.size) = olds ++ news) := by
    intro old _
    have hge := grownCap_ge w (n + m) old e
    have hlen : (olds ++ news).length = (n + m) * i.size := by rw [List.length_append, hol, hnl, Nat.add_mul]
    refine ⟨?_, ?_⟩
    · simp only [Array.size_append, List.size_toArray, hsz0, hol, hnl, ← Nat.add_mul]
      congr 1; omega
    · simp only [Array.toList_append]
      rw [← hlen]
      exact List.take_left
  rcases hv with ⟨rfl, rfl, rfl, rfl⟩ | ⟨g, cur, rfl, rfl, hg, hnc, hcm, hcs, htake⟩
  · have ho : olds = [] := List.eq_nil_of_length_eq_zero (by simpa using hol)
    subst ho
    rcases hx with ⟨rfl, rfl⟩ | ⟨a, c, rfl, hcell⟩
    · left
      refine ⟨rfl, rfl, ?_⟩
      simp [Builtin.append_, run_underlying ht, sizeOf, typeInfo, hi, Builtin.lenOf, Builtin.firstCells]
    · by_cases hm : m = 0
      · subst hm
        left
        refine ⟨rfl, rfl, ?_⟩
        simp [Builtin.append_, run_underlying ht, sizeOf, typeInfo, hi, Builtin.lenOf, Builtin.firstCells, loadCells, loadCellsFrom]
      · right; right
        have hr := run_append_nil (P := P) w t ty e i z ht hi hz a m c news hnl hcell (by omega) (by simp only [maxLen] at hm63; omega) (by simp only [Nat.zero_add] at hbytes; omega)
        have hg := hgrow 0 (by omega)
        simp only [Nat.zero_add, List.nil_append] at hg ⊢
        refine ⟨_, _, by omega, grownCap_ge w m 0 e, grownCap_le_maxLen w m 0 e (by simpa using hm63), ?_, ?_, hr⟩
        · simpa using hg.1
        · simpa using hg.2
  · by_cases hroom : n + m ≤ cap
    · right; left
      have hfit : n * i.size + news.length ≤ cur.size := by rw [hnl, hcs, ← Nat.add_mul]; exact Nat.mul_le_mul_right _ hroom
      rcases hx with ⟨rfl, rfl⟩ | ⟨a, c, rfl, hcell⟩
      · have hn0 : news = [] := List.eq_nil_of_length_eq_zero (by simpa using hnl)
        subst hn0
        refine ⟨g, cur, w, rfl, hroom, hg, hcs, hcm, ?_, rfl, rfl, rfl, rfl, fun _ _ => rfl, ?_⟩
        · simp [Builtin.append_, run_underlying ht, sizeOf, typeInfo, hi, Builtin.lenOf, Builtin.firstCells, storeCells, hnc]
        · simpa using hg
      · have hr := run_append_room (P := P) w t ty e i ht hi g n cap cur hg a m c news hnl hcell h1 hroom hfit
        exact ⟨g, cur, _, rfl, hroom, hg, hcs, hcm, hr, rfl, rfl, rfl, by simp, fun k hk => setRow_other w g k _ hk, setRow_heap w g cur _ e _ hg⟩
    · right; right
      have holds : ∀ (j : Nat) (u : Value), olds[j]? = some u → w.cell? ((⟨g, 0, none⟩ : Addr).add j) = some u := by
        intro j u hu
        rw [← htake, List.getElem?_take] at hu
        split at hu
        · rw [Addr.add_lit, Nat.zero_add, cell_of_row w g j cur e (0, 0) hg]
          simpa using hu
        · cases hu
      rcases hx with ⟨rfl, rfl⟩ | ⟨a, c, rfl, hcell⟩
      · omega
      · have hr := run_append_grow (P := P) w t ty e i z ht hi hz ⟨g, 0, none⟩ n cap olds hol holds a m c news hnl hcell (by omega) (by simp only [maxLen] at hm63; omega) (growslice_fits (by omega) hbytes)
        have hgr := hgrow cap (by omega)
        exact ⟨_, _, by omega, grownCap_ge w (n + m) cap e, grownCap_le_maxLen w (n + m) cap e hm63, hgr.1, hgr.2, hr⟩
end
end Go.Vm
