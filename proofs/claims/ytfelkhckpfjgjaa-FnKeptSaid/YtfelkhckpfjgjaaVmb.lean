/- A machine of plain values, part b: what the program's operations do, told of plain values. It holds over any program; no condition. -/
import Derived.Test.YtfelkhckpfjgjaaVma
import Derived.Lib.AppendStr
import Derived.Laws.MakeOwn
import Derived.Laws.BytesString
import Derived.Laws.IdiomCopy
import Derived.Lib.AppendZeros
import Derived.Laws.StructEq
set_option linter.unusedSimpArgs false
set_option linter.unusedVariables false
namespace Go.Vm
open Go.RowKit
section
variable {P : Program} {B : Base} {w w' : World} {H H' H2 : List Blk} {μ μ' : Mu}
def AppRun (P : Program) (w : World) (e size n m cap : Nat) (base : Option Nat) (olds news : List Value) (s : Sem Value) : Prop :=
    (base = none ∧ m = 0 ∧ s.run P w = .ok (.slice none 0 0) w) ∨
    (∃ g cur w', base = some g ∧ n + m ≤ cap ∧ w.heap[g]? = some (.cells cur e (0, 0)) ∧ cur.size = cap * size ∧ cap ≤ maxLen ∧ s.run P w = .ok (.slice (some ⟨g, 0, none⟩) (n + m) cap) w' ∧
      w'.os = w.os ∧ w'.tape = w.tape ∧ w'.output = w.output ∧ w'.heap.size = w.heap.size ∧ (∀ k, k ≠ g → w'.heap[k]? = w.heap[k]?) ∧
      w'.heap[g]? = some (.cells (cur.toList.take (n * size) ++ news ++ cur.toList.drop (n * size + news.length)).toArray e (0, 0))) ∨
    (∃ nc cur, cap < n + m ∧ n + m ≤ nc ∧ nc ≤ maxLen ∧ cur.size = nc * size ∧ cur.toList.take ((n + m) * size) = olds ++ news ∧
      s.run P w = .ok (.slice (some ⟨w.heap.size, 0, none⟩) (n + m) nc) (w.drew.alloc (.cells cur e)))
theorem Ext.world (h1 : w'.heap = w.heap) : Ext B w H μ w' H μ :=
  ⟨fun g hg => ⟨⟨hg.1, by rw [h1]; exact hg.2.1, hg.2.2⟩, by rw [h1]⟩, fun b k hk => ⟨k, hk, Blk.turns_refl rfl k⟩⟩
theorem app_nrow (R : Rel B w H μ) {b : Nat} (hb : H[b]? = some .nrow) {e size m : Nat} {news : List Value} {xs : List AV} (hm : m = xs.length)
    (hxs : ∀ y ∈ xs, y.cells.length = size) (hc : All2 (RepA B w H μ) (flat xs) news) {s : Sem Value} (h : AppRun P w e size 0 m 0 none [] news s) :
    Sim P B w H μ s (.slref b 0 xs.length xs.length) (H.set b (.row true e size xs)) := by
  have hlt : b < H.length := (List.getElem?_eq_some_iff.1 hb).1
  have hget : (H.set b (.row true e size xs))[b]? = some (.row true e size xs) := by simp [hlt]
  rcases h with ⟨_, rfl, hr⟩ | ⟨g, cur, w', hbase, _⟩ | ⟨nc, cur, h0, h1, h2, h3, h4, hr⟩
  · have hx : xs = [] := List.eq_nil_of_length_eq_zero hm.symm
    subst hx
    have U := R.upd (w' := w) (k' := .row true e size []) hb none (Below.refl _ _) (fun g c h => by cases h) (fun _ _ _ => rfl) (by simp [Blk.turns])
      (fun _ => ⟨by simp, .inl ⟨by simp, rfl⟩⟩)
    refine ⟨.slice none 0 0, w, _, hr, U.1, U.2, rfl, ?_⟩
    simp only [RepR0, hget]
    exact ⟨Nat.le_refl _, fun _ => ⟨by simp, .inl ⟨by simp, trivial⟩⟩⟩
  · cases hbase
  · simp only [Nat.zero_add, List.nil_append] at h0 h1 h3 h4 hr
    have hne : xs ≠ [] := by intro e; subst e; simp at hm; omega
    have U := R.upd (w' := w.drew.alloc (.cells cur e)) (k' := .row true e size xs) hb (some (w.heap.size, nc))
      (((Below.refl _ _).drew).alloc (by simpa using R.size) _) (fun g c h => by cases h; exact .inr (Nat.le_refl _)) (fun i hi _ => heap_alloc_old w.drew _ i hi)
      (by simp [Blk.turns, hne])
      (fun E => ⟨hxs, .inr ⟨w.heap.size, nc, cur, by simp, heap_alloc_new w.drew _, by omega, h2, h3, by
        rw [← hm, h4]; exact hc.mono fun _ _ => RepA.ext E⟩⟩)
    refine ⟨_, _, _, hr, U.1, U.2, rfl, ?_⟩
    simp only [RepR0, hget]
    refine ⟨Nat.le_refl _, fun _ => ⟨by omega, .inr ⟨w.heap.size, nc, _, nc, by simp, by rw [hm], ⟨by omega, h2, rfl⟩, fun _ => by simp, rfl⟩⟩⟩
theorem app_row (R : Rel B w H μ) {b : Nat} {e size : Nat} {els : List AV} (hb : H[b]? = some (.row true e size els)) {n m : Nat} {news : List Value} {xs : List AV} (hm : m = xs.length)
    (hxs : ∀ y ∈ xs, y.cells.length = size) (hc : All2 (RepA B w H μ) (flat xs) news) (hn : n ≤ els.length) {v : Value} (hv : RepV B w H μ (.slref b 0 n els.length) v) {s : Sem Value}
    {els' : List AV} (hE : (n + xs.length ≤ els.length ∧ els' = els.take n ++ xs ++ els.drop (n + xs.length)) ∨ (els.length < n + xs.length ∧ els' = els.take n ++ xs))
    (h : ∀ cap base olds, ((base = none ∧ v = .slice none 0 0 ∧ n = 0 ∧ cap = 0) ∨ ∃ g cur, base = some g ∧ v = .slice (some ⟨g, 0, none⟩) n cap ∧ w.heap[g]? = some (.cells cur e (0, 0)) ∧ n ≤ cap ∧ cap ≤ maxLen ∧ cur.size = cap * size ∧
      cur.toList.take (n * size) = olds) → olds.length = n * size → AppRun P w e size n m cap base olds news s) :
    Sim P B w H μ s (.slref b 0 (n + xs.length) els'.length) (H.set b (.row true e size els')) := by
  have hlt : b < H.length := (List.getElem?_eq_some_iff.1 hb).1
  obtain ⟨hsz, hok⟩ := R.blk b _ hb
  have hv2 := hv.2
  simp only [RepR0, hb] at hv2
  obtain ⟨_, hv3⟩ := hv2
  obtain ⟨_, hv4⟩ := hv3 trivial
  have hnews : news.length = m * size := by rw [← hc.length, flat_length hxs, hm]
  have hget : (H.set b (.row true e size els'))[b]? = some (.row true e size els') := by simp [hlt]
  have hmem : ∀ y ∈ els', y.cells.length = size := by
    intro y hy
    rcases hE with ⟨_, rfl⟩ | ⟨_, rfl⟩
    · simp only [List.mem_append] at hy
      rcases hy with (hy | hy) | hy
      · exact hsz y (List.mem_of_mem_take hy)
      · exact hxs y hy
      · exact hsz y (List.mem_of_mem_drop hy)
    · simp only [List.mem_append] at hy
      rcases hy with hy | hy
      · exact hsz y (List.mem_of_mem_take hy)
      · exact hxs y hy
  have hlen : (n + xs.length ≤ els.length ∧ els'.length = els.length) ∨ (els.length < n + xs.length ∧ els'.length = n + xs.length) := by
    rcases hE with ⟨h0, rfl⟩ | ⟨h0, rfl⟩
    · exact .inl ⟨h0, by simp; omega⟩
    · exact .inr ⟨h0, by simp; omega⟩
  have hge : n + xs.length ≤ els'.length := by omega
  rcases hv4 with ⟨hmu, rfl⟩ | ⟨g, cap, a, c, hmu, rfl, hlc, ha, hcc⟩
  · rcases hok with ⟨_, he⟩ | ⟨g, cap, cur, hmu', _⟩
    · subst he
      have hn0 : n = 0 := by simpa using hn
      subst hn0
      have hx0 : els' = xs := by rcases hE with ⟨h0, rfl⟩ | ⟨_, rfl⟩ <;> simp
      subst hx0
      have A := h 0 none [] (.inl ⟨rfl, rfl, rfl, rfl⟩) (by simp)
      rw [Nat.zero_add]
      rcases A with ⟨_, hm0, hr⟩ | ⟨g, cur, w', hbase, _⟩ | ⟨nc, cur, h0, h1, h2, h3, h4, hr⟩
      · have hx : els' = [] := List.eq_nil_of_length_eq_zero (by omega)
        subst hx
        have U := R.upd (w' := w) (k' := .row true e size []) hb none (Below.refl _ _) (fun g c h => by cases h) (fun _ _ _ => rfl) (by simp [Blk.turns, hmu])
          (fun _ => ⟨by simp, .inl ⟨by simp, rfl⟩⟩)
        refine ⟨.slice none 0 0, w, _, hr, U.1, U.2, rfl, ?_⟩
        simp only [RepR0, hget]
        exact ⟨Nat.le_refl _, fun _ => ⟨by simp, .inl ⟨by simp, trivial⟩⟩⟩
      · cases hbase
      · simp only [Nat.zero_add, List.nil_append] at h0 h1 h3 h4 hr
        have U := R.upd (w' := w.drew.alloc (.cells cur e)) (k' := .row true e size els') hb (some (w.heap.size, nc))
          (((Below.refl _ _).drew).alloc (by simpa using R.size) _) (fun g c h => by cases h; exact .inr (Nat.le_refl _)) (fun i hi _ => heap_alloc_old w.drew _ i hi)
          (by simp only [Blk.turns]; exact ⟨trivial, trivial, by simp, fun he => by simp at he; omega⟩)
          (fun E => ⟨hxs, .inr ⟨w.heap.size, nc, cur, by simp, heap_alloc_new w.drew _, by omega, h2, h3, by
            rw [← hm, h4]; exact hc.mono fun _ _ => RepA.ext E⟩⟩)
        refine ⟨_, _, _, hr, U.1, U.2, rfl, ?_⟩
        simp only [RepR0, hget]
        refine ⟨Nat.le_refl _, fun _ => ⟨by omega, .inr ⟨w.heap.size, nc, _, nc, by simp, by rw [hm], ⟨by omega, h2, rfl⟩, fun _ => by simp, rfl⟩⟩⟩
    · rw [hmu] at hmu'; cases hmu'
  · rcases hok with ⟨hmu', _⟩ | ⟨g', cap', cur, h1, h2, h3, h4, h5, h6⟩
    · rw [hmu] at hmu'; cases hmu'
    · rw [hmu] at h1; cases h1
      have hac : a = ⟨g, 0, none⟩ := by simpa using ha (.inl trivial)
      subst hac
      have hcc' : c = cap := by omega
      subst hcc'
      have hnsz : n * size ≤ els.length * size := Nat.mul_le_mul_right _ hn
      have hesz : els.length * size ≤ c * size := Nat.mul_le_mul_right _ h3
      have hcl : cur.toList.length = c * size := by rw [← h5]; exact Array.length_toList
      have holen : (cur.toList.take (n * size)).length = n * size := by simp; omega
      have A := h c (some g) (cur.toList.take (n * size)) (.inr ⟨g, cur, rfl, rfl, h2, by omega, h4, h5, rfl⟩) holen
      have hfl : (flat els).length = els.length * size := flat_length hsz
      have e0 : cur.toList.take (n * size) = (cur.toList.take (els.length * size)).take (n * size) := by rw [List.take_take]; congr 1; omega
      rcases A with ⟨hb0, _⟩ | ⟨g2, cur2, w', hbase, hroom, hg2, hcs2, hcm2, hr, hos, htape, hout, hsize, hoth, hnew⟩ | ⟨nc, cur2, h0, h7, h8, h9, h10, hr⟩
      · cases hb0
      · cases hbase
        rw [h2] at hg2
        cases hg2
        have hroom2 : (n + m) * size ≤ c * size := Nat.mul_le_mul_right _ hroom
        rw [Nat.add_mul] at hroom2
        have hbel : Below B.w0.heap.size w w' := ⟨hos, htape, hout, by omega, fun k hk => hoth k (by have := R.owned_ge hb rfl hmu; omega)⟩
        have U := R.upd (w' := w') (k' := .row true e size els') hb (some (g, c)) hbel
          (fun g' c' hq => by cases hq; exact .inl ⟨rfl, c, hmu⟩) (fun i _ hne => hoth i (fun e => hne c (by rw [e])))
          (by simp only [Blk.turns]; exact ⟨trivial, trivial, by omega, fun _ => hmu.symm⟩)
          (fun E => by
            have g6 := h6.mono fun _ _ => RepA.ext E
            have gc := hc.mono fun _ _ => RepA.ext E
            refine ⟨hmem, .inr ⟨g, c, _, by simp, hnew, by omega, h4, ?_, ?_⟩⟩
            · simp only [List.size_toArray, List.length_append, List.length_take, List.length_drop, hcl, hnews]; omega
            rcases hE with ⟨hle, hel⟩ | ⟨hle, hel⟩
            · have hl : els'.length = els.length := by omega
              have hle2 : (n + xs.length) * size ≤ els.length * size := Nat.mul_le_mul_right _ hle
              have hs := take_splice cur.toList news (n * size) (els.length * size) (by rw [hnews, hm, ← Nat.add_mul]; exact hle2) (by omega)
              simp only [hl]
              have hf : flat els' = (flat els).take (n * size) ++ (flat xs ++ (flat els).drop ((n + xs.length) * size)) := by
                rw [hel, flat_append, flat_append, flat_take n hsz, flat_drop (n + xs.length) hsz, List.append_assoc]
              have e3 : n * size + news.length = (n + xs.length) * size := by rw [hnews, hm, Nat.add_mul]
              rw [hs, e3, hf]
              exact (g6.take _).append (gc.append (g6.drop _))
            · have hl : els'.length = n + xs.length := by omega
              simp only [hl]
              have e2 : (cur.toList.take (n * size) ++ news).length = (n + xs.length) * size := by rw [List.length_append, holen, hnews, hm, Nat.add_mul]
              have e1 : (cur.toList.take (n * size) ++ news ++ cur.toList.drop (n * size + news.length)).take ((n + xs.length) * size) = cur.toList.take (n * size) ++ news := by
                rw [← e2]; exact List.take_left
              rw [e1, hel, flat_append, flat_take n hsz, e0]
              rw [hel] at g6 gc
              exact (g6.take _).append gc)
        refine ⟨_, w', _, hr, U.1, U.2, rfl, ?_⟩
        simp only [RepR0, hget]
        refine ⟨Nat.le_refl _, fun _ => ⟨by omega, .inr ⟨g, c, _, c, by simp, by rw [hm], ⟨by omega, h4, rfl⟩, fun _ => by simp, rfl⟩⟩⟩
      · have hgt : els.length < n + xs.length := by omega
        have hel : els' = els.take n ++ xs := by rcases hE with ⟨h0, _⟩ | ⟨_, h0⟩
                                                 · omega
                                                 · exact h0
        have hl : els'.length = n + xs.length := by omega
        have U := R.upd (w' := w.drew.alloc (.cells cur2 e)) (k' := .row true e size els') hb (some (w.heap.size, nc))
          (((Below.refl _ _).drew).alloc (by simpa using R.size) _) (fun g c h => by cases h; exact .inr (Nat.le_refl _)) (fun i hi _ => heap_alloc_old w.drew _ i hi)
          (by simp only [Blk.turns]; exact ⟨trivial, trivial, by omega, fun he => by omega⟩)
          (fun E => by
            have g6 := h6.mono fun _ _ => RepA.ext E
            have gc := hc.mono fun _ _ => RepA.ext E
            refine ⟨hmem, .inr ⟨w.heap.size, nc, cur2, by simp, heap_alloc_new w.drew _, by omega, h8, h9, ?_⟩⟩
            rw [hl, ← hm, h10, e0]
            rw [hel] at g6 gc ⊢
            rw [flat_append, flat_take n hsz]
            exact (g6.take _).append gc)
        refine ⟨_, _, _, hr, U.1, U.2, rfl, ?_⟩
        simp only [RepR0, hget]
        refine ⟨Nat.le_refl _, fun _ => ⟨by omega, .inr ⟨w.heap.size, nc, _, nc, by simp, by rw [hm], ⟨by omega, h8, rfl⟩, fun _ => by simp, rfl⟩⟩⟩
theorem ev_app (R : Rel B w H μ) {e size bytes : Nat} {sv : AV} {v : Value} (hv : RepV B w H μ sv v) {xs : List AV} {news : List Value} (hxs : ∀ y ∈ xs, y.cells.length = size)
    (hc : All2 (RepA B w H μ) (flat xs) news) {r : AV} {s : Sem Value} (h : appendAV H e size bytes sv xs = some (r, H'))
    (hrun : ∀ n cap base olds, (n + xs.length) * bytes ≤ 140737488355328 → ((base = none ∧ v = .slice none 0 0 ∧ n = 0 ∧ cap = 0) ∨ ∃ g cur, base = some g ∧ v = .slice (some ⟨g, 0, none⟩) n cap ∧ w.heap[g]? = some (.cells cur e (0, 0)) ∧ n ≤ cap ∧ cap ≤ maxLen ∧ cur.size = cap * size ∧
      cur.toList.take (n * size) = olds) → olds.length = n * size → AppRun P w e size n xs.length cap base olds news s) :
    Sim P B w H μ s r H' := by
  unfold appendAV at h
  split at h
  · split at h
    · rename_i hb
      simp only [Option.some.injEq, Prod.mk.injEq] at h
      obtain ⟨rfl, rfl⟩ := h
      have hv0 : v = .slice none 0 0 := by
        have := hv.2
        simp only [RepR0] at this
        cases this with
        | nilSl _ => rfl
        | slE hk _ => exact absurd rfl hk
        | sl hk _ _ _ _ => exact absurd rfl hk
      subst hv0
      obtain ⟨R1, E1⟩ := R.push .nrow rfl
      have A := app_nrow (P := P) R1 (b := H.length) (by simp) (e := e) rfl hxs (hc.mono fun _ _ => RepA.ext E1) (hrun 0 0 none [] (by simpa using hb) (.inl ⟨rfl, rfl, rfl, rfl⟩) (by simp))
      have hset : (H ++ [Blk.nrow]).set H.length (.row true e size xs) = H ++ [.row true e size xs] := by
        rw [List.set_append_right _ _ (Nat.le_refl _)]; simp
      rw [hset] at A
      obtain ⟨val, w', μ', a1, a2, a3, a4⟩ := A
      exact ⟨val, w', μ', a1, a2, E1.trans a3, a4⟩
    · cases h
  · rename_i b n tot
    split at h
    · rename_i hb
      split at h
      · rename_i hq
        obtain ⟨rfl, rfl, hby⟩ := hq
        simp only [Option.some.injEq, Prod.mk.injEq] at h
        obtain ⟨rfl, rfl⟩ := h
        have hv2 := hv.2
        simp only [RepR0, hb] at hv2
        obtain ⟨_, _, _, rfl⟩ := hv2
        exact app_nrow R hb rfl hxs hc (hrun 0 0 none [] (by simpa using hby) (.inl ⟨rfl, rfl, rfl, rfl⟩) (by simp))
      · cases h
    · rename_i e' sz' els hb
      split at h
      · rename_i hq
        obtain ⟨rfl, rfl, htot, hle, hby⟩ := hq
        subst htot
        split at h
        · rename_i hle2
          simp only [Option.some.injEq, Prod.mk.injEq] at h
          obtain ⟨rfl, rfl⟩ := h
          have A := app_row (P := P) R hb rfl hxs hc hle hv (.inl ⟨hle2, rfl⟩) (fun cap base olds => hrun n cap base olds hby)
          have hl : (els.take n ++ xs ++ els.drop (n + xs.length)).length = els.length := by simp; omega
          rw [hl] at A
          exact A
        · rename_i hle2
          simp only [Option.some.injEq, Prod.mk.injEq] at h
          obtain ⟨rfl, rfl⟩ := h
          have A := app_row (P := P) R hb rfl hxs hc hle hv (.inr ⟨by omega, rfl⟩) (fun cap base olds => hrun n cap base olds hby)
          have hl : (els.take n ++ xs).length = n + xs.length := by simp; omega
          rw [hl] at A
          exact A
      · cases h
    · cases h
  · cases h
theorem ev_append (R : Rel B w H μ) {t ty e : TypeId} {i : TypeInfo} {z : Value} (ht : P.underlying t = some (.slice e)) (hi : P.info? e = some i) (hz : i.zero = some z) (hzs : z.cells.size = i.size) (hb0 : 0 < i.bytes)
    {sv xv : AV} {v x : Value} (hv : RepV B w H μ sv v) (hx : RepV B w H μ xv x) {xs : List AV} (hxs : Vm.elsOf H i.size xv = some xs) {r : AV}
    (h : appendAV H e i.size i.bytes sv xs = some (r, H')) : Sim P B w H μ (Builtin.append_ #[t, t] ty #[v, x]) r H' := by
  obtain ⟨us, h1, h2, h3⟩ := R.elsOf hx hxs
  refine ev_app R hv h2 h1 h fun n cap base olds hby hbase hol => ?_
  have hle : n + xs.length ≤ maxLen := by
    have : n + xs.length ≤ (n + xs.length) * i.bytes := Nat.le_mul_of_pos_right _ hb0
    simp only [maxLen]; omega
  have hnl : us.length = xs.length * i.size := by rw [← h1.length, flat_length h2]
  exact run_append_vm (P := P) (ty := ty) ht hi hz hzs (olds := olds) hol hnl (All2.ones h1) hby hle (by
    rcases h3 with ⟨h3, h4⟩ | h3
    · exact .inl ⟨h3, by simp [h4]⟩
    · exact .inr h3) hbase
end
end Go.Vm
namespace Go.Vm
open Go.RowKit
section
variable {P : Program} {B : Base} {w w' : World} {H H' H2 : List Blk} {μ μ' : Mu}
theorem Rel.move (R : Rel B w H μ) {b : Nat} {k : Blk} (hb : H[b]? = some k) :
    Rel B w (H.set b .dead ++ [k]) (fun x => if x = H.length then μ b else μ x) ∧ Ext B w H μ w (H.set b .dead ++ [k]) (fun x => if x = H.length then μ b else μ x) := by
  have hlt : b < H.length := (List.getElem?_eq_some_iff.1 hb).1
  let μ' : Mu := fun x => if x = H.length then μ b else μ x
  have hL : (H.set b .dead).length = H.length := List.length_set
  have hnew : (H.set b .dead ++ [k])[H.length]? = some k := by rw [List.getElem?_append_right (by omega), hL]; simp
  have hold : ∀ x, x < H.length → x ≠ b → (H.set b .dead ++ [k])[x]? = H[x]? := fun x hx hne => by
    rw [List.getElem?_append_left (by omega), List.getElem?_set_ne (Ne.symm hne)]
  have hdead : (H.set b .dead ++ [k])[b]? = some .dead := by rw [List.getElem?_append_left (by omega)]; simp [hlt]
  have hget : ∀ x y, (H.set b .dead ++ [k])[x]? = some y → (x = H.length ∧ y = k) ∨ (x = b ∧ y = .dead) ∨ (x < H.length ∧ x ≠ b ∧ H[x]? = some y) := by
    intro x y hy
    have hx := (List.getElem?_eq_some_iff.1 hy).1
    simp only [List.length_append, hL, List.length_cons, List.length_nil] at hx
    by_cases h1 : x = H.length
    · subst h1; rw [hnew] at hy; cases hy; exact .inl ⟨rfl, rfl⟩
    · by_cases h2 : x = b
      · subst h2; rw [hdead] at hy; cases hy; exact .inr (.inl ⟨rfl, rfl⟩)
      · have h3 : x < H.length := by omega
        rw [hold x h3 h2] at hy
        exact .inr (.inr ⟨h3, h2, hy⟩)
  have hmold : ∀ x, x < H.length → μ' x = μ x := fun x hx => by simp only [μ']; rw [if_neg (by omega)]
  have hmnew : μ' H.length = μ b := by simp [μ']
  have hback : ∀ x y, (H.set b .dead ++ [k])[x]? = some y → y.live = true → ∃ x0, H[x0]? = some y ∧ μ' x = μ x0 ∧ ((x = H.length ∧ x0 = b) ∨ (x = x0 ∧ x0 ≠ b ∧ x < H.length)) := by
    intro x y hy hl
    rcases hget x y hy with ⟨rfl, rfl⟩ | ⟨rfl, rfl⟩ | ⟨h1, h2, h3⟩
    · exact ⟨b, hb, hmnew, .inl ⟨rfl, rfl⟩⟩
    · simp [Blk.live] at hl
    · exact ⟨x, h3, hmold x h1, .inr ⟨rfl, h2, h1⟩⟩
  have hown : ∀ g, Owned (H.set b .dead ++ [k]) μ' g → Owned H μ g := by
    intro g ho
    obtain ⟨x, c, y, hx, hy, hyo⟩ := owned_iff.1 ho
    obtain ⟨x0, h1, h2, _⟩ := hback x y hy (Blk.live_of_owned hyo)
    exact owned_iff.2 ⟨x0, c, y, h2 ▸ hx, h1, hyo⟩
  have E : Ext B w H μ w (H.set b .dead ++ [k]) μ' := by
    refine ⟨fun g hg => ⟨⟨hg.1, hg.2.1, fun h => hg.2.2 (hown g h)⟩, rfl⟩, fun x y hy => ?_⟩
    have hx := (List.getElem?_eq_some_iff.1 hy).1
    by_cases hxb : x = b
    · subst hxb; exact ⟨_, hdead, by cases y <;> trivial⟩
    · exact ⟨y, by rw [hold x hx hxb]; exact hy, Blk.turns_refl (hmold x hx) y⟩
  refine ⟨⟨R.below, R.n0, fun x y hy => ?_, fun x x' y y' g c c' hy hy' hl hl' hm hm' => ?_, fun x y g c hy hl hm => ?_⟩, E⟩
  · cases hl : y.live with
    | true =>
      obtain ⟨x0, h1, h2, _⟩ := hback x y hy hl
      have hk := R.blk x0 y h1
      cases y with
      | cells cs =>
        obtain ⟨g, c, T, vs, q1, q2, q3⟩ := hk
        exact ⟨g, c, T, vs, h2.trans q1, q2, q3.mono fun _ _ => RepA.ext E⟩
      | row ow e sz els =>
        obtain ⟨q0, ⟨q1, q2⟩ | ⟨g, cap, cur, q1, q2, q3, q4, q5, q6⟩⟩ := hk
        · exact ⟨q0, .inl ⟨h2.trans q1, q2⟩⟩
        · exact ⟨q0, .inr ⟨g, cap, cur, h2.trans q1, q2, q3, q4, q5, q6.mono fun _ _ => RepA.ext E⟩⟩
      | _ => simp [Blk.live] at hl
    | false => cases y <;> simp_all [Blk.live, BlkOk]
  · obtain ⟨x0, h1, h2, h3⟩ := hback x y hy hl
    obtain ⟨x0', h1', h2', h3'⟩ := hback x' y' hy' hl'
    have := R.inj x0 x0' y y' g c c' h1 h1' hl hl' (h2 ▸ hm) (h2' ▸ hm')
    omega
  · obtain ⟨x0, h1, h2, _⟩ := hback x y hy hl
    exact R.own x0 y g c h1 hl (h2 ▸ hm)
theorem run_append_room_off (w : World) (t ty e : TypeId) (i : TypeInfo) (ht : P.underlying t = some (.slice e)) (hi : P.info? e = some i)
    (g o sLen sCap : Nat) (cur : Array Value) (hg : w.heap[g]? = some (.cells cur e (0, 0)))
    (a : Addr) (m c : Nat) (news : List Value) (hl : news.length = m * i.size) (hnews : ∀ j u, news[j]? = some u → w.cell? (a.add j) = some u) (h1 : ∀ u ∈ news, u.oneCell' = true)
    (hroom : sLen + m ≤ sCap) (hfit : o + sLen * i.size + news.length ≤ cur.size) :
    (Builtin.append_ #[t, t] ty #[.slice (some ⟨g, o, none⟩) sLen sCap, .slice (some a) m c]).run P w =
      .ok (.slice (some ⟨g, o, none⟩) (sLen + m) sCap) (w.setRow g (cur.toList.take (o + sLen * i.size) ++ news ++ cur.toList.drop (o + sLen * i.size + news.length)).toArray) := by
  have hf := run_firstCells_some (P := P) w i.size m a m c news hl hnews
  have hst := run_storeCells_at P g (o + sLen * i.size) e news 0 cur w hg (by simpa using hfit) h1
  simp only [Nat.add_zero] at hst
  simp [Builtin.append_, run_underlying ht, sizeOf, typeInfo, hi, Builtin.lenOf, hroom, hf, Addr.add_lit, hst]
theorem ev_appq (R : Rel B w H μ) {t ty e : TypeId} {i : TypeInfo} {z : Value} (ht : P.underlying t = some (.slice e)) (hi : P.info? e = some i) (hz : i.zero = some z) (hzs : z.cells.size = i.size) (hb0 : 0 < i.bytes)
    {b off len : Nat} {els : List AV} {xv : AV} {v x : Value} (hv : RepV B w H μ (.slref b off len els.length) v) (hx : RepV B w H μ xv x) {xs : List AV} (hxs : Vm.elsOf H i.size xv = some xs)
    (hb : H[b]? = some (.row true e i.size els)) (hol : off + len = els.length) (hne : xs ≠ []) (hby : (els.length + xs.length) * i.bytes ≤ 140737488355328) :
    Sim P B w H μ (Builtin.append_ #[t, t] ty #[v, x]) (.slref H.length off (len + xs.length) (els ++ xs).length) (H.set b .dead ++ [.row true e i.size (els ++ xs)]) ∨
    Sim P B w H μ (Builtin.append_ #[t, t] ty #[v, x]) (.slref H.length 0 (len + xs.length) (els.drop off ++ xs).length) (H.set b .dead ++ [.row true e i.size (els.drop off ++ xs)]) := by
  obtain ⟨us, h1, h2, h3⟩ := R.elsOf hx hxs
  have hlt : b < H.length := (List.getElem?_eq_some_iff.1 hb).1
  have hL : (H.set b .dead).length = H.length := List.length_set
  have hnl : us.length = xs.length * i.size := by rw [← h1.length, flat_length h2]
  have hone : ∀ u ∈ us, u.oneCell' = true := All2.ones h1
  have hxlen : 0 < xs.length := List.length_pos_iff.2 hne
  obtain ⟨ax, cx, rfl, hcell⟩ : ∃ a c, x = .slice (some a) xs.length c ∧ (∀ (j : Nat) (u : Value), us[j]? = some u → w.cell? (a.add j) = some u) := by
    rcases h3 with ⟨_, h4⟩ | h3
    · exact absurd h4 hne
    · exact h3
  obtain ⟨hsz, hok⟩ := R.blk b _ hb
  have hv2 := hv.2
  simp only [RepR0, hb] at hv2
  obtain ⟨_, hv4⟩ := hv2.2 trivial
  have grown : ∀ (olds : List Value) (nc : Nat) (cur2 : Array Value), len + xs.length ≤ nc → nc ≤ maxLen → cur2.size = nc * i.size → cur2.toList.take ((len + xs.length) * i.size) = olds ++ us →
      All2 (RepA B w H μ) (flat (els.drop off)) olds → (Builtin.append_ #[t, t] ty #[v, .slice (some ax) xs.length cx]).run P w = .ok (.slice (some ⟨w.heap.size, 0, none⟩) (len + xs.length) nc) (w.drew.alloc (.cells cur2 e)) →
      Sim P B w H μ (Builtin.append_ #[t, t] ty #[v, .slice (some ax) xs.length cx]) (.slref H.length 0 (len + xs.length) (els.drop off ++ xs).length) (H.set b .dead ++ [.row true e i.size (els.drop off ++ xs)]) := by
    intro olds nc cur2 q1 q2 q3 q4 q5 q6
    obtain ⟨R1, E1⟩ := R.kill hb
    obtain ⟨R2, E2⟩ := R1.push .nrow rfl
    have E12 := E1.trans E2
    have hlen : (els.drop off ++ xs).length = len + xs.length := by simp; omega
    have A := app_nrow (P := P) R2 (b := (H.set b .dead).length) (by simp) (e := e) (size := i.size) (m := len + xs.length) (news := olds ++ us) (xs := els.drop off ++ xs) hlen.symm
      (fun y hy => by rcases List.mem_append.1 hy with hy | hy; exact hsz y (List.mem_of_mem_drop hy); exact h2 y hy)
      (by rw [flat_append]; exact (q5.append h1).mono fun _ _ => RepA.ext E12)
      (s := Builtin.append_ #[t, t] ty #[v, .slice (some ax) xs.length cx])
      (.inr (.inr ⟨nc, cur2, by omega, by omega, q2, q3, by rw [Nat.zero_add, List.nil_append]; exact q4, by rw [Nat.zero_add]; exact q6⟩))
    have hset : (H.set b .dead ++ [Blk.nrow]).set (H.set b .dead).length (.row true e i.size (els.drop off ++ xs)) = H.set b .dead ++ [.row true e i.size (els.drop off ++ xs)] := by
      rw [List.set_append_right _ _ (Nat.le_refl _)]; simp
    rw [hset, hL, hlen] at A
    obtain ⟨val, w', μ', a1, a2, a3, a4⟩ := A
    rw [hlen]
    exact ⟨val, w', μ', a1, a2, E12.trans a3, a4⟩
  have hmx : len + xs.length ≤ maxLen := by
    have : els.length + xs.length ≤ (els.length + xs.length) * i.bytes := Nat.le_mul_of_pos_right _ hb0
    simp only [maxLen]; omega
  have hbytes : (len + xs.length) * i.bytes ≤ 140737488355328 := by
    have : (len + xs.length) * i.bytes ≤ (els.length + xs.length) * i.bytes := Nat.mul_le_mul_right _ (by omega)
    omega
  have hgrow : ∀ (olds : List Value), olds.length = len * i.size → ∀ old,
      ((olds.toArray ++ us.toArray ++ Builtin.zeroCells z.cells (grownCap w (len + xs.length) old e - (len + xs.length)) : Array Value).size = grownCap w (len + xs.length) old e * i.size ∧
      (olds.toArray ++ us.toArray ++ Builtin.zeroCells z.cells (grownCap w (len + xs.length) old e - (len + xs.length)) : Array Value).toList.take ((len + xs.length) * i.size) = olds ++ us) := by
    intro olds hol old
    have hge := grownCap_ge w (len + xs.length) old e
    have hlen : (olds ++ us).length = (len + xs.length) * i.size := by rw [List.length_append, hol, hnl, Nat.add_mul]
    refine ⟨?_, ?_⟩
    · simp only [Array.size_append, List.size_toArray, size_zeroCells, hzs, hol, hnl, ← Nat.add_mul]
      congr 1; omega
    · simp only [Array.toList_append]
      rw [← hlen]
      exact List.take_left
  rcases hv4 with ⟨hmu, rfl⟩ | ⟨g, cap, a, c, hmu, rfl, hlc, ha, hcc⟩
  · -- nil
    rcases hok with ⟨_, he⟩ | ⟨g, cap, cur, hmu', _⟩
    · subst he
      have hl0 : len = 0 := by simp at hol; omega
      subst hl0
      right
      have hr := run_append_nil (P := P) w t ty e i z ht hi hz ax xs.length cx us hnl hcell (by omega) (by simp only [maxLen] at hmx; omega) (by have hh := hbytes; simp only [Nat.zero_add] at hh; omega)
      have hg := hgrow [] (by simp) 0
      refine grown [] (grownCap w xs.length 0 e) _ (by simpa using grownCap_ge w xs.length 0 e) (grownCap_le_maxLen w xs.length 0 e (by simpa using hmx)) ?_ ?_ ?_ (by simpa using hr)
      · simpa using hg.1
      · simpa using hg.2
      · simp [flat]; exact .nil
    · rw [hmu] at hmu'; cases hmu'
  · rcases hok with ⟨hmu', _⟩ | ⟨g', cap', cur, q1, q2, q3, q4, q5, q6⟩
    · rw [hmu] at hmu'; cases hmu'
    · rw [hmu] at q1; cases q1
      have hcl : cur.toList.length = cap * i.size := by rw [← q5]; exact Array.length_toList
      have hesz : els.length * i.size ≤ cap * i.size := Nat.mul_le_mul_right _ q3
      have hsplit : els.length * i.size = off * i.size + len * i.size := by rw [← hol, Nat.add_mul]
      by_cases hroom : len + xs.length ≤ c
      · left
        have hac : a = ⟨g, off * i.size, none⟩ := ha (.inr (by omega))
        subst hac
        have hcap2 : (els.length + xs.length) * i.size ≤ cap * i.size := Nat.mul_le_mul_right _ (by omega)
        rw [Nat.add_mul] at hcap2
        have hr := run_append_room_off (P := P) w t ty e i ht hi g (off * i.size) len c cur q2 ax xs.length cx us hnl hcell hone hroom (by rw [hnl]; omega)
        rw [← hsplit] at hr
        have hbel : Below B.w0.heap.size w (w.setRow g (cur.toList.take (els.length * i.size) ++ us ++ cur.toList.drop (els.length * i.size + us.length)).toArray) :=
          ⟨rfl, rfl, rfl, by simp, fun k hk => setRow_other w g k _ (by have := R.owned_ge hb rfl hmu; omega)⟩
        have U := R.upd (w' := w.setRow g (cur.toList.take (els.length * i.size) ++ us ++ cur.toList.drop (els.length * i.size + us.length)).toArray) (k' := .row true e i.size (els ++ xs)) hb (some (g, cap)) hbel
          (fun g' c' hq => by cases hq; exact .inl ⟨rfl, cap, hmu⟩) (fun j _ hne => setRow_other w g j _ (fun e => hne cap (by rw [e])))
          (by simp only [Blk.turns]; exact ⟨trivial, trivial, by simp, fun _ => hmu.symm⟩)
          (fun E => by
            have g6 := q6.mono fun _ _ => RepA.ext E
            have gc := h1.mono fun _ _ => RepA.ext E
            refine ⟨fun y hy => by rcases List.mem_append.1 hy with hy | hy; exact hsz y hy; exact h2 y hy, .inr ⟨g, cap, _, by simp, setRow_heap w g cur _ e _ q2, by simp; omega, q4, ?_, ?_⟩⟩
            · simp only [List.size_toArray, List.length_append, List.length_take, List.length_drop, hcl, hnl]; omega
            · have e2 : (cur.toList.take (els.length * i.size) ++ us).length = (els ++ xs).length * i.size := by rw [List.length_append, List.length_append, List.length_take, hnl, Nat.add_mul, hcl, Nat.min_eq_left hesz]
              rw [← e2, show (cur.toList.take (els.length * i.size) ++ us ++ cur.toList.drop (els.length * i.size + us.length)).toArray.toList = cur.toList.take (els.length * i.size) ++ us ++ cur.toList.drop (els.length * i.size + us.length) from rfl, List.take_left, flat_append]
              exact g6.append gc)
        have hget : (H.set b (.row true e i.size (els ++ xs)))[b]? = some (.row true e i.size (els ++ xs)) := by simp [hlt]
        obtain ⟨R3, E3⟩ := U.1.move hget
        have hss : (H.set b (.row true e i.size (els ++ xs))).set b .dead = H.set b .dead := by simp
        rw [hss] at R3 E3
        have hLL : (H.set b (.row true e i.size (els ++ xs))).length = H.length := List.length_set
        rw [hLL] at R3 E3
        refine ⟨_, _, _, hr, R3, U.2.trans E3, rfl, ?_⟩
        have hnew : (H.set b .dead ++ [Blk.row true e i.size (els ++ xs)])[H.length]? = some (.row true e i.size (els ++ xs)) := by rw [List.getElem?_append_right (by omega), hL]; simp
        simp only [RepR0, hnew]
        refine ⟨Nat.le_refl _, fun _ => ⟨by simp; omega, .inr ⟨g, cap, _, c, by simp, rfl, ⟨hroom, by omega, rfl⟩, fun _ => rfl, hcc⟩⟩⟩
      · right
        let olds := ((cur.toList.take (els.length * i.size)).drop (off * i.size))
        have hol2 : olds.length = len * i.size := by simp only [olds, List.length_drop, List.length_take, hcl]; omega
        have holds : ∀ (j : Nat) (u : Value), olds[j]? = some u → w.cell? (a.add j) = some u := by
          intro j u hu
          have hj := (List.getElem?_eq_some_iff.1 hu).1
          have hlp : 0 < len := by
            rcases Nat.eq_zero_or_pos len with h0 | h0
            · subst h0; omega
            · exact h0
          rw [ha (.inr (by omega)), Addr.add_lit]
          simp only [olds] at hu
          rw [List.getElem?_drop, List.getElem?_take] at hu
          split at hu
          · rw [cell_of_row w g _ cur e (0, 0) q2]
            simpa using hu
          · cases hu
        have hr := run_append_grow (P := P) w t ty e i z ht hi hz a len c olds hol2 holds ax xs.length cx us hnl hcell (by omega) (by simp only [maxLen] at hmx; omega) (growslice_fits (by omega) hbytes)
        have hg := hgrow olds hol2 c
        refine grown olds (grownCap w (len + xs.length) c e) _ (grownCap_ge w (len + xs.length) c e) (grownCap_le_maxLen w (len + xs.length) c e hmx) hg.1 hg.2 ?_ hr
        rw [flat_drop off hsz]
        exact q6.drop _
end
end Go.Vm
namespace Go.Vm
open Go.RowKit
section
variable {P : Program} {B : Base} {w w' : World} {H H' H2 : List Blk} {μ μ' : Mu}
theorem RepV.str_inv {l : List UInt8} {v : Value} (h : RepV B w H μ (.str l) v) : ∃ s : ByteArray, v = .string s ∧ s.data.toList = l := by
  have := h.2
  simp only [RepR0] at this
  cases this with
  | str hh => exact ⟨_, rfl, hh⟩
theorem RepV.bool_inv {b : Bool} {v : Value} (h : RepV B w H μ (.bool b) v) : v = .bool b := by
  have := h.2
  simp only [RepR0] at this
  cases this; rfl
theorem RepV.mk_int (k : IntKind) (n : Int) : RepV B w H μ (.int k n) (.int k n) := ⟨rfl, by simp only [RepR0]; exact .int⟩
theorem RepV.mk_bool (b : Bool) : RepV B w H μ (.bool b) (.bool b) := ⟨rfl, by simp only [RepR0]; exact .bool⟩
theorem RepV.mk_str {s : ByteArray} {l : List UInt8} (h : s.data.toList = l) : RepV B w H μ (.str l) (.string s) := ⟨rfl, by simp only [RepR0]; exact .str h⟩
theorem bytes_rep (s : List UInt8) : All2 (RepA B w H μ) (flat (s.map fun b => AV.int .u8 b.toNat)) (s.map fun b => Value.int .u8 b.toNat) := by
  induction s with
  | nil => simp [flat]; exact .nil
  | cons b s ih =>
    simp only [List.map_cons, flat_cons, AV.cells, List.singleton_append]
    exact .cons (RepA.of_repC .int) ih
theorem ev_appends (R : Rel B w H μ) {t u ty e : TypeId} {i : TypeInfo} (ht : P.underlying t = some (.slice e)) (hu : P.underlying u = some .string) (hi : P.info? e = some i) (hz : i.zero = some (.int .u8 0))
    (hs1 : i.size = 1) (hb1 : i.bytes = 1) {sv : AV} {v x : Value} {l : List UInt8} (hv : RepV B w H μ sv v) (hx : RepV B w H μ (.str l) x) {r : AV}
    (h : appendAV H e 1 1 sv (l.map fun b => .int .u8 b.toNat) = some (r, H')) : Sim P B w H μ (Builtin.append_ #[t, u] ty #[v, x]) r H' := by
  obtain ⟨s, rfl, rfl⟩ := hx.str_inv
  have hsl : s.data.toList.length = s.size := by simp
  refine ev_app R hv (size := 1) (bytes := 1) (news := s.data.toList.map fun b => Value.int .u8 b.toNat) (by simp [AV.cells]) (bytes_rep _) h fun n cap base olds hby hbase hol => ?_
  simp only [List.length_map, Nat.mul_one, hsl] at hby hol ⊢
  have hcells : (Lib.strCells s) = s.data.toList.map fun b => Value.int .u8 b.toNat := rfl
  have hml : n + s.size ≤ maxLen := by simp only [maxLen]; omega
  have hz1 : ∀ k, (Builtin.zeroCells (Value.int .u8 0).cells k).size = k := fun k => by rw [size_zeroCells]; simp [Value.cells]
  have hgrow : ∀ old, old < n + s.size →
      (((olds.toArray ++ (Lib.strCells s).toArray ++ Builtin.zeroCells (Value.int .u8 0).cells (grownCap w (n + s.size) old e - (n + s.size))) : Array Value).size = grownCap w (n + s.size) old e * 1 ∧
      ((olds.toArray ++ (Lib.strCells s).toArray ++ Builtin.zeroCells (Value.int .u8 0).cells (grownCap w (n + s.size) old e - (n + s.size))) : Array Value).toList.take ((n + s.size) * 1) = olds ++ Lib.strCells s) := by
    intro old _
    have hge := grownCap_ge w (n + s.size) old e
    have hlen : (olds ++ Lib.strCells s).length = n + s.size := by rw [List.length_append, hol, Lib.strCells_length]
    refine ⟨?_, ?_⟩
    · simp only [Array.size_append, List.size_toArray, hz1, hol, Lib.strCells_length, Nat.mul_one]
      omega
    · simp only [Array.toList_append, Nat.mul_one]
      rw [← hlen]
      exact List.take_left
  unfold AppRun
  rcases hbase with ⟨rfl, rfl, rfl, rfl⟩ | ⟨g, cur, rfl, rfl, hg, hnc, hcm, hcs, htake⟩
  · have ho : olds = [] := List.eq_nil_of_length_eq_zero hol
    subst ho
    by_cases hm : s.size = 0
    · left
      refine ⟨rfl, hm, ?_⟩
      have hf := Lib.run_firstCells_string (P := P) w 1 s
      rw [hm] at hf
      simp [Builtin.append_, run_underlying ht, run_underlying hu, sizeOf, typeInfo, hi, hs1, Builtin.lenOf, hm, hf]
    · right; right
      have hr := run_append_nil_string (P := P) w t u ty e i (.int .u8 0) ht hu hi hz s (by omega) (by omega) (by rw [hb1]; omega)
      have hg := hgrow 0 (by omega)
      simp only [Nat.zero_add, List.nil_append] at hg ⊢
      have e1 : (s.data.map fun b => Value.int .u8 b.toNat) = (Lib.strCells s).toArray := by
        apply Array.ext'
        simp [Lib.strCells]
      rw [e1] at hr
      refine ⟨_, _, by omega, grownCap_ge w s.size 0 e, grownCap_le_maxLen w s.size 0 e (by simpa using hml), ?_, ?_, hr⟩
      · simpa using hg.1
      · simp [hcells]
  · by_cases hroom : n + s.size ≤ cap
    · right; left
      have hr := Lib.run_append_room_string (P := P) w t u ty e i ht hu hi hs1 g n cap cur hg s hroom (by omega)
      refine ⟨g, cur, _, rfl, hroom, hg, hcs, hcm, hr, rfl, rfl, rfl, by simp, fun k hk => setRow_other w g k _ hk, ?_⟩
      have := setRow_heap w g cur (cur.toList.take n ++ Lib.strCells s ++ cur.toList.drop (n + s.size)).toArray e (0, 0) hg
      simpa [hcells, hsl] using this
    · right; right
      have holds : ∀ (j : Nat) (u : Value), olds[j]? = some u → w.cell? ((⟨g, 0, none⟩ : Addr).add j) = some u := by
        intro j u hu
        rw [← htake, List.getElem?_take] at hu
        split at hu
        · rw [Addr.add_lit, Nat.zero_add, cell_of_row w g j cur e (0, 0) hg]
          simpa using hu
        · cases hu
      have hr := Lib.run_append_grow_string (P := P) w t u ty e i (.int .u8 0) ht hu hi hz ⟨g, 0, none⟩ n cap olds (by rw [hs1]; omega) holds s (by omega) (by omega) (by rw [hb1]; exact growslice_fits (by omega) (by omega))
      have hgr := hgrow cap (by omega)
      exact ⟨_, _, by omega, grownCap_ge w (n + s.size) cap e, grownCap_le_maxLen w (n + s.size) cap e hml, hgr.1, hgr.2, hr⟩
theorem ev_mksl (R : Rel B w H μ) {t e : TypeId} {i : TypeInfo} {z : Value} (hu : P.underlying t = some (.slice e)) (hi : P.info? e = some i) (hz : i.zero = some z)
    {zero : AV} (hzero : constAV z = some zero) {zc : List AV} (hzc : zero.stored = some zc) (hzl : zc.length = i.size) {k k' : IntKind} {n c : Int} {v u : Value}
    (hn : RepV B w H μ (.int k n) v) (hc : RepV B w H μ (.int k' c) u) (h0 : 0 ≤ n) (hnc : n ≤ c) (hby : c * i.bytes ≤ 140737488355328) (hc2 : c ≤ 140737488355328) :
    Sim P B w H μ (Instr.makeSlice t v u) (.slref H.length 0 n.toNat n.toNat) (H ++ [.row true e i.size (List.replicate n.toNat zero)]) := by
  rw [hn.int_inv, hc.int_inv]
  have hr := run_make (P := P) w t e i z hu hi hz k k' n c h0 hnc (by rw [Int.mul_comm]; omega) (by omega)
  have hzr : All2 (RepA B w H μ) zc z.cells.toList := (constAV_rep hzero).stored hzc
  have hzs : z.cells.size = i.size := by have := hzr.length; simp at this; omega
  have hms : (madeCells z.cells (c.toNat * i.size)).size = c.toNat * i.size := by simp [madeCells]
  have hcells : All2 (RepA B w H μ) (flat (List.replicate n.toNat zero)) ((madeCells z.cells (c.toNat * i.size)).toList.take ((List.replicate n.toNat zero).length * i.size)) := by
    rw [flat_replicate, stored_cells hzc, List.length_replicate]
    have A := rep_cells hzr n.toNat
    have e : (madeCells z.cells (c.toNat * i.size)).toList.take (n.toNat * i.size) = (List.range (n.toNat * z.cells.size)).map fun j => z.cells[j % z.cells.size]! := by
      have hle : n.toNat * i.size ≤ c.toNat * i.size := Nat.mul_le_mul_right _ (by omega)
      simp only [madeCells]
      rw [hzs]
      simp only [Array.toList_map, Array.toList_range, ← List.map_take, List.take_range]
      rw [show Min.min (n.toNat * i.size) (c.toNat * i.size) = n.toNat * i.size by omega]
    rw [e]
    exact A
  obtain ⟨μ', R', E', hv⟩ := R.newRow (madeCells z.cells (c.toNat * i.size)) e c.toNat i.size (els := List.replicate n.toNat zero)
    (fun x hx => by rw [List.eq_of_mem_replicate hx, stored_cells hzc, hzl]) (by simp; omega) (by simp only [maxLen]; omega) hms hcells
  simp only [List.length_replicate] at hv
  exact ⟨_, _, μ', hr, R', E', hv⟩
theorem ev_copy (R : Rel B w H μ) {dT sT ty e e2 : TypeId} (hu : P.underlying dT = some (.slice e)) (hs : sizeOf? P e = some 1) {b off len : Nat} {els xs : List AV} {sv : AV} {v x : Value}
    (hv : RepV B w H μ (.slref b off len els.length) v) (hb : H[b]? = some (.row true e2 1 els)) (hx : RepV B w H μ sv x) (hxs : Vm.elsOf H 1 sv = some xs) :
    Sim P B w H μ (Builtin.copy_ #[dT, sT] ty #[v, x]) (.int .i64 (Min.min xs.length len : Nat)) (H.set b (.row true e2 1 (els.take off ++ xs.take len ++ els.drop (off + Min.min xs.length len)))) := by
  have hlt : b < H.length := (List.getElem?_eq_some_iff.1 hb).1
  obtain ⟨us, hc, hsz1, hsrc⟩ := R.elsOf hx hxs
  obtain ⟨hsz, hok⟩ := R.blk b _ hb
  have hv2 := hv.2
  simp only [RepR0, hb] at hv2
  obtain ⟨_, hv3⟩ := hv2
  obtain ⟨hol, hv4⟩ := hv3 trivial
  have hul : us.length = xs.length := by rw [← hc.length, flat_length hsz1, Nat.mul_one]
  have hself : xs.take len = [] → H.set b (.row true e2 1 (els.take off ++ xs.take len ++ els.drop (off + Min.min xs.length len))) = H := by
    intro h0
    have hm : Min.min xs.length len = 0 := by have := congrArg List.length h0; rw [List.length_take, List.length_nil] at this; omega
    rw [h0, hm]
    simp only [List.append_nil, Nat.add_zero, List.take_append_drop]
    apply List.ext_getElem?
    intro j
    by_cases hj : j = b
    · subst hj; rw [hb]; simp [hlt]
    · rw [List.getElem?_set_ne (Ne.symm hj)]
  have hq : (P.info? e).map (·.size) = some 1 := hs
  rcases hv4 with ⟨hmu, rfl⟩ | ⟨g, cap, a, c, hmu, rfl, hlc, ha, hcc⟩
  · rcases hok with ⟨_, he⟩ | ⟨g, cap, cur, hmu', _⟩
    · subst he
      have hl0 : len = 0 := by simp at hol; omega
      subst hl0
      rw [hself (by simp)]
      simp only [Nat.min_zero]
      have hinfo : ∃ i, P.info? e = some i ∧ i.size = 1 := by
        cases hi : P.info? e with
        | none => simp [hi] at hq
        | some i => exact ⟨i, rfl, by simpa [hi] using hq⟩
      obtain ⟨i, hi, hi1⟩ := hinfo
      rcases hsrc with ⟨rfl, rfl⟩ | ⟨a', c', rfl, hcell⟩
      · refine Sim.quiet R (val := .int .i64 0) ?_ (RepV.mk_int _ _)
        simp [Builtin.copy_, run_underlying hu, Builtin.lenOf, Builtin.firstCells, sizeOf, typeInfo, hi, goInt]
      · refine Sim.quiet R (val := .int .i64 0) ?_ (RepV.mk_int _ _)
        simp [Builtin.copy_, run_underlying hu, Builtin.lenOf, Builtin.firstCells, sizeOf, typeInfo, hi, goInt, loadCells, loadCellsFrom]
    · rw [hmu] at hmu'; cases hmu'
  · rcases hok with ⟨hmu', _⟩ | ⟨g', cap', cur, h1, h2, h3, h4, h5, h6⟩
    · rw [hmu] at hmu'; cases hmu'
    · rw [hmu] at h1; cases h1
      simp only [Nat.mul_one] at h5 h6
      rcases hsrc with ⟨rfl, rfl⟩ | ⟨a', c', rfl, hcell⟩
      · rw [hself (by simp)]
        have hr := run_copy_nil (P := P) w dT sT ty e a len c hu (by rw [hq]; rfl)
        refine Sim.quiet R (val := goInt 0) hr ?_
        simp only [List.length_nil, Nat.zero_min]
        exact RepV.mk_int _ _
      · by_cases hl0 : len = 0
        · subst hl0
          rw [hself (by simp)]
          have hr := run_copy_none (P := P) w dT sT ty e (some a) (some a') 0 c xs.length c' hu hq (by simp)
          refine Sim.quiet R (val := goInt 0) hr ?_
          simp only [Nat.min_zero]
          exact RepV.mk_int _ _
        · have hae := ha (.inr (by omega))
          simp only [Nat.mul_one] at hae
          subst hae
          have hnews : (us.take len).length = Nat.min xs.length len := by
            rw [List.length_take, hul]; show Min.min len xs.length = Min.min xs.length len; omega
          have hmin : Nat.min xs.length len = Min.min xs.length len := rfl
          have hr := run_copy_row (P := P) w dT sT ty e g off len c a' xs.length c' cur e2 (us.take len) hu hq h2 hnews
            (fun j v hj => by
              rw [List.getElem?_take] at hj
              split at hj
              · exact hcell j v hj
              · cases hj) (by rw [hnews, hmin]; omega) (fun u hu' => All2.ones hc u (List.mem_of_mem_take hu'))
          have hxl : (xs.take len).length = Min.min xs.length len := by simp; omega
          obtain ⟨μ', R', E', _⟩ := R.write (k' := .row true e2 1 (els.take off ++ xs.take len ++ els.drop (off + Min.min xs.length len))) hb rfl hmu h2
            (cur.toList.take off ++ us.take len ++ cur.toList.drop (off + (us.take len).length)).toArray
            (by simp only [Blk.turns]; exact ⟨trivial, trivial, by simp; omega, fun _ => trivial⟩)
            (fun E h7 h8 => by
              have g6 := h6.mono fun _ _ => RepA.ext E
              have gc := hc.mono fun _ _ => RepA.ext E
              have hsz2 : ∀ y ∈ els.take off ++ xs.take len ++ els.drop (off + Min.min xs.length len), y.cells.length = 1 := by
                intro y hy
                simp only [List.mem_append] at hy
                rcases hy with (hy | hy) | hy
                · exact hsz y (List.mem_of_mem_take hy)
                · exact hsz1 y (List.mem_of_mem_take hy)
                · exact hsz y (List.mem_of_mem_drop hy)
              have hl2 : (els.take off ++ xs.take len ++ els.drop (off + Min.min xs.length len)).length = els.length := by simp; omega
              have hcl : cur.toList.length = cap := by have := Array.length_toList (xs := cur); omega
              refine ⟨hsz2, .inr ⟨g, cap, _, h8, h7, by omega, h4, ?_, ?_⟩⟩
              · simp only [List.size_toArray, List.length_append, List.length_take, List.length_drop, hcl, hul]; omega
              · rw [hl2]
                simp only [Nat.mul_one]
                have hs := take_splice cur.toList (us.take len) off els.length (by rw [hnews, hmin]; omega) (by omega)
                rw [hs, flat_append, flat_append]
                have f1 := flat_take off hsz
                have f2 := flat_take len hsz1
                have f3 := flat_drop (off + Min.min xs.length len) hsz
                simp only [Nat.mul_one] at f1 f2 f3
                rw [f1, f2, f3, List.append_assoc, hnews, hmin]
                exact (g6.take _).append ((gc.take _).append (g6.drop _)))
          refine ⟨_, _, μ', hr, R', E', ?_⟩
          rw [hnews]
          exact RepV.mk_int _ _
theorem ev_slicex (R : Rel B w H μ) {t e : TypeId} {sz : Nat} (hu : P.underlying t = some (.slice e)) (hs : sizeOf? P e = some sz) {lo hi : AV} {v : Value} {lo' hi' : Value} {b off len tot x0 y0 : Nat} {ow : Bool} {e2 : TypeId} {els : List AV}
    (hx : RepV B w H μ (.slref b off len tot) v) (hlo : RepV B w H μ lo lo') (hhi : RepV B w H μ hi hi') (hb : H[b]? = some (.row ow e2 sz els)) (htot : els.length = tot) (hc : cutOf (tot - off) (some lo) (some hi) = some (x0, y0)) (hne : x0 < y0) :
    Sim P B w H μ (Instr.sliceAt t v (some lo') (some hi') none) (.slref b (off + x0) (y0 - x0) tot) H := by
  have hx2 := hx.2
  simp only [RepR0, hb] at hx2
  obtain ⟨hle, hx3⟩ := hx2
  obtain ⟨hol, hx4⟩ := hx3 htot
  rcases hx4 with ⟨hm, rfl⟩ | ⟨g, cap, a, c, hm, rfl, hlc, ha, hcc⟩
  · obtain ⟨_, ⟨_, he⟩ | ⟨g, cap, cur, hm', _⟩⟩ := R.blk b _ hb
    · subst he
      simp only [List.length_nil] at htot
      subst htot
      obtain ⟨r1, r2, r3⟩ := run_cut (P := P) (w := w) true (cap := 0) (by omega) (lo := some lo) (hi := some hi) (lo' := some lo') (hi' := some hi') hlo hhi hc
      omega
    · rw [hm] at hm'; cases hm'
  · obtain ⟨_, ⟨hm', _⟩ | ⟨g', cap', cur, hm', h2, h3, h4, _⟩⟩ := R.blk b _ hb
    · rw [hm] at hm'; cases hm'
    rw [hm] at hm'; cases hm'
    obtain ⟨r1, r2, r3⟩ := run_cut (P := P) (w := w) true (len := tot - off) (cap := c) (by omega) (lo := some lo) (hi := some hi) (lo' := some lo') (hi' := some hi') hlo hhi hc
    have r1' : (Instr.sliceBounds true len c (some lo') (some hi') none).run P w = .ok (x0, y0, c) w := r1
    have hae := ha (.inr (by omega))
    subst hae
    refine Sim.quiet R (val := .slice (if c = x0 then some ⟨g, off * sz, none⟩ else some (Addr.add ⟨g, off * sz, none⟩ (x0 * sz))) (y0 - x0) (c - x0)) ?_ ?_
    · simp only [Instr.sliceAt, Instr.slice, run_underlying hu, r1', run_sizeOf_vm hs, Sem.run_bind, Result.andThen_ok, Sem.run_pure, Option.map_some]
    · rw [if_neg (by omega)]
      refine ⟨rfl, ?_⟩
      simp only [RepR0, hb]
      refine ⟨hle, fun _ => ⟨by omega, .inr ⟨g, cap, ⟨g, off * sz + x0 * sz, none⟩, c - x0, hm, by simp [Addr.add_lit], ⟨by omega, by omega, rfl⟩, fun _ => by simp only [Nat.add_mul], by omega⟩⟩⟩
theorem ev_chk3 (R : Rel B w H μ) {t e : TypeId} {sz : Nat} (hu : P.underlying t = some (.slice e)) (hs : sizeOf? P e = some sz) {lo hi mx : Int} {k1 k2 k3 : IntKind} {v v1 v2 v3 : Value} {x : AV} {n : Int} (hx : RepV B w H μ x v) (hn : lenOf H x = some n)
    (hcap : ∀ a m c, v = .slice a m c → m ≤ c) (hv : ∃ a c, v = .slice a n.toNat c ∧ 0 ≤ n)
    (h1 : v1 = .int k1 lo) (h2 : v2 = .int k2 hi) (h3 : v3 = .int k3 mx) (c1 : 0 ≤ lo) (c2 : lo ≤ hi) (c3 : hi ≤ mx) (c4 : mx ≤ n) : Sim P B w H μ (Instr.sliceAt t v (some v1) (some v2) (some v3)) .undef H := by
  obtain ⟨a, c, rfl, h0⟩ := hv
  have hc := hcap _ _ _ rfl
  subst h1; subst h2; subst h3
  have b3 : (Instr.sliceBound (.int k3 mx) c .slice3Acap).run P w = .ok mx.toNat w := by
    simp only [Instr.sliceBound, asIntOf, Sem.run_bind, Sem.run_pure, Result.andThen_ok]
    rw [if_pos (by omega)]; rfl
  have b2 : (Instr.sliceBound (.int k2 hi) mx.toNat .slice3B).run P w = .ok hi.toNat w := by
    simp only [Instr.sliceBound, asIntOf, Sem.run_bind, Sem.run_pure, Result.andThen_ok]
    rw [if_pos (by omega)]; rfl
  have b1 : (Instr.sliceBound (.int k1 lo) hi.toNat .slice3C).run P w = .ok lo.toNat w := by
    simp only [Instr.sliceBound, asIntOf, Sem.run_bind, Sem.run_pure, Result.andThen_ok]
    rw [if_pos (by omega)]; rfl
  refine Sim.quiet R (val := .slice (if mx.toNat = lo.toNat then a else a.map (·.add (lo.toNat * sz))) (hi.toNat - lo.toNat) (mx.toNat - lo.toNat)) ?_ trivial
  simp [Instr.sliceAt, Instr.slice, Instr.sliceBounds, run_underlying hu, b1, b2, b3, run_sizeOf_vm hs]
theorem ev_clear (R : Rel B w H μ) {dT ty e e2 : TypeId} {i : TypeInfo} {z : Value} {zero : AV} (hu : P.underlying dT = some (.slice e)) (hi : P.info? e = some i) (hz : i.zero = some z) (hcz : constAV z = some zero) {zc : List AV} (hst : zero.stored = some zc) (hl : zc.length = 1)
    {b off len : Nat} {els : List AV} {v : Value} (hv : RepV B w H μ (.slref b off len els.length) v) (hb : H[b]? = some (.row true e2 1 els)) (hl0 : 0 < len) :
    Sim P B w H μ (Builtin.clear_ #[dT] ty #[v]) (.tup []) (H.set b (.row true e2 1 (els.take off ++ List.replicate len zero ++ els.drop (off + len)))) := by
  have hzr : ∀ {w : World} {H : List Blk} {μ : Mu}, All2 (RepA B w H μ) zc z.cells.toList := fun {w H μ} => (constAV_rep hcz).stored hst
  have hzs : z.cells.size = 1 := by have := (hzr (w := w) (H := H) (μ := μ)).length; simp at this; omega
  have hzc : zero.cells = zc := stored_cells hst
  have zc0 : (Builtin.zeroCells z.cells len).toList = (List.range (len * z.cells.size)).map fun j => z.cells[j % z.cells.size]! := by
    simp [Builtin.zeroCells, Array.toList_map, Array.toList_range]
  have hrep : ∀ {w : World} {H : List Blk} {μ : Mu}, All2 (RepA B w H μ) (flat (List.replicate len zero)) (Builtin.zeroCells z.cells len).toList := fun {w H μ} => by
    rw [zc0]
    have := rep_cells (hzr (w := w) (H := H) (μ := μ)) len
    have e : flat (List.replicate len zero) = (List.replicate len zc).flatten := by simp [flat, List.flatMap_replicate, hzc]
    rw [e]; exact this
  have hlen : (Builtin.zeroCells z.cells len).toList.length = len := by rw [zc0]; simp [hzs]
  have hlt : b < H.length := (List.getElem?_eq_some_iff.1 hb).1
  obtain ⟨hsz, hok⟩ := R.blk b _ hb
  have hv2 := hv.2
  simp only [RepR0, hb] at hv2
  obtain ⟨_, hv3⟩ := hv2
  obtain ⟨hol, hv4⟩ := hv3 trivial
  rcases hv4 with ⟨hmu, rfl⟩ | ⟨g, cap, a, c, hmu, rfl, hlc, ha, hcc⟩
  · rcases hok with ⟨_, he⟩ | ⟨g, cap, cur, hmu', _⟩
    · subst he
      simp at hol; omega
    · rw [hmu] at hmu'; cases hmu'
  · rcases hok with ⟨hmu', _⟩ | ⟨g', cap', cur, h1, h2, h3, h4, h5, h6⟩
    · rw [hmu] at hmu'; cases hmu'
    · rw [hmu] at h1; cases h1
      simp only [Nat.mul_one] at h5 h6
      have hae := ha (.inr (by omega))
      simp only [Nat.mul_one] at hae
      subst hae
      have hsto := run_storeCells_at P g off e2 (Builtin.zeroCells z.cells len).toList 0 cur w h2 (by rw [hlen, h5]; omega) (All2.ones (hrep (w := w) (H := H) (μ := μ)))
      simp only [Nat.add_zero] at hsto
      have hrl : (List.replicate len zero).length = len := by simp
      have hz1 : ∀ y ∈ List.replicate len zero, y.cells.length = 1 := fun y hy => by rw [List.eq_of_mem_replicate hy, hzc, hl]
      obtain ⟨μ', R', E', _⟩ := R.write (k' := .row true e2 1 (els.take off ++ List.replicate len zero ++ els.drop (off + len))) hb rfl hmu h2
        (cur.toList.take off ++ (Builtin.zeroCells z.cells len).toList ++ cur.toList.drop (off + (Builtin.zeroCells z.cells len).toList.length)).toArray
        (by simp only [Blk.turns]; exact ⟨trivial, trivial, by simp; omega, fun _ => trivial⟩)
        (fun E h7 h8 => by
          have g6 := h6.mono fun _ _ => RepA.ext E
          have hsz2 : ∀ y ∈ els.take off ++ List.replicate len zero ++ els.drop (off + len), y.cells.length = 1 := by
            intro y hy
            simp only [List.mem_append] at hy
            rcases hy with (hy | hy) | hy
            · exact hsz y (List.mem_of_mem_take hy)
            · exact hz1 y hy
            · exact hsz y (List.mem_of_mem_drop hy)
          have hl2 : (els.take off ++ List.replicate len zero ++ els.drop (off + len)).length = els.length := by simp; omega
          have hcl : cur.toList.length = cap := by have := Array.length_toList (xs := cur); omega
          refine ⟨hsz2, .inr ⟨g, cap, _, h8, h7, by omega, h4, ?_, ?_⟩⟩
          · simp only [List.size_toArray, List.length_append, List.length_take, List.length_drop, hcl, hlen]; omega
          · rw [hl2]
            simp only [Nat.mul_one]
            have hs := take_splice cur.toList (Builtin.zeroCells z.cells len).toList off els.length (by rw [hlen]; omega) (by omega)
            rw [hs, flat_append, flat_append]
            have f1 := flat_take off hsz
            have f3 := flat_drop (off + len) hsz
            simp only [Nat.mul_one] at f1 f3
            rw [f1, f3, List.append_assoc, hlen]
            exact (g6.take _).append (hrep.append (g6.drop _)))
      obtain ⟨W, hW, R', E'⟩ : ∃ W, (storeCells ⟨g, off, none⟩ (Builtin.zeroCells z.cells len).toList).run P w = .ok () W ∧ Rel B W (H.set b (.row true e2 1 (els.take off ++ List.replicate len zero ++ els.drop (off + len)))) μ' ∧ Ext B w H μ W (H.set b (.row true e2 1 (els.take off ++ List.replicate len zero ++ els.drop (off + len)))) μ' := ⟨_, hsto, R', E'⟩
      clear hsto
      refine ⟨.tuple #[], W, μ', ?_, R', E', ⟨#[], rfl, .nil⟩⟩
      obtain ⟨m, rfl⟩ : ∃ m, len = m + 1 := ⟨len - 1, by omega⟩
      simp [Builtin.clear_, run_underlying hu, zeroValue, typeInfo, hi, hz, hW]
end
end Go.Vm
namespace Go.Vm
open Go.RowKit
def cOpd : Operand → Option Opd
  | .tmp t => some (.t t)
  | .const v => (constAV v).map .k
  | .func f => some (.k (.fn f []))
  | .global _ => none
def Opds (B : Base) (w : World) (H : List Blk) (μ : Mu) (ρ : Opd → AV) (a : Act) : Prop := ∀ x x', cOpd x = some x' → RepV B w H μ (ρ x') (a.eval x)
def flatFields (P : Program) : Nat → List Field → Option (List Bool)
  | _, [] => some []
  | o, f :: fs => if f.offset = o ∧ f.name ≠ "_" then match P.underlying f.type, flatFields P (o + 1) fs with
    | some (.int _), some ks => some (true :: ks)
    | some .string, some ks => some (false :: ks)
    | _, _ => none else none
inductive COp (P : Program) : Op → TypeId → O → Prop where
  | mov {x x' ty} (h : cOpd x = some x') : COp P (.move x) ty (.mov x')
  | asg {x x' ty} (h : cOpd x = some x') : COp P (.assign x) ty (.mov x')
  | pick {c a b c' a' b' ty} (h1 : cOpd c = some c') (h2 : cOpd a = some a') (h3 : cOpd b = some b') : COp P (.pick c a b) ty (.pick c' a' b')
  | alloc {t i z zs ty} (hi : P.info? t = some i) (hz : i.zero = some z) (hc : z.cells.toList.mapM const1 = some zs) : COp P (.alloc t) ty (.alloc zs)
  | box {t x x' ty} (h : cOpd x = some x') : COp P (.box t x) ty (.box x')
  | build {t i z fs zero ps ps' ty} (hu : P.underlying t = some (.struct fs)) (hi : P.info? t = some i) (hz : i.zero = some z) (hc : z.cells.toList.mapM const1 = some zero)
      (hall : ∀ f ∈ fs.toList, (sizeOf? P f.type).isSome = true)
      (hp : All2 (fun (x : Nat × Nat × Opd) (y : Nat × Operand) => (∃ f, fs[y.1]? = some f ∧ f.offset = x.1 ∧ sizeOf? P f.type = some x.2.1) ∧ cOpd y.2 = some x.2.2) ps' ps) :
      COp P (.build t ps.toArray) ty (.build zero ps')
  | bsl {t e i z zero zc n ps ps' ty} (hu : P.underlying t = some (.slice e)) (hi : P.info? e = some i) (hz : i.zero = some z) (hc : constAV z = some zero) (hs : zero.stored = some zc)
      (hl : zc.length = i.size) (hn : n * i.size ≤ 16777216) (hn2 : n ≤ 16777216) (hp : All2 (fun (x : Nat × Opd) (y : Nat × Operand) => x.1 = y.1 ∧ cOpd y.2 = some x.2) ps' ps) :
      COp P (.buildSlice t n ps.toArray) ty (.bsl e i.size n zero ps')
  | load {t n agg a a' ty} (hs : sizeOf? P t = some n) (ha : aggOf? P t = some agg) (h : cOpd a = some a') : COp P (.load t a) ty (.load n agg a')
  | store {t n a a' v v' ty} (hs : sizeOf? P t = some n) (h : cOpd a = some a') (h2 : cOpd v = some v') : COp P (.store t a v) ty (.store n a' v')
  | nchk {x x' ty} (h : cOpd x = some x') : COp P (.nilCheck x) ty (.nchk x')
  | bin {op t x y ty2 x' y' ty} (h1 : cOpd x = some x') (h2 : cOpd y = some y') :
      COp P (.binOp op t x y ty2) ty (.bin op x' y')
  | beq {t x y ty2 x' y' ty} (hu : P.underlying t = some .bool) (h1 : cOpd x = some x') (h2 : cOpd y = some y') : COp P (.binOp .eql t x y ty2) ty (.beq false x' y')
  | bne {t x y ty2 x' y' ty} (hu : P.underlying t = some .bool) (h1 : cOpd x = some x') (h2 : cOpd y = some y') : COp P (.binOp .neq t x y ty2) ty (.beq true x' y')
  | eqnil {t e x x' ty2 ty} (hu : P.underlying t = some (.slice e)) (h1 : cOpd x = some x') : COp P (.binOp .eql t x (.const (.slice none 0 0)) ty2) ty (.isnil false x')
  | nenil {t e x x' ty2 ty} (hu : P.underlying t = some (.slice e)) (h1 : cOpd x = some x') : COp P (.binOp .neq t x (.const (.slice none 0 0)) ty2) ty (.isnil true x')
  | not {t x x' ty} (h : cOpd x = some x') : COp P (.unOp .not t x) ty (.not x')
  | neg {t x x' ty} (h : cOpd x = some x') : COp P (.unOp .neg t x) ty (.neg x')
  | conv {s d k k' x x' ty} (h1 : P.underlying s = some (.int k')) (h2 : P.underlying d = some (.int k)) (h : cOpd x = some x') : COp P (.convert s d x) ty (.conv k x')
  | b2s {s d e x x' ty} (h1 : P.underlying s = some (.slice e)) (h2 : P.underlying d = some .string) (h3 : P.underlying e = some (.int .u8)) (h : cOpd x = some x') : COp P (.convert s d x) ty (.b2s x')
  | mkfn {f cs cs' ty} (h : All2 (fun x' x => cOpd x = some x') cs' cs) : COp P (.makeFunc (.func f) #[] cs.toArray) ty (.mkfn f cs')
  | mksl {t e i z zero zc l c l' c' ty} (hu : P.underlying t = some (.slice e)) (hi : P.info? e = some i) (hz : i.zero = some z) (hc : constAV z = some zero) (hs : zero.stored = some zc)
      (hl : zc.length = i.size) (h1 : cOpd l = some l') (h2 : cOpd c = some c') : COp P (.makeSlice t l c) ty (.mksl e i.size i.bytes zero l' c')
  | slice {t e n x lo hi x' lo' hi' ty} (hu : P.underlying t = some (.slice e)) (hs : sizeOf? P e = some n) (h : cOpd x = some x') (h1 : lo.map cOpd = lo'.map some) (h2 : hi.map cOpd = hi'.map some) :
      COp P (.slice t x lo hi none) ty (.slice n x' lo' hi')
  | sslice {t x lo hi x' lo' hi' ty} (hu : P.underlying t = some .string) (h : cOpd x = some x') (h1 : lo.map cOpd = lo'.map some) (h2 : hi.map cOpd = hi'.map some) :
      COp P (.slice t x lo hi none) ty (.sslice x' lo' hi')
  | faddr {s fs k f n x x' ty} (hu : P.underlying s = some (.struct fs)) (hf : fs[k]? = some f) (hs : sizeOf? P f.type = some n) (hn : n ≠ 0) (h : cOpd x = some x') : COp P (.fieldAddr s x k) ty (.faddr f.offset x')
  | fld {s fs k f n agg x x' ty} (hu : P.underlying s = some (.struct fs)) (hf : fs[k]? = some f) (hs : sizeOf? P f.type = some n) (ha : aggOf? P f.type = some agg) (h1 : agg = false → n = 1) (h : cOpd x = some x') :
      COp P (.field s x k) ty (.fld f.offset n agg x')
  | iaddr {t e n x i x' i' ty} (hu : P.underlying t = some (.slice e)) (hs : sizeOf? P e = some n) (h : cOpd x = some x') (h2 : cOpd i = some i') : COp P (.indexAddr t x i) ty (.iaddr n x' i')
  | idxs {t x i x' i' ty} (hu : P.underlying t = some .string) (h : cOpd x = some x') (h2 : cOpd i = some i') : COp P (.index t x i) ty (.idxs x' i')
  | extr {x x' k ty} (h : cOpd x = some x') : COp P (.extract x k) ty (.extr x' k)
  | slen {x x' t ty} (hu : P.underlying t = some .string) (h : cOpd x = some x') : COp P (.call { callee := .builtin .len, args := #[x], argTypes := #[t] }) ty (.slen x')
  | len {x x' t e ty} (hu : P.underlying t = some (.slice e)) (h : cOpd x = some x') : COp P (.call { callee := .builtin .len, args := #[x], argTypes := #[t] }) ty (.len x')
  | append {s x s' x' t e i z ty} (hu : P.underlying t = some (.slice e)) (hi : P.info? e = some i) (hz : i.zero = some z) (hzs : z.cells.size = i.size) (hb : 0 < i.bytes) (h1 : cOpd s = some s') (h2 : cOpd x = some x') :
      COp P (.call { callee := .builtin .append, args := #[s, x], argTypes := #[t, t] }) ty (.append e i.size i.bytes s' x')
  | appends {s x s' x' t u e i ty} (ht : P.underlying t = some (.slice e)) (hu : P.underlying u = some .string) (hi : P.info? e = some i) (hz : i.zero = some (.int .u8 0)) (hs1 : i.size = 1) (hb1 : i.bytes = 1)
      (h1 : cOpd s = some s') (h2 : cOpd x = some x') : COp P (.call { callee := .builtin .append, args := #[s, x], argTypes := #[t, u] }) ty (.appends e 1 s' x')
  | copy {d x d' x' t u e ty} (hu : P.underlying t = some (.slice e)) (hs : sizeOf? P e = some 1) (h1 : cOpd d = some d') (h2 : cOpd x = some x') :
      COp P (.call { callee := .builtin .copy, args := #[d, x], argTypes := #[t, u] }) ty (.copy d' x')
  | bad {op ty} : COp P op ty .bad
  | eqs {t x y ty2 x' y' ty ks} (hu : P.underlying t = some (.struct (P.fieldsOf t))) (hf : flatFields P 0 (P.fieldsOf t).toList = some ks) (hp : P.stoodInHeld t = false) (hm : P.eqGuardType P.depth t = false)
      (h1 : cOpd x = some x') (h2 : cOpd y = some y') : COp P (.binOp .eql t x y ty2) ty (.eqs false ks x' y')
  | nes {t x y ty2 x' y' ty ks} (hu : P.underlying t = some (.struct (P.fieldsOf t))) (hf : flatFields P 0 (P.fieldsOf t).toList = some ks) (hp : P.stoodInHeld t = false) (hm : P.eqGuardType P.depth t = false)
      (h1 : cOpd x = some x') (h2 : cOpd y = some y') : COp P (.binOp .neq t x y ty2) ty (.eqs true ks x' y')
  | cap {x x' t e ty} (hu : P.underlying t = some (.slice e)) (h : cOpd x = some x') : COp P (.call { callee := .builtin .cap, args := #[x], argTypes := #[t] }) ty (.cap x')
  | appz {s x s' x' t u e i k z zero zc ty} (hu : P.underlying t = some (.slice e)) (hk : P.underlying u = some (.int k)) (hi : P.info? e = some i) (hz : i.zero = some z) (hc : constAV z = some zero) (hs : zero.stored = some zc)
      (hl : zc.length = i.size) (h1 : cOpd s = some s') (h2 : cOpd x = some x') : COp P (.call { callee := .builtin .append, args := #[s, x], argTypes := #[t, u] }) ty (.appz e i.size i.bytes zero s' x')
  | chk3 {t e n x lo hi mx x' lo' hi' mx' ty} (hu : P.underlying t = some (.slice e)) (hs : sizeOf? P e = some n) (h : cOpd x = some x') (h1 : cOpd lo = some lo') (h2 : cOpd hi = some hi') (h3 : cOpd mx = some mx') :
      COp P (.slice t x (some lo) (some hi) (some mx)) ty (.chk3 x' lo' hi' mx')
  | clear {x x' t e i z zero zc ty} (hu : P.underlying t = some (.slice e)) (hi : P.info? e = some i) (hz : i.zero = some z) (hc : constAV z = some zero) (hs : zero.stored = some zc) (hl : zc.length = 1) (h : cOpd x = some x') :
      COp P (.call { callee := .builtin .clear, args := #[x], argTypes := #[t] }) ty (.clear zero x')
  | min {x y x' y' ts ty} (h1 : cOpd x = some x') (h2 : cOpd y = some y') : COp P (.call { callee := .builtin .min, args := #[x, y], argTypes := ts }) ty (.min x' y')
  | max {x y x' y' ts ty} (h1 : cOpd x = some x') (h2 : cOpd y = some y') : COp P (.call { callee := .builtin .max, args := #[x, y], argTypes := ts }) ty (.max x' y')
section
variable {P : Program} {B : Base} {w w' : World} {H H' H2 : List Blk} {μ μ' : Mu}
theorem intBin_run {op : BinOp} {k : IntKind} {x y : Int} {r : AV} (h : intBin op k x y = some r) (hsh : op ≠ .shl) (hsr : op ≠ .shr) (t : TypeId) :
    ∃ val, (binOp op t (.int k x) (.int k y)).run P w = .ok val w ∧ RepV B w H μ r val := by
  cases op <;> simp only [intBin, Option.some.injEq, reduceCtorEq] at h
  case add => subst h; exact ⟨_, by simp [binOp, Op.intArith], RepV.mk_int _ _⟩
  case sub => subst h; exact ⟨_, by simp [binOp, Op.intArith], RepV.mk_int _ _⟩
  case mul => subst h; exact ⟨_, by simp [binOp, Op.intArith], RepV.mk_int _ _⟩
  case quo =>
    split at h
    · cases h
    · rename_i hy
      simp only [Option.some.injEq] at h; subst h
      exact ⟨_, by simp [binOp, Op.intDiv, hy], RepV.mk_int _ _⟩
  case rem =>
    split at h
    · cases h
    · rename_i hy
      simp only [Option.some.injEq] at h; subst h
      exact ⟨_, by simp [binOp, Op.intDiv, hy], RepV.mk_int _ _⟩
  case and => subst h; exact ⟨_, by simp [binOp, Op.intBits], RepV.mk_int _ _⟩
  case or => subst h; exact ⟨_, by simp [binOp, Op.intBits], RepV.mk_int _ _⟩
  case xor => subst h; exact ⟨_, by simp [binOp, Op.intBits], RepV.mk_int _ _⟩
  case shl => exact absurd rfl hsh
  case shr => exact absurd rfl hsr
  case eql => subst h; exact ⟨_, by simp [binOp, Op.intCmp]; rfl, RepV.mk_bool _⟩
  case neq => subst h; refine ⟨.bool (x != y), by simp [binOp, Op.intCmp], ?_⟩; rw [show (x != y) = decide (x ≠ y) by by_cases h : x = y <;> simp [h]]; exact RepV.mk_bool _
  case lss => subst h; exact ⟨_, by simp [binOp, Op.intCmp], RepV.mk_bool _⟩
  case leq => subst h; exact ⟨_, by simp [binOp, Op.intCmp], RepV.mk_bool _⟩
  case gtr => subst h; exact ⟨_, by simp [binOp, Op.intCmp], RepV.mk_bool _⟩
  case geq => subst h; exact ⟨_, by simp [binOp, Op.intCmp], RepV.mk_bool _⟩
theorem shift_run {op : BinOp} {k k' : IntKind} {x y : Int} {r : AV} (h : intBin op k x y = some r) (hs : op = .shl ∨ op = .shr) (t : TypeId) :
    ∃ val, (binOp op t (.int k x) (.int k' y)).run P w = .ok val w ∧ RepV B w H μ r val := by
  rcases hs with rfl | rfl <;> simp only [intBin] at h <;> split at h
  · cases h
  · rename_i hy
    simp only [Option.some.injEq] at h; subst h
    exact ⟨_, by simp [binOp, Op.shift, hy], RepV.mk_int _ _⟩
  · cases h
  · rename_i hy
    simp only [Option.some.injEq] at h; subst h
    exact ⟨_, by simp [binOp, Op.shift, hy], RepV.mk_int _ _⟩
theorem strBin_run {op : BinOp} {x y : ByteArray} {r : AV} (h : strBin op x.data.toList y.data.toList = some r) (t : TypeId) :
    ∃ val, (binOp op t (.string x) (.string y)).run P w = .ok val w ∧ RepV B w H μ r val := by
  have ex : x.toList = x.data.toList := ByteArray.toList_eq x
  have ey : y.toList = y.data.toList := ByteArray.toList_eq y
  have hb : ∀ (p q : List UInt8), (p == q) = decide (p = q) := fun p q => by by_cases h : p = q <;> simp [h]
  cases op <;> simp only [strBin, Option.some.injEq, reduceCtorEq] at h
  case add =>
    split at h
    · rename_i hl
      simp only [Option.some.injEq] at h; subst h
      refine ⟨.string (x ++ y), ?_, RepV.mk_str (by simp)⟩
      have : ¬ (9223372036854775807 < ((x.size : Int) + (y.size : Int))) := by
        have h1 : x.data.toList.length = x.size := by simp
        have h2 : y.data.toList.length = y.size := by simp
        omega
      simp [binOp, Op.stringOp, IntKind.max, IntKind.signed, IntKind.bits, this]
    · cases h
  case eql => subst h; exact ⟨_, by simp [binOp, Op.stringOp, ex, ey, hb], RepV.mk_bool _⟩
  case neq =>
    subst h
    refine ⟨.bool (!(x.data.toList == y.data.toList)), by simp [binOp, Op.stringOp, ex, ey], ?_⟩
    rw [hb, show (!decide (x.data.toList = y.data.toList)) = decide (x.data.toList ≠ y.data.toList) by simp]
    exact RepV.mk_bool _
  case lss => subst h; exact ⟨_, by simp [binOp, Op.stringOp, ex, ey], RepV.mk_bool _⟩
  case leq => subst h; exact ⟨_, by simp [binOp, Op.stringOp, ex, ey, hb], RepV.mk_bool _⟩
  case gtr => subst h; exact ⟨_, by simp [binOp, Op.stringOp, ex, ey, hb], RepV.mk_bool _⟩
  case geq => subst h; exact ⟨_, by simp [binOp, Op.stringOp, ex, ey], RepV.mk_bool _⟩
def Gives (P : Program) (B : Base) (w : World) (H : List Blk) (μ : Mu) (s : Sem Next) (v : AV) (H' : List Blk) : Prop :=
  ∃ nx val w' μ', s.run P w = .ok nx w' ∧ (nx = .value val ∨ (nx = .skip ∧ val = undef)) ∧ Rel B w' H' μ' ∧ Ext B w H μ w' H' μ' ∧ RepV B w' H' μ' v val
theorem Sim.gives {s : Sem Value} {v : AV} (h : Sim P B w H μ s v H') : Gives P B w H μ (do pure (.value (← s))) v H' := by
  obtain ⟨val, w', μ', h1, h2, h3, h4⟩ := h
  exact ⟨.value val, val, w', μ', by simp [h1], .inl rfl, h2, h3, h4⟩
theorem nilOf_run (R : Rel B w H μ) {t e : TypeId} (hu : P.underlying t = some (.slice e)) {x : AV} {v : Value} (hx : RepV B w H μ x v) {b : Bool} (h : nilOf H x = some b) :
    (∃ q n c, v = .slice q n c) ∧ (Op.equal t v (.slice none 0 0)).run P w = .ok b w := by
  have key : ∀ (a : Option Addr) (n c : Nat), v = .slice a n c → a.isNone = b → (∃ q n c, v = .slice q n c) ∧ (Op.equal t v (.slice none 0 0)).run P w = .ok b w := by
    rintro a n c rfl rfl
    refine ⟨⟨_, _, _, rfl⟩, ?_⟩
    rw [Op.equal, Op.maxDepth, Op.equalIn]
    cases a <;> simp [run_underlying hu]
  cases x with
  | sl k sz l =>
    have hx2 := hx.2
    simp only [RepR0] at hx2
    cases hx2 with
    | slE hk hm => cases k <;> simp [nilOf] at h <;> first | exact absurd rfl hk | exact key _ _ _ rfl (by simpa using h)
    | nilSl hk => cases k <;> simp [nilOf] at h <;> first | exact key none 0 0 rfl (by simpa using h) | exact absurd rfl hk
    | sl hk hn hc hm hE => cases k <;> cases l <;> simp [nilOf] at h <;> first | exact absurd rfl hk | exact key _ _ _ rfl (by simpa using h)
  | slref b' off len tot =>
    have hx2 := hx.2
    simp only [RepR0] at hx2
    simp only [nilOf] at h
    cases hb : H[b']? with
    | none => simp [hb] at h
    | some k =>
      cases k with
      | nrow =>
        simp only [hb] at h hx2
        simp only [Option.some.injEq] at h
        exact key none 0 0 hx2.2.2.2 (by simpa using h)
      | row ow e sz els =>
        simp only [hb] at h hx2
        split at h
        · rename_i hq
          simp only [Option.some.injEq] at h
          obtain ⟨_, h3⟩ := hx2
          obtain ⟨_, h4⟩ := h3 hq.1
          rcases h4 with ⟨hm, rfl⟩ | ⟨g, cap, a, c, hm, rfl, _⟩
          · obtain ⟨_, ⟨_, he⟩ | ⟨g, cap, cur, hm', _⟩⟩ := R.blk b' _ hb
            · subst he; simp at hq; omega
            · rw [hm] at hm'; cases hm'
          · exact key _ _ _ rfl (by simpa using h)
        · cases h
      | _ => simp [hb] at h
  | _ => simp [nilOf] at h
theorem bytesOf_cells : ∀ {xs : List AV} {bs : List UInt8} {us : List Value}, bytesOf xs = some bs → All2 (RepA B w H μ) (flat xs) us →
    ∃ ns : List Int, us = ns.map (Value.int .u8) ∧ bs = ns.map (fun n => UInt8.ofNat n.toNat)
  | [], bs, us, h, hc => by
    simp only [bytesOf, Option.some.injEq] at h; subst h
    simp only [flat, List.flatMap_nil] at hc
    cases hc
    exact ⟨[], rfl, rfl⟩
  | x :: xs, bs, us, h, hc => by
    cases x with
    | int k n =>
      cases k <;> simp only [bytesOf, reduceCtorEq] at h
      obtain ⟨bs', h1, rfl⟩ := Option.map_eq_some_iff.1 h
      rw [flat_cons] at hc
      simp only [AV.cells, List.singleton_append] at hc
      cases hc with
      | cons h2 t =>
        obtain ⟨ns, rfl, rfl⟩ := bytesOf_cells h1 t
        have := RepV.int_inv (B := B) (w := w) (H := H) (μ := μ) (k := .u8) (n := n) h2
        subst this
        exact ⟨n :: ns, rfl, rfl⟩
    | _ => simp [bytesOf] at h
theorem push_bytes : ∀ (ns : List Int) (r : ByteArray), (ns.foldl (fun r n => r.push (UInt8.ofNat n.toNat)) r).data.toList = r.data.toList ++ ns.map (fun n => UInt8.ofNat n.toNat)
  | [], r => by simp
  | n :: ns, r => by
    rw [List.foldl_cons, push_bytes ns]
    simp
theorem ev_b2s (R : Rel B w H μ) {x : AV} {v : Value} (hx : RepV B w H μ x v) {xs : List AV} (h : Vm.elsOf H 1 x = some xs) {bs : List UInt8} (hb : bytesOf xs = some bs) :
    Sim P B w H μ (Conv.bytesToString v) (.str bs) H := by
  obtain ⟨us, h1, h2, h3⟩ := R.elsOf hx h
  obtain ⟨ns, rfl, rfl⟩ := bytesOf_cells hb h1
  rcases h3 with ⟨rfl, rfl⟩ | ⟨a, c, rfl, hcell⟩
  · have : ns = [] := by
      have := h1.length
      exact List.eq_nil_of_length_eq_zero (by simpa [flat] using this.symm)
    subst this
    refine Sim.quiet R (val := .string .empty) (by simp [Conv.bytesToString]) (RepV.mk_str rfl)
  · have hl : ns.length = xs.length := by
      have := h1.length
      rw [flat_length h2] at this
      simpa using this.symm
    have hld : (loadCells a xs.length).run P w = .ok (ns.map (Value.int .u8)).toArray w := by
      have := run_loadCells_list (P := P) w a (ns.map (Value.int .u8)) hcell
      rwa [List.length_map, hl] at this
    refine Sim.quiet R (run_bytesToString (P := P) w a xs.length c ns hld) (RepV.mk_str ?_)
    rw [push_bytes]; rfl
end
end Go.Vm
namespace Go.Vm
open Go.RowKit
section
variable {P : Program} {B : Base} {w w' : World} {H H' H2 : List Blk} {μ μ' : Mu}
theorem Gives.ofVal (R : Rel B w H μ) {s : Sem Next} {v : AV} {val : Value} (h : s.run P w = .ok (.value val) w) (hv : RepV B w H μ v val) : Gives P B w H μ s v H :=
  ⟨_, val, w, μ, h, .inl rfl, R, Ext.refl B w H μ, hv⟩
theorem Gives.eq {s s' : Sem Next} {v : AV} (h : Gives P B w H μ s v H') (he : s'.run P w = s.run P w) : Gives P B w H μ s' v H' := by
  obtain ⟨nx, val, w', μ', h1, h2⟩ := h
  exact ⟨nx, val, w', μ', he.trans h1, h2⟩
theorem optRep {ρ : Opd → AV} {a : Act} (ho : Opds B w H μ ρ a) {lo : Option Operand} {lo' : Option Opd} (h : lo.map cOpd = lo'.map some) : OptRep B w H μ (lo'.map ρ) (lo.map a.eval) := by
  cases lo with
  | none => cases lo' with
    | none => trivial
    | some _ => simp at h
  | some x => cases lo' with
    | none => simp at h
    | some y => exact ho _ _ (by simpa using h)
theorem fill_opds {ρ : Opd → AV} {a : Act} (ho : Opds B w H μ ρ a) {q : Nat × Nat → Nat → Prop} : ∀ {ps' : List (Nat × Nat × Opd)} {ps : List (Nat × Operand)},
    All2 (fun (x : Nat × Nat × Opd) (y : Nat × Operand) => q (x.1, x.2.1) y.1 ∧ cOpd y.2 = some x.2.2) ps' ps →
    All2 (fun (x : Nat × Nat × AV) (y : Nat × Value) => q (x.1, x.2.1) y.1 ∧ RepV B w H μ x.2.2 y.2) (ps'.map fun (o, n, x) => (o, n, ρ x)) (ps.map fun (i, x) => (i, a.eval x))
  | _, _, .nil => .nil
  | _, _, .cons h t => .cons ⟨h.1, ho _ _ h.2⟩ (fill_opds ho t)
theorem fill_opds1 {ρ : Opd → AV} {a : Act} (ho : Opds B w H μ ρ a) : ∀ {ps' : List (Nat × Opd)} {ps : List (Nat × Operand)},
    All2 (fun (x : Nat × Opd) (y : Nat × Operand) => x.1 = y.1 ∧ cOpd y.2 = some x.2) ps' ps →
    All2 (fun (x : Nat × AV) (y : Nat × Value) => x.1 = y.1 ∧ RepV B w H μ x.2 y.2) (ps'.map fun (i, x) => (i, ρ x)) (ps.map fun (i, x) => (i, a.eval x))
  | _, _, .nil => .nil
  | _, _, .cons h t => .cons ⟨h.1, ho _ _ h.2⟩ (fill_opds1 ho t)
theorem caps_opds {ρ : Opd → AV} {a : Act} (ho : Opds B w H μ ρ a) : ∀ {cs' : List Opd} {cs : List Operand}, All2 (fun x' x => cOpd x = some x') cs' cs →
    (cs'.map ρ).all (fun v => v.isCell && !(match v with | .fn .. => true | _ => false)) = true → All2 (RepR B w H μ) (cs'.map ρ) (cs.map a.eval)
  | _, _, .nil, _ => .nil
  | _, _, .cons (a := c') (b := c) h t, hall => by
    simp only [List.map_cons, List.all_cons, Bool.and_eq_true] at hall
    refine .cons ?_ (caps_opds ho t (by simpa using hall.2))
    have hr := ho _ _ h
    obtain ⟨⟨h1, h2⟩, _⟩ := hall
    generalize ρ c' = v at *
    cases v <;> simp [AV.isCell] at h1 h2 <;> exact hr
theorem faddr_rep {off : Nat} {x r : AV} {v : Value} (hx : RepV B w H μ x v) (h : faddrAV H off x = some r) : ∃ g o, v = .pointer (some ⟨g, o, none⟩) ∧ RepV B w H μ r (.pointer (some ⟨g, o + off, none⟩)) := by
  unfold faddrAV at h
  split at h
  · rename_i hf
    split at h
    · rename_i cs
      simp only [Option.some.injEq] at h; subst h
      have hx2 := hx.2
      simp only [RepR0] at hx2
      cases hx2 with
      | @pro _ g o hl => exact ⟨g, o, rfl, rfl, by simp only [RepR0]; exact .pro (hl.drop off)⟩
    · rename_i b o
      simp only [Option.some.injEq] at h; subst h
      have hx2 := hx.2
      simp only [RepR0] at hx2
      simp only [fresh] at hf
      split at hf
      · rename_i cs hb
        simp only [hb] at hx2
        obtain ⟨g, c, hm, rfl⟩ := hx2
        exact ⟨g, o, rfl, rfl, by simp only [RepR0, hb]; exact ⟨g, c, hm, rfl⟩⟩
      · cases hf
    · rename_i b i o t
      simp only [Option.some.injEq] at h; subst h
      have hx2 := hx.2
      simp only [RepR0] at hx2
      simp only [fresh] at hf
      split at hf
      · rename_i ow e sz els hb
        simp only [hb] at hx2
        simp only [beq_iff_eq] at hf
        obtain ⟨h1, h2⟩ := hx2
        obtain ⟨h3, g, cap, hm, rfl⟩ := h2 hf
        refine ⟨g, _, rfl, rfl, ?_⟩
        simp only [RepR0, hb]
        exact ⟨h1, fun _ => ⟨h3, g, cap, hm, by rw [Nat.add_assoc]⟩⟩
      · cases hf
    · cases h
  · cases h
theorem nchk_run {x : AV} {v : Value} (hx : RepV B w H μ x v) (hf : fresh H x = true) (hs : ∀ b o l t, x ≠ .slref b o l t) : (∃ a, v = .pointer (some a)) ∨ ∃ f cs, v = .func (.func f) #[] cs := by
  cases x with
  | pro cs => have hx2 := hx.2; simp only [RepR0] at hx2; cases hx2; exact .inl ⟨_, rfl⟩
  | pbox b o =>
    have hx2 := hx.2
    simp only [RepR0] at hx2
    simp only [fresh] at hf
    split at hf
    · rename_i cs hb
      simp only [hb] at hx2
      obtain ⟨g, c, hm, rfl⟩ := hx2
      exact .inl ⟨_, rfl⟩
    · cases hf
  | prow b i o t =>
    have hx2 := hx.2
    simp only [RepR0] at hx2
    simp only [fresh] at hf
    split at hf
    · rename_i ow e sz els hb
      simp only [hb, beq_iff_eq] at hx2 hf
      obtain ⟨h3, g, cap, hm, rfl⟩ := hx2.2 hf
      exact .inl ⟨_, rfl⟩
    · cases hf
  | fn f caps => obtain ⟨cs, rfl, _⟩ := hx; exact .inr ⟨_, _, rfl⟩
  | slref b o l t => exact absurd rfl (hs b o l t)
  | _ => simp [fresh] at hf
theorem lenOf_run (R : Rel B w H μ) {x : AV} {v : Value} (hx : RepV B w H μ x v) {n : Int} (h : lenOf H x = some n) : ∃ a c, v = .slice a n.toNat c ∧ 0 ≤ n := by
  cases x with
  | sl k sz l =>
    simp only [lenOf, Option.some.injEq] at h
    subst h
    have hx2 := hx.2
    simp only [RepR0] at hx2
    cases hx2 with
    | nilSl _ => exact ⟨_, _, rfl, by simp⟩
    | slE _ _ => exact ⟨_, _, rfl, by simp⟩
    | sl hk hn hc hm hE => subst hn; exact ⟨_, _, rfl, by omega⟩
  | slref b off len tot =>
    simp only [lenOf] at h
    split at h
    · rename_i hf
      simp only [Option.some.injEq] at h
      subst h
      have hx2 := hx.2
      simp only [RepR0] at hx2
      simp only [fresh] at hf
      split at hf
      · rename_i hb
        simp only [hb] at hx2
        obtain ⟨_, _, rfl, rfl⟩ := hx2
        exact ⟨_, _, rfl, by simp⟩
      · rename_i ow e sz els hb
        simp only [hb, beq_iff_eq] at hx2 hf
        obtain ⟨h1, h2⟩ := hx2.2 hf
        rcases h2 with ⟨hm, rfl⟩ | ⟨g, cap, a, c, hm, rfl, _⟩
        · obtain ⟨_, ⟨_, he⟩ | ⟨g, cap, cur, hm', _⟩⟩ := R.blk b _ hb
          · subst he
            have h0 : len = 0 := by simp at hf; omega
            subst h0
            exact ⟨_, _, rfl, by simp⟩
          · rw [hm] at hm'; cases hm'
        · exact ⟨_, _, rfl, by omega⟩
      · cases hf
    · cases h
  | _ => simp [lenOf] at h
theorem lenOf_cap (R : Rel B w H μ) {x : AV} {v : Value} (hx : RepV B w H μ x v) {n : Int} (h : lenOf H x = some n) : ∀ a m c, v = .slice a m c → m ≤ c := by
  cases x with
  | sl k sz l =>
    have hx2 := hx.2
    simp only [RepR0] at hx2
    cases hx2 with
    | nilSl _ => intro a m c e; cases e; exact Nat.le_refl _
    | slE _ _ => intro a m c e; cases e; exact Nat.zero_le _
    | sl hk hn hc hm hE => intro a m c e; cases e; omega
  | slref b off len tot =>
    simp only [lenOf] at h
    split at h
    · rename_i hf
      have hx2 := hx.2
      simp only [RepR0] at hx2
      simp only [fresh] at hf
      split at hf
      · rename_i hb
        simp only [hb] at hx2
        obtain ⟨_, _, rfl, rfl⟩ := hx2
        intro a m c e; cases e; exact Nat.le_refl _
      · rename_i ow e sz els hb
        simp only [hb, beq_iff_eq] at hx2 hf
        obtain ⟨h1, h2⟩ := hx2.2 hf
        rcases h2 with ⟨hm, rfl⟩ | ⟨g, cap, a, c, hm, rfl, hlc, _⟩
        · intro a m c e; cases e; exact Nat.le_refl _
        · intro a m c e; cases e; exact hlc.1
      · cases hf
    · cases h
  | _ => simp [lenOf] at h
theorem RepV.agg_inv {cs : List AV} {v : Value} (h : RepV B w H μ (.agg cs) v) : ∃ vs, v = .agg vs ∧ All2 (RepA B w H μ) cs vs.toList := h
theorem part_cell {t : TypeId} {cs : Array Value} {o : Nat} {v : Value} (ha : aggOf? P t = some false) (h : cs[o]? = some v) : (part t cs o).run P w = .ok v w := by
  unfold part
  rw [Sem.run_bind, run_isAgg_vm ha]
  simp [h]
theorem eq_fields (d : Nat) {V U : Array Value} : ∀ {fs : List Field} {o : Nat} {ks : List Bool} {as bs : List AV} {r : Bool}, flatFields P o fs = some ks → cellsEq ks as bs = some r →
    All2 (RepA B w H μ) as (V.toList.drop o) → All2 (RepA B w H μ) bs (U.toList.drop o) → (Op.eqFields (d + 1) V U fs).run P w = .ok r w
  | [], o, ks, as, bs, r, hf, hc, h1, h2 => by
    simp only [flatFields, Option.some.injEq] at hf
    subst hf
    cases as <;> cases bs <;> simp only [cellsEq] at hc <;> cases hc
    simp [Op.eqFields]
  | f :: fs, o, ks, as, bs, r, hf, hc, h1, h2 => by
    unfold flatFields at hf
    split at hf
    case isFalse => cases hf
    rename_i hfo
    obtain ⟨ho, hn⟩ := hfo
    have key : ∀ {a b : AV} {as' bs' : List AV} {ks' : List Bool} {r1 r2 : Bool}, as = a :: as' → bs = b :: bs' → flatFields P (o + 1) fs = some ks' → cellsEq ks' as' bs' = some r2 → aggOf? P f.type = some false →
        (∀ v u, RepA B w H μ a v → RepA B w H μ b u → (Op.equalIn (d + 1) f.type v u).run P w = .ok r1 w) → r = (r1 && r2) → (Op.eqFields (d + 1) V U (f :: fs)).run P w = .ok r w := by
      rintro a b as' bs' ks' r1 r2 rfl rfl hf' hc' ha he rfl
      have d1 : ∀ {W : Array Value} {c : AV} {cs : List AV}, All2 (RepA B w H μ) (c :: cs) (W.toList.drop o) → ∃ v, W[o]? = some v ∧ RepA B w H μ c v ∧ All2 (RepA B w H μ) cs (W.toList.drop (o + 1)) := by
        intro W c cs h
        cases hW : W.toList.drop o with
        | nil => rw [hW] at h; cases h
        | cons v rest =>
          rw [hW] at h
          cases h with
          | cons hh t =>
            have e1 : W.toList[o]? = some v := by
              have := congrArg (fun l => l[0]?) hW
              simpa using this
            have e2 : W.toList.drop (o + 1) = rest := by
              have := congrArg List.tail hW
              simpa [List.tail_drop] using this
            exact ⟨v, by simpa using e1, hh, by rw [e2]; exact t⟩
      obtain ⟨v, hv, rv, t1⟩ := d1 h1
      obtain ⟨u, hu, ru, t2⟩ := d1 h2
      have ih := eq_fields d hf' hc' t1 t2
      unfold Op.eqFields
      rw [if_pos hn, Sem.run_bind, ho, part_cell ha hv]
      simp only [Result.andThen_ok]
      rw [Sem.run_bind, part_cell ha hu]
      simp only [Result.andThen_ok]
      rw [Sem.run_bind, he v u rv ru]
      simp only [Result.andThen_ok]
      cases r1 with
      | true => simpa using ih
      | false => simp
    split at hf
    · rename_i k ks' hk hf'
      simp only [Option.some.injEq] at hf
      subst hf
      have ha : aggOf? P f.type = some false := by simp [aggOf?, hk]
      cases as with
      | nil => simp [cellsEq] at hc
      | cons a as' =>
        cases bs with
        | nil => cases a <;> simp [cellsEq] at hc
        | cons b bs' =>
          cases a <;> cases b <;> try (simp [cellsEq] at hc; done)
          rename_i q n q' m
          simp only [cellsEq] at hc
          split at hc
          case isFalse => cases hc
          rename_i hq
          subst hq
          obtain ⟨r2, hc', rfl⟩ := Option.map_eq_some_iff.1 hc
          refine key rfl rfl hf' hc' ha (fun v u rv ru => ?_) rfl
          have e1 := rv.2
          have e2 := ru.2
          simp only [RepR0] at e1 e2
          cases e1
          cases e2
          rw [run_equalIn_int w d f.type q k n m hk]
          rfl
    · rename_i ks' hk hf'
      simp only [Option.some.injEq] at hf
      subst hf
      have ha : aggOf? P f.type = some false := by simp [aggOf?, hk]
      cases as with
      | nil => simp [cellsEq] at hc
      | cons a as' =>
        cases bs with
        | nil => cases a <;> simp [cellsEq] at hc
        | cons b bs' =>
          cases a <;> cases b <;> try (simp [cellsEq] at hc; done)
          rename_i l m
          simp only [cellsEq] at hc
          obtain ⟨r2, hc', rfl⟩ := Option.map_eq_some_iff.1 hc
          refine key rfl rfl hf' hc' ha (fun v u rv ru => ?_) rfl
          have e1 := rv.2
          have e2 := ru.2
          simp only [RepR0] at e1 e2
          cases e1 with
          | str f1 =>
            cases e2 with
            | str f2 =>
              rw [run_equalIn_string w d f.type _ _ hk, ← f1, ← f2, ByteArray.toList_eq, ByteArray.toList_eq]
              congr 1
              rw [Bool.eq_iff_iff]; simp
    · cases hf
theorem cop_gives (R : Rel B w H μ) {op : Op} {ty : TypeId} {o : O} (hc : COp P op ty o) {ρ : Opd → AV} {a : Act} (ho : Opds B w H μ ρ a) {v : AV} (h : o.eval ρ H = some (v, H')) (dst : Option Tmp) (pos : String) (after : Array Edge) (guard : Option (Nat × Bool)) :
    Gives P B w H μ (execOp a.eval { dst, op, type := ty, pos, after, guard }) v H' := by
  cases hc with
  | mov hx => simp only [O.eval, Option.some.injEq, Prod.mk.injEq] at h; obtain ⟨rfl, rfl⟩ := h; exact Gives.ofVal R (by simp [execOp]) (ho _ _ hx)
  | asg hx => simp only [O.eval, Option.some.injEq, Prod.mk.injEq] at h; obtain ⟨rfl, rfl⟩ := h; exact Gives.ofVal R (by simp [execOp]) (ho _ _ hx)
  | @pick c x y c' x' y' _ h1 h2 h3 =>
    simp only [O.eval] at h
    split at h
    · rename_i t ht
      simp only [Option.some.injEq, Prod.mk.injEq] at h
      obtain ⟨rfl, rfl⟩ := h
      have hb := ho _ _ h1
      rw [ht] at hb
      have := hb.bool_inv
      refine Gives.ofVal R (val := if t then a.eval x else a.eval y) (by simp [execOp, this, asBool]) ?_
      cases t
      · exact ho _ _ h3
      · exact ho _ _ h2
    · cases h
  | @alloc t i z zs _ hi hz hcs =>
    simp only [O.eval] at h
    split at h
    · simp only [Option.some.injEq, Prod.mk.injEq] at h
      obtain ⟨rfl, rfl⟩ := h
      obtain ⟨val, w', μ', h1, h2, h3, h4⟩ := ev_newVar (P := P) R (t := t) (v := z) (consts_rep hcs)
      exact ⟨_, _, w', μ', by simp [execOp, Instr.alloc, zeroValue, typeInfo, hi, hz, h1], .inl rfl, h2, h3, h4⟩
    · cases h
  | @box t x x' _ hx =>
    simp only [O.eval] at h
    obtain ⟨cs, hs, he⟩ := Option.map_eq_some_iff.1 h
    simp only [Prod.mk.injEq] at he
    obtain ⟨rfl, rfl⟩ := he
    obtain ⟨val, w', μ', h1, h2, h3, h4⟩ := ev_newVar (P := P) R (t := t) (v := a.eval x) ((ho _ _ hx).stored hs)
    exact ⟨_, _, w', μ', by simp [execOp, Instr.box, h1], .inl rfl, h2, h3, h4⟩
  | @build t i z fs zero ps ps' _ hu hi hz hcs hall hp =>
    simp only [O.eval] at h
    split at h
    · obtain ⟨cs, hf, he⟩ := Option.map_eq_some_iff.1 h
      simp only [Prod.mk.injEq] at he
      obtain ⟨rfl, rfl⟩ := he
      have A := ev_build (P := P) R hu hi hz hcs (fill_opds ho (q := fun x y => ∃ f, fs[y]? = some f ∧ f.offset = x.1 ∧ sizeOf? P f.type = some x.2) hp) hall hf
      exact A.gives.eq (by simp [execOp])
    · cases h
  | @bsl t e i z zero zc n ps ps' _ hu hi hz hcs hs hl hn hn2 hp =>
    simp only [O.eval, hs] at h
    rw [if_pos hl] at h
    obtain ⟨els, hf, he⟩ := Option.map_eq_some_iff.1 h
    simp only [Prod.mk.injEq] at he
    obtain ⟨rfl, rfl⟩ := he
    have A := ev_bsl (P := P) R hu hi hz hcs hs hl hn (by simp only [maxLen]; omega) (fill_opds1 ho hp) hf
    exact A.gives.eq (by simp [execOp])
  | @load t n agg x x' _ hs ha hx =>
    simp only [O.eval] at h
    obtain ⟨r, hr, he⟩ := Option.map_eq_some_iff.1 h
    simp only [Prod.mk.injEq] at he
    obtain ⟨rfl, rfl⟩ := he
    obtain ⟨val, h1, h2⟩ := ev_load (P := P) R hs ha (ho _ _ hx) hr
    exact Gives.ofVal R (by simp [execOp, h1]) h2
  | @store t n x x' y y' _ hs hx hy =>
    simp only [O.eval] at h
    split at h
    · rename_i cs hst
      split at h
      · rename_i hn
        obtain ⟨H1, hset, he⟩ := Option.map_eq_some_iff.1 h
        simp only [Prod.mk.injEq] at he
        obtain ⟨rfl, rfl⟩ := he
        have hc0 := (ho _ _ hy).stored hst
        obtain ⟨R1, E1⟩ := R.pushN (nils cs)
        have hc1 := nilfy_rep E1 H.length hc0 (fun i hi => by
          rw [List.getElem?_append_right (by omega)]
          simp [hi])
        obtain ⟨g, o, w', μ', hv, hr, R2, E2⟩ := R1.setAt (P := P) (RepV.ext E1 (ho _ _ hx)) hc1 hset
        have hcl : (a.eval y).cells.size = n := by have := hc0.length; simp at this; omega
        refine ⟨.skip, undef, w', μ', ?_, .inr ⟨rfl, rfl⟩, R2, E1.trans E2, ⟨#[], rfl, .nil⟩⟩
        simp [execOp, Instr.storeAt, Instr.sureAddr, hv, storeVar, run_sizeOf_vm hs, hcl, hr]
      · cases h
    · cases h
  | @nchk x x' _ hx =>
    simp only [O.eval] at h
    split at h
    · rename_i hf
      split at h
      · cases h
      · rename_i hns
        simp only [Option.some.injEq, Prod.mk.injEq] at h
        obtain ⟨rfl, rfl⟩ := h
        have hr := ho _ _ hx
        rcases nchk_run hr hf (fun b o l t => hns b o l t) with ⟨ad, hv⟩ | ⟨f, cs, hv⟩
        · exact Gives.ofVal R (by simp [execOp, hv]) (hv ▸ hr)
        · exact Gives.ofVal R (by simp [execOp, hv]) (hv ▸ hr)
    · cases h
  | @bin bop t x y ty2 x' y' _ hx hy =>
    simp only [O.eval] at h
    obtain ⟨r, hr, he⟩ := Option.map_eq_some_iff.1 h
    simp only [Prod.mk.injEq] at he
    obtain ⟨rfl, rfl⟩ := he
    have h1 := ho _ _ hx
    have h2 := ho _ _ hy
    have fin : ∀ (p q : Value), a.eval x = p → a.eval y = q → (∀ (P : Program) (w : World), (eqGuard bop t x y p q).run P w = .ok () w) → (∃ val, (binOp bop t p q).run P w = .ok val w ∧ RepV B w H μ r val) →
        Gives P B w H μ (execOp a.eval { dst, op := .binOp bop t x y ty2, type := ty, pos, after, guard }) r H := by
      rintro p q e1 e2 hg ⟨val, hv, hrv⟩
      exact Gives.ofVal R (by simp [execOp, e1, e2, hg, hv]) hrv
    unfold binAV at hr
    split at hr
    · rename_i k n k' m e1 e2
      rw [e1] at h1; rw [e2] at h2
      have g : ∀ (P : Program) (w : World), (eqGuard bop t x y (.int k n) (.int k' m)).run P w = .ok () w := by
        intro P w; unfold eqGuard; cases bop <;> simp
      split at hr
      · exact fin _ _ h1.int_inv h2.int_inv g (shift_run hr (.inl rfl) t)
      · exact fin _ _ h1.int_inv h2.int_inv g (shift_run hr (.inr rfl) t)
      · rename_i hs1 hs2
        split at hr
        · rename_i hk
          subst hk
          exact fin _ _ h1.int_inv h2.int_inv g (intBin_run hr (fun e => hs1 e) (fun e => hs2 e) t)
        · cases hr
    · rename_i l m e1 e2
      rw [e1] at h1; rw [e2] at h2
      obtain ⟨s1, hv1, rfl⟩ := h1.str_inv
      obtain ⟨s2, hv2, rfl⟩ := h2.str_inv
      exact fin _ _ hv1 hv2 (by intro P w; unfold eqGuard; cases bop <;> simp) (strBin_run hr t)
    · cases hr
  | @beq t x y ty2 x' y' _ hu hx hy =>
    simp only [O.eval] at h
    split at h
    · rename_i p q e1 e2
      simp only [Option.some.injEq, Prod.mk.injEq] at h
      obtain ⟨rfl, rfl⟩ := h
      have h1 := ho _ _ hx
      have h2 := ho _ _ hy
      rw [e1] at h1; rw [e2] at h2
      have v1 := h1.bool_inv
      have v2 := h2.bool_inv
      have hr : (Op.equal t (.bool p) (.bool q)).run P w = .ok (p == q) w := by
        rw [Op.equal, Op.maxDepth, Op.equalIn]; simp [run_underlying hu]
      have e : (decide (p = q) != false) = (p == q) := by cases p <;> cases q <;> rfl
      rw [e]
      exact Gives.ofVal R (val := .bool (p == q)) (by simp [execOp, v1, v2, eqGuard, binOp, hr]) (RepV.mk_bool _)
    · cases h
  | @bne t x y ty2 x' y' _ hu hx hy =>
    simp only [O.eval] at h
    split at h
    · rename_i p q e1 e2
      simp only [Option.some.injEq, Prod.mk.injEq] at h
      obtain ⟨rfl, rfl⟩ := h
      have h1 := ho _ _ hx
      have h2 := ho _ _ hy
      rw [e1] at h1; rw [e2] at h2
      have v1 := h1.bool_inv
      have v2 := h2.bool_inv
      have hr : (Op.equal t (.bool p) (.bool q)).run P w = .ok (p == q) w := by
        rw [Op.equal, Op.maxDepth, Op.equalIn]; simp [run_underlying hu]
      have e : (decide (p = q) != true) = !(p == q) := by cases p <;> cases q <;> rfl
      rw [e]
      exact Gives.ofVal R (val := .bool (!(p == q))) (by simp [execOp, v1, v2, eqGuard, binOp, hr]) (RepV.mk_bool _)
    · cases h
  | @eqnil t e x x' ty2 _ hu hx =>
    simp only [O.eval] at h
    obtain ⟨b, hb, he⟩ := Option.map_eq_some_iff.1 h
    simp only [Prod.mk.injEq] at he
    obtain ⟨rfl, rfl⟩ := he
    obtain ⟨⟨q, n, c, hv⟩, hr⟩ := nilOf_run (P := P) R hu (ho _ _ hx) hb
    rw [hv] at hr
    have hc0 : a.eval (.const (.slice none 0 0)) = .slice none 0 0 := rfl
    rw [show (b != false) = b by cases b <;> rfl]
    exact Gives.ofVal R (val := .bool b) (by simp [execOp, hv, hc0, eqGuard, binOp, hr]) (RepV.mk_bool _)
  | @nenil t e x x' ty2 _ hu hx =>
    simp only [O.eval] at h
    obtain ⟨b, hb, he⟩ := Option.map_eq_some_iff.1 h
    simp only [Prod.mk.injEq] at he
    obtain ⟨rfl, rfl⟩ := he
    obtain ⟨⟨q, n, c, hv⟩, hr⟩ := nilOf_run (P := P) R hu (ho _ _ hx) hb
    rw [hv] at hr
    have hc0 : a.eval (.const (.slice none 0 0)) = .slice none 0 0 := rfl
    rw [show (b != true) = !b by cases b <;> rfl]
    exact Gives.ofVal R (val := .bool (!b)) (by simp [execOp, hv, hc0, eqGuard, binOp, hr]) (RepV.mk_bool _)
  | @not t x x' _ hx =>
    simp only [O.eval] at h
    split at h
    · rename_i b hb
      simp only [Option.some.injEq, Prod.mk.injEq] at h
      obtain ⟨rfl, rfl⟩ := h
      have h1 := ho _ _ hx
      rw [hb] at h1
      exact Gives.ofVal R (by simp [execOp, h1.bool_inv, Op.unary]) (RepV.mk_bool _)
    · cases h
  | @neg t x x' _ hx =>
    simp only [O.eval] at h
    split at h
    · rename_i k n hb
      simp only [Option.some.injEq, Prod.mk.injEq] at h
      obtain ⟨rfl, rfl⟩ := h
      have h1 := ho _ _ hx
      rw [hb] at h1
      exact Gives.ofVal R (val := .int k (k.wrap (0 - n))) (by simp [execOp, h1.int_inv, Op.unary, Op.intArith]) (RepV.mk_int _ _)
    · cases h
  | @conv s d k k' x x' _ hs hd hx =>
    simp only [O.eval] at h
    split at h
    · rename_i k2 n hb
      simp only [Option.some.injEq, Prod.mk.injEq] at h
      obtain ⟨rfl, rfl⟩ := h
      have h1 := ho _ _ hx
      rw [hb] at h1
      exact Gives.ofVal R (val := .int k (k.wrap n)) (by simp [execOp, h1.int_inv, convert, run_underlying hs, run_underlying hd, Conv.intToInt]) (RepV.mk_int _ _)
    · cases h
  | @b2s s d e x x' _ hs hd he hx =>
    simp only [O.eval] at h
    obtain ⟨bs, hb, hq⟩ := Option.map_eq_some_iff.1 h
    simp only [Prod.mk.injEq] at hq
    obtain ⟨rfl, rfl⟩ := hq
    obtain ⟨xs, h1, h2⟩ := Option.bind_eq_some_iff.1 hb
    have A := ev_b2s (P := P) R (ho _ _ hx) h1 h2
    obtain ⟨us, _, _, h3⟩ := R.elsOf (ho _ _ hx) h1
    have hv : ∃ q n c, a.eval x = .slice q n c := by
      rcases h3 with ⟨h3, _⟩ | ⟨q, c, h3, _⟩
      · exact ⟨_, _, _, h3⟩
      · exact ⟨_, _, _, h3⟩
    obtain ⟨q, n, c, hv⟩ := hv
    rw [hv] at A
    refine A.gives.eq ?_
    simp [execOp, convert, run_underlying hs, run_underlying hd, run_underlying he, hv]
  | @mkfn f cs cs' _ hcs =>
    simp only [O.eval] at h
    split at h
    · rename_i hall
      simp only [Option.some.injEq, Prod.mk.injEq] at h
      obtain ⟨rfl, rfl⟩ := h
      have A := caps_opds ho hcs hall
      exact Gives.ofVal R (val := .func (.func f) #[] (cs.map a.eval).toArray) (by simp [execOp, Instr.makeFunc]) ⟨_, rfl, by simpa using A⟩
    · cases h
  | @mksl t e i z zero zc l c l' c' _ hu hi hz hcs hs hl h1 h2 =>
    simp only [O.eval] at h
    split at h
    · rename_i k n k' m z' e1 e2 e3
      rw [hs] at e3; cases e3
      split at h
      · rename_i hq
        obtain ⟨q1, q2, q3, q4, q5⟩ := hq
        simp only [Option.some.injEq, Prod.mk.injEq] at h
        obtain ⟨rfl, rfl⟩ := h
        have A := ev_mksl (P := P) R hu hi hz hcs hs q5 (e1 ▸ ho _ _ h1) (e2 ▸ ho _ _ h2) q1 q2 q3 q4
        exact A.gives.eq (by simp [execOp])
      · cases h
    · cases h
  | @slice t e n x lo hi x' lo' hi' _ hu hs hx hlo hhi =>
    simp only [O.eval] at h
    obtain ⟨r, hr, he⟩ := Option.map_eq_some_iff.1 h
    simp only [Prod.mk.injEq] at he
    obtain ⟨rfl, rfl⟩ := he
    have A := ev_slice (P := P) R hu hs (ho _ _ hx) (optRep ho hlo) (optRep ho hhi) hr
    exact A.gives.eq (by simp [execOp])
  | @sslice t x lo hi x' lo' hi' _ hu hx hlo hhi =>
    simp only [O.eval] at h
    split at h
    · rename_i l hl
      obtain ⟨⟨p, q⟩, hr, he⟩ := Option.map_eq_some_iff.1 h
      simp only [Prod.mk.injEq] at he
      obtain ⟨rfl, rfl⟩ := he
      have h1 := ho _ _ hx
      rw [hl] at h1
      obtain ⟨s, hv, rfl⟩ := h1.str_inv
      have hsl : s.data.toList.length = s.size := by simp
      rw [hsl] at hr
      obtain ⟨r1, r2, r3⟩ := run_cut (P := P) (w := w) false (Nat.le_refl _) (optRep ho hlo) (optRep ho hhi) hr
      refine Gives.ofVal R (val := .string (s.extract p q)) ?_ (RepV.mk_str ?_)
      · simp [execOp, Instr.sliceAt, Instr.slice, run_underlying hu, hv, r1]
      · simp [ByteArray.data_extract, Array.toList_extract, List.extract_eq_take_drop, List.drop_take]
    · cases h
  | @faddr s fs k f n x x' _ hu hf hs hn hx =>
    simp only [O.eval] at h
    obtain ⟨r, hr, he⟩ := Option.map_eq_some_iff.1 h
    simp only [Prod.mk.injEq] at he
    obtain ⟨rfl, rfl⟩ := he
    obtain ⟨g, o, hv, hrep⟩ := faddr_rep (ho _ _ hx) hr
    refine Gives.ofVal R (val := .pointer (some ⟨g, o + f.offset, none⟩)) ?_ hrep
    simp [execOp, Instr.fieldAt, run_underlying hu, hf, hv, Instr.sureAddr, fieldPlace, run_sizeOf_vm hs, hn, Addr.add_lit]
  | @fld s fs k f n agg x x' _ hu hf hs ha h1n hx =>
    simp only [O.eval] at h
    split at h
    · rename_i cs hcs
      split at h
      · rename_i hle
        obtain ⟨r, hr, he⟩ := Option.map_eq_some_iff.1 h
        simp only [Prod.mk.injEq] at he
        obtain ⟨rfl, rfl⟩ := he
        have h1 := ho _ _ hx
        rw [hcs] at h1
        obtain ⟨vs, hv, hc⟩ := h1.agg_inv
        have hc2 := (hc.drop f.offset).take n
        obtain ⟨val, hrep, hval⟩ := RepU.mkv hr hc2
        refine Gives.ofVal R (val := val) ?_ (hrep.repV fun xs e => mkv_tup (e ▸ hr) _ hc2)
        cases agg with
        | true =>
          simp at hval
          subst hval
          have e : vs.extract f.offset (f.offset + n) = ((vs.toList.drop f.offset).take n).toArray := by
            apply Array.ext'
            simp [Array.toList_extract, List.extract_eq_take_drop]
          simp [execOp, Instr.field, run_underlying hu, hf, hv, asAgg, part, run_isAgg_vm ha, run_sizeOf_vm hs, e]
        | false =>
          simp at hval
          have : vs[f.offset]? = some val := by
            have h0 : ((vs.toList.drop f.offset).take n)[0]? = some val := by rw [hval]; rfl
            rw [h1n rfl] at h0
            simpa using h0
          simp [execOp, Instr.field, run_underlying hu, hf, hv, asAgg, part, run_isAgg_vm ha, this]
      · cases h
    · cases h
  | @iaddr t e n x i x' i' _ hu hs hx hi =>
    simp only [O.eval] at h
    obtain ⟨r, hr, he⟩ := Option.map_eq_some_iff.1 h
    simp only [Prod.mk.injEq] at he
    obtain ⟨rfl, rfl⟩ := he
    have A := ev_iaddr (P := P) R hu hs (ho _ _ hx) (ho _ _ hi) hr
    exact A.gives.eq (by simp [execOp])
  | @idxs t x i x' i' _ hu hx hi =>
    simp only [O.eval] at h
    split at h
    · rename_i l k n e1 e2
      split at h
      · rename_i hq
        simp only [Option.some.injEq, Prod.mk.injEq] at h
        obtain ⟨rfl, rfl⟩ := h
        have h1 := ho _ _ hx
        have h2 := ho _ _ hi
        rw [e1] at h1; rw [e2] at h2
        obtain ⟨s, hv, rfl⟩ := h1.str_inv
        refine Gives.ofVal R (val := .int .u8 ((s.data.toList.getD n.toNat 0).toNat : Int)) ?_ (RepV.mk_int _ _)
        have hlt : n.toNat < s.size := by have : s.data.toList.length = s.size := by simp
                                          omega
        have hidx : s[n.toNat]? = some s.data.toList[n.toNat] := by
          rw [getElem?_pos s n.toNat hlt]
          rfl
        have hgd : s.data.toList.getD n.toNat 0 = s.data.toList[n.toNat] := by simp [List.getD, hlt]
        rw [hgd]
        simp [execOp, Instr.index, run_underlying hu, hv, h2.int_inv, asIntOf, hq.1, hidx]
      · cases h
    · cases h
  | @extr x x' k _ hx =>
    simp only [O.eval] at h
    split at h
    · rename_i xs e1
      split at h
      · rename_i v' hk
        simp only [Option.some.injEq, Prod.mk.injEq] at h
        obtain ⟨rfl, rfl⟩ := h
        have h1 := ho _ _ hx
        rw [e1] at h1
        obtain ⟨vs, hv, hc⟩ := h1
        obtain ⟨u, hu, hr⟩ := hc.get hk
        refine Gives.ofVal R (val := u) ?_ (hr.repV fun ys e => by subst e; cases hr.2)
        simp [execOp, Instr.extract, hv]
        simp at hu
        simp [hu]
      · cases h
    · cases h
  | @len x x' t e _ hu hx =>
    simp only [O.eval] at h
    obtain ⟨n, hn, he⟩ := Option.map_eq_some_iff.1 h
    simp only [Prod.mk.injEq] at he
    obtain ⟨rfl, rfl⟩ := he
    obtain ⟨q, c, hv, h0⟩ := lenOf_run R (ho _ _ hx) hn
    refine Gives.ofVal R (val := .int .i64 n) ?_ (RepV.mk_int _ _)
    have : ((n.toNat : Nat) : Int) = n := Int.toNat_of_nonneg h0
    simp [execOp, resolve, invoke, builtin, Builtin.len_, run_underlying hu, hv, goInt, this]
  | @slen x x' t _ hu hx =>
    simp only [O.eval] at h
    split at h
    · rename_i l hl
      simp only [Option.some.injEq, Prod.mk.injEq] at h
      obtain ⟨rfl, rfl⟩ := h
      have h1 := ho _ _ hx
      rw [hl] at h1
      obtain ⟨s, hv, rfl⟩ := h1.str_inv
      have hsl : s.data.toList.length = s.size := by simp
      rw [hsl]
      exact Gives.ofVal R (val := .int .i64 s.size) (by simp [execOp, resolve, invoke, builtin, Builtin.len_, run_underlying hu, hv, goInt]) (RepV.mk_int _ _)
    · cases h
  | @append s x s' x' t e i z _ hu hi hz hzs hb h1 h2 =>
    simp only [O.eval] at h
    split at h
    · rename_i xs hxs
      have A := ev_append (P := P) (ty := ty) R hu hi hz hzs hb (ho _ _ h1) (ho _ _ h2) hxs h
      exact A.gives.eq (by simp [execOp, resolve, invoke, builtin])
    · cases h
  | @appends s x s' x' t u e i _ ht hu hi hz hs1 hb1 h1 h2 =>
    simp only [O.eval] at h
    split at h
    · rename_i l hl
      have A := ev_appends (P := P) (ty := ty) R ht hu hi hz hs1 hb1 (ho _ _ h1) (hl ▸ ho _ _ h2) h
      exact A.gives.eq (by simp [execOp, resolve, invoke, builtin])
    · cases h
  | @chk3 t e n x lo hi mx x' lo' hi' mx' _ hu hs hx h1 h2 h3 =>
    simp only [O.eval] at h
    split at h
    · rename_i n0 k1 a0 k2 b0 k3 c0 e1 e2 e3 e4
      split at h
      · rename_i hq
        obtain ⟨c1, c2, c3, c4⟩ := hq
        simp only [Option.some.injEq, Prod.mk.injEq] at h
        obtain ⟨rfl, rfl⟩ := h
        have r1 := ho _ _ h1
        rw [e2] at r1
        have r2 := ho _ _ h2
        rw [e3] at r2
        have r3 := ho _ _ h3
        rw [e4] at r3
        have A := ev_chk3 (P := P) R hu hs (ho _ _ hx) e1 (lenOf_cap R (ho _ _ hx) e1) (lenOf_run R (ho _ _ hx) e1) r1.int_inv r2.int_inv r3.int_inv c1 c2 c3 c4
        exact A.gives.eq (by simp [execOp])
      · cases h
    · cases h
  | @clear x x' t e i z zero zc _ hu hi hz hcz hst hl hx =>
    simp only [O.eval] at h
    split at h
    · rename_i b off n tot e1
      split at h
      · rename_i e' els hb
        split at h
        · rename_i hq
          obtain ⟨q1, q2, q3⟩ := hq
          subst q1
          simp only [Option.some.injEq, Prod.mk.injEq] at h
          obtain ⟨rfl, rfl⟩ := h
          have A := ev_clear (P := P) (ty := ty) R hu hi hz hcz hst hl (e1 ▸ ho _ _ hx) hb q3
          exact A.gives.eq (by simp [execOp, resolve, invoke, builtin])
        · cases h
      · cases h
    · cases h
  | @copy d x d' x' t u e _ hu hs h1 h2 =>
    simp only [O.eval] at h
    split at h
    · rename_i b off n tot xs e1 e2
      split at h
      · rename_i e' els hb
        split at h
        · rename_i hq
          obtain ⟨q1, q2⟩ := hq
          subst q1
          simp only [Option.some.injEq, Prod.mk.injEq] at h
          obtain ⟨rfl, rfl⟩ := h
          have A := ev_copy (P := P) (ty := ty) (sT := u) R hu hs (e1 ▸ ho _ _ h1) hb (ho _ _ h2) e2
          exact A.gives.eq (by simp [execOp, resolve, invoke, builtin])
        · cases h
      · cases h
    · cases h
  | @eqs t x y ty2 x' y' _ ks hu hf hp hm hx hy =>
    simp only [O.eval] at h
    split at h
    · rename_i xs ys e1 e2
      obtain ⟨b, hb, he⟩ := Option.map_eq_some_iff.1 h
      simp only [Prod.mk.injEq] at he
      obtain ⟨rfl, rfl⟩ := he
      have h1 := ho _ _ hx
      have h2 := ho _ _ hy
      rw [e1] at h1; rw [e2] at h2
      obtain ⟨V, hV, aV⟩ := h1
      obtain ⟨U, hU, aU⟩ := h2
      have hr := eq_fields (w := w) 9998 hf hb (by simpa using aV) (by simpa using aU)
      have hr2 : (Op.equalIn 10000 t (.agg V) (.agg U)).run P w = .ok b w := by
        rw [run_equalIn_agg w 9999 t V U hu hp]; exact hr
      refine Gives.ofVal R (val := .bool b) ?_ ?_
      · simp only [execOp, hV, hU, Sem.run_bind, run_eqGuard_agg w _ t x y V U hm, Result.andThen_ok, run_eql_struct w t V U, hr2, Sem.run_pure]
      · have : RepV B w H μ (.bool b) (.bool b) := RepV.mk_bool _
        cases b <;> exact this
    · cases h
  | @nes t x y ty2 x' y' _ ks hu hf hp hm hx hy =>
    simp only [O.eval] at h
    split at h
    · rename_i xs ys e1 e2
      obtain ⟨b, hb, he⟩ := Option.map_eq_some_iff.1 h
      simp only [Prod.mk.injEq] at he
      obtain ⟨rfl, rfl⟩ := he
      have h1 := ho _ _ hx
      have h2 := ho _ _ hy
      rw [e1] at h1; rw [e2] at h2
      obtain ⟨V, hV, aV⟩ := h1
      obtain ⟨U, hU, aU⟩ := h2
      have hr := eq_fields (w := w) 9998 hf hb (by simpa using aV) (by simpa using aU)
      have hr2 : (Op.equalIn 10000 t (.agg V) (.agg U)).run P w = .ok b w := by
        rw [run_equalIn_agg w 9999 t V U hu hp]; exact hr
      refine Gives.ofVal R (val := .bool (!b)) ?_ ?_
      · simp only [execOp, hV, hU, Sem.run_bind, run_eqGuard_agg w _ t x y V U hm, Result.andThen_ok, run_neq_struct w t V U, hr2, Sem.run_pure]
      · have : RepV B w H μ (.bool (!b)) (.bool (!b)) := RepV.mk_bool _
        cases b <;> exact this
    · cases h
  | bad => simp [O.eval] at h
  | @cap x x' t e _ hu hx =>
    simp only [O.eval] at h
    split at h
    · rename_i sz' hv
      simp only [Option.some.injEq, Prod.mk.injEq] at h
      obtain ⟨rfl, rfl⟩ := h
      have r := ho _ _ hx
      rw [hv] at r
      have r2 := r.2
      simp only [RepR0] at r2
      have hval : a.eval x = .slice none 0 0 := by
        generalize a.eval x = q at r2
        cases r2 with
        | nilSl hk => rfl
        | slE hk hm => exact absurd rfl hk
        | sl hk => exact absurd rfl hk
      exact Gives.ofVal R (val := .int .i64 0) (by simp [execOp, resolve, invoke, builtin, Builtin.cap_, run_underlying hu, hval, goInt]) (RepV.mk_int _ _)
    · cases h
  | @appz s x s' x' t u e i k z zero zc _ hu hk hi hz hcs hs hl h1 h2 =>
    simp only [O.eval] at h
    split at h
    · rename_i sz' m hv hn
      simp only [hs] at h
      split at h
      · rename_i hc
        obtain ⟨c1, c2, c3, c4, c5⟩ := hc
        simp only [Option.some.injEq, Prod.mk.injEq] at h
        obtain ⟨rfl, rfl⟩ := h
        have r := ho _ _ h1
        rw [hv] at r
        have r2 := r.2
        simp only [RepR0] at r2
        have hval : a.eval s = .slice none 0 0 := by
          generalize a.eval s = q at r2
          cases r2 with
          | nilSl hk => rfl
          | slE hk hm => exact absurd rfl hk
          | sl hk => exact absurd rfl hk
        have rn := ho _ _ h2
        rw [hn] at rn
        have hnv := rn.int_inv
        obtain ⟨n, rfl⟩ : ∃ n : Nat, m = n := ⟨m.toNat, by omega⟩
        have hn0 : 0 < n := by omega
        have hsz : 0 < i.size := by omega
        have hrun := fun ty0 => Lib.run_append_nil_zeros (P := P) w t u ty0 e i z .i64 k hu hk hi hz n hn0 hsz (by simpa [maxLen] using c4) (by have := c5; rw [← Int.natCast_mul] at this; omega)
        have hnm : n ≤ maxLen := by omega
        have hge := grownCap_ge w n 0 e
        have hle := grownCap_le_maxLen w n 0 e hnm
        obtain ⟨R1, E1⟩ := R.world (w' := w.drew) ((Below.refl _ _).drew)
        have hzr : All2 (RepA B w.drew H μ) zc z.cells.toList := (constAV_rep hcs).stored hs
        have hzs : z.cells.size = i.size := by have := hzr.length; simp at this; omega
        have zc0 : ∀ q, (Builtin.zeroCells z.cells q).toList = (List.range (q * z.cells.size)).map fun j => z.cells[j % z.cells.size]! := fun q => by
          simp [Builtin.zeroCells, Array.toList_map, Array.toList_range]
        have hc0 := rep_cells hzr n
        have hzl : ∀ q, (Builtin.zeroCells z.cells q).size = q * i.size := fun q => by simp [Builtin.zeroCells, hzs]
        obtain ⟨μ', R', E', hv'⟩ := R1.newRow (Builtin.zeroCells z.cells n ++ Builtin.zeroCells z.cells (grownCap w n 0 e - n)) e (grownCap w n 0 e) i.size (els := List.replicate n zero)
          (fun y hy => by rw [List.eq_of_mem_replicate hy, stored_cells hs, hl]) (by simpa using hge) hle
          (by rw [Array.size_append, hzl, hzl, ← Nat.add_mul]; congr 1; omega)
          (by
            rw [Array.toList_append, List.length_replicate, List.take_append_of_le_length (Nat.le_of_eq (by rw [Array.length_toList, hzl])), List.take_of_length_le (Nat.le_of_eq (by rw [Array.length_toList, hzl])), flat_replicate, stored_cells hs, zc0]
            exact hc0)
        refine ⟨_, .slice (some ⟨w.heap.size, 0, none⟩) n (grownCap w n 0 e), w.drew.alloc (.cells (Builtin.zeroCells z.cells n ++ Builtin.zeroCells z.cells (grownCap w n 0 e - n)) e), μ', ?_, .inl rfl, R', E1.trans E', ?_⟩
        · simp only [execOp, resolve, invoke, builtin, hval, hnv, List.map_toArray, List.map_cons, List.map_nil, Sem.run_bind, Sem.run_pure, Result.andThen_ok]
          first | (rw [hrun]; rfl) | (simp [hrun])
        · simpa using hv'
      · cases h
    · cases h
  | @min x y x' y' ts _ h1 h2 =>
    simp only [O.eval] at h
    split at h
    · rename_i k p k' q e1 e2
      split at h
      · rename_i hk
        subst hk
        simp only [Option.some.injEq, Prod.mk.injEq] at h
        obtain ⟨rfl, rfl⟩ := h
        have r1 := ho _ _ h1
        have r2 := ho _ _ h2
        rw [e1] at r1; rw [e2] at r2
        exact Gives.ofVal R (val := .int k (if q < p then q else p)) (by simp [execOp, resolve, invoke, builtin, r1.int_inv, r2.int_inv, Builtin.min_, Builtin.min2]) (RepV.mk_int _ _)
      · cases h
    · cases h
  | @max x y x' y' ts _ h1 h2 =>
    simp only [O.eval] at h
    split at h
    · rename_i k p k' q e1 e2
      split at h
      · rename_i hk
        subst hk
        simp only [Option.some.injEq, Prod.mk.injEq] at h
        obtain ⟨rfl, rfl⟩ := h
        have r1 := ho _ _ h1
        have r2 := ho _ _ h2
        rw [e1] at r1; rw [e2] at r2
        exact Gives.ofVal R (val := .int k (if p < q then q else p)) (by simp [execOp, resolve, invoke, builtin, r1.int_inv, r2.int_inv, Builtin.max_, Builtin.max2]) (RepV.mk_int _ _)
      · cases h
    · cases h
end
end Go.Vm
namespace Go.Vm
open Go.RowKit
def PureU (w : World) (N : Nat → Prop) : AV → Value → Prop
  | .undef, _ => True
  | .agg cs, v => ∃ vs, v = .agg vs ∧ All2 (RepC w N) cs vs.toList
  | a, v => RepC w N a v
def PureV (w : World) (N : Nat → Prop) : AV → Value → Prop
  | .tup xs, v => ∃ vs, v = .tuple vs ∧ All2 (PureU w N) xs vs.toList
  | a, v => PureU w N a v
def Ok (P : Program) (f : FuncId) (args : List AV) (r : AV) : Prop :=
  ∀ (w : World) (N : Nat → Prop) (vs : Array Value), (∀ g, N g → g < w.heap.size) → All2 (PureV w N) args vs.toList →
    Calls P f vs w fun e w' => ∃ v, e = .returned v ∧ Below w.heap.size w w' ∧ PureV w' (fun g => N g ∨ (w.heap.size ≤ g ∧ g < w'.heap.size)) r v
def OkH (P : Program) (f : FuncId) (args : List AV) (H : List Blk) (r : AV) (H' : List Blk) : Prop :=
  ∀ (B : Base) (w : World) (μ : Mu) (vs : Array Value), Rel B w H μ → All2 (RepV B w H μ) args vs.toList →
    Calls P f vs w fun e w' => ∃ v μ', e = .returned v ∧ Rel B w' H' μ' ∧ Ext B w H μ w' H' μ' ∧ RepV B w' H' μ' r v
mutual
def AV.pure : AV → Bool
  | .undef | .slref .. | .pbox .. | .prow .. => false
  | .fn _ caps => pureL caps
  | .agg cs => pureL cs
  | .tup xs => pureL xs
  | _ => true
def pureL : List AV → Bool
  | [] => true
  | a :: as => a.pure && pureL as
end
mutual
def AV.scalar : AV → Bool
  | .int .. | .bool _ | .str _ | .nilp => true
  | .agg cs => scalarL cs
  | .tup cs => scalarL cs
  | _ => false
def scalarL : List AV → Bool
  | [] => true
  | a :: as => a.scalar && scalarL as
end
section
variable {P : Program} {B : Base} {w w' : World} {H H' H2 : List Blk} {μ μ' : Mu}
theorem PureU.mono {N N' : Nat → Prop} (hN : ∀ g, N g → N' g) (hw : ∀ g, N g → w'.heap[g]? = w.heap[g]?) {a : AV} {v : Value} (h : PureU w N a v) : PureU w' N' a v := by
  cases a with
  | undef => trivial
  | agg cs => obtain ⟨vs, h1, h2⟩ := h; exact ⟨vs, h1, h2.mono fun _ _ => RepC.mono hN hw⟩
  | _ => simp only [PureU] at h ⊢; exact h.mono hN hw
theorem PureV.mono {N N' : Nat → Prop} (hN : ∀ g, N g → N' g) (hw : ∀ g, N g → w'.heap[g]? = w.heap[g]?) {a : AV} {v : Value} (h : PureV w N a v) : PureV w' N' a v := by
  cases a with
  | tup cs => obtain ⟨vs, h1, h2⟩ := h; exact ⟨vs, h1, h2.mono fun _ _ => PureU.mono hN hw⟩
  | _ => simp only [PureV] at h ⊢; exact PureU.mono hN hw h
theorem PureU.repU {a : AV} {v : Value} (h : PureU w (Imm B w H μ) a v) : RepU B w H μ a v := by
  cases a with
  | undef => trivial
  | agg cs => obtain ⟨vs, h1, h2⟩ := h; exact ⟨vs, h1, h2.mono fun _ _ => RepA.of_repC⟩
  | _ => simp only [PureU] at h; simp only [RepU]; exact RepA.of_repC h
theorem PureV.repV {a : AV} {v : Value} (h : PureV w (Imm B w H μ) a v) : RepV B w H μ a v := by
  cases a with
  | tup cs => obtain ⟨vs, h1, h2⟩ := h; exact ⟨vs, h1, h2.mono fun _ _ => PureU.repU⟩
  | _ => simp only [PureV] at h; simp only [RepV]; exact PureU.repU h
theorem scalar_repC : ∀ {a : AV} {v : Value} {w w' : World} {N N' : Nat → Prop}, a.scalar = true → RepC w N a v → RepC w' N' a v := by
  intro a v w w' N N' hs h
  cases h <;> simp [AV.scalar] at hs <;> constructor <;> assumption
theorem scalar_all : ∀ {cs : List AV}, scalarL cs = true → ∀ c ∈ cs, c.scalar = true
  | [], _, c, hc => by simp at hc
  | a :: as, h, c, hc => by
    simp only [scalarL, Bool.and_eq_true] at h
    rcases List.mem_cons.1 hc with rfl | hc
    · exact h.1
    · exact scalar_all h.2 c hc
theorem All2.mono_mem {α β : Type} {R S : α → β → Prop} : ∀ {as : List α} {bs : List β}, All2 R as bs → (∀ a ∈ as, ∀ b, R a b → S a b) → All2 S as bs
  | _, _, .nil, _ => .nil
  | _, _, .cons h t, k => .cons (k _ (by simp) _ h) (All2.mono_mem t fun a ha => k a (by simp [ha]))
theorem scalar_pureU {a : AV} {v : Value} {N N' : Nat → Prop} (hs : a.scalar = true) (h : PureU w N a v) : PureU w' N' a v := by
  cases a with
  | undef => trivial
  | agg cs =>
    obtain ⟨vs, h1, h2⟩ := h
    exact ⟨vs, h1, h2.mono_mem fun a ha b hab => scalar_repC (scalar_all (by simpa only [AV.scalar] using hs) a ha) hab⟩
  | _ => simp only [PureU] at h ⊢; exact scalar_repC hs h
theorem scalar_pureV {a : AV} {v : Value} {N N' : Nat → Prop} (hs : a.scalar = true) (h : PureV w N a v) : PureV w' N' a v := by
  cases a with
  | tup cs =>
    obtain ⟨vs, h1, h2⟩ := h
    exact ⟨vs, h1, h2.mono_mem fun a ha b hab => scalar_pureU (scalar_all (by simpa only [AV.scalar] using hs) a ha) hab⟩
  | _ => simp only [PureV] at h ⊢; exact scalar_pureU hs h
mutual
def lendC (m : Nat → Blk → Bool) (H : List Blk) : Nat → AV → Option AV
  | _, .int k n => some (.int k n)
  | _, .bool b => some (.bool b)
  | _, .str s => some (.str s)
  | _, .nilp => some .nilp
  | _, .hole => some .hole
  | _, .sl _ sz l => some (mksl sz l)
  | _, .pro cs => some (.pro cs)
  | n + 1, .slref b off len tot => match H[b]? with
    | some .nrow => if len = 0 then some (mksl 0 []) else none
    | some (.row ow e sz els) => if m b (.row ow e sz els) = true ∧ els.length = tot ∧ off + len ≤ tot then (lendEls m H n ((els.drop off).take len)).map (mksl sz) else none
    | _ => none
  | n + 1, .pbox b off => match H[b]? with
      | some (.cells cs) => if m b (.cells cs) = true then (lendCs m H n (cs.drop off)).map .pro else none
      | _ => none
  | n + 1, .prow b i off tot => match H[b]? with
    | some (.row ow e sz els) => if m b (.row ow e sz els) = true ∧ els.length = tot then match els[i]? with
        | some x => if off ≤ x.cells.length then (lendCs m H n (x.cells.drop off)).map .pro else none
        | none => none else none
    | _ => none
  | n + 1, .fn f caps => (lendCs m H n caps).map (.fn f)
  | _, _ => none
def lendCs (m : Nat → Blk → Bool) (H : List Blk) : Nat → List AV → Option (List AV)
  | _, [] => some []
  | n, c :: cs => match lendC m H n c, lendCs m H n cs with
    | some c', some cs' => some (c' :: cs')
    | _, _ => none
def lendEls (m : Nat → Blk → Bool) (H : List Blk) : Nat → List AV → Option (List AV)
  | _, [] => some []
  | n, .agg cs :: es => match lendCs m H n cs, lendEls m H n es with
    | some cs', some es' => some (.agg cs' :: es')
    | _, _ => none
  | n, c :: es => match lendC m H n c, lendEls m H n es with
    | some c', some es' => some (c' :: es')
    | _, _ => none
end
def Blk.frozen : Blk → Bool
  | .row ow .. => !ow
  | _ => false
theorem RepR.repA {a : AV} {v : Value} (r : RepR B w H μ a v) : RepA B w H μ a v := by
  cases a with
  | fn f caps => have r2 := r.2; simp only [RepR0] at r2; exact RepA.of_repC r2
  | _ => exact r
theorem RepC.cells1 {N : Nat → Prop} {a : AV} {v : Value} (h : RepC w N a v) : a.cells = [a] := h.one.2.2
structure Lends (B : Base) (w : World) (H : List Blk) (μ : Mu) (N : Nat → Prop) (m : Nat → Blk → Bool) (n : Nat) : Prop where
  c : ∀ {a a' : AV} {v : Value}, lendC m H n a = some a' → RepA B w H μ a v → RepC w N a' v
  cs : ∀ {as as' : List AV} {us : List Value}, lendCs m H n as = some as' → All2 (RepA B w H μ) as us → All2 (RepC w N) as' us
  els : ∀ {as as' : List AV} {us : List Value}, lendEls m H n as = some as' → All2 (RepA B w H μ) (flat as) us →
    All2 (RepC w N) (flat as') us ∧ as'.length = as.length ∧ ∀ sz, (∀ x ∈ as, x.cells.length = sz) → ∀ x ∈ as', x.cells.length = sz
theorem lends_lists {N : Nat → Prop} {m : Nat → Blk → Bool} {n : Nat} (hc : ∀ {a a' : AV} {v : Value}, lendC m H n a = some a' → RepA B w H μ a v → RepC w N a' v) : Lends B w H μ N m n := by
  have hcs : ∀ {as as' : List AV} {us : List Value}, lendCs m H n as = some as' → All2 (RepA B w H μ) as us → All2 (RepC w N) as' us := by
    intro as
    induction as with
    | nil => intro as' us h r; simp only [lendCs, Option.some.injEq] at h; subst h; cases r; exact .nil
    | cons a as ih =>
      intro as' us h r
      simp only [lendCs] at h
      split at h
      · rename_i c' cs' h1 h2
        simp only [Option.some.injEq] at h; subst h
        cases r with
        | cons r t => exact .cons (hc h1 r) (ih h2 t)
      · cases h
  refine ⟨hc, hcs, ?_⟩
  intro as
  induction as with
  | nil => intro as' us h r; simp only [lendEls, Option.some.injEq] at h; subst h; exact ⟨by simpa [flat] using (by cases r; exact .nil), rfl, by simp⟩
  | cons a as ih =>
    intro as' us h r
    have one : ∀ {x : AV}, (∀ ds, x ≠ .agg ds) → x.cells = [x] := by
      intro x hx; cases x <;> first | rfl | exact absurd rfl (hx _)
    have single : (∀ ds, a ≠ .agg ds) → ∀ {c' : AV} {es' : List AV}, lendC m H n a = some c' → lendEls m H n as = some es' → as' = c' :: es' →
        All2 (RepC w N) (flat as') us ∧ as'.length = (a :: as).length ∧ ∀ sz, (∀ x ∈ a :: as, x.cells.length = sz) → ∀ x ∈ as', x.cells.length = sz := by
      intro ha c' es' h1 h2 he
      subst he
      rw [flat_cons, one ha] at r
      simp only [List.singleton_append] at r
      cases r with
      | cons r t =>
        obtain ⟨k1, k2, k3⟩ := ih h2 t
        have hr := hc h1 r
        refine ⟨by rw [flat_cons, hr.cells1]; exact .cons hr k1, by simp [k2], fun sz hs x hx => ?_⟩
        rcases List.mem_cons.1 hx with rfl | hx
        · rw [hr.cells1, ← hs a (by simp), one ha]; rfl
        · exact k3 sz (fun y hy => hs y (by simp [hy])) x hx
    cases a with
    | agg ds =>
      simp only [lendEls] at h
      split at h
      · rename_i cs' es' h1 h2
        simp only [Option.some.injEq] at h; subst h
        rw [flat_cons] at r
        simp only [AV.cells] at r
        have r1 := r.take ds.length
        have r2 := r.drop ds.length
        simp only [List.take_left, List.drop_left] at r1 r2
        obtain ⟨k1, k2, k3⟩ := ih h2 r2
        have hr := hcs h1 r1
        refine ⟨?_, by simp [k2], fun sz hs x hx => ?_⟩
        · rw [flat_cons]
          simp only [AV.cells]
          have := hr.append k1
          rwa [List.take_append_drop] at this
        · rcases List.mem_cons.1 hx with rfl | hx
          · have h0 := hs (.agg ds) (by simp)
            simp only [AV.cells] at h0 ⊢
            rw [hr.length, ← r1.length, h0]
          · exact k3 sz (fun y hy => hs y (by simp [hy])) x hx
      · cases h
    | _ =>
      simp only [lendEls] at h
      split at h
      · rename_i c' es' h1 h2
        simp only [Option.some.injEq] at h
        exact single (by simp) h1 h2 h.symm
      · cases h
theorem lends (R : Rel B w H μ) {N : Nat → Prop} {m : Nat → Blk → Bool} (hN : ∀ g, Imm B w H μ g → N g)
    (hb : ∀ b k g c, H[b]? = some k → k.live = true → m b k = true → μ b = some (g, c) → N g) : ∀ n, Lends B w H μ N m n := by
  have pureC : ∀ {a : AV} {v : Value}, RepR B w H μ a v → (∀ b o l t, a ≠ .slref b o l t) → (∀ b o, a ≠ .pbox b o) → (∀ b i o t, a ≠ .prow b i o t) → RepC w N a v := by
    intro a v r h1 h2 h3
    have r2 := r.2
    cases a <;> simp only [RepR0] at r2 <;> first | exact r2.mono hN (fun _ _ => rfl) | exact absurd rfl (h1 _ _ _ _) | exact absurd rfl (h2 _ _) | exact absurd rfl (h3 _ _ _ _)
  intro n
  induction n with
  | zero =>
    refine lends_lists fun {a a' v} h r => ?_
    cases a <;> simp only [lendC, Option.some.injEq, reduceCtorEq] at h <;> subst h <;> first | exact pureC r (by simp) (by simp) (by simp) | exact RepC.mksl (pureC r (by simp) (by simp) (by simp))
  | succ n ih =>
    refine lends_lists fun {a a' v} h r => ?_
    cases a with
    | slref b off len tot =>
      simp only [lendC] at h
      have r2 := r.2
      simp only [RepR0] at r2
      cases hk : H[b]? with
      | none => simp [hk] at h
      | some k =>
        cases k with
        | nrow =>
          simp only [hk] at h r2
          split at h
          · simp only [Option.some.injEq] at h; subst h
            rw [r2.2.2.2]
            exact .nilSl (by simp)
          · cases h
        | row ow e sz els =>
          simp only [hk] at h r2
          split at h
          · rename_i hq0
            obtain ⟨hmb, hq⟩ := hq0
            obtain ⟨es', he, hes⟩ := Option.map_eq_some_iff.1 h
            subst hes
            refine RepC.mksl (k := .any) ?_
            obtain ⟨us, h1, h2, h3⟩ := R.elsOf (sz := sz) (x := .slref b off len tot) (v := v) (xs := (els.drop off).take len) r (by simp only [Vm.elsOf, hk]; rw [if_pos ⟨trivial, hq.1, hq.2⟩])
            obtain ⟨k1, k2, k3⟩ := ih.els he h1
            have hlen : ((els.drop off).take len).length = len := by simp; omega
            obtain ⟨_, r4⟩ := r2.2 hq.1
            rcases r4 with ⟨hm, rfl⟩ | ⟨g, cap, ad, c, hm, rfl, ⟨hlc, hcm, hsp⟩, ha, _⟩
            · have he0 : es' = [] := by
                obtain ⟨_, ⟨_, he⟩ | ⟨g, cap, cur, hm', _⟩⟩ := R.blk b _ hk
                · subst he; exact List.eq_nil_of_length_eq_zero (by rw [k2]; simp)
                · rw [hm] at hm'; cases hm'
              subst he0
              exact .nilSl (by simp)
            · have hl' : es'.length = len := by rw [k2, hlen]
              obtain ⟨ag, ao, asp⟩ := ad
              simp only at hsp
              subst hsp
              refine .sl (by simp) hl'.symm (by omega) hcm ?_
              by_cases h0 : len = 0
              · rw [List.eq_nil_of_length_eq_zero (l := es') (by omega)]
                exact .nil
              · have hae := ha (.inr (by omega))
                cases hae
                have hNg : N g := hb b _ g cap hk rfl hmb hm
                refine RepE.of_flat (k3 sz (fun x hx => h2 x hx)) (RepL.of_all g hNg _ k1 fun j u hu => ?_)
                rcases h3 with ⟨h3, _⟩ | ⟨a2, c2, h3, h4⟩
                · cases h3
                · simp only [Value.slice.injEq, Option.some.injEq] at h3
                  obtain ⟨rfl, _, _⟩ := h3
                  have := h4 j u hu
                  rwa [Addr.add_lit] at this
          · cases h
        | _ => simp [hk] at h
    | pbox b off =>
      simp only [lendC] at h
      have r2 := r.2
      simp only [RepR0] at r2
      split at h
      · rename_i cs hk
        split at h
        · rename_i hmb
          obtain ⟨cs', he, hes⟩ := Option.map_eq_some_iff.1 h
          subst hes
          simp only [hk] at r2
          obtain ⟨g, c, hm, rfl⟩ := r2
          obtain ⟨g', c', T, vs, h1, h2, h3⟩ := R.blk b _ hk
          rw [hm] at h1; cases h1
          have hNg : N g := hb b _ g c hk rfl hmb hm
          refine .pro (RepL.of_all g hNg _ (ih.cs he (h3.drop off)) fun j u hu => ?_)
          rw [List.getElem?_drop] at hu
          simp [World.cell?, h2]
          simpa using hu
        · cases h
      · cases h
    | prow b i off tot =>
      simp only [lendC] at h
      have r2 := r.2
      simp only [RepR0] at r2
      split at h
      · rename_i ow e sz els hk
        split at h
        · rename_i htot0
          obtain ⟨hmb, htot⟩ := htot0
          split at h
          · rename_i x hx
            split at h
            case isFalse => cases h
            rename_i hoff
            obtain ⟨cs', he, hes⟩ := Option.map_eq_some_iff.1 h
            subst hes
            obtain ⟨g, o, us, hv, hl, hc, hcell⟩ := R.cellsAt (n := x.cells.length - off) (a := .prow b i off tot) (v := v) (cs := x.cells.drop off) r (by
              simp only [Vm.cellsAt, hk]
              rw [if_pos htot, hx]
              simp only
              rw [if_pos (by omega), List.take_of_length_le (by simp)])
            subst hv
            simp only [hk] at r2
            obtain ⟨_, g2, cap, hm, hv2⟩ := r2.2 htot
            cases hv2
            have hNg : N g := hb b _ g cap hk rfl hmb hm
            exact .pro (RepL.of_all g hNg _ (ih.cs he hc) hcell)
          · cases h
        · cases h
      · cases h
    | fn f caps =>
      simp only [lendC] at h
      obtain ⟨cs', he, hes⟩ := Option.map_eq_some_iff.1 h
      subst hes
      obtain ⟨cs, rfl, hcs⟩ := r
      have : All2 (RepC w N) cs' cs.toList := ih.cs he (hcs.mono fun _ _ => RepR.repA)
      have := RepC.fn (w := w) (N := N) (f := f) (RepVs.bwd this)
      simpa using this
    | _ => simp only [lendC, Option.some.injEq, reduceCtorEq] at h <;> subst h <;> first | exact pureC r (by simp) (by simp) (by simp) | exact RepC.mksl (pureC r (by simp) (by simp) (by simp))
def lend (m : Nat → Blk → Bool) (H : List Blk) : AV → Option AV
  | .agg cs => (lendCs m H 20 cs).map .agg
  | .undef | .tup _ => none
  | a => lendC m H 20 a
def lendAll (m : Nat → Blk → Bool) (H : List Blk) : List AV → Option (List AV)
  | [] => some []
  | a :: as => match lend m H a, lendAll m H as with
    | some a', some as' => some (a' :: as')
    | _, _ => none
theorem lendC_cell {N : Nat → Prop} {a' : AV} {v : Value} (h : RepC w N a' v) : PureV w N a' v := by
  cases h <;> simp only [PureV, PureU] <;> constructor <;> assumption
theorem lend_sound {N : Nat → Prop} {m : Nat → Blk → Bool} (L : ∀ n, Lends B w H μ N m n) {a a' : AV} {v : Value} (h : lend m H a = some a') (r : RepV B w H μ a v) : PureV w N a' v := by
  cases a with
  | agg cs =>
    simp only [lend] at h
    obtain ⟨cs', he, hes⟩ := Option.map_eq_some_iff.1 h
    subst hes
    obtain ⟨vs, rfl, hc⟩ := r
    exact ⟨vs, rfl, (L 20).cs he hc⟩
  | undef => simp [lend] at h
  | tup _ => simp [lend] at h
  | _ => simp only [lend] at h; simp only [RepV, RepU] at r; exact lendC_cell ((L 20).c h r)
theorem lendAll_sound {N : Nat → Prop} {m : Nat → Blk → Bool} (L : ∀ n, Lends B w H μ N m n) : ∀ {as as' : List AV} {vs : List Value}, lendAll m H as = some as' → All2 (RepV B w H μ) as vs → All2 (PureV w N) as' vs
  | [], as', vs, h, r => by simp only [lendAll, Option.some.injEq] at h; subst h; cases r; exact .nil
  | a :: as, as', vs, h, r => by
    simp only [lendAll] at h
    split at h
    · rename_i c' cs' h1 h2
      simp only [Option.some.injEq] at h; subst h
      cases r with
      | cons r t => exact .cons (lend_sound L h1 r) (lendAll_sound L h2 t)
    · cases h
def Blk.freeze : Blk → Blk
  | .row _ e sz els => .row false e sz els
  | k => k
def freezeOn (bs : List Nat) : Nat → List Blk → List Blk
  | _, [] => []
  | i, k :: ks => (if bs.contains i then k.freeze else k) :: freezeOn bs (i + 1) ks
theorem freezeOn_get (bs : List Nat) : ∀ (i : Nat) (H : List Blk) (j : Nat), (freezeOn bs i H)[j]? = H[j]?.map fun k => if bs.contains (i + j) then k.freeze else k
  | i, [], j => by simp [freezeOn]
  | i, k :: ks, 0 => by simp [freezeOn]
  | i, k :: ks, j + 1 => by
    simp only [freezeOn, List.getElem?_cons_succ]
    rw [freezeOn_get bs (i + 1) ks j, show i + 1 + j = i + (j + 1) by omega]
theorem Rel.freezeOn (R : Rel B w H μ) (bs : List Nat) : Rel B w (freezeOn bs 0 H) μ ∧ Ext B w H μ w (Vm.freezeOn bs 0 H) μ := by
  have hget : ∀ (b : Nat) (x : Blk), (Vm.freezeOn bs 0 H)[b]? = some x → ∃ y, H[b]? = some y ∧ (x = y.freeze ∨ x = y) := by
    intro b x hx
    rw [freezeOn_get] at hx
    cases hy : H[b]? with
    | none => simp [hy] at hx
    | some y =>
      refine ⟨y, rfl, ?_⟩
      simp only [hy, Option.map_some, Option.some.injEq] at hx
      subst hx
      split
      · exact .inl rfl
      · exact .inr rfl
  have hlive : ∀ y : Blk, y.freeze.live = y.live := by intro y; cases y <;> rfl
  have hown : ∀ g, Owned (Vm.freezeOn bs 0 H) μ g → Owned H μ g := by
    intro g ho
    obtain ⟨b, c, x, hm, hx, hxo⟩ := owned_iff.1 ho
    obtain ⟨y, hy, hxy⟩ := hget b x hx
    refine owned_iff.2 ⟨b, c, y, hm, hy, ?_⟩
    rcases hxy with rfl | rfl
    · cases y <;> simp_all [Blk.freeze, Blk.owned]
    · exact hxo
  have E : Ext B w H μ w (Vm.freezeOn bs 0 H) μ := by
    refine ⟨fun g hg => ⟨⟨hg.1, hg.2.1, fun h => hg.2.2 (hown g h)⟩, rfl⟩, fun b y hy => ?_⟩
    refine ⟨if bs.contains (0 + b) then y.freeze else y, by rw [freezeOn_get, hy]; rfl, ?_⟩
    split <;> cases y <;> simp [Blk.freeze, Blk.turns]
  refine ⟨⟨R.below, R.n0, fun b x hx => ?_, fun b b' x x' g c c' hx hx' hl hl' hm hm' => ?_, fun b x g c hx hl hm => ?_⟩, E⟩
  · obtain ⟨y, hy, hxy⟩ := hget b x hx
    have := (R.blk b y hy).carry E (fun _ => rfl) fun _ _ _ _ => rfl
    rcases hxy with rfl | rfl
    · cases y <;> exact this
    · exact this
  · obtain ⟨y, hy, hxy⟩ := hget b x hx
    obtain ⟨y', hy', hxy'⟩ := hget b' x' hx'
    refine R.inj b b' y y' g c c' hy hy' ?_ ?_ hm hm'
    · rcases hxy with rfl | rfl
      · rwa [hlive] at hl
      · exact hl
    · rcases hxy' with rfl | rfl
      · rwa [hlive] at hl'
      · exact hl'
  · obtain ⟨y, hy, hxy⟩ := hget b x hx
    refine R.own b y g c hy ?_ hm
    rcases hxy with rfl | rfl
    · rwa [hlive] at hl
    · exact hl
def AV.refs1 : AV → List Nat
  | .slref b .. => [b]
  | .prow b .. => [b]
  | _ => []
def AV.refs : AV → List Nat
  | .agg cs => cs.flatMap AV.refs1
  | .fn _ cs => cs.flatMap AV.refs1
  | a => a.refs1
theorem call_scalar {f : FuncId} {args pargs : List AV} {r : AV} (R : Rel B w H μ) {vs : Array Value} (ha : All2 (RepV B w H μ) args vs.toList) (hl : lendAll (fun _ _ => true) H args = some pargs)
    (ok : Ok P f pargs r) (hs : r.scalar = true) :
    Calls P f vs w fun e w' => ∃ v, e = .returned v ∧ Rel B w' H μ ∧ Ext B w H μ w' H μ ∧ RepV B w' H μ r v := by
  have L := fun n => lends R (N := fun g => g < w.heap.size) (m := fun _ _ => true) (fun g hg => hg.2.1) (fun b k g c hb hk _ hm => (R.blk b k hb).lt hk hm) n
  refine (ok w (fun g => g < w.heap.size) vs (fun _ h => h) (lendAll_sound L hl ha)).mono ?_
  rintro e w' ⟨v, rfl, hbel, hp⟩
  obtain ⟨R', E'⟩ := R.world hbel
  exact ⟨v, rfl, R', E', (scalar_pureV hs hp).repV⟩
theorem call_frozen {f : FuncId} {args pargs : List AV} {r : AV} (R : Rel B w H μ) (bs : List Nat) {vs : Array Value} (ha : All2 (RepV B w H μ) args vs.toList)
    (hl : lendAll (fun _ k => k.frozen) (Vm.freezeOn bs 0 H) args = some pargs) (ok : Ok P f pargs r) :
    Calls P f vs w fun e w' => ∃ v, e = .returned v ∧ Rel B w' (Vm.freezeOn bs 0 H) μ ∧ Ext B w H μ w' (Vm.freezeOn bs 0 H) μ ∧ RepV B w' (Vm.freezeOn bs 0 H) μ r v := by
  obtain ⟨R1, E1⟩ := R.freezeOn bs
  generalize Vm.freezeOn bs 0 H = H1 at *
  have hfr : ∀ b k g c, H1[b]? = some k → k.live = true → k.frozen = true → μ b = some (g, c) → Imm B w H1 μ g := by
    intro b k g c hb hk hn hm
    refine ⟨.inr (R1.own b k g c hb hk hm), (R1.blk b k hb).lt hk hm, fun ho => ?_⟩
    obtain ⟨b', c', k', hm', hb', ho'⟩ := owned_iff.1 ho
    have hbb := R1.inj b b' k k' g c c' hb hb' hk (Blk.live_of_owned ho') hm hm'
    subst hbb
    rw [hb] at hb'; cases hb'
    cases k with
    | row ow e sz els =>
      simp only [Blk.owned] at ho'
      subst ho'
      simp [Blk.frozen] at hn
    | _ => simp [Blk.frozen] at hn
  have L := fun n => lends R1 (N := Imm B w H1 μ) (m := fun _ k => k.frozen) (fun g hg => hg) hfr n
  refine (ok w (Imm B w H1 μ) vs (fun g hg => hg.2.1) (lendAll_sound L hl (ha.mono fun _ _ => RepV.ext E1))).mono ?_
  rintro e w' ⟨v, rfl, hbel, hp⟩
  obtain ⟨R', E'⟩ := R1.world hbel
  refine ⟨v, rfl, R', E1.trans E', PureV.repV ?_⟩
  refine hp.mono (fun g hg => ?_) (fun _ _ => rfl)
  rcases hg with hg | ⟨hg1, hg2⟩
  · exact (E'.imm g hg).1
  · refine ⟨.inr (Nat.le_trans R.size hg1), hg2, fun ho => ?_⟩
    obtain ⟨b', c', k', hm', hb', ho'⟩ := owned_iff.1 ho
    have := (R1.blk b' k' hb').lt (Blk.live_of_owned ho') hm'
    omega
theorem call_pure {f : FuncId} {args : List AV} {r : AV} (R : Rel B w H μ) {vs : Array Value} (ha : All2 (PureV w (Imm B w H μ)) args vs.toList) (ok : Ok P f args r) :
    Calls P f vs w fun e w' => ∃ v, e = .returned v ∧ Rel B w' H μ ∧ Ext B w H μ w' H μ ∧ RepV B w' H μ r v := by
  refine (ok w (Imm B w H μ) vs (fun g hg => hg.2.1) ha).mono ?_
  rintro e w' ⟨v, rfl, hbel, hp⟩
  obtain ⟨R', E'⟩ := R.world hbel
  refine ⟨v, rfl, R', E', PureV.repV ?_⟩
  refine hp.mono (fun g hg => ?_) (fun _ _ => rfl)
  rcases hg with hg | ⟨hg1, hg2⟩
  · exact (E'.imm g hg).1
  · refine ⟨.inr (Nat.le_trans R.size hg1), hg2, fun ho => ?_⟩
    obtain ⟨b', c', k', hm', hb', ho'⟩ := owned_iff.1 ho
    have := (R.blk b' k' hb').lt (Blk.live_of_owned ho') hm'
    omega
theorem pureL_mem : ∀ {cs : List AV}, pureL cs = true → ∀ c ∈ cs, c.pure = true
  | [], _, c, hc => by simp at hc
  | a :: as, h, c, hc => by
    simp only [pureL, Bool.and_eq_true] at h
    rcases List.mem_cons.1 hc with rfl | hc
    · exact h.1
    · exact pureL_mem h.2 c hc
end
end Go.Vm
namespace Go.Vm
open Go.RowKit
def belowR (n : Nat) : AV → Bool
  | .slref b .. => decide (b < n)
  | .pbox b _ => decide (b < n)
  | .prow b .. => decide (b < n)
  | _ => true
def belowC (n : Nat) : AV → Bool
  | .fn _ caps => caps.all (belowR n)
  | a => belowR n a
def belowE (n : Nat) : AV → Bool
  | .agg cs => cs.all (belowC n)
  | a => belowC n a
def belowEls (n : Nat) (els : List AV) : Bool := els.all (belowE n)
def SlC (n : Nat) (H : List Blk) (c c' : AV) : Prop := c' = .hole ∨ (c' = c ∧ belowC n c = true) ∨ lendC (fun b _ => decide (n ≤ b)) H 20 c = some c'
def SlE (n : Nat) (H : List Blk) : AV → AV → Prop
  | .agg cs, .agg cs' => All2 (SlC n H) cs cs'
  | .agg _, _ => False
  | _, .agg _ => False
  | x, x' => SlC n H x x'
def SlV (n : Nat) (H : List Blk) : AV → AV → Prop
  | _, .undef => True
  | .agg cs, .agg cs' => All2 (SlC n H) cs cs'
  | .agg _, _ => False
  | _, .agg _ => False
  | .undef, _ => False
  | .tup _, _ => False
  | x, x' => SlC n H x x'
def SlB (n : Nat) (H : List Blk) : Blk → Blk → Prop
  | _, .dead => True
  | .nrow, .nrow => True
  | .void, .void => True
  | .cells cs, .cells cs' => All2 (SlC n H) cs cs'
  | .row ow e sz els, .row ow' e' sz' els' => (ow' = true → ow = true) ∧ e' = e ∧ sz' = sz ∧ ((els' = els ∧ belowEls n els = true) ∨ All2 (SlE n H) els els')
  | _, _ => False
section
variable {P : Program} {B : Base} {w w' : World} {H H' H2 : List Blk} {μ μ' : Mu} {n n0 : Nat}
theorem SlB.live {k k' : Blk} (h : SlB n H k k') (hl : k'.live = true) : k.live = true := by
  cases k <;> cases k' <;> simp_all [SlB, Blk.live]
theorem SlB.owned {k k' : Blk} (h : SlB n H k k') (hl : k'.owned = true) : k.owned = true := by
  cases k <;> cases k' <;> simp_all [SlB, Blk.owned]
structure Sealed (n : Nat) (B : Base) (w : World) (H H' : List Blk) (μ : Mu) : Prop where
  get : ∀ b k, b < n → H[b]? = some k → ∃ k', H'[b]? = some k' ∧ SlB n H k k'
  back : ∀ b k', H'[b]? = some k' → b < n ∧ ∃ k, H[b]? = some k ∧ SlB n H k k'
theorem Sealed.imm (Z : Sealed n B w H H' μ) {g : Nat} (h : Imm B w H μ g) : Imm B w H' μ g := by
  refine ⟨h.1, h.2.1, fun ho => h.2.2 ?_⟩
  obtain ⟨b, c, k', hm, hb, hk⟩ := owned_iff.1 ho
  obtain ⟨_, k, hb', hs⟩ := Z.back b k' hb
  exact owned_iff.2 ⟨b, c, k, hm, hb', hs.owned hk⟩
theorem Sealed.lends (R : Rel B w H μ) (Z : Sealed n B w H H' μ) (d : Nat) : Lends B w H μ (Imm B w H' μ) (fun b _ => decide (n ≤ b)) d :=
  Vm.lends R (fun g hg => Z.imm hg) (fun b k g c hb hk hn hm => by
    refine ⟨.inr (R.own b k g c hb hk hm), (R.blk b k hb).lt hk hm, fun ho => ?_⟩
    obtain ⟨b', c', k', hm', hb', ho'⟩ := owned_iff.1 ho
    obtain ⟨hlt, k2, hb2, hs⟩ := Z.back b' k' hb'
    have := R.inj b b' k k2 g c c' hb hb2 hk (hs.live (Blk.live_of_owned ho')) hm hm'
    subst this
    simp only [decide_eq_true_eq] at hn
    omega) d
theorem SlB.row_len {ow e sz els ow' e' sz' els'} (h : SlB n H (.row ow e sz els) (.row ow' e' sz' els')) : els'.length = els.length := by
  obtain ⟨_, _, _, h | h⟩ := h
  · rw [h.1]
  · exact h.length.symm
theorem Sealed.keepR (Z : Sealed n B w H H' μ) {a : AV} {v : Value} (hb : belowR n a = true) (r : RepR B w H μ a v) : RepR B w H' μ a v := by
  refine ⟨r.1, ?_⟩
  have r2 := r.2
  cases a with
  | slref b off len tot =>
    simp only [belowR, decide_eq_true_eq] at hb
    simp only [RepR0] at r2 ⊢
    cases hk : H[b]? with
    | none => simp [hk] at r2
    | some k =>
      obtain ⟨k', hk', hs⟩ := Z.get b k hb hk
      simp only [hk, hk'] at r2 ⊢
      cases k <;> cases k' <;> first | trivial | exact hs.elim | exact r2 | (simp only at r2 ⊢; rw [SlB.row_len hs]; obtain ⟨_, _, hsz, _⟩ := hs; subst hsz; exact r2) | exact r2.elim
  | pbox b off =>
    simp only [belowR, decide_eq_true_eq] at hb
    simp only [RepR0] at r2 ⊢
    cases hk : H[b]? with
    | none => simp [hk] at r2
    | some k =>
      obtain ⟨k', hk', hs⟩ := Z.get b k hb hk
      simp only [hk, hk'] at r2 ⊢
      cases k <;> cases k' <;> first | trivial | exact hs.elim | exact r2 | exact r2.elim
  | prow b i off tot =>
    simp only [belowR, decide_eq_true_eq] at hb
    simp only [RepR0] at r2 ⊢
    cases hk : H[b]? with
    | none => simp [hk] at r2
    | some k =>
      obtain ⟨k', hk', hs⟩ := Z.get b k hb hk
      simp only [hk, hk'] at r2 ⊢
      cases k <;> cases k' <;> first | trivial | exact hs.elim | exact r2 | (simp only at r2 ⊢; rw [SlB.row_len hs]; obtain ⟨_, _, hsz, _⟩ := hs; subst hsz; exact r2) | exact r2.elim
  | _ => simp only [RepR0] at r2 ⊢; exact r2.mono (fun g hg => Z.imm hg) (fun _ _ => rfl)
theorem Sealed.keepA (Z : Sealed n B w H H' μ) {a : AV} {v : Value} (hb : belowC n a = true) (r : RepA B w H μ a v) : RepA B w H' μ a v := by
  cases a with
  | fn f caps =>
    obtain ⟨cs, rfl, hc⟩ := r
    simp only [belowC, List.all_eq_true] at hb
    exact ⟨cs, rfl, hc.mono_mem fun a ha b hab => Z.keepR (hb a ha) hab⟩
  | _ => exact Z.keepR hb r
theorem Sealed.c (R : Rel B w H μ) (Z : Sealed n B w H H' μ) {a a' : AV} {v : Value} (h : SlC n H a a') (r : RepA B w H μ a v) : RepA B w H' μ a' v := by
  rcases h with rfl | ⟨rfl, hb⟩ | h
  · exact RepA.of_repC (.hole r.one)
  · exact Z.keepA hb r
  · exact RepA.of_repC ((Z.lends R 20).c h r)
theorem Sealed.cs (R : Rel B w H μ) (Z : Sealed n B w H H' μ) : ∀ {as as' : List AV} {vs : List Value}, All2 (SlC n H) as as' → All2 (RepA B w H μ) as vs → All2 (RepA B w H' μ) as' vs
  | _, _, _, .nil, .nil => .nil
  | _, _, _, .cons h t, .cons r u => .cons (Z.c R h r) (Sealed.cs R Z t u)
theorem SlC.cells {a a' : AV} {v : Value} (R : Rel B w H μ) (Z : Sealed n B w H H' μ) (h : SlC n H a a') (r : RepA B w H μ a v) : a'.cells = [a'] := (Z.c R h r).cells1
theorem Sealed.els (R : Rel B w H μ) (Z : Sealed n B w H H' μ) {sz : Nat} : ∀ {as as' : List AV} {vs : List Value}, All2 (SlE n H) as as' → (∀ x ∈ as, x.cells.length = sz) → All2 (RepA B w H μ) (flat as) vs →
    All2 (RepA B w H' μ) (flat as') vs ∧ ∀ x ∈ as', x.cells.length = sz := by
  intro as as' vs h
  induction h generalizing vs with
  | nil => intro _ r; cases r; exact ⟨.nil, by simp⟩
  | @cons a a' as as' h t ih =>
    intro hsz r
    have one : (∀ ds, a ≠ .agg ds) → (∀ ds, a' ≠ .agg ds) → SlC n H a a' → All2 (RepA B w H' μ) (flat (a' :: as')) vs ∧ ∀ x ∈ a' :: as', x.cells.length = sz := by
      intro h1 h2 hs
      have hca : a.cells = [a] := by cases a <;> first | rfl | exact absurd rfl (h1 _)
      have hca' : a'.cells = [a'] := by cases a' <;> first | rfl | exact absurd rfl (h2 _)
      have h0 := hsz a (by simp)
      rw [hca] at h0
      rw [flat_cons, hca] at r
      cases r with
      | cons r u =>
        obtain ⟨k1, k2⟩ := ih (fun x hx => hsz x (by simp [hx])) u
        refine ⟨by rw [flat_cons, hca']; exact .cons (Z.c R hs r) k1, fun x hx => ?_⟩
        rcases List.mem_cons.1 hx with rfl | hx
        · rw [hca']; simpa using h0
        · exact k2 x hx
    cases a with
    | agg cs =>
      cases a' with
      | agg cs' =>
        simp only [SlE] at h
        rw [flat_cons] at r
        simp only [AV.cells] at r
        have r1 := r.take cs.length
        have r2 := r.drop cs.length
        simp only [List.take_left, List.drop_left] at r1 r2
        obtain ⟨k1, k2⟩ := ih (fun x hx => hsz x (by simp [hx])) r2
        refine ⟨?_, fun x hx => ?_⟩
        · rw [flat_cons]
          simp only [AV.cells]
          have := (Z.cs R h r1).append k1
          rwa [List.take_append_drop] at this
        · rcases List.mem_cons.1 hx with rfl | hx
          · have h0 := hsz (.agg cs) (by simp)
            simp only [AV.cells] at h0 ⊢
            rw [← h.length, h0]
          · exact k2 x hx
      | _ => exact h.elim
    | _ =>
      cases a' with
      | agg cs' => exact h.elim
      | _ => exact one (by simp) (by simp) h
theorem belowE_flat {x : AV} (h : belowE n x = true) : ∀ c ∈ x.cells, belowC n c = true := by
  cases x with
  | agg cs => simpa [belowE, AV.cells] using h
  | _ => simpa [belowE, AV.cells] using h
theorem Sealed.blk (R : Rel B w H μ) (Z : Sealed n B w H H' μ) {b : Nat} {k k' : Blk} (h : SlB n H k k') (r : BlkOk B w H μ b k) : BlkOk B w H' μ b k' := by
  cases k' with
  | void => trivial
  | dead => trivial
  | nrow => trivial
  | cells cs' =>
    cases k with
    | cells cs =>
      obtain ⟨g, c, T, vs, h1, h2, h3⟩ := r
      exact ⟨g, c, T, vs, h1, h2, Z.cs R h h3⟩
    | _ => exact h.elim
  | row ow' e' sz' els' =>
    cases k with
    | row ow e sz els =>
      obtain ⟨_, rfl, rfl, h⟩ := h
      obtain ⟨r1, r2⟩ := r
      have hlen : els'.length = els.length := by
        rcases h with h | h
        · rw [h.1]
        · exact h.length.symm
      have conv : ∀ {vs : List Value}, All2 (RepA B w H μ) (flat els) vs → All2 (RepA B w H' μ) (flat els') vs ∧ ∀ x ∈ els', x.cells.length = sz' := by
        intro vs hv
        rcases h with ⟨rfl, hbl⟩ | h
        · refine ⟨hv.mono_mem fun c hc v hcv => ?_, r1⟩
          unfold flat at hc
          obtain ⟨x, hx, hcx⟩ := List.mem_flatMap.1 hc
          unfold belowEls at hbl
          exact Z.keepA (belowE_flat (List.all_eq_true.1 hbl x hx) c hcx) hcv
        · exact Z.els R h r1 hv
      rcases r2 with ⟨hm, he⟩ | ⟨g, cap, cur, h1, h2, h3, h4, h5, h6⟩
      · have he' : els' = [] := List.eq_nil_of_length_eq_zero (by rw [hlen, he]; rfl)
        exact ⟨by simp [he'], .inl ⟨hm, he'⟩⟩
      · obtain ⟨c1, c2⟩ := conv h6
        exact ⟨c2, .inr ⟨g, cap, cur, h1, h2, by omega, h4, h5, by rw [hlen]; exact c1⟩⟩
    | _ => exact h.elim
theorem Sealed.v (R : Rel B w H μ) (Z : Sealed n B w H H' μ) {a a' : AV} {v : Value} (h : SlV n H a a') (r : RepV B w H μ a v) : RepV B w H' μ a' v := by
  have key : ∀ {a a' : AV}, SlC n H a a' → RepA B w H μ a v → (∀ xs, a' ≠ .tup xs) → (∀ xs, a' ≠ .agg xs) → RepV B w H' μ a' v := by
    intro a a' h r h1 h2
    have := Z.c R h r
    cases a' with
    | tup xs => exact absurd rfl (h1 xs)
    | agg xs => exact absurd rfl (h2 xs)
    | undef => trivial
    | _ => exact this
  cases a' with
  | undef => trivial
  | agg cs' =>
    cases a with
    | agg cs => obtain ⟨vs, rfl, hc⟩ := r; exact ⟨vs, rfl, Z.cs R h hc⟩
    | _ => exact h.elim
  | tup xs =>
    cases a with
    | agg _ => exact h.elim
    | undef => exact h.elim
    | tup _ => exact h.elim
    | _ =>
      have h' : SlC n H _ _ := h
      rcases h' with h' | ⟨h', _⟩ | h'
      · cases h'
      · cases h'
      · have := (Z.lends R 20).c h' r
        cases this
  | _ =>
    cases a with
    | agg _ => exact h.elim
    | undef => exact h.elim
    | tup _ => exact h.elim
    | _ => exact key h r (by simp) (by simp)
theorem below_R {a : AV} {v : Value} (r : RepR B w H μ a v) : belowR H.length a = true := by
  have r2 := r.2
  cases a with
  | slref b off len tot =>
    simp only [RepR0] at r2
    simp only [belowR, decide_eq_true_eq]
    rcases Nat.lt_or_ge b H.length with h | h
    · exact h
    · rw [List.getElem?_eq_none h] at r2; exact r2.elim
  | pbox b off =>
    simp only [RepR0] at r2
    simp only [belowR, decide_eq_true_eq]
    rcases Nat.lt_or_ge b H.length with h | h
    · exact h
    · rw [List.getElem?_eq_none h] at r2; exact r2.elim
  | prow b i off tot =>
    simp only [RepR0] at r2
    simp only [belowR, decide_eq_true_eq]
    rcases Nat.lt_or_ge b H.length with h | h
    · exact h
    · rw [List.getElem?_eq_none h] at r2; exact r2.elim
  | _ => rfl
theorem below_A {a : AV} {v : Value} (r : RepA B w H μ a v) : belowC H.length a = true := by
  cases a with
  | fn f caps =>
    obtain ⟨cs, rfl, hc⟩ := r
    simp only [belowC, List.all_eq_true]
    intro x hx
    obtain ⟨i, hi, rfl⟩ := List.mem_iff_getElem.1 hx
    obtain ⟨u, _, hu⟩ := hc.get (List.getElem?_eq_getElem hi)
    exact below_R hu
  | _ => exact below_R r
theorem below_As {as : List AV} {us : List Value} (h : All2 (RepA B w H μ) as us) : ∀ c ∈ as, belowC H.length c = true := by
  intro c hc
  obtain ⟨i, hi, rfl⟩ := List.mem_iff_getElem.1 hc
  obtain ⟨u, _, hu⟩ := h.get (List.getElem?_eq_getElem hi)
  exact below_A hu
theorem all2_self {α : Type} {S : α → α → Prop} : ∀ {l : List α}, (∀ x ∈ l, S x x) → All2 S l l
  | [], _ => .nil
  | x :: l, h => .cons (h x (by simp)) (all2_self fun y hy => h y (by simp [hy]))
theorem below_blk {H2 : List Blk} {b : Nat} {k : Blk} (r : BlkOk B w H μ b k) : SlB H.length H2 k k := by
  cases k with
  | void => trivial
  | dead => trivial
  | nrow => trivial
  | cells cs =>
    obtain ⟨g, c, T, vs, h1, h2, h3⟩ := r
    exact all2_self fun x hx => .inr (.inl ⟨rfl, below_As h3 x hx⟩)
  | row ow e sz els =>
    refine ⟨fun h => h, rfl, rfl, .inl ⟨rfl, ?_⟩⟩
    obtain ⟨_, ⟨_, rfl⟩ | ⟨g, cap, cur, h1, h2, h3, h4, h5, h6⟩⟩ := r
    · rfl
    · simp only [belowEls, List.all_eq_true]
      intro x hx
      have hx' : ∀ c ∈ x.cells, belowC H.length c = true := fun c hc => below_As h6 c (by unfold flat; exact List.mem_flatMap.2 ⟨x, hx, hc⟩)
      cases x with
      | agg cs => simpa [belowE, AV.cells] using hx'
      | _ => simpa [belowE, AV.cells] using hx'
theorem seal_new {w0 : World} {μ0 : Mu} {H2 : List Blk} (R0 : Rel B w0 H μ0) (ht : H2.take H.length = H) : Sealed H.length B w H2 H μ := by
  have hg : ∀ b, b < H.length → H2[b]? = H[b]? := fun b hb => by
    have := congrArg (fun l => l[b]?) ht
    simpa [List.getElem?_take, hb] using this
  constructor
  · intro b k hb hk
    rw [hg b hb] at hk
    exact ⟨k, hk, below_blk (R0.blk b k hk)⟩
  · intro b k' hk'
    have hb := (List.getElem?_eq_some_iff.1 hk').1
    exact ⟨hb, k', by rw [hg b hb]; exact hk', below_blk (R0.blk b k' hk')⟩
theorem Sealed.rel (Z : Sealed n B w H H' μ) (R : Rel B w H μ) : Rel B w H' μ := by
  refine ⟨R.below, R.n0, fun b k' hk' => ?_, fun b b' k k' g c c' hb hb' hk hk' hm hm' => ?_, fun b k g c hb hk hm => ?_⟩
  · obtain ⟨_, k, hk, hs⟩ := Z.back b k' hk'
    exact Z.blk R hs (R.blk b k hk)
  · obtain ⟨_, k1, h1, s1⟩ := Z.back b k hb
    obtain ⟨_, k2, h2, s2⟩ := Z.back b' k' hb'
    exact R.inj b b' k1 k2 g c c' h1 h2 (s1.live hk) (s2.live hk') hm hm'
  · obtain ⟨_, k1, h1, s1⟩ := Z.back b k hb
    exact R.own b k1 g c h1 (s1.live hk) hm
end
def newer (n : Nat) : Nat → Blk → Bool := fun b _ => decide (n ≤ b)
section
variable {P : Program} {B : Base} {w w' : World} {H H' : List Blk} {μ μ' : Mu}
theorem fresh_told {v a' : AV} {val : Value} (R0 : Rel B w H μ) (R : Rel B w' H' μ') (E : Ext B w H μ w' H' μ') (hv : RepV B w' H' μ' v val) (ht : H'.take H.length = H) (hl : lend (newer H.length) H' v = some a') :
    Rel B w' H μ' ∧ Ext B w H μ w' H μ' ∧ RepV B w' H μ' a' val := by
  have Z : Sealed H.length B w' H' H μ' := seal_new R0 ht
  refine ⟨Z.rel R, ⟨fun g hg => ?_, fun b k hk => ?_⟩, ?_⟩
  · obtain ⟨h1, h2⟩ := E.imm g hg
    exact ⟨Z.imm h1, h2⟩
  · have hb := (List.getElem?_eq_some_iff.1 hk).1
    obtain ⟨k', hk', htn⟩ := E.blk b k hk
    have : H'[b]? = H[b]? := by
      have := congrArg (fun l => l[b]?) ht
      simpa [List.getElem?_take, hb] using this
    rw [this, hk] at hk'
    cases hk'
    exact ⟨k, hk, htn⟩
  · exact (lend_sound (m := newer H.length) (fun d => Z.lends R d) hl hv).repV
end
end Go.Vm
namespace Go.Vm
open Go.RowKit
def offR (p : Nat) : AV → Bool
  | .slref b .. => b != p
  | .pbox b _ => b != p
  | .prow b .. => b != p
  | _ => true
def offC (p : Nat) : AV → Bool
  | .fn _ caps => caps.all (offR p)
  | a => offR p a
def offE (p : Nat) : AV → Bool
  | .agg cs => cs.all (offC p)
  | a => offC p a
def offB (p : Nat) : Blk → Bool
  | .cells cs => cs.all (offC p)
  | .row _ _ _ els => els.all (offE p)
  | _ => true
theorem offR_below {p : Nat} {a : AV} (h : belowR p a = true) : offR p a = true := by
  cases a <;> simp_all [belowR, offR] <;> omega
theorem offC_below {p : Nat} {a : AV} (h : belowC p a = true) : offC p a = true := by
  cases a with
  | fn f caps =>
    simp only [belowC, offC, List.all_eq_true] at h ⊢
    exact fun x hx => offR_below (h x hx)
  | _ => simp only [belowC, offC] at h ⊢; exact offR_below h
theorem offE_cells {p : Nat} {x : AV} (h : offE p x = true) : ∀ c ∈ x.cells, offC p c = true := by
  cases x with
  | agg cs => simpa [offE, AV.cells] using h
  | _ => simpa [offE, AV.cells] using h
section
variable {P : Program} {B : Base} {w w' : World} {H H' : List Blk} {μ μ' : Mu}
theorem offR_void {p : Nat} (hp : H[p]? = some .void) {a : AV} {v : Value} (r : RepR B w H μ a v) : offR p a = true := by
  have r2 := r.2
  cases a with
  | slref b off len tot =>
    simp only [offR, bne_iff_ne, ne_eq]
    rintro rfl
    simp [RepR0, hp] at r2
  | pbox b off =>
    simp only [offR, bne_iff_ne, ne_eq]
    rintro rfl
    simp [RepR0, hp] at r2
  | prow b i off tot =>
    simp only [offR, bne_iff_ne, ne_eq]
    rintro rfl
    simp [RepR0, hp] at r2
  | _ => rfl
theorem offC_void {p : Nat} (hp : H[p]? = some .void) {a : AV} {v : Value} (r : RepA B w H μ a v) : offC p a = true := by
  cases a with
  | fn f caps =>
    obtain ⟨cs, rfl, hc⟩ := r
    simp only [offC, List.all_eq_true]
    intro x hx
    obtain ⟨i, hi, rfl⟩ := List.mem_iff_getElem.1 hx
    obtain ⟨u, _, hu⟩ := hc.get (List.getElem?_eq_getElem hi)
    exact offR_void hp hu
  | _ => simp only [RepA] at r; simp only [offC]; exact offR_void hp r
theorem offCs_void {p : Nat} (hp : H[p]? = some .void) {as : List AV} {us : List Value} (h : All2 (RepA B w H μ) as us) : ∀ c ∈ as, offC p c = true := by
  intro c hc
  obtain ⟨i, hi, rfl⟩ := List.mem_iff_getElem.1 hc
  obtain ⟨u, _, hu⟩ := h.get (List.getElem?_eq_getElem hi)
  exact offC_void hp hu
structure Moved (q n : Nat) (k : Blk) (H1 H2 : List Blk) (μ1 μ2 : Mu) : Prop where
  get : ∀ b, b ≠ q → b ≠ n → H2[b]? = H1[b]?
  mu : ∀ b, b ≠ q → b ≠ n → μ2 b = μ1 b
  at1 : H1[n]? = some k
  at2 : H2[q]? = some k
  muq : μ2 q = μ1 n
  non : H2[n]? = none
  old : ∀ g, Owned H2 μ2 g → Owned H1 μ1 g
variable {q n : Nat} {k : Blk} {H1 H2 : List Blk} {μ1 μ2 : Mu}
theorem Moved.repC (Y : Moved q n k H1 H2 μ1 μ2) {a : AV} {v : Value} (r : RepC w (Imm B w H1 μ1) a v) : RepC w (Imm B w H2 μ2) a v :=
  r.mono (fun _ hg => ⟨hg.1, hg.2.1, fun h => hg.2.2 (Y.old _ h)⟩) (fun _ _ => rfl)
theorem Moved.repR (Y : Moved q n k H1 H2 μ1 μ2) {a : AV} {v : Value} (hm : offR q a = true) (hn : offR n a = true) (r : RepR B w H1 μ1 a v) : RepR B w H2 μ2 a v := by
  refine ⟨r.1, ?_⟩
  have r2 := r.2
  cases a with
  | slref b off len tot =>
    have hb : b ≠ q := by simpa [offR] using hm
    have hb2 : b ≠ n := by simpa [offR] using hn
    simp only [RepR0] at r2 ⊢
    rw [Y.get b hb hb2, Y.mu b hb hb2]
    exact r2
  | pbox b off =>
    have hb : b ≠ q := by simpa [offR] using hm
    have hb2 : b ≠ n := by simpa [offR] using hn
    simp only [RepR0] at r2 ⊢
    rw [Y.get b hb hb2, Y.mu b hb hb2]
    exact r2
  | prow b i off tot =>
    have hb : b ≠ q := by simpa [offR] using hm
    have hb2 : b ≠ n := by simpa [offR] using hn
    simp only [RepR0] at r2 ⊢
    rw [Y.get b hb hb2, Y.mu b hb hb2]
    exact r2
  | _ => simp only [RepR0] at r2 ⊢; exact Y.repC r2
theorem Moved.repA (Y : Moved q n k H1 H2 μ1 μ2) {a : AV} {v : Value} (hm : offC q a = true) (hn : offC n a = true) (r : RepA B w H1 μ1 a v) : RepA B w H2 μ2 a v := by
  cases a with
  | fn f caps =>
    obtain ⟨cs, rfl, hc⟩ := r
    simp only [offC, List.all_eq_true] at hm hn
    exact ⟨cs, rfl, hc.mono_mem fun c hcm b hcb => Y.repR (hm c hcm) (hn c hcm) hcb⟩
  | _ => simp only [RepA] at r ⊢; simp only [offC] at hm hn; exact Y.repR hm hn r
theorem Moved.blk (Y : Moved q n k H1 H2 μ1 μ2) {b b' : Nat} {x : Blk} (hb : μ2 b' = μ1 b) (hm : offB q x = true) (hn : offB n x = true) (r : BlkOk B w H1 μ1 b x) : BlkOk B w H2 μ2 b' x := by
  cases x with
  | void => trivial
  | dead => trivial
  | nrow => trivial
  | cells cs =>
    obtain ⟨g, c, T, vs, h1, h2, h3⟩ := r
    simp only [offB, List.all_eq_true] at hm hn
    exact ⟨g, c, T, vs, hb.trans h1, h2, h3.mono_mem fun x hx _ h => Y.repA (hm x hx) (hn x hx) h⟩
  | row ow e sz els =>
    obtain ⟨h0, h1⟩ := r
    simp only [offB, List.all_eq_true] at hm hn
    refine ⟨h0, ?_⟩
    rcases h1 with ⟨h1, h2⟩ | ⟨g, cap, cur, h1, h2, h3, h4, h5, h6⟩
    · exact .inl ⟨hb.trans h1, h2⟩
    · refine .inr ⟨g, cap, cur, hb.trans h1, h2, h3, h4, h5, h6.mono_mem fun x hx _ h => ?_⟩
      simp only [flat, List.mem_flatMap] at hx
      obtain ⟨y, hy, hx⟩ := hx
      exact Y.repA (offE_cells (hm y hy) x hx) (offE_cells (hn y hy) x hx) h
theorem Rel.offB_void (R : Rel B w H μ) {p : Nat} (hp : H[p]? = some .void) {b : Nat} {x : Blk} (hx : H[b]? = some x) : offB p x = true := by
  have hb := R.blk b x hx
  cases x with
  | void => rfl
  | dead => rfl
  | nrow => rfl
  | cells cs =>
    obtain ⟨g, c, T, vs, -, -, h3⟩ := hb
    simp only [offB, List.all_eq_true]
    exact offCs_void hp h3
  | row ow e sz els =>
    simp only [offB, List.all_eq_true]
    intro y hy
    obtain ⟨_, ⟨_, rfl⟩ | ⟨g, cap, cur, -, -, -, -, -, h6⟩⟩ := hb
    · cases hy
    · have hc : ∀ c ∈ y.cells, offC p c = true := fun c hc => offCs_void hp h6 c (by unfold flat; exact List.mem_flatMap.2 ⟨y, hy, hc⟩)
      cases y with
      | agg cs => simpa [offE, AV.cells] using hc
      | _ => simpa [offE, AV.cells] using hc
theorem Rel.offB_len (R : Rel B w H μ) {b : Nat} {x : Blk} (hx : H[b]? = some x) : offB H.length x = true := by
  have hb := R.blk b x hx
  cases x with
  | void => rfl
  | dead => rfl
  | nrow => rfl
  | cells cs =>
    obtain ⟨g, c, T, vs, -, -, h3⟩ := hb
    simp only [offB, List.all_eq_true]
    exact fun x hx => offC_below (below_As h3 x hx)
  | row ow e sz els =>
    simp only [offB, List.all_eq_true]
    intro y hy
    obtain ⟨_, ⟨_, rfl⟩ | ⟨g, cap, cur, -, -, -, -, -, h6⟩⟩ := hb
    · cases hy
    · have hc : ∀ c ∈ y.cells, offC H.length c = true := fun c hc => offC_below (below_As h6 c (by unfold flat; exact List.mem_flatMap.2 ⟨y, hy, hc⟩))
      cases y with
      | agg cs => simpa [offE, AV.cells] using hc
      | _ => simpa [offE, AV.cells] using hc
theorem Rel.moved (R : Rel B w H μ) {μ1 : Mu} {k : Blk} (R1 : Rel B w' (H ++ [k]) μ1) (E : Ext B w H μ w' (H ++ [k]) μ1) {q : Nat} (hq : H[q]? = some .void) (hk : offB q k = true) (hk2 : offB H.length k = true) :
    ∃ μ2, Rel B w' (H.set q k) μ2 ∧ Ext B w H μ w' (H.set q k) μ2 ∧ Moved q H.length k (H ++ [k]) (H.set q k) μ1 μ2 := by
  have hlt : q < H.length := (List.getElem?_eq_some_iff.1 hq).1
  let μ2 : Mu := fun b => if b = q then μ1 H.length else μ1 b
  have hat1 : (H ++ [k])[H.length]? = some k := by simp
  have hat2 : (H.set q k)[q]? = some k := by simp [hlt]
  have hget : ∀ b, b ≠ q → b ≠ H.length → (H.set q k)[b]? = (H ++ [k])[b]? := by
    intro b hb hb2
    rw [List.getElem?_set_ne (Ne.symm hb)]
    rcases Nat.lt_or_ge b H.length with h | h
    · rw [List.getElem?_append_left h]
    · rw [List.getElem?_append_right h, List.getElem?_eq_none (by omega)]
      have : b - H.length ≠ 0 := by omega
      cases hz : b - H.length with
      | zero => exact absurd hz this
      | succ m => simp
  have hnon : (H.set q k)[H.length]? = none := List.getElem?_eq_none (by simp)
  have hback : ∀ b x, (H.set q k)[b]? = some x → (b = q ∧ x = k) ∨ (b ≠ q ∧ b ≠ H.length ∧ H[b]? = some x ∧ (H ++ [k])[b]? = some x) := by
    intro b x hx
    by_cases e : b = q
    · subst e; rw [hat2] at hx; cases hx; exact .inl ⟨rfl, rfl⟩
    · rw [List.getElem?_set_ne (Ne.symm e)] at hx
      have hl := (List.getElem?_eq_some_iff.1 hx).1
      exact .inr ⟨e, by omega, hx, by rw [List.getElem?_append_left hl]; exact hx⟩
  have hold : ∀ g, Owned (H.set q k) μ2 g → Owned (H ++ [k]) μ1 g := by
    intro g ho
    obtain ⟨b, c, x, hm, hx, hxo⟩ := owned_iff.1 ho
    rcases hback b x hx with ⟨rfl, rfl⟩ | ⟨e, e2, -, hx1⟩
    · simp only [μ2, if_true] at hm
      exact owned_iff.2 ⟨_, c, _, hm, hat1, hxo⟩
    · simp only [μ2, if_neg e] at hm
      exact owned_iff.2 ⟨b, c, x, hm, hx1, hxo⟩
  have Y : Moved q H.length k (H ++ [k]) (H.set q k) μ1 μ2 := ⟨hget, fun b hb _ => by simp only [μ2, if_neg hb], hat1, hat2, by simp only [μ2, if_true], hnon, hold⟩
  refine ⟨μ2, ⟨R1.below, R1.n0, fun b x hx => ?_, fun b b' x x' g c c' hx hx' hl hl' h1 h2 => ?_, fun b x g c hx hl h1 => ?_⟩, ⟨fun g hg => ?_, fun b x hx => ?_⟩, Y⟩
  · rcases hback b x hx with ⟨rfl, rfl⟩ | ⟨e, e2, hx0, hx1⟩
    · exact Y.blk Y.muq hk hk2 (R1.blk _ _ hat1)
    · exact Y.blk (by simp only [μ2, if_neg e]) (R.offB_void hq hx0) (R.offB_len hx0) (R1.blk _ _ hx1)
  · rcases hback b x hx with ⟨rfl, rfl⟩ | ⟨e, e2, -, hx1⟩ <;> rcases hback b' x' hx' with ⟨rfl, rfl⟩ | ⟨e', e2', -, hx1'⟩
    · rfl
    · simp only [μ2, if_true] at h1
      simp only [μ2, if_neg e'] at h2
      exact absurd (R1.inj _ _ _ _ g c c' hat1 hx1' hl hl' h1 h2) (by omega)
    · simp only [μ2, if_true] at h2
      simp only [μ2, if_neg e] at h1
      exact absurd (R1.inj _ _ _ _ g c c' hx1 hat1 hl hl' h1 h2) (by omega)
    · simp only [μ2, if_neg e] at h1
      simp only [μ2, if_neg e'] at h2
      exact R1.inj _ _ _ _ g c c' hx1 hx1' hl hl' h1 h2
  · rcases hback b x hx with ⟨rfl, rfl⟩ | ⟨e, e2, -, hx1⟩
    · simp only [μ2, if_true] at h1
      exact R1.own _ _ g c hat1 hl h1
    · simp only [μ2, if_neg e] at h1
      exact R1.own _ _ g c hx1 hl h1
  · obtain ⟨h1, h2⟩ := E.imm g hg
    exact ⟨⟨h1.1, h1.2.1, fun h => h1.2.2 (hold g h)⟩, h2⟩
  · by_cases e : b = q
    · subst e
      rw [hq] at hx; cases hx
      exact ⟨k, hat2, trivial⟩
    · obtain ⟨x', hx', ht⟩ := E.blk b x hx
      have hl := (List.getElem?_eq_some_iff.1 hx).1
      refine ⟨x', by rw [hget b e (by omega)]; exact hx', ?_⟩
      simp only [μ2, if_neg e]
      exact ht
def placeV (n q : Nat) : AV → Option AV
  | .slref b off len tot => if b = n then some (.slref q off len tot) else none
  | .pbox b off => if b = n then some (.pbox q off) else none
  | _ => none
theorem Moved.place (Y : Moved q n k H1 H2 μ1 μ2) {a a' : AV} {v : Value} (h : placeV n q a = some a') (r : RepV B w H1 μ1 a v) : RepV B w H2 μ2 a' v := by
  cases a with
  | slref b off len tot =>
    simp only [placeV] at h
    split at h
    · rename_i hb
      subst hb
      cases h
      refine ⟨r.1, ?_⟩
      have r2 := r.2
      simp only [RepR0] at r2 ⊢
      rw [Y.at1] at r2
      rw [Y.at2, Y.muq]
      exact r2
    · cases h
  | pbox b off =>
    simp only [placeV] at h
    split at h
    · rename_i hb
      subst hb
      cases h
      refine ⟨r.1, ?_⟩
      have r2 := r.2
      simp only [RepR0] at r2 ⊢
      rw [Y.at1] at r2
      rw [Y.at2, Y.muq]
      exact r2
    · cases h
  | _ => simp [placeV] at h
end
end Go.Vm
namespace Go.Vm
open Go.RowKit
def callable (P : Program) (f : FuncId) : Bool :=
  match P.funcs[f]? with
  | some fn => fn.body.isSome && fn.name != "runtime.NumGoroutine"
  | none => false
structure OpR where
  dst : Option Nat
  o : O
  guard : Option (Nat × Bool) := none
  deriving Inhabited, Repr
structure St where
  t : List AV
  h : List Blk
  deriving Inhabited
def putT (t : List AV) (dst : Option Nat) (v : AV) : List AV :=
  match dst with
  | some d => t.set d v
  | none => t
inductive Step (P : Program) (ρ : Opd → AV) (H : List Blk) : O → AV → List Blk → Prop where
  | ev {o v H'} (h : o.eval ρ H = some (v, H')) : Step P ρ H o v H'
  | evZ {o v H' a'} (h : o.eval ρ H = some (v, H')) (ht : H'.take H.length = H) (hl : lend (newer H.length) H' v = some a') : Step P ρ H o a' H
  | evP {o v v' k q} (h : o.eval ρ H = some (v, H ++ [k])) (hq : H[q]? = some .void) (hk : offB q k = true) (hk2 : offB H.length k = true) (hv : placeV H.length q v = some v') : Step P ρ H o v' (H.set q k)
  | evX {sz x lo hi ow e2 els b off len tot x0 y0} (hx : ρ x = .slref b off len tot) (hb : H[b]? = some (.row ow e2 sz els)) (ht : els.length = tot) (hc : cutOf (tot - off) (some (ρ lo)) (some (ρ hi)) = some (x0, y0)) (hne : x0 < y0) : Step P ρ H (.slice sz x (some lo) (some hi)) (.slref b (off + x0) (y0 - x0) tot) H
  | allocP {zs q} (hq : H[q]? = some .void) (hk : offB q (.cells zs) = true) (hk2 : offB H.length (.cells zs) = true) : Step P ρ H (.alloc zs) (.pbox q 0) (H.set q (.cells zs))
  | callPl {f args r r' k q} (ok : OkH P f (args.map ρ) H r (H ++ [k])) (hq : H[q]? = some .void) (hk : offB q k = true) (hk2 : offB H.length k = true) (hv : placeV H.length q r = some r') : Step P ρ H (.call f args) r' (H.set q k)
  | callS {f args pargs r} (hl : lendAll (fun _ _ => true) H (args.map ρ) = some pargs) (ok : Ok P f pargs r) (hs : r.scalar = true) : Step P ρ H (.call f args) r H
  | callP {f args r} (hp : pureL (args.map ρ) = true) (ok : Ok P f (args.map ρ) r) : Step P ρ H (.call f args) r H
  | callZ {f args pargs r} (bs : List Nat) (hl : lendAll (fun _ k => k.frozen) (freezeOn bs 0 H) (args.map ρ) = some pargs) (ok : Ok P f pargs r) : Step P ρ H (.call f args) r (freezeOn bs 0 H)
  | callH {f args r H'} (ok : OkH P f (args.map ρ) H r H') : Step P ρ H (.call f args) r H'
  | callvS {x f caps args pargs r} (hx : ρ x = .fn f caps) (hc : callable P f = true) (hl : lendAll (fun _ _ => true) H (args.map ρ ++ caps) = some pargs) (ok : Ok P f pargs r) (hs : r.scalar = true) : Step P ρ H (.callv x args) r H
  | callvH {x f caps args r H'} (hx : ρ x = .fn f caps) (hc : callable P f = true) (ok : OkH P f (args.map ρ ++ caps) H r H') : Step P ρ H (.callv x args) r H'
inductive CO (P : Program) : Op → TypeId → O → Prop where
  | op {op ty o} (h : COp P op ty o) : CO P op ty o
  | call {f args args' ts ty} (hc : callable P f = true) (ha : All2 (fun x' x => cOpd x = some x') args' args) : CO P (.call { callee := .value (.func f), args := args.toArray, argTypes := ts }) ty (.call f args')
  | callv {t args args' ts ty} (ha : All2 (fun x' x => cOpd x = some x') args' args) : CO P (.call { callee := .value (.tmp t), args := args.toArray, argTypes := ts }) ty (.callv (.t t) args')
def Slots (B : Base) (w : World) (H : List Blk) (μ : Mu) (t : List AV) (a : Act) : Prop :=
  a.tmps.size = t.length ∧ ∀ (i : Nat) (x : AV), t[i]? = some x → RepV B w H μ x (a.tmps.getD i undef)
section
variable {P : Program} {B : Base} {w w' : World} {H H' H2 : List Blk} {μ μ' : Mu}
theorem RepV.pureV {a : AV} {v : Value} (h : RepV B w H μ a v) (hp : a.pure = true) : PureV w (Imm B w H μ) a v := by
  have hC : ∀ {a : AV} {v : Value}, RepR B w H μ a v → a.pure = true → RepC w (Imm B w H μ) a v := by
    intro a v r hp
    have r2 := r.2
    cases a <;> simp only [RepR0] at r2 <;> first | exact r2 | simp [AV.pure] at hp
  have hA : ∀ {a : AV} {v : Value}, RepA B w H μ a v → a.pure = true → RepC w (Imm B w H μ) a v := by
    intro a v r hp
    cases a with
    | fn f caps =>
      obtain ⟨cs, rfl, hcs⟩ := r
      have : All2 (RepC w (Imm B w H μ)) caps cs.toList := hcs.mono_mem fun c hc b hcb => hC hcb (pureL_mem (by simpa only [AV.pure] using hp) c hc)
      simpa using RepC.fn (f := f) (RepVs.bwd this)
    | _ => exact hC r hp
  have hU : ∀ {a : AV} {v : Value}, RepU B w H μ a v → a.pure = true → PureU w (Imm B w H μ) a v := by
    intro a v r hp
    cases a with
    | undef => trivial
    | agg cs =>
      obtain ⟨vs, rfl, hc⟩ := r
      exact ⟨vs, rfl, hc.mono_mem fun c hc' b hcb => hA hcb (pureL_mem (by simpa only [AV.pure] using hp) c hc')⟩
    | _ => simp only [RepU] at r; simp only [PureU]; exact hA r hp
  cases a with
  | tup cs =>
    obtain ⟨vs, rfl, hc⟩ := h
    exact ⟨vs, rfl, hc.mono_mem fun c hc' b hcb => hU hcb (pureL_mem (by simpa only [AV.pure] using hp) c hc')⟩
  | _ => simp only [RepV] at h; simp only [PureV]; exact hU h hp
theorem callable_run {f : FuncId} (h : callable P f = true) (args : Array Value) (w : World) : (callFunc f args).run P w = .ok (.enter f args) w := by
  unfold callable at h
  cases hf : P.funcs[f]? with
  | none => simp [hf] at h
  | some fn =>
    simp only [hf, Bool.and_eq_true, bne_iff_ne, ne_eq] at h
    cases hq : fn.body with
    | none => simp [hq] at h
    | some c => simp [callFunc, hf, h.2, hq]
theorem args_rep {ρ : Opd → AV} {a : Act} (ho : Opds B w H μ ρ a) : ∀ {args' : List Opd} {args : List Operand}, All2 (fun x' x => cOpd x = some x') args' args → All2 (RepV B w H μ) (args'.map ρ) (args.map a.eval)
  | _, _, .nil => .nil
  | _, _, .cons h t => .cons (ho _ _ h) (args_rep ho t)
theorem step_wp (R : Rel B w H μ) {op : Op} {ty : TypeId} {o : O} (hc : CO P op ty o) {ρ : Opd → AV} {a : Act} (ho : Opds B w H μ ρ a) {v : AV} (hs : Step P ρ H o v H')
    {dst : Option Tmp} {pos : String} {after : Array Edge} {guard : Option (Nat × Bool)} {K : Act → World → Prop} {Q : Exit → Act → World → Prop}
    (hK : ∀ val w' μ', Rel B w' H' μ' → Ext B w H μ w' H' μ' → RepV B w' H' μ' v val → K (a.put dst val) w') :
    ({ dst, op, type := ty, pos, after, guard } : Oper).wp P a w K Q := by
  have fromCalls : ∀ (f : FuncId) (vs : Array Value), (execOp a.eval { dst, op, type := ty, pos, after, guard }).run P w = .ok (.enter f vs) w →
      (Calls P f vs w fun e w' => ∃ v', ∃ μ', e = .returned v' ∧ Rel B w' H' μ' ∧ Ext B w H μ w' H' μ' ∧ RepV B w' H' μ' v v') → ({ dst, op, type := ty, pos, after, guard } : Oper).wp P a w K Q := by
    intro f vs he hcalls
    unfold Oper.wp
    rw [he]
    simp only [Oper.upon]
    refine hcalls.mono ?_
    rintro e w' ⟨v', μ', rfl, h1, h2, h3⟩
    exact hK v' w' μ' h1 h2 h3
  have runCall : ∀ (f : FuncId) (args : List Operand) (ts : Array TypeId), op = .call { callee := .value (.func f), args := args.toArray, argTypes := ts } → callable P f = true →
      (execOp a.eval { dst, op, type := ty, pos, after, guard }).run P w = .ok (.enter f (args.map a.eval).toArray) w := by
    rintro f args ts rfl hcl
    have hf : a.eval (.func f) = .func (.func f) #[] #[] := rfl
    simp [execOp, resolve, hf, Deferred.ofValue, invoke, callable_run hcl]
  have runCallv : ∀ (t : Nat) (args : List Operand) (ts : Array TypeId) (f : FuncId) (cs : Array Value), op = .call { callee := .value (.tmp t), args := args.toArray, argTypes := ts } → a.eval (.tmp t) = .func (.func f) #[] cs → callable P f = true →
      (execOp a.eval { dst, op, type := ty, pos, after, guard }).run P w = .ok (.enter f ((args.map a.eval).toArray ++ cs)) w := by
    rintro t args ts f cs rfl hf hcl
    simp [execOp, resolve, hf, Deferred.ofValue, invoke, callable_run hcl]
  cases hs with
  | ev h =>
    cases hc with
    | op hc =>
      obtain ⟨nx, val, w', μ', h1, h2, h3, h4, h5⟩ := cop_gives R hc ho h dst pos after guard
      unfold Oper.wp
      rw [h1]
      rcases h2 with rfl | ⟨rfl, rfl⟩
      · simp only [Oper.upon]; exact hK val w' μ' h3 h4 h5
      · simp only [Oper.upon]; exact hK undef w' μ' h3 h4 h5
    | call => simp [O.eval] at h
    | callv => simp [O.eval] at h
  | evZ h ht hl =>
    cases hc with
    | op hc =>
      obtain ⟨nx, val, w', μ', h1, h2, h3, h4, h5⟩ := cop_gives R hc ho h dst pos after guard
      obtain ⟨k1, k2, k3⟩ := fresh_told R h3 h4 h5 ht hl
      unfold Oper.wp
      rw [h1]
      rcases h2 with rfl | ⟨rfl, rfl⟩
      · simp only [Oper.upon]; exact hK val w' μ' k1 k2 k3
      · simp only [Oper.upon]; exact hK undef w' μ' k1 k2 k3
    | call => simp [O.eval] at h
    | callv => simp [O.eval] at h
  | evP h hq hk hk2 hv =>
    cases hc with
    | op hc =>
      obtain ⟨nx, val, w', μ', h1, h2, h3, h4, h5⟩ := cop_gives R hc ho h dst pos after guard
      obtain ⟨μ2, k1, k2, k3⟩ := R.moved h3 h4 hq hk hk2
      unfold Oper.wp
      rw [h1]
      rcases h2 with rfl | ⟨rfl, rfl⟩
      · simp only [Oper.upon]; exact hK val w' μ2 k1 k2 (k3.place hv h5)
      · simp only [Oper.upon]; exact hK undef w' μ2 k1 k2 (k3.place hv h5)
    | call => simp [O.eval] at h
    | callv => simp [O.eval] at h
  | @evX sz x lo hi ow e2 els b off len tot x0 y0 hx hb ht hcu hne =>
    cases hc with
    | op hc =>
      cases hc with
      | @slice t e n x1 lo1 hi1 x' lo' hi' _ hu hs h1 h2 h3 =>
        cases lo1 with
        | none => simp at h2
        | some l1 =>
        cases hi1 with
        | none => simp at h3
        | some i1 =>
        simp only [Option.map_some, Option.some.injEq] at h2 h3
        have A := ev_slicex (P := P) R hu hs (hx ▸ ho _ _ h1) (ho _ _ h2) (ho _ _ h3) hb ht hcu hne
        obtain ⟨nx, val, w', μ', h1, h2, h3, h4, h5⟩ := (A.gives.eq (by simp [execOp]) : Gives P B w H μ (execOp a.eval { dst, op := .slice t x1 (some l1) (some i1) none, type := ty, pos, after, guard }) _ _)
        unfold Oper.wp
        rw [h1]
        rcases h2 with rfl | ⟨rfl, rfl⟩
        · simp only [Oper.upon]; exact hK val w' μ' h3 h4 h5
        · simp only [Oper.upon]; exact hK undef w' μ' h3 h4 h5
  | @allocP zs q hq hk hk2 =>
    cases hc with
    | op hc =>
      cases hc with
      | @alloc t i z _ _ hi hz hcs =>
        obtain ⟨μ', h2, h3, h4⟩ := R.newCells z.cells t (consts_rep hcs)
        obtain ⟨μ2, k1, k2, k3⟩ := R.moved h2 h3 hq hk hk2
        have h1 : (execOp a.eval { dst, op := .alloc t, type := ty, pos, after, guard }).run P w = .ok (.value (.pointer (some ⟨w.heap.size, 0, none⟩))) (w.alloc (.cells z.cells t)) := by
          simp [execOp, Instr.alloc, zeroValue, typeInfo, hi, hz, newVar, newRow]
        unfold Oper.wp
        rw [h1]
        simp only [Oper.upon]
        exact hK _ _ μ2 k1 k2 (k3.place (by simp [placeV]) h4)
  | callPl ok hq hk hk2 hv =>
    cases hc with
    | op hc => cases hc
    | @call f args args' ts _ hcl ha =>
      refine fromCalls _ _ (runCall _ args ts rfl hcl) ((ok B w μ _ R (by simpa using args_rep ho ha)).mono ?_)
      rintro e w' ⟨v', μ', rfl, h1, h2, h3⟩
      obtain ⟨μ2, k1, k2, k3⟩ := R.moved h1 h2 hq hk hk2
      exact ⟨v', μ2, rfl, k1, k2, k3.place hv h3⟩
  | callS hl ok hs =>
    cases hc with
    | op hc => cases hc
    | @call f args args' ts _ hcl ha =>
      refine fromCalls _ _ (runCall _ args ts rfl hcl) ((call_scalar R (args_rep ho ha) hl ok hs).mono ?_)
      rintro e w' ⟨v', rfl, h1, h2, h3⟩
      exact ⟨v', μ, rfl, h1, h2, h3⟩
  | callP hp ok =>
    cases hc with
    | op hc => cases hc
    | @call f args args' ts _ hcl ha =>
      have hr := (args_rep ho ha).mono_mem fun c hc' b hcb => hcb.pureV (pureL_mem hp c hc')
      refine fromCalls _ _ (runCall _ args ts rfl hcl) ((call_pure R (by simpa using hr) ok).mono ?_)
      rintro e w' ⟨v', rfl, h1, h2, h3⟩
      exact ⟨v', μ, rfl, h1, h2, h3⟩
  | callZ bs hl ok =>
    cases hc with
    | op hc => cases hc
    | @call f args args' ts _ hcl ha =>
      refine fromCalls _ _ (runCall _ args ts rfl hcl) ((call_frozen R bs (args_rep ho ha) hl ok).mono ?_)
      rintro e w' ⟨v', rfl, h1, h2, h3⟩
      exact ⟨v', μ, rfl, h1, h2, h3⟩
  | callH ok =>
    cases hc with
    | op hc => cases hc
    | @call f args args' ts _ hcl ha =>
      exact fromCalls _ _ (runCall _ args ts rfl hcl) (ok B w μ _ R (by simpa using args_rep ho ha))
  | @callvS x f caps as0 pargs _ hx hcl hl ok hs =>
    cases hc with
    | op hc => cases hc
    | @callv t args args' ts _ ha =>
      have hf := ho (.tmp t) (.t t) rfl
      rw [hx] at hf
      obtain ⟨cs, hv, hcs⟩ := hf
      have hr : All2 (RepV B w H μ) (as0.map ρ ++ caps) ((args.map a.eval).toArray ++ cs).toList := by
        simpa using (args_rep ho ha).append (hcs.mono fun c b hcb => by
          have hA := RepR.repA hcb
          cases c with
          | undef => cases hcb.2
          | agg _ => cases hcb.2
          | tup _ => cases hcb.2
          | _ => exact hA)
      refine fromCalls _ _ (runCallv t args ts _ cs rfl hv hcl) ((call_scalar R hr hl ok hs).mono ?_)
      rintro e w' ⟨v', rfl, h1, h2, h3⟩
      exact ⟨v', μ, rfl, h1, h2, h3⟩
  | @callvH x f caps as0 _ _ hx hcl ok =>
    cases hc with
    | op hc => cases hc
    | @callv t args args' ts _ ha =>
      have hf := ho (.tmp t) (.t t) rfl
      rw [hx] at hf
      obtain ⟨cs, hv, hcs⟩ := hf
      have hr : All2 (RepV B w H μ) (as0.map ρ ++ caps) ((args.map a.eval).toArray ++ cs).toList := by
        simpa using (args_rep ho ha).append (hcs.mono fun c b hcb => by
          have hA := RepR.repA hcb
          cases c with
          | undef => cases hcb.2
          | agg _ => cases hcb.2
          | tup _ => cases hcb.2
          | _ => exact hA)
      exact fromCalls _ _ (runCallv t args ts _ cs rfl hv hcl) (ok B w μ _ R hr)
def AppQ (ρ : Opd → AV) (H : List Blk) (o : O) (K : AV → List Blk → Prop) : Prop :=
  ∃ e sz bytes s x b off len els xs, o = .append e sz bytes s x ∧ ρ s = .slref b off len (List.length els) ∧ H[b]? = some (.row true e sz els) ∧ off + len = els.length ∧ elsOf H sz (ρ x) = some xs ∧ xs ≠ [] ∧ (els.length + xs.length) * bytes ≤ 140737488355328 ∧
    K (.slref H.length off (len + xs.length) (els ++ xs).length) (H.set b .dead ++ [.row true e sz (els ++ xs)]) ∧
    K (.slref H.length 0 (len + xs.length) (els.drop off ++ xs).length) (H.set b .dead ++ [.row true e sz (els.drop off ++ xs)])
theorem appQ_wp (R : Rel B w H μ) {op : Op} {ty : TypeId} {o : O} (hc : CO P op ty o) {ρ : Opd → AV} {a : Act} (ho : Opds B w H μ ρ a) {K0 : AV → List Blk → Prop} (h : AppQ ρ H o K0)
    {dst : Option Tmp} {pos : String} {after : Array Edge} {guard : Option (Nat × Bool)} {K : Act → World → Prop} {Q : Exit → Act → World → Prop}
    (hK : ∀ v H' val w' μ', K0 v H' → Rel B w' H' μ' → Ext B w H μ w' H' μ' → RepV B w' H' μ' v val → K (a.put dst val) w') :
    ({ dst, op, type := ty, pos, after, guard } : Oper).wp P a w K Q := by
  obtain ⟨e, sz, bytes, s, x, b, off, len, els, xs, rfl, hs, hb, hol, hx, hne, hby, k1, k2⟩ := h
  have fin : ∀ {v : AV} {H' : List Blk}, Gives P B w H μ (execOp a.eval { dst, op, type := ty, pos, after, guard }) v H' → K0 v H' → ({ dst, op, type := ty, pos, after, guard } : Oper).wp P a w K Q := by
    intro v H' g hk
    obtain ⟨nx, val, w', μ', h1, h2, h3, h4, h5⟩ := g
    unfold Oper.wp
    rw [h1]
    rcases h2 with rfl | ⟨rfl, rfl⟩
    · simp only [Oper.upon]; exact hK v H' val w' μ' hk h3 h4 h5
    · simp only [Oper.upon]; exact hK v H' undef w' μ' hk h3 h4 h5
  cases hc with
  | op hc =>
    cases hc with
    | append hu hi hz hzs hb0 h1 h2 =>
      have hv := ho _ _ h1
      rw [hs] at hv
      rcases ev_appq (P := P) (ty := ty) R hu hi hz hzs hb0 hv (ho _ _ h2) hx hb hol hne hby with A | A
      · exact fin (A.gives.eq (by simp [execOp, resolve, invoke, builtin])) k1
      · exact fin (A.gives.eq (by simp [execOp, resolve, invoke, builtin])) k2
end
end Go.Vm
namespace Go.Vm
open Go.RowKit
def COper (P : Program) (ops : Array Oper) (o' : OpR) (o : Oper) : Prop :=
  o'.dst = o.dst ∧ CO P o.op o.type o'.o ∧
    match o.guard, o'.guard with
    | none, none => True
    | some (j, w), some (t, w') => w = w' ∧ (ops[j]?).bind (·.dst) = some t
    | _, _ => False
def opsWp (P : Program) : List OpR → (St → Prop) → St → Prop
  | [], K, st => K st
  | o :: os, K, st => match o.guard with
    | none => (∃ v H', Step P (Opd.ev st.t) st.h o.o v H' ∧ opsWp P os K ⟨putT st.t o.dst v, H'⟩) ∨ AppQ (Opd.ev st.t) st.h o.o fun v H' => opsWp P os K ⟨putT st.t o.dst v, H'⟩
    | some (t, want) => match st.t.getD t .undef with
      | .bool b => (b = want → ∃ v H', Step P (Opd.ev st.t) st.h o.o v H' ∧ opsWp P os K ⟨putT st.t o.dst v, H'⟩) ∧ (b ≠ want → opsWp P os K ⟨putT st.t o.dst (.tup []), st.h⟩)
      | .tup [] => opsWp P os K ⟨putT st.t o.dst (.tup []), st.h⟩
      | _ => False
section
variable {P : Program} {B : Base} {w w' : World} {H H' H2 : List Blk} {μ μ' : Mu}
theorem Slots.ext (E : Ext B w H μ w' H' μ') {t : List AV} {a : Act} (h : Slots B w H μ t a) : Slots B w' H' μ' t a := ⟨h.1, fun i x hx => (h.2 i x hx).ext E⟩
theorem Slots.put {t : List AV} {a : Act} (h : Slots B w H μ t a) (dst : Option Nat) {v : AV} {val : Value} (hv : RepV B w H μ v val) : Slots B w H μ (putT t dst v) (a.put dst val) := by
  cases dst with
  | none => exact h
  | some d =>
    refine ⟨by simp [Act.put, putT, h.1], fun i x hx => ?_⟩
    simp only [putT] at hx
    simp only [Act.put]
    by_cases hid : d = i
    · subst hid
      have hlt : d < t.length := by have := (List.getElem?_eq_some_iff.1 hx).1; simpa using this
      rw [List.getElem?_set_self hlt] at hx
      cases hx
      have hlt' : d < a.tmps.size := by rw [h.1]; exact hlt
      simp [hlt']
      exact hv
    · rw [List.getElem?_set_ne hid] at hx
      have := h.2 i x hx
      simpa [Array.getElem?_setIfInBounds_ne hid] using this
theorem Slots.opds {t : List AV} {a : Act} (h : Slots B w H μ t a) : Opds B w H μ (Opd.ev t) a := by
  intro x x' hx
  cases x with
  | tmp i =>
    simp only [cOpd, Option.some.injEq] at hx
    subst hx
    simp only [Opd.ev, Act.eval]
    cases hi : t[i]? with
    | none => simp [List.getD, hi]; trivial
    | some y => simp only [List.getD, hi, Option.getD_some]; exact h.2 i y hi
  | const v =>
    simp only [cOpd] at hx
    obtain ⟨a', h1, rfl⟩ := Option.map_eq_some_iff.1 hx
    exact constAV_rep h1
  | func f =>
    simp only [cOpd, Option.some.injEq] at hx
    subst hx
    exact ⟨#[], rfl, .nil⟩
  | global g => simp [cOpd] at hx
theorem repV_undef : RepV B w H μ (.tup []) undef := ⟨#[], rfl, .nil⟩
theorem slot_of_getD {t : List AV} {i : Nat} {x : AV} (h : t.getD i .undef = x) (hx : x ≠ .undef) : t[i]? = some x := by
  cases hi : t[i]? with
  | none => simp [List.getD, hi] at h; exact absurd h.symm hx
  | some y => simp [List.getD, hi] at h; rw [h]
theorem wanted_bool {ops : Array Oper} {t : List AV} {a : Act} (h : Slots B w H μ t a) {o : Oper} {j tt : Nat} {want b : Bool} (hg : o.guard = some (j, want)) (hj : (ops[j]?).bind (·.dst) = some tt)
    (hb : t.getD tt .undef = .bool b) : Region.wanted o (yielded ops a.tmps) = decide (b = want) := by
  have hs := slot_of_getD hb (by simp)
  have hr := (h.2 tt _ hs).bool_inv
  have hlt : tt < a.tmps.size := by rw [h.1]; exact (List.getElem?_eq_some_iff.1 hs).1
  have hv : a.tmps[tt]? = some (.bool b) := by
    rw [Array.getElem?_eq_getElem hlt]
    simpa [hlt] using hr
  simp only [Region.wanted, hg, yielded, hj, Option.bind_some, hv]
  by_cases e : b = want <;> simp [e]
theorem wanted_tup {ops : Array Oper} {t : List AV} {a : Act} (h : Slots B w H μ t a) {o : Oper} {j tt : Nat} {want : Bool} (hg : o.guard = some (j, want)) (hj : (ops[j]?).bind (·.dst) = some tt)
    (hb : t.getD tt .undef = .tup []) : Region.wanted o (yielded ops a.tmps) = false := by
  have hs := slot_of_getD hb (by simp)
  obtain ⟨vs, hv1, hv2⟩ := h.2 tt _ hs
  have hlt : tt < a.tmps.size := by rw [h.1]; exact (List.getElem?_eq_some_iff.1 hs).1
  have hv : a.tmps[tt]? = some (.tuple vs) := by
    rw [Array.getElem?_eq_getElem hlt]
    simpa [hlt] using hv1
  simp only [Region.wanted, hg, yielded, hj, Option.bind_some, hv]
  rfl
theorem ops_sound {ops : Array Oper} {Q : Exit → Act → World → Prop} : ∀ {os' : List OpR} {os : List Oper}, All2 (COper P ops) os' os →
    ∀ {K : St → Prop} {st : St} {w : World} {μ : Mu} {a : Act}, opsWp P os' K st → Rel B w st.h μ → Slots B w st.h μ st.t a →
    (∀ st' a' w' μ', K st' → Rel B w' st'.h μ' → Slots B w' st'.h μ' st'.t a' → a'.defers = a.defers → Ext B w st.h μ w' st'.h μ' → Q .normal a' w') → wpList P ops Q os a w := by
  intro os' os h
  induction h with
  | nil => intro K st w μ a hk R hs hQ; exact hQ st a w μ hk R hs rfl (Ext.refl _ _ _ _)
  | @cons o' o os' os ho t ih =>
    intro K st w μ a hk R hs hQ
    obtain ⟨hd, hco, hgd⟩ := ho
    obtain ⟨dst, op, ty, pos, after, guard⟩ := o
    simp only at hd hco hgd
    have run : (∃ v H', Step P (Opd.ev st.t) st.h o'.o v H' ∧ opsWp P os' K ⟨putT st.t o'.dst v, H'⟩) →
        ({ dst, op, type := ty, pos, after, guard } : Oper).wp P a w (wpList P ops Q os) Q := by
      rintro ⟨v, H', hst, hk'⟩
      refine step_wp R hco hs.opds hst fun val w' μ' R' E' hv => ?_
      refine ih hk' R' ?_ fun st' a' w'' μ'' hK' R'' hs'' hdf E'' => hQ st' a' w'' μ'' hK' R'' hs'' (hdf.trans (by cases dst <;> rfl)) (E'.trans E'')
      rw [hd]
      exact (hs.ext E').put dst hv
    have runQ : AppQ (Opd.ev st.t) st.h o'.o (fun v H' => opsWp P os' K ⟨putT st.t o'.dst v, H'⟩) →
        ({ dst, op, type := ty, pos, after, guard } : Oper).wp P a w (wpList P ops Q os) Q := by
      intro hq
      refine appQ_wp R hco hs.opds hq fun v H' val w' μ' hk' R' E' hv => ?_
      refine ih hk' R' ?_ fun st' a' w'' μ'' hK' R'' hs'' hdf E'' => hQ st' a' w'' μ'' hK' R'' hs'' (hdf.trans (by cases dst <;> rfl)) (E'.trans E'')
      rw [hd]
      exact (hs.ext E').put dst hv
    have skip : opsWp P os' K ⟨putT st.t o'.dst (.tup []), st.h⟩ → wpList P ops Q os (a.put dst undef) w := by
      intro hk'
      refine ih hk' R ?_ fun st' a' w'' μ'' hK' R'' hs'' hdf E'' => hQ st' a' w'' μ'' hK' R'' hs'' (hdf.trans (by cases dst <;> rfl)) E''
      rw [hd]
      exact hs.put dst repV_undef
    unfold wpList
    simp only [opsWp] at hk
    cases hg' : o'.guard with
    | none =>
      cases guard with
      | some _ => simp [hg'] at hgd
      | none =>
        rw [if_pos (by simp [Region.wanted])]
        simp only [hg'] at hk
        rcases hk with hk | hk
        · exact .inl (run hk)
        · exact .inl (runQ hk)
    | some p =>
      obtain ⟨tt, want⟩ := p
      cases guard with
      | none => simp [hg'] at hgd
      | some q =>
        obtain ⟨j, want'⟩ := q
        simp only [hg'] at hgd hk
        obtain ⟨rfl, hj⟩ := hgd
        split at hk
        · rename_i b hb
          rw [wanted_bool hs (o := { dst, op, type := ty, pos, after, guard := some (j, want') }) rfl hj hb]
          by_cases e : b = want'
          · rw [if_pos (by simp [e])]; exact .inl (run (hk.1 e))
          · rw [if_neg (by simp [e])]; exact skip (hk.2 e)
        · rename_i hb
          rw [wanted_tup hs (o := { dst, op, type := ty, pos, after, guard := some (j, want') }) rfl hj hb]
          rw [if_neg (by simp)]
          exact skip hk
        · exact hk.elim
end
end Go.Vm
