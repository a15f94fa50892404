/- The reference's draws of formulas. No condition. -/
import Derived.Test.YtfelkhckpfjgjaaTKMb
import Derived.Test.YtfelkhckpfjgjaaTKD
import Derived.Test.YtfelkhckpfjgjaaTRZ
set_option linter.unusedSimpArgs false
set_option linter.unusedVariables false
namespace Go.Vm
open Go.Proofs
def leaf10u (c : Cur) (n : Int) : Cur × Int := if 0 < n then (c.step, c.below 2) else (c, 0)
def leaf10v (c : Cur) (n : Int) : Cur × Int := if 1 < n then (c.step, c.below 3) else (c, 0)
def leaf10k (c : Cur) (kind : Int) : Cur × Int := if kind = 2 ∨ kind = 3 then (c.step, c.below 3) else (c, 0)
def leaf10 (c : Cur) : Cur × Fm :=
  let kind := 1 + c.below 7
  let a := leaf10u c.step (usesT kind)
  let b := leaf10v a.1 (usesT kind)
  let d := leaf10k b.1 kind
  (d.1, .mk kind d.2 a.2 b.2 [])
def node10u (c : Cur) (kind : Int) : Cur × Int := if kind = 11 ∨ kind = 12 then (c.step, c.below 3) else (c, 0)
def draw10 : Nat → Cur → Cur × Fm
  | 0, c => leaf10 c
  | 1, c => leaf10 c
  | d + 2, c => if c.below 4 = 0 then leaf10 c.step else
    let kind := 8 + c.step.below 5
    let a := node10u c.step.step kind
    let x := draw10 (d + 1) a.1
    if arity kind = 1 then (x.1, .mk kind 0 a.2 0 [x.2])
    else ((draw10 (d + 1) x.1).1, .mk kind 0 a.2 0 [x.2, (draw10 (d + 1) x.1).2])
theorem leaf10u_def (c : Cur) (n : Int) : leaf10u c n = if 0 < n then (c.step, c.below 2) else (c, 0) := rfl
theorem leaf10v_def (c : Cur) (n : Int) : leaf10v c n = if 1 < n then (c.step, c.below 3) else (c, 0) := rfl
theorem leaf10k_def (c : Cur) (kind : Int) : leaf10k c kind = if kind = 2 ∨ kind = 3 then (c.step, c.below 3) else (c, 0) := rfl
theorem leaf10u_buf (c : Cur) (n : Int) : (leaf10u c n).1.buf = c.buf := by unfold leaf10u; split <;> rfl
theorem leaf10v_buf (c : Cur) (n : Int) : (leaf10v c n).1.buf = c.buf := by unfold leaf10v; split <;> rfl
theorem leaf10k_buf (c : Cur) (n : Int) : (leaf10k c n).1.buf = c.buf := by unfold leaf10k; split <;> rfl
theorem node10u_buf (c : Cur) (n : Int) : (node10u c n).1.buf = c.buf := by unfold node10u; split <;> rfl
theorem leaf10_buf (c : Cur) : (leaf10 c).1.buf = c.buf := by
  unfold leaf10
  simp only [leaf10k_buf, leaf10v_buf, leaf10u_buf]; rfl
theorem draw10_buf : ∀ (d : Nat) (c : Cur), (draw10 d c).1.buf = c.buf
  | 0, c => leaf10_buf c
  | 1, c => leaf10_buf c
  | d + 2, c => by
    unfold draw10
    split
    · exact leaf10_buf _
    · simp only
      split
      · simp only [draw10_buf (d + 1), node10u_buf]; rfl
      · simp only [draw10_buf (d + 1), node10u_buf]; rfl
theorem leaf10_size (c : Cur) : (leaf10 c).2.size = 1 := by simp [leaf10, Fm.size, sizes]
theorem draw10_size : ∀ (d : Nat) (c : Cur), (draw10 d c).2.size ≤ 3 ^ d
  | 0, c => by rw [show draw10 0 c = leaf10 c from rfl, leaf10_size]; decide
  | 1, c => by rw [show draw10 1 c = leaf10 c from rfl, leaf10_size]; decide
  | d + 2, c => by
    have hp : 1 ≤ 3 ^ (d + 1) := Nat.one_le_pow _ _ (by omega)
    have e : 3 ^ (d + 2) = 3 ^ (d + 1) * 3 := rfl
    unfold draw10
    split
    · rw [leaf10_size]; omega
    · simp only
      have h1 := fun c => draw10_size (d + 1) c
      split
      · have := h1 (node10u c.step.step (8 + c.step.below 5)).1
        simp only [Fm.size, sizes]; omega
      · have := h1 (node10u c.step.step (8 + c.step.below 5)).1
        have := h1 (draw10 (d + 1) (node10u c.step.step (8 + c.step.below 5)).1).1
        simp only [Fm.size, sizes]; omega
def code_spec_l10Draw : F := ⟨78,[.cell 5 true 4],.seq (.reg [⟨some 4,.alloc [(.int .i64 0),(.int .i64 0),(.int .i64 0),(.int .i64 0),(.sl .nil 0 [])],none⟩]) (.seq (.seq (.reg [⟨some 10,.mov (.t 1),none⟩,⟨some 11,.bin .lss (.t 10) (.k (.int .i64 2)),none⟩,⟨some 12,.mov (.t 11),none⟩,⟨some 13,.mov (.t 0),some (12,false)⟩,⟨some 14,.call 38 [.t 13,(.k (.int .i64 4))],some (12,false)⟩,⟨some 15,.pick (.t 12) (.k (.bool true)) (.t 14),none⟩]) (.cond (.t 15) (.seq (.reg [⟨some 16,.mov (.t 0),none⟩,⟨some 17,.call 39 [.t 16,(.k (.int .i64 7))],none⟩,⟨some 18,.bin .add (.k (.int .i64 1)) (.t 17),none⟩,⟨some 19,.build [(.int .i64 0),(.int .i64 0),(.int .i64 0),(.int .i64 0),(.sl .nil 0 [])] [(0,1,.t 18)],none⟩,⟨some 5,.alloc [(.int .i64 0),(.int .i64 0),(.int .i64 0),(.int .i64 0),(.sl .nil 0 [])],none⟩,⟨none,.store 5 (.t 5) (.t 19),none⟩]) (.seq (.reg [⟨some 20,.faddr 0 (.t 5),none⟩,⟨some 21,.load 1 false (.t 20),none⟩,⟨some 22,.call 107 [.t 21],none⟩,⟨some 6,.mov (.t 22),none⟩]) (.seq (.seq (.reg [⟨some 23,.mov (.t 6),none⟩,⟨some 24,.bin .gtr (.t 23) (.k (.int .i64 0)),none⟩]) (.cond (.t 24) (.reg [⟨some 25,.mov (.t 0),none⟩,⟨some 26,.call 39 [.t 25,(.k (.int .i64 2))],none⟩,⟨some 27,.faddr 2 (.t 5),none⟩,⟨none,.store 1 (.t 27) (.t 26),none⟩]) (.skip))) (.seq (.seq (.reg [⟨some 28,.mov (.t 6),none⟩,⟨some 29,.bin .gtr (.t 28) (.k (.int .i64 1)),none⟩]) (.cond (.t 29) (.reg [⟨some 30,.mov (.t 0),none⟩,⟨some 31,.call 39 [.t 30,(.k (.int .i64 3))],none⟩,⟨some 32,.faddr 3 (.t 5),none⟩,⟨none,.store 1 (.t 32) (.t 31),none⟩]) (.skip))) (.seq (.seq (.reg [⟨some 33,.faddr 0 (.t 5),none⟩,⟨some 34,.load 1 false (.t 33),none⟩,⟨some 35,.bin .eql (.t 34) (.k (.int .i64 2)),none⟩,⟨some 36,.mov (.t 35),none⟩,⟨some 37,.faddr 0 (.t 5),some (36,false)⟩,⟨some 38,.load 1 false (.t 37),some (36,false)⟩,⟨some 39,.bin .eql (.t 38) (.k (.int .i64 3)),some (36,false)⟩,⟨some 40,.pick (.t 36) (.k (.bool true)) (.t 39),none⟩]) (.cond (.t 40) (.reg [⟨some 41,.mov (.t 0),none⟩,⟨some 42,.call 39 [.t 41,(.k (.int .i64 3))],none⟩,⟨some 43,.faddr 1 (.t 5),none⟩,⟨none,.store 1 (.t 43) (.t 42),none⟩]) (.skip))) (.seq (.reg [⟨some 44,.load 5 true (.t 5),none⟩,⟨none,.store 5 (.t 4) (.t 44),none⟩]) (.ret))))))) (.skip))) (.seq (.reg [⟨some 45,.mov (.t 0),none⟩,⟨some 46,.call 39 [.t 45,(.k (.int .i64 5))],none⟩,⟨some 47,.bin .add (.k (.int .i64 8)) (.t 46),none⟩,⟨some 48,.build [(.int .i64 0),(.int .i64 0),(.int .i64 0),(.int .i64 0),(.sl .nil 0 [])] [(0,1,.t 47)],none⟩,⟨some 7,.alloc [(.int .i64 0),(.int .i64 0),(.int .i64 0),(.int .i64 0),(.sl .nil 0 [])],none⟩,⟨none,.store 5 (.t 7) (.t 48),none⟩]) (.seq (.seq (.reg [⟨some 49,.faddr 0 (.t 7),none⟩,⟨some 50,.load 1 false (.t 49),none⟩,⟨some 51,.bin .eql (.t 50) (.k (.int .i64 11)),none⟩,⟨some 52,.mov (.t 51),none⟩,⟨some 53,.faddr 0 (.t 7),some (52,false)⟩,⟨some 54,.load 1 false (.t 53),some (52,false)⟩,⟨some 55,.bin .eql (.t 54) (.k (.int .i64 12)),some (52,false)⟩,⟨some 56,.pick (.t 52) (.k (.bool true)) (.t 55),none⟩]) (.cond (.t 56) (.reg [⟨some 57,.mov (.t 0),none⟩,⟨some 58,.call 39 [.t 57,(.k (.int .i64 3))],none⟩,⟨some 59,.faddr 2 (.t 7),none⟩,⟨none,.store 1 (.t 59) (.t 58),none⟩]) (.skip))) (.seq (.reg [⟨some 60,.faddr 0 (.t 7),none⟩,⟨some 61,.load 1 false (.t 60),none⟩,⟨some 62,.call 73 [.t 61],none⟩,⟨some 8,.mov (.t 62),none⟩]) (.seq (.seq (.reg [⟨some 9,.mov (.k (.int .i64 0)),none⟩]) (.block 0 (.loop (.seq (.seq (.reg [⟨some 63,.mov (.t 9),none⟩,⟨some 64,.mov (.t 8),none⟩,⟨some 65,.bin .lss (.t 63) (.t 64),none⟩]) (.cond (.t 65) (.skip) (.exit 0))) (.seq (.block 1 (.dreg [false,false,false,false,false,false,false,true,true,true] [false,false,false,false,false,true,false,false,false,false] [⟨some 68,.faddr 4 (.t 7),none⟩,⟨some 69,.load 1 false (.t 68),none⟩,⟨some 70,.mov (.t 0),none⟩,⟨some 71,.mov (.t 1),none⟩,⟨some 72,.bin .sub (.t 71) (.k (.int .i64 1)),none⟩,⟨some 73,.call 59 [.t 70,.t 72],none⟩,⟨some 74,.bsl 46 5 1 (.agg [(.int .i64 0),(.int .i64 0),(.int .i64 0),(.int .i64 0),(.sl .nil 0 [])]) [(0,.t 73)],none⟩,⟨some 75,.append 46 5 56 (.t 69) (.t 74),none⟩,⟨some 76,.faddr 4 (.t 7),none⟩,⟨none,.store 1 (.t 76) (.t 75),none⟩])) (.reg [⟨some 66,.mov (.t 9),none⟩,⟨some 67,.bin .add (.t 66) (.k (.int .i64 1)),none⟩,⟨some 9,.mov (.t 67),none⟩])))))) (.seq (.reg [⟨some 77,.load 5 true (.t 7),none⟩,⟨none,.store 5 (.t 4) (.t 77),none⟩]) (.ret)))))))⟩
theorem fok_spec_l10Draw : FOk Try.prog 59 code_spec_l10Draw := fok Try.func59 (by kernel_rfl)
@[simp] def ct_l10Draw (d : Nat) : CtH := ⟨59, Nat × Cur, fun x H => x.2.buf.length ≤ 1048576 ∧ H[x.1]? = some x.2.cells, fun x => [.pbox x.1 0, .int .i64 d], fun x _ => encFm (draw10 d x.2).2, fun x H => H.set x.1 (draw10 d x.2).1.cells⟩
def leafC : C → C
  | .seq _ (.seq (.seq _ (.cond _ x _)) _) => x
  | c => c
def nodeC' : C → C
  | .seq _ x => x
  | c => c
def argB : List Fm → Blk
  | [] => .nrow
  | x :: l => .row true 46 5 ((x :: l).map encFm)
def rowsF (b : Nat) : Fm → AV
  | .mk a k u v l => .agg [.int .i64 a, .int .i64 k, .int .i64 u, .int .i64 v, .slref b 0 l.length l.length]
def fmRows (n : Nat) : Fm → List Blk
  | .mk a k u v l => [.nrow, .cells [.int .i64 a, .int .i64 k, .int .i64 u, .int .i64 v, .slref (n + 4) 0 l.length l.length], .dead, .dead, argB l]
set_option maxHeartbeats 4000000 in
set_option maxRecDepth 100000 in
theorem leaf10_walk {H : List Blk} {p : Nat} {c : Cur} (hbuf : c.buf.length ≤ 1048576) (hp : H[p]? = some c.cells) (t : List AV) (ht : All2 LessS t (slots 78 [(0, .pbox p 0), (4, .pbox (H.length + 1) 0)])) (hB : SelfB H) {Q : Exit → St → Prop} (hQ : ∀ st, (∃ st', Weak H.length st st' ∧ retH code_spec_l10Draw.rs (rowsF (H.length + 4) (leaf10 c).2) (H.set p (leaf10 c).1.cells ++ fmRows H.length (leaf10 c).2) .ret st') → Q .ret st) :
    CW Try.prog H.length (leafC code_spec_l10Draw.c) Q ⟨t, H ++ [.nrow, .cells [.int .i64 0, .int .i64 0, .int .i64 0, .int .i64 0, .slref H.length 0 0 0]]⟩ := by
  have hpl : p < H.length := (List.getElem?_eq_some_iff.1 hp).1
  have hT : TabOk Try.prog _ := tab_h ok_below (tab_cons ok_l10Uses tab_nil)
  have hH : H = H.set p c.cells := (set_same hp).symm
  have hgp : ∀ x T, (H.set p x ++ T)[p]? = some x := fun x T => by rw [List.getElem?_append_left (by simpa using hpl), List.getElem?_set_self hpl]
  have hsp : ∀ x y T, (H.set p x ++ T).set p y = H.set p y ++ T := fun x y T => by rw [List.set_append_left _ _ (by simpa using hpl), List.set_set]
  have hsl : ∀ x : Blk, (H.set p x).length = H.length := fun x => by simp
  have hga : ∀ x T k, (H.set p x ++ T)[H.length + k]? = T[k]? := fun x T k => get_at (hsl x)
  have hsa : ∀ x T k y, (H.set p x ++ T).set (H.length + k) y = H.set p x ++ T.set k y := fun x T k y => set_at (hsl x)
  have hg0 : ∀ x T, (H.set p x ++ T)[H.length]? = T[0]? := fun x T => hga x T 0
  have hs0 : ∀ x T y, (H.set p x ++ T).set H.length y = H.set p x ++ T.set 0 y := fun x T y => hsa x T 0 y
  have hb7 := below_lt c (n := 7) (by omega)
  have hw7 : IntKind.i64.wrap (1 + c.below 7) = 1 + c.below 7 := by rw [wrap_i64] <;> omega
  have hb1 : c.step.buf.length ≤ 1048576 := hbuf
  have hub : (leaf10u c.step (usesT (1 + c.below 7))).1.buf.length ≤ 1048576 := by rw [leaf10u_buf]; exact hbuf
  have hvb : (leaf10v (leaf10u c.step (usesT (1 + c.below 7))).1 (usesT (1 + c.below 7))).1.buf.length ≤ 1048576 := by rw [leaf10v_buf, leaf10u_buf]; exact hbuf
  have hD : leaf10 c = ((leaf10k (leaf10v (leaf10u c.step (usesT (1 + c.below 7))).1 (usesT (1 + c.below 7))).1 (1 + c.below 7)).1, .mk (1 + c.below 7) (leaf10k (leaf10v (leaf10u c.step (usesT (1 + c.below 7))).1 (usesT (1 + c.below 7))).1 (1 + c.below 7)).2 (leaf10u c.step (usesT (1 + c.below 7))).2 (leaf10v (leaf10u c.step (usesT (1 + c.below 7))).1 (usesT (1 + c.below 7))).2 []) := rfl
  refine cw_weak (weak_less (n0 := H.length) (t' := slots 78 [(0, .pbox p 0), (4, .pbox (H.length + 1) 0)]) (H' := H ++ [.nrow, .cells [.int .i64 0, .int .i64 0, .int .i64 0, .int .i64 0, .slref H.length 0 0 0]]) (by simp) ht) ?_
  rw [hD] at hQ
  clear hD ht
  simp only [code_spec_l10Draw, leafC]
  rw [hH]
  simp only [hsl]
  refine cw_seq (go_ok hT ?_); simp [List.replicate, hgp, hsp, hbuf, hsl, hga, hsa, hg0, hs0, Nat.add_assoc, cells_inj, hw7]
  generalize hkd : 1 + c.below 7 = kind at *
  have hU := leaf10u_def c.step (usesT kind)
  have hV := leaf10v_def (leaf10u c.step (usesT kind)).1 (usesT kind)
  have hK := leaf10k_def (leaf10v (leaf10u c.step (usesT kind)).1 (usesT kind)).1 kind
  generalize leaf10k (leaf10v (leaf10u c.step (usesT kind)).1 (usesT kind)).1 kind = K at *
  generalize leaf10v (leaf10u c.step (usesT kind)).1 (usesT kind) = V at *
  generalize leaf10u c.step (usesT kind) = U at *
  obtain ⟨cU, u⟩ := U
  obtain ⟨cV, v⟩ := V
  obtain ⟨cK, k⟩ := K
  simp only at *
  refine cw_seq (go_ok hT ?_); simp [List.replicate, hga, hgp]
  generalize usesT kind = n at *
  refine cw_to ⟨slots 78 [(0, .pbox p 0), (4, .pbox (H.length + 1) 0), (5, .pbox (H.length + 3) 0), (6, .int .i64 n)], H.set p cU.cells ++ [.nrow, .cells [.int .i64 0, .int .i64 0, .int .i64 0, .int .i64 0, .slref H.length 0 0 0], .nrow, .cells [.int .i64 kind, .int .i64 0, .int .i64 u, .int .i64 0, .slref (H.length + 4) 0 0 0], .nrow]⟩ ?_ ?_
  · by_cases g : 0 < n
    · rw [if_pos g] at hU; cases hU
      refine go_ok hT ?_; simp [List.replicate, hgp, hsp, hga, hsa, cells_inj, hb1, g]
      exact weak_less (by simp) (by simp [List.replicate])
    · rw [if_neg g] at hU; cases hU
      refine go_ok hT ?_; simp [List.replicate, g]
      exact weak_less (by simp) (by simp [List.replicate])
  clear hU
  refine cw_to ⟨slots 78 [(0, .pbox p 0), (4, .pbox (H.length + 1) 0), (5, .pbox (H.length + 3) 0)], H.set p cV.cells ++ [.nrow, .cells [.int .i64 0, .int .i64 0, .int .i64 0, .int .i64 0, .slref H.length 0 0 0], .nrow, .cells [.int .i64 kind, .int .i64 0, .int .i64 u, .int .i64 v, .slref (H.length + 4) 0 0 0], .nrow]⟩ ?_ ?_
  · by_cases g : 1 < n
    · rw [if_pos g] at hV; cases hV
      refine go_ok hT ?_; simp [List.replicate, hgp, hsp, hga, hsa, cells_inj, hub, g]
      exact weak_less (by simp) (by simp [List.replicate])
    · rw [if_neg g] at hV; cases hV
      refine go_ok hT ?_; simp [List.replicate, g]
      exact weak_less (by simp) (by simp [List.replicate])
  clear hV
  refine cw_to ⟨slots 78 [(0, .pbox p 0), (4, .pbox (H.length + 1) 0), (5, .pbox (H.length + 3) 0)], H.set p cK.cells ++ [.nrow, .cells [.int .i64 0, .int .i64 0, .int .i64 0, .int .i64 0, .slref H.length 0 0 0], .nrow, .cells [.int .i64 kind, .int .i64 k, .int .i64 u, .int .i64 v, .slref (H.length + 4) 0 0 0], .nrow]⟩ ?_ ?_
  · by_cases g2 : kind = 2
    · subst g2
      rw [if_pos (by simp)] at hK; cases hK
      refine go_ok hT ?_; simp [List.replicate, hgp, hsp, hga, hsa, cells_inj, hvb]
      exact weak_less (by simp) (by simp [List.replicate])
    by_cases g3 : kind = 3
    · subst g3
      rw [if_pos (by simp)] at hK; cases hK
      refine go_ok hT ?_; simp [List.replicate, hgp, hsp, hga, hsa, cells_inj, hvb]
      exact weak_less (by simp) (by simp [List.replicate])
    · rw [if_neg (by omega)] at hK; cases hK
      refine go_ok hT ?_; simp [List.replicate, hgp, hsp, hga, hsa, g2, g3]
      exact weak_less (by simp) (by simp [List.replicate])
  clear hK
  refine cw_seq (go_ok hT ?_); simp [List.replicate, hga, hsa]
  refine go_ok hT ?_; simp [List.replicate]
  refine hQ _ ⟨⟨slots 78 [(4, .pbox (H.length + 1) 0)], H.set p cK.cells ++ fmRows H.length (.mk kind k u v [])⟩, weak_less (by simp [fmRows, argB]) (by simp [List.replicate]), ?_⟩
  show retH [Res.cell 5 true 4] _ _ _ _
  simp [retH, List.replicate, hga, fmRows, rowsF]
theorem OkH.dropR {f : Nat} {args : List AV} {H H1 : List Blk} {n : Nat} {x : Fm} (hn : n = H1.length) (h : OkH Try.prog f args H (rowsF (n + 4) x) (H1 ++ fmRows n x)) : OkH Try.prog f args H (rowsF (n + 4) x) (H1 ++ [.dead, .dead, .dead, .dead, argB x.args]) := by
  refine OkH.weak h ?_
  obtain ⟨a, k, u, v, l⟩ := x
  exact weak_less (by simp [fmRows]) (by simp [rowsF])
@[simp] def ct_l10DrawR (d : Nat) : CtH := ⟨59, Nat × Cur, fun x H => x.2.buf.length ≤ 1048576 ∧ H[x.1]? = some x.2.cells, fun x => [.pbox x.1 0, .int .i64 d], fun x H => rowsF (H.length + 4) (draw10 d x.2).2, fun x H => H.set x.1 (draw10 d x.2).1.cells ++ [.dead, .dead, .dead, .dead, argB (draw10 d x.2).2.args]⟩
theorem l10Draw_seal {d : Nat} (h : (ct_l10DrawR d).Ok Try.prog) : (ct_l10Draw d).Ok Try.prog := by
  rintro ⟨p, c⟩ H ⟨hbuf, hp⟩
  have k := h (p, c) H ⟨hbuf, hp⟩
  refine OkH.of_self fun hB => OkH.weak k ?_
  have hga : ∀ x T j, (H.set p x ++ T)[H.length + j]? = T[j]? := fun x T j => get_at (by simp)
  simp only [ct_l10DrawR, ct_l10Draw]
  generalize draw10 d c = R
  obtain ⟨e, ⟨a, k, u, v, l⟩⟩ := R
  have hw := weak_sealH (n0 := H.length) (H := H.set p e.cells) (X := [.dead, .dead, .dead, .dead, argB l]) (X' := []) (t := [rowsF (H.length + 4) (.mk a k u v l)]) (t' := [encFm (.mk a k u v l)]) 0 (selfB_set hB (curB _)) (by simp) .nil (.cons ?_ .nil)
  · rw [List.append_nil] at hw; exact hw
  · have e1 : encFm (.mk a k u v l) = .agg [.int .i64 a, .int .i64 k, .int .i64 u, .int .i64 v, encL 5 encFm l] := by simp
    rw [e1]
    show All2 (SlC _ _) [_, _, _, _, _] [_, _, _, _, encL 5 encFm l]
    refine .cons (.inr (.inl ⟨rfl, rfl⟩)) (.cons (.inr (.inl ⟨rfl, rfl⟩)) (.cons (.inr (.inl ⟨rfl, rfl⟩)) (.cons (.inr (.inl ⟨rfl, rfl⟩)) (.cons (.inr (.inr ?_)) .nil))))
    cases l with
    | nil => simp [lendC, hga, argB]
    | cons x l =>
      simp only [lendC, hga, argB]
      simp
      first | rfl | exact ⟨_, lendEls_map, rfl⟩
theorem head10 {H : List Blk} {p : Nat} {d : Int} {Q : Exit → St → Prop} (h : CW Try.prog H.length (nodeC' code_spec_l10Draw.c) Q ⟨slots 78 [(0, .pbox p 0), (1, .int .i64 d), (4, .pbox (H.length + 1) 0)], H ++ [.nrow, .cells [.int .i64 0, .int .i64 0, .int .i64 0, .int .i64 0, .slref H.length 0 0 0]]⟩) :
    CW Try.prog H.length code_spec_l10Draw.c Q ⟨frame code_spec_l10Draw.nt [.pbox p 0, .int .i64 d], H⟩ := by
  simp only [code_spec_l10Draw, nodeC'] at h
  simp only [code_spec_l10Draw, frame, List.length_cons, List.length_nil, List.replicate, Nat.reduceSub, Nat.reduceAdd, List.cons_append, List.nil_append]
  refine cw_seq (go_ok tab_nil ?_); simp [List.replicate, getHk, getH0, setHk, setH0, Nat.add_assoc]
  exact cw_weak (weak_less (n0 := H.length) (by simp) (by simp [List.replicate])) h
theorem low10 {H : List Blk} {p : Nat} {c : Cur} {d : Nat} (hd : d < 2) (hbuf : c.buf.length ≤ 1048576) (hp : H[p]? = some c.cells) : OkH Try.prog 59 [.pbox p 0, .int .i64 d] H (rowsF (H.length + 4) (leaf10 c).2) (H.set p (leaf10 c).1.cells ++ [.dead, .dead, .dead, .dead, argB (leaf10 c).2.args]) := by
  refine OkH.of_self fun hB => OkH.dropR (by simp) ?_
  have hl := fun t ht Q => leaf10_walk (Q := Q) hbuf hp t ht hB
  simp only [code_spec_l10Draw, leafC] at hl
  have hd1 : (d : Int) < 2 := by omega
  have hd2 : ¬ 2 ≤ d := by omega
  refine OkH.of_cw fok_spec_l10Draw (head10 ?_)
  simp only [code_spec_l10Draw, nodeC']
  refine cw_seq (cw_seq (go_ok tab_nil ?_)); simp [List.replicate, hd1, hd2, hd]
  refine cw_cond (b := true) (by simp [Opd.ev]) (fun _ => ?_) (fun h => by cases h)
  refine hl _ ?_ _ fun st h => h
  simp [List.replicate]
end Go.Vm
namespace Go.Vm
open Go.Proofs
def it10 (d : Nat) (c : Cur) : Nat → Cur × List Fm
  | 0 => (c, [])
  | i + 1 => ((draw10 d (it10 d c i).1).1, (it10 d c i).2 ++ [(draw10 d (it10 d c i).1).2])
theorem it10_buf (d : Nat) (c : Cur) : ∀ i, (it10 d c i).1.buf = c.buf
  | 0 => rfl
  | i + 1 => (draw10_buf d _).trans (it10_buf d c i)
theorem it10_len (d : Nat) (c : Cur) : ∀ i, (it10 d c i).2.length = i
  | 0 => rfl
  | i + 1 => by simp [it10, it10_len d c i]
theorem draw10_node {d : Nat} {c : Cur} {kind : Int} {n : Nat} (h : ¬ c.below 4 = 0) (hk : 8 + c.step.below 5 = kind) (hn : arity kind = n) (h12 : n = 1 ∨ n = 2) :
    draw10 (d + 2) c = ((it10 (d + 1) (node10u c.step.step kind).1 n).1, .mk kind 0 (node10u c.step.step kind).2 0 (it10 (d + 1) (node10u c.step.step kind).1 n).2) := by
  unfold draw10
  rw [if_neg h]
  simp only [hk, hn]
  rcases h12 with rfl | rfl
  · rfl
  · rfl
set_option maxHeartbeats 8000000 in
set_option maxRecDepth 100000 in
theorem node10_walk {d : Nat} (hd : d ≤ 100) (ih : (ct_l10Draw (d + 1)).Ok Try.prog) {H : List Blk} {p : Nat} {c : Cur} (hbuf : c.buf.length ≤ 1048576) (hp : H[p]? = some c.cells) (h0 : ¬ c.below 4 = 0) (hB : SelfB H) :
    OkH Try.prog 59 [.pbox p 0, .int .i64 ((d + 2 : Nat) : Int)] H (rowsF (H.length + 4) (draw10 (d + 2) c).2) (H.set p (draw10 (d + 2) c).1.cells ++ fmRows H.length (draw10 (d + 2) c).2) := by
  have hpl : p < H.length := (List.getElem?_eq_some_iff.1 hp).1
  have hT : TabOk Try.prog _ := tab_h ih (tab_h ok_below (tab_h ok_once (tab_cons ok_sArityOf tab_nil)))
  have hH : H = H.set p c.cells := (set_same hp).symm
  have hgp : ∀ x T, (H.set p x ++ T)[p]? = some x := fun x T => by rw [List.getElem?_append_left (by simpa using hpl), List.getElem?_set_self hpl]
  have hsp : ∀ x y T, (H.set p x ++ T).set p y = H.set p y ++ T := fun x y T => by rw [List.set_append_left _ _ (by simpa using hpl), List.set_set]
  have hsl : ∀ x : Blk, (H.set p x).length = H.length := fun x => by simp
  have hga : ∀ x T k, (H.set p x ++ T)[H.length + k]? = T[k]? := fun x T k => get_at (hsl x)
  have hsa : ∀ x T k y, (H.set p x ++ T).set (H.length + k) y = H.set p x ++ T.set k y := fun x T k y => set_at (hsl x)
  have hg0 : ∀ x T, (H.set p x ++ T)[H.length]? = T[0]? := fun x T => hga x T 0
  have hs0 : ∀ x T y, (H.set p x ++ T).set H.length y = H.set p x ++ T.set 0 y := fun x T y => hsa x T 0 y
  have hb5 := below_lt c.step (n := 5) (by omega)
  have hw8 : IntKind.i64.wrap (8 + c.step.below 5) = 8 + c.step.below 5 := by rw [wrap_i64] <;> omega
  have hb1 : c.step.buf.length ≤ 1048576 := hbuf
  have hb2 : c.step.step.buf.length ≤ 1048576 := hbuf
  have hd1 : ¬ ((d : Int) + 2 < 2) := by omega
  have hwd : IntKind.i64.wrap ((d : Int) + 2 - 1) = ((d + 1 : Nat) : Int) := by rw [wrap_i64] <;> omega
  obtain ⟨n, hn, h12⟩ : ∃ n : Nat, arity (8 + c.step.below 5) = n ∧ (n = 1 ∨ n = 2) := by
    have : 8 + c.step.below 5 = 8 ∨ 8 + c.step.below 5 = 9 ∨ 8 + c.step.below 5 = 10 ∨ 8 + c.step.below 5 = 11 ∨ 8 + c.step.below 5 = 12 := by omega
    rcases this with e | e | e | e | e <;> rw [e]
    · exact ⟨1, rfl, .inl rfl⟩
    · exact ⟨2, rfl, .inr rfl⟩
    · exact ⟨2, rfl, .inr rfl⟩
    · exact ⟨1, rfl, .inl rfl⟩
    · exact ⟨1, rfl, .inl rfl⟩
  have hD := draw10_node (d := d) h0 rfl hn h12
  rw [hD]
  clear hD
  have hUb : (node10u c.step.step (8 + c.step.below 5)).1.buf.length ≤ 1048576 := by rw [node10u_buf]; exact hbuf
  refine OkH.of_cw fok_spec_l10Draw (head10 ?_)
  simp only [code_spec_l10Draw, nodeC']
  rw [hH]
  simp only [hsl]
  refine cw_seq (cw_seq (go_ok hT ?_)); simp [List.replicate, hgp, hsp, hbuf, hsl, hd1, cells_inj, h0]
  refine go_ok hT ?_; simp [List.replicate]
  refine cw_seq (go_ok hT ?_); simp [List.replicate, hgp, hsp, hbuf, hsl, hga, hsa, hg0, hs0, Nat.add_assoc, cells_inj, hw8, hb1]
  generalize 8 + c.step.below 5 = kind at *
  have hU : node10u c.step.step kind = if kind = 11 ∨ kind = 12 then (c.step.step.step, c.step.step.below 3) else (c.step.step, 0) := rfl
  generalize node10u c.step.step kind = U at *
  obtain ⟨cU, u⟩ := U
  simp only at *
  refine cw_to ⟨slots 78 [(0, .pbox p 0), (1, .int .i64 ((d + 2 : Nat) : Int)), (4, .pbox (H.length + 1) 0), (7, .pbox (H.length + 3) 0)], H.set p cU.cells ++ [.nrow, .cells [.int .i64 0, .int .i64 0, .int .i64 0, .int .i64 0, .slref H.length 0 0 0], .nrow, .cells [.int .i64 kind, .int .i64 0, .int .i64 u, .int .i64 0, .slref (H.length + 4) 0 0 0], .nrow]⟩ ?_ ?_
  · by_cases g2 : kind = 11
    · subst g2
      rw [if_pos (by simp)] at hU; cases hU
      refine go_ok hT ?_; simp [List.replicate, hgp, hsp, hga, hsa, cells_inj, hb2]
      exact weak_less (by simp) (by simp [List.replicate])
    by_cases g3 : kind = 12
    · subst g3
      rw [if_pos (by simp)] at hU; cases hU
      refine go_ok hT ?_; simp [List.replicate, hgp, hsp, hga, hsa, cells_inj, hb2]
      exact weak_less (by simp) (by simp [List.replicate])
    · rw [if_neg (by omega)] at hU; cases hU
      refine go_ok hT ?_; simp [List.replicate, hgp, hsp, hga, hsa, g2, g3]
      exact weak_less (by simp) (by simp [List.replicate])
  clear hU
  refine cw_seq (go_ok hT ?_); simp [List.replicate, hga, hsa, hn]
  refine cw_weak (weak_row (H.length + 4) 46 5 (by rw [hga]; rfl)) ?_
  simp only [hsa, List.set_cons_succ, List.set_cons_zero]
  refine cw_seq (cw_seq (go_ok hT ?_)); simp [List.replicate]
  refine cw_block (cw_round (fun (i : Nat) => ⟨slots 78 [(0, .pbox p 0), (1, .int .i64 ((d + 2 : Nat) : Int)), (4, .pbox (H.length + 1) 0), (7, .pbox (H.length + 3) 0), (8, .int .i64 n), (9, .int .i64 i)], H.set p (it10 (d + 1) cU i).1.cells ++ [.nrow, .cells [.int .i64 0, .int .i64 0, .int .i64 0, .int .i64 0, .slref H.length 0 0 0], .nrow, .cells [.int .i64 kind, .int .i64 0, .int .i64 u, .int .i64 0, .slref (H.length + 4) 0 i i], .row true 46 5 ((it10 (d + 1) cU i).2.map encFm)]⟩)
    (fun i => i ≤ n) (fun i => n - i) 0 (by simp) ?_ ?_)
  · exact weak_less (by simp [it10]) (by simp [List.replicate])
  rintro N hN i hi
  change i ≤ n at hi
  have hwi : IntKind.i64.wrap ((i : Int) + 1) = ((i + 1 : Nat) : Int) := by rw [wrap_i64] <;> omega
  have hib : (it10 (d + 1) cU i).1.buf.length ≤ 1048576 := by rw [it10_buf]; exact hUb
  have hil := it10_len (d + 1) cU i
  have his : it10 (d + 1) cU (i + 1) = ((draw10 (d + 1) (it10 (d + 1) cU i).1).1, (it10 (d + 1) cU i).2 ++ [(draw10 (d + 1) (it10 (d + 1) cU i).1).2]) := rfl
  by_cases q : i < n
  · have q2 : ¬ n ≤ i := by omega
    have hbb : (i + 1) * 56 ≤ 140737488355328 := by omega
    refine cw_seq (cw_seq (go_ok hT ?_)); simp [List.replicate, q]
    refine go_ok hT ?_; simp [List.replicate]
    refine cw_seq (cw_block (goC_ok hT p ?_))
    simp [List.replicate, hgp, hsp, hga, hsa, isH, needs1, hpl, hwd, hbb, app1, hil]
    refine ⟨_, hib, rfl, ?_⟩
    refine go_ok hT ?_; simp [List.replicate, hwi]
    refine hN i (i + 1) _ (by show i + 1 ≤ n; omega) (by omega) (weak_less ?_ ?_)
    · rw [his, List.take_of_length_le (by simp [hil])]
      simp
    · simp [List.replicate]
  · have e : i = n := by omega
    subst e
    refine cw_seq (cw_seq (go_ok hT ?_)); simp [List.replicate]
    refine go_ok hT ?_; simp [List.replicate]
    refine cw_seq (go_ok hT ?_); simp [List.replicate, hga, hsa]
    refine go_ok hT ?_; simp [List.replicate]
    have hne : argB (it10 (d + 1) cU i).2 = .row true 46 5 ((it10 (d + 1) cU i).2.map encFm) := by
      match h : (it10 (d + 1) cU i).2 with
      | [] => rw [h] at hil; simp at hil; omega
      | x :: l => rfl
    refine ⟨⟨slots 78 [(4, .pbox (H.length + 1) 0)], H.set p (it10 (d + 1) cU i).1.cells ++ fmRows H.length (.mk kind 0 u 0 (it10 (d + 1) cU i).2)⟩, weak_less (by simp [fmRows, hne, hil]) (by simp [List.replicate]), ?_⟩
    show retH [Res.cell 5 true 4] _ _ _ _
    simp [retH, List.replicate, hga, fmRows, rowsF]
set_option maxHeartbeats 8000000 in
set_option maxRecDepth 100000 in
theorem ok_l10DrawR : ∀ d, d ≤ 100 → (ct_l10DrawR d).Ok Try.prog
  | 0, _ => by
    rintro ⟨p, c⟩ H ⟨hbuf, hp⟩
    exact low10 (by omega) hbuf hp
  | 1, _ => by
    rintro ⟨p, c⟩ H ⟨hbuf, hp⟩
    exact low10 (by omega) hbuf hp
  | d + 2, hd => by
    rintro ⟨p, c⟩ H ⟨hbuf, hp⟩
    change c.buf.length ≤ 1048576 at hbuf
    change H[p]? = some c.cells at hp
    refine OkH.of_self fun hB => OkH.dropR (by simp) ?_
    by_cases h0 : c.below 4 = 0
    · have hpl : p < H.length := (List.getElem?_eq_some_iff.1 hp).1
      have hD : draw10 (d + 2) c = leaf10 c.step := by
        unfold draw10
        rw [if_pos h0]
      rw [hD]
      have hl := fun t ht Q => leaf10_walk (Q := Q) (H := H.set p c.step.cells) (p := p) (c := c.step) hbuf (by rw [List.getElem?_set_self hpl]) t ht (selfB_set hB (curB _))
      simp only [List.length_set, List.set_set] at hl
      simp only [code_spec_l10Draw, leafC] at hl
      have hd1 : ¬ ((d : Int) + 2 < 2) := by omega
      have hgp : ∀ T : List Blk, (H ++ T)[p]? = some c.cells := fun T => by rw [List.getElem?_append_left hpl]; exact hp
      have hsp : ∀ y (T : List Blk), (H ++ T).set p y = H.set p y ++ T := fun y T => List.set_append_left _ _ hpl
      have hT : TabOk Try.prog _ := tab_h ok_once tab_nil
      refine OkH.of_cw fok_spec_l10Draw (head10 ?_)
      simp only [code_spec_l10Draw, nodeC']
      refine cw_seq (cw_seq (go_ok hT ?_)); simp [List.replicate, hgp, hsp, hbuf, hd1, cells_inj, h0]
      refine cw_cond (b := true) (by simp [Opd.ev]) (fun _ => ?_) (fun h => by cases h)
      refine hl _ ?_ _ fun st h => h
      simp [List.replicate]
    · exact node10_walk (by omega) (l10Draw_seal (ok_l10DrawR (d + 1) (by omega))) hbuf hp h0 hB
theorem ok_l10Draw (d : Nat) (h : d ≤ 100) : (ct_l10Draw d).Ok Try.prog := l10Draw_seal (ok_l10DrawR d h)
end Go.Vm
