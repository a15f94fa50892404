/- The reference's draws: bytes, numbers. No condition. -/
import Derived.Test.YtfelkhckpfjgjaaTS
import Derived.Test.YtfelkhckpfjgjaaVme
import Derived.Test.YtfelkhckpfjgjaaTCH
import Derived.Test.YtfelkhckpfjgjaaTWL
set_option linter.unusedSimpArgs false
set_option linter.unusedVariables false
namespace Go.Vm
open Go.Proofs
def nchkK (H : List Blk) (K : AV → List Blk → Prop) (v : AV) : Prop := evK (if fresh H v then match v with
    | .slref .. => none
    | v => some (v, H)
    else none) K
@[simp] theorem stepK_nchkK {P : Program} {T : Tab} {t : List AV} {H : List Blk} {x : Opd} {K : AV → List Blk → Prop} : stepK P T t H (.nchk x) K = nchkK H K (x.ev t) := (rfl)
@[simp] theorem nchkK_pbox {H : List Blk} {K : AV → List Blk → Prop} {b o : Nat} : nchkK H K (.pbox b o) = (isCells H[b]? = true ∧ K (.pbox b o) H) := by
  unfold nchkK
  rw [z_fresh_pbox]
  cases h : isCells H[b]?
  · simp [evK]
  · simp [evK]
def encU (c : UInt8) : AV := .int .u8 c.toNat
@[simp] theorem encU_eq (c : UInt8) : encU c = .int .u8 c.toNat := (rfl)
instance : Enc 1 encU := ⟨fun x y h => by
  simp only [encU, AV.int.injEq, true_and] at h
  exact UInt8.toNat_inj.1 (by omega), fun _ => rfl, fun _ => rfl⟩
structure Cur where
  buf : List UInt8
  pos : Nat
  seed : Int
def Cur.cells (c : Cur) : Blk := .cells [encL 1 encU c.buf, .int .i64 c.pos, .int .i64 c.seed]
def seedN (s : Int) : Int := IntKind.i64.wrap (IntKind.i64.wrap (s * 6364136223846793005) + 1442695040888963407)
def and255 (x : Int) : Int := IntKind.i64.wrap (((x % 2 ^ IntKind.i64.bits).toNat &&& 255 % 2 ^ IntKind.i64.bits : Nat) : Int)
theorem and255_eq (x : Int) : IntKind.i64.wrap (((x % 2 ^ IntKind.i64.bits).toNat &&& 255 % 2 ^ IntKind.i64.bits : Nat) : Int) = and255 x := (rfl)
def seedX (s : Int) : Int := IntKind.i64.wrap (((s.fdiv (2 ^ min 33 IntKind.i64.bits) % 2 ^ IntKind.i64.bits).toNat ^^^ (s.fdiv (2 ^ min 45 IntKind.i64.bits) % 2 ^ IntKind.i64.bits).toNat : Nat) : Int)
theorem seedX_eq (s : Int) : IntKind.i64.wrap (((s.fdiv (2 ^ min 33 IntKind.i64.bits) % 2 ^ IntKind.i64.bits).toNat ^^^ (s.fdiv (2 ^ min 45 IntKind.i64.bits) % 2 ^ IntKind.i64.bits).toNat : Nat) : Int) = seedX s := (rfl)
def seedB (s : Int) : Int := and255 (seedX s)
theorem and255_le (x : Int) : 0 ≤ and255 x ∧ and255 x ≤ 255 := by
  have h : (x % 2 ^ IntKind.i64.bits).toNat &&& 255 % 2 ^ IntKind.i64.bits ≤ 255 := Nat.le_trans Nat.and_le_right (Nat.mod_le _ _)
  unfold and255
  rw [wrap_i64] <;> omega
def Cur.byte (c : Cur) : Int := if h : c.pos < c.buf.length then and255 (IntKind.i64.wrap (seedB (seedN c.seed) + (c.buf[c.pos].toNat : Int))) else seedB (seedN c.seed)
def Cur.step (c : Cur) : Cur := ⟨c.buf, if c.pos < c.buf.length then c.pos + 1 else c.pos, seedN c.seed⟩
theorem byte_le (c : Cur) : 0 ≤ c.byte ∧ c.byte ≤ 255 := by
  unfold Cur.byte
  split
  · exact and255_le _
  · exact and255_le _
def code_spec_l1Byte : F := ⟨58,[.tmp 2],.seq (.reg [⟨some 2,.mov (.k (.int .i64 0)),none⟩]) (.seq (.reg [⟨some 4,.mov (.t 0),none⟩,⟨some 5,.mov (.t 0),none⟩,⟨some 6,.nchk (.t 5),none⟩,⟨some 7,.faddr 2 (.t 6),none⟩,⟨some 8,.load 1 false (.t 7),none⟩,⟨some 9,.bin .mul (.t 8) (.k (.int .i64 6364136223846793005)),none⟩,⟨some 10,.bin .add (.t 9) (.k (.int .i64 1442695040888963407)),none⟩,⟨some 11,.nchk (.t 4),none⟩,⟨some 12,.faddr 2 (.t 11),none⟩,⟨none,.store 1 (.t 12) (.t 10),none⟩]) (.seq (.dreg [false,false,false,false,false,false,false,false,false,false,true,true,true] [false,false,false,false,false,false,false,false,false,false,false,false,false] [⟨some 13,.mov (.t 0),none⟩,⟨some 14,.nchk (.t 13),none⟩,⟨some 15,.faddr 2 (.t 14),none⟩,⟨some 16,.load 1 false (.t 15),none⟩,⟨some 17,.bin .shr (.t 16) (.k (.int .u64 33)),none⟩,⟨some 18,.mov (.t 0),none⟩,⟨some 19,.nchk (.t 18),none⟩,⟨some 20,.faddr 2 (.t 19),none⟩,⟨some 21,.load 1 false (.t 20),none⟩,⟨some 22,.bin .shr (.t 21) (.k (.int .u64 45)),none⟩,⟨some 23,.bin .xor (.t 17) (.t 22),none⟩,⟨some 24,.bin .and (.t 23) (.k (.int .i64 255)),none⟩,⟨some 3,.mov (.t 24),none⟩]) (.seq (.seq (.dreg [false,false,false,false,false,false,false,false,false,true] [false,false,false,false,false,false,false,false,false,false] [⟨some 25,.mov (.t 0),none⟩,⟨some 26,.nchk (.t 25),none⟩,⟨some 27,.faddr 1 (.t 26),none⟩,⟨some 28,.load 1 false (.t 27),none⟩,⟨some 29,.mov (.t 0),none⟩,⟨some 30,.nchk (.t 29),none⟩,⟨some 31,.faddr 0 (.t 30),none⟩,⟨some 32,.load 1 false (.t 31),none⟩,⟨some 33,.len (.t 32),none⟩,⟨some 34,.bin .lss (.t 28) (.t 33),none⟩]) (.cond (.t 34) (.seq (.dreg [false,false,false,false,false,false,false,false,false,false,false,false,true,true,true] [false,false,false,false,false,false,false,false,false,false,false,false,false,false,false] [⟨some 35,.mov (.t 3),none⟩,⟨some 36,.mov (.t 0),none⟩,⟨some 37,.nchk (.t 36),none⟩,⟨some 38,.faddr 0 (.t 37),none⟩,⟨some 39,.load 1 false (.t 38),none⟩,⟨some 40,.mov (.t 0),none⟩,⟨some 41,.nchk (.t 40),none⟩,⟨some 42,.faddr 1 (.t 41),none⟩,⟨some 43,.load 1 false (.t 42),none⟩,⟨some 44,.iaddr 1 (.t 39) (.t 43),none⟩,⟨some 45,.load 1 false (.t 44),none⟩,⟨some 46,.conv .i64 (.t 45),none⟩,⟨some 47,.bin .add (.t 35) (.t 46),none⟩,⟨some 48,.bin .and (.t 47) (.k (.int .i64 255)),none⟩,⟨some 3,.mov (.t 48),none⟩]) (.reg [⟨some 49,.mov (.t 0),none⟩,⟨some 50,.mov (.t 0),none⟩,⟨some 51,.nchk (.t 50),none⟩,⟨some 52,.faddr 1 (.t 51),none⟩,⟨some 53,.load 1 false (.t 52),none⟩,⟨some 54,.bin .add (.t 53) (.k (.int .i64 1)),none⟩,⟨some 55,.nchk (.t 49),none⟩,⟨some 56,.faddr 1 (.t 55),none⟩,⟨none,.store 1 (.t 56) (.t 54),none⟩])) (.skip))) (.seq (.reg [⟨some 57,.mov (.t 3),none⟩,⟨some 2,.mov (.t 57),none⟩]) (.ret)))))⟩
theorem fok_spec_l1Byte : FOk Try.prog 89 code_spec_l1Byte := fok Try.func89 (by kernel_rfl)
@[simp] def ct_l1Byte : CtH := ⟨89, Nat × Cur, fun x H => x.2.buf.length ≤ 1048576 ∧ H[x.1]? = some x.2.cells, fun x => [.pbox x.1 0], fun x _ => .int .i64 x.2.byte, fun x H => H.set x.1 x.2.step.cells⟩
set_option maxHeartbeats 4000000 in
theorem ok_l1Byte : ct_l1Byte.Ok Try.prog := by
  rintro ⟨p, ⟨buf, pos, seed⟩⟩ H ⟨h0, h1⟩
  change buf.length ≤ 1048576 at h0
  change H[p]? = some (.cells [encL 1 encU buf, .int .i64 pos, .int .i64 seed]) at h1
  have hp : p < H.length := (List.getElem?_eq_some_iff.1 h1).1
  have hg : ∀ x, (H.set p x)[p]? = some x := fun x => by simp [hp]
  refine OkH.of_cw' fok_spec_l1Byte ?_
  simp only [code_spec_l1Byte, frame, List.length_cons, List.length_nil, List.replicate, Nat.reduceSub, Nat.reduceAdd, List.cons_append, List.nil_append]
  refine cw_seq (go_ok tab_nil ?_); simp
  refine cw_seq (go_ok tab_nil ?_); simp [List.replicate, h1, hg]
  change CW _ _ _ _ ⟨_, H.set p (Blk.cells [encL 1 encU buf, AV.int IntKind.i64 (pos : Int), AV.int IntKind.i64 (seedN seed)])⟩
  have hst : (Cur.mk buf pos seed).step = ⟨buf, if pos < buf.length then pos + 1 else pos, seedN seed⟩ := rfl
  have hby : (Cur.mk buf pos seed).byte = if h : pos < buf.length then and255 (IntKind.i64.wrap (seedB (seedN seed) + (buf[pos].toNat : Int))) else seedB (seedN seed) := rfl
  rw [hst, hby]
  clear hst hby
  generalize seedN seed = s
  refine cw_weak (weak_slots (t' := slots 58 [(0, .pbox p 0)]) (by simp [List.replicate, less_undef, less_refl])) ?_
  refine cw_seq (go_ok tab_nil ?_); simp [List.replicate, h1, hg, seedX_eq, and255_eq]
  have hB : and255 (seedX s) = seedB s := rfl
  simp only [hB]
  generalize hb : seedB s = b0 at *
  have hb0 := and255_le (seedX s)
  rw [hB] at hb0
  clear hB hb
  refine cw_weak (weak_slots (t' := slots 58 [(0, .pbox p 0), (3, .int .i64 b0)]) (by simp [List.replicate, less_undef, less_refl])) ?_
  by_cases g : pos < buf.length
  · have w1 : IntKind.i64.wrap ((buf[pos].toNat : Nat) : Int) = (buf[pos].toNat : Int) := by
      have := buf[pos].toNat_lt
      rw [wrap_i64] <;> omega
    have w2 : IntKind.i64.wrap ((pos : Int) + 1) = ((pos + 1 : Nat) : Int) := by rw [wrap_i64] <;> omega
    refine go_ok tab_nil ?_
    simp [List.replicate, h1, hg, g, retH, encU, w1, w2, and255_eq, Cur.cells]
  · refine go_ok tab_nil ?_
    simp [List.replicate, h1, hg, g, retH, Cur.cells]
def Cur.below (c : Cur) (n : Int) : Int := c.byte % n
theorem below_lt (c : Cur) {n : Int} (h : 0 < n) : 0 ≤ c.below n ∧ c.below n < n := ⟨Int.emod_nonneg _ (by omega), Int.emod_lt_of_pos _ h⟩
theorem step_buf (c : Cur) : c.step.buf = c.buf := rfl
def code_spec_l1Below : F := ⟨37,[.tmp 4],.seq (.reg [⟨some 4,.mov (.k (.int .i64 0)),none⟩]) (.seq (.seq (.reg [⟨some 9,.mov (.t 1),none⟩,⟨some 10,.bin .leq (.t 9) (.k (.int .i64 0)),none⟩]) (.cond (.t 10) (.seq (.reg [⟨some 4,.mov (.k (.int .i64 0)),none⟩]) (.ret)) (.skip))) (.seq (.seq (.reg [⟨some 11,.mov (.t 1),none⟩,⟨some 12,.bin .leq (.t 11) (.k (.int .i64 256)),none⟩]) (.cond (.t 12) (.seq (.reg [⟨some 13,.mov (.t 0),none⟩,⟨some 14,.call 89 [.t 13],none⟩,⟨some 15,.mov (.t 1),none⟩,⟨some 16,.bin .rem (.t 14) (.t 15),none⟩,⟨some 4,.mov (.t 16),none⟩]) (.ret)) (.skip))) (.seq (.reg [⟨some 17,.mov (.t 0),none⟩,⟨some 18,.call 89 [.t 17],none⟩,⟨some 5,.mov (.t 18),none⟩]) (.seq (.reg [⟨some 19,.mov (.t 0),none⟩,⟨some 20,.call 89 [.t 19],none⟩,⟨some 6,.mov (.t 20),none⟩]) (.seq (.reg [⟨some 21,.mov (.t 0),none⟩,⟨some 22,.call 89 [.t 21],none⟩,⟨some 7,.mov (.t 22),none⟩]) (.seq (.reg [⟨some 23,.mov (.t 0),none⟩,⟨some 24,.call 89 [.t 23],none⟩,⟨some 8,.mov (.t 24),none⟩]) (.seq (.reg [⟨some 25,.mov (.t 5),none⟩,⟨some 26,.bin .mul (.t 25) (.k (.int .i64 16777216)),none⟩,⟨some 27,.mov (.t 6),none⟩,⟨some 28,.bin .mul (.t 27) (.k (.int .i64 65536)),none⟩,⟨some 29,.bin .add (.t 26) (.t 28),none⟩,⟨some 30,.mov (.t 7),none⟩,⟨some 31,.bin .mul (.t 30) (.k (.int .i64 256)),none⟩,⟨some 32,.bin .add (.t 29) (.t 31),none⟩,⟨some 33,.mov (.t 8),none⟩,⟨some 34,.bin .add (.t 32) (.t 33),none⟩,⟨some 35,.mov (.t 1),none⟩,⟨some 36,.bin .rem (.t 34) (.t 35),none⟩,⟨some 4,.mov (.t 36),none⟩]) (.ret))))))))⟩
theorem fok_spec_l1Below : FOk Try.prog 39 code_spec_l1Below := fok Try.func39 (by kernel_rfl)
@[simp] def ct_l1Below : CtH := ⟨39, Nat × Cur × Int, fun x H => (0 < x.2.2 ∧ x.2.2 ≤ 256) ∧ x.2.1.buf.length ≤ 1048576 ∧ H[x.1]? = some x.2.1.cells, fun x => [.pbox x.1 0, .int .i64 x.2.2], fun x _ => .int .i64 (x.2.1.below x.2.2), fun x H => H.set x.1 x.2.1.step.cells⟩
set_option maxHeartbeats 1000000 in
theorem ok_l1Below : ct_l1Below.Ok Try.prog := by
  rintro ⟨p, c, n⟩ H ⟨⟨h1, h2⟩, h3, h4⟩
  change 0 < n at h1
  change n ≤ 256 at h2
  change c.buf.length ≤ 1048576 at h3
  change H[p]? = some c.cells at h4
  have n1 : ¬ n ≤ 0 := by omega
  have n2 : ¬ n = 0 := by omega
  have hb := byte_le c
  have ht : c.byte.tmod n = c.below n := Int.tmod_eq_emod_of_nonneg hb.1
  have hc : isCells H[p]? = true := by rw [h4]; rfl
  refine OkH.of_cw' fok_spec_l1Below (go_ok (tab_h ok_l1Byte tab_nil) ?_)
  simp [code_spec_l1Below, List.replicate, n1, n2, h2, h3, h4, hb, ht, retH]
  exact ⟨c, h3, rfl, ht.symm, rfl⟩
def code_spec_l1Once : F := ⟨9,[.tmp 4],.seq (.reg [⟨some 4,.mov (.k (.bool false)),none⟩]) (.seq (.reg [⟨some 5,.mov (.t 0),none⟩,⟨some 6,.mov (.t 1),none⟩,⟨some 7,.call 39 [.t 5,.t 6],none⟩,⟨some 8,.bin .eql (.t 7) (.k (.int .i64 0)),none⟩,⟨some 4,.mov (.t 8),none⟩]) (.ret))⟩
theorem fok_spec_l1Once : FOk Try.prog 38 code_spec_l1Once := fok Try.func38 (by kernel_rfl)
@[simp] def ct_l1Once : CtH := ⟨38, Nat × Cur × Int, fun x H => (0 < x.2.2 ∧ x.2.2 ≤ 256) ∧ x.2.1.buf.length ≤ 1048576 ∧ H[x.1]? = some x.2.1.cells, fun x => [.pbox x.1 0, .int .i64 x.2.2], fun x _ => .bool (decide (x.2.1.below x.2.2 = 0)), fun x H => H.set x.1 x.2.1.step.cells⟩
theorem ok_l1Once : ct_l1Once.Ok Try.prog := by
  rintro ⟨p, c, n⟩ H ⟨⟨h1, h2⟩, h3, h4⟩
  change 0 < n at h1
  change n ≤ 256 at h2
  change c.buf.length ≤ 1048576 at h3
  change H[p]? = some c.cells at h4
  refine OkH.of_cw' fok_spec_l1Once (go_ok (tab_h ok_l1Below tab_nil) ?_)
  simp [code_spec_l1Once, List.replicate, h1, h2, retH]
  exact ⟨c, h3, h4, Iff.rfl, rfl⟩
def code_spec_l1New : F := ⟨32,[.tmp 2],.seq (.reg [⟨some 2,.mov (.k .nilp),none⟩]) (.seq (.reg [⟨some 5,.mov (.t 0),none⟩,⟨some 6,.len (.t 5),none⟩,⟨some 7,.bin .add (.k (.int .i64 26583)) (.t 6),none⟩,⟨some 3,.mov (.t 7),none⟩]) (.seq (.seq (.reg [⟨some 4,.mov (.k (.int .i64 0)),none⟩]) (.block 0 (.loop (.seq (.seq (.reg [⟨some 8,.mov (.t 4),none⟩,⟨some 9,.mov (.t 0),none⟩,⟨some 10,.len (.t 9),none⟩,⟨some 11,.bin .lss (.t 8) (.t 10),none⟩,⟨some 12,.mov (.t 11),none⟩,⟨some 13,.mov (.t 4),some (12,true)⟩,⟨some 14,.bin .lss (.t 13) (.k (.int .i64 4000)),some (12,true)⟩,⟨some 15,.pick (.t 12) (.t 14) (.k (.bool false)),none⟩]) (.cond (.t 15) (.skip) (.exit 0))) (.seq (.block 1 (.reg [⟨some 18,.mov (.t 3),none⟩,⟨some 19,.bin .mul (.t 18) (.k (.int .i64 131)),none⟩,⟨some 20,.mov (.t 0),none⟩,⟨some 21,.mov (.t 4),none⟩,⟨some 22,.iaddr 1 (.t 20) (.t 21),none⟩,⟨some 23,.load 1 false (.t 22),none⟩,⟨some 24,.conv .i64 (.t 23),none⟩,⟨some 25,.bin .add (.t 19) (.t 24),none⟩,⟨some 26,.bin .add (.t 25) (.k (.int .i64 7)),none⟩,⟨some 27,.bin .and (.t 26) (.k (.int .i64 1073741823)),none⟩,⟨some 3,.mov (.t 27),none⟩])) (.reg [⟨some 16,.mov (.t 4),none⟩,⟨some 17,.bin .add (.t 16) (.k (.int .i64 1)),none⟩,⟨some 4,.mov (.t 17),none⟩])))))) (.seq (.reg [⟨some 28,.mov (.t 0),none⟩,⟨some 29,.mov (.t 3),none⟩,⟨some 30,.build [(.sl .nil 0 []),(.int .i64 0),(.int .i64 0)] [(0,1,.t 28),(2,1,.t 29)],none⟩,⟨some 31,.box (.t 30),none⟩,⟨some 2,.mov (.t 31),none⟩]) (.ret))))⟩
theorem fok_spec_l1New : FOk Try.prog 36 code_spec_l1New := fok Try.func36 (by kernel_rfl)
def mixU (s : Int) (b : UInt8) : Int := IntKind.i64.wrap (((IntKind.i64.wrap (IntKind.i64.wrap (IntKind.i64.wrap (s * 131) + IntKind.i64.wrap (b.toNat : Int)) + 7) % 2 ^ IntKind.i64.bits).toNat &&& 1073741823 % 2 ^ IntKind.i64.bits : Nat) : Int)
theorem mixU_eq (s : Int) (b : UInt8) : IntKind.i64.wrap (((IntKind.i64.wrap (IntKind.i64.wrap (IntKind.i64.wrap (s * 131) + IntKind.i64.wrap (b.toNat : Int)) + 7) % 2 ^ IntKind.i64.bits).toNat &&& 1073741823 % 2 ^ IntKind.i64.bits : Nat) : Int) = mixU s b := (rfl)
def seed0 (bs : List UInt8) : Int := (bs.take 4000).foldl mixU (26583 + bs.length)
def cur0 (bs : List UInt8) : Cur := ⟨bs, 0, seed0 bs⟩
@[simp] def ct_l1New : CtH := ⟨36, List UInt8, fun bs _ => bs.length ≤ 1048576, fun bs => [encL 1 encU bs], fun _ H => .pbox H.length 0, fun bs H => H ++ [(cur0 bs).cells]⟩
set_option maxHeartbeats 1000000 in
theorem ok_l1New : ct_l1New.Ok Try.prog := by
    intro bs H hl
    change List UInt8 at bs
    change bs.length ≤ 1048576 at hl
    have w0 : IntKind.i64.wrap (26583 + (bs.length : Int)) = 26583 + bs.length := by rw [wrap_i64] <;> omega
    refine OkH.of_cw' fok_spec_l1New (go_ok tab_nil ?_)
    simp [code_spec_l1New, List.replicate]
    try rw [w0]
    refine cw_round (fun (i : Nat) => ⟨slots 32 [(0, encL 1 encU bs), (3, .int .i64 ((bs.take i).foldl mixU (26583 + bs.length))), (4, .int .i64 i)], H⟩)
      (fun i => i ≤ bs.length ∧ i ≤ 4000) (fun i => 4000 - i) 0 (by simp) ?_ ?_
    · exact weak_slots (by simp [List.replicate, w0, less_undef, less_refl])
    rintro N hN i ⟨hi, hi4⟩
    have hw : IntKind.i64.wrap ((i : Int) + 1) = ((i + 1 : Nat) : Int) := by rw [wrap_i64] <;> omega
    by_cases g : i < bs.length
    · by_cases g4 : i < 4000
      · have g2 : ¬ bs.length ≤ i := by omega
        have g3 : ¬ 4000 ≤ i := by omega
        have g4i : (i : Int) < 4000 := by omega
        refine go_ok tab_nil ?_
        simp [List.replicate, hw, g, g2, g3, g4, g4i, mixU_eq]
        refine hN i (i + 1) _ ⟨by omega, by omega⟩ (by omega) (weak_slots ?_)
        have e : (bs.take (i + 1)).foldl mixU (26583 + bs.length) = mixU ((bs.take i).foldl mixU (26583 + bs.length)) bs[i] := by
          rw [List.take_succ_eq_append_getElem g, List.foldl_append]; rfl
        simp [List.replicate, e, less_undef, less_refl]
      · have e : i = 4000 := by omega
        subst e
        refine go_ok tab_nil ?_
        simp [List.replicate, hw, g, retH]
        exact ⟨fun _ => rfl, fun _ => rfl⟩
    · have e : i = bs.length := by omega
      subst e
      refine go_ok tab_nil ?_
      simp [List.replicate, hw, retH]
      simp only [cur0, Cur.cells, seed0]
      rw [List.take_of_length_le hi4]
      rfl
end Go.Vm
namespace Go.Vm
open Go.Proofs
@[simp] def ct_sCanonN : CtN := ⟨92, Heap, fun x => szHeap x ≤ 1048576 ∧ cellsB x = true, fun x => [encHeap x], fun x => .agg [.slref 7 0 (canonH x).vars.length (canonH x).vars.length, .slref 8 0 (canonH x).next.length (canonH x).next.length],
  fun x => [.dead, .dead, .dead, .cells [.slref 7 0 (canonH x).vars.length (canonH x).vars.length, .slref 8 0 (canonH x).next.length (canonH x).next.length], .dead, .dead, .dead, .row true 3 1 ((canonH x).vars.map encInt), .row true 3 1 ((canonH x).next.map encInt)]⟩
set_option maxHeartbeats 2000000 in
theorem ok_sCanonH (x : Heap) (hx : szHeap x ≤ 1048576) (hc : cellsB x = true) : OkH Try.prog 92 [encHeap x] [] (ct_sCanonN.res x) (ct_sCanonN.new x) := by
  obtain ⟨vs, nx⟩ := x
  have hx' : szHeap ⟨vs, nx⟩ ≤ 1048576 := hx
  change vs.length + nx.length ≤ 1048576 at hx
  simp only [ct_sCanonN]
  refine OkH.of_cw fok_spec_CanonHeap (go_ok (tab_cons ok_l7Cells (tab_cons ok_l7Order tab_nil)) ?_)
  have hg := met_good ⟨vs, nx⟩
  have hgl := goodC_len hg
  generalize hm : met ⟨vs, nx⟩ = order at *
  have hr : canonH ⟨vs, nx⟩ = ⟨vs.map (nameT order), order.map (nextN order nx)⟩ := by simp only [canonH, hc, hm, if_true]; rfl
  change goodC nx.length order at hg
  change order.length ≤ nx.length at hgl
  have hol : order.length ≤ 1048576 := by omega
  simp only [hr]
  generalize hA : vs.map (nameT order) = A
  generalize hZ : order.map (nextN order nx) = Z
  simp [code_spec_CanonHeap, List.replicate, hx', hc, hm, -List.map_map]
  refine cw_round (fun (p : Nat × List Int) => ⟨slots 55 [(1, .pbox 0 0), (2, .pbox 3 0), (3, encL 1 encInt order), (4, .pbox 6 0), (5, .int .i64 p.1)], [.cells [encL 1 encInt vs, encL 1 encInt nx], .nrow, .nrow, .cells [.slref 1 0 0 0, .slref 2 0 0 0], .dead, .dead, .cells [.slref 7 0 p.2.length p.2.length, .slref 8 0 0 0], .row true 3 1 (p.2.map encInt), .nrow]⟩)
    (fun p => p.1 ≤ vs.length ∧ p.2 = (vs.take p.1).map (nameT order)) (fun p => vs.length - p.1) (0, []) ⟨by simp, by simp⟩ ?_ ?_
  · refine (weak_row 7 3 1 rfl).trans (weak_seal 9 (by simp) ?_ ?_)
    · simp
    · simp [List.replicate]
  · rintro N hN ⟨i, ys⟩ ⟨hi, hy⟩
    change i ≤ vs.length at hi
    change ys = (vs.take i).map (nameT order) at hy
    have hw : IntKind.i64.wrap ((i : Int) + 1) = ((i + 1 : Nat) : Int) := by rw [wrap_i64] <;> omega
    have hyl : ys.length = i := by rw [hy]; simp; omega
    have hb : (ys.length + 1) * 8 ≤ 140737488355328 := by omega
    by_cases g : i < vs.length
    · have g2 : ¬ vs.length ≤ i := by omega
      have hts : (vs.take (i + 1)).map (nameT order) = ys ++ [nameT order vs[i]] := by rw [hy]; exact take_map2 _ g
      refine go_ok (tab_cons ok_l7New tab_nil) ?_
      simp [List.replicate, hw, g, g2, hb, app1, hol]
      refine hN (i, ys) (i + 1, ys ++ [nameT order vs[i]]) _ ⟨by simp; omega, hts.symm⟩ (by simp; omega) (weak_seal 9 (by simp) ?_ ?_)
      · simp
      · simp [List.replicate]
    · have e : i = vs.length := by omega
      subst e
      rw [List.take_length, hA] at hy
      subst hy
      refine go_ok tab_nil ?_
      simp [List.replicate]
      refine cw_round (fun (p : Nat × List Int) => ⟨slots 55 [(1, .pbox 0 0), (2, .pbox 3 0), (3, encL 1 encInt order), (4, .pbox 6 0), (6, .int .i64 p.1)], [.cells [encL 1 encInt vs, encL 1 encInt nx], .nrow, .nrow, .cells [.slref 1 0 0 0, .slref 2 0 0 0], .dead, .dead, .cells [.slref 7 0 ys.length ys.length, .slref 8 0 p.2.length p.2.length], .row true 3 1 (ys.map encInt), .row true 3 1 (p.2.map encInt)]⟩)
        (fun p => p.1 ≤ order.length ∧ p.2 = (order.take p.1).map (nextN order nx)) (fun p => order.length - p.1) (0, []) ⟨by simp, by simp⟩ ?_ ?_
      · refine (weak_row 8 3 1 rfl).trans (weak_seal 9 (by simp) ?_ ?_)
        · simp
        · simp [List.replicate]
      · rintro M hM ⟨j, zs⟩ ⟨hj, hz⟩
        change j ≤ order.length at hj
        change zs = (order.take j).map (nextN order nx) at hz
        have hw : IntKind.i64.wrap ((j : Int) + 1) = ((j + 1 : Nat) : Int) := by rw [wrap_i64] <;> omega
        have hzl : zs.length = j := by rw [hz]; simp; omega
        have hb : (zs.length + 1) * 8 ≤ 140737488355328 := by omega
        by_cases k : j < order.length
        · have k2 : ¬ order.length ≤ j := by omega
          have hcell := hg.2 order[j] (List.getElem_mem k)
          obtain ⟨c0, c1⟩ := hcell
          have c2 : order[j].toNat < nx.length := by omega
          have hnx : nextN order nx order[j] = nameT order nx[order[j].toNat] := by simp [nextN, c2]
          have hts : (order.take (j + 1)).map (nextN order nx) = zs ++ [nameT order nx[order[j].toNat]] := by rw [hz, ← hnx]; exact take_map2 _ k
          refine go_ok (tab_cons ok_l7New tab_nil) ?_
          simp [List.replicate, hw, k, k2, hb, app1, hol, c0, c1, c2]
          refine hM (j, zs) (j + 1, zs ++ [nameT order nx[order[j].toNat]]) _ ⟨by simp; omega, hts.symm⟩ (by simp; omega) (weak_seal 9 (by simp) ?_ ?_)
          · simp
          · simp [List.replicate]
        · have e : j = order.length := by omega
          subst e
          rw [List.take_length, hZ] at hz
          subst hz
          refine go_ok tab_nil ?_
          simp [List.replicate]
          refine ⟨⟨slots 55 [(2, .pbox 3 0)], _⟩, weak_less (H' := [.dead, .dead, .dead, .cells [.slref 7 0 ys.length ys.length, .slref 8 0 zs.length zs.length], .dead, .dead, .dead, .row true 3 1 (ys.map encInt), .row true 3 1 (zs.map encInt)]) ?_ ?_, ?_⟩
          · simp
          · simp [List.replicate]
          · simp [retH, List.replicate]
theorem ok_sCanonN : ct_sCanonN.Ok Try.prog :=
  ⟨fun x hx => ok_sCanonH x hx.1 hx.2, fun _ _ => rfl, fun x _ k hk => by
    simp only [ct_sCanonN, List.mem_cons, List.not_mem_nil, or_false] at hk
    rcases hk with rfl | rfl | rfl | rfl | rfl | rfl | rfl | rfl | rfl <;> first | rfl | simp [ownB]⟩
end Go.Vm
