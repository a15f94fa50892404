/- The program's plain data, and what stands for it. No condition. -/
import Derived.Test.YtfelkhckpfjgjaaGreatDoorVme
import Derived.KernelRfl
import Derived.Test.YtfelkhckpfjgjaaGreatDoorRows
set_option linter.unusedSimpArgs false
set_option linter.unusedVariables false
namespace Go.Vm
open Go.Proofs

def encStr (s : List UInt8) : AV := .str s
@[simp] theorem encStr_eq (s : List UInt8) : encStr s = .str s := (rfl)
instance : Enc 1 encStr := ⟨fun _ _ h => by simpa [encStr] using h, fun _ => rfl, fun _ => rfl⟩

/-- A formula: its kind, its numbers, its parts. -/
inductive Fm where
  | mk (kind k u v : Int) (args : List Fm)
  deriving Inhabited
def Fm.kind : Fm → Int | .mk a _ _ _ _ => a
def Fm.k : Fm → Int | .mk _ a _ _ _ => a
def Fm.u : Fm → Int | .mk _ _ a _ _ => a
def Fm.v : Fm → Int | .mk _ _ _ a _ => a
def Fm.args : Fm → List Fm | .mk _ _ _ _ a => a
@[simp] theorem Fm.kind_mk (a b c d : Int) (l : List Fm) : (Fm.mk a b c d l).kind = a := (rfl)
@[simp] theorem Fm.k_mk (a b c d : Int) (l : List Fm) : (Fm.mk a b c d l).k = b := (rfl)
@[simp] theorem Fm.u_mk (a b c d : Int) (l : List Fm) : (Fm.mk a b c d l).u = c := (rfl)
@[simp] theorem Fm.v_mk (a b c d : Int) (l : List Fm) : (Fm.mk a b c d l).v = d := (rfl)
@[simp] theorem Fm.args_mk (a b c d : Int) (l : List Fm) : (Fm.mk a b c d l).args = l := (rfl)
@[simp] theorem Fm.eta (x : Fm) : Fm.mk x.kind x.k x.u x.v x.args = x := by cases x; rfl

mutual
def encFm : Fm → AV
  | .mk kind k u v args => .agg [.int .i64 kind, .int .i64 k, .int .i64 u, .int .i64 v, mksl 5 (encFms args)]
def encFms : List Fm → List AV
  | [] => []
  | x :: xs => encFm x :: encFms xs
end
theorem encFms_map : ∀ l : List Fm, encFms l = l.map encFm
  | [] => by simp [encFms]
  | x :: xs => by simp [encFms, encFms_map xs]
theorem encFm_eq (x : Fm) : encFm x = .agg [.int .i64 x.kind, .int .i64 x.k, .int .i64 x.u, .int .i64 x.v, encL 5 encFm x.args] := by
  cases x
  rw [encFm, encFms_map]
  rfl
mutual
theorem encFm_inj : ∀ x y : Fm, encFm x = encFm y → x = y
  | .mk a b c d l, .mk a' b' c' d' l', h => by
    simp only [encFm, AV.agg.injEq, List.cons.injEq, AV.int.injEq, true_and, and_true] at h
    obtain ⟨h1, h2, h3, h4, h5⟩ := h
    rw [h1, h2, h3, h4, encFms_inj l l' (mksl_inj h5)]
theorem encFms_inj : ∀ l l' : List Fm, encFms l = encFms l' → l = l'
  | [], [], _ => rfl
  | [], _ :: _, h => by simp [encFms] at h
  | _ :: _, [], h => by simp [encFms] at h
  | x :: xs, y :: ys, h => by
    simp only [encFms, List.cons.injEq] at h
    rw [encFm_inj x y h.1, encFms_inj xs ys h.2]
end
instance : Enc 5 encFm := ⟨encFm_inj, fun x => by rw [encFm_eq]; rfl, fun x => by rw [encFm_eq]; simp⟩
@[simp] theorem encFm_cells (x : Fm) : (encFm x).cells = [.int .i64 x.kind, .int .i64 x.k, .int .i64 x.u, .int .i64 x.v, encL 5 encFm x.args] := by rw [encFm_eq]; rfl
@[simp] theorem encFm_stored (x : Fm) : (encFm x).stored = some [.int .i64 x.kind, .int .i64 x.k, .int .i64 x.u, .int .i64 x.v, encL 5 encFm x.args] := by rw [encFm_eq]; rfl
@[simp] theorem encFm_isCell (x : Fm) : (encFm x).isCell = false := by rw [encFm_eq]; rfl
@[simp] theorem encFm_scalar (x : Fm) : (encFm x).scalar = false := by rw [encFm_eq]; simp
@[simp] theorem encFm_refs (x : Fm) : (encFm x).refs = [] := by rw [encFm_eq]; simp
@[simp] theorem encFm_lendEls (m : Nat → Blk → Bool) (H : List Blk) (n : Nat) (x : Fm) (l : List AV) : lendEls m H n (encFm x :: l) = (lendEls m H n l).map (encFm x :: ·) := lendEls_cons_enc (sz := 5) x l
@[simp] theorem encFm_lend (m : Nat → Blk → Bool) (H : List Blk) (x : Fm) : lend m H (encFm x) = some (encFm x) := by rw [encFm_eq]; simp
@[simp] theorem encFm_mk (kind k u v : Int) (args : List Fm) : encFm (.mk kind k u v args) = .agg [.int .i64 kind, .int .i64 k, .int .i64 u, .int .i64 v, encL 5 encFm args] := by rw [encFm_eq]; rfl
@[simp] theorem encFm_withCells {a b c d : Int} {l : List Fm} {x : Fm} : (encFm x).withCells [.int .i64 a, .int .i64 b, .int .i64 c, .int .i64 d, encL 5 encFm l] = encFm (.mk a b c d l) := by rw [encFm_eq, encFm_eq]; simp
@[simp] theorem encFm_belowE (d : Nat) (x : Fm) : belowE d (encFm x) = true := by rw [encFm_eq]; simp
@[simp] theorem encFm_iff (x y : Fm) : (encFm x = encFm y) = (x = y) := propext ⟨encFm_inj x y, fun h => by rw [h]⟩
@[simp] theorem encFm_agg {a b c d : Int} {l : List Fm} {x : Fm} : (.agg [.int .i64 a, .int .i64 b, .int .i64 c, .int .i64 d, encL 5 encFm l] = encFm x) = (Fm.mk a b c d l = x) := by
  rw [show AV.agg [.int .i64 a, .int .i64 b, .int .i64 c, .int .i64 d, encL 5 encFm l] = encFm (.mk a b c d l) by rw [encFm_eq]; rfl]
  exact propext ⟨encFm_inj _ _, fun h => by rw [h]⟩

structure Stmt where
  kind : Int
  a : List UInt8
  b : List UInt8
  deriving Inhabited, DecidableEq
def encStmt (x : Stmt) : AV := .agg [.int .i64 x.kind, .str x.a, .str x.b]
@[simp] theorem encStmt_cells (x : Stmt) : (encStmt x).cells = [.int .i64 x.kind, .str x.a, .str x.b] := (rfl)
theorem encStmt_eq (x : Stmt) : encStmt x = .agg [.int .i64 x.kind, .str x.a, .str x.b] := (rfl)
@[simp] theorem Stmt.eta (x : Stmt) : (Stmt.mk x.kind x.a x.b) = x := (rfl)
theorem encStmt_inj (x y : Stmt) (h : encStmt x = encStmt y) : x = y := by
  simp only [encStmt_eq, AV.agg.injEq, List.cons.injEq, AV.int.injEq, AV.str.injEq, encL_inj, true_and, and_true] at h
  obtain ⟨h0, h1, h2⟩ := h
  have e : ∀ z : Stmt, (Stmt.mk z.kind z.a z.b) = z := fun z => rfl
  rw [← e x, ← e y, h0, h1, h2]
instance : Enc 3 encStmt := ⟨encStmt_inj, fun _ => rfl, fun x => by simp [encStmt_eq]⟩
@[simp] theorem encStmt_agg {q0 : Int} {q1 : List UInt8} {q2 : List UInt8} {x : Stmt} : (.agg [.int .i64 q0, .str q1, .str q2] = encStmt x) = ((Stmt.mk q0 q1 q2) = x) := by
  rw [show AV.agg [.int .i64 q0, .str q1, .str q2] = encStmt (Stmt.mk q0 q1 q2) from rfl]
  exact propext ⟨encStmt_inj _ _, fun h => by rw [h]⟩
@[simp] theorem encStmt_stored (x : Stmt) : (encStmt x).stored = some [.int .i64 x.kind, .str x.a, .str x.b] := (rfl)
@[simp] theorem encStmt_isCell (x : Stmt) : (encStmt x).isCell = false := (rfl)
@[simp] theorem encStmt_scalar (x : Stmt) : (encStmt x).scalar = true := by simp [encStmt_eq]
@[simp] theorem encStmt_refs (x : Stmt) : (encStmt x).refs = [] := by simp [encStmt_eq]
@[simp] theorem encStmt_lendEls (m : Nat → Blk → Bool) (H : List Blk) (n : Nat) (x : Stmt) (l : List AV) : lendEls m H n (encStmt x :: l) = (lendEls m H n l).map (encStmt x :: ·) := lendEls_cons_enc (f := encStmt) x l
@[simp] theorem encStmt_lend (m : Nat → Blk → Bool) (H : List Blk) (x : Stmt) : lend m H (encStmt x) = some (encStmt x) := by simp [encStmt_eq]
@[simp] theorem encStmt_withCells {q0 : Int} {q1 : List UInt8} {q2 : List UInt8} {x : Stmt} : (encStmt x).withCells [.int .i64 q0, .str q1, .str q2] = encStmt (Stmt.mk q0 q1 q2) := by simp [encStmt_eq]
@[simp] theorem encStmt_belowE (d : Nat) (x : Stmt) : belowE d (encStmt x) = true := by simp [encStmt_eq]
@[simp] theorem encStmt_iff (x y : Stmt) : (encStmt x = encStmt y) = (x = y) := propext ⟨encStmt_inj x y, fun h => by rw [h]⟩
@[simp] theorem encStmt_mk (kind a b) : encStmt ⟨kind, a, b⟩ = .agg [.int .i64 kind, .str a, .str b] := (rfl)

structure Edge where
  src : Int
  dst : Int
  stmt : Stmt
  deriving Inhabited, DecidableEq
def encEdge (x : Edge) : AV := .agg [.int .i64 x.src, .int .i64 x.dst, .int .i64 x.stmt.kind, .str x.stmt.a, .str x.stmt.b]
@[simp] theorem encEdge_cells (x : Edge) : (encEdge x).cells = [.int .i64 x.src, .int .i64 x.dst, .int .i64 x.stmt.kind, .str x.stmt.a, .str x.stmt.b] := (rfl)
theorem encEdge_eq (x : Edge) : encEdge x = .agg [.int .i64 x.src, .int .i64 x.dst, .int .i64 x.stmt.kind, .str x.stmt.a, .str x.stmt.b] := (rfl)
@[simp] theorem Edge.eta (x : Edge) : (Edge.mk x.src x.dst x.stmt) = x := (rfl)
theorem encEdge_inj (x y : Edge) (h : encEdge x = encEdge y) : x = y := by
  simp only [encEdge_eq, AV.agg.injEq, List.cons.injEq, AV.int.injEq, AV.str.injEq, encL_inj, true_and, and_true] at h
  obtain ⟨h0, h1, h2, h3, h4⟩ := h
  have e : ∀ z : Edge, (Edge.mk z.src z.dst (Stmt.mk z.stmt.kind z.stmt.a z.stmt.b)) = z := fun z => rfl
  rw [← e x, ← e y, h0, h1, h2, h3, h4]
instance : Enc 5 encEdge := ⟨encEdge_inj, fun _ => rfl, fun x => by simp [encEdge_eq]⟩
@[simp] theorem encEdge_agg {q0 : Int} {q1 : Int} {q2 : Int} {q3 : List UInt8} {q4 : List UInt8} {x : Edge} : (.agg [.int .i64 q0, .int .i64 q1, .int .i64 q2, .str q3, .str q4] = encEdge x) = ((Edge.mk q0 q1 (Stmt.mk q2 q3 q4)) = x) := by
  rw [show AV.agg [.int .i64 q0, .int .i64 q1, .int .i64 q2, .str q3, .str q4] = encEdge (Edge.mk q0 q1 (Stmt.mk q2 q3 q4)) from rfl]
  exact propext ⟨encEdge_inj _ _, fun h => by rw [h]⟩
@[simp] theorem encEdge_stored (x : Edge) : (encEdge x).stored = some [.int .i64 x.src, .int .i64 x.dst, .int .i64 x.stmt.kind, .str x.stmt.a, .str x.stmt.b] := (rfl)
@[simp] theorem encEdge_isCell (x : Edge) : (encEdge x).isCell = false := (rfl)
@[simp] theorem encEdge_scalar (x : Edge) : (encEdge x).scalar = true := by simp [encEdge_eq]
@[simp] theorem encEdge_refs (x : Edge) : (encEdge x).refs = [] := by simp [encEdge_eq]
@[simp] theorem encEdge_lendEls (m : Nat → Blk → Bool) (H : List Blk) (n : Nat) (x : Edge) (l : List AV) : lendEls m H n (encEdge x :: l) = (lendEls m H n l).map (encEdge x :: ·) := lendEls_cons_enc (f := encEdge) x l
@[simp] theorem encEdge_lend (m : Nat → Blk → Bool) (H : List Blk) (x : Edge) : lend m H (encEdge x) = some (encEdge x) := by simp [encEdge_eq]
@[simp] theorem encEdge_withCells {q0 : Int} {q1 : Int} {q2 : Int} {q3 : List UInt8} {q4 : List UInt8} {x : Edge} : (encEdge x).withCells [.int .i64 q0, .int .i64 q1, .int .i64 q2, .str q3, .str q4] = encEdge (Edge.mk q0 q1 (Stmt.mk q2 q3 q4)) := by simp [encEdge_eq]
@[simp] theorem encEdge_belowE (d : Nat) (x : Edge) : belowE d (encEdge x) = true := by simp [encEdge_eq]
@[simp] theorem encEdge_iff (x y : Edge) : (encEdge x = encEdge y) = (x = y) := propext ⟨encEdge_inj x y, fun h => by rw [h]⟩
@[simp] theorem encEdge_mk (src dst stmt) : encEdge ⟨src, dst, stmt⟩ = .agg [.int .i64 src, .int .i64 dst, .int .i64 stmt.kind, .str stmt.a, .str stmt.b] := (rfl)

structure Prog where
  vars : List (List UInt8)
  points : Int
  edges : List (Edge)
  deriving Inhabited, DecidableEq
def encProg (x : Prog) : AV := .agg [encL 1 encStr x.vars, .int .i64 x.points, encL 5 encEdge x.edges]
@[simp] theorem encProg_cells (x : Prog) : (encProg x).cells = [encL 1 encStr x.vars, .int .i64 x.points, encL 5 encEdge x.edges] := (rfl)
theorem encProg_eq (x : Prog) : encProg x = .agg [encL 1 encStr x.vars, .int .i64 x.points, encL 5 encEdge x.edges] := (rfl)
@[simp] theorem Prog.eta (x : Prog) : (Prog.mk x.vars x.points x.edges) = x := (rfl)
theorem encProg_inj (x y : Prog) (h : encProg x = encProg y) : x = y := by
  simp only [encProg_eq, AV.agg.injEq, List.cons.injEq, AV.int.injEq, AV.str.injEq, encL_inj, true_and, and_true] at h
  obtain ⟨h0, h1, h2⟩ := h
  have e : ∀ z : Prog, (Prog.mk z.vars z.points z.edges) = z := fun z => rfl
  rw [← e x, ← e y, h0, h1, h2]
instance : Enc 3 encProg := ⟨encProg_inj, fun _ => rfl, fun x => by simp [encProg_eq]⟩
@[simp] theorem encProg_agg {q0 : List (List UInt8)} {q1 : Int} {q2 : List (Edge)} {x : Prog} : (.agg [encL 1 encStr q0, .int .i64 q1, encL 5 encEdge q2] = encProg x) = ((Prog.mk q0 q1 q2) = x) := by
  rw [show AV.agg [encL 1 encStr q0, .int .i64 q1, encL 5 encEdge q2] = encProg (Prog.mk q0 q1 q2) from rfl]
  exact propext ⟨encProg_inj _ _, fun h => by rw [h]⟩
@[simp] theorem encProg_stored (x : Prog) : (encProg x).stored = some [encL 1 encStr x.vars, .int .i64 x.points, encL 5 encEdge x.edges] := (rfl)
@[simp] theorem encProg_isCell (x : Prog) : (encProg x).isCell = false := (rfl)
@[simp] theorem encProg_scalar (x : Prog) : (encProg x).scalar = false := by simp [encProg_eq]
@[simp] theorem encProg_refs (x : Prog) : (encProg x).refs = [] := by simp [encProg_eq]
@[simp] theorem encProg_lendEls (m : Nat → Blk → Bool) (H : List Blk) (n : Nat) (x : Prog) (l : List AV) : lendEls m H n (encProg x :: l) = (lendEls m H n l).map (encProg x :: ·) := lendEls_cons_enc (f := encProg) x l
@[simp] theorem encProg_lend (m : Nat → Blk → Bool) (H : List Blk) (x : Prog) : lend m H (encProg x) = some (encProg x) := by simp [encProg_eq]
@[simp] theorem encProg_withCells {q0 : List (List UInt8)} {q1 : Int} {q2 : List (Edge)} {x : Prog} : (encProg x).withCells [encL 1 encStr q0, .int .i64 q1, encL 5 encEdge q2] = encProg (Prog.mk q0 q1 q2) := by simp [encProg_eq]
@[simp] theorem encProg_belowE (d : Nat) (x : Prog) : belowE d (encProg x) = true := by simp [encProg_eq]
@[simp] theorem encProg_iff (x y : Prog) : (encProg x = encProg y) = (x = y) := propext ⟨encProg_inj x y, fun h => by rw [h]⟩
@[simp] theorem encProg_mk (vars points edges) : encProg ⟨vars, points, edges⟩ = .agg [encL 1 encStr vars, .int .i64 points, encL 5 encEdge edges] := (rfl)

structure Heap where
  vars : List (Int)
  next : List (Int)
  deriving Inhabited, DecidableEq
def encHeap (x : Heap) : AV := .agg [encL 1 encInt x.vars, encL 1 encInt x.next]
@[simp] theorem encHeap_cells (x : Heap) : (encHeap x).cells = [encL 1 encInt x.vars, encL 1 encInt x.next] := (rfl)
theorem encHeap_eq (x : Heap) : encHeap x = .agg [encL 1 encInt x.vars, encL 1 encInt x.next] := (rfl)
@[simp] theorem Heap.eta (x : Heap) : (Heap.mk x.vars x.next) = x := (rfl)
theorem encHeap_inj (x y : Heap) (h : encHeap x = encHeap y) : x = y := by
  simp only [encHeap_eq, AV.agg.injEq, List.cons.injEq, AV.int.injEq, AV.str.injEq, encL_inj, true_and, and_true] at h
  obtain ⟨h0, h1⟩ := h
  have e : ∀ z : Heap, (Heap.mk z.vars z.next) = z := fun z => rfl
  rw [← e x, ← e y, h0, h1]
instance : Enc 2 encHeap := ⟨encHeap_inj, fun _ => rfl, fun x => by simp [encHeap_eq]⟩
@[simp] theorem encHeap_agg {q0 : List (Int)} {q1 : List (Int)} {x : Heap} : (.agg [encL 1 encInt q0, encL 1 encInt q1] = encHeap x) = ((Heap.mk q0 q1) = x) := by
  rw [show AV.agg [encL 1 encInt q0, encL 1 encInt q1] = encHeap (Heap.mk q0 q1) from rfl]
  exact propext ⟨encHeap_inj _ _, fun h => by rw [h]⟩
@[simp] theorem encHeap_stored (x : Heap) : (encHeap x).stored = some [encL 1 encInt x.vars, encL 1 encInt x.next] := (rfl)
@[simp] theorem encHeap_isCell (x : Heap) : (encHeap x).isCell = false := (rfl)
@[simp] theorem encHeap_scalar (x : Heap) : (encHeap x).scalar = false := by simp [encHeap_eq]
@[simp] theorem encHeap_refs (x : Heap) : (encHeap x).refs = [] := by simp [encHeap_eq]
@[simp] theorem encHeap_lendEls (m : Nat → Blk → Bool) (H : List Blk) (n : Nat) (x : Heap) (l : List AV) : lendEls m H n (encHeap x :: l) = (lendEls m H n l).map (encHeap x :: ·) := lendEls_cons_enc (f := encHeap) x l
@[simp] theorem encHeap_lend (m : Nat → Blk → Bool) (H : List Blk) (x : Heap) : lend m H (encHeap x) = some (encHeap x) := by simp [encHeap_eq]
@[simp] theorem encHeap_withCells {q0 : List (Int)} {q1 : List (Int)} {x : Heap} : (encHeap x).withCells [encL 1 encInt q0, encL 1 encInt q1] = encHeap (Heap.mk q0 q1) := by simp [encHeap_eq]
@[simp] theorem encHeap_belowE (d : Nat) (x : Heap) : belowE d (encHeap x) = true := by simp [encHeap_eq]
@[simp] theorem encHeap_iff (x y : Heap) : (encHeap x = encHeap y) = (x = y) := propext ⟨encHeap_inj x y, fun h => by rw [h]⟩
@[simp] theorem encHeap_mk (vars next) : encHeap ⟨vars, next⟩ = .agg [encL 1 encInt vars, encL 1 encInt next] := (rfl)

structure Stt where
  point : Int
  heap : Heap
  deriving Inhabited, DecidableEq
def encStt (x : Stt) : AV := .agg [.int .i64 x.point, encL 1 encInt x.heap.vars, encL 1 encInt x.heap.next]
@[simp] theorem encStt_cells (x : Stt) : (encStt x).cells = [.int .i64 x.point, encL 1 encInt x.heap.vars, encL 1 encInt x.heap.next] := (rfl)
theorem encStt_eq (x : Stt) : encStt x = .agg [.int .i64 x.point, encL 1 encInt x.heap.vars, encL 1 encInt x.heap.next] := (rfl)
@[simp] theorem Stt.eta (x : Stt) : (Stt.mk x.point x.heap) = x := (rfl)
theorem encStt_inj (x y : Stt) (h : encStt x = encStt y) : x = y := by
  simp only [encStt_eq, AV.agg.injEq, List.cons.injEq, AV.int.injEq, AV.str.injEq, encL_inj, true_and, and_true] at h
  obtain ⟨h0, h1, h2⟩ := h
  have e : ∀ z : Stt, (Stt.mk z.point (Heap.mk z.heap.vars z.heap.next)) = z := fun z => rfl
  rw [← e x, ← e y, h0, h1, h2]
instance : Enc 3 encStt := ⟨encStt_inj, fun _ => rfl, fun x => by simp [encStt_eq]⟩
@[simp] theorem encStt_agg {q0 : Int} {q1 : List (Int)} {q2 : List (Int)} {x : Stt} : (.agg [.int .i64 q0, encL 1 encInt q1, encL 1 encInt q2] = encStt x) = ((Stt.mk q0 (Heap.mk q1 q2)) = x) := by
  rw [show AV.agg [.int .i64 q0, encL 1 encInt q1, encL 1 encInt q2] = encStt (Stt.mk q0 (Heap.mk q1 q2)) from rfl]
  exact propext ⟨encStt_inj _ _, fun h => by rw [h]⟩
@[simp] theorem encStt_stored (x : Stt) : (encStt x).stored = some [.int .i64 x.point, encL 1 encInt x.heap.vars, encL 1 encInt x.heap.next] := (rfl)
@[simp] theorem encStt_isCell (x : Stt) : (encStt x).isCell = false := (rfl)
@[simp] theorem encStt_scalar (x : Stt) : (encStt x).scalar = false := by simp [encStt_eq]
@[simp] theorem encStt_refs (x : Stt) : (encStt x).refs = [] := by simp [encStt_eq]
@[simp] theorem encStt_lendEls (m : Nat → Blk → Bool) (H : List Blk) (n : Nat) (x : Stt) (l : List AV) : lendEls m H n (encStt x :: l) = (lendEls m H n l).map (encStt x :: ·) := lendEls_cons_enc (f := encStt) x l
@[simp] theorem encStt_lend (m : Nat → Blk → Bool) (H : List Blk) (x : Stt) : lend m H (encStt x) = some (encStt x) := by simp [encStt_eq]
@[simp] theorem encStt_withCells {q0 : Int} {q1 : List (Int)} {q2 : List (Int)} {x : Stt} : (encStt x).withCells [.int .i64 q0, encL 1 encInt q1, encL 1 encInt q2] = encStt (Stt.mk q0 (Heap.mk q1 q2)) := by simp [encStt_eq]
@[simp] theorem encStt_belowE (d : Nat) (x : Stt) : belowE d (encStt x) = true := by simp [encStt_eq]
@[simp] theorem encStt_iff (x y : Stt) : (encStt x = encStt y) = (x = y) := propext ⟨encStt_inj x y, fun h => by rw [h]⟩
@[simp] theorem encStt_mk (point heap) : encStt ⟨point, heap⟩ = .agg [.int .i64 point, encL 1 encInt heap.vars, encL 1 encInt heap.next] := (rfl)

structure Node where
  vars : List (Int)
  reach : List (Int)
  shared : Int
  many : Int
  deriving Inhabited, DecidableEq
def encNode (x : Node) : AV := .agg [encL 1 encInt x.vars, encL 1 encInt x.reach, .int .i64 x.shared, .int .i64 x.many]
@[simp] theorem encNode_cells (x : Node) : (encNode x).cells = [encL 1 encInt x.vars, encL 1 encInt x.reach, .int .i64 x.shared, .int .i64 x.many] := (rfl)
theorem encNode_eq (x : Node) : encNode x = .agg [encL 1 encInt x.vars, encL 1 encInt x.reach, .int .i64 x.shared, .int .i64 x.many] := (rfl)
@[simp] theorem Node.eta (x : Node) : (Node.mk x.vars x.reach x.shared x.many) = x := (rfl)
theorem encNode_inj (x y : Node) (h : encNode x = encNode y) : x = y := by
  simp only [encNode_eq, AV.agg.injEq, List.cons.injEq, AV.int.injEq, AV.str.injEq, encL_inj, true_and, and_true] at h
  obtain ⟨h0, h1, h2, h3⟩ := h
  have e : ∀ z : Node, (Node.mk z.vars z.reach z.shared z.many) = z := fun z => rfl
  rw [← e x, ← e y, h0, h1, h2, h3]
instance : Enc 4 encNode := ⟨encNode_inj, fun _ => rfl, fun x => by simp [encNode_eq]⟩
@[simp] theorem encNode_agg {q0 : List (Int)} {q1 : List (Int)} {q2 : Int} {q3 : Int} {x : Node} : (.agg [encL 1 encInt q0, encL 1 encInt q1, .int .i64 q2, .int .i64 q3] = encNode x) = ((Node.mk q0 q1 q2 q3) = x) := by
  rw [show AV.agg [encL 1 encInt q0, encL 1 encInt q1, .int .i64 q2, .int .i64 q3] = encNode (Node.mk q0 q1 q2 q3) from rfl]
  exact propext ⟨encNode_inj _ _, fun h => by rw [h]⟩
@[simp] theorem encNode_stored (x : Node) : (encNode x).stored = some [encL 1 encInt x.vars, encL 1 encInt x.reach, .int .i64 x.shared, .int .i64 x.many] := (rfl)
@[simp] theorem encNode_isCell (x : Node) : (encNode x).isCell = false := (rfl)
@[simp] theorem encNode_scalar (x : Node) : (encNode x).scalar = false := by simp [encNode_eq]
@[simp] theorem encNode_refs (x : Node) : (encNode x).refs = [] := by simp [encNode_eq]
@[simp] theorem encNode_lendEls (m : Nat → Blk → Bool) (H : List Blk) (n : Nat) (x : Node) (l : List AV) : lendEls m H n (encNode x :: l) = (lendEls m H n l).map (encNode x :: ·) := lendEls_cons_enc (f := encNode) x l
@[simp] theorem encNode_lend (m : Nat → Blk → Bool) (H : List Blk) (x : Node) : lend m H (encNode x) = some (encNode x) := by simp [encNode_eq]
@[simp] theorem encNode_withCells {q0 : List (Int)} {q1 : List (Int)} {q2 : Int} {q3 : Int} {x : Node} : (encNode x).withCells [encL 1 encInt q0, encL 1 encInt q1, .int .i64 q2, .int .i64 q3] = encNode (Node.mk q0 q1 q2 q3) := by simp [encNode_eq]
@[simp] theorem encNode_belowE (d : Nat) (x : Node) : belowE d (encNode x) = true := by simp [encNode_eq]
@[simp] theorem encNode_iff (x y : Node) : (encNode x = encNode y) = (x = y) := propext ⟨encNode_inj x y, fun h => by rw [h]⟩
@[simp] theorem encNode_mk (vars reach shared many) : encNode ⟨vars, reach, shared, many⟩ = .agg [encL 1 encInt vars, encL 1 encInt reach, .int .i64 shared, .int .i64 many] := (rfl)

structure Strc where
  nodes : List (Node)
  next : List (Int)
  deriving Inhabited, DecidableEq
def encStrc (x : Strc) : AV := .agg [encL 4 encNode x.nodes, encL 1 encInt x.next]
@[simp] theorem encStrc_cells (x : Strc) : (encStrc x).cells = [encL 4 encNode x.nodes, encL 1 encInt x.next] := (rfl)
theorem encStrc_eq (x : Strc) : encStrc x = .agg [encL 4 encNode x.nodes, encL 1 encInt x.next] := (rfl)
@[simp] theorem Strc.eta (x : Strc) : (Strc.mk x.nodes x.next) = x := (rfl)
theorem encStrc_inj (x y : Strc) (h : encStrc x = encStrc y) : x = y := by
  simp only [encStrc_eq, AV.agg.injEq, List.cons.injEq, AV.int.injEq, AV.str.injEq, encL_inj, true_and, and_true] at h
  obtain ⟨h0, h1⟩ := h
  have e : ∀ z : Strc, (Strc.mk z.nodes z.next) = z := fun z => rfl
  rw [← e x, ← e y, h0, h1]
instance : Enc 2 encStrc := ⟨encStrc_inj, fun _ => rfl, fun x => by simp [encStrc_eq]⟩
@[simp] theorem encStrc_agg {q0 : List (Node)} {q1 : List (Int)} {x : Strc} : (.agg [encL 4 encNode q0, encL 1 encInt q1] = encStrc x) = ((Strc.mk q0 q1) = x) := by
  rw [show AV.agg [encL 4 encNode q0, encL 1 encInt q1] = encStrc (Strc.mk q0 q1) from rfl]
  exact propext ⟨encStrc_inj _ _, fun h => by rw [h]⟩
@[simp] theorem encStrc_stored (x : Strc) : (encStrc x).stored = some [encL 4 encNode x.nodes, encL 1 encInt x.next] := (rfl)
@[simp] theorem encStrc_isCell (x : Strc) : (encStrc x).isCell = false := (rfl)
@[simp] theorem encStrc_scalar (x : Strc) : (encStrc x).scalar = false := by simp [encStrc_eq]
@[simp] theorem encStrc_refs (x : Strc) : (encStrc x).refs = [] := by simp [encStrc_eq]
@[simp] theorem encStrc_lendEls (m : Nat → Blk → Bool) (H : List Blk) (n : Nat) (x : Strc) (l : List AV) : lendEls m H n (encStrc x :: l) = (lendEls m H n l).map (encStrc x :: ·) := lendEls_cons_enc (f := encStrc) x l
@[simp] theorem encStrc_lend (m : Nat → Blk → Bool) (H : List Blk) (x : Strc) : lend m H (encStrc x) = some (encStrc x) := by simp [encStrc_eq]
@[simp] theorem encStrc_withCells {q0 : List (Node)} {q1 : List (Int)} {x : Strc} : (encStrc x).withCells [encL 4 encNode q0, encL 1 encInt q1] = encStrc (Strc.mk q0 q1) := by simp [encStrc_eq]
@[simp] theorem encStrc_belowE (d : Nat) (x : Strc) : belowE d (encStrc x) = true := by simp [encStrc_eq]
@[simp] theorem encStrc_iff (x y : Strc) : (encStrc x = encStrc y) = (x = y) := propext ⟨encStrc_inj x y, fun h => by rw [h]⟩
@[simp] theorem encStrc_mk (nodes next) : encStrc ⟨nodes, next⟩ = .agg [encL 4 encNode nodes, encL 1 encInt next] := (rfl)

structure Alarm where
  edge : Int
  code : Int
  deriving Inhabited, DecidableEq
def encAlarm (x : Alarm) : AV := .agg [.int .i64 x.edge, .int .i64 x.code]
@[simp] theorem encAlarm_cells (x : Alarm) : (encAlarm x).cells = [.int .i64 x.edge, .int .i64 x.code] := (rfl)
theorem encAlarm_eq (x : Alarm) : encAlarm x = .agg [.int .i64 x.edge, .int .i64 x.code] := (rfl)
@[simp] theorem Alarm.eta (x : Alarm) : (Alarm.mk x.edge x.code) = x := (rfl)
theorem encAlarm_inj (x y : Alarm) (h : encAlarm x = encAlarm y) : x = y := by
  simp only [encAlarm_eq, AV.agg.injEq, List.cons.injEq, AV.int.injEq, AV.str.injEq, encL_inj, true_and, and_true] at h
  obtain ⟨h0, h1⟩ := h
  have e : ∀ z : Alarm, (Alarm.mk z.edge z.code) = z := fun z => rfl
  rw [← e x, ← e y, h0, h1]
instance : Enc 2 encAlarm := ⟨encAlarm_inj, fun _ => rfl, fun x => by simp [encAlarm_eq]⟩
@[simp] theorem encAlarm_agg {q0 : Int} {q1 : Int} {x : Alarm} : (.agg [.int .i64 q0, .int .i64 q1] = encAlarm x) = ((Alarm.mk q0 q1) = x) := by
  rw [show AV.agg [.int .i64 q0, .int .i64 q1] = encAlarm (Alarm.mk q0 q1) from rfl]
  exact propext ⟨encAlarm_inj _ _, fun h => by rw [h]⟩
@[simp] theorem encAlarm_stored (x : Alarm) : (encAlarm x).stored = some [.int .i64 x.edge, .int .i64 x.code] := (rfl)
@[simp] theorem encAlarm_isCell (x : Alarm) : (encAlarm x).isCell = false := (rfl)
@[simp] theorem encAlarm_scalar (x : Alarm) : (encAlarm x).scalar = true := by simp [encAlarm_eq]
@[simp] theorem encAlarm_refs (x : Alarm) : (encAlarm x).refs = [] := by simp [encAlarm_eq]
@[simp] theorem encAlarm_lendEls (m : Nat → Blk → Bool) (H : List Blk) (n : Nat) (x : Alarm) (l : List AV) : lendEls m H n (encAlarm x :: l) = (lendEls m H n l).map (encAlarm x :: ·) := lendEls_cons_enc (f := encAlarm) x l
@[simp] theorem encAlarm_lend (m : Nat → Blk → Bool) (H : List Blk) (x : Alarm) : lend m H (encAlarm x) = some (encAlarm x) := by simp [encAlarm_eq]
@[simp] theorem encAlarm_withCells {q0 : Int} {q1 : Int} {x : Alarm} : (encAlarm x).withCells [.int .i64 q0, .int .i64 q1] = encAlarm (Alarm.mk q0 q1) := by simp [encAlarm_eq]
@[simp] theorem encAlarm_belowE (d : Nat) (x : Alarm) : belowE d (encAlarm x) = true := by simp [encAlarm_eq]
@[simp] theorem encAlarm_iff (x y : Alarm) : (encAlarm x = encAlarm y) = (x = y) := propext ⟨encAlarm_inj x y, fun h => by rw [h]⟩
@[simp] theorem encAlarm_mk (edge code) : encAlarm ⟨edge, code⟩ = .agg [.int .i64 edge, .int .i64 code] := (rfl)

structure Anal where
  sets : List (List (Strc))
  alarms : List (Alarm)
  rounds : Int
  deriving Inhabited, DecidableEq
def encAnal (x : Anal) : AV := .agg [encL 1 (encL 2 encStrc) x.sets, encL 2 encAlarm x.alarms, .int .i64 x.rounds]
@[simp] theorem encAnal_cells (x : Anal) : (encAnal x).cells = [encL 1 (encL 2 encStrc) x.sets, encL 2 encAlarm x.alarms, .int .i64 x.rounds] := (rfl)
theorem encAnal_eq (x : Anal) : encAnal x = .agg [encL 1 (encL 2 encStrc) x.sets, encL 2 encAlarm x.alarms, .int .i64 x.rounds] := (rfl)
@[simp] theorem Anal.eta (x : Anal) : (Anal.mk x.sets x.alarms x.rounds) = x := (rfl)
theorem encAnal_inj (x y : Anal) (h : encAnal x = encAnal y) : x = y := by
  simp only [encAnal_eq, AV.agg.injEq, List.cons.injEq, AV.int.injEq, AV.str.injEq, encL_inj, true_and, and_true] at h
  obtain ⟨h0, h1, h2⟩ := h
  have e : ∀ z : Anal, (Anal.mk z.sets z.alarms z.rounds) = z := fun z => rfl
  rw [← e x, ← e y, h0, h1, h2]
instance : Enc 3 encAnal := ⟨encAnal_inj, fun _ => rfl, fun x => by simp [encAnal_eq]⟩
@[simp] theorem encAnal_agg {q0 : List (List (Strc))} {q1 : List (Alarm)} {q2 : Int} {x : Anal} : (.agg [encL 1 (encL 2 encStrc) q0, encL 2 encAlarm q1, .int .i64 q2] = encAnal x) = ((Anal.mk q0 q1 q2) = x) := by
  rw [show AV.agg [encL 1 (encL 2 encStrc) q0, encL 2 encAlarm q1, .int .i64 q2] = encAnal (Anal.mk q0 q1 q2) from rfl]
  exact propext ⟨encAnal_inj _ _, fun h => by rw [h]⟩
@[simp] theorem encAnal_stored (x : Anal) : (encAnal x).stored = some [encL 1 (encL 2 encStrc) x.sets, encL 2 encAlarm x.alarms, .int .i64 x.rounds] := (rfl)
@[simp] theorem encAnal_isCell (x : Anal) : (encAnal x).isCell = false := (rfl)
@[simp] theorem encAnal_scalar (x : Anal) : (encAnal x).scalar = false := by simp [encAnal_eq]
@[simp] theorem encAnal_refs (x : Anal) : (encAnal x).refs = [] := by simp [encAnal_eq]
@[simp] theorem encAnal_lendEls (m : Nat → Blk → Bool) (H : List Blk) (n : Nat) (x : Anal) (l : List AV) : lendEls m H n (encAnal x :: l) = (lendEls m H n l).map (encAnal x :: ·) := lendEls_cons_enc (f := encAnal) x l
@[simp] theorem encAnal_lend (m : Nat → Blk → Bool) (H : List Blk) (x : Anal) : lend m H (encAnal x) = some (encAnal x) := by simp [encAnal_eq]
@[simp] theorem encAnal_withCells {q0 : List (List (Strc))} {q1 : List (Alarm)} {q2 : Int} {x : Anal} : (encAnal x).withCells [encL 1 (encL 2 encStrc) q0, encL 2 encAlarm q1, .int .i64 q2] = encAnal (Anal.mk q0 q1 q2) := by simp [encAnal_eq]
@[simp] theorem encAnal_belowE (d : Nat) (x : Anal) : belowE d (encAnal x) = true := by simp [encAnal_eq]
@[simp] theorem encAnal_iff (x y : Anal) : (encAnal x = encAnal y) = (x = y) := propext ⟨encAnal_inj x y, fun h => by rw [h]⟩
@[simp] theorem encAnal_mk (sets alarms rounds) : encAnal ⟨sets, alarms, rounds⟩ = .agg [encL 1 (encL 2 encStrc) sets, encL 2 encAlarm alarms, .int .i64 rounds] := (rfl)

structure Clm where
  point : Int
  formula : Fm
  deriving Inhabited
def encClm (x : Clm) : AV := .agg [.int .i64 x.point, .int .i64 x.formula.kind, .int .i64 x.formula.k, .int .i64 x.formula.u, .int .i64 x.formula.v, encL 5 encFm x.formula.args]
@[simp] theorem encClm_cells (x : Clm) : (encClm x).cells = [.int .i64 x.point, .int .i64 x.formula.kind, .int .i64 x.formula.k, .int .i64 x.formula.u, .int .i64 x.formula.v, encL 5 encFm x.formula.args] := (rfl)
theorem encClm_eq (x : Clm) : encClm x = .agg [.int .i64 x.point, .int .i64 x.formula.kind, .int .i64 x.formula.k, .int .i64 x.formula.u, .int .i64 x.formula.v, encL 5 encFm x.formula.args] := (rfl)
@[simp] theorem Clm.eta (x : Clm) : (Clm.mk x.point x.formula) = x := (rfl)
theorem encClm_inj (x y : Clm) (h : encClm x = encClm y) : x = y := by
  simp only [encClm_eq, AV.agg.injEq, List.cons.injEq, AV.int.injEq, AV.str.injEq, encL_inj, true_and, and_true] at h
  obtain ⟨h0, h1, h2, h3, h4, h5⟩ := h
  have e : ∀ z : Clm, (Clm.mk z.point (Fm.mk z.formula.kind z.formula.k z.formula.u z.formula.v z.formula.args)) = z := fun z => by cases z; simp
  rw [← e x, ← e y, h0, h1, h2, h3, h4, h5]
instance : Enc 6 encClm := ⟨encClm_inj, fun _ => rfl, fun x => by simp [encClm_eq]⟩
@[simp] theorem encClm_agg {q0 : Int} {q1 : Int} {q2 : Int} {q3 : Int} {q4 : Int} {q5 : List (Fm)} {x : Clm} : (.agg [.int .i64 q0, .int .i64 q1, .int .i64 q2, .int .i64 q3, .int .i64 q4, encL 5 encFm q5] = encClm x) = ((Clm.mk q0 (Fm.mk q1 q2 q3 q4 q5)) = x) := by
  rw [show AV.agg [.int .i64 q0, .int .i64 q1, .int .i64 q2, .int .i64 q3, .int .i64 q4, encL 5 encFm q5] = encClm (Clm.mk q0 (Fm.mk q1 q2 q3 q4 q5)) by simp [encClm_eq]]
  exact propext ⟨encClm_inj _ _, fun h => by rw [h]⟩
@[simp] theorem encClm_stored (x : Clm) : (encClm x).stored = some [.int .i64 x.point, .int .i64 x.formula.kind, .int .i64 x.formula.k, .int .i64 x.formula.u, .int .i64 x.formula.v, encL 5 encFm x.formula.args] := (rfl)
@[simp] theorem encClm_isCell (x : Clm) : (encClm x).isCell = false := (rfl)
@[simp] theorem encClm_scalar (x : Clm) : (encClm x).scalar = false := by simp [encClm_eq]
@[simp] theorem encClm_refs (x : Clm) : (encClm x).refs = [] := by simp [encClm_eq]
@[simp] theorem encClm_lendEls (m : Nat → Blk → Bool) (H : List Blk) (n : Nat) (x : Clm) (l : List AV) : lendEls m H n (encClm x :: l) = (lendEls m H n l).map (encClm x :: ·) := lendEls_cons_enc (f := encClm) x l
@[simp] theorem encClm_lend (m : Nat → Blk → Bool) (H : List Blk) (x : Clm) : lend m H (encClm x) = some (encClm x) := by simp [encClm_eq]
@[simp] theorem encClm_withCells {q0 : Int} {q1 : Int} {q2 : Int} {q3 : Int} {q4 : Int} {q5 : List (Fm)} {x : Clm} : (encClm x).withCells [.int .i64 q0, .int .i64 q1, .int .i64 q2, .int .i64 q3, .int .i64 q4, encL 5 encFm q5] = encClm (Clm.mk q0 (Fm.mk q1 q2 q3 q4 q5)) := by simp [encClm_eq]
@[simp] theorem encClm_belowE (d : Nat) (x : Clm) : belowE d (encClm x) = true := by simp [encClm_eq]
@[simp] theorem encClm_iff (x y : Clm) : (encClm x = encClm y) = (x = y) := propext ⟨encClm_inj x y, fun h => by rw [h]⟩
@[simp] theorem encClm_mk (point formula) : encClm ⟨point, formula⟩ = .agg [.int .i64 point, .int .i64 formula.kind, .int .i64 formula.k, .int .i64 formula.u, .int .i64 formula.v, encL 5 encFm formula.args] := (rfl)

/-! sizes -/
def szNode (x : Node) : Nat := x.vars.length + x.reach.length
def szNodes (l : List Node) : Nat := l.length + (l.map szNode).sum
def szStrc (x : Strc) : Nat := szNodes x.nodes + x.next.length
def szHeap (x : Heap) : Nat := x.vars.length + x.next.length
/-- What is left of a budget. -/
def left (n : Nat) (l : Int) : Int := if l < n then -1 else l - n
theorem left_neg {n : Nat} {l : Int} (h : l < n) : left n l = -1 := by simp [left, h]
theorem left_ge {n : Nat} {l : Int} (h : n ≤ l) : left n l = l - n := by simp [left]; omega
theorem left_lt0 {n : Nat} {l : Int} : left n l < 0 ↔ l < n := by unfold left; split <;> omega
theorem left_ge0 {n : Nat} {l : Int} : 0 ≤ left n l ↔ n ≤ l := by unfold left; split <;> omega
theorem left_le {n : Nat} {l m : Int} (h0 : 0 ≤ l) (h : l ≤ m) : left n l ≤ m := by unfold left; split <;> omega
theorem left_add {a b : Nat} {l : Int} (h : a ≤ l) : left (a + b) l = left b (l - a) := by unfold left; split <;> split <;> omega
theorem left_add_neg {a b : Nat} {l : Int} (h : l < a) : left (a + b) l = -1 := by unfold left; split <;> omega
theorem sum_drop {α : Type} (f : α → Nat) {xs : List α} {i : Nat} (h : i < xs.length) : ((xs.drop i).map f).sum = f xs[i] + ((xs.drop (i + 1)).map f).sum := by
  rw [List.drop_eq_getElem_cons h, List.map_cons, List.sum_cons]
theorem left_zero {l : Int} (h : 0 ≤ l) : left 0 l = l := by simp [left]; omega
theorem sum_mem {α : Type} (f : α → Nat) : ∀ {l : List α} {x : α}, x ∈ l → f x ≤ (l.map f).sum
  | a :: l, x, h => by
    rw [List.map_cons, List.sum_cons]
    rcases List.mem_cons.1 h with rfl | h
    · omega
    · have := sum_mem f h; omega
theorem take_step {α : Type} {xs ys : List α} {i : Nat} (h : i < xs.length) (h' : i < ys.length) (ht : xs.take i = ys.take i) (he : xs[i] = ys[i]) : xs.take (i + 1) = ys.take (i + 1) := by
  rw [List.take_succ_eq_append_getElem h, List.take_succ_eq_append_getElem h', ht, he]
theorem take_done {α : Type} {xs ys : List α} {i : Nat} (h : xs.length = ys.length) (hi : xs.length ≤ i) (ht : xs.take i = ys.take i) : xs = ys := by
  rwa [List.take_of_length_le hi, List.take_of_length_le (by omega)] at ht
theorem take_ne {α : Type} {xs ys : List α} {i : Nat} (h : i < xs.length) (h' : i < ys.length) (he : ¬ xs[i] = ys[i]) : ¬ xs = ys := by
  intro e; subst e; exact he rfl
end Go.Vm

namespace Go.Vm
open Go.Proofs
end Go.Vm
