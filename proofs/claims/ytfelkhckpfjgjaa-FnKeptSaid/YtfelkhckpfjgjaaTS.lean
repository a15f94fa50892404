/- The program's plain data, and what stands for it. No condition. -/
import Derived.Test.YtfelkhckpfjgjaaVme
import Derived.KernelRfl
import Derived.Test.YtfelkhckpfjgjaaRows
set_option linter.unusedSimpArgs false
set_option linter.unusedVariables false
namespace Go.Vm
open Go.Proofs
def encStr (s : List UInt8) : AV := .str s
@[simp] theorem encStr_eq (s : List UInt8) : encStr s = .str s := (rfl)
instance : Enc 1 encStr := ⟨fun _ _ h => by simpa [encStr] using h, fun _ => rfl, fun _ => rfl⟩
inductive Fm where
  | mk (kind k u v : Int) (args : List Fm)
  deriving Inhabited
def Fm.kind : Fm → Int | .mk a _ _ _ _ => a
def Fm.k : Fm → Int | .mk _ a _ _ _ => a
def Fm.u : Fm → Int | .mk _ _ a _ _ => a
def Fm.v : Fm → Int | .mk _ _ _ a _ => a
def Fm.args : Fm → List Fm | .mk _ _ _ _ a => a
@[simp] theorem Fm.kind_mk (a b c d : Int) (l : List Fm) : (Fm.mk a b c d l).kind = a := (rfl)
@[simp] theorem Fm.k_mk (a b c d : Int) (l : List Fm) : (Fm.mk a b c d l).k = b := (rfl)
@[simp] theorem Fm.u_mk (a b c d : Int) (l : List Fm) : (Fm.mk a b c d l).u = c := (rfl)
@[simp] theorem Fm.v_mk (a b c d : Int) (l : List Fm) : (Fm.mk a b c d l).v = d := (rfl)
@[simp] theorem Fm.args_mk (a b c d : Int) (l : List Fm) : (Fm.mk a b c d l).args = l := (rfl)
@[simp] theorem Fm.eta (x : Fm) : Fm.mk x.kind x.k x.u x.v x.args = x := by cases x; rfl
mutual
def encFm : Fm → AV
  | .mk kind k u v args => .agg [.int .i64 kind, .int .i64 k, .int .i64 u, .int .i64 v, mksl 5 (encFms args)]
def encFms : List Fm → List AV
  | [] => []
  | x :: xs => encFm x :: encFms xs
end
theorem encFms_map : ∀ l : List Fm, encFms l = l.map encFm
  | [] => by simp [encFms]
  | x :: xs => by simp [encFms, encFms_map xs]
theorem encFm_eq (x : Fm) : encFm x = .agg [.int .i64 x.kind, .int .i64 x.k, .int .i64 x.u, .int .i64 x.v, encL 5 encFm x.args] := by
  cases x
  rw [encFm, encFms_map]
  rfl
mutual
theorem encFm_inj : ∀ x y : Fm, encFm x = encFm y → x = y
  | .mk a b c d l, .mk a' b' c' d' l', h => by
    simp only [encFm, AV.agg.injEq, List.cons.injEq, AV.int.injEq, true_and, and_true] at h
    obtain ⟨h1, h2, h3, h4, h5⟩ := h
    rw [h1, h2, h3, h4, encFms_inj l l' (mksl_inj h5)]
theorem encFms_inj : ∀ l l' : List Fm, encFms l = encFms l' → l = l'
  | [], [], _ => rfl
  | [], _ :: _, h => by simp [encFms] at h
  | _ :: _, [], h => by simp [encFms] at h
  | x :: xs, y :: ys, h => by
    simp only [encFms, List.cons.injEq] at h
    rw [encFm_inj x y h.1, encFms_inj xs ys h.2]
end
instance : Enc 5 encFm := ⟨encFm_inj, fun x => by rw [encFm_eq]; rfl, fun x => by rw [encFm_eq]; simp⟩
@[simp] theorem encFm_cells (x : Fm) : (encFm x).cells = [.int .i64 x.kind, .int .i64 x.k, .int .i64 x.u, .int .i64 x.v, encL 5 encFm x.args] := by rw [encFm_eq]; rfl
@[simp] theorem encFm_stored (x : Fm) : (encFm x).stored = some [.int .i64 x.kind, .int .i64 x.k, .int .i64 x.u, .int .i64 x.v, encL 5 encFm x.args] := by rw [encFm_eq]; rfl
@[simp] theorem encFm_scalar (x : Fm) : (encFm x).scalar = false := by rw [encFm_eq]; simp
@[simp] theorem encFm_lendEls (m : Nat → Blk → Bool) (H : List Blk) (n : Nat) (x : Fm) (l : List AV) : lendEls m H n (encFm x :: l) = (lendEls m H n l).map (encFm x :: ·) := lendEls_cons_enc (sz := 5) x l
@[simp] theorem encFm_mk (kind k u v : Int) (args : List Fm) : encFm (.mk kind k u v args) = .agg [.int .i64 kind, .int .i64 k, .int .i64 u, .int .i64 v, encL 5 encFm args] := by rw [encFm_eq]; rfl
@[simp] theorem encFm_agg {a b c d : Int} {l : List Fm} {x : Fm} : (.agg [.int .i64 a, .int .i64 b, .int .i64 c, .int .i64 d, encL 5 encFm l] = encFm x) = (Fm.mk a b c d l = x) := by
  rw [show AV.agg [.int .i64 a, .int .i64 b, .int .i64 c, .int .i64 d, encL 5 encFm l] = encFm (.mk a b c d l) by rw [encFm_eq]; rfl]
  exact propext ⟨encFm_inj _ _, fun h => by rw [h]⟩
structure Stmt where
  kind : Int
  a : List UInt8
  b : List UInt8
  deriving Inhabited, DecidableEq
def encStmt (x : Stmt) : AV := .agg [.int .i64 x.kind, .str x.a, .str x.b]
theorem encStmt_eq (x : Stmt) : encStmt x = .agg [.int .i64 x.kind, .str x.a, .str x.b] := (rfl)
@[simp] theorem Stmt.eta (x : Stmt) : (Stmt.mk x.kind x.a x.b) = x := (rfl)
theorem encStmt_inj (x y : Stmt) (h : encStmt x = encStmt y) : x = y := by
  simp only [encStmt_eq, AV.agg.injEq, List.cons.injEq, AV.int.injEq, AV.str.injEq, encL_inj, true_and, and_true] at h
  obtain ⟨h0, h1, h2⟩ := h
  have e : ∀ z : Stmt, (Stmt.mk z.kind z.a z.b) = z := fun z => rfl
  rw [← e x, ← e y, h0, h1, h2]
instance : Enc 3 encStmt := ⟨encStmt_inj, fun _ => rfl, fun x => by simp [encStmt_eq]⟩
structure Edge where
  src : Int
  dst : Int
  stmt : Stmt
  deriving Inhabited, DecidableEq
def encEdge (x : Edge) : AV := .agg [.int .i64 x.src, .int .i64 x.dst, .int .i64 x.stmt.kind, .str x.stmt.a, .str x.stmt.b]
theorem encEdge_eq (x : Edge) : encEdge x = .agg [.int .i64 x.src, .int .i64 x.dst, .int .i64 x.stmt.kind, .str x.stmt.a, .str x.stmt.b] := (rfl)
@[simp] theorem Edge.eta (x : Edge) : (Edge.mk x.src x.dst x.stmt) = x := (rfl)
theorem encEdge_inj (x y : Edge) (h : encEdge x = encEdge y) : x = y := by
  simp only [encEdge_eq, AV.agg.injEq, List.cons.injEq, AV.int.injEq, AV.str.injEq, encL_inj, true_and, and_true] at h
  obtain ⟨h0, h1, h2, h3, h4⟩ := h
  have e : ∀ z : Edge, (Edge.mk z.src z.dst (Stmt.mk z.stmt.kind z.stmt.a z.stmt.b)) = z := fun z => rfl
  rw [← e x, ← e y, h0, h1, h2, h3, h4]
instance : Enc 5 encEdge := ⟨encEdge_inj, fun _ => rfl, fun x => by simp [encEdge_eq]⟩
structure Prog where
  vars : List (List UInt8)
  points : Int
  edges : List (Edge)
  deriving Inhabited, DecidableEq
def encProg (x : Prog) : AV := .agg [encL 1 encStr x.vars, .int .i64 x.points, encL 5 encEdge x.edges]
theorem encProg_eq (x : Prog) : encProg x = .agg [encL 1 encStr x.vars, .int .i64 x.points, encL 5 encEdge x.edges] := (rfl)
@[simp] theorem Prog.eta (x : Prog) : (Prog.mk x.vars x.points x.edges) = x := (rfl)
theorem encProg_inj (x y : Prog) (h : encProg x = encProg y) : x = y := by
  simp only [encProg_eq, AV.agg.injEq, List.cons.injEq, AV.int.injEq, AV.str.injEq, encL_inj, true_and, and_true] at h
  obtain ⟨h0, h1, h2⟩ := h
  have e : ∀ z : Prog, (Prog.mk z.vars z.points z.edges) = z := fun z => rfl
  rw [← e x, ← e y, h0, h1, h2]
instance : Enc 3 encProg := ⟨encProg_inj, fun _ => rfl, fun x => by simp [encProg_eq]⟩
structure Heap where
  vars : List (Int)
  next : List (Int)
  deriving Inhabited, DecidableEq
def encHeap (x : Heap) : AV := .agg [encL 1 encInt x.vars, encL 1 encInt x.next]
theorem encHeap_eq (x : Heap) : encHeap x = .agg [encL 1 encInt x.vars, encL 1 encInt x.next] := (rfl)
@[simp] theorem Heap.eta (x : Heap) : (Heap.mk x.vars x.next) = x := (rfl)
theorem encHeap_inj (x y : Heap) (h : encHeap x = encHeap y) : x = y := by
  simp only [encHeap_eq, AV.agg.injEq, List.cons.injEq, AV.int.injEq, AV.str.injEq, encL_inj, true_and, and_true] at h
  obtain ⟨h0, h1⟩ := h
  have e : ∀ z : Heap, (Heap.mk z.vars z.next) = z := fun z => rfl
  rw [← e x, ← e y, h0, h1]
instance : Enc 2 encHeap := ⟨encHeap_inj, fun _ => rfl, fun x => by simp [encHeap_eq]⟩
@[simp] theorem encHeap_agg {q0 : List (Int)} {q1 : List (Int)} {x : Heap} : (.agg [encL 1 encInt q0, encL 1 encInt q1] = encHeap x) = ((Heap.mk q0 q1) = x) := by
  rw [show AV.agg [encL 1 encInt q0, encL 1 encInt q1] = encHeap (Heap.mk q0 q1) from rfl]
  exact propext ⟨encHeap_inj _ _, fun h => by rw [h]⟩
@[simp] theorem encHeap_stored (x : Heap) : (encHeap x).stored = some [encL 1 encInt x.vars, encL 1 encInt x.next] := (rfl)
@[simp] theorem encHeap_mk (vars next) : encHeap ⟨vars, next⟩ = .agg [encL 1 encInt vars, encL 1 encInt next] := (rfl)
structure Stt where
  point : Int
  heap : Heap
  deriving Inhabited, DecidableEq
def encStt (x : Stt) : AV := .agg [.int .i64 x.point, encL 1 encInt x.heap.vars, encL 1 encInt x.heap.next]
theorem encStt_eq (x : Stt) : encStt x = .agg [.int .i64 x.point, encL 1 encInt x.heap.vars, encL 1 encInt x.heap.next] := (rfl)
@[simp] theorem Stt.eta (x : Stt) : (Stt.mk x.point x.heap) = x := (rfl)
theorem encStt_inj (x y : Stt) (h : encStt x = encStt y) : x = y := by
  simp only [encStt_eq, AV.agg.injEq, List.cons.injEq, AV.int.injEq, AV.str.injEq, encL_inj, true_and, and_true] at h
  obtain ⟨h0, h1, h2⟩ := h
  have e : ∀ z : Stt, (Stt.mk z.point (Heap.mk z.heap.vars z.heap.next)) = z := fun z => rfl
  rw [← e x, ← e y, h0, h1, h2]
instance : Enc 3 encStt := ⟨encStt_inj, fun _ => rfl, fun x => by simp [encStt_eq]⟩
structure Node where
  vars : List (Int)
  reach : List (Int)
  shared : Int
  many : Int
  deriving Inhabited, DecidableEq
def encNode (x : Node) : AV := .agg [encL 1 encInt x.vars, encL 1 encInt x.reach, .int .i64 x.shared, .int .i64 x.many]
@[simp] theorem encNode_cells (x : Node) : (encNode x).cells = [encL 1 encInt x.vars, encL 1 encInt x.reach, .int .i64 x.shared, .int .i64 x.many] := (rfl)
theorem encNode_eq (x : Node) : encNode x = .agg [encL 1 encInt x.vars, encL 1 encInt x.reach, .int .i64 x.shared, .int .i64 x.many] := (rfl)
@[simp] theorem Node.eta (x : Node) : (Node.mk x.vars x.reach x.shared x.many) = x := (rfl)
theorem encNode_inj (x y : Node) (h : encNode x = encNode y) : x = y := by
  simp only [encNode_eq, AV.agg.injEq, List.cons.injEq, AV.int.injEq, AV.str.injEq, encL_inj, true_and, and_true] at h
  obtain ⟨h0, h1, h2, h3⟩ := h
  have e : ∀ z : Node, (Node.mk z.vars z.reach z.shared z.many) = z := fun z => rfl
  rw [← e x, ← e y, h0, h1, h2, h3]
instance : Enc 4 encNode := ⟨encNode_inj, fun _ => rfl, fun x => by simp [encNode_eq]⟩
@[simp] theorem encNode_agg {q0 : List (Int)} {q1 : List (Int)} {q2 : Int} {q3 : Int} {x : Node} : (.agg [encL 1 encInt q0, encL 1 encInt q1, .int .i64 q2, .int .i64 q3] = encNode x) = ((Node.mk q0 q1 q2 q3) = x) := by
  rw [show AV.agg [encL 1 encInt q0, encL 1 encInt q1, .int .i64 q2, .int .i64 q3] = encNode (Node.mk q0 q1 q2 q3) from rfl]
  exact propext ⟨encNode_inj _ _, fun h => by rw [h]⟩
@[simp] theorem encNode_mk (vars reach shared many) : encNode ⟨vars, reach, shared, many⟩ = .agg [encL 1 encInt vars, encL 1 encInt reach, .int .i64 shared, .int .i64 many] := (rfl)
structure Strc where
  nodes : List (Node)
  next : List (Int)
  deriving Inhabited, DecidableEq
def encStrc (x : Strc) : AV := .agg [encL 4 encNode x.nodes, encL 1 encInt x.next]
theorem encStrc_eq (x : Strc) : encStrc x = .agg [encL 4 encNode x.nodes, encL 1 encInt x.next] := (rfl)
@[simp] theorem Strc.eta (x : Strc) : (Strc.mk x.nodes x.next) = x := (rfl)
theorem encStrc_inj (x y : Strc) (h : encStrc x = encStrc y) : x = y := by
  simp only [encStrc_eq, AV.agg.injEq, List.cons.injEq, AV.int.injEq, AV.str.injEq, encL_inj, true_and, and_true] at h
  obtain ⟨h0, h1⟩ := h
  have e : ∀ z : Strc, (Strc.mk z.nodes z.next) = z := fun z => rfl
  rw [← e x, ← e y, h0, h1]
instance : Enc 2 encStrc := ⟨encStrc_inj, fun _ => rfl, fun x => by simp [encStrc_eq]⟩
@[simp] theorem encStrc_agg {q0 : List (Node)} {q1 : List (Int)} {x : Strc} : (.agg [encL 4 encNode q0, encL 1 encInt q1] = encStrc x) = ((Strc.mk q0 q1) = x) := by
  rw [show AV.agg [encL 4 encNode q0, encL 1 encInt q1] = encStrc (Strc.mk q0 q1) from rfl]
  exact propext ⟨encStrc_inj _ _, fun h => by rw [h]⟩
@[simp] theorem encStrc_stored (x : Strc) : (encStrc x).stored = some [encL 4 encNode x.nodes, encL 1 encInt x.next] := (rfl)
@[simp] theorem encStrc_scalar (x : Strc) : (encStrc x).scalar = false := by simp [encStrc_eq]
@[simp] theorem encStrc_mk (nodes next) : encStrc ⟨nodes, next⟩ = .agg [encL 4 encNode nodes, encL 1 encInt next] := (rfl)
structure Alarm where
  edge : Int
  code : Int
  deriving Inhabited, DecidableEq
def encAlarm (x : Alarm) : AV := .agg [.int .i64 x.edge, .int .i64 x.code]
theorem encAlarm_eq (x : Alarm) : encAlarm x = .agg [.int .i64 x.edge, .int .i64 x.code] := (rfl)
@[simp] theorem Alarm.eta (x : Alarm) : (Alarm.mk x.edge x.code) = x := (rfl)
theorem encAlarm_inj (x y : Alarm) (h : encAlarm x = encAlarm y) : x = y := by
  simp only [encAlarm_eq, AV.agg.injEq, List.cons.injEq, AV.int.injEq, AV.str.injEq, encL_inj, true_and, and_true] at h
  obtain ⟨h0, h1⟩ := h
  have e : ∀ z : Alarm, (Alarm.mk z.edge z.code) = z := fun z => rfl
  rw [← e x, ← e y, h0, h1]
instance : Enc 2 encAlarm := ⟨encAlarm_inj, fun _ => rfl, fun x => by simp [encAlarm_eq]⟩
structure Anal where
  sets : List (List (Strc))
  alarms : List (Alarm)
  rounds : Int
  deriving Inhabited, DecidableEq
def encAnal (x : Anal) : AV := .agg [encL 1 (encL 2 encStrc) x.sets, encL 2 encAlarm x.alarms, .int .i64 x.rounds]
theorem encAnal_eq (x : Anal) : encAnal x = .agg [encL 1 (encL 2 encStrc) x.sets, encL 2 encAlarm x.alarms, .int .i64 x.rounds] := (rfl)
@[simp] theorem Anal.eta (x : Anal) : (Anal.mk x.sets x.alarms x.rounds) = x := (rfl)
theorem encAnal_inj (x y : Anal) (h : encAnal x = encAnal y) : x = y := by
  simp only [encAnal_eq, AV.agg.injEq, List.cons.injEq, AV.int.injEq, AV.str.injEq, encL_inj, true_and, and_true] at h
  obtain ⟨h0, h1, h2⟩ := h
  have e : ∀ z : Anal, (Anal.mk z.sets z.alarms z.rounds) = z := fun z => rfl
  rw [← e x, ← e y, h0, h1, h2]
instance : Enc 3 encAnal := ⟨encAnal_inj, fun _ => rfl, fun x => by simp [encAnal_eq]⟩
structure Clm where
  point : Int
  formula : Fm
  deriving Inhabited
def encClm (x : Clm) : AV := .agg [.int .i64 x.point, .int .i64 x.formula.kind, .int .i64 x.formula.k, .int .i64 x.formula.u, .int .i64 x.formula.v, encL 5 encFm x.formula.args]
theorem encClm_eq (x : Clm) : encClm x = .agg [.int .i64 x.point, .int .i64 x.formula.kind, .int .i64 x.formula.k, .int .i64 x.formula.u, .int .i64 x.formula.v, encL 5 encFm x.formula.args] := (rfl)
@[simp] theorem Clm.eta (x : Clm) : (Clm.mk x.point x.formula) = x := (rfl)
theorem encClm_inj (x y : Clm) (h : encClm x = encClm y) : x = y := by
  simp only [encClm_eq, AV.agg.injEq, List.cons.injEq, AV.int.injEq, AV.str.injEq, encL_inj, true_and, and_true] at h
  obtain ⟨h0, h1, h2, h3, h4, h5⟩ := h
  have e : ∀ z : Clm, (Clm.mk z.point (Fm.mk z.formula.kind z.formula.k z.formula.u z.formula.v z.formula.args)) = z := fun z => by cases z; simp
  rw [← e x, ← e y, h0, h1, h2, h3, h4, h5]
instance : Enc 6 encClm := ⟨encClm_inj, fun _ => rfl, fun x => by simp [encClm_eq]⟩
def szNode (x : Node) : Nat := x.vars.length + x.reach.length
def szNodes (l : List Node) : Nat := l.length + (l.map szNode).sum
def szStrc (x : Strc) : Nat := szNodes x.nodes + x.next.length
def szHeap (x : Heap) : Nat := x.vars.length + x.next.length
def left (n : Nat) (l : Int) : Int := if l < n then -1 else l - n
theorem sum_mem {α : Type} (f : α → Nat) : ∀ {l : List α} {x : α}, x ∈ l → f x ≤ (l.map f).sum
  | a :: l, x, h => by
    rw [List.map_cons, List.sum_cons]
    rcases List.mem_cons.1 h with rfl | h
    · omega
    · have := sum_mem f h; omega
end Go.Vm
namespace Go.Vm
open Go.Proofs
end Go.Vm
