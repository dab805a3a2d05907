/-
  An evaluator of calls at closed inputs, part a: its values, its heap. No program in sight. (Its tables have closed rows, and its functions are small: the kernel computes with them.)
-/
import Derived.CallsIn
import Derived.RangeFuncLeaves
import Derived.RecoverIn
namespace Go.Eva
noncomputable section

universe u
def cnd {α : Sort u} (b : Bool) (x y : α) : α := Bool.rec y x b
def bO {α β : Type} (o : Option α) (f : α → Option β) : Option β := Option.rec none f o

/-- Ways to a place: by digits. -/
inductive Way where
  | z
  | x
  | d0 (p : Way)
  | d1 (p : Way)
  | d2 (p : Way)
  | d3 (p : Way)
def digit (j : Nat) (p : Way) : Way := cnd (Nat.beq j 0) (.d0 p) (cnd (Nat.beq j 1) (.d1 p) (cnd (Nat.beq j 2) (.d2 p) (.d3 p)))
def wayG (n : Nat) : Nat → Way := Nat.rec (fun _ => .x) (fun _ ih k => cnd (Nat.beq k 0) .z (digit (Nat.mod (Nat.sub k 1) 4) (ih (Nat.div (Nat.sub k 1) 4)))) n
def way (k : Nat) : Way := wayG 20 k
/-- Places by number. -/
inductive T (α : Type) where
  | e
  | n (v : Option α) (c0 c1 c2 c3 : T α)
def T.val {α : Type} (t : T α) : Option α := T.rec none (fun v _ _ _ _ _ _ _ _ => v) t
def T.c0 {α : Type} (t : T α) : T α := T.rec .e (fun _ c _ _ _ _ _ _ _ => c) t
def T.c1 {α : Type} (t : T α) : T α := T.rec .e (fun _ _ c _ _ _ _ _ _ => c) t
def T.c2 {α : Type} (t : T α) : T α := T.rec .e (fun _ _ _ c _ _ _ _ _ => c) t
def T.c3 {α : Type} (t : T α) : T α := T.rec .e (fun _ _ _ _ c _ _ _ _ => c) t
def T.getW {α : Type} (p : Way) : T α → Option α := Way.rec T.val (fun _ => none) (fun _ ih t => ih (T.c0 t)) (fun _ ih t => ih (T.c1 t)) (fun _ ih t => ih (T.c2 t)) (fun _ ih t => ih (T.c3 t)) p
def T.get {α : Type} (t : T α) (k : Nat) : Option α := T.getW (way k) t
def T.put0 {α : Type} (t : T α) (x : Option α) : T α := T.rec (.n x .e .e .e .e) (fun _ c0 c1 c2 c3 _ _ _ _ => .n x c0 c1 c2 c3) t
def T.put1 {α : Type} (ih : T α → Option α → T α) (t : T α) (x : Option α) : T α := T.rec (.n none (ih .e x) .e .e .e) (fun v c0 c1 c2 c3 _ _ _ _ => .n v (ih c0 x) c1 c2 c3) t
def T.put2 {α : Type} (ih : T α → Option α → T α) (t : T α) (x : Option α) : T α := T.rec (.n none .e (ih .e x) .e .e) (fun v c0 c1 c2 c3 _ _ _ _ => .n v c0 (ih c1 x) c2 c3) t
def T.put3 {α : Type} (ih : T α → Option α → T α) (t : T α) (x : Option α) : T α := T.rec (.n none .e .e (ih .e x) .e) (fun v c0 c1 c2 c3 _ _ _ _ => .n v c0 c1 (ih c2 x) c3) t
def T.put4 {α : Type} (ih : T α → Option α → T α) (t : T α) (x : Option α) : T α := T.rec (.n none .e .e .e (ih .e x)) (fun v c0 c1 c2 c3 _ _ _ _ => .n v c0 c1 c2 (ih c3 x)) t
def T.putW {α : Type} (p : Way) : T α → Option α → T α := Way.rec T.put0 (fun _ _ => .e) (fun _ ih => T.put1 ih) (fun _ ih => T.put2 ih) (fun _ ih => T.put3 ih) (fun _ ih => T.put4 ih) p
def T.put {α : Type} (_ : Nat) (t : T α) (k : Nat) (x : Option α) : T α := T.putW (way k) t x
def T.set {α : Type} (t : T α) (k : Nat) (x : α) : T α := T.putW (way k) t (some x)
def T.keep {α : Type} (f : α → Bool) : T α → T α
  | .e => .e
  | .n v c0 c1 c2 c3 => .n (v.bind fun x => cnd (f x) (some x) none) (c0.keep f) (c1.keep f) (c2.keep f) (c3.keep f)

/-- Values: as they are; a pointer into a block; a slice: of a block, from an element on, of elements of so many cells, so many, with room for c or for all that the block has; the empty rest of one. -/
inductive EV where
  | raw (v : Value)
  | ptr (b o : Nat)
  | sl (b i sz n : Nat) (c : Option Nat)
  | se (b i j sz : Nat)
  | agg (l : List EV)
  | tup (l : List EV)
  | fn (f : FuncId) (first cap : List EV)
  | yld (l : Nat)
  | ifc (t : TypeId) (x : EV)
  | mp (b : Nat)
  deriving Inhabited

def EV.cells (x : EV) : List EV := match x with
  | .agg l => l
  | x => [x]
/-- Whether it fills one cell. -/
def EV.one : EV → Bool
  | .raw (.agg _) => false
  | .raw (.tuple _) => false
  | .agg _ => false
  | .tup _ => false
  | _ => true
def ofV (v : Value) : EV := match v with
  | .agg cs => .agg (cs.toList.map .raw)
  | v => .raw v
mutual
def EV.toV : EV → Option Value
  | .raw v => some v
  | .agg l => (toVs l).map fun vs => .agg vs.toArray
  | .ifc t x => x.toV.map fun v => .iface t v
  | _ => none
def toVs : List EV → Option (List Value)
  | [] => some []
  | x :: r => match x.toV, toVs r with
    | some v, some vs => some (v :: vs)
    | _, _ => none
end

structure ELoop where
  state : LoopState
  pending : Option Code
  tm : T EV
  N : Nat
  params : Array Tmp
  assign : Code
  body : Code
  defers : Nat

inductive EO where
  | var (l : List EV)
  | row (l : List EV) (cls : Nat) (solo tip : Bool)
  | loop (L : ELoop)
  | iter (s : ByteArray) (pos : Nat)
  | dfr
  | map (es : List (Value × EV × Nat)) (clock : Nat)

structure ES where
  h : T EO
  n : Nat

inductive EDef where
  | mark (r : Nat)
  | fn (f : FuncId) (args : List EV)

def evTab (x : Operand) : T EV → Option EV := match x with
  | .tmp k => fun tm => T.get tm k
  | .const v => fun _ => some (ofV v)
  | .global _ => fun _ => none
  | .func f => fun _ => some (.fn f [] [])
def ev (tm : T EV) (x : Operand) : Option EV := evTab x tm
def evs (tm : T EV) (l : List Operand) : Option (List EV) :=
  List.rec (some []) (fun x _ r => bO (ev tm x) fun v => bO r fun vs => some (v :: vs)) l

/-! ### What is asked of types -/
def nthO {α : Type} (l : List α) : Nat → Option α := List.rec (fun _ => none) (fun x _ ih k => Nat.rec (some x) (fun j _ => ih j) k) l
def infoA (P : Program) (t : TypeId) : Option TypeInfo := Option.rec (P.info? t) some (nthO P.types.toList t)
def funcA (P : Program) (f : FuncId) : Option Func := nthO P.funcs.toList f
def undA (P : Program) (t : TypeId) : Option TypeDesc := match infoA P t with
  | some { desc := .named _ u, .. } => (infoA P u).map (·.desc)
  | some i => some i.desc
  | none => none

def szT (P : Program) (t : TypeId) : Option Nat := (infoA P t).map (·.size)
def byT (P : Program) (t : TypeId) : Option Nat := (infoA P t).map (·.bytes)
def zrT (P : Program) (t : TypeId) : Option (List EV) := ((infoA P t).bind (·.zero)).map fun v => v.cells.toList.map .raw
def aggD : TypeDesc → Bool | .struct _ => true | .array _ _ => true | _ => false
def aggT (P : Program) (t : TypeId) : Option Bool := (undA P t).map aggD
def slT (P : Program) (t : TypeId) : Option TypeId := match undA P t with | some (.slice e) => some e | _ => none
def arrT (P : Program) (t : TypeId) : Option (Nat × TypeId) := match undA P t with | some (.array n e) => some (n, e) | _ => none
def intT (P : Program) (t : TypeId) : Option IntKind := match undA P t with | some (.int k) => some k | _ => none
def strT (P : Program) (t : TypeId) : Bool := match undA P t with | some .string => true | _ => false
def ifcT (P : Program) (t : TypeId) : Option Bool := (undA P t).map fun | .interface _ => true | _ => false
def fldT (P : Program) (t : TypeId) (f : Nat) : Option (Nat × TypeId) := match undA P t with | some (.struct fs) => (fs[f]?).map fun x => (x.offset, x.type) | _ => none

/-! ### A computation that looks at no memory -/
def pv {α : Type} (P : Program) : Sem α → Option α
  | .pure a => some a
  | .program k => pv P (k P)
  | .mark _ k => pv P k
  | _ => none
/-- Operands that are read as they are. -/
def rho (tm : T EV) (x : Operand) : Value := match ev tm x with | some y => y.toV.getD undef | none => undef
def flat (tm : T EV) (l : List Operand) : Bool := l.all fun x => match ev tm x with | some y => y.toV.isSome | none => false
def pureOp (P : Program) (tm : T EV) (o : Oper) : Option EV :=
  cnd (flat tm o.op.operands.toList) (match pv P (execOp (rho tm) o) with | some (.value v) => some (.raw v) | _ => none) none

/-! ### Memory -/
def cellsAt (s : ES) (b : Nat) : Option (List EV) := match T.get s.h b with
  | some (.var l) => some l
  | some (.row l _ _ _) => some l
  | _ => none
def setL : List EV → Nat → List EV → Option (List EV)
  | l, 0, [] => some l
  | _ :: l, 0, x :: xs => bO (setL l 0 xs) fun r => some (x :: r)
  | y :: l, k + 1, xs => bO (setL l k xs) fun r => some (y :: r)
  | [], _, _ => none
def alienT (c : Nat) (o : EO) : Bool := match o with
  | .row _ c' _ _ => !(Nat.beq c c')
  | _ => true
/-- All of a class are given up (b is laid anew behind it). -/
def killAll (c _ : Nat) (h : T EO) : T EO := h.keep (alienT c)
def storeRow (s : ES) (b : Nat) (c : Nat) (solo : Bool) (l : List EV) : ES := { h := T.set (cnd solo s.h (killAll c b s.h)) b (.row l c true true), n := s.n }
def storeObj (s : ES) (b o : Nat) (xs : List EV) (x : EO) : Option ES := match x with
  | .var l => bO (setL l o xs) fun l' => some { h := T.set s.h b (.var l'), n := s.n }
  | .row l c solo true => bO (setL l o xs) fun l' => some (storeRow s b c solo l')
  | _ => none
def storeAt (s : ES) (b o : Nat) (xs : List EV) : Option ES := bO (T.get s.h b) fun x => storeObj s b o xs x
def newObj (s : ES) (o : EO) : ES := { h := T.set s.h s.n o, n := Nat.succ s.n }

def natI (i : Int) : Option Nat := match i with
  | .ofNat k => some k
  | .negSucc _ => none
def asNat (x : EV) : Option Nat := match x with
  | .raw (.int _ i) => natI i
  | _ => none

/-- A slice's cells. -/
def slCells (s : ES) (x : EV) : Option (List EV) := match x with
  | .raw (.slice none 0 0) => some []
  | .se .. => some []
  | .sl b i sz n _ => bO (cellsAt s b) fun l => cnd (Nat.ble ((i + n) * sz) l.length) (some ((l.drop (i * sz)).take (n * sz))) none
  | .raw (.string x) => some (x.data.toList.map fun b => .raw (.int .u8 b.toNat))
  | _ => none
def slLen (x : EV) : Option Nat := match x with
  | .raw (.slice none 0 0) => some 0
  | .raw (.string x) => some x.data.toList.length
  | .se .. => some 0
  | .sl _ _ _ n _ => some n
  | _ => none
end
end Go.Eva
