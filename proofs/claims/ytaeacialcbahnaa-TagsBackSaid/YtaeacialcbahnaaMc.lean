/-
  The abstract layer, part c: what a piece of code asks, said of abstract states ('run').
-/
import Derived.Test.YtaeacialcbahnaaMb
namespace Go.Abs
open Go.RowKit

/-! ### What is asked of types -/
def slE (P : Program) (t : TypeId) : Option TypeId := match P.underlying t with | some (.slice e) => some e | _ => none
def isStr (P : Program) (t : TypeId) : Bool := match P.underlying t with | some .string => true | _ => false
def szT (P : Program) (t : TypeId) : Option Nat := (P.info? t).map (·.size)
def byT (P : Program) (t : TypeId) : Option Nat := (P.info? t).map (·.bytes)
def zrT (P : Program) (t : TypeId) : Option Value := (P.info? t).bind (·.zero)
def aggD : TypeDesc → Bool | .struct _ => true | .array _ _ => true | _ => false
def aggT (P : Program) (t : TypeId) : Option Bool := (P.underlying t).map aggD
def fldT (P : Program) (t : TypeId) (f : Nat) : Option (Nat × TypeId) := match P.underlying t with | some (.struct fs) => (fs[f]?).map fun x => (x.offset, x.type) | _ => none
def arrT (P : Program) (t : TypeId) : Option (Nat × TypeId) := match P.underlying t with | some (.array n e) => some (n, e) | _ => none
def intT (P : Program) (t : TypeId) : Option IntKind := match P.underlying t with | some (.int k) => some k | _ => none
def ptrT (P : Program) (t : TypeId) : Option TypeId := match P.underlying t with | some (.pointer e) => some e | _ => none

/-! ### States -/
def ofV : Value → AV
  | .agg cs => .agg (cs.toList.map .raw)
  | .tuple _ => .any
  | v => .raw v

abbrev I (n : Int) : AV := .raw (.int .i64 n)
abbrev B (b : Bool) : AV := .raw (.bool b)
abbrev nilS : AV := .raw (.slice none 0 0)

/-- The temporaries, what may be written, whether no mark lies among the deferred calls, the deferred calls of functions. -/
structure St where
  t : List AV
  σ : List Res
  fr : Bool := true
  df : List Deferred := []

def St.ev (s : St) : Operand → AV
  | .tmp k => s.t.getD k .any
  | .const v => ofV v
  | .global g => .raw (.pointer (some ⟨g, 0, none⟩))
  | .func f => .raw (.func (.func f) #[] #[])

/-- The slot of an operation that was passed over. -/
def U : AV := .raw undef

def setT (t : List AV) (dst : Option Tmp) (x : AV) : List AV :=
  match dst with
  | some d => t.set d x
  | none => t

def mkMark (r : Nat) : Deferred := { target := .collected r, args := #[] }
def dres (r : Nat) : Res := .blk r (.deferred (some []))

def SR (κ : Ctx) (φ : List Res) (g : Nat → Nat) (s : St) (a : Act) (w : World) : Prop :=
  ∃ ds : List Nat, a.defers = ds.map mkMark ++ s.df ∧ (s.fr = true → ds = []) ∧ Rel κ g (φ ++ (ds.map dres ++ s.σ)) w ∧ TR g w s.t a.tmps

def FD : Option Nat → Fence
  | none => Fence.wide
  | some l => Fence.wide.inRound l

inductive Ret where
  | ret (x : AV)
  | pan (c : List PanicEntry)

def ER (g : Nat → Nat) (w : World) : Ret → Ending → Prop
  | .ret x, .returned v => VR g w x v
  | .pan c, .panicked c' => c' = c
  | _, _ => False

/-- What a call must come to. -/
def CPost (κ : Ctx) (φ : List Res) (g : Nat → Nat) (w : World) (K : Ret → List Res → Prop) (e : Ending) (w' : World) : Prop :=
  ∃ g' σ' r, Rel κ g' (φ ++ σ') w' ∧ GE g w g' w' ∧ ER g' w' r e ∧ K r σ'

/-- A call of function f at these arguments, with these resources, comes to K. -/
def ACallF (κ : Ctx) (P : Program) (f : FuncId) (args : List AV) (σ : List Res) (K : Ret → List Res → Prop) : Prop :=
  ∀ (φ : List Res) (g : Nat → Nat) (w : World) (vs : Array Value), Rel κ g (φ ++ σ) w → TR g w args vs → CallsIn Fence.wide 0 P f vs w (CPost κ φ g w K)

/-- A call of the yield of loop l. -/
def ACallY (κ : Ctx) (P : Program) (l : Nat) (args : List AV) (σ : List Res) (K : Ret → List Res → Prop) : Prop :=
  ∀ (φ : List Res) (g : Nat → Nat) (w : World) (vs : Array Value), Rel κ g (φ ++ σ) w → TR g w args vs →
    ∃ f tmps assign body, (Instr.yield l vs).run P w = .ok (.round l f tmps assign body) w ∧ RoundIn Fence.wide 0 P l f tmps assign body w (CPost κ φ g w K)

/-- A call of a function value. -/
def ACallV (κ : Ctx) (P : Program) (f : AV) (args : List AV) (σ : List Res) (K : Ret → List Res → Prop) : Prop :=
  match f with
  | .raw (.func (.func f) first cap) => (∃ fn, P.funcs[f]? = some fn ∧ (fn.name == "runtime.NumGoroutine") = false ∧ fn.body.isNone = false) ∧ ACallF κ P f (first.toList.map .raw ++ args ++ cap.toList.map .raw) σ K
  | .raw (.func (.yield l) first _) => ACallY κ P l (first.toList.map .raw ++ args) σ K
  | _ => False

/-- Actions on memory, by name. -/
inductive MA where
  | load (t : TypeId)
  | store (t : TypeId)
  | new (t : TypeId)
  | box (t : TypeId)
  | append (st : TypeId)
  | bslice (t : TypeId) (n : Nat) (ix : List Nat)
  | build (t : TypeId) (ix : List Nat)
  | bin (op : BinOp) (t : TypeId)
  | conv (src dst : TypeId)
  | slice (t : TypeId) (lo hi mx : Bool)
  | indexAddr (t : TypeId)
  | index (t : TypeId)
  | fieldAddr (t : TypeId) (f : Nat)
  | field (t : TypeId) (f : Nat)
  | mkslice (t : TypeId)
  | copy (ts : Array TypeId) (t : TypeId)
  | len (t : TypeId)
  | cap (t : TypeId)
  | lookup (t : TypeId) (ok : Bool)
  | mapUpdate (t : TypeId)
  | makeMap (t : TypeId)
  | typeAssert (xt at_ : TypeId) (ok : Bool)
  | range (t : TypeId)
  | next (str : Bool) (t : TypeId)
  | makeIface (t : TypeId)
  | minmax (mx : Bool) (ts : Array TypeId) (t : TypeId)

def nth (vs : List Value) (k : Nat) : Value := vs.getD k undef

def MA.sem (m : MA) (vs : List Value) : Sem Value :=
  match m with
  | .load t => Instr.loadAt t (nth vs 0)
  | .store t => do Instr.storeAt t (nth vs 0) (nth vs 1); pure undef
  | .new t => Instr.alloc t true (.tuple #[])
  | .box t => Instr.box t (nth vs 0)
  | .append st => Builtin.append_ #[st, st] st #[nth vs 0, nth vs 1]
  | .bslice t n ix => Instr.buildSlice t n (ix.zip vs).toArray
  | .build t ix => Instr.build t (ix.zip vs).toArray
  | .bin op t => binOp op t (nth vs 0) (nth vs 1)
  | .conv s d => convert s d (nth vs 0)
  | .slice t lo hi mx => Instr.sliceAt t (nth vs 0) (if lo then some (nth vs 1) else none) (if hi then some (nth vs 2) else none) (if mx then some (nth vs 3) else none)
  | .indexAddr t => Instr.indexAt t (nth vs 0) (nth vs 1)
  | .index t => Instr.index t (nth vs 0) (nth vs 1)
  | .fieldAddr t f => Instr.fieldAt t (nth vs 0) f
  | .field t f => Instr.field t (nth vs 0) f
  | .mkslice t => Instr.makeSlice t (nth vs 0) (nth vs 1)
  | .copy ts t => Builtin.copy_ ts t #[nth vs 0, nth vs 1]
  | .len t => Builtin.len_ #[t] t #[nth vs 0]
  | .cap t => Builtin.cap_ #[t] t #[nth vs 0]
  | .lookup t ok => Instr.lookup t (nth vs 0) (nth vs 1) ok
  | .mapUpdate t => do Instr.mapUpdate t (nth vs 0) (nth vs 1) (nth vs 2); pure undef
  | .makeMap t => Instr.makeMap t none
  | .typeAssert xt at_ ok => Instr.typeAssert (nth vs 0) xt at_ ok
  | .range t => Instr.range t (nth vs 0)
  | .next str t => Instr.next (nth vs 0) str t
  | .makeIface t => Instr.makeInterface t (nth vs 0)
  | .minmax mx ts t => if mx then Builtin.max_ ts t vs.toArray else Builtin.min_ ts t vs.toArray

/-- An action on memory comes to K. -/
def AAct (κ : Ctx) (P : Program) (m : MA) (xs : List AV) (σ : List Res) (K : AV → List Res → Prop) : Prop :=
  ∀ (φ : List Res) (g : Nat → Nat) (w : World) (vs : List Value), Rel κ g (φ ++ σ) w → TR g w xs vs.toArray →
    ∃ v w' g' x σ', (m.sem vs).run P w = .ok v w' ∧ Rel κ g' (φ ++ σ') w' ∧ GE g w g' w' ∧ VR g' w' x v ∧ K x σ'

def retK (K : AV → List Res → Prop) (KP : List PanicEntry → List Res → Prop) (r : Ret) (σ : List Res) : Prop := match r with | .ret x => K x σ | .pan c => KP c σ
/-- An action: as it comes; or, where an order is drawn ('dm'), one that has one value and turns nothing. -/
def actM (κ : Ctx) (dm : Bool) (P : Program) (m : MA) (xs : List AV) (σ : List Res) (K : AV → List Res → Prop) : Prop :=
  match dm with
  | false => AAct κ P m xs σ K
  | true => ∃ x, AAct κ P m xs σ (fun y σ' => y = x ∧ σ' = σ) ∧ K x σ
def callM (κ : Ctx) (dm : Bool) (P : Program) (f : AV) (xs : List AV) (σ : List Res) (K : AV → List Res → Prop) (KP : List PanicEntry → List Res → Prop) : Prop :=
  match dm with
  | false => ACallV κ P f xs σ (retK K KP)
  | true => ∃ x, ACallV κ P f xs σ (fun r σ' => r = .ret x ∧ σ' = σ) ∧ K x σ

/-- A test that may be open. -/
def Cond (b : Bool) (X Y : Prop) : Prop := (b = true → X) ∧ (b = false → Y)

/-! ### Pure operations -/
def intF (op : BinOp) (k : IntKind) (a b : Int) : Option Value :=
  match op with
  | .add => some (.int k (k.wrap (a + b)))
  | .sub => some (.int k (k.wrap (a - b)))
  | .mul => some (.int k (k.wrap (a * b)))
  | .quo => if b = 0 then none else some (.int k (k.wrap (a.tdiv b)))
  | .rem => if b = 0 then none else some (.int k (a.tmod b))
  | .and => some (.int k (k.wrap (BitVec.ofInt k.bits a &&& BitVec.ofInt k.bits b).toNat))
  | .or => some (.int k (k.wrap (BitVec.ofInt k.bits a ||| BitVec.ofInt k.bits b).toNat))
  | .xor => some (.int k (k.wrap (BitVec.ofInt k.bits a ^^^ BitVec.ofInt k.bits b).toNat))
  | .eql => some (.bool (a == b))
  | .neq => some (.bool (a != b))
  | .lss => some (.bool (decide (a < b)))
  | .leq => some (.bool (decide (a ≤ b)))
  | .gtr => some (.bool (decide (a > b)))
  | .geq => some (.bool (decide (a ≥ b)))
  | _ => none

def shF (op : BinOp) (k : IntKind) (a b : Int) : Option Value :=
  if b < 0 then none else
  match op with
  | .shl => some (.int k (k.wrap (a * 2 ^ (min b.toNat k.bits))))
  | .shr => some (.int k (a.fdiv (2 ^ (min b.toNat k.bits))))
  | _ => none

def strF (op : BinOp) (x y : ByteArray) : Option Value :=
  match op with
  | .add => if ((x.size + y.size : Nat) : Int) > IntKind.i64.max then none else some (.string (x ++ y))
  | .eql => some (.bool (x.toList == y.toList))
  | .neq => some (.bool (!(x.toList == y.toList)))
  | .lss => some (.bool (Op.bytesLess x.toList y.toList))
  | _ => none

/-- What must hold of an optional value. -/
def okV (v : Option Value) (K : AV → Prop) : Prop :=
  match v with
  | some v => K (.raw v)
  | none => False

def binR (κ : Ctx) (dm : Bool) (P : Program) (op : BinOp) (t : TypeId) (x y : AV) (σ : List Res) (K : AV → List Res → Prop) : Prop :=
  match x, y with
  | .raw (.int k a), .raw (.int k' b) =>
    match op with
    | .shl | .shr => okV (shF op k a b) fun v => K v σ
    | _ => k = k' ∧ okV (intF op k a b) fun v => K v σ
  | .raw (.string a), .raw (.string b) => okV (strF op a b) fun v => K v σ
  | .raw (.bool a), .raw (.bool b) =>
    match op with
    | .eql => (P.underlying t = some .bool) ∧ K (B (a == b)) σ
    | .neq => (P.underlying t = some .bool) ∧ K (B (!(a == b))) σ
    | _ => False
  | .sl _ _ l, .raw (.slice none 0 0) =>
    match op with
    | .eql => (slE P t).isSome = true ∧ ((0 < l.length ∧ K (B false) σ) ∨ (dm = false ∧ l.length = 0 ∧ ∀ b, K (B b) σ))
    | .neq => (slE P t).isSome = true ∧ ((0 < l.length ∧ K (B true) σ) ∨ (dm = false ∧ l.length = 0 ∧ ∀ b, K (B b) σ))
    | _ => False
  | .raw (.slice none 0 0), .raw (.slice none 0 0) =>
    match op with
    | .eql => (slE P t).isSome = true ∧ K (B true) σ
    | .neq => (slE P t).isSome = true ∧ K (B false) σ
    | _ => False
  | x, y => actM κ dm P (.bin op t) [x, y] σ K

def unR (op : UnOp) (x : AV) (K : AV → Prop) : Prop :=
  match op, x with
  | .not, .raw (.bool b) => K (B (!b))
  | .neg, .raw (.int k n) => K (.raw (.int k (k.wrap (0 - n))))
  | _, _ => False

def pickR (c a b : AV) (K : AV → Prop) : Prop :=
  match c with
  | .raw (.bool c) => K (if c then a else b)
  | _ => False

def extR (x : AV) (i : Nat) (K : AV → Prop) : Prop :=
  match x with
  | .tup l => i < l.length ∧ K (l.getD i .any)
  | _ => False

def lenR (κ : Ctx) (dm : Bool) (P : Program) (t : TypeId) (x : AV) (σ : List Res) (K : AV → List Res → Prop) : Prop :=
  match x with
  | .sl _ _ l => (slE P t).isSome = true ∧ K (I l.length) σ
  | .raw (.slice _ n _) => (slE P t).isSome = true ∧ K (I n) σ
  | .raw (.string s) => isStr P t = true ∧ K (I s.size) σ
  | x => actM κ dm P (.len t) [x] σ K

def loadR (κ : Ctx) (dm : Bool) (P : Program) (t : TypeId) (x : AV) (σ : List Res) (K : AV → List Res → Prop) : Prop :=
  match x with
  | .cp l =>
    match aggT P t, szT P t with
    | some true, some n => n ≤ l.length ∧ K (.agg (l.take n)) σ
    | some false, some _ => 0 < l.length ∧ K (l.getD 0 .any) σ
    | _, _ => False
  | x => actM κ dm P (.load t) [x] σ K

def fieldAddrR (κ : Ctx) (dm : Bool) (P : Program) (t : TypeId) (x : AV) (f : Nat) (σ : List Res) (K : AV → List Res → Prop) : Prop :=
  match x with
  | .cp l =>
    match fldT P t f with
    | some (off, ft) => (∃ n, szT P ft = some (n + 1)) ∧ off ≤ l.length ∧ K (.cp (l.drop off)) σ
    | none => False
  | .raw (.pointer (some ⟨b, o, none⟩)) =>
    match fldT P t f with
    | some (off, ft) => (∃ n, szT P ft = some (n + 1)) ∧ K (.raw (.pointer (some ⟨b, o + off, none⟩))) σ
    | none => False
  | x => actM κ dm P (.fieldAddr t f) [x] σ K

def fieldR (κ : Ctx) (dm : Bool) (P : Program) (t : TypeId) (x : AV) (f : Nat) (σ : List Res) (K : AV → List Res → Prop) : Prop :=
  match x with
  | .agg l =>
    match fldT P t f with
    | some (off, ft) =>
      match aggT P ft, szT P ft with
      | some true, some n => K (.agg ((l.drop off).take n)) σ
      | some false, some _ => off < l.length ∧ K (l.getD off .any) σ
      | _, _ => False
    | none => False
  | x => actM κ dm P (.field t f) [x] σ K

def idxR (κ : Ctx) (dm : Bool) (P : Program) (t : TypeId) (x i : AV) (σ : List Res) (K : AV → List Res → Prop) : Prop :=
  match x, i with
  | .sl sz _ l, .raw (.int _ i) => (∃ e, slE P t = some e ∧ szT P e = some sz) ∧ 0 ≤ i ∧ i < l.length ∧ K (.cp (l.getD i.toNat .any).cells) σ
  | x, i => actM κ dm P (.indexAddr t) [x, i] σ K

def strIdxR (κ : Ctx) (dm : Bool) (P : Program) (t : TypeId) (x i : AV) (σ : List Res) (K : AV → List Res → Prop) : Prop :=
  match x, i with
  | .raw (.string s), .raw (.int _ i) => isStr P t = true ∧ 0 ≤ i ∧ i < s.size ∧ K (.raw (.int .u8 (s.data.toList.getD i.toNat 0).toNat)) σ
  | x, i => actM κ dm P (.index t) [x, i] σ K

/-- The bounds of a slice expression: the low one, the high one. -/
def loN : Option AV → Option Int
  | none => some 0
  | some (.raw (.int _ i)) => some i
  | _ => none
def hiN (n : Nat) : Option AV → Option Int
  | none => some n
  | some (.raw (.int _ i)) => some i
  | _ => none

def sliceR (κ : Ctx) (dm : Bool) (P : Program) (t : TypeId) (x : AV) (lo hi mx : Option AV) (σ : List Res) (K : AV → List Res → Prop) : Prop :=
  match x, mx with
  | .sl sz _ l, none =>
    match loN lo, hiN l.length hi with
    | some a, some b => (∃ e, slE P t = some e ∧ szT P e = some sz) ∧ 0 ≤ a ∧ a ≤ b ∧ b ≤ l.length ∧ K (.sl sz none ((l.take b.toNat).drop a.toNat)) σ
    | _, _ => False
  | .raw (.slice none 0 0), none =>
    match loN lo, hiN 0 hi with
    | some a, some b => (∃ e n, slE P t = some e ∧ szT P e = some n) ∧ a = 0 ∧ b = 0 ∧ K nilS σ
    | _, _ => False
  | .raw (.string s), none =>
    match loN lo, hiN s.size hi with
    | some a, some b => isStr P t = true ∧ 0 ≤ a ∧ a ≤ b ∧ b ≤ s.size ∧ K (.raw (.string (s.extract a.toNat b.toNat))) σ
    | _, _ => False
  | x, mx => actM κ dm P (.slice t lo.isSome hi.isSome mx.isSome) [x, lo.getD .any, hi.getD .any, mx.getD .any] σ K

def convR (κ : Ctx) (dm : Bool) (P : Program) (src dst : TypeId) (x : AV) (σ : List Res) (K : AV → List Res → Prop) : Prop :=
  match x with
  | .raw (.int k n) =>
    match intT P dst with
    | some k' => (P.underlying src).isSome = true ∧ K (.raw (.int k' (k'.wrap n))) σ
    | none => actM κ dm P (.conv src dst) [.raw (.int k n)] σ K
  | x => actM κ dm P (.conv src dst) [x] σ K

def toV : AV → Option Value
  | .raw v => some v
  | _ => none

def toVs (xs : List AV) : Option (List Value) := xs.mapM toV

def mkFuncR (fn : Fn) (first cap : List AV) (K : AV → Prop) : Prop :=
  match toVs first, toVs cap with
  | some f, some c => K (.raw (.func fn f.toArray c.toArray))
  | _, _ => False

def panR (x : AV) (KP : List PanicEntry → Prop) : Prop :=
  match x with
  | .raw (.iface t v) => KP [{ v := .iface t v, recovered := false }]
  | _ => False

def nilR (x : AV) (K : AV → Prop) : Prop :=
  match x with
  | .cp l => K (.cp l)
  | .raw (.pointer (some a)) => K (.raw (.pointer (some a)))
  | .raw (.func (.func f) a b) => K (.raw (.func (.func f) a b))
  | .raw (.func (.yield f) a b) => K (.raw (.func (.yield f) a b))
  | _ => False

/-- Operands at which '==' asks nothing more. -/
def calmAV : AV → Bool
  | .raw .nilIface => false
  | .raw (.agg _) => false
  | .any => false
  | .agg _ => false
  | _ => true

/-- One operation. -/
def opR (κ : Ctx) (dm : Bool) (P : Program) (o : Oper) (s : St) (K : AV → List Res → Prop) (KP : List PanicEntry → List Res → Prop) : Prop :=
  match o.op with
  | .move x => K (s.ev x) s.σ
  | .assign x => K (s.ev x) s.σ
  | .pick c a b => pickR (s.ev c) (s.ev a) (s.ev b) fun x => K x s.σ
  | .binOp op t x y _ => (calmAV (s.ev x) || calmAV (s.ev y)) = true ∧ binR κ dm P op t (s.ev x) (s.ev y) s.σ K
  | .unOp op _ x => unR op (s.ev x) fun x => K x s.σ
  | .extract x i => extR (s.ev x) i fun x => K x s.σ
  | .load t x => loadR κ dm P t (s.ev x) s.σ K
  | .store t a x => actM κ dm P (.store t) [s.ev a, s.ev x] s.σ fun _ σ' => K .any σ'
  | .alloc t => actM κ dm P (.new t) [] s.σ K
  | .box t x => actM κ dm P (.box t) [s.ev x] s.σ K
  | .build t ps => actM κ dm P (.build t (ps.toList.map (·.1))) (ps.toList.map fun p => s.ev p.2) s.σ K
  | .buildSlice t n ps => actM κ dm P (.bslice t n (ps.toList.map (·.1))) (ps.toList.map fun p => s.ev p.2) s.σ K
  | .fieldAddr t x f => fieldAddrR κ dm P t (s.ev x) f s.σ K
  | .field t x f => fieldR κ dm P t (s.ev x) f s.σ K
  | .indexAddr t x i => idxR κ dm P t (s.ev x) (s.ev i) s.σ K
  | .index t x i => strIdxR κ dm P t (s.ev x) (s.ev i) s.σ K
  | .slice t x lo hi mx => sliceR κ dm P t (s.ev x) (lo.map s.ev) (hi.map s.ev) (mx.map s.ev) s.σ K
  | .convert src dst x => convR κ dm P src dst (s.ev x) s.σ K
  | .makeFunc fn first cap => mkFuncR fn (first.toList.map s.ev) (cap.toList.map s.ev) fun x => K x s.σ
  | .makeSlice t n c => actM κ dm P (.mkslice t) [s.ev n, s.ev c] s.σ K
  | .lookup t x i ok => actM κ dm P (.lookup t ok) [s.ev x, s.ev i] s.σ K
  | .mapUpdate t m k x => actM κ dm P (.mapUpdate t) [s.ev m, s.ev k, s.ev x] s.σ fun _ σ' => K .any σ'
  | .makeMap t none => actM κ dm P (.makeMap t) [] s.σ K
  | .typeAssert x xt at_ ok => actM κ dm P (.typeAssert xt at_ ok) [s.ev x] s.σ K
  | .range t x => actM κ dm P (.range t) [s.ev x] s.σ K
  | .next it str => actM κ dm P (.next str o.type) [s.ev it] s.σ K
  | .makeInterface t x => actM κ dm P (.makeIface t) [s.ev x] s.σ K
  | .nilCheck x => nilR (s.ev x) fun x => K x s.σ
  | .panic x => panR (s.ev x) fun c => KP c s.σ
  | .call { callee := .value f, args := xs, .. } => callM κ dm P (s.ev f) (xs.toList.map s.ev) s.σ K KP
  | .call { callee := .builtin .len, args := xs, argTypes := ts } => ts.size = 1 ∧ xs.size = 1 ∧ lenR κ dm P (ts.getD 0 0) (s.ev (xs.getD 0 (.tmp 0))) s.σ K
  | .call { callee := .builtin .cap, args := xs, argTypes := ts } => ts.size = 1 ∧ xs.size = 1 ∧ actM κ dm P (.cap (ts.getD 0 0)) [s.ev (xs.getD 0 (.tmp 0))] s.σ K
  | .call { callee := .builtin .append, args := xs, argTypes := ts } => ts.size = 2 ∧ xs.size = 2 ∧ ts.getD 0 0 = ts.getD 1 0 ∧ actM κ dm P (.append (ts.getD 0 0)) [s.ev (xs.getD 0 (.tmp 0)), s.ev (xs.getD 1 (.tmp 0))] s.σ K
  | .call { callee := .builtin .copy, args := xs, argTypes := ts } => xs.size = 2 ∧ actM κ dm P (.copy ts o.type) [s.ev (xs.getD 0 (.tmp 0)), s.ev (xs.getD 1 (.tmp 0))] s.σ K
  | .call { callee := .builtin .max, args := xs, argTypes := ts } => actM κ dm P (.minmax true ts o.type) (xs.toList.map s.ev) s.σ K
  | .call { callee := .builtin .min, args := xs, argTypes := ts } => actM κ dm P (.minmax false ts o.type) (xs.toList.map s.ev) s.σ K
  | _ => False

/-- Whether an operation is wanted. -/
def guardR (all : List Oper) (o : Oper) (s : St) (X Y : Prop) : Prop :=
  match o.guard with
  | none => X
  | some (j, want) =>
    match (all[j]?).bind (·.dst) with
    | some d =>
      match s.t.getD d .any with
      | .raw (.bool b) => Cond (b == want) X Y
      | .raw (.tuple _) => Y
      | _ => False
    | none => False

def opsR (κ : Ctx) (dm : Bool) (P : Program) (all : List Oper) (Q : Exit → St → Prop) : List Oper → St → Prop
  | [], s => Q .normal s
  | o :: rest, s => guardR all o s
      (opR κ dm P o s (fun x σ' => opsR κ dm P all Q rest { s with t := setT s.t o.dst x, σ := σ' }) (fun c σ' => Q (.panic c) { s with σ := σ' }))
      (opsR κ dm P all Q rest { s with t := setT s.t o.dst U })

/-! ### Weaker states -/
def AV.le (x y : AV) : Prop := y = .any ∨ y = x ∨ (∃ sz o l, x = .sl sz o l ∧ y = .sl sz none l) ∨ ∃ sz o, x = nilS ∧ 0 < sz ∧ y = .sl sz o []

structure St.le (s s' : St) : Prop where
  len : s'.t.length = s.t.length
  get : ∀ (k : Nat) (x y : AV), s.t[k]? = some x → s'.t[k]? = some y → x.le y
  res : ResW s.σ s'.σ
  fr : s'.fr = true → s.fr = true
  df : s'.df = s.df

def thenQ (N : St → Prop) (Q : Exit → St → Prop) : Exit → St → Prop
  | .normal, s => N s
  | e, s => Q e s

def blockQ (id : Nat) (Q : Exit → St → Prop) : Exit → St → Prop
  | .exit id', s => if id' = id then Q .normal s else Q (.exit id') s
  | e, s => Q e s

/-- A piece of code, as the machine has it, comes to Q. -/
def Post (κ : Ctx) (φ : List Res) (g : Nat → Nat) (w : World) (Q : Exit → St → Prop) : Exit → Act → World → Prop :=
  fun e a' w' => ∃ g' s', SR κ φ g' s' a' w' ∧ GE g w g' w' ∧ Q e s'

def AW (κ : Ctx) (rd : Option Nat) (P : Program) (c : Code) (Q : Exit → St → Prop) (s : St) : Prop :=
  ∀ φ g a w, SR κ φ g s a w → c.wpIn (FD rd) 0 P (Post κ φ g w Q) a w

/-- A loop: what its rounds begin with, and a measure. -/
def ALoop (body : (Exit → St → Prop) → St → Prop) (Q : Exit → St → Prop) (s : St) : Prop :=
  ∃ (X : Type) (st : X → St) (C : X → Prop) (μ : X → Nat) (x0 : X), s.le (st x0) ∧ C x0 ∧ ∀ x, C x → body (thenQ (fun s' => ∃ y, s'.le (st y) ∧ C y ∧ μ y < μ x) Q) (st x)

def run (κ : Ctx) (P : Program) (rd : Option Nat) : Code → (Exit → St → Prop) → St → Prop
  | .skip, Q, s => Q .normal s
  | .label _, Q, s => Q .normal s
  | .seq a b, Q, s => run κ P rd a (thenQ (run κ P rd b Q) Q) s
  | .cond c x y, Q, s => match s.ev c with | .raw (.bool b) => Cond b (run κ P rd x Q s) (run κ P rd y Q s) | _ => False
  | .block id c, Q, s => run κ P rd c (blockQ id Q) s
  | .loop c, Q, s => ALoop (run κ P rd c) Q s
  | .region _ ops false, Q, s => opsR κ false P ops.toList Q ops.toList s
  | .exit id, Q, s => Q (.exit id) s
  | .ret, Q, s => Q .ret s
  | c, Q, s => AW κ rd P c Q s

end Go.Abs
