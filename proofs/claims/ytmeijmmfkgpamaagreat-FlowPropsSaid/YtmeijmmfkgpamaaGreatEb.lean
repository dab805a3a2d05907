/-
  An evaluator of calls at closed inputs, part b: operations.
-/
import Derived.Test.YtmeijmmfkgpamaaGreatEa
namespace Go.Eva
noncomputable section

/-- What an operation, or a call, comes to. -/
inductive RO where
  | bad
  | keep (x : EV)
  | val (x : EV) (s : ES)
  | pan (x : EV) (s : ES)
  | dfr (d : EDef)
abbrev CallFn := EV → List EV → ES → RO
structure Kit where
  P : Program
  C : CallFn
abbrev OpFn := Kit → Oper → T EV → ES → RO

def bR {α : Type} (o : Option α) (f : α → RO) : RO := Option.rec .bad f o
def vO (s : ES) (o : Option EV) : RO := Option.rec .bad (fun x => .val x s) o

def vBool (v : Value) : Option Bool := match v with | .bool b => some b | _ => none
def asBool (x : EV) : Option Bool := match x with | .raw v => vBool v | _ => none
def asPtr (x : EV) : Option (Nat × Nat) := match x with | .ptr b o => some (b, o) | _ => none
def asAgg (x : EV) : Option (List EV) := match x with | .agg l => some l | _ => none
def asTup (x : EV) : Option (List EV) := match x with | .tup l => some l | _ => none
def vStr (v : Value) : Option ByteArray := match v with | .string s => some s | _ => none
def asStr (x : EV) : Option ByteArray := match x with | .raw v => vStr v | _ => none
def vInt (v : Value) : Option (IntKind × Int) := match v with | .int k i => some (k, i) | _ => none
def asInt (x : EV) : Option (IntKind × Int) := match x with | .raw v => vInt v | _ => none
def evN (tm : T EV) (x : Operand) : Option Nat := bO (ev tm x) asNat

/-! ### Numbers -/
def iLt (a b : Int) : Bool := match a, b with
  | .ofNat m, .ofNat n => Nat.blt m n
  | .negSucc _, .ofNat _ => true
  | .ofNat _, .negSucc _ => false
  | .negSucc m, .negSucc n => Nat.blt n m
def iEq (a b : Int) : Bool := match a, b with
  | .ofNat m, .ofNat n => Nat.beq m n
  | .negSucc m, .negSucc n => Nat.beq m n
  | _, _ => false
def is64 (k : IntKind) : Bool := match k with | .i64 => true | _ => false
/-- The number within its kind. -/
def wrapI (k : IntKind) (n : Int) : Int := cnd (is64 k) (match n with
  | .ofNat m => cnd (Nat.blt m 9223372036854775808) (.ofNat m) (k.wrap n)
  | .negSucc m => cnd (Nat.blt m 9223372036854775808) (.negSucc m) (k.wrap n)) (k.wrap n)
def iAdd (a b : Int) : Int := match a, b with
  | .ofNat m, .ofNat n => .ofNat (m + n)
  | _, _ => a + b
def iSub (a b : Int) : Int := match a, b with
  | .ofNat m, .ofNat n => cnd (Nat.ble n m) (.ofNat (m - n)) (a - b)
  | _, _ => a - b
def intTab (op : BinOp) : IntKind → Int → Int → Option Value := match op with
  | .add => fun k a b => some (.int k (wrapI k (iAdd a b)))
  | .sub => fun k a b => some (.int k (wrapI k (iSub a b)))
  | .mul => fun k a b => some (.int k (wrapI k (a * b)))
  | .eql => fun _ a b => some (.bool (iEq a b))
  | .neq => fun _ a b => some (.bool (!iEq a b))
  | .lss => fun _ a b => some (.bool (iLt a b))
  | .leq => fun _ a b => some (.bool (!iLt b a))
  | .gtr => fun _ a b => some (.bool (iLt b a))
  | .geq => fun _ a b => some (.bool (!iLt a b))
  | _ => fun _ _ _ => none
def kindEq (a b : IntKind) : Bool := match a, b with
  | .i8, .i8 => true | .i16, .i16 => true | .i32, .i32 => true | .i64, .i64 => true
  | .u8, .u8 => true | .u16, .u16 => true | .u32, .u32 => true | .u64, .u64 => true
  | _, _ => false
def binInt (op : BinOp) (p q : IntKind × Int) : Option EV := cnd (kindEq p.1 q.1) (bO (intTab op p.1 p.2 q.2) fun v => some (.raw v)) none

/-! ### Texts -/
def bEq (a b : UInt8) : Bool := Nat.beq a.toNat b.toNat
def bsEq (x y : List UInt8) : Bool := match x, y with
  | [], [] => true
  | a :: x, b :: y => cnd (bEq a b) (bsEq x y) false
  | _, _ => false
def strTab (op : BinOp) : ByteArray → ByteArray → Option Value := match op with
  | .add => fun a b => cnd (Nat.ble (a.data.toList.length + b.data.toList.length) 1000000) (some (.string ⟨(a.data.toList ++ b.data.toList).toArray⟩)) none
  | .eql => fun a b => some (.bool (bsEq a.data.toList b.data.toList))
  | .neq => fun a b => some (.bool (!bsEq a.data.toList b.data.toList))
  | _ => fun _ _ => none
def binStr (op : BinOp) (a b : ByteArray) : Option EV := bO (strTab op a b) fun v => some (.raw v)

/-- Comparisons with nil: of what kind of type, and whether it is nil. -/
def nilV (v : Value) : Option (Nat × Bool) := match v with
  | .slice none 0 0 => some (0, true)
  | .pointer none => some (1, true)
  | .nilFunc => some (2, true)
  | .nilIface => some (3, true)
  | .map none => some (4, true)
  | _ => none
def nilE (x : EV) : Option (Nat × Bool) := match x with
  | .raw v => nilV v
  | .sl .. => some (0, false)
  | .se .. => some (0, false)
  | .ptr .. => some (1, false)
  | .fn .. => some (2, false)
  | .ifc .. => some (3, false)
  | .mp .. => some (4, false)
  | _ => none
def nilD (d : TypeDesc) : Option Nat := match d with
  | .slice _ => some 0
  | .pointer _ => some 1
  | .func .. => some 2
  | .interface _ => some 3
  | .map .. => some 4
  | _ => none
def nilT (P : Program) (t : TypeId) : Option Nat := bO (undA P t) nilD
def nilTab (op : BinOp) : Bool → Option EV := match op with
  | .eql => fun b => some (.raw (.bool b))
  | .neq => fun b => some (.raw (.bool (!b)))
  | _ => fun _ => none
def nilOk (c : Nat) (k : Bool) (a b : Nat × Bool) : Bool := Nat.beq c a.1 && Nat.beq c b.1 && cnd a.2 (cnd b.2 k true) b.2
def eqNil (P : Program) (t : TypeId) (k : Bool) (op : BinOp) (x y : EV) : Option EV := bO (nilE x) fun a => bO (nilE y) fun b => bO (nilT P t) fun c => cnd (nilOk c k a b) (nilTab op (a.2 && b.2)) none
def isC (x : Operand) : Bool := match x with | .const _ => true | _ => false

def opBin2 (op : BinOp) (t : TypeId) (c : Bool) (a b : EV) (k : Kit) (o : Oper) (tm : T EV) (s : ES) : RO :=
  Option.rec (Option.rec (Option.rec (vO s (pureOp k.P tm o)) (fun x => .val x s) (eqNil k.P t c op a b)) (fun x => bR (asStr b) fun y => vO s (binStr op x y)) (asStr a))
    (fun p => Option.rec (vO s (pureOp k.P tm o)) (fun q => Option.rec (vO s (pureOp k.P tm o)) (fun x => .val x s) (binInt op p q)) (asInt b)) (asInt a)
def opBin (op : BinOp) (t : TypeId) (x y : Operand) (_ : TypeId) : OpFn := fun k o tm s => bR (ev tm x) fun a => bR (ev tm y) fun b => opBin2 op t (isC x || isC y) a b k o tm s
def opPure : OpFn := fun k o tm s => vO s (pureOp k.P tm o)
def opMove (x : Operand) : OpFn := fun _ _ tm s => vO s (ev tm x)
def opPick (c a b : Operand) : OpFn := fun _ _ tm s => bR (bO (ev tm c) asBool) fun t => vO s (ev tm (cnd t a b))
def opUn (op : UnOp) (_ : TypeId) (x : Operand) : OpFn := match op with
  | .not => fun _ _ tm s => bR (bO (ev tm x) asBool) fun t => .val (.raw (.bool (!t))) s
  | _ => opPure
def opAlloc (t : TypeId) : OpFn := fun k _ _ s => bR (zrT k.P t) fun z => cnd (z.all EV.one) (.val (.ptr s.n 0) (newObj s (.var z))) .bad
def opBox (_ : TypeId) (x : Operand) : OpFn := fun _ _ tm s => bR (ev tm x) fun v => cnd (v.cells.all EV.one) (.val (.ptr s.n 0) (newObj s (.var v.cells))) .bad
def part (l : List EV) (o : Nat) (n : Nat) (s : ES) (b : Bool) : RO := cnd b (cnd (Nat.ble (o + n) l.length) (.val (.agg ((l.drop o).take n)) s) .bad) (vO s l[o]?)
def opLoad (t : TypeId) (x : Operand) : OpFn := fun k _ tm s => bR (bO (ev tm x) asPtr) fun p => bR (cellsAt s p.1) fun l => bR (aggT k.P t) fun b => bR (szT k.P t) fun n => part l p.2 n s b
def opStore (t : TypeId) (x y : Operand) : OpFn := fun k _ tm s => bR (bO (ev tm x) asPtr) fun p => bR (ev tm y) fun v => bR (szT k.P t) fun n =>
  cnd (Nat.beq v.cells.length n && v.cells.all EV.one) (bR (storeAt s p.1 p.2 v.cells) fun s' => .val (.raw undef) s') .bad
def opFieldAddr (t : TypeId) (x : Operand) (f : Nat) : OpFn := fun k _ tm s => bR (bO (ev tm x) asPtr) fun p => bR (fldT k.P t f) fun q => bR (szT k.P q.2) fun n => cnd (Nat.beq n 0) .bad (.val (.ptr p.1 (p.2 + q.1)) s)
def opField (t : TypeId) (x : Operand) (f : Nat) : OpFn := fun k _ tm s => bR (bO (ev tm x) asAgg) fun l => bR (fldT k.P t f) fun q => bR (aggT k.P q.2) fun b => bR (szT k.P q.2) fun n => part l q.1 n s b
def ixAddr (t : TypeId) (x : EV) (i : Nat) (k : Kit) (s : ES) : RO := match x with
  | .sl b j sz n _ => bR (slT k.P t) fun e => bR (szT k.P e) fun sz' => cnd (Nat.beq sz sz' && Nat.blt i n) (.val (.ptr b ((j + i) * sz)) s) .bad
  | .ptr b o => bR (arrT k.P t) fun q => bR (szT k.P q.2) fun sz => cnd (Nat.blt i q.1) (.val (.ptr b (o + i * sz)) s) .bad
  | _ => .bad
def opIndexAddr (t : TypeId) (x i : Operand) : OpFn := fun k _ tm s => bR (ev tm x) fun v => bR (evN tm i) fun n => ixAddr t v n k s
def opIndex (t : TypeId) (x i : Operand) : OpFn := fun k o tm s => Option.rec (vO s (pureOp k.P tm o)) (fun v => bR (evN tm i) fun n => cnd (strT k.P t) (bR v.data.toList[n]? fun c => .val (.raw (.int .u8 (.ofNat c.toNat))) s) .bad) (bO (ev tm x) asStr)

def evO (tm : T EV) (x : Option Operand) : Option (Option EV) := match x with
  | none => some none
  | some x => bO (ev tm x) fun v => some (some v)
def bndLo (x : Option EV) : Option Nat := match x with | none => some 0 | some l => asNat l
def bndHi (n : Nat) (x : Option EV) : Option Nat := match x with | none => some n | some l => asNat l
def bndMx (x : Option EV) : Option (Option Nat) := match x with | none => some none | some l => bO (asNat l) fun m => some (some m)
/-- A slice of a slice: from l up to h, with room up to m. -/
def cutTop (n : Nat) (c m : Option Nat) : Nat := match m, c with | some m, _ => m | none, some k => k | none, none => n
def cutOk (n : Nat) (c m : Option Nat) (hi : Bool) : Bool := match m, c with | some m, some k => Nat.ble m k && hi | some m, none => Nat.ble m n && hi | none, _ => true
def cutE (b i sz n l h : Nat) (c m : Option Nat) : EV := match m, c with
  | none, none => cnd (Nat.beq l 0) (.sl b i sz h none) (cnd (Nat.beq l n) (.se b i l sz) (.sl b (i + l) sz (h - l) none))
  | m, c => .sl b (cnd (Nat.beq (cutTop n c m) l) i (i + l)) sz (h - l) (some (cutTop n c m - l))
def cutSl (b i sz n : Nat) (c : Option Nat) (l h : Nat) (m : Option Nat) (hi : Bool) : Option EV := cnd (cutOk n c m hi && Nat.ble h (cutTop n c m) && Nat.ble l h) (some (cutE b i sz n l h c m)) none
def cutStr (x : ByteArray) (l h : Nat) : Option EV := cnd (Nat.ble l h && Nat.ble h x.data.toList.length) (some (.raw (.string ⟨((x.data.toList.take h).drop l).toArray⟩))) none
def sliceV (x : EV) (lo hi : Option EV) (mx : Option EV) (P : Program) (t : TypeId) : Option EV := match x with
  | .sl b i sz n c => bO (slT P t) fun e => bO (szT P e) fun sz' => cnd (Nat.beq sz sz') (bO (bndLo lo) fun l => bO (bndHi n hi) fun h => bO (bndMx mx) fun m => cutSl b i sz n c l h m hi.isSome) none
  | .se b i j sz => bO (slT P t) fun e => bO (szT P e) fun _ => cnd mx.isNone (bO (bndLo lo) fun l => bO (bndHi 0 hi) fun h => cnd (Nat.beq l 0 && Nat.beq h 0) (some (.se b i j sz)) none) none
  | .raw (.string x) => cnd (strT P t && mx.isNone) (bO (bndLo lo) fun l => bO (bndHi x.data.toList.length hi) fun h => cutStr x l h) none
  | _ => none
def opSlice (t : TypeId) (x : Operand) (lo hi mx : Option Operand) : OpFn := fun k o tm s => bR (ev tm x) fun v => bR (evO tm lo) fun l => bR (evO tm hi) fun h => bR (evO tm mx) fun m =>
  Option.rec (vO s (pureOp k.P tm o)) (fun r => .val r s) (sliceV v l h m k.P t)

/-- The parts of a struct or of a literal, laid over its zero cells. -/
def fillE (place : Nat → Option (Nat × Nat)) (l : List EV) (r : List (Nat × EV)) : Option (List EV) :=
  List.rec (fun l => some l) (fun p _ ih l => bO (place p.1) fun q => cnd (Nat.beq p.2.cells.length q.2 && p.2.cells.all EV.one) (bO (setL l q.1 p.2.cells) ih) none) r l
def placesL (P : Program) (fs : List Field) : Option (List (Nat × Nat)) := fs.mapM fun f => (szT P f.type).map fun n => (f.offset, n)
def placesT (P : Program) (t : TypeId) : Option (Nat → Option (Nat × Nat)) := match undA P t with
  | some (.struct fs) => bO (placesL P fs.toList) fun l => some fun i => l[i]?
  | some (.array _ e) => bO (szT P e) fun n => some fun i => some (i * n, n)
  | _ => none
def evParts (tm : T EV) (l : List (Nat × Operand)) : Option (List (Nat × EV)) :=
  List.rec (some []) (fun p _ r => bO (ev tm p.2) fun v => bO r fun vs => some ((p.1, v) :: vs)) l
def replic (z : List EV) : Nat → List EV
  | 0 => []
  | n + 1 => z ++ replic z n
def opBuild (t : TypeId) (ps : Array (Nat × Operand)) : OpFn := fun k _ tm s => bR (zrT k.P t) fun z => bR (placesT k.P t) fun pl => bR (evParts tm ps.toList) fun xs => cnd (z.all EV.one) (bR (fillE pl z xs) fun l => .val (.agg l) s) .bad
def mkRow (n c sz : Nat) (l : List EV) (s : ES) : RO := .val (.sl s.n 0 sz n (some c)) (newObj s (.row l s.n true true))
def opBuildSlice (t : TypeId) (n : Nat) (ps : Array (Nat × Operand)) : OpFn := fun k _ tm s => bR (slT k.P t) fun e => bR (szT k.P e) fun sz => bR (zrT k.P e) fun z => bR (evParts tm ps.toList) fun xs =>
  cnd (Nat.blt 0 sz && Nat.ble (n * sz) 1000000 && Nat.beq z.length sz && z.all EV.one) (bR (fillE (fun i => some (i * sz, sz)) (replic z n) xs) fun l => mkRow n n sz l s) .bad
def opMakeSlice (t : TypeId) (n c : Operand) : OpFn := fun k _ tm s => bR (slT k.P t) fun e => bR (szT k.P e) fun sz => bR (zrT k.P e) fun z => bR (evN tm n) fun n => bR (evN tm c) fun c => bR (byT k.P e) fun bt =>
  cnd (Nat.blt 0 sz && Nat.ble n c && Nat.ble c 1000000000 && Nat.ble (bt * c) 1000000000000 && Nat.beq z.length sz && z.all EV.one) (mkRow n c sz (replic z c) s) .bad
def sure (x : EV) : Bool := match x with
  | .ptr .. => true
  | .fn .. => true
  | .yld _ => true
  | _ => false
def opNilCheck (x : Operand) : OpFn := fun _ _ tm s => bR (ev tm x) fun v => cnd (sure v) (.val v s) .bad
def opMakeFunc (fn : Fn) (first cap : Array Operand) : OpFn := match fn with
  | .func f => fun _ _ tm s => bR (evs tm first.toList) fun a => bR (evs tm cap.toList) fun b => .val (.fn f a b) s
  | _ => fun _ _ _ _ => .bad
def opMakeIface (t : TypeId) (x : Operand) : OpFn := fun k _ tm s => bR (ev tm x) fun v => bR (ifcT k.P t) fun b => cnd b .bad (.val (.ifc t v) s)
def asIfc (x : EV) : Option (TypeId × EV) := match x with | .ifc t v => some (t, v) | _ => none
def opAssert (x : Operand) (_ at_ : TypeId) (ok : Bool) : OpFn := fun k _ tm s => bR (bO (ev tm x) asIfc) fun p => bR (ifcT k.P at_) fun b =>
  cnd (!b && Nat.beq p.1 at_) (.val (cnd ok (.tup [p.2, .raw (.bool true)]) p.2) s) .bad
def opExtract (x : Operand) (i : Nat) : OpFn := fun k o tm s => Option.rec (vO s (pureOp k.P tm o)) (fun l => vO s l[i]?) (bO (ev tm x) asTup)

def byteV (x : EV) : Option UInt8 := match x with
  | .raw (.int .u8 (.ofNat n)) => cnd (Nat.blt n 256) (some (UInt8.ofNat n)) none
  | _ => none
def bytesV (l : List EV) : Option (List UInt8) := List.rec (some []) (fun x _ r => bO (byteV x) fun b => bO r fun bs => some (b :: bs)) l
def convSl (src dst : TypeId) (x : EV) (k : Kit) (s : ES) : RO := bR (slT k.P src) fun e => bR (intT k.P e) fun kd => cnd (kindEq kd .u8) (cnd (strT k.P dst) (bR (slCells s x) fun l => bR (bytesV l) fun bs => bR (slLen x) fun n => cnd (Nat.beq bs.length n) (.val (.raw (.string ⟨bs.toArray⟩)) s) .bad) (cnd (Nat.beq src dst) (.val x s) .bad)) .bad
def convStr (src dst : TypeId) (x : ByteArray) (k : Kit) (s : ES) : RO := cnd (strT k.P src) (bR (slT k.P dst) fun e => bR (intT k.P e) fun kd => bR (szT k.P e) fun sz => cnd (kindEq kd .u8 && Nat.beq sz 1)
  (.val (.sl s.n 0 1 x.data.toList.length none) (newObj s (.row (x.data.toList.map fun b => .raw (.int .u8 b.toNat)) s.n true true))) .bad) .bad
def convInt (dst : TypeId) (p : IntKind × Int) (k : Kit) (o : Oper) (tm : T EV) (s : ES) : RO := Option.rec (vO s (pureOp k.P tm o)) (fun kd => .val (.raw (.int kd (wrapI kd p.2))) s) (intT k.P dst)
def isSl (x : EV) : Bool := match x with | .sl .. => true | _ => false
def opConv (src dst : TypeId) (x : Operand) : OpFn := fun k o tm s => bR (ev tm x) fun v =>
  Option.rec (cnd (isSl v) (convSl src dst v k s) (Option.rec (vO s (pureOp k.P tm o)) (fun b => Option.rec (convStr src dst b k s) (fun r => .val r s) (pureOp k.P tm o)) (asStr v)))
    (fun p => cnd (undA k.P src).isSome (convInt dst p k o tm s) .bad) (asInt v)

/-! ### Appending, copying -/
/-- A row that has grown: it is new, or it lies where the old one does. -/
def growMay (b i sz n m : Nat) (l xs ys : List EV) (cl : Nat) (solo : Bool) (s : ES) : RO :=
  .val (.sl s.n 0 sz (n + m) none) (newObj { h := T.set (cnd (solo || Nat.beq ((i + n) * sz) l.length) s.h (killAll cl b s.h)) b (.row (l.take ((i + n) * sz)) cl false false), n := s.n } (.row (xs ++ ys) cl false true))
def growNew (sz n m : Nat) (xs ys : List EV) (s : ES) : RO := .val (.sl s.n 0 sz (n + m) none) (newObj s (.row (xs ++ ys) s.n true true))
def growObj (b i sz n m : Nat) (xs ys : List EV) (s : ES) (x : EO) : RO := match x with
  | .row l cl solo true => growMay b i sz n m l xs ys cl solo s
  | _ => .bad
def growSl (b i sz n m : Nat) (c : Option Nat) (xs ys : List EV) (s : ES) : RO := match c with
  | some k => cnd (Nat.ble (n + m) k) (bR (storeAt s b ((i + n) * sz) ys) fun s' => .val (.sl b i sz (n + m) (some k)) s') (growNew sz n m xs ys s)
  | none => bR (T.get s.h b) fun x => growObj b i sz n m xs ys s x
def isNilSl (v : Value) : Bool := match v with | .slice none 0 0 => true | _ => false
def roomOk (n : Nat) (c : Option Nat) : Bool := match c with | some k => Nat.ble n k | none => true
def appX (x : EV) (sz bt m : Nat) (ys : List EV) (s : ES) : RO := match x with
  | .raw v => cnd (isNilSl v) (cnd (Nat.beq m 0) (.keep x) (cnd (Nat.ble (m * bt) 140737488355328) (growNew sz 0 m [] ys s) .bad)) .bad
  | .sl b i sz' n c => cnd (Nat.beq sz sz') (cnd (Nat.beq m 0) (cnd (roomOk n c) (.keep x) .bad) (cnd (Nat.ble ((n + m) * bt) 140737488355328) (bR (slCells s x) fun xs => growSl b i sz n m c xs ys s) .bad)) .bad
  | _ => .bad
def appendE (t : TypeId) (x y : EV) (k : Kit) (s : ES) : RO := bR (slT k.P t) fun e => bR (szT k.P e) fun sz => bR (byT k.P e) fun bt => bR (zrT k.P e) fun z => bR (slLen y) fun m => bR (slCells s y) fun ys =>
  cnd (Nat.blt 0 sz && Nat.beq ys.length (m * sz) && Nat.blt 0 bt && Nat.beq z.length sz) (appX x sz bt m ys s) .bad
def copyX (x : EV) (sz m : Nat) (ys : List EV) (s : ES) : RO := match x with
  | .sl b i sz' n _ => cnd (Nat.beq sz sz') (bR (storeAt s b (i * sz) (ys.take (Nat.min m n * sz))) fun s' => .val (.raw (.int .i64 (.ofNat (Nat.min m n)))) s') .bad
  | .raw v => cnd (isNilSl v) (.val (.raw (.int .i64 0)) s) .bad
  | _ => .bad
def copyE (t : TypeId) (x y : EV) (k : Kit) (s : ES) : RO := bR (slT k.P t) fun e => bR (szT k.P e) fun sz => bR (slLen y) fun m => bR (slCells s y) fun ys =>
  cnd (Nat.blt 0 sz && Nat.beq ys.length (m * sz)) (copyX x sz m ys s) .bad

def lenX (t : TypeId) (x : EV) (P : Program) : Option Nat := match x with
  | .sl _ _ _ n _ => bO (slT P t) fun _ => some n
  | .se .. => bO (slT P t) fun _ => some 0
  | .raw (.string x) => cnd (strT P t) (some x.data.toList.length) none
  | _ => none
def capX (t : TypeId) (x : EV) (P : Program) : Option Nat := match x with
  | .sl _ _ _ _ c => bO (slT P t) fun _ => c
  | _ => none
abbrev BiFn := List TypeId → List EV → Kit → Oper → T EV → ES → RO
def biPure : BiFn := fun _ _ k o tm s => vO s (pureOp k.P tm o)
def biLen : BiFn := fun ts xs k o tm s => Option.rec (vO s (pureOp k.P tm o)) (fun n => .val (.raw (.int .i64 (.ofNat n))) s) (bO ts.head? fun t => bO xs.head? fun x => lenX t x k.P)
def biCap : BiFn := fun ts xs k o tm s => Option.rec (vO s (pureOp k.P tm o)) (fun n => .val (.raw (.int .i64 (.ofNat n))) s) (bO ts.head? fun t => bO xs.head? fun x => capX t x k.P)
def biAppend : BiFn := fun ts xs k _ _ s => bR ts[0]? fun t => bR ts[1]? fun u => bR xs[0]? fun x => bR xs[1]? fun y => cnd ((slT k.P u).isSome || strT k.P u) (appendE t x y k s) .bad
def biCopy : BiFn := fun ts xs k _ _ s => bR ts[0]? fun t => bR xs[0]? fun x => bR xs[1]? fun y => copyE t x y k s
def biTab (b : Builtin) : BiFn := match b with
  | .len => biLen
  | .cap => biCap
  | .append => biAppend
  | .copy => biCopy
  | .max => biPure
  | .min => biPure
  | _ => fun _ _ _ _ _ _ => .bad
/-- What a call comes to. -/
def onlyC (r : RO) : RO := match r with
  | .val x s => .val x s
  | .pan x s => .pan x s
  | _ => .bad
/-- What a built-in function comes to. -/
def onlyB (r : RO) : RO := match r with
  | .val x s => .val x s
  | .keep x => .keep x
  | _ => .bad
def opValue (g : Operand) (xs : Array Operand) : OpFn := fun k _ tm s => bR (ev tm g) fun f => bR (evs tm xs.toList) fun vs => onlyC (k.C f vs s)
def calleeTab (c : Callee) : Array Operand → Array TypeId → OpFn := match c with
  | .value g => fun xs _ => opValue g xs
  | .builtin b => fun xs ts k o tm s => bR (evs tm xs.toList) fun vs => onlyB (biTab b ts.toList vs k o tm s)
  | .invoke _ _ => fun _ _ _ _ _ _ => .bad
def opCall (c : Call) : OpFn := calleeTab c.callee c.args c.argTypes
def deferE (vs : List EV) (f : EV) : RO := match f with
  | .fn fid a b => .dfr (.fn fid (a ++ vs ++ b))
  | _ => .bad
def deferTab (c : Callee) : Array Operand → OpFn := match c with
  | .value g => fun xs _ _ tm _ => bR (ev tm g) fun f => bR (evs tm xs.toList) fun vs => deferE vs f
  | _ => fun _ _ _ _ _ => .bad
def opDefer (c : Call) : OpFn := deferTab c.callee c.args
def opPanic (x : Operand) : OpFn := fun _ _ tm s => bR (ev tm x) fun v => bR (asIfc v) fun _ => .pan v s
def opRange (t : TypeId) (x : Operand) : OpFn := fun k _ tm s => bR (bO (ev tm x) asStr) fun v => cnd (strT k.P t) (.val (.ptr s.n 0) (newObj s (.iter v 0))) .bad
def nextE (b : Nat) (s : ES) (x : EO) : RO := match x with
  | .iter v p => cnd (Nat.blt p v.data.toList.length) (.val (.tup [.raw (.bool true), .raw (.int .i64 (.ofNat p)), .raw (.int .i32 (.ofNat (Utf8.decode v p).1))]) { h := T.set s.h b (.iter v (p + (Utf8.decode v p).2)), n := s.n })
    (.val (.tup [.raw (.bool false)]) s)
  | _ => .bad
def opNext (it : Operand) (str : Bool) : OpFn := fun _ _ tm s => cnd str (bR (bO (ev tm it) asPtr) fun p => cnd (Nat.beq p.2 0) (bR (T.get s.h p.1) fun x => nextE p.1 s x) .bad) .bad
def opNo : OpFn := fun _ _ _ _ => .bad

/-- An answer that is a value. -/
def onlyV (r : RO) : RO := match r with
  | .val x s => .val x s
  | _ => .bad
/-- Operations that call nothing. -/
def opFlat (o : Op) : OpFn := match o with
  | .move x => opMove x
  | .assign x => opMove x
  | .pick c a b => opPick c a b
  | .alloc t => opAlloc t
  | .box t x => opBox t x
  | .build t ps => opBuild t ps
  | .buildSlice t n ps => opBuildSlice t n ps
  | .load t x => opLoad t x
  | .store t x y => opStore t x y
  | .nilCheck x => opNilCheck x
  | .binOp op t x y u => opBin op t x y u
  | .unOp op t x => opUn op t x
  | .convert s d x => opConv s d x
  | .makeInterface t x => opMakeIface t x
  | .makeFunc fn a b => opMakeFunc fn a b
  | .makeSlice t n c => opMakeSlice t n c
  | .slice t x l h m => opSlice t x l h m
  | .fieldAddr t x f => opFieldAddr t x f
  | .field t x f => opField t x f
  | .indexAddr t x i => opIndexAddr t x i
  | .index t x i => opIndex t x i
  | .lookup _ _ _ _ => opPure
  | .range t x => opRange t x
  | .next it str => opNext it str
  | .typeAssert x t u ok => opAssert x t u ok
  | .extract x i => opExtract x i
  | _ => opNo
def opTab (o : Op) : OpFn := match o with
  | .call c => opCall c
  | .defer c => opDefer c
  | .panic x => opPanic x
  | o => fun k p tm s => onlyV (opFlat o k p tm s)
/-- Operations that call no function. -/
def calmTab (c : Callee) : Array Operand → Array TypeId → OpFn := match c with
  | .builtin b => fun xs ts k o tm s => bR (evs tm xs.toList) fun vs => onlyB (biTab b ts.toList vs k o tm s)
  | _ => fun _ _ _ _ _ _ => .bad
def opCalm (o : Op) : OpFn := match o with
  | .call c => calmTab c.callee c.args c.argTypes
  | o => fun k p tm s => onlyV (opFlat o k p tm s)
end
end Go.Eva
