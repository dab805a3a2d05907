/-
  An evaluator of calls at closed inputs, part c: code, calls.
-/
import Derived.Test.YtmeijmmfkgpamaaGreatEb
namespace Go.Eva
noncomputable section

inductive EX where
  | normal
  | exit (id : Nat)
  | ret
  | panic (x : EV)
/-- What a piece of code comes to: how it is left, the temporaries, the deferred calls, the heap. -/
inductive R where
  | bad
  | ok (e : EX) (tm : T EV) (df : List EDef) (s : ES)
def bX {α : Type} (o : Option α) (f : α → R) : R := Option.rec .bad f o

/-- Of an activation: the program and its calls, how many temporaries, the round. -/
structure Cx extends Kit where
  lim : Nat
  N : Nat
  rd : Option Nat

def putT (N : Nat) (tm : T EV) (dst : Option Tmp) (x : EV) (f : T EV → R) : R := match dst with
  | none => f tm
  | some d => cnd (Nat.blt d N) (f (T.set tm d x)) .bad

def wantB (b : Bool) (v : Value) : Bool := match v with | .bool c => cnd c b (!b) | _ => false
def wantE (b : Bool) (x : EV) : Option Bool := match x with | .raw v => some (wantB b v) | _ => none
def wantG (all : Array Oper) (tm : T EV) (g : Nat × Bool) : Option Bool :=
  Option.rec (some false) (fun d => bO (T.get tm d) fun x => wantE g.2 x) (bO all[g.1]? fun o => o.dst)
def wanted (all : Array Oper) (tm : T EV) (g : Option (Nat × Bool)) : Option Bool := match g with
  | none => some true
  | some g => wantG all tm g

/-- What is called if it is called exists. -/
def isTup (v : Value) : Bool := match v with | .tuple _ => true | _ => false
def aboutV (P : Program) (x : EV) : Bool := match x with
  | .fn f _ _ => (funcA P f).isSome
  | .yld _ => true
  | .raw v => isTup v
  | _ => false
def aboutC (P : Program) (tm : T EV) (c : Callee) : Bool := match c with
  | .value g => Option.rec false (aboutV P) (ev tm g)
  | .builtin _ => true
  | .invoke _ _ => false
def aboutOk (P : Program) (tm : T EV) (o : Op) : Bool := match o with
  | .call c => aboutC P tm c.callee
  | _ => true
def opEnd (c : Cx) (o : Oper) (tm : T EV) (df : List EDef) (r : RO) (next : T EV → List EDef → ES → R) (s : ES) : R := match r with
  | .bad => .bad
  | .keep x => putT c.N tm o.dst x fun tm' => next tm' df s
  | .val x s' => putT c.N tm o.dst x fun tm' => next tm' df s'
  | .pan x s' => .ok (.panic x) tm df s'
  | .dfr d => cnd c.rd.isNone (putT c.N tm o.dst (.raw undef) fun tm' => next tm' (d :: df) s) .bad
def opsStep (all : Array Oper) (o : Oper) (next : Cx → T EV → List EDef → ES → R) (c : Cx) (tm : T EV) (df : List EDef) (s : ES) : R :=
  bX (wanted all tm o.guard) fun b => cnd b (opEnd c o tm df (opTab o.op c.toKit o tm s) (next c) s) (cnd (aboutOk c.P tm o.op) (putT c.N tm o.dst (.raw undef) fun tm' => next c tm' df s) .bad)
def evOps (all : Array Oper) (l : List Oper) : Cx → T EV → List EDef → ES → R :=
  List.rec (fun _ tm df s => .ok .normal tm df s) (fun o _ ih => opsStep all o ih) l

abbrev CdFn := Cx → T EV → List EDef → ES → R
def thenR (f : T EV → List EDef → ES → R) (r : R) : R := match r with
  | .ok .normal tm df s => f tm df s
  | r => r
def iter (body : CdFn) (n : Nat) : CdFn := Nat.rec (fun _ _ _ _ => .bad) (fun _ ih c tm df s => thenR (ih c) (body c tm df s)) n
def outE (id : Nat) (e : EX) : EX := match e with
  | .exit i => cnd (Nat.beq i id) .normal (.exit i)
  | e => e
def outR (id : Nat) (r : R) : R := match r with
  | .bad => .bad
  | .ok e tm df s => .ok (outE id e) tm df s
def cCond (x : Operand) (a b : CdFn) : CdFn := fun c tm df s => bX (bO (ev tm x) asBool) fun t => cnd t (a c tm df s) (b c tm df s)

/-- The pending jump of a range over a function. -/
def pendE (c : Option Code) : Option EX := match c with
  | none => some .normal
  | some .ret => some .ret
  | some (.exit id) => some (.exit id)
  | _ => none
def notBusy (x : LoopState) : Bool := match x with | .busy => false | _ => true
def asLoop (x : EO) : Option ELoop := match x with | .loop L => some L | _ => none
def rangeEnd (l : Nat) (tm : T EV) (df : List EDef) (r : RO) : R := match r with
  | .val _ s => bX (bO (T.get s.h l) asLoop) fun L => cnd (notBusy L.state) (bX (pendE L.pending) fun e => .ok e tm df { h := T.set s.h l (.loop { L with state := .exhausted }), n := s.n }) .bad
  | .pan x s => .ok (.panic x) tm df s
  | _ => .bad
/-- A function of the program with a body. -/
def bodied (P : Program) (g : EV) : Bool := match g with
  | .fn f _ _ => Option.rec false (fun fn => fn.body.isSome) (funcA P f)
  | _ => false
def rangeGo (g : EV) (ps : Array Tmp) (assign body : Code) (r : Nat) (df : List EDef) (c : Cx) (tm : T EV) (s : ES) : R :=
  cnd (bodied c.P g) (rangeEnd s.n tm df (c.C g [.yld s.n] (newObj s (.loop { state := .ready, pending := none, tm, N := c.N, params := ps, assign, body, defers := r })))) .bad
def rangeIn (g : EV) (ps : Array Tmp) (assign body : Code) (c : Cx) (tm : T EV) (df : List EDef) (s : ES) (rd : Option Nat) : R := match rd with
  | none => rangeGo g ps assign body s.n (.mark s.n :: df) c tm (newObj s .dfr)
  | some l => bX (bO (T.get s.h l) asLoop) fun L => rangeGo g ps assign body L.defers df c tm s
def cRange (g : Operand) (ps : Array Tmp) (assign body : Code) : CdFn := fun c tm df s => bX (ev tm g) fun f => rangeIn f ps assign body c tm df s c.rd
def cNo : CdFn := fun _ _ _ _ => .bad

/-! ### Regions that draw their order -/
def cEq (a b : Option Nat) : Bool := match a with
  | none => b.isNone
  | some x => match b with | some y => Nat.beq x y | none => false
def vEq (a b : Value) : Bool := match a with
  | .int k i => match b with | .int l j => kindEq k l && iEq i j | _ => false
  | .bool x => match b with | .bool y => cnd x y (!y) | _ => false
  | .string x => match b with | .string y => bsEq x.data.toList y.data.toList | _ => false
  | .slice none 0 0 => match b with | .slice none 0 0 => true | _ => false
  | .pointer none => match b with | .pointer none => true | _ => false
  | .nilFunc => match b with | .nilFunc => true | _ => false
  | .nilIface => match b with | .nilIface => true | _ => false
  | _ => false
mutual
def eqE : EV → EV → Bool
  | .raw v, y => match y with | .raw u => vEq v u | _ => false
  | .ptr b o, y => match y with | .ptr c p => Nat.beq b c && Nat.beq o p | _ => false
  | .sl b i sz n c, y => match y with | .sl b' i' sz' n' c' => Nat.beq b b' && Nat.beq i i' && Nat.beq sz sz' && Nat.beq n n' && cEq c c' | _ => false
  | .se b i j sz, y => match y with | .se b' i' j' sz' => Nat.beq b b' && Nat.beq i i' && Nat.beq j j' && Nat.beq sz sz' | _ => false
  | .agg l, y => match y with | .agg m => eqEs l m | _ => false
  | .fn f a c, y => match y with | .fn g a' c' => Nat.beq f g && eqEs a a' && eqEs c c' | _ => false
  | .ifc t x, y => match y with | .ifc u y => Nat.beq t u && eqE x y | _ => false
  | _, _ => false
def eqEs : List EV → List EV → Bool
  | [], y => match y with | [] => true | _ => false
  | x :: l, y => match y with | y :: m => eqE x y && eqEs l m | [] => false
end
def tmpsL (l : List Operand) : List Tmp := List.rec [] (fun x _ r => match x with | .tmp t => t :: r | _ => r) l
def dstL (o : Oper) : List Tmp := match o.dst with | some d => [d] | none => []
def guardL (all : Array Oper) (g : Option (Nat × Bool)) : List Tmp := match g with | none => [] | some g => Option.rec [] dstL (all[g.1]?)
/-- The temporaries that it looks at. -/
def looks (all : Array Oper) (o : Oper) : List Tmp := guardL all o.guard ++ tmpsL o.op.operands.toList
def restr (tm : T EV) (l : List Tmp) : T EV := List.rec .e (fun t _ r => Option.rec r (fun x => T.set r t x) (T.get tm t)) l
def clearT (tm : T EV) (l : List Oper) : T EV := List.rec tm (fun o _ r => match o.dst with | some d => T.put 24 r d none | none => r) l
def bindsA (e : Edge) : Bool := match e.ground with | .textOnly _ => false | .gcOnly _ => false | _ => true
def nthL (l : List Nat) : Nat → Nat := List.rec (fun _ => 0) (fun x _ ih k => Nat.rec x (fun j _ => ih j) k) l
def tb (m j : Nat) : Bool := Nat.beq (Nat.land (Nat.shiftRight m j) 1) 1
/-- What must come before it, as bits. -/
def maskOf (ms : List Nat) (l : List Edge) : Nat := List.rec 0 (fun e _ r => cnd (bindsA e) (Nat.lor (Nat.lor (Nat.pow 2 e.on) (nthL ms e.on)) r) r) l
structure DItem where
  i : Nat
  m : Nat
  o : Oper
def itemsG (l : List Oper) : Nat → List Nat → List DItem := List.rec (fun _ _ => []) (fun o _ ih i acc => ⟨i, maskOf acc o.after.toList, o⟩ :: ih (Nat.succ i) (acc ++ [maskOf acc o.after.toList])) l
def apartD (p q : DItem) (t : Tmp) : Bool := Option.rec true (fun d => cnd (Nat.beq d t) (Nat.beq p.i q.i || tb p.m q.i || tb q.m p.i) true) q.o.dst
def oneD (p q : DItem) : Bool := Nat.beq p.i q.i || Option.rec true (fun d => Option.rec true (fun e => !Nat.beq d e) q.o.dst) p.o.dst
def itemOk (all : Array Oper) (its : List DItem) (p : DItem) : Bool :=
  p.o.after.toList.all (fun e => cnd (bindsA e) (Nat.blt e.on p.i) true) && its.all (fun q => oneD p q && (looks all p.o).all fun t => apartD p q t)
def drawOk (all : Array Oper) (its : List DItem) : Bool := its.all (itemOk all its)

structure QR where
  i : Nat
  m : Nat
  o : Oper
  tr : T EV
  x : EV
structure LD where
  i : Nat
  m : Nat
  s : ES
def isRaw (x : EV) : Bool := match x with | .raw _ => true | _ => false
def lookL (p : Op) (x : EV) : Bool := match p with | .load .. => true | .convert .. => isRaw x | _ => false
/-- It looks at memory and turns nothing. -/
def qAns (p : Op) (r : RO) : Option EV := match r with
  | .keep x => some x
  | .val x _ => cnd (lookL p x) (some x) none
  | _ => none
def stillB (b : Builtin) : Bool := match b with | .len => true | .cap => true | .max => true | .min => true | _ => false
/-- It looks at no memory. -/
def stillT (p : Op) : Bool := match p with
  | .move _ => true
  | .assign _ => true
  | .pick .. => true
  | .build .. => true
  | .nilCheck _ => true
  | .binOp .. => true
  | .unOp .. => true
  | .makeInterface .. => true
  | .makeFunc .. => true
  | .slice .. => true
  | .fieldAddr .. => true
  | .field .. => true
  | .indexAddr .. => true
  | .index .. => true
  | .lookup .. => true
  | .typeAssert .. => true
  | .extract .. => true
  | .call c => match c.callee with | .builtin b => stillB b | _ => false
  | _ => false
def qOkAt (k : Kit) (q : QR) (s : ES) : Bool := Option.rec false (fun y => eqE y q.x) (qAns q.o.op (opTab q.o.op k q.o q.tr s))
def backOk (k : Kit) (q : QR) (ld : List LD) : Bool := List.rec true (fun p _ ih => cnd (tb q.m p.i) true (cnd (qOkAt k q p.s) ih false)) ld
def fwd (k : Kit) (i m : Nat) (s : ES) (qs : List QR) : Option (List QR) := List.rec (some []) (fun q _ r => bO r fun qs => cnd (tb m q.i) (some qs) (cnd (qOkAt k q s) (some (q :: qs)) none)) qs
def chainOk (m : Nat) (ld : List LD) : Bool := match ld with | [] => true | p :: _ => tb m p.i
abbrev DrFn := Cx → T EV → List EDef → T EV → ES → List LD → List QR → R
def drawStill (o : Oper) (next : T EV → R) (N : Nat) (tm : T EV) (r : RO) : R := match r with
  | .val x _ => putT N tm o.dst x next
  | _ => .bad
def drawLoud (p : DItem) (behind : Bool) (next : DrFn) (c : Cx) (t0 : T EV) (df : List EDef) (tm : T EV) (s : ES) (ld : List LD) (qs : List QR) (r : RO) : R := match r with
  | .val x s' => cnd (chainOk p.m ld) (bX (fwd c.toKit p.i p.m s' qs) fun qs' => putT c.N tm p.o.dst x fun tm' => next c t0 df tm' s' (⟨p.i, p.m, s⟩ :: ld) qs') .bad
  | .pan x s' => cnd (chainOk p.m ld) (cnd behind (.ok (.panic x) t0 df s') .bad) .bad
  | _ => .bad
def drawQ (p : DItem) (tr : T EV) (next : DrFn) (c : Cx) (t0 : T EV) (df : List EDef) (tm : T EV) (s : ES) (ld : List LD) (qs : List QR) (x : EV) : R :=
  cnd (backOk c.toKit ⟨p.i, p.m, p.o, tr, x⟩ ld) (putT c.N tm p.o.dst x fun tm' => next c t0 df tm' s ld (⟨p.i, p.m, p.o, tr, x⟩ :: qs)) .bad
def drawEnd (p : DItem) (tr : T EV) (behind : Bool) (next : DrFn) (c : Cx) (t0 : T EV) (df : List EDef) (tm : T EV) (s : ES) (ld : List LD) (qs : List QR) (r : RO) : R :=
  cnd (stillT p.o.op) (drawStill p.o (fun tm' => next c t0 df tm' s ld qs) c.N tm r)
    (Option.rec (drawLoud p behind next c t0 df tm s ld qs r) (fun x => drawQ p tr next c t0 df tm s ld qs x) (qAns p.o.op r))
def drawStep (all : Array Oper) (p : DItem) (behind : Bool) (next : DrFn) : DrFn := fun c t0 df tm s ld qs =>
  bX (wanted all (restr tm (looks all p.o)) p.o.guard) fun b =>
    cnd b (drawEnd p (restr tm (looks all p.o)) behind next c t0 df tm s ld qs (opTab p.o.op c.toKit p.o (restr tm (looks all p.o)) s))
      (cnd (aboutOk c.P (restr tm (looks all p.o)) p.o.op) (putT c.N tm p.o.dst (.raw undef) fun tm' => next c t0 df tm' s ld qs) .bad)
def drawGo (all : Array Oper) (l : List DItem) : DrFn := List.rec (fun _ _ df tm s _ _ => .ok .normal tm df s) (fun p r ih => drawStep all p (r.all fun q => tb q.m p.i) ih) l
/-- A region that draws its order. -/
def drawRun (all : Array Oper) : CdFn := fun c tm df s => cnd (drawOk all (itemsG all.toList 0 [])) (drawGo all (itemsG all.toList 0 []) c (clearT tm all.toList) df tm s [] []) .bad
def evCode (c : Code) : CdFn := Code.rec
  (skip := fun _ tm df s => .ok .normal tm df s)
  (region := fun _ ops draw => cnd draw (drawRun ops) (evOps ops ops.toList))
  (seq := fun _ _ a b c tm df s => thenR (b c) (a c tm df s))
  (cond := fun x _ _ a b => cCond x a b)
  (block := fun id _ b c tm df s => outR id (b c tm df s))
  (loop := fun _ b c => iter b c.lim c)
  (rangeFunc := fun g ps a b _ _ => cRange g ps a b)
  (exit := fun id _ tm df s => .ok (.exit id) tm df s)
  (scope := fun _ b => b)
  (label := fun _ _ tm df s => .ok .normal tm df s)
  (goto := fun _ => cNo)
  (ret := fun _ tm df s => .ok .ret tm df s)
  (refuse := fun _ => cNo) c

/-! ### A closure that is called late and may recover: what panics, and whether it was taken -/
inductive RS where
  | bad
  | ok (fin : Bool) (tm : T EV) (m : Option (EV × Bool)) (s : ES)
def bS {α : Type} (o : Option α) (f : α → RS) : RS := Option.rec .bad f o
def putS (N : Nat) (tm : T EV) (dst : Option Tmp) (x : EV) (f : T EV → RS) : RS := match dst with
  | none => f tm
  | some d => cnd (Nat.blt d N) (f (T.set tm d x)) .bad
def isRec (o : Op) : Bool := match o with
  | .call { callee := .builtin .recover, .. } => true
  | _ => false
def recE (m : Option (EV × Bool)) : Option (EV × Option (EV × Bool)) := match m with
  | none => some (.raw .nilIface, none)
  | some (x, false) => some (x, some (x, true))
  | some (_, true) => none
abbrev CsFn := Cx → T EV → Option (EV × Bool) → ES → RS
def opEndS (N : Nat) (o : Oper) (tm : T EV) (m : Option (EV × Bool)) (r : RO) (s : ES) (next : T EV → Option (EV × Bool) → ES → RS) : RS := match r with
  | .keep x => putS N tm o.dst x fun tm' => next tm' m s
  | .val x s' => putS N tm o.dst x fun tm' => next tm' m s'
  | _ => .bad
def opsStepS (all : Array Oper) (o : Oper) (next : CsFn) : CsFn := fun c tm m s =>
  bS (wanted all tm o.guard) fun b => cnd b (cnd (isRec o.op) (bS (recE m) fun q => putS c.N tm o.dst q.1 fun tm' => next c tm' q.2 s) (opEndS c.N o tm m (opCalm o.op c.toKit o tm s) s (next c)))
    (cnd (aboutOk c.P tm o.op) (putS c.N tm o.dst (.raw undef) fun tm' => next c tm' m s) .bad)
def evOpsS (all : Array Oper) (l : List Oper) : CsFn := List.rec (fun _ tm m s => .ok false tm m s) (fun o _ ih => opsStepS all o ih) l
def thenS (f : T EV → Option (EV × Bool) → ES → RS) (r : RS) : RS := match r with
  | .ok false tm m s => f tm m s
  | r => r
/-- Code without a recover: it ends, and defers nothing. -/
def calmEnd (m : Option (EV × Bool)) (r : R) : RS := match r with
  | .ok .normal tm df s => cnd df.isEmpty (.ok false tm m s) .bad
  | .ok .ret tm df s => cnd df.isEmpty (.ok true tm m s) .bad
  | _ => .bad
def calmReg (draw : Bool) (ops : Array Oper) : CsFn := fun c tm m s => calmEnd m (cnd draw (drawRun ops) (evOps ops ops.toList) c tm [] s)
def evCodeS (c : Code) : CsFn := Code.rec
  (skip := fun _ tm m s => .ok false tm m s)
  (region := fun _ ops draw => cnd (ops.toList.any fun o => isRec o.op) (cnd draw (fun _ _ _ _ => .bad) (evOpsS ops ops.toList)) (calmReg draw ops))
  (seq := fun _ _ a b c tm m s => thenS (b c) (a c tm m s))
  (cond := fun x _ _ a b c tm m s => bS (bO (ev tm x) asBool) fun t => cnd t (a c tm m s) (b c tm m s))
  (block := fun _ _ _ _ _ _ _ => .bad)
  (loop := fun _ _ _ _ _ _ => .bad)
  (rangeFunc := fun _ _ _ _ _ _ _ _ _ _ => .bad)
  (exit := fun _ _ _ _ _ => .bad)
  (scope := fun _ _ _ _ _ _ => .bad)
  (label := fun _ _ _ _ _ => .bad)
  (goto := fun _ _ _ _ _ => .bad)
  (ret := fun _ tm m s => .ok true tm m s)
  (refuse := fun _ _ _ _ _ => .bad) c

/-! ### Calls -/
def ofList (l : List EV) : Nat → T EV → T EV := List.rec (fun _ t => t) (fun x _ ih k t => ih (Nat.succ k) (T.set t k x)) l
def resCell (P : Program) (tm : T EV) (s : ES) (a : Tmp) (t : TypeId) : Option EV :=
  bO (bO (T.get tm a) asPtr) fun p => bO (cellsAt s p.1) fun l => bO (aggT P t) fun b => bO (szT P t) fun n => cnd b (cnd (Nat.ble (p.2 + n) l.length) (some (.agg ((l.drop p.2).take n))) none) l[p.2]?
def resVar (P : Program) (tm : T EV) (s : ES) (x : ResultVar) : Option EV := match x with
  | .tmp t => T.get tm t
  | .cell a t => resCell P tm s a t
def evRes (P : Program) (tm : T EV) (s : ES) (l : List ResultVar) : Option (List EV) := List.rec (some []) (fun x _ ih => bO (resVar P tm s x) fun v => bO ih fun vs => some (v :: vs)) l
def oneR (l : List EV) : EV := match l with
  | [x] => x
  | l => .tup l

/-- What panics behind a deferred call. -/
def settleE (m : Option (EV × Bool)) : Option EV := match m with
  | some (x, false) => some x
  | _ => none
def lateEnd (c : Cx) (g : Func) (next : Option EV → ES → RO) (r : RS) : RO := match r with
  | .ok _ tm m s => bR (evRes c.P tm s g.results.toList) fun _ => next (settleE m) s
  | .bad => .bad
def lateGo (f : FuncId) (as : List EV) (c : Cx) (m : Option EV) (s : ES) (next : Option EV → ES → RO) : RO :=
  bR (funcA c.P f) fun g => bR g.body fun b => lateEnd c g next (evCodeS b { c with N := Nat.max as.length g.ntmps, rd := none } (ofList as 0 .e) (bO m fun x => some (x, false)) s)
def isDfr (x : EO) : Bool := match x with | .dfr => true | _ => false
def leaveD (d : EDef) (c : Cx) (m : Option EV) (s : ES) (next : Option EV → ES → RO) : RO := match d with
  | .mark r => bR (T.get s.h r) fun x => cnd (isDfr x) (next m { h := T.put 24 s.h r none, n := s.n }) .bad
  | .fn f as => lateGo f as c m s next
def leave (fn : Func) (c : Cx) (tm : T EV) (ds : List EDef) : Option EV → ES → RO :=
  List.rec (fun m s => Option.rec (bR (evRes c.P tm s fn.results.toList) fun l => .val (oneR l) s) (fun x => .pan x s) m) (fun d _ ih m s => leaveD d c m s ih) ds
def callEnd (fn : Func) (c : Cx) (r : R) : RO := match r with
  | .ok .normal tm df s => leave fn c tm df none s
  | .ok .ret tm df s => leave fn c tm df none s
  | .ok (.panic x) tm df s => leave fn c tm df (some x) s
  | _ => .bad
def callExt (f : FuncId) (a b : List EV) (P : Program) (s : ES) : RO :=
  bR (toVs a) fun vs => bR (toVs b) fun bs => match pv P (invoke (.fn (.func f) bs.toArray) vs.toArray) with
    | some (.value v) => .val (.raw v) s
    | _ => .bad
def callFn (P : Program) (lim : Nat) (C : CallFn) (f : FuncId) (as : List EV) (ext : RO) (s : ES) : RO := bR (funcA P f) fun fn => Option.rec ext (fun b =>
  callEnd fn { P, C, lim, N := Nat.max as.length fn.ntmps, rd := none } (evCode b { P, C, lim, N := Nat.max as.length fn.ntmps, rd := none } (ofList as 0 .e) [] s)) fn.body
def roundV (e : EX) : Option (Bool × Option Code) := match e with
  | .normal => some (true, none)
  | .ret => some (false, some .ret)
  | .exit id => some (false, some (.exit id))
  | .panic _ => none
def asPan (e : EX) : Option EV := match e with | .panic x => some x | _ => none
def roundSet (l : Nat) (q : Bool × Option Code) (L : ELoop) (s : ES) : RO := .val (.raw (.bool q.1)) { h := T.set s.h l (.loop { L with state := cnd q.1 .ready .done, pending := q.2 }), n := s.n }
def roundEnd (l : Nat) (r : R) : RO := match r with
  | .ok e _ df s => cnd df.isEmpty (Option.rec (bR (bO (T.get s.h l) asLoop) fun L => bR (roundV e) fun q => roundSet l q L s) (fun x => .pan x s) (asPan e)) .bad
  | .bad => .bad
def isReady (x : LoopState) : Bool := match x with | .ready => true | _ => false
def roundBody (l : Nat) (body : Code) (c : Cx) (tm : T EV) (df : List EDef) (s : ES) : R :=
  bX (bO (T.get s.h l) asLoop) fun L => cnd (isReady L.state) (evCode body c tm df { h := T.set s.h l (.loop { L with state := .busy }), n := s.n }) .bad
def thenN (f : T EV → List EDef → ES → R) (r : R) : R := match r with
  | .ok .normal tm df s => f tm df s
  | _ => .bad
def isNormal (r : R) : Bool := match r with | .ok .normal _ [] _ => true | _ => false
def setPs (ps : List Tmp) : List EV → T EV → T EV := List.rec (fun _ t => t) (fun p _ ih xs t => List.rec t (fun x r _ => ih r (T.set t p x)) xs) ps
def callRound (P : Program) (lim : Nat) (C : CallFn) (l : Nat) (xs : List EV) (s : ES) : RO := bR (bO (T.get s.h l) asLoop) fun L =>
  cnd (Nat.beq xs.length L.params.toList.length && L.params.toList.all fun p => Nat.blt p L.N)
    (roundEnd l (thenN (roundBody l L.body { P, C, lim, N := L.N, rd := some l }) (evCode L.assign { P, C, lim, N := L.N, rd := some l } (setPs L.params.toList xs L.tm) [] s))) .bad
def callTab (f : EV) : Program → Nat → CallFn → List EV → ES → RO := match f with
  | .fn f a b => fun P lim C xs s => callFn P lim C f (a ++ xs ++ b) (callExt f (a ++ xs) b P s) s
  | .yld l => fun P lim C xs s => callRound P lim C l xs s
  | _ => fun _ _ _ _ _ => .bad
/-- Calls without arguments whose value is known. -/
abbrev Tab := FuncId → Option Value
def callTop (tab : Tab) (f : EV) (xs : List EV) (s : ES) (r : RO) : RO := match f with
  | .fn g [] [] => match xs with | [] => Option.rec r (fun v => .val (.raw v) s) (tab g) | _ => r
  | _ => r
def evCall (P : Program) (tab : Tab) (lim n : Nat) : CallFn := Nat.rec (fun _ _ _ => .bad) (fun _ ih f xs s => callTop tab f xs s (callTab f P lim ih xs s)) n

def run (P : Program) (tab : Tab) (lim n : Nat) (f : FuncId) (xs : List EV) : RO := evCall P tab lim n (.fn f [] []) xs { h := .e, n := 0 }
def noTab : Tab := fun _ => none
def oneTab (f : FuncId) (v : Value) : Tab := fun g => cnd (Nat.beq f g) (some v) none
def isTrue (r : RO) : Bool := match r with
  | .val x _ => (asBool x).getD false
  | _ => false
end
end Go.Eva
