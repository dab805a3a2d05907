/-
  The abstract layer, part l: what a walk rewrites by. No row bears two ways: at a test, an action on memory, a call or a loop the rewriting stands still.
-/
import Derived.Test.YtaeacialcbahnaaMk
namespace Go.Abs
set_option linter.unusedSimpArgs false
open Go.RowKit

section
variable (κ : Ctx) (dm : Bool) (P : Program) (all : List Oper) (Q : Exit → St → Prop) (d : Option Tmp) (rest : List Oper) (s : St)
/-- What goes on behind an operation. -/
def goK : AV → List Res → Prop := fun x σ' => opsR κ dm P all Q rest ⟨setT s.t d x, σ', s.fr, s.df⟩
def goP : List PanicEntry → List Res → Prop := fun c σ' => Q (.panic c) ⟨s.t, σ', s.fr, s.df⟩
def grdC (v : AV) (want : Bool) (o : Oper) : Prop := match v with | .raw (.bool b) => Cond (b == want) (opR κ dm P o s (goK κ dm P all Q o.dst rest s) (goP Q s)) (opsR κ dm P all Q rest ⟨setT s.t o.dst U, s.σ, s.fr, s.df⟩) | .raw (.tuple _) => opsR κ dm P all Q rest ⟨setT s.t o.dst U, s.σ, s.fr, s.df⟩ | _ => False
/-- A guard, once it is known where it lies. -/
def gdC (d : Option Tmp) (want : Bool) (o : Oper) : Prop := match d with | some k => grdC κ dm P all Q rest s (s.t.getD k .any) want o | none => False
def binC (op : BinOp) (xt : TypeId) (a b : AV) : Prop := (calmAV a || calmAV b) = true ∧ binR κ dm P op xt a b s.σ (goK κ dm P all Q d rest s)
def okC (v : Option Value) : Prop := okV v fun x => goK κ dm P all Q d rest s x s.σ
def unC (op : UnOp) (a : AV) : Prop := unR op a fun x => goK κ dm P all Q d rest s x s.σ
def pickC (a b c : AV) : Prop := pickR a b c fun x => goK κ dm P all Q d rest s x s.σ
def extC (a : AV) (i : Nat) : Prop := extR a i fun x => goK κ dm P all Q d rest s x s.σ
def loadC (xt : TypeId) (a : AV) : Prop := loadR κ dm P xt a s.σ (goK κ dm P all Q d rest s)
def loadCC (l : List AV) (ag : Option Bool) (n : Option Nat) : Prop := match ag, n with
  | some true, some n => n ≤ l.length ∧ goK κ dm P all Q d rest s (.agg (l.take n)) s.σ
  | some false, some _ => 0 < l.length ∧ goK κ dm P all Q d rest s (l.getD 0 .any) s.σ
  | _, _ => False
def actC (m : MA) (xs : List AV) : Prop := actM κ dm P m xs s.σ (goK κ dm P all Q d rest s)
def storeC (xt : TypeId) (a x : AV) : Prop := actM κ dm P (.store xt) [a, x] s.σ (fun _ σ' => goK κ dm P all Q d rest s .any σ')
def fieldAddrC (xt : TypeId) (a : AV) (f : Nat) : Prop := fieldAddrR κ dm P xt a f s.σ (goK κ dm P all Q d rest s)
def fieldC (xt : TypeId) (a : AV) (f : Nat) : Prop := fieldR κ dm P xt a f s.σ (goK κ dm P all Q d rest s)
def idxC (xt : TypeId) (a b : AV) : Prop := idxR κ dm P xt a b s.σ (goK κ dm P all Q d rest s)
def strIdxC (xt : TypeId) (a b : AV) : Prop := strIdxR κ dm P xt a b s.σ (goK κ dm P all Q d rest s)
def sliceC (xt : TypeId) (a : AV) (lo hi mx : Option AV) : Prop := sliceR κ dm P xt a lo hi mx s.σ (goK κ dm P all Q d rest s)
def convC (a b : TypeId) (x : AV) : Prop := convR κ dm P a b x s.σ (goK κ dm P all Q d rest s)
def mkFuncC (f : Fn) (a b : List AV) : Prop := mkFuncR f a b fun x => goK κ dm P all Q d rest s x s.σ
def nilC (a : AV) : Prop := nilR a fun x => goK κ dm P all Q d rest s x s.σ
def panC (a : AV) : Prop := panR a fun c => goP Q s c s.σ
def callC (f : AV) (xs : List AV) : Prop := callM κ dm P f xs s.σ (goK κ dm P all Q d rest s) (goP Q s)
def isR (x : AV) (σ : List Res) (r : Ret) (σ' : List Res) : Prop := r = .ret x ∧ σ' = σ
def isA (x : AV) (σ : List Res) (y : AV) (σ' : List Res) : Prop := y = x ∧ σ' = σ
def callD (f : FuncId) (xs : List AV) : Prop := match dm with | false => ACallF κ P f xs s.σ (retK (goK κ dm P all Q d rest s) (goP Q s)) | true => ∃ x, ACallF κ P f xs s.σ (isR x s.σ) ∧ goK κ dm P all Q d rest s x s.σ
def callYD (l : Nat) (xs : List AV) : Prop := match dm with | false => ACallY κ P l xs s.σ (retK (goK κ dm P all Q d rest s) (goP Q s)) | true => ∃ x, ACallY κ P l xs s.σ (isR x s.σ) ∧ goK κ dm P all Q d rest s x s.σ
def callOk (f : FuncId) : Prop := ∃ fn, P.funcs[f]? = some fn ∧ (fn.name == "runtime.NumGoroutine") = false ∧ fn.body.isNone = false
/-- A slice against nil: if it has none, it is open whether it is. -/
def nilTC (l : List AV) (v : Bool) : Prop := (0 < l.length ∧ goK κ dm P all Q d rest s (B v) s.σ) ∨ (dm = false ∧ l.length = 0 ∧ ∀ b, goK κ dm P all Q d rest s (B b) s.σ)
def lenC (xt : TypeId) (a : AV) : Prop := lenR κ dm P xt a s.σ (goK κ dm P all Q d rest s)
end

/-- A test of the code's. -/
def condC (κ : Ctx) (P : Program) (rd : Option Nat) (v : AV) (x y : Code) (Q : Exit → St → Prop) (s : St) : Prop := match v with | .raw (.bool b) => Cond b (run κ P rd x Q s) (run κ P rd y Q s) | _ => False
/-- A loop of the code's. -/
def loopC (κ : Ctx) (P : Program) (rd : Option Nat) (c : Code) (Q : Exit → St → Prop) (s : St) : Prop := ALoop (run κ P rd c) Q s
def resL (κ : Ctx) (P : Program) (fn : Func) (k : Ret → List Res → Prop) (s : St) : List ResultVar → Prop
  | [] => k (.ret (.tup [])) s.σ
  | [.tmp a] => k (.ret (s.ev (.tmp a))) s.σ
  | [.tmp a, .tmp b] => k (.ret (.tup [s.ev (.tmp a), s.ev (.tmp b)])) s.σ
  | [.tmp a, .tmp b, .tmp c] => k (.ret (.tup [s.ev (.tmp a), s.ev (.tmp b), s.ev (.tmp c)])) s.σ
  | [.tmp a, .tmp b, .tmp c, .tmp d] => k (.ret (.tup [s.ev (.tmp a), s.ev (.tmp b), s.ev (.tmp c), s.ev (.tmp d)])) s.σ
  | _ => ARes κ P fn s k

section
variable {κ : Ctx} {dm : Bool} {P : Program} {rd : Option Nat} {Q : Exit → St → Prop} {s : St} {all rest : List Oper} {K : AV → List Res → Prop} {KP : List PanicEntry → List Res → Prop} {t : List AV} {σ σ2 : List Res} {fr : Bool} {df : List Deferred}

theorem run_seq {a b : Code} : run κ P rd (.seq a b) Q s = run κ P rd a (thenQ (run κ P rd b Q) Q) s := propext Iff.rfl
theorem run_cond {c : Operand} {x y : Code} : run κ P rd (.cond c x y) Q s = condC κ P rd (s.ev c) x y Q s := propext Iff.rfl
theorem run_block {id : Nat} {c : Code} : run κ P rd (.block id c) Q s = run κ P rd c (blockQ id Q) s := propext Iff.rfl
theorem run_loop {c : Code} : run κ P rd (.loop c) Q s = loopC κ P rd c Q s := propext Iff.rfl
theorem run_region {id : Nat} {l : List Oper} : run κ P rd (.region id l.toArray false) Q s = opsR κ false P l Q l s := propext Iff.rfl
theorem run_draw {id : Nat} {l : List Oper} : run κ P rd (.region id l.toArray true) Q s = AW κ rd P (.region id l.toArray true) Q s := propext Iff.rfl
theorem run_rangeFunc {f : Operand} {ps : Array Tmp} {x y : Code} : run κ P rd (.rangeFunc f ps x y) Q s = AW κ rd P (.rangeFunc f ps x y) Q s := propext Iff.rfl
theorem run_exit {id : Nat} : run κ P rd (.exit id) Q s = Q (.exit id) s := propext Iff.rfl
theorem run_ret : run κ P rd .ret Q s = Q .ret s := propext Iff.rfl
theorem run_skip : run κ P rd .skip Q s = Q .normal s := propext Iff.rfl
theorem run_label {l : Nat} : run κ P rd (.label l) Q s = Q .normal s := propext Iff.rfl

theorem condC_true {x y : Code} : condC κ P rd (.raw (.bool true)) x y Q s = run κ P rd x Q s := by simp [condC, Cond]
theorem condC_false {x y : Code} : condC κ P rd (.raw (.bool false)) x y Q s = run κ P rd y Q s := by simp [condC, Cond]
theorem condC_split {b : Bool} {x y : Code} (h1 : b = true → run κ P rd x Q s) (h2 : b = false → run κ P rd y Q s) : condC κ P rd (.raw (.bool b)) x y Q s := ⟨h1, h2⟩
theorem condC_t {b : Bool} {x y : Code} (h : b = true) (h1 : run κ P rd x Q s) : condC κ P rd (.raw (.bool b)) x y Q s := ⟨fun _ => h1, fun e => by rw [h] at e; cases e⟩
theorem condC_f {b : Bool} {x y : Code} (h : b = false) (h1 : run κ P rd y Q s) : condC κ P rd (.raw (.bool b)) x y Q s := ⟨fun e => (by rw [h] at e; cases e), fun _ => h1⟩

def leL : List AV → List AV → Prop
  | [], [] => True
  | x :: xs, y :: ys => x.le y ∧ leL xs ys
  | _, _ => False
theorem leL_len : ∀ {xs ys : List AV}, leL xs ys → ys.length = xs.length
  | [], [], _ => rfl
  | _ :: _, _ :: _, h => by simp [leL_len h.2]
  | [], _ :: _, h => h.elim
  | _ :: _, [], h => h.elim
theorem leL_get : ∀ {xs ys : List AV}, leL xs ys → ∀ (k : Nat) (x y : AV), xs[k]? = some x → ys[k]? = some y → x.le y
  | [], [], _, k, x, y, h, _ => by simp at h
  | _ :: _, _ :: _, h, 0, x, y, h1, h2 => by simp at h1 h2; subst h1; subst h2; exact h.1
  | _ :: _, _ :: _, h, k + 1, x, y, h1, h2 => leL_get h.2 k x y (by simpa using h1) (by simpa using h2)
  | [], _ :: _, h, _, _, _, _, _ => h.elim
  | _ :: _, [], h, _, _, _, _, _ => h.elim
theorem le_any {x : AV} : x.le .any := .inl rfl
theorem le_rfl {x : AV} : x.le x := .inr (.inl rfl)
theorem le_eq {x y : AV} (h : y = x) : x.le y := .inr (.inl h)
theorem le_ro {sz : Nat} {o : Option (Option (Nat × Nat))} {l : List AV} : (AV.sl sz o l).le (.sl sz none l) := .inr (.inr (.inl ⟨_, _, _, rfl, rfl⟩))
theorem le_nil {sz : Nat} {o : Option (Option (Nat × Nat))} (h : 0 < sz) : nilS.le (.sl sz o []) := .inr (.inr (.inr ⟨_, _, rfl, h, rfl⟩))
theorem St_le {t t' : List AV} {σ τ : List Res} {fr fr' : Bool} {df : List Deferred} (n : Nat) (ρ : List Res) (h : leL t t') (h1 : ρ.Sublist σ) (h2 : (List.replicate n (Res.tip none) ++ ρ).Perm τ) (h3 : fr' = true → fr = true) : (⟨t, σ, fr, df⟩ : St).le ⟨t', τ, fr', df⟩ :=
  ⟨leL_len h, leL_get h, ((ResW.sub h1).trans (ResW.voids n)).trans (ResW.perm h2), h3, rfl⟩
theorem St_leW {t t' : List AV} {σ τ : List Res} {fr fr' : Bool} {df : List Deferred} (h : leL t t') (h1 : ResW σ τ) (h3 : fr' = true → fr = true) : (⟨t, σ, fr, df⟩ : St).le ⟨t', τ, fr', df⟩ :=
  ⟨leL_len h, leL_get h, h1, h3, rfl⟩
theorem St_le_same {t t' : List AV} {σ : List Res} {fr fr' : Bool} {df : List Deferred} (h : leL t t') (h3 : fr' = true → fr = true) : (⟨t, σ, fr, df⟩ : St).le ⟨t', σ, fr', df⟩ :=
  St_le 0 σ h (List.Sublist.refl _) (List.Perm.refl _) h3
theorem loop_by {X : Type} (st : X → St) (C : X → Prop) (μ : X → Nat) {c : Code} (x0 : X) (h0 : s.le (st x0)) (hC : C x0)
    (round : ∀ x, C x → run κ P rd c (thenQ (fun s' => ∃ y, s'.le (st y) ∧ C y ∧ μ y < μ x) Q) (st x)) : loopC κ P rd c Q s := ⟨X, st, C, μ, x0, h0, hC, round⟩

variable {N : St → Prop} {id id' : Nat} {pc : List PanicEntry}
theorem then_normal : thenQ N Q .normal s = N s := propext Iff.rfl
theorem then_exit : thenQ N Q (.exit id) s = Q (.exit id) s := propext Iff.rfl
theorem then_ret : thenQ N Q .ret s = Q .ret s := propext Iff.rfl
theorem then_panic : thenQ N Q (.panic pc) s = Q (.panic pc) s := propext Iff.rfl
theorem block_normal : blockQ id Q .normal s = Q .normal s := propext Iff.rfl
theorem block_same : blockQ id Q (.exit id) s = Q .normal s := by simp [blockQ]
theorem block_exit : blockQ id Q (.exit id') s = if id' = id then Q .normal s else Q (.exit id') s := propext Iff.rfl
theorem block_ret : blockQ id Q .ret s = Q .ret s := propext Iff.rfl
theorem block_panic : blockQ id Q (.panic pc) s = Q (.panic pc) s := propext Iff.rfl

theorem ops_nil : opsR κ dm P all Q [] s = Q .normal s := propext Iff.rfl
variable {d : Option Tmp} {op : Op} {ty : TypeId} {pos : String} {af : Array Edge} {j : Nat} {want : Bool}
theorem ops_some : opsR κ dm P all Q (⟨d, op, ty, pos, af, some (j, want)⟩ :: rest) ⟨t, σ, fr, df⟩ = gdC κ dm P all Q rest ⟨t, σ, fr, df⟩ ((all[j]?).bind (·.dst)) want ⟨d, op, ty, pos, af, none⟩ := propext Iff.rfl
theorem gdC_some {k : Tmp} {o : Oper} : gdC κ dm P all Q rest ⟨t, σ, fr, df⟩ (some k) want o = grdC κ dm P all Q rest ⟨t, σ, fr, df⟩ (t.getD k .any) want o := propext Iff.rfl
theorem goK_eq {x : AV} : goK κ dm P all Q d rest ⟨t, σ, fr, df⟩ x σ2 = opsR κ dm P all Q rest ⟨setT t d x, σ2, fr, df⟩ := propext Iff.rfl
theorem goP_eq : goP Q ⟨t, σ, fr, df⟩ pc σ2 = Q (.panic pc) ⟨t, σ2, fr, df⟩ := propext Iff.rfl
theorem grdC_split {b : Bool} {o : Oper} {X : Prop} (hX : opsR κ dm P all Q (⟨o.dst, o.op, o.type, o.pos, o.after, none⟩ :: rest) s = X) (h1 : (b == want) = true → X) (h2 : (b == want) = false → opsR κ dm P all Q rest ⟨setT s.t o.dst U, s.σ, s.fr, s.df⟩) : grdC κ dm P all Q rest s (.raw (.bool b)) want o := by
  subst hX
  exact ⟨h1, h2⟩
theorem grdC_t {b : Bool} {o : Oper} (h : b = want) (h1 : opsR κ dm P all Q (⟨o.dst, o.op, o.type, o.pos, o.after, none⟩ :: rest) s) : grdC κ dm P all Q rest s (.raw (.bool b)) want o := by
  subst h
  refine ⟨fun _ => h1, fun e => ?_⟩
  cases b <;> cases e
theorem grdC_f {b : Bool} {o : Oper} (h : b = !want) (h1 : opsR κ dm P all Q rest ⟨setT s.t o.dst U, s.σ, s.fr, s.df⟩) : grdC κ dm P all Q rest s (.raw (.bool b)) want o := by
  subst h
  refine ⟨fun e => ?_, fun _ => h1⟩
  cases want <;> cases e
theorem grd_cases {b : Bool} {o : Oper} (h1 : b = want → opsR κ dm P all Q (⟨o.dst, o.op, o.type, o.pos, o.after, none⟩ :: rest) s) (h2 : b = (!want) → opsR κ dm P all Q rest ⟨setT s.t o.dst U, s.σ, s.fr, s.df⟩) : grdC κ dm P all Q rest s (.raw (.bool b)) want o := by
  by_cases e : b = want
  · exact grdC_t e (h1 e)
  · have e' : b = !want := by cases b <;> cases want <;> simp_all
    exact grdC_f e' (h2 e')
theorem grdC_tt {d : Option Tmp} : grdC κ dm P all Q rest s (.raw (.bool true)) true ⟨d, op, ty, pos, af, none⟩ = opsR κ dm P all Q (⟨d, op, ty, pos, af, none⟩ :: rest) s := by
  show Cond true _ _ = _
  simp only [Cond]; simp; rfl
theorem grdC_ff {d : Option Tmp} : grdC κ dm P all Q rest s (.raw (.bool false)) false ⟨d, op, ty, pos, af, none⟩ = opsR κ dm P all Q (⟨d, op, ty, pos, af, none⟩ :: rest) s := by
  show Cond true _ _ = _
  simp only [Cond]; simp; rfl
theorem grdC_tf {d : Option Tmp} : grdC κ dm P all Q rest ⟨t, σ, fr, df⟩ (.raw (.bool true)) false ⟨d, op, ty, pos, af, none⟩ = opsR κ dm P all Q rest ⟨setT t d U, σ, fr, df⟩ := by
  show Cond false _ _ = _
  simp only [Cond]; simp
theorem grdC_ft {d : Option Tmp} : grdC κ dm P all Q rest ⟨t, σ, fr, df⟩ (.raw (.bool false)) true ⟨d, op, ty, pos, af, none⟩ = opsR κ dm P all Q rest ⟨setT t d U, σ, fr, df⟩ := by
  show Cond false _ _ = _
  simp only [Cond]; simp
theorem grdC_U {d : Option Tmp} : grdC κ dm P all Q rest ⟨t, σ, fr, df⟩ U want ⟨d, op, ty, pos, af, none⟩ = opsR κ dm P all Q rest ⟨setT t d U, σ, fr, df⟩ := propext Iff.rfl
theorem setT_some {d : Tmp} {x : AV} : setT t (some d) x = t.set d x := id rfl
theorem setT_none {x : AV} : setT t none x = t := id rfl

theorem ev_tmp {k : Nat} : St.ev ⟨t, σ, fr, df⟩ (.tmp k) = t.getD k .any := id rfl
theorem ev_int {k : IntKind} {n : Int} : s.ev (.const (.int k n)) = .raw (.int k n) := id rfl
theorem ev_bool {b : Bool} : s.ev (.const (.bool b)) = .raw (.bool b) := id rfl
theorem ev_string {b : ByteArray} : s.ev (.const (.string b)) = .raw (.string b) := id rfl
theorem ev_slice {a : Option Addr} {n c : Nat} : s.ev (.const (.slice a n c)) = .raw (.slice a n c) := id rfl
theorem ev_ptr {a : Option Addr} : s.ev (.const (.pointer a)) = .raw (.pointer a) := id rfl
theorem ev_nilFunc : s.ev (.const .nilFunc) = .raw .nilFunc := id rfl
theorem ev_nilIface : s.ev (.const .nilIface) = .raw .nilIface := id rfl
theorem ev_map {r : Option Nat} : s.ev (.const (.map r)) = .raw (.map r) := id rfl
theorem ev_agg {cs : List Value} : s.ev (.const (.agg cs.toArray)) = .agg (cs.map .raw) := id rfl
theorem ev_func {f : FuncId} : s.ev (.func f) = .raw (.func (.func f) #[] #[]) := id rfl
theorem ev_global {g : Nat} : s.ev (.global g) = .raw (.pointer (some ⟨g, 0, none⟩)) := id rfl

variable {x y z : Operand}
theorem op_move : opsR κ dm P all Q (⟨d, .move x, ty, pos, af, none⟩ :: rest) ⟨t, σ, fr, df⟩ = opsR κ dm P all Q rest ⟨setT t d (St.ev ⟨t, σ, fr, df⟩ x), σ, fr, df⟩ := propext Iff.rfl
theorem op_assign : opsR κ dm P all Q (⟨d, .assign x, ty, pos, af, none⟩ :: rest) ⟨t, σ, fr, df⟩ = opsR κ dm P all Q rest ⟨setT t d (St.ev ⟨t, σ, fr, df⟩ x), σ, fr, df⟩ := propext Iff.rfl
theorem op_pick : opsR κ dm P all Q (⟨d, .pick x y z, ty, pos, af, none⟩ :: rest) ⟨t, σ, fr, df⟩ = pickC κ dm P all Q d rest ⟨t, σ, fr, df⟩ (St.ev ⟨t, σ, fr, df⟩ x) (St.ev ⟨t, σ, fr, df⟩ y) (St.ev ⟨t, σ, fr, df⟩ z) := propext Iff.rfl
theorem op_bin {o : BinOp} {xt yt : TypeId} : opsR κ dm P all Q (⟨d, .binOp o xt x y yt, ty, pos, af, none⟩ :: rest) ⟨t, σ, fr, df⟩ = binC κ dm P all Q d rest ⟨t, σ, fr, df⟩ o xt (St.ev ⟨t, σ, fr, df⟩ x) (St.ev ⟨t, σ, fr, df⟩ y) := propext Iff.rfl
theorem op_un {o : UnOp} {xt : TypeId} : opsR κ dm P all Q (⟨d, .unOp o xt x, ty, pos, af, none⟩ :: rest) ⟨t, σ, fr, df⟩ = unC κ dm P all Q d rest ⟨t, σ, fr, df⟩ o (St.ev ⟨t, σ, fr, df⟩ x) := propext Iff.rfl
theorem op_extract {i : Nat} : opsR κ dm P all Q (⟨d, .extract x i, ty, pos, af, none⟩ :: rest) ⟨t, σ, fr, df⟩ = extC κ dm P all Q d rest ⟨t, σ, fr, df⟩ (St.ev ⟨t, σ, fr, df⟩ x) i := propext Iff.rfl
theorem op_load {xt : TypeId} : opsR κ dm P all Q (⟨d, .load xt x, ty, pos, af, none⟩ :: rest) ⟨t, σ, fr, df⟩ = loadC κ dm P all Q d rest ⟨t, σ, fr, df⟩ xt (St.ev ⟨t, σ, fr, df⟩ x) := propext Iff.rfl
theorem op_store {xt : TypeId} : opsR κ dm P all Q (⟨d, .store xt x y, ty, pos, af, none⟩ :: rest) ⟨t, σ, fr, df⟩ = storeC κ dm P all Q d rest ⟨t, σ, fr, df⟩ xt (St.ev ⟨t, σ, fr, df⟩ x) (St.ev ⟨t, σ, fr, df⟩ y) := propext Iff.rfl
theorem op_alloc {xt : TypeId} : opsR κ dm P all Q (⟨d, .alloc xt, ty, pos, af, none⟩ :: rest) ⟨t, σ, fr, df⟩ = actC κ dm P all Q d rest ⟨t, σ, fr, df⟩ (.new xt) [] := propext Iff.rfl
theorem op_box {xt : TypeId} : opsR κ dm P all Q (⟨d, .box xt x, ty, pos, af, none⟩ :: rest) ⟨t, σ, fr, df⟩ = actC κ dm P all Q d rest ⟨t, σ, fr, df⟩ (.box xt) [(St.ev ⟨t, σ, fr, df⟩ x)] := propext Iff.rfl
theorem op_build {xt : TypeId} {ps : List (Nat × Operand)} : opsR κ dm P all Q (⟨d, .build xt ps.toArray, ty, pos, af, none⟩ :: rest) ⟨t, σ, fr, df⟩ = actC κ dm P all Q d rest ⟨t, σ, fr, df⟩ (.build xt (ps.map (·.1))) (ps.map fun p => St.ev ⟨t, σ, fr, df⟩ p.2) := propext Iff.rfl
theorem op_bslice {xt : TypeId} {n : Nat} {ps : List (Nat × Operand)} : opsR κ dm P all Q (⟨d, .buildSlice xt n ps.toArray, ty, pos, af, none⟩ :: rest) ⟨t, σ, fr, df⟩ = actC κ dm P all Q d rest ⟨t, σ, fr, df⟩ (.bslice xt n (ps.map (·.1))) (ps.map fun p => St.ev ⟨t, σ, fr, df⟩ p.2) := propext Iff.rfl
theorem op_fieldAddr {xt : TypeId} {f : Nat} : opsR κ dm P all Q (⟨d, .fieldAddr xt x f, ty, pos, af, none⟩ :: rest) ⟨t, σ, fr, df⟩ = fieldAddrC κ dm P all Q d rest ⟨t, σ, fr, df⟩ xt (St.ev ⟨t, σ, fr, df⟩ x) f := propext Iff.rfl
theorem op_field {xt : TypeId} {f : Nat} : opsR κ dm P all Q (⟨d, .field xt x f, ty, pos, af, none⟩ :: rest) ⟨t, σ, fr, df⟩ = fieldC κ dm P all Q d rest ⟨t, σ, fr, df⟩ xt (St.ev ⟨t, σ, fr, df⟩ x) f := propext Iff.rfl
theorem op_indexAddr {xt : TypeId} : opsR κ dm P all Q (⟨d, .indexAddr xt x y, ty, pos, af, none⟩ :: rest) ⟨t, σ, fr, df⟩ = idxC κ dm P all Q d rest ⟨t, σ, fr, df⟩ xt (St.ev ⟨t, σ, fr, df⟩ x) (St.ev ⟨t, σ, fr, df⟩ y) := propext Iff.rfl
theorem op_index {xt : TypeId} : opsR κ dm P all Q (⟨d, .index xt x y, ty, pos, af, none⟩ :: rest) ⟨t, σ, fr, df⟩ = strIdxC κ dm P all Q d rest ⟨t, σ, fr, df⟩ xt (St.ev ⟨t, σ, fr, df⟩ x) (St.ev ⟨t, σ, fr, df⟩ y) := propext Iff.rfl
theorem op_slice {xt : TypeId} {lo hi mx : Option Operand} : opsR κ dm P all Q (⟨d, .slice xt x lo hi mx, ty, pos, af, none⟩ :: rest) ⟨t, σ, fr, df⟩ = sliceC κ dm P all Q d rest ⟨t, σ, fr, df⟩ xt (St.ev ⟨t, σ, fr, df⟩ x) (lo.map (St.ev ⟨t, σ, fr, df⟩)) (hi.map (St.ev ⟨t, σ, fr, df⟩)) (mx.map (St.ev ⟨t, σ, fr, df⟩)) := propext Iff.rfl
theorem op_conv {a b : TypeId} : opsR κ dm P all Q (⟨d, .convert a b x, ty, pos, af, none⟩ :: rest) ⟨t, σ, fr, df⟩ = convC κ dm P all Q d rest ⟨t, σ, fr, df⟩ a b (St.ev ⟨t, σ, fr, df⟩ x) := propext Iff.rfl
theorem op_makeFunc {fn : Fn} {a b : List Operand} : opsR κ dm P all Q (⟨d, .makeFunc fn a.toArray b.toArray, ty, pos, af, none⟩ :: rest) ⟨t, σ, fr, df⟩ = mkFuncC κ dm P all Q d rest ⟨t, σ, fr, df⟩ fn (a.map (St.ev ⟨t, σ, fr, df⟩)) (b.map (St.ev ⟨t, σ, fr, df⟩)) := propext Iff.rfl
theorem op_makeSlice {xt : TypeId} : opsR κ dm P all Q (⟨d, .makeSlice xt x y, ty, pos, af, none⟩ :: rest) ⟨t, σ, fr, df⟩ = actC κ dm P all Q d rest ⟨t, σ, fr, df⟩ (.mkslice xt) [(St.ev ⟨t, σ, fr, df⟩ x), (St.ev ⟨t, σ, fr, df⟩ y)] := propext Iff.rfl
theorem op_nilCheck : opsR κ dm P all Q (⟨d, .nilCheck x, ty, pos, af, none⟩ :: rest) ⟨t, σ, fr, df⟩ = nilC κ dm P all Q d rest ⟨t, σ, fr, df⟩ (St.ev ⟨t, σ, fr, df⟩ x) := propext Iff.rfl
theorem op_panic : opsR κ dm P all Q (⟨d, .panic x, ty, pos, af, none⟩ :: rest) ⟨t, σ, fr, df⟩ = panC Q ⟨t, σ, fr, df⟩ (St.ev ⟨t, σ, fr, df⟩ x) := propext Iff.rfl
theorem op_makeIface {xt : TypeId} : opsR κ dm P all Q (⟨d, .makeInterface xt x, ty, pos, af, none⟩ :: rest) ⟨t, σ, fr, df⟩ = actC κ dm P all Q d rest ⟨t, σ, fr, df⟩ (.makeIface xt) [(St.ev ⟨t, σ, fr, df⟩ x)] := propext Iff.rfl
theorem op_range {xt : TypeId} : opsR κ dm P all Q (⟨d, .range xt x, ty, pos, af, none⟩ :: rest) ⟨t, σ, fr, df⟩ = actC κ dm P all Q d rest ⟨t, σ, fr, df⟩ (.range xt) [(St.ev ⟨t, σ, fr, df⟩ x)] := propext Iff.rfl
theorem op_next {b : Bool} : opsR κ dm P all Q (⟨d, .next x b, ty, pos, af, none⟩ :: rest) ⟨t, σ, fr, df⟩ = actC κ dm P all Q d rest ⟨t, σ, fr, df⟩ (.next b ty) [(St.ev ⟨t, σ, fr, df⟩ x)] := propext Iff.rfl
theorem op_call {f : Operand} {xs : List Operand} {ts : Array TypeId} : opsR κ dm P all Q (⟨d, .call ⟨.value f, xs.toArray, ts⟩, ty, pos, af, none⟩ :: rest) ⟨t, σ, fr, df⟩ = callC κ dm P all Q d rest ⟨t, σ, fr, df⟩ (St.ev ⟨t, σ, fr, df⟩ f) (xs.map (St.ev ⟨t, σ, fr, df⟩)) := propext Iff.rfl
theorem op_len {a : TypeId} : opsR κ dm P all Q (⟨d, .call ⟨.builtin .len, #[x], #[a]⟩, ty, pos, af, none⟩ :: rest) ⟨t, σ, fr, df⟩ = lenC κ dm P all Q d rest ⟨t, σ, fr, df⟩ a (St.ev ⟨t, σ, fr, df⟩ x) := by simp only [opsR, guardR, opR]; simp [lenC]; exact Iff.rfl
theorem op_append {a : TypeId} : opsR κ dm P all Q (⟨d, .call ⟨.builtin .append, #[x, y], #[a, a]⟩, ty, pos, af, none⟩ :: rest) ⟨t, σ, fr, df⟩ = actC κ dm P all Q d rest ⟨t, σ, fr, df⟩ (.append a) [(St.ev ⟨t, σ, fr, df⟩ x), (St.ev ⟨t, σ, fr, df⟩ y)] := by simp only [opsR, guardR, opR]; simp [actC]; exact Iff.rfl
theorem op_max {xs : List Operand} {ts : Array TypeId} : opsR κ dm P all Q (⟨d, .call ⟨.builtin .max, xs.toArray, ts⟩, ty, pos, af, none⟩ :: rest) ⟨t, σ, fr, df⟩ = actC κ dm P all Q d rest ⟨t, σ, fr, df⟩ (.minmax true ts ty) (xs.map (St.ev ⟨t, σ, fr, df⟩)) := propext Iff.rfl
theorem op_min {xs : List Operand} {ts : Array TypeId} : opsR κ dm P all Q (⟨d, .call ⟨.builtin .min, xs.toArray, ts⟩, ty, pos, af, none⟩ :: rest) ⟨t, σ, fr, df⟩ = actC κ dm P all Q d rest ⟨t, σ, fr, df⟩ (.minmax false ts ty) (xs.map (St.ev ⟨t, σ, fr, df⟩)) := propext Iff.rfl

variable {a b c : AV} {xt : TypeId} {k k' : IntKind} {m n : Int} {l : List AV} {sz : Nat} {own : Option (Option (Nat × Nat))} {v : Value} {bb cc : Bool}
theorem retK_ret : retK K KP (.ret a) σ = K a σ := propext Iff.rfl
theorem retK_pan : retK K KP (.pan pc) σ = KP pc σ := propext Iff.rfl
theorem okC_some : okC κ dm P all Q d rest ⟨t, σ, fr, df⟩ (some v) = opsR κ dm P all Q rest ⟨setT t d (.raw v), σ, fr, df⟩ := propext Iff.rfl
theorem binC_int {o : BinOp} (h1 : o ≠ .shl) (h2 : o ≠ .shr) : binC κ dm P all Q d rest ⟨t, σ, fr, df⟩ o xt (.raw (.int k m)) (.raw (.int k n)) = okC κ dm P all Q d rest ⟨t, σ, fr, df⟩ (intF o k m n) := by
  simp only [binC, binR, calmAV, Bool.or_self, true_and]
  cases o <;> first | exact (h1 rfl).elim | exact (h2 rfl).elim | simp [okC]
theorem binC_shl : binC κ dm P all Q d rest ⟨t, σ, fr, df⟩ .shl xt (.raw (.int k m)) (.raw (.int k' n)) = okC κ dm P all Q d rest ⟨t, σ, fr, df⟩ (shF .shl k m n) := by simp [binC, binR, calmAV, okC]
theorem binC_shr : binC κ dm P all Q d rest ⟨t, σ, fr, df⟩ .shr xt (.raw (.int k m)) (.raw (.int k' n)) = okC κ dm P all Q d rest ⟨t, σ, fr, df⟩ (shF .shr k m n) := by simp [binC, binR, calmAV, okC]
theorem binC_str {o : BinOp} {p q : ByteArray} : binC κ dm P all Q d rest ⟨t, σ, fr, df⟩ o xt (.raw (.string p)) (.raw (.string q)) = okC κ dm P all Q d rest ⟨t, σ, fr, df⟩ (strF o p q) := by simp [binC, binR, calmAV, okC]
theorem binC_beql : binC κ dm P all Q d rest ⟨t, σ, fr, df⟩ .eql xt (.raw (.bool bb)) (.raw (.bool cc)) = (P.underlying xt = some .bool ∧ opsR κ dm P all Q rest ⟨setT t d (B (bb == cc)), σ, fr, df⟩) := by simp [binC, binR, calmAV, goK]
theorem binC_bneq : binC κ dm P all Q d rest ⟨t, σ, fr, df⟩ .neq xt (.raw (.bool bb)) (.raw (.bool cc)) = (P.underlying xt = some .bool ∧ opsR κ dm P all Q rest ⟨setT t d (B (!(bb == cc))), σ, fr, df⟩) := by simp [binC, binR, calmAV, goK]
theorem binC_snil : binC κ dm P all Q d rest ⟨t, σ, fr, df⟩ .eql xt (.sl sz own l) (.raw (.slice none 0 0)) = ((slE P xt).isSome = true ∧ nilTC κ dm P all Q d rest ⟨t, σ, fr, df⟩ l false) := by simp [binC, binR, calmAV, goK, nilTC]
theorem binC_snn : binC κ dm P all Q d rest ⟨t, σ, fr, df⟩ .neq xt (.sl sz own l) (.raw (.slice none 0 0)) = ((slE P xt).isSome = true ∧ nilTC κ dm P all Q d rest ⟨t, σ, fr, df⟩ l true) := by simp [binC, binR, calmAV, goK, nilTC]
theorem binC_nnil : binC κ dm P all Q d rest ⟨t, σ, fr, df⟩ .eql xt (.raw (.slice none 0 0)) (.raw (.slice none 0 0)) = ((slE P xt).isSome = true ∧ opsR κ dm P all Q rest ⟨setT t d (B true), σ, fr, df⟩) := by simp [binC, binR, calmAV, goK]
theorem binC_nnn : binC κ dm P all Q d rest ⟨t, σ, fr, df⟩ .neq xt (.raw (.slice none 0 0)) (.raw (.slice none 0 0)) = ((slE P xt).isSome = true ∧ opsR κ dm P all Q rest ⟨setT t d (B false), σ, fr, df⟩) := by simp [binC, binR, calmAV, goK]
theorem unC_not : unC κ dm P all Q d rest ⟨t, σ, fr, df⟩ .not (.raw (.bool bb)) = opsR κ dm P all Q rest ⟨setT t d (B (!bb)), σ, fr, df⟩ := propext Iff.rfl
theorem unC_neg : unC κ dm P all Q d rest ⟨t, σ, fr, df⟩ .neg (.raw (.int k m)) = opsR κ dm P all Q rest ⟨setT t d (.raw (.int k (k.wrap (0 - m)))), σ, fr, df⟩ := propext Iff.rfl
theorem pickC_bool : pickC κ dm P all Q d rest ⟨t, σ, fr, df⟩ (.raw (.bool bb)) a b = opsR κ dm P all Q rest ⟨setT t d (if bb then a else b), σ, fr, df⟩ := propext Iff.rfl
theorem extC_tup {i : Nat} : extC κ dm P all Q d rest ⟨t, σ, fr, df⟩ (.tup l) i = (i < l.length ∧ opsR κ dm P all Q rest ⟨setT t d (l.getD i .any), σ, fr, df⟩) := propext Iff.rfl
theorem loadC_cp : loadC κ dm P all Q d rest ⟨t, σ, fr, df⟩ xt (.cp l) = loadCC κ dm P all Q d rest ⟨t, σ, fr, df⟩ l (aggT P xt) (szT P xt) := propext Iff.rfl
theorem loadCC_agg {n : Nat} : loadCC κ dm P all Q d rest ⟨t, σ, fr, df⟩ l (some true) (some n) = (n ≤ l.length ∧ opsR κ dm P all Q rest ⟨setT t d (.agg (l.take n)), σ, fr, df⟩) := propext Iff.rfl
theorem loadCC_one {n : Nat} : loadCC κ dm P all Q d rest ⟨t, σ, fr, df⟩ l (some false) (some n) = (0 < l.length ∧ opsR κ dm P all Q rest ⟨setT t d (l.getD 0 .any), σ, fr, df⟩) := propext Iff.rfl
theorem loadC_raw {p : Option Addr} : loadC κ dm P all Q d rest ⟨t, σ, fr, df⟩ xt (.raw (.pointer p)) = actC κ dm P all Q d rest ⟨t, σ, fr, df⟩ (.load xt) [.raw (.pointer p)] := propext Iff.rfl
theorem fieldAddrC_cp {f o : Nat} {ft : TypeId} (h : fldT P xt f = some (o, ft)) : fieldAddrC κ dm P all Q d rest ⟨t, σ, fr, df⟩ xt (.cp l) f = ((∃ n, szT P ft = some (n + 1)) ∧ o ≤ l.length ∧ opsR κ dm P all Q rest ⟨setT t d (.cp (l.drop o)), σ, fr, df⟩) := by simp [fieldAddrC, fieldAddrR, h, goK]
theorem fieldAddrC_raw {f o bk off : Nat} {ft : TypeId} (h : fldT P xt f = some (o, ft)) : fieldAddrC κ dm P all Q d rest ⟨t, σ, fr, df⟩ xt (.raw (.pointer (some ⟨bk, off, none⟩))) f = ((∃ n, szT P ft = some (n + 1)) ∧ opsR κ dm P all Q rest ⟨setT t d (.raw (.pointer (some ⟨bk, off + o, none⟩))), σ, fr, df⟩) := by simp [fieldAddrC, fieldAddrR, h, goK]
theorem fieldC_agg {f o n : Nat} {ft : TypeId} (h : fldT P xt f = some (o, ft)) (h1 : aggT P ft = some true) (h2 : szT P ft = some n) : fieldC κ dm P all Q d rest ⟨t, σ, fr, df⟩ xt (.agg l) f = opsR κ dm P all Q rest ⟨setT t d (.agg ((l.drop o).take n)), σ, fr, df⟩ := by simp [fieldC, fieldR, h, h1, h2, goK]
theorem fieldC_one {f o n : Nat} {ft : TypeId} (h : fldT P xt f = some (o, ft)) (h1 : aggT P ft = some false) (h2 : szT P ft = some n) : fieldC κ dm P all Q d rest ⟨t, σ, fr, df⟩ xt (.agg l) f = (o < l.length ∧ opsR κ dm P all Q rest ⟨setT t d (l.getD o .any), σ, fr, df⟩) := by simp [fieldC, fieldR, h, h1, h2, goK]
theorem idxC_sl : idxC κ dm P all Q d rest ⟨t, σ, fr, df⟩ xt (.sl sz own l) (.raw (.int k m)) = ((∃ e, slE P xt = some e ∧ szT P e = some sz) ∧ 0 ≤ m ∧ m < l.length ∧ opsR κ dm P all Q rest ⟨setT t d (.cp (l.getD m.toNat .any).cells), σ, fr, df⟩) := propext Iff.rfl
theorem strIdxC_str {p : ByteArray} : strIdxC κ dm P all Q d rest ⟨t, σ, fr, df⟩ xt (.raw (.string p)) (.raw (.int k m)) = (isStr P xt = true ∧ 0 ≤ m ∧ m < p.size ∧ opsR κ dm P all Q rest ⟨setT t d (.raw (.int .u8 (p.data.toList.getD m.toNat 0).toNat)), σ, fr, df⟩) := propext Iff.rfl
def sl2C (κ : Ctx) (dm : Bool) (P : Program) (all : List Oper) (Q : Exit → St → Prop) (d : Option Tmp) (rest : List Oper) (s : St) (xt : TypeId) (sz : Nat) (l : List AV) (a b : Option Int) : Prop := match a, b with
  | some a, some b => (∃ e, slE P xt = some e ∧ szT P e = some sz) ∧ 0 ≤ a ∧ a ≤ b ∧ b ≤ l.length ∧ goK κ dm P all Q d rest s (.sl sz none ((l.take b.toNat).drop a.toNat)) s.σ
  | _, _ => False
theorem sliceC_sl {lo hi : Option AV} : sliceC κ dm P all Q d rest ⟨t, σ, fr, df⟩ xt (.sl sz own l) lo hi none = sl2C κ dm P all Q d rest ⟨t, σ, fr, df⟩ xt sz l (loN lo) (hiN l.length hi) := by
  rfl
theorem sl2C_eq : sl2C κ dm P all Q d rest ⟨t, σ, fr, df⟩ xt sz l (some m) (some n) = ((∃ e, slE P xt = some e ∧ szT P e = some sz) ∧ 0 ≤ m ∧ m ≤ n ∧ n ≤ l.length ∧ opsR κ dm P all Q rest ⟨setT t d (.sl sz none ((l.take n.toNat).drop m.toNat)), σ, fr, df⟩) := propext Iff.rfl
def sl3C (κ : Ctx) (dm : Bool) (P : Program) (all : List Oper) (Q : Exit → St → Prop) (d : Option Tmp) (rest : List Oper) (s : St) (xt : TypeId) (p : ByteArray) (a b : Option Int) : Prop := match a, b with
  | some a, some b => isStr P xt = true ∧ 0 ≤ a ∧ a ≤ b ∧ b ≤ p.size ∧ goK κ dm P all Q d rest s (.raw (.string (p.extract a.toNat b.toNat))) s.σ
  | _, _ => False
theorem sliceC_str {lo hi : Option AV} {p : ByteArray} : sliceC κ dm P all Q d rest ⟨t, σ, fr, df⟩ xt (.raw (.string p)) lo hi none = sl3C κ dm P all Q d rest ⟨t, σ, fr, df⟩ xt p (loN lo) (hiN p.size hi) := by
  rfl
theorem sl3C_eq {p : ByteArray} : sl3C κ dm P all Q d rest ⟨t, σ, fr, df⟩ xt p (some m) (some n) = (isStr P xt = true ∧ 0 ≤ m ∧ m ≤ n ∧ n ≤ p.size ∧ opsR κ dm P all Q rest ⟨setT t d (.raw (.string (p.extract m.toNat n.toNat))), σ, fr, df⟩) := propext Iff.rfl
theorem loN_none : loN none = some 0 := id rfl
theorem loN_int : loN (some (.raw (.int k m))) = some m := id rfl
theorem hiN_none {N : Nat} : hiN N none = some (N : Int) := id rfl
theorem hiN_int {N : Nat} : hiN N (some (.raw (.int k m))) = some m := id rfl
theorem convC_int {x2 : TypeId} (h : intT P x2 = some k') : convC κ dm P all Q d rest ⟨t, σ, fr, df⟩ xt x2 (.raw (.int k m)) = ((P.underlying xt).isSome = true ∧ opsR κ dm P all Q rest ⟨setT t d (.raw (.int k' (k'.wrap m))), σ, fr, df⟩) := by simp [convC, convR, h, goK]
theorem mkFuncC_raws {f : Fn} {la lb : List AV} {va vb : List Value} (h1 : toVs la = some va) (h2 : toVs lb = some vb) : mkFuncC κ dm P all Q d rest ⟨t, σ, fr, df⟩ f la lb = opsR κ dm P all Q rest ⟨setT t d (.raw (.func f va.toArray vb.toArray)), σ, fr, df⟩ := by simp [mkFuncC, mkFuncR, h1, h2, goK]
theorem mkFuncC_0 {f : Fn} : mkFuncC κ dm P all Q d rest ⟨t, σ, fr, df⟩ f [] [] = opsR κ dm P all Q rest ⟨setT t d (.raw (.func f #[] #[])), σ, fr, df⟩ := propext Iff.rfl
theorem mkFuncC_1 {f : Fn} {u : Value} : mkFuncC κ dm P all Q d rest ⟨t, σ, fr, df⟩ f [] [.raw u] = opsR κ dm P all Q rest ⟨setT t d (.raw (.func f #[] #[u])), σ, fr, df⟩ := propext Iff.rfl
theorem mkFuncC_2 {f : Fn} {u w : Value} : mkFuncC κ dm P all Q d rest ⟨t, σ, fr, df⟩ f [] [.raw u, .raw w] = opsR κ dm P all Q rest ⟨setT t d (.raw (.func f #[] #[u, w])), σ, fr, df⟩ := propext Iff.rfl
theorem mkFuncC_3 {f : Fn} {u w x : Value} : mkFuncC κ dm P all Q d rest ⟨t, σ, fr, df⟩ f [] [.raw u, .raw w, .raw x] = opsR κ dm P all Q rest ⟨setT t d (.raw (.func f #[] #[u, w, x])), σ, fr, df⟩ := propext Iff.rfl
theorem mkFuncC_m {f : Fn} {u : Value} : mkFuncC κ dm P all Q d rest ⟨t, σ, fr, df⟩ f [.raw u] [] = opsR κ dm P all Q rest ⟨setT t d (.raw (.func f #[u] #[])), σ, fr, df⟩ := propext Iff.rfl
theorem nilC_cp : nilC κ dm P all Q d rest ⟨t, σ, fr, df⟩ (.cp l) = opsR κ dm P all Q rest ⟨setT t d (.cp l), σ, fr, df⟩ := propext Iff.rfl
theorem nilC_ptr {p : Addr} : nilC κ dm P all Q d rest ⟨t, σ, fr, df⟩ (.raw (.pointer (some p))) = opsR κ dm P all Q rest ⟨setT t d (.raw (.pointer (some p))), σ, fr, df⟩ := propext Iff.rfl
theorem nilC_func {f : FuncId} {u w : Array Value} : nilC κ dm P all Q d rest ⟨t, σ, fr, df⟩ (.raw (.func (.func f) u w)) = opsR κ dm P all Q rest ⟨setT t d (.raw (.func (.func f) u w)), σ, fr, df⟩ := propext Iff.rfl
theorem nilC_yield {f : Nat} {u w : Array Value} : nilC κ dm P all Q d rest ⟨t, σ, fr, df⟩ (.raw (.func (.yield f) u w)) = opsR κ dm P all Q rest ⟨setT t d (.raw (.func (.yield f) u w)), σ, fr, df⟩ := propext Iff.rfl
theorem panC_iface {tt : TypeId} : panC Q ⟨t, σ, fr, df⟩ (.raw (.iface tt v)) = Q (.panic [{ v := .iface tt v, recovered := false }]) ⟨t, σ, fr, df⟩ := propext Iff.rfl
theorem lenC_sl : lenC κ dm P all Q d rest ⟨t, σ, fr, df⟩ xt (.sl sz own l) = ((slE P xt).isSome = true ∧ opsR κ dm P all Q rest ⟨setT t d (I l.length), σ, fr, df⟩) := propext Iff.rfl
theorem lenC_raw {p : Option Addr} {i j : Nat} : lenC κ dm P all Q d rest ⟨t, σ, fr, df⟩ xt (.raw (.slice p i j)) = ((slE P xt).isSome = true ∧ opsR κ dm P all Q rest ⟨setT t d (I i), σ, fr, df⟩) := propext Iff.rfl
theorem lenC_str {p : ByteArray} : lenC κ dm P all Q d rest ⟨t, σ, fr, df⟩ xt (.raw (.string p)) = (isStr P xt = true ∧ opsR κ dm P all Q rest ⟨setT t d (I p.size), σ, fr, df⟩) := propext Iff.rfl
theorem callC_func {f : FuncId} {xs : List AV} : callC κ dm P all Q d rest ⟨t, σ, fr, df⟩ (.raw (.func (.func f) #[] #[])) xs = (callOk P f ∧ callD κ dm P all Q d rest ⟨t, σ, fr, df⟩ f xs) := by
  cases dm
  · simp only [callC, callM, ACallV, callD, callOk, Array.toList_empty, List.map_nil, List.nil_append, List.append_nil]
  · simp only [callC, callM, ACallV, callD, callOk, Array.toList_empty, List.map_nil, List.nil_append, List.append_nil, eq_iff_iff]
    exact ⟨fun ⟨x, ⟨h1, h2⟩, h3⟩ => ⟨h1, x, h2, h3⟩, fun ⟨h1, x, h2, h3⟩ => ⟨x, ⟨h1, h2⟩, h3⟩⟩
theorem callC_clos {f : FuncId} {xs : List AV} {va vb : List Value} : callC κ dm P all Q d rest ⟨t, σ, fr, df⟩ (.raw (.func (.func f) va.toArray vb.toArray)) xs = (callOk P f ∧ callD κ dm P all Q d rest ⟨t, σ, fr, df⟩ f (va.map .raw ++ xs ++ vb.map .raw)) := by
  cases dm
  · simp only [callC, callM, ACallV, callD, callOk]
  · simp only [callC, callM, ACallV, callD, callOk, eq_iff_iff]
    exact ⟨fun ⟨x, ⟨h1, h2⟩, h3⟩ => ⟨h1, x, h2, h3⟩, fun ⟨h1, x, h2, h3⟩ => ⟨x, ⟨h1, h2⟩, h3⟩⟩
theorem callC_yield {f : Nat} {xs : List AV} {vb : Array Value} : callC κ dm P all Q d rest ⟨t, σ, fr, df⟩ (.raw (.func (.yield f) #[] vb)) xs = callYD κ dm P all Q d rest ⟨t, σ, fr, df⟩ f xs := by
  cases dm
  · simp only [callC, callM, ACallV, callYD, Array.toList_empty, List.map_nil, List.nil_append]
  · simp only [callC, callM, ACallV, callYD, Array.toList_empty, List.map_nil, List.nil_append]
    rfl

theorem nilTC_pos {v : Bool} (h : 0 < l.length) (hk : goK κ dm P all Q d rest ⟨t, σ, fr, df⟩ (B v) σ) : nilTC κ dm P all Q d rest ⟨t, σ, fr, df⟩ l v := .inl ⟨h, hk⟩
theorem nilTC_split {v : Bool} (h1 : 0 < l.length → goK κ false P all Q d rest ⟨t, σ, fr, df⟩ (B v) σ) (h2 : l.length = 0 → ∀ b, goK κ false P all Q d rest ⟨t, σ, fr, df⟩ (B b) σ) : nilTC κ false P all Q d rest ⟨t, σ, fr, df⟩ l v := by
  rcases Nat.eq_zero_or_pos l.length with h | h
  · exact .inr ⟨rfl, h, h2 h⟩
  · exact .inl ⟨h, h1 h⟩
theorem callD_mk {f : FuncId} {xs : List AV} (h : ACallF κ P f xs σ (retK (goK κ false P all Q d rest ⟨t, σ, fr, df⟩) (goP Q ⟨t, σ, fr, df⟩))) : callD κ false P all Q d rest ⟨t, σ, fr, df⟩ f xs := h
theorem callYD_mk {f : Nat} {xs : List AV} (h : ACallY κ P f xs σ (retK (goK κ false P all Q d rest ⟨t, σ, fr, df⟩) (goP Q ⟨t, σ, fr, df⟩))) : callYD κ false P all Q d rest ⟨t, σ, fr, df⟩ f xs := h
theorem callD_q {f : FuncId} {xs : List AV} {x : AV} (h : ACallF κ P f xs σ (isR x σ)) (hk : goK κ true P all Q d rest ⟨t, σ, fr, df⟩ x σ) : callD κ true P all Q d rest ⟨t, σ, fr, df⟩ f xs := ⟨x, h, hk⟩
theorem isR_mk {x : AV} : isR x σ (.ret x) σ := ⟨rfl, rfl⟩
theorem isA_mk {x : AV} : isA x σ x σ := ⟨rfl, rfl⟩
theorem actC_mk {mm : MA} {xs : List AV} (h : AAct κ P mm xs σ (goK κ false P all Q d rest ⟨t, σ, fr, df⟩)) : actC κ false P all Q d rest ⟨t, σ, fr, df⟩ mm xs := h
theorem storeC_mk {x y : AV} (h : AAct κ P (.store xt) [x, y] σ (fun _ σ' => goK κ false P all Q d rest ⟨t, σ, fr, df⟩ .any σ')) : storeC κ false P all Q d rest ⟨t, σ, fr, df⟩ xt x y := h
/-- An action that turns nothing, in whatever mode. -/
theorem actC_q {mm : MA} {xs : List AV} {x : AV} (h : AAct κ P mm xs σ (isA x σ)) (hk : goK κ dm P all Q d rest ⟨t, σ, fr, df⟩ x σ) : actC κ dm P all Q d rest ⟨t, σ, fr, df⟩ mm xs := by
  cases dm with
  | true => exact ⟨x, h, hk⟩
  | false =>
    intro φ g w vs hR hv
    obtain ⟨v, w', g', y, σ', a, b, c, d, rfl, rfl⟩ := h φ g w vs hR hv
    exact ⟨v, w', g', _, _, a, b, c, d, hk⟩
variable {fn : Func} {kk : Ret → List Res → Prop}
theorem resK_eq : resK κ P fn s kk = resL κ P fn kk s fn.results.toList := by
  unfold resK resL; rfl
theorem leave_ret : LeaveQ κ P fn kk .ret ⟨t, σ, fr, df⟩ = (df = [] ∧ resL κ P fn kk ⟨t, σ, fr, df⟩ fn.results.toList) := by rw [← resK_eq]; rfl
theorem leave_normal : LeaveQ κ P fn kk .normal ⟨t, σ, fr, df⟩ = (df = [] ∧ resL κ P fn kk ⟨t, σ, fr, df⟩ fn.results.toList) := by rw [← resK_eq]; rfl
theorem leave_panic : LeaveQ κ P fn kk (.panic pc) ⟨t, σ, fr, df⟩ = (df = [] ∧ kk (.pan pc) σ) := propext Iff.rfl
variable {i1 i2 i3 i4 : Nat}
theorem res_0 : resL κ P fn kk ⟨t, σ, fr, df⟩ [] = kk (.ret (.tup [])) σ := propext Iff.rfl
theorem res_1 : resL κ P fn kk ⟨t, σ, fr, df⟩ [.tmp i1] = kk (.ret (t.getD i1 .any)) σ := propext Iff.rfl
theorem res_2 : resL κ P fn kk ⟨t, σ, fr, df⟩ [.tmp i1, .tmp i2] = kk (.ret (.tup [t.getD i1 .any, t.getD i2 .any])) σ := propext Iff.rfl
theorem res_3 : resL κ P fn kk ⟨t, σ, fr, df⟩ [.tmp i1, .tmp i2, .tmp i3] = kk (.ret (.tup [t.getD i1 .any, t.getD i2 .any, t.getD i3 .any])) σ := propext Iff.rfl
theorem res_4 : resL κ P fn kk ⟨t, σ, fr, df⟩ [.tmp i1, .tmp i2, .tmp i3, .tmp i4] = kk (.ret (.tup [t.getD i1 .any, t.getD i2 .any, t.getD i3 .any, t.getD i4 .any])) σ := propext Iff.rfl

end
end Go.Abs
