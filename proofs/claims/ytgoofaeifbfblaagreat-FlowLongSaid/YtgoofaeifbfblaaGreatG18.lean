/-
  Texts HD, MA, MK, HE, HF, Ia, Ib, Rd, Li, Lb, Ic, one behind the other.
-/
import Derived.Test.YtgoofaeifbfblaaGreatG16
import Derived.Test.YtgoofaeifbfblaaGreatG17
import Derived.RecoverIn
set_option linter.unusedVariables false
set_option linter.unusedSimpArgs false
/-
  Walks: chapter 13, all nodes.
-/







namespace Go.Proofs.YtgoofaeifbfblaaGreat
open Go.Abs
set_option linter.unusedVariables false
set_option linter.unusedSimpArgs false
variable {κ : Ctx} {σ : List Res} {K : Ret → List Res → Prop} {o o' : Option (Option (Nat × Nat))}
set_option maxHeartbeats 4000000 in
theorem jNode0 {bj : Nat} {ls : List Ln} {n d : Int} {bk : Bool} {N : Nat → Int × Int → NodeR} {x y : AV} {op : List Int} {l : List EvV} {τ σ0 : List Res} {p : Int × Int} (hs : Small ls) (hd : 0 ≤ d ∧ d ≤ 1000000000)
    (hP : roomF d op.length 0 = true → EntC κ bj ls n d bk (pairF ls n (N (op.length + 1))) 122 (op.length + 1)) (hI : roomF d op.length 0 = true → EntC κ bj ls n d bk (itemF ls n d (op.length + 1) (N (op.length + 1)) (N (op.length + 2))) 121 (op.length + 1)) (hG : ∀ k, GoodN ls (N k)) (hJ : JX x y op l τ σ0) (hlo : op.length ≤ 1000000) (hp : PlW p) (hb : l.length + 8 * mu p + 8 ≤ 1000000000)
    (h1 : ∀ ev e t, nodeS ls n d bk N op.length p = .ok (ev, e, t) → ∀ x' y' τ', JX x' y' op (l ++ ev) τ' σ0 → K (.ret (EDA (e, t))) (.obj bj (JC ls n bk d x' y') :: τ'))
    (h2 : ∀ e, nodeS ls n d bk N op.length p = .error e → ∀ x' y' op' l' τ', JX x' y' op' l' τ' σ0 → K (.pan (wrongC e)) (.obj bj (JC ls n bk d x' y') :: τ')) :
    ACallF κ Tryz.prog 54 [JP bj, PLA p] (.obj bj (JC ls n bk d x y) :: τ) K := by
  have hll : l.length ≤ 1000000000 := by omega
  have hlo2 : op.length ≤ 1000000000 := by omega
  unfold nodeS at h1 h2
  cases ht : traitsF ls n p with
  | error e =>
    rw [ht] at h2
    exact jNodeErr hs hp ht (h2 _ rfl _ _ _ _ _ hJ)
  | ok r =>
    obtain ⟨v, q, ok⟩ := r
    rw [ht] at h1 h2
    dsimp only at h1 h2
    obtain ⟨b1, b2, b3⟩ := traits_q hs hp ht
    cases ok
    · obtain rfl := b2 rfl
      simp only [Bool.false_eq_true, if_false] at h1 h2
      have hh : ∀ c, headF [] c = false := fun c => rfl
      unfold bodyF at h1 h2
      simp only [hh, Bool.false_eq_true, if_false, false_or, List.length_nil, Nat.lt_irrefl, false_and] at h1 h2
      cases ha : anyT v
      · rw [ha, if_neg Bool.false_ne_true] at h2
        exact jNodeOverN hs hJ hll hp ht ha (h2 _ rfl _ _ _ _ _ hJ)
      · rw [ha, if_pos rfl] at h1
        exact jNodeOverY hs hJ hll hp ht ha (fun y' τ' hJ' => h1 _ _ _ rfl _ _ _ hJ')
    · simp only [if_true] at h1 h2
      obtain ⟨c1, c2, c3, c4⟩ := b1 rfl
      have hmu := mu_mono c1 c2.2.2.1 hp.2.2.2
      have hh : ∀ c, headF (restF ls q) c = ((restF ls q).getD 0 0 == c) := fun c => by unfold headF; rw [decide_eq_true c3, Bool.true_and]
      unfold bodyF at h1 h2
      simp only [hh] at h1 h2
      generalize hX : restF ls q = X at *
      cases e1 : (X.getD 0 0 == 42)
      · simp only [e1, Bool.false_eq_true, if_false] at h1 h2
        cases e2 : (X.getD 0 0 == 34)
        · cases e3 : (X.getD 0 0 == 39)
          · simp only [e2, e3, Bool.false_eq_true, or_self, if_false] at h1 h2
            cases e4 : (X.getD 0 0 == 91)
            · cases e5 : (X.getD 0 0 == 123)
              · simp only [e4, e5, Bool.false_eq_true, or_self, if_false] at h1 h2
                cases e6 : beginsI X (!(bk && decide (op.length = 0)))
                · simp only [e6, Bool.false_eq_true, and_false, if_false] at h1 h2
                  cases ha : anyT v
                  · simp only [ha, Bool.false_eq_true, if_false] at h2
                    exact jNodeNoneN hs hJ hll hlo2 hp ht c2 c3 hX e1 e2 e3 e4 e5 e6 ha (h2 _ rfl _ _ _ _ _ hJ)
                  · simp only [ha, if_true] at h1
                    exact jNodeNoneY hs hJ hll hlo2 hp ht c2 c3 hX e1 e2 e3 e4 e5 e6 ha (fun y' τ' hJ' => h1 _ _ _ rfl _ _ _ hJ')
                · simp only [e6, c3, and_self, if_true] at h1 h2
                  exact jNodePlain hs hJ hll hlo2 hp ht c2 c3 hX e1 e2 e3 e4 e5 e6 (fun t e hq y' τ' hJ' => h1 _ _ _ (by rw [hq]) _ _ _ hJ') (fun e hq => h2 _ (by rw [hq]) _ _ _ _ _ hJ)
              · simp only [e4, e5, Bool.false_eq_true, false_or, if_true] at h1 h2
                exact jNodeCollC hd hP hI hG hlo (by omega) hs hJ hll hlo2 hp ht c2 c3 hX e1 e2 e3 e4 e5 (fun ev e hq x' y' τ' hJ' => h1 _ _ _ (by rw [hq]) _ _ _ hJ') (fun e hq x' y' op' l' τ' hJ' => h2 _ (by rw [hq]) _ _ _ _ _ hJ')
            · simp only [e4, true_or, if_true] at h1 h2
              exact jNodeCollB hd hP hI hG hlo (by omega) hs hJ hll hlo2 hp ht c2 c3 hX e1 e2 e3 e4 (fun ev e hq x' y' τ' hJ' => h1 _ _ _ (by rw [hq]) _ _ _ hJ') (fun e hq x' y' op' l' τ' hJ' => h2 _ (by rw [hq]) _ _ _ _ _ hJ')
          · simp only [e2, e3, Bool.false_eq_true, false_or, if_true] at h1 h2
            exact jNodeQuotedS hs hJ hll hlo2 hp ht c2 c3 hX e1 e2 e3 (fun t s e hq y' τ' hJ' => h1 _ _ _ (by rw [hq]) _ _ _ hJ') (fun e hq => h2 _ (by rw [hq]) _ _ _ _ _ hJ)
        · simp only [e2, true_or, if_true] at h1 h2
          exact jNodeQuotedD hs hJ hll hlo2 hp ht c2 c3 hX e1 e2 (fun t s e hq y' τ' hJ' => h1 _ _ _ (by rw [hq]) _ _ _ hJ') (fun e hq => h2 _ (by rw [hq]) _ _ _ _ _ hJ)
      · simp only [e1, if_true] at h1 h2
        cases ha : anyT v
        · simp only [ha, Bool.false_eq_true, if_false] at h1 h2
          exact jNodeAlias hs hJ hll hlo2 hp ht c2 c3 hX e1 ha (fun hal y' τ' hJ' => h1 _ _ _ (if_pos hal) _ _ _ hJ') (fun hal => h2 _ (if_neg (by rw [hal]; decide)) _ _ _ _ _ hJ)
        · simp only [ha, if_true] at h2
          exact jNodeAliasBad hs hJ hll hlo2 hp ht c2 c3 hX e1 ha (h2 _ rfl _ _ _ _ _ hJ)
set_option maxHeartbeats 4000000 in
theorem nodeF_good {ls : List Ln} {n d : Int} {bk : Bool} (hs : Small ls) : ∀ f k, GoodN ls (nodeF ls n d bk f k)
  | 0, k => node_good hs (fun k p ev e t hp h => by cases h)
  | f + 1, k => node_good hs (fun k => nodeF_good hs f k)
set_option maxHeartbeats 4000000 in
theorem room_in {d : Int} {k : Nat} (hd : 0 ≤ d) (h : roomF d k 0 = true) : k < 200 := by
  unfold roomF at h
  simp only [Bool.and_eq_true, decide_eq_true_eq] at h
  omega
set_option maxHeartbeats 4000000 in
theorem jNodeAll {bj : Nat} {ls : List Ln} {n d : Int} {bk : Bool} (hs : Small ls) (hd : 0 ≤ d ∧ d ≤ 1000000000) : ∀ (f k : Nat), 200 ≤ k + f → k ≤ 1000 →
    ∀ {x y : AV} {op : List Int} {l : List EvV} {τ σ0 : List Res} {p : Int × Int} {K : Ret → List Res → Prop}, op.length = k → JX x y op l τ σ0 → PlW p → l.length + 8 * mu p + 8 ≤ 1000000000 →
    (∀ ev e t, nodeF ls n d bk f k p = .ok (ev, e, t) → ∀ x' y' τ', JX x' y' op (l ++ ev) τ' σ0 → K (.ret (EDA (e, t))) (.obj bj (JC ls n bk d x' y') :: τ')) →
    (∀ e, nodeF ls n d bk f k p = .error e → ∀ x' y' op' l' τ', JX x' y' op' l' τ' σ0 → K (.pan (wrongC e)) (.obj bj (JC ls n bk d x' y') :: τ')) →
    ACallF κ Tryz.prog 54 [JP bj, PLA p] (.obj bj (JC ls n bk d x y) :: τ) K
  | 0, k, hf, hk, x, y, op, l, τ, σ0, p, K, ho, hJ, hp, hb, h1, h2 => by
    subst ho
    exact jNode0 hs hd (fun h => by have := room_in hd.1 h; omega) (fun h => by have := room_in hd.1 h; omega) (fun k p ev e t hp h => by cases h) hJ (by omega) hp hb h1 h2
  | f + 1, k, hf, hk, x, y, op, l, τ, σ0, p, K, ho, hJ, hp, hb, h1, h2 => by
    subst ho
    have ih : ∀ k', 200 ≤ k' + f → k' ≤ 1000 → NodeC κ bj ls n d bk (nodeF ls n d bk f k') k' := fun k' a b x y op l τ σ0 p K ho hJ hp hb h1 h2 => jNodeAll hs hd f k' a b ho hJ (hp.w hs) hb h1 h2
    refine jNode0 hs hd (fun h => ?_) (fun h => ?_) (fun k => nodeF_good hs f k) hJ (by omega) hp hb h1 h2
    · have := room_in hd.1 h
      exact @fun _ _ _ _ _ _ _ _ => jPair hs (ih (op.length + 1) (by omega) (by omega)) (nodeF_good hs f _)
    · have := room_in hd.1 h
      exact @fun _ _ _ _ _ _ _ _ => jItem (k := op.length + 1) hs hd (by omega) (ih (op.length + 1) (by omega) (by omega)) (nodeF_good hs f _) (fun _ => ih (op.length + 2) (by omega) (by omega)) (nodeF_good hs f _)
end Go.Proofs.YtgoofaeifbfblaaGreat
/-
  Own layer, part A: a deferred call that recovers; panics of a struct; what an interface value holds.
-/


namespace Go.Abs
open Go.RowKit
set_option linter.unusedVariables false
set_option linter.unusedSimpArgs false
/-! ### A list of operations in two parts -/
def appQ (N : Act → World → Prop) (Q : Exit → Act → World → Prop) : Exit → Act → World → Prop
  | .normal, a, w => N a w
  | e, a, w => Q e a w
theorem Oper.wpIn_appQ {F : Fence} {n : Nat} {P : Program} {o : Oper} {a : Act} {w : World} {N : Act → World → Prop} {K K' : Act → World → Prop} {Q : Exit → Act → World → Prop} (hk : ∀ a w, K a w → K' a w)
    (hh : o.wpIn F n P a w K (appQ N Q)) : o.wpIn F n P a w K' Q := by
  unfold Oper.wpIn at *
  refine ⟨hh.1, ?_⟩
  have hh := hh.2
  generalize (o.semAt F.round a.eval).run P w = r at *
  cases r with
  | ok x w' =>
    cases x <;> simp only [Oper.uponIn] at hh ⊢ <;>
      first
        | exact hk _ _ hh
        | exact ⟨hh.1, CallsIn.mono hh.2 (fun e w'' he => by cases e <;> first | exact hk _ _ he | exact he)⟩
        | exact ⟨hh.1, RowsIn.mono hh.2 (fun _ _ he => hk _ _ he)⟩
        | exact ⟨hh.1, RoundIn.mono hh.2 (fun e w'' he => by cases e <;> first | exact hk _ _ he | exact he)⟩
  | halt x w' => cases x <;> simp only [Oper.uponIn] at hh ⊢ <;> exact hh
theorem wpListIn_app {F : Fence} {n : Nat} {P : Program} {ops : Array Oper} {Q : Exit → Act → World → Prop} {m : List Oper} : ∀ (l : List Oper) (a : Act) (w : World), wpListIn F n P ops (appQ (wpListIn F n P ops Q m) Q) l a w → wpListIn F n P ops Q (l ++ m) a w
  | [], a, w, h => h
  | o :: l, a, w, h => by
    simp only [List.cons_append, wpListIn] at h ⊢
    split
    · rename_i hw
      rw [if_pos hw] at h
      exact Oper.wpIn_appQ (wpListIn_app l) h
    · rename_i hw
      rw [if_neg hw] at h
      exact ⟨h.1, wpListIn_app l _ _ h.2⟩
theorem Oper.wpIn_imp {F : Fence} {n : Nat} {P : Program} {o : Oper} {a : Act} {w : World} {K K' : Act → World → Prop} {Q Q' : Exit → Act → World → Prop} (hk : ∀ a w, K a w → K' a w) (hq : ∀ e a w, Q e a w → Q' e a w)
    (hh : o.wpIn F n P a w K Q) : o.wpIn F n P a w K' Q' := by
  unfold Oper.wpIn at *
  refine ⟨hh.1, ?_⟩
  have hh := hh.2
  have hl : LetsOut Q → LetsOut Q' := fun ⟨a, w, h⟩ => ⟨a, w, hq _ _ _ h⟩
  generalize (o.semAt F.round a.eval).run P w = r at *
  cases r with
  | ok x w' =>
    cases x <;> simp only [Oper.uponIn] at hh ⊢ <;>
      first
        | exact hk _ _ hh
        | exact ⟨hh.1, CallsIn.mono hh.2 (fun e w'' he => by cases e <;> first | exact hk _ _ he | exact hq _ _ _ he | exact hl he)⟩
        | exact ⟨hh.1, RowsIn.mono hh.2 (fun _ _ he => hk _ _ he)⟩
        | exact ⟨hh.1, RoundIn.mono hh.2 (fun e w'' he => by cases e <;> first | exact hk _ _ he | exact hq _ _ _ he | exact hl he)⟩
  | halt x w' => cases x <;> simp only [Oper.uponIn] at hh ⊢ <;> exact hq _ _ _ hh
theorem wpListIn_imp {F : Fence} {n : Nat} {P : Program} {ops : Array Oper} {Q Q' : Exit → Act → World → Prop} (hq : ∀ e a w, Q e a w → Q' e a w) : ∀ (l : List Oper) (a : Act) (w : World), wpListIn F n P ops Q l a w → wpListIn F n P ops Q' l a w
  | [], a, w, h => hq _ _ _ h
  | o :: l, a, w, h => by
    simp only [wpListIn] at h ⊢
    split
    · rename_i hw
      rw [if_pos hw] at h
      exact Oper.wpIn_imp (wpListIn_imp hq l) hq h
    · rename_i hw
      rw [if_neg hw] at h
      exact ⟨h.1, wpListIn_imp hq l _ _ h.2⟩
/-! ### The statement 'defer' -/
/-- A closure as a deferred call. -/
def dcl (f : FuncId) (cap : List Value) : Deferred := { target := .fn (.func f) cap.toArray, args := #[] }
section
variable {κ : Ctx} {P : Program}
/-- What must hold ahead of the statement. -/
def deferQ (x : Operand) (f : FuncId) (cap : List Value) (Q : Exit → St → Prop) : Exit → St → Prop
  | .normal, s => s.fr = true ∧ s.ev x = .raw (.func (.func f) #[] cap.toArray) ∧ Q .normal { s with df := dcl f cap :: s.df }
  | e, s => Q e s
abbrev dOp (x : Operand) (ty : TypeId) (pos : String) (af : Array Edge) (ts : Array TypeId) : Oper := ⟨none, .defer ⟨.value x, #[], ts⟩, ty, pos, af, none⟩
theorem AW_defer {id : Nat} {l : List Oper} {x : Operand} {ty : TypeId} {pos : String} {af : Array Edge} {ts : Array TypeId} (f : FuncId) (cap : List Value) {Q : Exit → St → Prop} {s : St}
    (h : opsR κ false P (l ++ [dOp x ty pos af ts]) (deferQ x f cap Q) l s) : AW κ none P (.region id (l ++ [dOp x ty pos af ts]).toArray false) Q s := by
  intro φ g a w hs
  refine wpIn_region_list ?_
  simp only [List.toList_toArray]
  refine wpListIn_app l a w ?_
  have h1 := opsR_sound (rd := none) (φ := φ) l s g a w h hs (GE.refl g w)
  refine wpListIn_imp ?_ l a w h1
  rintro e a' w' ⟨g', s', hs', hge, hq⟩
  cases e with
  | normal =>
    obtain ⟨hfr, hev, hq⟩ := hq
    obtain ⟨ds, hd, hfr', hR, ht⟩ := hs'
    have hds := hfr' hfr
    subst hds
    have hx := ev_sound (s := s') ⟨ht.size, ht.get⟩ x
    rw [hev] at hx
    have hx' := hx.raw_eq
    show wpListIn _ _ _ _ _ _ _ _
    simp only [wpListIn, Region.wanted, if_true]
    refine ⟨?_, ?_⟩
    · intro f' hf'; exact FD_fn none f'
    · rw [show (FD none).round = none from rfl, Oper.semAt_none]
      have hres : (execOp a'.eval (dOp x ty pos af ts)).run P w' = .ok (.defer (dcl f cap)) w' := by
        simp [execOp, resolve, hx', Deferred.ofValue, dcl]
      rw [hres]
      refine ⟨g', _, ?_, hge, hq⟩
      exact ⟨[], by simp only [List.map_nil, List.nil_append] at hd ⊢; show dcl f cap :: a'.defers = _; rw [hd], fun _ => rfl, hR, ht⟩
  | exit id => exact ⟨g', s', hs', hge, hq⟩
  | goto id => exact ⟨g', s', hs', hge, hq⟩
  | ret => exact ⟨g', s', hs', hge, hq⟩
  | panic c => exact ⟨g', s', hs', hge, hq⟩
  | outgrown => exact ⟨g', s', hs', hge, hq⟩
/-! ### Leaving -/
/-- A deferred call of f, while the function below leaves in mode u. -/
def ACallD (κ : Ctx) (P : Program) (f : FuncId) (args : List AV) (σ : List Res) (u : FrameMode) (K : FrameMode → List Res → Prop) : Prop :=
  ∀ (φ : List Res) (g : Nat → Nat) (w : World) (vs : Array Value), Rel κ g (φ ++ σ) w → TR g w args vs →
    CallsDIn Fence.wide 0 P f vs u w fun e u' w' => ∃ v g' σ', e = .returned v ∧ Rel κ g' (φ ++ σ') w' ∧ GE g w g' w' ∧ K u' σ'
/-- What a function with one deferred closure must leave with. -/
def LeaveD (κ : Ctx) (P : Program) (fn : Func) (f : FuncId) (cap : List Value) (K : Ret → List Res → Prop) : Exit → St → Prop
  | .normal, s => s.fr = true ∧ s.df = [dcl f cap] ∧ ACallD κ P f (cap.map .raw) s.σ .returning fun u σ' => u = .returning ∧ resK κ P fn { s with σ := σ' } K
  | .ret, s => s.fr = true ∧ s.df = [dcl f cap] ∧ ACallD κ P f (cap.map .raw) s.σ .returning fun u σ' => u = .returning ∧ resK κ P fn { s with σ := σ' } K
  | .panic c, s => s.fr = true ∧ s.df = [dcl f cap] ∧ ACallD κ P f (cap.map .raw) s.σ (.panicking c) fun u σ' => settle u = .returning ∧ resK κ P fn { s with σ := σ' } K
  | _, _ => False
theorem leave_one {fn : Func} {s : St} {K : Ret → List Res → Prop} {f : FuncId} {cap : List Value} {φ : List Res} {g0 : Nat → Nat} {w0 : World} {u : FrameMode} {g : Nat → Nat} {w : World} {tmps : Array Value} (hu : u ≠ .run) (hok : callOk P f = True)
    (h : ACallD κ P f (cap.map .raw) s.σ u fun u' σ' => settle u' = .returning ∧ resK κ P fn { s with σ := σ' } K)
    (hR : Rel κ g (φ ++ s.σ) w) (ht : TR g w s.t tmps) (hge : GE g0 w0 g w) : LeavesInM Fence.wide 0 P fn tmps (CPost κ φ g0 w0 K) [dcl f cap] u w := by
  obtain ⟨fn', hf, h1, h2⟩ : callOk P f := hok ▸ trivial
  refine ⟨hu, .inr ⟨(fun e => by cases e), .func f, cap.toArray, f, cap.toArray, rfl, ?_, fun _ _ => trivial, ?_⟩⟩
  · show (invoke (.fn (.func f) cap.toArray) #[]).run P w = _
    simp only [invoke]
    rw [show (#[] ++ cap.toArray : Array Value) = cap.toArray by simp]
    exact callFunc_run hf h1 h2 _ _
  · obtain ⟨hc1, hc2⟩ := h φ g w cap.toArray hR (by simpa using TR.raws cap.toArray)
    refine ⟨hc1, fun c cs hcu hroom => ?_⟩
    obtain ⟨e, u', w', fr, ⟨v, g', σ', rfl, hR', hge', hs, hk⟩, h3⟩ := hc2 c cs hcu hroom
    refine ⟨_, u', w', fr, ?_, h3⟩
    show LeavesInM Fence.wide 0 P fn tmps (CPost κ φ g0 w0 K) [] (settle u') w'
    rw [hs]
    obtain ⟨v2, x, a1, a2, a3⟩ := resK_sound hk φ g' w' tmps hR' (ht.mono hge')
    exact ⟨v2, a1, g', σ', .ret x, hR', hge.trans hge', a2, a3⟩
theorem ACallF_introD {f fd : FuncId} {fn : Func} {c : Code} {args : List AV} {σ : List Res} {cap : List Value → Prop} {K : Ret → List Res → Prop} (hf : P.funcs[f]? = some fn) (hb : fn.body = some c) (hok : callOk P fd = True)
    (h : AW κ none P c (fun e s => ∃ cap, LeaveD κ P fn fd cap K e s) { t := args ++ List.replicate (fn.ntmps - args.length) .any, σ := σ }) : ACallF κ P f args σ K := by
  intro φ g w vs hR hv
  refine callsIn_of_wp_marks hf hb trivial ?_
  have hs : SR κ φ g { t := args ++ List.replicate (fn.ntmps - args.length) .any, σ := σ } { tmps := vs ++ Array.replicate (fn.ntmps - vs.size) undef, defers := [] } w := by
    refine ⟨[], rfl, fun _ => rfl, hR, hv.append ⟨by simp [hv.size], fun k x hk => ?_⟩⟩
    rw [List.getElem?_replicate] at hk
    split at hk
    · cases hk; exact .any _
    · cases hk
  refine wpIn_mono (h φ g _ w hs) ?_
  rintro e a' w' ⟨g', s', hs', hge, cap, hq⟩
  obtain ⟨ds, hd, hfr, hR', ht'⟩ := hs'
  have ret : s'.fr = true ∧ s'.df = [dcl fd cap] ∧ (ACallD κ P fd (cap.map .raw) s'.σ .returning fun u σ' => u = .returning ∧ resK κ P fn { s' with σ := σ' } K) → LeavesInM Fence.wide 0 P fn a'.tmps (CPost κ φ g w K) a'.defers .returning w' := by
    rintro ⟨q1, q2, q3⟩
    have hds := hfr q1
    subst hds
    rw [hd, q2]
    refine leave_one (s := s') (by simp) hok (fun φ g w vs a b => ?_) hR' ht' hge
    obtain ⟨b1, b2⟩ := q3 φ g w vs a b
    refine ⟨b1, fun c cs hcu hroom => ?_⟩
    obtain ⟨e, u', w2, fr, ⟨v, g2, σ2, e1, e2, e3, e4, e5⟩, h3⟩ := b2 c cs hcu hroom
    exact ⟨e, u', w2, fr, ⟨v, g2, σ2, e1, e2, e3, by rw [e4]; rfl, e5⟩, h3⟩
  cases e with
  | normal => exact ret hq
  | ret => exact ret hq
  | panic ch =>
    obtain ⟨q1, q2, q3⟩ := hq
    have hds := hfr q1
    subst hds
    show LeavesInM Fence.wide 0 P fn a'.tmps (CPost κ φ g w K) a'.defers (.panicking ch) w'
    rw [hd, q2]
    exact leave_one (s := s') (by simp) hok q3 hR' ht' hge
  | exit id => exact hq.elim
  | goto id => exact hq.elim
  | outgrown => exact hq.elim
/-! ### A deferred function that recovers -/
/-- The mode behind 'recover', and what it hands over. -/
def recM : FrameMode → FrameMode
  | .panicking ({ v, recovered := false, goexit := false } :: older) => .panicking ({ v, recovered := true } :: older)
  | u => u
def recV : FrameMode → Value
  | .panicking ({ v, recovered := false, goexit := false } :: _) => v
  | _ => .nilIface
theorem recoverD_cons (c : Frame) (cs : List Frame) : match recoverD (c :: cs) with
    | some (v, cs') => v = recV c.mode ∧ cs' = { c with mode := recM c.mode } :: cs
    | none => recV c.mode = .nilIface ∧ recM c.mode = c.mode := by
  simp only [recoverD, recV, recM]
  split <;> rename_i h
  · split at h
    · rename_i hm
      simp only [Option.some.injEq, Prod.mk.injEq] at h
      obtain ⟨rfl, rfl⟩ := h
      rw [hm]
      exact ⟨rfl, rfl⟩
    · cases h
  · split at h
    · cases h
    · rename_i hm
      split
      · rename_i v older e
        exact absurd e (hm v older)
      · exact ⟨rfl, rfl⟩
/-- What a deferred function must leave with. -/
def LeaveR (κ : Ctx) (P : Program) (fn : Func) (K : List Res → Prop) : Exit → St → Prop
  | .normal, s => s.fr = true ∧ s.df = [] ∧ fn.results.toList = [] ∧ K s.σ
  | .ret, s => s.fr = true ∧ s.df = [] ∧ fn.results.toList = [] ∧ K s.σ
  | _, _ => False
theorem ACallD_intro {f : FuncId} {fn : Func} {x : Tmp} {t1 : Tmp} {ty1 ty2 : TypeId} {p1 p2 : String} {af1 af2 : Array Edge} {id : Nat} {rest : Code} {ts : Array TypeId} {args : List AV} {σ : List Res} {u : FrameMode} {K : FrameMode → List Res → Prop}
    (hf : P.funcs[f]? = some fn) (hb : fn.body = some (.seq (.region id #[⟨some t1, .call ⟨.builtin .recover, #[], ts⟩, ty1, p1, af1, none⟩, ⟨some x, .assign (.tmp t1), ty2, p2, af2, none⟩] false) rest))
    (h : AW κ none P rest (LeaveR κ P fn (K (recM u))) { t := setT (setT (args ++ List.replicate (fn.ntmps - args.length) .any) (some t1) (.raw (recV u))) (some x) (.raw (recV u)), σ := σ }) (ht1 : t1 < args.length + (fn.ntmps - args.length)) : ACallD κ P f args σ u K := by
  intro φ g w vs hR hv
  refine callsDIn_of_wpSIn hf hb trivial (fun c₀ cs hcu => ?_)
  refine wpSIn_seq (wpSIn_region ?_)
  have hs0 : TR g w (args ++ List.replicate (fn.ntmps - args.length) .any) (vs ++ Array.replicate (fn.ntmps - vs.size) undef) := by
    refine hv.append ⟨by simp [hv.size], fun k x hk => ?_⟩
    rw [List.getElem?_replicate] at hk
    split at hk
    · cases hk; exact .any _
    · cases hk
  have hrest : ∀ v, v = recV u → Code.wpSIn Fence.wide 0 P rest (bodyPostS P fn c₀ cs fun e u' w' => ∃ v g' σ', e = .returned v ∧ Rel κ g' (φ ++ σ') w' ∧ GE g w g' w' ∧ K u' σ')
      ((Act.put ⟨vs ++ Array.replicate (fn.ntmps - vs.size) undef, []⟩ (some t1) v).put (some x) v) ({ c₀ with mode := recM u } :: cs) w := by
    rintro v rfl
    refine wpSIn_of_wpIn rfl ?_
    have hs : SR κ φ g { t := setT (setT (args ++ List.replicate (fn.ntmps - args.length) .any) (some t1) (.raw (recV u))) (some x) (.raw (recV u)), σ := σ } ((Act.put ⟨vs ++ Array.replicate (fn.ntmps - vs.size) undef, []⟩ (some t1) (recV u)).put (some x) (recV u)) w :=
      ⟨[], rfl, fun _ => rfl, hR, TR.put (TR.put hs0 (some t1) (.raw _) []) (some x) (.raw _) []⟩
    refine wpIn_mono (h φ g _ w hs) ?_
    rintro e a' w' ⟨g', s', hs', hge, hq⟩
    obtain ⟨ds, hd, hfr, hR', ht'⟩ := hs'
    have fin : s'.fr = true ∧ s'.df = [] ∧ fn.results.toList = [] ∧ K (recM u) s'.σ → a'.defers = [] ∧ ∃ u', ({ c₀ with mode := recM u } :: cs) = { c₀ with mode := u' } :: cs ∧ ∃ v, (results fn a'.tmps).run P w' = .ok v w' ∧ ∃ v2 g' σ', Ending.returned v = .returned v2 ∧ Rel κ g' (φ ++ σ') w' ∧ GE g w g' w' ∧ K u' σ' := by
      rintro ⟨q1, q2, q3, q4⟩
      have hds := hfr q1
      subst hds
      have hres : fn.results = #[] := by
        have : fn.results = fn.results.toList.toArray := by simp
        rw [this, q3]
      exact ⟨by rw [hd, q2]; rfl, recM u, rfl, .tuple #[], by simp [results, hres], _, g', s'.σ, rfl, hR', hge, q4⟩
    cases e with
    | normal => exact fin hq
    | ret => exact fin hq
    | panic ch => exact hq.elim
    | exit id => exact hq.elim
    | goto id => exact hq.elim
    | outgrown => exact hq.elim
  have hrc := recoverD_cons c₀ cs
  rw [hcu] at hrc
  have hev : ∀ v, (Act.put ⟨vs ++ Array.replicate (fn.ntmps - vs.size) undef, []⟩ (some t1) v).eval (.tmp t1) = v := by
    intro v
    show ((vs ++ Array.replicate (fn.ntmps - vs.size) undef).setIfInBounds t1 v).getD t1 undef = v
    have hsz : t1 < (vs ++ Array.replicate (fn.ntmps - vs.size) undef).size := by
      simp only [Array.size_append, Array.size_replicate]
      rw [hv.size]; exact ht1
    rw [Array.getD_eq_getD_getElem?, Array.getElem?_setIfInBounds]
    simp only [if_true]
    rw [if_pos hsz]; rfl
  show wpOpsSIn Fence.wide 0 P _ _ [0, 1] _ _ _
  have hw1 : ∀ tm, Region.wanted ⟨some t1, .call ⟨.builtin .recover, #[], ts⟩, ty1, p1, af1, none⟩ tm = true := fun _ => rfl
  have hw2 : ∀ tm, Region.wanted ⟨some x, .assign (.tmp t1), ty2, p2, af2, none⟩ tm = true := fun _ => rfl
  have hx1 : ∀ (ρ : Operand → Value) (w : World), (execOp ρ ⟨some t1, .call ⟨.builtin .recover, #[], ts⟩, ty1, p1, af1, none⟩).run P w = .ok .recover w := fun ρ w => by
    simp [execOp, resolve, invoke, builtin]
  have hx2 : ∀ (ρ : Operand → Value) (w : World), (execOp ρ ⟨some x, .assign (.tmp t1), ty2, p2, af2, none⟩).run P w = .ok (.value (ρ (.tmp t1))) w := fun ρ w => by
    simp [execOp]
  simp only [wpOpsSIn, List.getElem?_toArray, List.getElem?_cons_zero, List.getElem?_cons_succ, hw1, hw2, hx1, hx2, if_true]
  refine ⟨fun f' _ => trivial, ?_⟩
  cases hr : recoverD (c₀ :: cs) with
  | none =>
    rw [hr] at hrc
    simp only
    refine ⟨fun f' _ => trivial, ?_⟩
    have h1 := hrest .nilIface hrc.1.symm
    rw [hrc.2] at h1
    rw [hev]
    subst hcu
    exact h1
  | some vc =>
    obtain ⟨v, cs'⟩ := vc
    rw [hr] at hrc
    simp only
    refine ⟨fun f' _ => trivial, ?_⟩
    have h1 := hrest v hrc.1
    rw [hev]
    rw [hrc.2]
    exact h1
end
end Go.Abs
/-
  The abstract layer, part K: what is recovered.
-/


namespace Go.Abs
set_option linter.unusedVariables false
section
variable {κ : Ctx} {P : Program}
abbrev nOp (d : Tmp) (it it2 : TypeId) (x : Operand) (ty : TypeId) (pos : String) (af : Array Edge) : Oper := ⟨some d, .binOp .neq it x (.const .nilIface) it2, ty, pos, af, none⟩
/-- What must hold ahead of a comparison with nil. -/
def nilQ (x : Operand) (d : Tmp) (b : Bool) (Q : Exit → St → Prop) : Exit → St → Prop
  | .normal, s => (∃ v : Value, s.ev x = .raw v ∧ ((v = .nilIface ∧ b = false) ∨ (∃ t u, v = .iface t u ∧ b = true))) ∧ Q .normal { s with t := setT s.t (some d) (B b) }
  | e, s => Q e s
theorem nilQ_n {x : Operand} {d : Tmp} {b : Bool} {Q : Exit → St → Prop} {s : St} : nilQ x d b Q .normal s = ((∃ v : Value, s.ev x = .raw v ∧ ((v = .nilIface ∧ b = false) ∨ (∃ t u, v = .iface t u ∧ b = true))) ∧ Q .normal { s with t := setT s.t (some d) (B b) }) := rfl
theorem AW_nilcmp {id : Nat} {l : List Oper} {x : Operand} {d : Tmp} {it it2 ty : TypeId} {pos : String} {af : Array Edge} {Q : Exit → St → Prop} {s : St} {ms : Array (String × TypeId)} (b : Bool) (hu : P.underlying it = some (.interface ms))
    (h : opsR κ false P (l ++ [nOp d it it2 x ty pos af]) (nilQ x d b Q) l s) : AW κ none P (.region id (l ++ [nOp d it it2 x ty pos af]).toArray false) Q s := by
  intro φ g a w hs
  refine wpIn_region_list ?_
  simp only [List.toList_toArray]
  refine wpListIn_app l a w ?_
  have h1 := opsR_sound (rd := none) (φ := φ) l s g a w h hs (GE.refl g w)
  refine wpListIn_imp ?_ l a w h1
  rintro e a' w' ⟨g', s', hs', hge, hq⟩
  cases e with
  | normal =>
    obtain ⟨⟨v, hev, hv⟩, hq⟩ := hq
    have hx := ev_sound hs'.tr x
    rw [hev] at hx
    have hx' := hx.raw_eq
    show wpListIn _ _ _ _ _ _ _ _
    simp only [wpListIn, Region.wanted, if_true]
    have he : execOp a'.eval (nOp d it it2 x ty pos af) = (do pure (.value (← (do eqGuard .neq it x (.const .nilIface) (a'.eval x) (a'.eval (.const .nilIface)); binOp .neq it (a'.eval x) (a'.eval (.const .nilIface)))))) := rfl
    refine wpIn_does (K := fun y σ' => y = B b ∧ σ' = s'.σ) (by simp) he hs' (fun φ hR => ?_) ?_
    · refine ⟨.bool b, w', g', B b, s'.σ, ?_, hR, GE.refl _ _, .raw _, rfl, rfl⟩
      rw [hx']
      have hc : a'.eval (.const .nilIface) = .nilIface := rfl
      rw [hc]
      rcases hv with ⟨rfl, rfl⟩ | ⟨t, u, rfl, rfl⟩
      · have e1 : (Op.equalIn (9999 + 1) it .nilIface .nilIface).run P w' = .ok true w' := by
          rw [Op.equalIn]; simp [run_und hu]
        simp [eqGuard, binOp, Op.equal, show Op.maxDepth = 9999 + 1 from rfl, e1]
      · have e1 : (Op.equalIn (9999 + 1) it (.iface t u) .nilIface).run P w' = .ok false w' := by
          rw [Op.equalIn]; simp [run_und hu]
        simp [eqGuard, binOp, Op.equal, show Op.maxDepth = 9999 + 1 from rfl, e1]
    · rintro g2 a2 w2 y σ2 hs2 hge2 ⟨rfl, rfl⟩
      exact ⟨g2, _, hs2, hge.trans hge2, hq⟩
  | exit id => exact ⟨g', s', hs', hge, hq⟩
  | goto id => exact ⟨g', s', hs', hge, hq⟩
  | ret => exact ⟨g', s', hs', hge, hq⟩
  | panic c => exact ⟨g', s', hs', hge, hq⟩
  | outgrown => exact ⟨g', s', hs', hge, hq⟩
end
section
variable {κ : Ctx} {P : Program} {all rest : List Oper} {Q : Exit → St → Prop} {d : Option Tmp} {t : List AV} {σ : List Res} {fr : Bool} {df : List Deferred}
/-- A struct of one value that is taken out of an interface value. -/
theorem y_assert1 {xt at_ : TypeId} {v : Value} [h : TStruct P at_] (hK : goK κ false P all Q d rest ⟨t, σ, fr, df⟩ (.tup [.agg [.raw v], B true]) σ) : actC κ false P all Q d rest ⟨t, σ, fr, df⟩ (.typeAssert xt at_ true) [.raw (.iface at_ (.agg #[v]))] := by
  refine actC_mk ?_
  intro φ g w vs hR hvs
  obtain ⟨u, rfl, hu⟩ := one_vs hvs
  cases hu.raw_eq
  refine ⟨.tuple #[.agg #[v], .bool true], w, g, _, σ, ?_, hR, GE.refl _ _, ?_, hK⟩
  · show (Instr.typeAssert (.iface at_ (.agg #[v])) xt at_ true).run P w = _
    simp [Instr.typeAssert, run_und h.st.choose_spec]
  · have h4 := TR.two (g := g) (w := w) (x := .agg [.raw v]) (y := B true) (v := .agg #[v]) (u := .bool true) (.agg _ rfl (fun k y hy => by
      cases k with
      | zero => cases hy; exact .raw _
      | succ k => simp at hy)) (.raw _)
    exact .tup _ h4.size h4.get
end
end Go.Abs
/-
  Walks: chapter 13, a run: what is panicked with is recovered.
-/


namespace Go.Proofs.YtgoofaeifbfblaaGreat
open Go.Abs
set_option linter.unusedVariables false
set_option linter.unusedSimpArgs false
variable {κ : Ctx} {σ : List Res} {K : Ret → List Res → Prop} {o o' : Option (Option (Nat × Nat))}
set_option maxHeartbeats 8000000 in
theorem jRec0 {b4 b5 : Nat} {KD : FrameMode → List Res → Prop} (hK : KD .returning σ) : ACallD κ Tryz.prog 53 [.raw (.pointer (some ⟨b4, 0, none⟩)), .raw (.pointer (some ⟨b5, 0, none⟩))] σ .returning KD := by
  refine ACallD_intro Tryz.func53 rfl ?_ (by simp [Tryz.ntmps53])
  simp only [Tryz.ntmps53]
  repeat' (first | with_reducible refine cut_at (id := 1) ?_ | simp only [WL, WM, Nat.reduceAdd, Nat.reduceSub])
  refine AW_seqA (AW_nilcmp (l := [_]) false Tryz.underlying20 ?_)
  repeat' (first | simp only [WL, WM, and_true, Bool.false_eq_true, nilQ_n])
  refine ⟨⟨.nilIface, rfl, .inl rfl⟩, ?_⟩
  repeat' (first | with_reducible refine AW_runCond ?_ | simp only [WL, WM])
  exact ⟨rfl, rfl, rfl, hK⟩
abbrev panW (e : Int) : FrameMode := .panicking (wrongC e)
set_option maxHeartbeats 8000000 in
theorem jRec1 {b4 b5 : Nat} {e : Int} {KD : FrameMode → List Res → Prop} (hK : ∀ b, KD (recM (panW e)) (.obj b [I e] :: .obj b5 [I e] :: .obj b4 [I 0, I 0] :: σ)) : ACallD κ Tryz.prog 53 [.raw (.pointer (some ⟨b4, 0, none⟩)), .raw (.pointer (some ⟨b5, 0, none⟩))] (.obj b5 [I 0] :: .obj b4 [I 0, I 0] :: σ) (panW e) KD := by
  refine ACallD_intro Tryz.func53 rfl ?_ (by simp [Tryz.ntmps53])
  simp only [Tryz.ntmps53, show recV (panW e) = .iface 108 (.agg #[.int .i64 e]) from rfl]
  repeat' (first | with_reducible refine cut_at (id := 1) ?_ | simp only [WL, WM, Nat.reduceAdd, Nat.reduceSub])
  refine AW_seqA (AW_nilcmp (l := [_]) true Tryz.underlying20 ?_)
  repeat' (first | simp only [WL, WM, reduceCtorEq, and_true, nilQ_n] | with_reducible refine andA (hb := ?_))
  repeat' (first | ( with_reducible refine y_assert1 ?_) | with_reducible refine AW_runCond ?_ | simp only [WL, WM, Nat.reduceAdd, Nat.reduceLT, Nat.reduceEqDiff, Bool.not_true, true_and, T28, fR fl108_0] | (with_reducible first | refine andA (hb := ?_) | refine y_load (hK := ?_) | refine y_store (hK := ?_) | refine y_storeA (hK := ?_) | refine y_new (hK := fun b => ?_) | refine y_build (hK := ?_)) | ((with_reducible refine AW_phS1 (id := 5) [0, 1, 2] (some 3) [([], some 4), ([], none)] mixed ?_ ?_); kernel_rfl) | ((with_reducible apply phE_intro); intro σq hq; have hqi := has_of hq; clear hq) | (with_reducible exact isT_mk) | ((with_reducible apply phC_ops); rfl; rfl) | (with_reducible refine phQ_mk (has1 (by first | (simp; done) | fail)) ?_))
  exact ⟨rfl, rfl, rfl, hK _⟩
def wholeF (ls : List Ln) (n d : Int) (bk : Bool) (p : Int × Int) : NodeR := nodeF ls n d bk 200 0 p
set_option maxHeartbeats 8000000 in
theorem deferQ_n {x : Operand} {f : FuncId} {cap : List Value} {Q : Exit → St → Prop} {s : St} : deferQ x f cap Q .normal s = (s.fr = true ∧ s.ev x = .raw (.func (.func f) #[] cap.toArray) ∧ Q .normal { s with df := dcl f cap :: s.df }) := rfl
set_option maxHeartbeats 8000000 in
theorem jWholeOk {bj : Nat} {ls : List Ln} {n d : Int} {bk : Bool} {p e : Int × Int} {ev : List EvV} {t : Bool} {ρ τ : List Res} [hS : Split σ bj ρ (JC ls n bk d nilS nilS) τ] (hw : wholeF ls n d bk p = .ok (ev, e, t)) (hs : Small ls) (hd : 0 ≤ d ∧ d ≤ 1000000000) (hp : PlW p)
    (h1 : ∀ x' y' τ', JX x' y' [] ev τ' τ → K (.ret (EDA (e, t))) (ρ ++ .obj bj (JC ls n bk d x' y') :: τ')) : ACallF κ Tryz.prog 54 [JP bj, PLA p] σ K := by
  have hJ : JX nilS nilS [] [] τ τ := ⟨[], [], RowR.nil, RowR.nil, List.Perm.refl _⟩
  have hmu := mu_le (p := p) ⟨hp.1, hp.2.2.2⟩
  refine ACallF.at_ (b := bj) (jNodeAll hs hd 200 0 (by decide) (by decide) rfl hJ hp (by rw [List.length_nil]; omega) (fun ev' e' t' h x' y' τ' hJ' => ?_) (fun e' h => ?_))
  · rw [show nodeF ls n d bk 200 0 p = .ok (ev, e, t) from hw] at h
    cases h
    exact h1 _ _ _ hJ'
  · rw [show nodeF ls n d bk 200 0 p = .ok (ev, e, t) from hw] at h
    cases h
set_option maxHeartbeats 8000000 in
theorem jWholeEr {bj : Nat} {ls : List Ln} {n d e : Int} {bk : Bool} {p : Int × Int} {ρ τ : List Res} [hS : Split σ bj ρ (JC ls n bk d nilS nilS) τ] (hw : wholeF ls n d bk p = .error e) (hs : Small ls) (hd : 0 ≤ d ∧ d ≤ 1000000000) (hp : PlW p)
    (h2 : ∀ x' y' op' l' τ', JX x' y' op' l' τ' τ → K (.pan (wrongC e)) (ρ ++ .obj bj (JC ls n bk d x' y') :: τ')) : ACallF κ Tryz.prog 54 [JP bj, PLA p] σ K := by
  have hJ : JX nilS nilS [] [] τ τ := ⟨[], [], RowR.nil, RowR.nil, List.Perm.refl _⟩
  have hmu := mu_le (p := p) ⟨hp.1, hp.2.2.2⟩
  refine ACallF.at_ (b := bj) (jNodeAll hs hd 200 0 (by decide) (by decide) rfl hJ hp (by rw [List.length_nil]; omega) (fun ev' e' t' h x' y' τ' hJ' => ?_) (fun e' h x' y' op' l' τ' hJ' => ?_))
  · rw [show nodeF ls n d bk 200 0 p = .error e from hw] at h
    cases h
  · rw [show nodeF ls n d bk 200 0 p = .error e from hw] at h
    cases h
    exact h2 _ _ _ _ _ hJ'
set_option maxHeartbeats 8000000 in
theorem jRun0 {bj : Nat} {ls : List Ln} {n d : Int} {bk : Bool} {p : Int × Int} {τ : List Res} (hs : Small ls) (hd : 0 ≤ d ∧ d ≤ 1000000000) (hp : PlW p)
    (h1 : ∀ ev e t, wholeF ls n d bk p = .ok (ev, e, t) → ∀ x' y' τ', JX x' y' [] ev τ' τ → K (.ret (.tup [PLA e, I 0])) (.obj bj (JC ls n bk d x' y') :: τ'))
    (h2 : ∀ e, wholeF ls n d bk p = .error e → ∀ x' y' op' l' τ', JX x' y' op' l' τ' τ → K (.ret (.tup [PLA (0, 0), I e])) (.obj bj (JC ls n bk d x' y') :: τ')) : ACallF κ Tryz.prog 35 [JP bj, PLA p] (.obj bj (JC ls n bk d nilS nilS) :: τ) K := by
  have hJ : JX nilS nilS [] [] τ τ := ⟨[], [], RowR.nil, RowR.nil, List.Perm.refl _⟩
  have hmu := mu_le (p := p) ⟨hp.1, hp.2.2.2⟩
  refine ACallF.dropL (ACallF_introD (cap := fun _ => True) (fd := 53) Tryz.func35 rfl cok53 ?_)
  simp only [Tryz.ntmps35]
  repeat' (first | (with_reducible first | refine cut_at (id := 1) ?_ | refine AW_seq ?_) | simp only [WL, WM, Nat.reduceAdd, Nat.reduceSub] | (with_reducible first | refine y_box (hK := fun b => ?_) | refine y_new (hK := fun b => ?_)))
  rename_i b3 b4
  refine midA (fun _ : Unit => ⟨(JP bj :: PLA p :: .any :: JP b3 :: JP b4 :: JP b :: .any :: .any :: .any :: .any :: .any :: []), .obj b [I 0] :: .obj b4 [I 0, I 0] :: .obj b3 [I p.1, I p.2] :: .obj bj (JC ls n bk d nilS nilS) :: τ, true, [dcl 53 [.pointer (some ⟨b4, 0, none⟩), .pointer (some ⟨b, 0, none⟩)]]⟩) (fun _ => True) ?_ ?_
  · refine AW_defer (l := [_]) 53 [.pointer (some ⟨b4, 0, none⟩), .pointer (some ⟨b, 0, none⟩)] ?_
    repeat' (first | simp only [WL, WM, true_and, and_true, deferQ_n])
    exact ⟨(), St_le_same (by repeat (first | exact trivial | refine ⟨le_rfl, ?_⟩ | refine ⟨le_any, ?_⟩ | refine ⟨le_ro, ?_⟩ | refine ⟨le_nil (by decide), ?_⟩ | refine ⟨le_wrap (by omega) (by omega) (by omega), ?_⟩ | refine ⟨le_int (by omega), ?_⟩ | refine ⟨le_eq (by simp), ?_⟩)) id⟩
  · intro _ _
    cases hw : wholeF ls n d bk p with
    | error e =>
      repeat' (first | with_reducible refine AW_seq ?_ | simp only [WL, WM, true_and, cok54] | (with_reducible first | refine y_loadA (hK := ?_) | refine cD (jWholeEr hw hs hd hp (fun x' y' op' l' τ' hJ' => ?_))))
      refine ⟨[.pointer (some ⟨b4, 0, none⟩), .pointer (some ⟨b, 0, none⟩)], rfl, rfl, jRec1 (fun bx => ⟨rfl, ?_⟩)⟩
      rw [resK_eq]
      repeat' (first | simp only [WM, Tryz.results35] | ((with_reducible refine resL_id ?_); apply res_cc (hf := Tryz.results35); exact y_load2; exact y_load1))
      exact leafL (by repeat (first | exact sub_rfl | refine sub_cons ?_)) (leT_eq rfl) (h2 _ hw _ _ _ _ _ hJ')
    | ok r =>
      obtain ⟨ev, e, t⟩ := r
      repeat' (first | (with_reducible first | refine AW_seq ?_ | refine AW_runRet ?_) | simp only [WL, WM, Nat.reduceAdd, true_and, fA fl111_0 ag67 sz67, cok54] | (with_reducible first | refine y_loadA (hK := ?_) | refine y_store (hK := ?_) | refine y_storeA (hK := ?_) | refine cD (jWholeOk hw hs hd hp (fun x' y' τ' hJ' => ?_))))
      refine ⟨[.pointer (some ⟨b4, 0, none⟩), .pointer (some ⟨b, 0, none⟩)], rfl, rfl, jRec0 ⟨rfl, ?_⟩⟩
      rw [resK_eq]
      repeat' (first | simp only [WM, Tryz.results35] | ((with_reducible refine resL_id ?_); apply res_cc (hf := Tryz.results35); exact y_load2; exact y_load1))
      exact leafL (by repeat (first | exact sub_rfl | refine sub_cons ?_)) (leT_eq rfl) (h1 _ _ _ hw _ _ _ hJ')
def ErrN (N : Int × Int → NodeR) : Prop := ∀ p e, N p = .error e → ¬ e = 0
set_option maxHeartbeats 8000000 in
theorem must_err {ls : List Ln} {n e : Int} {p : Int × Int} (h : mustF ls n p = .error e) : ¬ e = 0 := by
  unfold mustF at h
  split at h <;> first | (cases h; done) | (cases h; decide)
set_option maxHeartbeats 8000000 in
theorem value_err {ls : List Ln} {n e : Int} {N : Int × Int → NodeR} {key : (Int × Int) × Bool} {c : Int} (hN : ErrN N) (h : valueF ls n N key c = .error e) : ¬ e = 0 := by
  unfold valueF at h
  split at h
  · rename_i hm; cases h; exact must_err hm
  · split at h
    · cases h
    · split at h
      · rename_i hm; cases h; exact must_err hm
      · split at h
        · cases h
        · split at h
          · rename_i hn; cases h; exact hN _ _ hn
          · cases h
set_option maxHeartbeats 8000000 in
theorem asked_err {ls : List Ln} {n e : Int} {N : Int × Int → NodeR} {p : Int × Int} {c : Int} (hN : ErrN N) (h : askedF ls n N p c = .error e) : ¬ e = 0 := by
  unfold askedF at h
  split at h
  · rename_i hm; cases h; exact must_err hm
  · split at h
    · cases h
    · exact hN _ _ h
set_option maxHeartbeats 8000000 in
theorem keyed_err {ls : List Ln} {n e c : Int} {N : Int × Int → NodeR} {r : NodeR} (hN : ErrN N) (hr : ∀ e, r = .error e → ¬ e = 0) (h : keyedF ls n N r c = .error e) : ¬ e = 0 := by
  unfold keyedF at h
  split at h
  · cases h; exact hr _ rfl
  · split at h
    · rename_i hv; cases h; exact value_err hN hv
    · cases h
set_option maxHeartbeats 8000000 in
theorem pair_err {ls : List Ln} {n e : Int} {N : Int × Int → NodeR} {p : Int × Int} (hN : ErrN N) (h : pairF ls n N p = .error e) : ¬ e = 0 := by
  unfold pairF at h
  split at h
  · exact keyed_err hN (fun e h => asked_err hN h) h
  · exact keyed_err hN (fun e h => hN _ _ h) h
set_option maxHeartbeats 8000000 in
theorem wrap_err {r : PartR} {e : Int} (h : wrapF r = .error e) : r = .error e := by
  unfold wrapF at h
  split at h
  · cases h; rfl
  · cases h
set_option maxHeartbeats 8000000 in
theorem item_err {ls : List Ln} {n d e : Int} {k : Nat} {N N1 : Int × Int → NodeR} {p : Int × Int} (hN : ErrN N) (hN1 : ErrN N1) (h : itemF ls n d k N N1 p = .error e) : ¬ e = 0 := by
  unfold itemF at h
  split at h
  · split at h
    · cases h; decide
    · exact keyed_err hN1 (fun e h => asked_err hN1 h) (wrap_err h)
  · split at h
    · rename_i hn; cases h; exact hN _ _ hn
    · split at h
      · rename_i hm; cases h; exact must_err hm
      · split at h
        · cases h
        · split at h
          · cases h; decide
          · exact keyed_err hN1 (fun e h => by cases h) (wrap_err h)
set_option maxHeartbeats 8000000 in
theorem entries_err {ls : List Ln} {n c : Int} {E : Int × Int → PartR} (hE : ∀ p e, E p = .error e → ¬ e = 0) : ∀ {f : Nat} {q : Int × Int} {acc : List EvV} {e : Int}, entriesF ls n E c f q acc = .error e → ¬ e = 0
  | 0, _, _, _, h => by cases h; decide
  | f + 1, q, acc, e, h => by
    unfold entriesF at h
    split at h
    · cases h
    · split at h
      · rename_i he; cases h; exact hE _ _ he
      · split at h
        · rename_i hm; cases h; exact must_err hm
        · split at h
          · split at h
            · cases h
            · cases h; decide
          · split at h
            · rename_i hm; cases h; exact must_err hm
            · exact entries_err hE h
set_option maxHeartbeats 8000000 in
theorem coll_err {ls : List Ln} {n d c e : Int} {k : Nat} {N : Nat → Int × Int → NodeR} {v : TrV} {p : Int × Int} (hN : ∀ k, ErrN (N k)) (h : collF ls n d k N p c v = .error e) : ¬ e = 0 := by
  unfold collF at h
  split at h
  · cases h; decide
  · split at h
    · rename_i hm; cases h; exact must_err hm
    · split at h
      · rename_i he
        cases h
        refine entries_err (fun p e h => ?_) he
        split at h
        · exact pair_err (hN _) h
        · exact item_err (hN _) (hN _) h
      · cases h
set_option maxHeartbeats 8000000 in
theorem traitsG_err {ls : List Ln} {n : Int} : ∀ {f : Nat} {v : TrV} {q : Int × Int} {ok : Bool} {e : Int}, traitsG ls n f v q ok = .error e → ¬ e = 0
  | 0, v, q, false, e, h => by cases h
  | f + 1, v, q, false, e, h => by cases h
  | 0, v, q, true, e, h => by
    unfold traitsG at h
    split at h <;> first | (cases h; done) | (cases h; decide)
  | f + 1, v, q, true, e, h => by
    unfold traitsG at h
    split at h
    · cases h; decide
    · cases h
    · split at h
      · cases h; decide
      · exact traitsG_err h
      · exact traitsG_err h
set_option maxHeartbeats 8000000 in
theorem quotedN_err {ls : List Ln} {n c : Int} : ∀ {f : Nat} {p : Int × Int} {l : List Int} {all : List (List Int)} {e : Int}, quotedN ls n c f p l all = .error e → ¬ e = 0
  | f, p, l, all, e, h => by
    rw [quotedN_eq] at h
    split at h
    · cases h
    · split at h
      · cases h; decide
      · split at h
        · cases h; decide
        · cases f with
          | zero => cases h; decide
          | succ f => exact quotedN_err h
set_option maxHeartbeats 8000000 in
theorem quoted_err {ls : List Ln} {n c e : Int} {q : Int × Int} (h : quotedF ls n c q = .error e) : ¬ e = 0 := by
  unfold quotedF at h
  split at h
  · rename_i hq; cases h; exact quotedN_err hq
  · split at h
    · split at h
      · cases h
      · rename_i hr; cases h; exact hr
    · cases h
set_option maxHeartbeats 8000000 in
theorem plainN_err {ls : List Ln} {n : Int} {ib : Bool} : ∀ {f : Nat} {p : Int × Int} {l : List Int} {all : List (List Int)} {e : Int}, plainN ls n ib f p l all = .error e → ¬ e = 0
  | f, p, l, all, e, h => by
    rw [plainN_eq] at h
    split at h
    · cases h; decide
    · split at h
      · cases f with
        | zero => cases h; decide
        | succ f => exact plainN_err h
      · cases h
set_option maxHeartbeats 8000000 in
theorem node_err {ls : List Ln} {n d : Int} {bk : Bool} {k : Nat} {N : Nat → Int × Int → NodeR} (hN : ∀ k, ErrN (N k)) : ErrN (nodeS ls n d bk N k) := by
  intro p e h
  unfold nodeS at h
  split at h
  · rename_i ht
    cases h
    unfold traitsF at ht
    split at ht
    · cases ht; decide
    · cases ht
    · exact traitsG_err ht
  · rename_i v q ok ht
    generalize (if ok = true then restF ls q else []) = X at h
    unfold bodyF at h
    split at h
    · split at h
      · cases h; decide
      · split at h
        · cases h
        · cases h; decide
    · split at h
      · split at h
        · rename_i hq; cases h; exact quoted_err hq
        · cases h
      · split at h
        · split at h
          · rename_i hq; cases h; exact coll_err hN hq
          · cases h
        · split at h
          · split at h
            · rename_i hq
              cases h
              unfold plainF at hq
              split at hq
              · rename_i hp; cases hq; exact plainN_err hp
              · cases hq
            · cases h
          · split at h
            · cases h
            · cases h; decide
set_option maxHeartbeats 8000000 in
theorem nodeF_err {ls : List Ln} {n d : Int} {bk : Bool} : ∀ f k, ErrN (nodeF ls n d bk f k)
  | 0, k => node_err (fun k p e h => by cases h; decide)
  | f + 1, k => node_err (fun k => nodeF_err f k)
set_option maxHeartbeats 8000000 in
theorem whole_err {ls : List Ln} {n d e : Int} {bk : Bool} {p : Int × Int} (h : wholeF ls n d bk p = .error e) : ¬ e = 0 := nodeF_err 200 0 p e h
set_option maxHeartbeats 8000000 in
theorem jTold0 {bj : Nat} {ls : List Ln} {n d : Int} {bk : Bool} {p : Int × Int} {τ : List Res} (hs : Small ls) (hd : 0 ≤ d ∧ d ≤ 1000000000) (hp64 : In64 p.1 ∧ In64 p.2)
    (h0 : (p.1 < 0 ∨ (ls.length : Int) ≤ p.1 ∨ p.2 < 0) → K (.ret (.tup [nilS, I 0, I 0, I 2])) (.obj bj (JC ls n bk d nilS nilS) :: τ))
    (h1 : ∀ ev e t, PlW p → wholeF ls n d bk p = .ok (ev, e, t) → ∀ x' y' τ', JX x' y' [] ev τ' τ → K (.ret (.tup [y', I e.1, I e.2, I 0])) (.obj bj (JC ls n bk d x' y') :: τ'))
    (h2 : ∀ e, PlW p → wholeF ls n d bk p = .error e → ∀ x' y' op' l' τ', JX x' y' op' l' τ' τ → K (.ret (.tup [nilS, I 0, I 0, I e])) (.obj bj (JC ls n bk d x' y') :: τ')) : ACallF κ Tryz.prog 27 [JP bj, PLA p] (.obj bj (JC ls n bk d nilS nilS) :: τ) K := by
  have hl := hs.1
  by_cases hc : p.1 < 0 ∨ (ls.length : Int) ≤ p.1 ∨ p.2 < 0
  · skip
    refine ACallF.dropL (ACallF_intro Tryz.func27 rfl ?_)
    simp only [Tryz.ntmps27]
    repeat' (first | simp only [WL, intF, WM, reduceCtorEq, WLb, Nat.reduceAdd, Nat.reduceSub, Nat.reduceEqDiff, Bool.not_false, true_and, reduceIte, Bool.false_eq_true, T3, T22, fR fl64_0, fR fl67_0, fR fl67_1, cok35, Tryz.results27] | (with_reducible first | refine andA (hb := ?_) | refine y_load (hK := ?_) | refine y_loadA (hK := ?_) | refine y_box (hK := fun b => ?_)) | ((with_reducible refine AW_drawM (id := 1) 18 mixed ?_ ?_); kernel_rfl) | (with_reducible refine dmQ_mk ?_) | ((with_reducible first | refine grd_cases (fun h => ?_) (fun h => ?_) | refine condC_split (fun h => ?_) (fun h => ?_)) <;> (try simp only [h]) <;> (try simp only [NR_, NRb] at h)) | omega)
    all_goals first
      | exact leafL (by repeat (first | exact sub_rfl | refine sub_cons ?_)) (leT_eq rfl) (h0 hc)
      | (exfalso; omega)
      | trace_state
  · have hp : PlW p := ⟨by omega, by omega, hp64.2, by omega⟩
    cases hw : wholeF ls n d bk p with
    | error e =>
      have he := whole_err hw
      refine ACallF.dropL (ACallF_intro Tryz.func27 rfl ?_)
      simp only [Tryz.ntmps27]
      repeat' (first | simp only [WL, intF, WM, reduceCtorEq, WLb, Nat.reduceAdd, Nat.reduceSub, Nat.reduceLT, Nat.reduceEqDiff, Bool.not_false, true_and, reduceIte, Bool.false_eq_true, T3, T22, T27, fR fl64_0, fR fl64_5, fR fl67_0, fR fl67_1, cok35, Tryz.results27] | (with_reducible first | refine andA (hb := ?_) | refine y_load (hK := ?_) | refine y_loadA (hK := ?_) | refine y_storeA (hK := ?_) | refine y_box (hK := fun b => ?_) | refine y_new (hK := fun b => ?_) | refine callD_mk (ACallF.at_ (b := bj) (jRun0 (bk := bk) hs hd hp (fun ev e' t h => by rw [hw] at h; cases h) (fun e' he' x' y' op' l' τ' hJ' => ?_)))) | ((with_reducible refine AW_drawM (id := 1) 18 mixed ?_ ?_); kernel_rfl) | ((with_reducible refine AW_drawM (id := 6) 12 mixed ?_ ?_); kernel_rfl) | (with_reducible refine dmQ_mk ?_) | ((with_reducible first | refine grd_cases (fun h => ?_) (fun h => ?_) | refine condC_split (fun h => ?_) (fun h => ?_)) <;> (try simp only [h]) <;> (try simp only [NR_, NRb] at h)) | omega)
      all_goals first
        | exact leafL (by repeat (first | exact sub_rfl | refine sub_cons ?_)) (leT_eq rfl) (h2 _ hp he' _ _ _ _ _ hJ')
        | exact absurd (by assumption) (whole_err he')
    | ok r =>
      obtain ⟨ev, e, t⟩ := r
      refine ACallF.dropL (ACallF_intro Tryz.func27 rfl ?_)
      simp only [Tryz.ntmps27]
      repeat' (first | simp only [WL, intF, WM, reduceCtorEq, WLb, Nat.reduceAdd, Nat.reduceSub, Nat.reduceLT, Nat.reduceEqDiff, Bool.not_false, true_and, reduceIte, Bool.false_eq_true, T3, T22, T27, fR fl64_0, fR fl64_5, fR fl67_0, fR fl67_1, cok35, Tryz.results27] | (with_reducible first | refine andA (hb := ?_) | refine y_load (hK := ?_) | refine y_loadA (hK := ?_) | refine y_storeA (hK := ?_) | refine y_box (hK := fun b => ?_) | refine y_new (hK := fun b => ?_) | refine callD_mk (ACallF.at_ (b := bj) (jRun0 (bk := bk) hs hd hp (fun ev' e' t' hw' x' y' τ' hJ' => ?_) (fun e' h => by rw [hw] at h; cases h)))) | ((with_reducible refine AW_drawM (id := 1) 18 mixed ?_ ?_); kernel_rfl) | ((with_reducible refine AW_drawM (id := 6) 12 mixed ?_ ?_); kernel_rfl) | (with_reducible refine dmQ_mk ?_) | ((with_reducible first | refine grd_cases (fun h => ?_) (fun h => ?_) | refine condC_split (fun h => ?_) (fun h => ?_)) <;> (try simp only [h]) <;> (try simp only [NR_, NRb] at h)) | omega)
      all_goals first
        | exact leafL (by repeat (first | exact sub_rfl | refine sub_cons ?_)) (leT_eq rfl) (h1 _ _ _ hp hw' _ _ _ hJ')
        | exact absurd trivial (by assumption)
set_option maxHeartbeats 8000000 in
theorem jShift1 {x : Ln} (hK : K (.ret (B (decide (x.1 < 0)))) σ) : ACallF κ Tryz.prog 42 [LN x] σ K := by
  refine ACallF.dropL (ACallF_intro Tryz.func42 rfl ?_)
  simp only [Tryz.ntmps42]
  repeat' (first | simp only [WL, intF, WM, reduceCtorEq, WLb, Nat.reduceAdd, Nat.reduceSub, Nat.reduceEqDiff, true_and, T3, fR fl52_0, Tryz.results42] | (with_reducible first | refine andA (hb := ?_) | refine y_load (hK := ?_) | refine y_box (hK := fun b => ?_)))
  exact leafL (sub_cons sub_rfl) (leT_eq rfl) hK
set_option maxHeartbeats 8000000 in
theorem jIndexF {ls : List Ln} (hl : ls.length ≤ 1000000000) (h0 : ∀ x ∈ ls, 0 ≤ x.1) (hK : K (.ret (I (-1))) σ) : ACallF κ Tryz.prog 66 [SL o ls, .raw (.func (.func 42) #[] #[])] σ K := by
  have hll : (ls.map LN).length = ls.length := List.length_map _
  refine ACallF.dropL (ACallF_intro Tryz.func66 rfl ?_)
  simp only [Tryz.ntmps66]
  repeat' (first | simp only [WL, WM, Nat.reduceAdd, Nat.reduceSub, true_and, T22])
  refine loop_by (fun k : Nat => ⟨(SL o ls :: .raw (.func (.func 42) #[] #[]) :: .any :: .any :: .any :: .any :: SL o ls :: I ls.length :: I k :: .any :: .any :: .any :: .any :: .any :: .any :: .any :: .any :: .any :: .any :: []), σ, true, []⟩) (fun k => k ≤ ls.length) (fun k => ls.length - k) 0 (St_le_same (by repeat (first | exact trivial | refine ⟨le_rfl, ?_⟩ | refine ⟨le_any, ?_⟩ | refine ⟨le_ro, ?_⟩ | refine ⟨le_nil (by decide), ?_⟩ | refine ⟨le_wrap (by omega) (by omega) (by omega), ?_⟩ | refine ⟨le_int (by omega), ?_⟩ | refine ⟨le_eq (by simp), ?_⟩)) id) (Nat.zero_le _) ?_
  intro k hk
  rcases Nat.lt_or_ge k ls.length with hi | hi
  · have hx : ¬ (ls.getD k (0, [])).1 < 0 := by
      have := h0 (ls.getD k (0, [])) (by rw [List.getD_eq_getElem?_getD, List.getElem?_eq_getElem hi]; exact List.getElem_mem hi)
      omega
    repeat' (first | simp only [WL, intF, WM, reduceCtorEq, WLb, Nat.reduceAdd, true_and, T22, T52, Tryz.results66, decide_eq_false hx, cok42] | simp (disch := first | omega | (simp only [LN_]; omega)) only [wrap_id, getL] | (with_reducible first | refine andA (hb := ?_) | refine callD_mk (jShift1 (x := ls.getD k (0, [])) ?_)) | ((with_reducible first | refine grd_cases (fun h => ?_) (fun h => ?_) | refine condC_split (fun h => ?_) (fun h => ?_)) <;> (try simp only [h]) <;> (try simp only [NR_, NRb] at h)) | omega)
    exact ⟨k + 1, St_le_same (by repeat (first | exact trivial | refine ⟨le_rfl, ?_⟩ | refine ⟨le_any, ?_⟩ | refine ⟨le_ro, ?_⟩ | refine ⟨le_nil (by decide), ?_⟩ | refine ⟨le_wrap (by omega) (by omega) (by omega), ?_⟩ | refine ⟨le_int (by omega), ?_⟩ | refine ⟨le_eq (by simp), ?_⟩)) id, by omega, by omega⟩
  · skip
    repeat' (first | simp only [WL, intF, WM, ne_eq, reduceCtorEq, not_false_eq_true, true_and, T22, T52, Tryz.results66] | with_reducible refine andA (hb := ?_) | ((with_reducible first | refine grd_cases (fun h => ?_) (fun h => ?_) | refine condC_split (fun h => ?_) (fun h => ?_)) <;> (try simp only [h]) <;> (try simp only [NR_, NRb] at h)) | omega)
    exact leafL sub_rfl (leT_eq rfl) hK
set_option maxHeartbeats 8000000 in
theorem jContainsF {ls : List Ln} (hl : ls.length ≤ 1000000000) (h0 : ∀ x ∈ ls, 0 ≤ x.1) (hK : K (.ret (B false)) σ) : ACallF κ Tryz.prog 41 [SL o ls, .raw (.func (.func 42) #[] #[])] σ K := by
  refine ACallF.dropL (ACallF_intro Tryz.func41 rfl ?_)
  simp only [Tryz.ntmps41]
  repeat' (first | simp only [WL, intF, WM, reduceCtorEq, WLb, Nat.reduceAdd, Nat.reduceSub, true_and, cok66, Tryz.results41] | with_reducible refine callD_mk (jIndexF hl h0 ?_))
  exact leafL sub_rfl (leT_eq rfl) hK
set_option maxHeartbeats 8000000 in
theorem jShifted {ls : List Ln} (hl : ls.length ≤ 1000000000) (h0 : ∀ x ∈ ls, 0 ≤ x.1) (hK : K (.ret (SL o ls)) σ) : ACallF κ Tryz.prog 26 [SL o ls] σ K := by
  refine ACallF.dropL (ACallF_intro Tryz.func26 rfl ?_)
  simp only [Tryz.ntmps26]
  repeat' (first | simp only [WL, WM, Nat.reduceAdd, Nat.reduceSub, Bool.not_false, true_and, cok41, Tryz.results26] | with_reducible refine callD_mk (jContainsF hl h0 ?_))
  exact leafL sub_rfl (leT_eq rfl) hK
set_option maxHeartbeats 8000000 in
theorem jNew {ls : List Ln} (hl : ls.length ≤ 1000000000) (h0 : ∀ x ∈ ls, 0 ≤ x.1) (hK : ∀ b, K (.ret (JP b)) (.obj b [SL none ls] :: σ)) : ACallF κ Tryz.prog 14 [SL none ls] σ K := by
  refine ACallF.dropL (ACallF_intro Tryz.func14 rfl ?_)
  simp only [Tryz.ntmps14]
  repeat' (first | simp only [WL, WM, Nat.reduceAdd, Nat.reduceSub, true_and, cok26, Tryz.results14] | (with_reducible first | refine y_box (hK := fun b => ?_) | refine y_build (hK := ?_) | refine callD_mk (jShifted hl h0 ?_)))
  exact leafL sub_rfl (leT_eq rfl) (hK _)
set_option maxHeartbeats 8000000 in
theorem jNodeR {br ix : Nat} {ls : List Ln} {i k n d : Int} [hR : Hold σ br ix [SL none ls]] (hs : Small ls) (hd : 0 ≤ d ∧ d ≤ 1000000000) (hp64 : In64 i ∧ In64 k) (hn : In64 n)
    (h0 : ∀ bj, (i < 0 ∨ (ls.length : Int) ≤ i ∨ k < 0) → K (.ret (.tup [nilS, I 0, I 0, I 2])) (.obj bj (JC ls n false d nilS nilS) :: σ))
    (h1 : ∀ ev e t, wholeF ls n d false (i, k) = .ok (ev, e, t) → ∀ bj x' y' τ', JX x' y' [] ev τ' σ → K (.ret (.tup [y', I e.1, I e.2, I 0])) (.obj bj (JC ls n false d x' y') :: τ'))
    (h2 : ∀ e, wholeF ls n d false (i, k) = .error e → ∀ bj x' y' op' l' τ', JX x' y' op' l' τ' σ → K (.ret (.tup [nilS, I 0, I 0, I e])) (.obj bj (JC ls n false d x' y') :: τ')) : ACallF κ Tryz.prog 15 [JP br, I i, I k, I n, I d] σ K := by
  refine ACallF.dropL (ACallF_intro Tryz.func15 rfl ?_)
  simp only [Tryz.ntmps15]
  repeat' (first | simp only [WL, WM, Nat.reduceAdd, Nat.reduceSub, Nat.reduceLT, Nat.reduceEqDiff, true_and, T22, fR fl59_0, cok27, Tryz.results15] | (with_reducible first | refine andA (hb := ?_) | refine y_load (hK := ?_) | refine y_box (hK := fun b => ?_) | refine y_build (hK := ?_) | refine callD_mk (jTold0 (p := (i, k)) hs hd hp64 (fun hc => ?_) (fun ev e t hp hw x' y' τ' hJ' => ?_) (fun e hp hw x' y' op' l' τ' hJ' => ?_))))
  · exact leafL sub_rfl (leT_eq rfl) (h0 _ hc)
  · exact leafL sub_rfl (leT_eq rfl) (h1 _ _ _ hw _ _ _ _ hJ')
  · exact leafL sub_rfl (leT_eq rfl) (h2 _ hw _ _ _ _ _ _ hJ')


set_option maxHeartbeats 4000000 in
theorem rline {l : List Int} (hl : l.length ≤ 1000000000) (hK : K (.ret (LN (lineOf l))) σ) : ACallF κ Tryz.prog 52 [SI o l] σ K := by
  refine ACallF.dropL (ACallF_intro Tryz.func52 rfl ?_)
  simp only [Tryz.ntmps52]
  repeat' (first | simp only [WL, WM, Nat.reduceAdd, Nat.reduceSub] | with_reducible refine y_new (hK := fun b => ?_))
  refine loop_by (fun k : Nat => ⟨(SI o l :: .any :: .raw (.pointer (some ⟨b, 0, none⟩)) :: I k :: .any :: .any :: .any :: .any :: .any :: .any :: .any :: .any :: .any :: .any :: .any :: .any :: .any :: .any :: .any :: .any :: .any :: .any :: .any :: []), .obj b [I 0, nilS] :: σ, true, []⟩) (fun k => k ≤ (l.takeWhile (· == 32)).length) (fun k => l.length - k) 0 (St_le_same (by repeat (first | exact trivial | refine ⟨le_rfl, ?_⟩ | refine ⟨le_any, ?_⟩ | refine ⟨le_ro, ?_⟩ | refine ⟨le_nil (by decide), ?_⟩ | refine ⟨le_wrap (by omega) (by omega) (by omega), ?_⟩ | refine ⟨le_int (by omega), ?_⟩ | refine ⟨le_eq (by simp), ?_⟩)) id) (Nat.zero_le _) (fun k hk => ?_)
  have hk2 := (List.takeWhile_prefix (· == 32) (l := l)).length_le
  repeat' (first | simp only [WL, intF, WM, reduceCtorEq, WLb, Nat.reduceAdd, Bool.not_true, true_and, reduceIte, Bool.false_eq_true, T3, T39, Tryz.results52] | simp (disch := first | omega | (simp only [LN_]; omega)) only [wrap_id, getI] | (with_reducible first | refine andA (hb := ?_) | refine y_storeA (hK := ?_) | refine y_appN ?_ | refine y_app (hlen := ?_) (hmax := ?_) (hK := fun tk => ?_) | refine y_build (hK := ?_)) | ((with_reducible refine resL_id ?_); apply res_c (hf := Tryz.results52); exact y_load2) | ((with_reducible first | refine grd_cases (fun h => ?_) (fun h => ?_) | refine condC_split (fun h => ?_) (fun h => ?_)) <;> (try simp only [h]) <;> (try simp only [NR_, NRb] at h)) | (simp only [LN_]; omega) | (refine maxLen_ok ?_; (first | omega | (simp only [LN_]; omega))))
  · exact ⟨k + 1, St_le_same (by repeat (first | exact trivial | refine ⟨le_rfl, ?_⟩ | refine ⟨le_any, ?_⟩ | refine ⟨le_ro, ?_⟩ | refine ⟨le_nil (by decide), ?_⟩ | refine ⟨le_wrap (by omega) (by omega) (by omega), ?_⟩ | refine ⟨le_int (by omega), ?_⟩ | refine ⟨le_eq (by simp), ?_⟩)) id, tw_step hk (by omega) (by simpa using h), by omega⟩
  all_goals
    obtain rfl : k = (l.takeWhile (· == 32)).length := by first | exact tw_stop hk (by omega) (by simpa using h) | exact tw_end hk (by omega)
    exact leafL (sub_cons (sub_cons sub_rfl)) (leT_agg (leL_two le_rfl (by rw [tw_dw]; exact le_ro))) hK
set_option maxHeartbeats 4000000 in
theorem rLinesO {l : List Int} (hl : l.length ≤ 1000000000) (hK : ∀ tk, K (.ret (.tup [SL (some tk) (readR l).1, I (readR l).2])) (.tip tk :: σ)) : ACallF κ Tryz.prog 31 [SI o l] σ K := by
  refine ACallF.weak ResW.void ?_
  refine ACallF.dropL (ACallF_intro Tryz.func31 rfl ?_)
  simp only [Tryz.ntmps31]
  repeat' (first | simp only [WL, WM, Nat.reduceAdd, Nat.reduceSub])
  refine loop_by (fun k : Nat => ⟨(SI o l :: .any :: .any :: .any :: nilS :: I 0 :: I k :: .any :: .any :: .any :: .any :: .any :: .any :: .any :: .any :: .any :: .any :: .any :: .any :: .any :: .any :: .any :: .any :: .any :: .any :: .any :: .any :: .any :: .any :: .any :: .any :: .any :: .any :: .any :: .any :: .any :: .any :: .any :: .any :: .any :: .any :: .any :: .any :: .any :: .any :: .any :: .any :: .any :: .any :: .any :: .any :: .any :: .any :: .any :: .any :: .any :: .any :: .any :: .any :: .any :: .any :: .any :: .any :: .any :: .any :: .any :: .any :: .any :: .any :: .any :: .any :: .any :: .any :: .any :: .any :: .any :: .any :: .any :: .any :: .any :: .any :: .any :: .any :: .any :: .any :: .any :: .any :: .any :: .any :: []), .tip none :: σ, true, []⟩) (fun k => k ≤ l.length ∧ ∀ j, j < k → goodC (l.getD j 0) = true) (fun k => l.length - k) 0 (St_le_same (by repeat (first | exact trivial | refine ⟨le_rfl, ?_⟩ | refine ⟨le_any, ?_⟩ | refine ⟨le_ro, ?_⟩ | refine ⟨le_nil (by decide), ?_⟩ | refine ⟨le_wrap (by omega) (by omega) (by omega), ?_⟩ | refine ⟨le_int (by omega), ?_⟩ | refine ⟨le_eq (by simp), ?_⟩)) id) ⟨Nat.zero_le _, fun j h => by omega⟩ ?_
  rintro k ⟨hk, hb⟩
  repeat' (first | simp only [WL, intF, WM, reduceCtorEq, WLb, Nat.reduceAdd, Bool.not_false, true_and, reduceIte, Bool.false_eq_true, T3, T39, cok40, Tryz.results31] | simp (disch := first | omega | (simp only [LN_]; omega)) only [wrap_id, getI] | (with_reducible first | refine andA (hb := ?_) | refine cD (rPrint ?_)) | ((with_reducible first | refine grd_cases (fun h => ?_) (fun h => ?_) | refine condC_split (fun h => ?_) (fun h => ?_)) <;> (try simp only [h]) <;> (try simp only [NR_, NRb] at h)))
  · have hK0 := hK none
    rw [readR_bad (k := k) (by omega) (goodC_no (by first | exact .inl (by assumption) | exact .inr (by assumption)))] at hK0
    exact leafL sub_rfl (leT_tup (leL_two (.inr (.inr (.inr ⟨2, _, rfl, by decide, rfl⟩))) le_rfl)) hK0
  · refine ⟨k + 1, St_le_same (by repeat (first | exact trivial | refine ⟨le_rfl, ?_⟩ | refine ⟨le_any, ?_⟩ | refine ⟨le_ro, ?_⟩ | refine ⟨le_nil (by decide), ?_⟩ | refine ⟨le_wrap (by omega) (by omega) (by omega), ?_⟩ | refine ⟨le_int (by omega), ?_⟩ | refine ⟨le_eq (by simp), ?_⟩)) id, ⟨by omega, fun j h => ?_⟩, by omega⟩
    rcases Nat.lt_succ_iff_lt_or_eq.1 h with h | rfl
    · exact hb j h
    · exact goodC_yes (by assumption) (by assumption)
  · have hK0 := hK none
    rw [readR_bad (k := k) (by omega) (goodC_no (by first | exact .inl (by assumption) | exact .inr (by assumption)))] at hK0
    exact leafL sub_rfl (leT_tup (leL_two (.inr (.inr (.inr ⟨2, _, rfl, by decide, rfl⟩))) le_rfl)) hK0
  · have hR := readR_ok (fun j h => hb j (by omega))
    clear hb hk h
    refine loop_by (fun x : Nat × Nat × List (List Int) × Option (Nat × Nat) => ⟨(SI o l :: .any :: .any :: .any :: SL (some x.2.2.2) (x.2.2.1.map lineOf) :: I x.1 :: .any :: I x.2.1 :: .any :: .any :: .any :: .any :: .any :: .any :: .any :: .any :: .any :: .any :: .any :: .any :: .any :: .any :: .any :: .any :: .any :: .any :: .any :: .any :: .any :: .any :: .any :: .any :: .any :: .any :: .any :: .any :: .any :: .any :: .any :: .any :: .any :: .any :: .any :: .any :: .any :: .any :: .any :: .any :: .any :: .any :: .any :: .any :: .any :: .any :: .any :: .any :: .any :: .any :: .any :: .any :: .any :: .any :: .any :: .any :: .any :: .any :: .any :: .any :: .any :: .any :: .any :: .any :: .any :: .any :: .any :: .any :: .any :: .any :: .any :: .any :: .any :: .any :: .any :: .any :: .any :: .any :: .any :: .any :: .any :: []), .tip x.2.2.2 :: σ, true, []⟩)
      (fun x => x.1 ≤ x.2.1 ∧ x.2.1 ≤ l.length ∧ x.2.2.1.length ≤ x.1 ∧ tx [] l = x.2.2.1 ++ tx ((l.take x.2.1).drop x.1) (l.drop x.2.1)) (fun x => l.length - x.2.1) (0, 0, [], none) (St_leW (by repeat (first | exact trivial | refine ⟨le_rfl, ?_⟩ | refine ⟨le_any, ?_⟩ | refine ⟨le_ro, ?_⟩ | refine ⟨le_nil (by decide), ?_⟩ | refine ⟨le_wrap (by omega) (by omega) (by omega), ?_⟩ | refine ⟨le_int (by omega), ?_⟩ | refine ⟨le_eq (by simp), ?_⟩)) (ResW.refl _) id) ⟨Nat.le_refl _, Nat.zero_le _, Nat.le_refl _, by simp⟩ ?_
    rintro ⟨fr, k, dn, tk⟩ ⟨h1, h2, h4, h3⟩
    dsimp only at h1 h2 h3 h4 ⊢
    repeat' (first | simp only [WL, intF, WM, reduceCtorEq, WLb, Nat.reduceAdd, Bool.not_true, true_and, reduceIte, Bool.false_eq_true, T3, T39, cok52, Tryz.results31] | simp (disch := first | omega | (simp only [LN_]; omega)) only [wrap_id, getI] | (with_reducible first | refine andA (hb := ?_) | refine y_app (hlen := ?_) (hmax := ?_) (hK := fun tk => ?_) | refine y_bs (hK := ?_) | refine cD (rline ?_ ?_)) | ((with_reducible first | refine grd_cases (fun h => ?_) (fun h => ?_) | refine condC_split (fun h => ?_) (fun h => ?_)) <;> (try simp only [h]) <;> (try simp only [NR_, NRb] at h)) | omega | (simp only [LN_]; omega) | (refine maxLen_ok ?_; (first | omega | (simp only [LN_]; omega))))
    · exact ⟨(fr, k + 1, dn, tk), St_le_same (by repeat (first | exact trivial | refine ⟨le_rfl, ?_⟩ | refine ⟨le_any, ?_⟩ | refine ⟨le_ro, ?_⟩ | refine ⟨le_nil (by decide), ?_⟩ | refine ⟨le_wrap (by omega) (by omega) (by omega), ?_⟩ | refine ⟨le_int (by omega), ?_⟩ | refine ⟨le_eq (by simp), ?_⟩)) id, ⟨by dsimp only; omega, by dsimp only; omega, h4, by rw [h3, tx_at_push (by omega) (by omega) (brk_no (by assumption) (by assumption))]⟩, by dsimp only; omega⟩
    · rw [tn1] at h
      exact ⟨(k + 2, k + 2, dn ++ [(l.take k).drop fr], tk), St_leW (by simp only [List.map_append, List.map_cons, List.map_nil]; repeat (first | exact trivial | refine ⟨le_rfl, ?_⟩ | refine ⟨le_any, ?_⟩ | refine ⟨le_ro, ?_⟩ | refine ⟨le_nil (by decide), ?_⟩ | refine ⟨le_wrap (by omega) (by omega) (by omega), ?_⟩ | refine ⟨le_int (by omega), ?_⟩ | refine ⟨le_eq (by simp), ?_⟩)) (ResW.refl _) id, ⟨Nat.le_refl _, by dsimp only; omega, by simp; omega, by rw [h3, tx_at_crlf (by omega) (by assumption) h]; simp [take_drop_self]⟩, by dsimp only; omega⟩
    · rw [tn1] at h
      exact ⟨(k + 1, k + 1, dn ++ [(l.take k).drop fr], tk), St_leW (by simp only [List.map_append, List.map_cons, List.map_nil]; repeat (first | exact trivial | refine ⟨le_rfl, ?_⟩ | refine ⟨le_any, ?_⟩ | refine ⟨le_ro, ?_⟩ | refine ⟨le_nil (by decide), ?_⟩ | refine ⟨le_wrap (by omega) (by omega) (by omega), ?_⟩ | refine ⟨le_int (by omega), ?_⟩ | refine ⟨le_eq (by simp), ?_⟩)) (ResW.refl _) id, ⟨Nat.le_refl _, by dsimp only; omega, by simp; omega, by rw [h3, tx_at_brk (by omega) (brk_yes (by first | exact .inl (by assumption) | exact .inr (by assumption))) (fun hh => by omega)]; simp [take_drop_self]⟩, by dsimp only; omega⟩
    · exact ⟨(k + 1, k + 1, dn ++ [(l.take k).drop fr], tk), St_leW (by simp only [List.map_append, List.map_cons, List.map_nil]; repeat (first | exact trivial | refine ⟨le_rfl, ?_⟩ | refine ⟨le_any, ?_⟩ | refine ⟨le_ro, ?_⟩ | refine ⟨le_nil (by decide), ?_⟩ | refine ⟨le_wrap (by omega) (by omega) (by omega), ?_⟩ | refine ⟨le_int (by omega), ?_⟩ | refine ⟨le_eq (by simp), ?_⟩)) (ResW.refl _) id, ⟨Nat.le_refl _, by dsimp only; omega, by simp; omega, by rw [h3, tx_at_brk (by omega) (brk_yes (by first | exact .inl (by assumption) | exact .inr (by assumption))) (fun hh => by omega)]; simp [take_drop_self]⟩, by dsimp only; omega⟩
    · exact ⟨(k + 1, k + 1, dn ++ [(l.take k).drop fr], tk), St_leW (by simp only [List.map_append, List.map_cons, List.map_nil]; repeat (first | exact trivial | refine ⟨le_rfl, ?_⟩ | refine ⟨le_any, ?_⟩ | refine ⟨le_ro, ?_⟩ | refine ⟨le_nil (by decide), ?_⟩ | refine ⟨le_wrap (by omega) (by omega) (by omega), ?_⟩ | refine ⟨le_int (by omega), ?_⟩ | refine ⟨le_eq (by simp), ?_⟩)) (ResW.refl _) id, ⟨Nat.le_refl _, by dsimp only; omega, by simp; omega, by rw [h3, tx_at_brk (by omega) (brk_yes (by first | exact .inl (by assumption) | exact .inr (by assumption))) (fun hh => by omega)]; simp [take_drop_self]⟩, by dsimp only; omega⟩
    · rw [tx_at_end (by omega), if_pos (by omega)] at h3
      exact leafL sub_rfl (leT_tup (leL_two (by rw [hR]; dsimp only; rw [linesOf, h3]; simp only [SL, List.map_append, List.map_cons, List.map_nil]; exact le_rfl) (by rw [hR]; exact le_rfl))) (hK _)
    · rw [tx_at_end (by omega), if_neg (by omega)] at h3
      exact leafL sub_rfl (leT_tup (leL_two (by rw [hR]; dsimp only; rw [linesOf, h3]; simp only [List.append_nil]; exact le_rfl) (by rw [hR]; exact le_rfl))) (hK _)
set_option maxHeartbeats 4000000 in
theorem rLines {l : List Int} (hl : l.length ≤ 1000000000) (hK : K (.ret (.tup [SL none (readR l).1, I (readR l).2])) σ) : ACallF κ Tryz.prog 31 [SI o l] σ K :=
  ACallF.dropL (rLinesO hl (fun _ => leafL (sub_cons sub_rfl) (leT_tup (leL_two le_ro le_rfl)) hK))
def Asc (b : List Int) : Prop := b.length ≤ 100000 ∧ ∀ c ∈ b, 1 ≤ c ∧ c ≤ 127
set_option maxHeartbeats 8000000 in
theorem Asc.at_ {b : List Int} (h : Asc b) {k : Nat} (hk : k < b.length) : 1 ≤ b.getD k 0 ∧ b.getD k 0 ≤ 127 :=
  h.2 _ (by rw [List.getD_eq_getElem?_getD, List.getElem?_eq_getElem hk]; exact List.getElem_mem hk)
set_option maxHeartbeats 8000000 in
theorem Asc.drop {b : List Int} (h : Asc b) (k : Nat) : Asc (b.drop k) := ⟨by have := h.1; rw [List.length_drop]; omega, fun c hc => h.2 c (List.mem_of_mem_drop hc)⟩
set_option maxHeartbeats 8000000 in
theorem rIsNo {b l : List Int} (hb : Asc b) (hl : 0 < l.length) (h0 : l.getD 0 0 = 0 ∨ 127 < l.getD 0 0 ∧ l.getD 0 0 ≤ 255) (hK : K (.ret (B false)) σ) : ACallF κ Tryz.prog 76 [SU o b, SU o' l] σ K := by
  have hbl := hb.1
  have hb0 := fun h => hb.at_ (k := 0) h
  by_cases hs : b.length < l.length
  · skip
    refine ACallF.dropL (ACallF_intro Tryz.func76 rfl ?_)
    simp only [Tryz.ntmps76]
    repeat' (first | simp only [WL, intF, WM, reduceCtorEq, WLb, Nat.reduceAdd, Nat.reduceSub, true_and, T79, Tryz.results76] | ((with_reducible first | refine grd_cases (fun h => ?_) (fun h => ?_) | refine condC_split (fun h => ?_) (fun h => ?_)) <;> (try simp only [h]) <;> (try simp only [NR_, NRb] at h)) | omega)
    all_goals first
      | exact leafL sub_rfl (leT_eq rfl) hK
      | trace_state
  · skip
    refine ACallF.dropL (ACallF_intro Tryz.func76 rfl ?_)
    simp only [Tryz.ntmps76]
    repeat' (first | simp only [WL, intF, WM, reduceCtorEq, WLb, Nat.reduceAdd, Nat.reduceSub, true_and, T79, Tryz.results76] | ((with_reducible first | refine grd_cases (fun h => ?_) (fun h => ?_) | refine condC_split (fun h => ?_) (fun h => ?_)) <;> (try simp only [h]) <;> (try simp only [NR_, NRb] at h)) | omega)
    refine loop_by (fun _ : Unit => ⟨(SU o b :: SU o' l :: .any :: .any :: .any :: I 0 :: .any :: .any :: .any :: .any :: .any :: .any :: .any :: .any :: .any :: .any :: .any :: .any :: .any :: .any :: .any :: .any :: .any :: .any :: .any :: .any :: []), σ, true, []⟩) (fun _ => True) (fun _ => 0) () (St_le_same (by repeat (first | exact trivial | refine ⟨le_rfl, ?_⟩ | refine ⟨le_any, ?_⟩ | refine ⟨le_ro, ?_⟩ | refine ⟨le_nil (by decide), ?_⟩ | refine ⟨le_wrap (by omega) (by omega) (by omega), ?_⟩ | refine ⟨le_int (by omega), ?_⟩ | refine ⟨le_eq (by simp), ?_⟩)) id) trivial ?_
    intro _ _
    have hb0 := hb0 (by omega)
    have hl8 : 0 ≤ l.getD 0 0 ∧ l.getD 0 0 ≤ 255 := by omega
    have hne : (b.getD 0 0 == l.getD 0 0) = false := beq_eq_false_iff_ne.2 (by omega)
    have hne2 : (b.getD 0 0 != l.getD 0 0) = true := by unfold bne; rw [hne]; rfl
    repeat' (first | simp only [WL, intF, WM, Int.reduceToNat, reduceCtorEq, WLb, Nat.reduceAdd, Nat.reduceLT, true_and, T5, T79, Tryz.results76, hne2] | simp (disch := first | omega | (simp only [LN_]; omega)) only [getU] | with_reducible refine andA (hb := ?_) | ((with_reducible refine AW_drawM (id := 6) 9 mixed ?_ ?_); kernel_rfl) | (with_reducible refine dmQ_mk ?_) | ((with_reducible first | refine grd_cases (fun h => ?_) (fun h => ?_) | refine condC_split (fun h => ?_) (fun h => ?_)) <;> (try simp only [h]) <;> (try simp only [NR_, NRb] at h)) | omega)
    all_goals first
      | exact leafL sub_rfl (leT_eq rfl) hK
      | (exfalso; omega)
      | trace_state
set_option maxHeartbeats 8000000 in
theorem rPoint {b : List Int} (hb : Asc b) (h0 : 0 < b.length) (hK : K (.ret (.tup [I (b.getD 0 0), I 1])) σ) : ACallF κ Tryz.prog 77 [SU o b] σ K := by
  have hbl := hb.1
  have a0 := hb.at_ h0
  have hlt : b.getD 0 0 < 128 := by omega
  refine ACallF.dropL (ACallF_intro Tryz.func77 rfl ?_)
  simp only [Tryz.ntmps77]
  repeat' (first | simp only [WL, intF, WM, Int.reduceToNat, reduceCtorEq, WLb, Nat.reduceAdd, Nat.reduceSub, true_and, T5, T79, cI in3, Tryz.results77, decide_eq_true hlt] | simp (disch := first | omega | (simp only [LN_]; omega)) only [wrap_id, getU] | with_reducible refine andA (hb := ?_))
  all_goals first
    | exact leafL sub_rfl (leT_eq rfl) hK
    | (exfalso; omega)
    | trace_state
set_option maxHeartbeats 8000000 in
theorem rSmall {b : List Int} (hb : Asc b) (hK : K (.ret (.tup [SI none b, B true])) σ) : ACallF κ Tryz.prog 48 [SU o b] σ K := by
  have hbl := hb.1
  refine ACallF.dropL (ACallF_intro Tryz.func48 rfl ?_)
  simp only [Tryz.ntmps48]
  repeat' (first | simp only [WL, WM, Nat.reduceAdd, Nat.reduceSub])
  refine loop_by (fun z : Nat × Option (Nat × Nat) => ⟨(SU o b :: .any :: .any :: .any :: SI (some z.2) (b.take z.1) :: I z.1 :: .any :: .any :: .any :: .any :: .any :: .any :: .any :: .any :: .any :: .any :: .any :: .any :: .any :: .any :: .any :: .any :: .any :: .any :: .any :: .any :: .any :: .any :: .any :: []), .tip z.2 :: σ, true, []⟩) (fun z => z.1 ≤ b.length) (fun z => b.length - z.1) (0, none) (St_leW (by repeat (first | exact trivial | refine ⟨le_rfl, ?_⟩ | refine ⟨le_any, ?_⟩ | refine ⟨le_ro, ?_⟩ | refine ⟨le_nil (by decide), ?_⟩ | refine ⟨le_wrap (by omega) (by omega) (by omega), ?_⟩ | refine ⟨le_int (by omega), ?_⟩ | refine ⟨le_eq (by simp), ?_⟩)) ResW.void id) (Nat.zero_le _) ?_
  rintro ⟨k, tk⟩ hk
  dsimp only at hk ⊢
  rcases Nat.lt_or_ge k b.length with hi | hi
  · have hd : (b.drop k).getD 0 0 = b.getD k 0 := by rw [getD_drop_, Nat.add_zero]
    have hdl : 0 < (b.drop k).length := by rw [List.length_drop]; omega
    have hnx : List.map I (b.take k) ++ [I (b.getD k 0)] = List.map I (b.take (k + 1)) := by
      rw [List.take_succ_eq_append_getElem hi, List.map_append, List.getD_eq_getElem?_getD, List.getElem?_eq_getElem hi]
      rfl
    repeat' (first | simp only [WL, intF, WM, reduceCtorEq, WLb, Nat.reduceAdd, Nat.reduceLT, true_and, T5, T79, cok77, Tryz.results48, hd, hnx] | simp (disch := first | omega | (simp only [LN_]; omega)) only [wrap_id] | (with_reducible first | refine andA (hb := ?_) | refine y_app (hlen := ?_) (hmax := ?_) (hK := fun tk => ?_) | refine y_bs (hK := ?_) | refine cD (rPoint (b := b.drop k) (hb.drop k) hdl ?_)) | ((with_reducible first | refine grd_cases (fun h => ?_) (fun h => ?_) | refine condC_split (fun h => ?_) (fun h => ?_)) <;> (try simp only [h]) <;> (try simp only [NR_, NRb] at h)) | omega | (simp only [LN_]; omega) | (refine maxLen_ok ?_; (first | omega | (simp only [LN_]; omega))))
    exact ⟨(k + 1, tk), St_leW (by repeat (first | exact trivial | refine ⟨le_rfl, ?_⟩ | refine ⟨le_any, ?_⟩ | refine ⟨le_ro, ?_⟩ | refine ⟨le_nil (by decide), ?_⟩ | refine ⟨le_wrap (by omega) (by omega) (by omega), ?_⟩ | refine ⟨le_int (by omega), ?_⟩ | refine ⟨le_eq (by simp), ?_⟩)) (ResW.refl _) id, by dsimp only; omega, by dsimp only; omega⟩
  · skip
    repeat' (first | simp only [WL, intF, WM, reduceCtorEq, WLb, Nat.reduceAdd, Nat.reduceLT, true_and, T5, T79, cok77, Tryz.results48] | simp (disch := first | omega | (simp only [LN_]; omega)) only [wrap_id] | (with_reducible first | refine andA (hb := ?_) | refine y_app (hlen := ?_) (hmax := ?_) (hK := fun tk => ?_) | refine y_bs (hK := ?_) | refine cD (rPoint ?_ ?_ ?_)) | ((with_reducible first | refine grd_cases (fun h => ?_) (fun h => ?_) | refine condC_split (fun h => ?_) (fun h => ?_)) <;> (try simp only [h]) <;> (try simp only [NR_, NRb] at h)) | omega)
    exact leafL (sub_cons sub_rfl) (leT_tup (leL_two (by rw [List.take_of_length_le hi]; exact le_ro) le_rfl)) hK
end Go.Proofs.YtgoofaeifbfblaaGreat
