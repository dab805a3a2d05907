/-
  An evaluator of calls at closed inputs, part r: operations in a row.
-/
import Derived.Test.YtmeijmmfkgpamaaGreatEq
namespace Go.Eva
open Go.RowKit
set_option linter.unusedVariables false
set_option linter.unusedSimpArgs false
section
variable {κ : Ctx} {P : Program} {ρ : Env} {s s' : ES} {w : World} {N : Nat} {tm tm' : T EV} {df df' : List EDef} {a : Act} {x : EV} {C : CallFn} {o : Oper} {e : EX} {cx : Cx} {Q : Exit → Act → World → Prop}

/-- How code is left. -/
def XR (ρ : Env) : EX → Exit → Prop
  | .normal, .normal => True
  | .exit i, .exit j => i = j
  | .ret, .ret => True
  | .panic x, .panic ch => ∃ v, ch = [{ v, recovered := false }] ∧ x.den ρ = some v
  | _, _ => False
/-- What is asked of all that code may come to. -/
def Post (κ : Ctx) (P : Program) (ρ : Env) (N : Nat) (e : EX) (tm : T EV) (df : List EDef) (s : ES) (Q : Exit → Act → World → Prop) : Prop :=
  ∀ ρ' w' a' e', ρ.le ρ' → S κ P ρ' s w' → TR ρ' N tm a'.tmps → DR ρ' df a'.defers → XR ρ' e e' → Q e' a' w'
theorem Post.mono {ρ' : Env} (h : Post κ P ρ N e tm df s Q) (H : ρ.le ρ') : Post κ P ρ' N e tm df s Q := fun ρ2 w' a' e' h1 => h ρ2 w' a' e' (Env.le_trans H h1)
/-- The round that the frame is of. -/
def RdOk (ρ : Env) : Option Nat → Option Nat → Prop
  | none, none => True
  | some l, some b => ∃ e, ρ l = some e ∧ e.b = b
  | _, _ => False
theorem RdOk.mono {ρ ρ' : Env} (H : ρ.le ρ') {r q : Option Nat} (h : RdOk ρ r q) : RdOk ρ' r q := by
  cases r <;> cases q <;> first | exact h | skip
  obtain ⟨e, h1, h2⟩ := h
  exact ⟨e, H _ _ h1, h2⟩
theorem bX_ok {α : Type} {o : Option α} {f : α → R} (h : bX o f = .ok e tm df s) : ∃ y, o = some y ∧ f y = .ok e tm df s := by
  cases o with
  | none => cases h
  | some y => exact ⟨y, rfl, h⟩
theorem cndX_ok {b : Bool} {r : R} (h : cnd b r .bad = .ok e tm df s) : b = true ∧ r = .ok e tm df s := by
  cases b with
  | false => cases h
  | true => exact ⟨rfl, h⟩
theorem putT_ok {dst : Option Tmp} {f : T EV → R} (h : putT N tm dst x f = .ok e tm' df s) : (dst = none ∧ f tm = .ok e tm' df s) ∨ ∃ d, dst = some d ∧ d < N ∧ f (T.set tm d x) = .ok e tm' df s := by
  cases dst with
  | none => exact .inl ⟨rfl, h⟩
  | some d =>
    obtain ⟨h1, h2⟩ := cndX_ok (show cnd (Nat.blt d N) (f (T.set tm d x)) .bad = .ok e tm' df s from h)
    exact .inr ⟨d, rfl, blt_lt h1, h2⟩
/-- A temporary is written: code goes on. -/
theorem putT_sound {dst : Option Tmp} {f : T EV → R} {v : Value} {X : Act → Prop} (h : putT N tm dst x f = .ok e tm' df s) (ht : TR ρ N tm a.tmps) (hx : x.den ρ = some v)
    (hK : ∀ tm2 a2, f tm2 = .ok e tm' df s → TR ρ N tm2 a2.tmps → a2.defers = a.defers → X a2) : X (a.put dst v) := by
  rcases putT_ok h with ⟨rfl, h⟩ | ⟨d, rfl, hd, h⟩
  · exact hK tm _ h ht rfl
  · exact hK _ _ h (ht.put hd hx) rfl
inductive At (all : Array Oper) : List Nat → List Oper → Prop
  | nil : At all [] []
  | cons {i : Nat} {o : Oper} {is : List Nat} {l : List Oper} (h : all[i]? = some o) (r : At all is l) : At all (i :: is) (o :: l)
theorem at_range (all : Array Oper) : At all (List.range all.size) all.toList := by
  have key : ∀ (l : List Oper) (k : Nat), (∀ j o, l[j]? = some o → all[k + j]? = some o) → At all (List.range' k l.length) l := by
    intro l
    induction l with
    | nil => intro k _; exact .nil
    | cons o r ih =>
      intro k h
      rw [List.length_cons, List.range'_succ]
      exact .cons (by simpa using h 0 o rfl) (ih (k + 1) (fun j p hj => by have := h (j + 1) p (by simpa using hj); rwa [show k + (j + 1) = k + 1 + j by omega] at this))
  have := key all.toList 0 (fun j o h => by simpa using h)
  rwa [Array.length_toList, ← List.range_eq_range'] at this
theorem evOps_sound (hk : cx.toKit = ⟨P, C⟩) (hC : CSound κ P C) {all : Array Oper} : ∀ (l : List Oper) (is : List Nat), At all is l → ∀ {ρ : Env} {tm : T EV} {df : List EDef} {s : ES} {w : World} {a : Act} {ro : Option Nat},
    evOps all l cx tm df s = .ok e tm' df' s' → S κ P ρ s w → TR ρ cx.N tm a.tmps → DR ρ df a.defers → RdOk ρ cx.rd ro → Post κ P ρ cx.N e tm' df' s' Q → wpOpsIn (EF P ro) 0 P all Q is a w := by
  intro l
  induction l with
  | nil =>
    intro is hat ρ tm df s w a ro h hS ht hd hrd hQ
    cases hat
    cases (show R.ok .normal tm df s = .ok e tm' df' s' from h)
    exact hQ ρ w a .normal (Env.le_refl _) hS ht hd trivial
  | cons o r ih =>
    intro is hat ρ tm df s w a ro h hS ht hd hrd hQ
    cases hat with
    | @cons i _ is _ hi hat =>
    obtain ⟨b, h1, h⟩ := bX_ok (show bX (wanted all tm o.guard) _ = .ok e tm' df' s' from h)
    have hw := wanted_run (all := all) ht h1
    unfold wpOpsIn
    rw [hi]
    simp only
    rw [hw]
    have hP : cx.P = P := by rw [show cx.P = cx.toKit.P from rfl, hk]
    cases b with
    | false =>
      rw [if_neg (by simp)]
      obtain ⟨h2, h⟩ := cndX_ok (show cnd (aboutOk cx.P tm o.op) (putT cx.N tm o.dst (.raw undef) fun tm2 => evOps all r cx tm2 df s) .bad = .ok e tm' df' s' from h)
      rw [hP] at h2
      exact ⟨about_ok ht h2 ro w, putT_sound (X := fun a2 => wpOpsIn (EF P ro) 0 P all Q is a2 w) h ht rfl (fun tm2 a2 h3 ht2 hd2 => ih is hat h3 hS ht2 (hd2 ▸ hd) hrd hQ)⟩
    | true =>
      rw [if_pos rfl]
      have h : opEnd cx o tm df (opTab o.op cx.toKit o tm s) (evOps all r cx) s = .ok e tm' df' s' := h
      rw [hk] at h
      have go : ∀ x s2, Ans (opTab o.op ⟨P, C⟩ o tm s) x s s2 → putT cx.N tm o.dst x (fun tm2 => evOps all r cx tm2 df s2) = .ok e tm' df' s' → o.wpIn (EF P ro) 0 P a w (wpOpsIn (EF P ro) 0 P all Q is) Q := by
        intro x s2 ha hp
        refine opTab_val hC hS ht ha (fun v w' hf => ?_)
        obtain ⟨ρ', h2, h3, h4⟩ := hf
        exact putT_sound (X := fun a2 => wpOpsIn (EF P ro) 0 P all Q is a2 w') hp (ht.mono h2) h4 (fun tm2 a2 h5 ht2 hd2 => ih is hat h5 h3 ht2 (hd2 ▸ hd.mono h2) (hrd.mono h2) (hQ.mono h2))
      cases hr : opTab o.op ⟨P, C⟩ o tm s with
      | bad => rw [hr] at h; cases h
      | keep x => rw [hr] at h; exact go x s (.inr ⟨hr, rfl⟩) h
      | val x s2 => rw [hr] at h; exact go x s2 (.inl hr) h
      | pan x s2 =>
        rw [hr] at h
        cases (show R.ok (.panic x) tm df s2 = .ok e tm' df' s' from h)
        refine opTab_pan hC hS ht hr (fun v w' hf => ?_)
        obtain ⟨ρ', h2, h3, h4⟩ := hf
        exact hQ ρ' w' a _ h2 h3 (ht.mono h2) (hd.mono h2) ⟨v, rfl, h4⟩
      | dfr d =>
        rw [hr] at h
        obtain ⟨h2, h⟩ := cndX_ok (show cnd cx.rd.isNone (putT cx.N tm o.dst (.raw undef) fun tm2 => evOps all r cx tm2 (d :: df) s) .bad = .ok e tm' df' s' from h)
        have hro : ro = none := by
          cases hcr : cx.rd with
          | none => rw [hcr] at hrd; cases ro <;> first | rfl | exact hrd.elim
          | some l => rw [hcr] at h2; cases h2
        subst hro
        refine opTab_dfr ht hr (fun q hq => ?_)
        exact putT_sound (a := { a with defers := q :: a.defers }) (X := fun a2 => wpOpsIn (EF P none) 0 P all Q is a2 w) h ht rfl (fun tm2 a2 h5 ht2 hd2 => ih is hat h5 hS ht2 (by rw [hd2]; exact .cons hq hd) hrd hQ)
end
end Go.Eva
