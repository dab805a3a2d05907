/-
  An evaluator of calls at closed inputs, part n: comparisons, conversions, ranges over texts.
-/
import Derived.Test.YtmeijmmfkgpamaaGreatEm
import Derived.Lib.Bytes
namespace Go.Eva
open Go.RowKit
set_option linter.unusedVariables false
set_option linter.unusedSimpArgs false
section
variable {κ : Ctx} {P : Program} {ρ : Env} {s s' : ES} {w : World} {N : Nat} {tm : T EV} {a : Act} {x : EV} {C : CallFn} {o : Oper}

theorem bsEq_eq : ∀ (x y : List UInt8), bsEq x y = (x == y)
  | [], [] => rfl
  | [], _ :: _ => rfl
  | _ :: _, [] => rfl
  | a :: x, b :: y => by
    have h1 : bEq a b = (a == b) := by
      rw [Bool.eq_iff_iff]
      show Nat.beq a.toNat b.toNat = true ↔ _
      rw [Nat.beq_eq, beq_iff_eq]
      exact ⟨UInt8.toNat_inj.1, fun h => by rw [h]⟩
    show cnd (bEq a b) (bsEq x y) false = _
    rw [cnd_eq, h1, bsEq_eq x y, List.cons_beq_cons]
    cases a == b <;> rfl
theorem strTab_run {op : BinOp} {x y : ByteArray} {v : Value} (h : strTab op x y = some v) (t : TypeId) (w : World) : (binOp op t (.string x) (.string y)).run P w = .ok v w := by
  cases op <;> simp only [strTab, reduceCtorEq, Option.some.injEq] at h
  · obtain ⟨h1, h2⟩ := cnd_none.1 h
    have h1 := ble_le h1
    cases h2
    have e1 : x.data.toList.length = x.size := by rw [Array.length_toList]; rfl
    have e2 : y.data.toList.length = y.size := by rw [Array.length_toList]; rfl
    have h3 : ¬ (9223372036854775807 : Int) < ((x.size + y.size : Nat) : Int) := by omega
    have h4 : (⟨(x.data.toList ++ y.data.toList).toArray⟩ : ByteArray) = x ++ y := by
      apply ByteArray.ext
      apply Array.ext'
      simp
    rw [h4]
    simp only [binOp, Op.stringOp, IntKind.max_i64, gt_iff_lt, if_neg h3, Sem.run_pure]
  · subst h
    rw [bsEq_eq]
    simp only [binOp, Op.stringOp, Lib.toList_data, Sem.run_pure]
  · subst h
    rw [bsEq_eq]
    simp only [binOp, Op.stringOp, Lib.toList_data, Sem.run_pure]

/-! ### Comparisons with nil -/
/-- The value of such a type that is nil; one that is not. -/
def NilIs (c : Nat) (b : Bool) (v : Value) : Prop :=
  match c, b with
  | 0, true => v = .slice none 0 0
  | 0, false => ∃ q n k, v = .slice (some q) n k
  | 1, true => v = .pointer none
  | 1, false => ∃ q, v = .pointer (some q)
  | 2, true => v = .nilFunc
  | 2, false => ∃ f p q, v = .func f p q
  | 3, true => v = .nilIface
  | 3, false => ∃ t y, v = .iface t y
  | 4, true => v = .map none
  | 4, false => ∃ q, v = .map (some q)
  | _, _ => False
theorem nilE_is {x : EV} {q : Nat × Bool} {v : Value} (h : nilE x = some q) (hx : x.den ρ = some v) : NilIs q.1 q.2 v := by
  cases x with
  | raw u =>
    cases (show some u = some v from hx)
    unfold nilE nilV at h
    simp only at h
    split at h <;> first | (cases h; done) | (cases h; rfl)
  | sl b i sz n c => cases h; obtain ⟨e, _, _, _, rfl⟩ := den_sl hx; exact ⟨_, _, _, rfl⟩
  | se b i j sz =>
    cases h
    simp only [EV.den, Option.bind_eq_some_iff] at hx
    obtain ⟨re, _, hx⟩ := hx
    split at hx
    · cases hx; exact ⟨_, _, _, rfl⟩
    · cases hx
  | ptr b o => cases h; obtain ⟨e, _, rfl⟩ := den_ptr hx; exact ⟨_, rfl⟩
  | fn f p q =>
    cases h
    simp only [EV.den] at hx
    split at hx
    · cases hx; exact ⟨_, _, _, rfl⟩
    · cases hx
  | ifc t y => cases h; simp only [EV.den, Option.map_eq_some_iff] at hx; obtain ⟨e, _, rfl⟩ := hx; exact ⟨_, _, rfl⟩
  | mp b => cases h; simp only [EV.den, Option.map_eq_some_iff] at hx; obtain ⟨e, _, rfl⟩ := hx; exact ⟨_, rfl⟩
  | _ => cases h
/-- A type of that kind. -/
def TypeIs (c : Nat) (d : TypeDesc) : Prop := nilD d = some c
theorem equal_nil {t : TypeId} {d : TypeDesc} {c : Nat} {a b : Bool} {u v : Value} (hd : P.underlying t = some d) (hc : nilD d = some c) (hu : NilIs c a u) (hv : NilIs c b v) (hab : a = true ∨ b = true) (w : World) : (Op.equal t u v).run P w = .ok (a && b) w := by
  show (Op.equalIn (9999 + 1) t u v).run P w = _
  unfold Op.equalIn
  cases d <;> simp only [nilD, reduceCtorEq, Option.some.injEq] at hc <;> subst hc <;> cases a <;> cases b <;> simp only [NilIs] at hu hv <;> (try simp at hab) <;>
    (try obtain ⟨_, _, _, rfl⟩ := hu) <;> (try obtain ⟨_, _, rfl⟩ := hu) <;> (try obtain ⟨_, rfl⟩ := hu) <;> (try subst hu) <;>
    (try obtain ⟨_, _, _, rfl⟩ := hv) <;> (try obtain ⟨_, _, rfl⟩ := hv) <;> (try obtain ⟨_, rfl⟩ := hv) <;> (try subst hv) <;>
    simp [run_underlying hd]
theorem isC_const {y : Operand} : isC y = true ↔ ∃ v, y = .const v := by cases y <;> simp [isC]
theorem guard_nil {op : BinOp} {t : TypeId} {p q : Operand} {c : Nat} {a b : Bool} {u v : Value} (hu : NilIs c a u) (hv : NilIs c b v) (hk : (a = true ∧ b = true) → (isC p || isC q) = true) (w : World) : (eqGuard op t p q u v).run P w = .ok () w := by
  have key : ¬ (u = .nilIface ∧ v = .nilIface) → (∀ l, u ≠ .agg l) → (eqGuard op t p q u v).run P w = .ok () w := by
    intro h1 h2
    unfold eqGuard
    cases op <;> first | rfl | (simp only [Bool.not_true, Bool.false_eq_true, if_false]; split <;> first | exact absurd ⟨rfl, rfl⟩ h1 | exact absurd rfl (h2 _) | rfl)
  by_cases h : u = .nilIface ∧ v = .nilIface
  · obtain ⟨rfl, rfl⟩ := h
    have hc : c = 3 := by
      unfold NilIs at hu
      split at hu <;> first | rfl | (cases hu; done) | (obtain ⟨_, _, _, h⟩ := hu; cases h; done) | (obtain ⟨_, _, h⟩ := hu; cases h; done) | (obtain ⟨_, h⟩ := hu; cases h; done) | exact hu.elim
    subst hc
    have ha : a = true := by cases a; · obtain ⟨_, _, h⟩ := hu; cases h
                             · rfl
    have hb : b = true := by cases b; · obtain ⟨_, _, h⟩ := hv; cases h
                             · rfl
    have hk := hk ⟨ha, hb⟩
    unfold eqGuard
    cases op <;> first | rfl | (cases p <;> cases q <;> first | (simp [isC] at hk; done) | rfl)
  · refine key h (fun l hl => ?_)
    subst hl
    unfold NilIs at hu
    split at hu <;> first | (cases hu; done) | (obtain ⟨_, _, _, h⟩ := hu; cases h; done) | (obtain ⟨_, _, h⟩ := hu; cases h; done) | (obtain ⟨_, h⟩ := hu; cases h; done) | exact hu.elim
theorem eqNil_run {op : BinOp} {t : TypeId} {p q : Operand} {y z : EV} {u v : Value} {r : EV} (h : eqNil P t (isC p || isC q) op y z = some r) (hy : y.den ρ = some u) (hz : z.den ρ = some v) (w : World) :
    ∃ b, r = .raw (.bool b) ∧ (do eqGuard op t p q u v; binOp op t u v : Sem Value).run P w = .ok (.bool b) w := by
  obtain ⟨a, h1, h⟩ := bO_some.1 h
  obtain ⟨b, h2, h⟩ := bO_some.1 h
  obtain ⟨c, h3, h⟩ := bO_some.1 h
  obtain ⟨h4, hT⟩ := cnd_none.1 h
  obtain ⟨d, h5, h6⟩ := bO_some.1 h3
  obtain ⟨h4, h7⟩ := band.1 h4
  obtain ⟨h8, h9⟩ := band.1 h4
  have h8 := beq_n h8
  have h9 := beq_n h9
  obtain ⟨c1, a⟩ := a
  obtain ⟨c2, b⟩ := b
  simp only at h8 h9 hT h7
  subst h8; subst h9
  have n1 := nilE_is h1 hy
  have n2 := nilE_is h2 hz
  simp only at n1 n2
  have hab : a = true ∨ b = true := by cases a <;> cases b <;> first | (cases h7; done) | simp
  have hg := guard_nil (P := P) (op := op) (t := t) (p := p) (q := q) n1 n2 (fun ⟨e1, e2⟩ => by subst e1; subst e2; exact h7) w
  have he := equal_nil ((undA_eq P t).symm.trans h5) h6 n1 n2 hab w
  have hni : (∀ k i, u ≠ .int k i) ∧ (∀ i, u ≠ .string i) := by
    constructor <;> (intros; intro hl; subst hl; unfold NilIs at n1; split at n1 <;> first | (cases n1; done) | (obtain ⟨_, _, _, h⟩ := n1; cases h; done) | (obtain ⟨_, _, h⟩ := n1; cases h; done) | (obtain ⟨_, h⟩ := n1; cases h; done) | exact n1.elim)
  cases op <;> first | (cases hT; done) | skip
  · cases hT
    refine ⟨_, rfl, ?_⟩
    simp only [Sem.run_bind, hg, Result.andThen_ok]
    have : binOp .eql t u v = (do pure (.bool (← Op.equal t u v))) := by
      unfold NilIs at n1; split at n1 <;> first | (subst n1; rfl) | (obtain ⟨_, _, _, rfl⟩ := n1; rfl) | (obtain ⟨_, _, rfl⟩ := n1; rfl) | (obtain ⟨_, rfl⟩ := n1; rfl) | exact n1.elim
    rw [this]
    simp only [Sem.run_bind, he, Result.andThen_ok, Sem.run_pure]
  · cases hT
    refine ⟨_, rfl, ?_⟩
    simp only [Sem.run_bind, hg, Result.andThen_ok]
    have : binOp .neq t u v = (do pure (.bool (!(← Op.equal t u v)))) := by
      unfold NilIs at n1; split at n1 <;> first | (subst n1; rfl) | (obtain ⟨_, _, _, rfl⟩ := n1; rfl) | (obtain ⟨_, _, rfl⟩ := n1; rfl) | (obtain ⟨_, rfl⟩ := n1; rfl) | exact n1.elim
    rw [this]
    simp only [Sem.run_bind, he, Result.andThen_ok, Sem.run_pure]
theorem guard_int {op : BinOp} {t : TypeId} {p q : Operand} {u v : Value} (h1 : ∀ l, u ≠ .agg l) (h2 : u ≠ .nilIface) (w : World) : (eqGuard op t p q u v).run P w = .ok () w := by
  unfold eqGuard
  cases op <;> first | rfl | (simp only [Bool.not_true, Bool.false_eq_true, if_false]; split <;> first | exact absurd rfl h2 | exact absurd rfl (h1 _) | rfl)
theorem opBin_sound (hS : S κ P ρ s w) (ht : TR ρ N tm a.tmps) {op : BinOp} {t u : TypeId} {y z : Operand} (ho : o.op = .binOp op t y z u) (h : opBin op t y z u ⟨P, C⟩ o tm s = .val x s') : DoesN κ P ρ w (execOp a.eval o) x s' := by
  obtain ⟨p, h1, h⟩ := bR_val.1 h
  obtain ⟨q, h2, h⟩ := bR_val.1 h
  have hsel : ∀ cs b, o.op ≠ .select cs b := by rw [ho]; simp
  have e1 := ev_sound ht h1
  have e2 := ev_sound ht h2
  have hex : execOp a.eval o = (do pure (Next.value (← (do eqGuard op t y z (a.eval y) (a.eval z); binOp op t (a.eval y) (a.eval z) : Sem Value)))) := by
    obtain ⟨dst, op, ty, pos, af, gd⟩ := o
    cases ho; rfl
  rcases optRec_val h with ⟨_, h⟩ | ⟨i, h3, h⟩
  · rcases optRec_val h with ⟨_, h⟩ | ⟨b, h3, h⟩
    · rcases optRec_val h with ⟨_, h⟩ | ⟨r, h3, h⟩
      · exact pureR hS ht hsel h
      · obtain ⟨rfl, rfl⟩ := val_inj.1 h
        obtain ⟨b, rfl, hr⟩ := eqNil_run h3 e1 e2 w
        rw [hex]
        exact Does.next (Does.val hS hr rfl)
    · obtain ⟨c, h4, h⟩ := bR_val.1 h
      obtain ⟨h5, rfl⟩ := vO_val.1 h
      obtain ⟨v, h6, h7⟩ := bO_some.1 h5
      cases h7
      have hb := asStr_some h3
      have hc := asStr_some h4
      subst hb; subst hc
      rw [hex, ← Option.some.inj (show some _ = some _ from e1), ← Option.some.inj (show some _ = some _ from e2)]
      refine Does.next (Does.val hS ?_ rfl)
      simp only [Sem.run_bind, guard_int (P := P) (op := op) (t := t) (p := y) (q := z) (u := .string b) (v := .string c) (by simp) (by simp) w, Result.andThen_ok, strTab_run h6]
  · rcases optRec_val h with ⟨_, h⟩ | ⟨j, h4, h⟩
    · exact pureR hS ht hsel h
    · rcases optRec_val h with ⟨_, h⟩ | ⟨r, h5, h⟩
      · exact pureR hS ht hsel h
      · obtain ⟨rfl, rfl⟩ := val_inj.1 h
        have hb := asInt_some h3
        have hc := asInt_some h4
        subst hb; subst hc
        obtain ⟨h6, h7⟩ := cnd_none.1 (show cnd (kindEq i.1 j.1) _ none = some _ from h5)
        obtain ⟨v, h8, h9⟩ := bO_some.1 h7
        cases h9
        have hk := kindEq_eq h6
        rw [hex, ← Option.some.inj (show some _ = some _ from e1), ← Option.some.inj (show some _ = some _ from e2), ← hk]
        refine Does.next (Does.val hS ?_ rfl)
        simp only [Sem.run_bind, guard_int (P := P) (op := op) (t := t) (p := y) (q := z) (u := .int i.1 i.2) (v := .int i.1 j.2) (by simp) (by simp) w, Result.andThen_ok, intTab_run h8]
end
end Go.Eva
