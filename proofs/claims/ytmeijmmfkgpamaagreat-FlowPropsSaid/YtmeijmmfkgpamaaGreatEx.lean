/-
  An evaluator of calls at closed inputs, part x: values that are one; operations that look at no memory, or turn none.
-/
import Derived.Test.YtmeijmmfkgpamaaGreatEw
namespace Go.Eva
open Go.RowKit
set_option linter.unusedVariables false
set_option linter.unusedSimpArgs false

theorem cEq_eq {a b : Option Nat} (h : cEq a b = true) : a = b := by
  cases a <;> cases b <;> first | rfl | (cases h; done) | exact congrArg some (beq_n h)
theorem str_eq {x y : ByteArray} (h : bsEq x.data.toList y.data.toList = true) : x = y := by
  rw [bsEq_eq] at h
  have h := eq_of_beq h
  obtain ⟨⟨x⟩⟩ := x
  obtain ⟨⟨y⟩⟩ := y
  cases h
  rfl
theorem vEq_eq {a b : Value} (h : vEq a b = true) : a = b := by
  unfold vEq at h
  split at h
  · split at h
    · obtain ⟨h1, h2⟩ := band.1 h
      rw [iEq_eq] at h2
      rw [kindEq_eq h1, eq_of_beq h2]
    · cases h
  · split at h
    · rename_i x _ y
      cases x <;> cases y <;> first | rfl | cases h
    · cases h
  · split at h
    · rw [str_eq h]
    · cases h
  · split at h <;> first | rfl | cases h
  · split at h <;> first | rfl | cases h
  · split at h <;> first | rfl | cases h
  · split at h <;> first | rfl | cases h
  · cases h
mutual
theorem eqE_eq : ∀ (x y : EV), eqE x y = true → x = y
  | .raw v, y, h => by
    cases y <;> first | (cases h; done) | skip
    rw [vEq_eq (show vEq _ _ = true from h)]
  | .ptr b o, y, h => by
    cases y <;> first | (cases h; done) | skip
    obtain ⟨h1, h2⟩ := band.1 (show (Nat.beq _ _ && Nat.beq _ _) = true from h)
    rw [beq_n h1, beq_n h2]
  | .sl b i sz n c, y, h => by
    cases y <;> first | (cases h; done) | skip
    obtain ⟨h, h5⟩ := band.1 (show (Nat.beq _ _ && Nat.beq _ _ && Nat.beq _ _ && Nat.beq _ _ && cEq _ _) = true from h)
    obtain ⟨h, h4⟩ := band.1 h
    obtain ⟨h, h3⟩ := band.1 h
    obtain ⟨h1, h2⟩ := band.1 h
    rw [beq_n h1, beq_n h2, beq_n h3, beq_n h4, cEq_eq h5]
  | .se b i j sz, y, h => by
    cases y <;> first | (cases h; done) | skip
    obtain ⟨h, h4⟩ := band.1 (show (Nat.beq _ _ && Nat.beq _ _ && Nat.beq _ _ && Nat.beq _ _) = true from h)
    obtain ⟨h, h3⟩ := band.1 h
    obtain ⟨h1, h2⟩ := band.1 h
    rw [beq_n h1, beq_n h2, beq_n h3, beq_n h4]
  | .agg l, y, h => by
    cases y <;> first | (cases h; done) | skip
    rw [eqEs_eq l _ (show eqEs _ _ = true from h)]
  | .tup l, y, h => by cases h
  | .fn f a c, y, h => by
    cases y <;> first | (cases h; done) | skip
    obtain ⟨h, h3⟩ := band.1 (show (Nat.beq _ _ && eqEs _ _ && eqEs _ _) = true from h)
    obtain ⟨h1, h2⟩ := band.1 h
    rw [beq_n h1, eqEs_eq a _ h2, eqEs_eq c _ h3]
  | .yld l, y, h => by cases h
  | .ifc t x, y, h => by
    cases y <;> first | (cases h; done) | skip
    obtain ⟨h1, h2⟩ := band.1 (show (Nat.beq _ _ && eqE _ _) = true from h)
    rw [beq_n h1, eqE_eq x _ h2]
  | .mp b, y, h => by cases h
theorem eqEs_eq : ∀ (x y : List EV), eqEs x y = true → x = y
  | [], y, h => by cases y <;> first | rfl | cases h
  | x :: l, y, h => by
    cases y <;> first | (cases h; done) | skip
    obtain ⟨h1, h2⟩ := band.1 (show (eqE _ _ && eqEs _ _) = true from h)
    rw [eqE_eq x _ h1, eqEs_eq l _ h2]
end

/-! ### Operations that look at no memory -/
/-- Whatever the heap is: the same value. -/
def Still (f : ES → RO) : Prop := ∃ o : Option EV, ∀ s, f s = vO s o
theorem Still.bad : Still (fun _ => .bad) := ⟨none, fun _ => rfl⟩
theorem Still.val (x : EV) : Still (fun s => .val x s) := ⟨some x, fun _ => rfl⟩
theorem Still.vO (o : Option EV) : Still (fun s => Eva.vO s o) := ⟨o, fun _ => rfl⟩
theorem Still.bR {α : Type} {o : Option α} {f : α → ES → RO} (h : ∀ x, Still (f x)) : Still (fun s => Eva.bR o fun x => f x s) := by
  cases o with
  | none => exact Still.bad
  | some x => exact h x
theorem Still.cnd {b : Bool} {f g : ES → RO} (hf : Still f) (hg : Still g) : Still (fun s => Eva.cnd b (f s) (g s)) := by
  cases b with
  | false => exact hg
  | true => exact hf
theorem Still.rec {α : Type} {o : Option α} {f : ES → RO} {g : α → ES → RO} (hf : Still f) (hg : ∀ x, Still (g x)) : Still (fun s => (Option.rec (f s) (fun x => g x s) o : RO)) := by
  cases o with
  | none => exact hf
  | some x => exact hg x
theorem Still.onlyV {f : ES → RO} (h : Still f) : Still (fun s => Eva.onlyV (f s)) := by
  obtain ⟨o, h⟩ := h
  refine ⟨o, fun s => ?_⟩
  show Eva.onlyV (f s) = _
  rw [h s]
  cases o <;> rfl
theorem Still.onlyB {f : ES → RO} (h : Still f) : Still (fun s => Eva.onlyB (f s)) := by
  obtain ⟨o, h⟩ := h
  refine ⟨o, fun s => ?_⟩
  show Eva.onlyB (f s) = _
  rw [h s]
  cases o <;> rfl
theorem Still.part (l : List EV) (i n : Nat) (b : Bool) : Still (fun s => Eva.part l i n s b) := Still.cnd (Still.cnd (Still.val _) Still.bad) (Still.vO _)
theorem Still.same {f : ES → RO} (h : Still f) {x : EV} {s s' : ES} (hf : f s = .val x s') : ∀ s2, f s2 = .val x s2 := by
  obtain ⟨o, h⟩ := h
  rw [h s] at hf
  cases o with
  | none => cases hf
  | some y =>
    obtain ⟨rfl, rfl⟩ := val_inj.1 (show RO.val y s = .val x s' from hf)
    exact fun s2 => h s2
variable {k : Kit} {o : Oper} {tm : T EV}
theorem still_bin {op : BinOp} {t : TypeId} {x y : Operand} {u : TypeId} : Still (fun s => opBin op t x y u k o tm s) :=
  Still.bR fun a => Still.bR fun b => Still.rec (Still.rec (Still.rec (Still.vO _) fun _ => Still.val _) fun x => Still.bR fun _ => Still.vO _)
    fun p => Still.rec (Still.vO _) fun q => Still.rec (Still.vO _) fun _ => Still.val _
theorem still_builtin {b : Builtin} (h : stillB b = true) {ts : List TypeId} {xs : List EV} : Still (fun s => biTab b ts xs k o tm s) := by
  cases b <;> first | (cases h; done) | skip
  · exact Still.rec (Still.vO _) fun _ => Still.val _
  · exact Still.rec (Still.vO _) fun _ => Still.val _
  · exact Still.vO _
  · exact Still.vO _
theorem still_op {p : Op} (h : stillT p = true) : Still (fun s => opTab p k o tm s) := by
  cases p with
  | move y => exact Still.onlyV (Still.vO _)
  | assign y => exact Still.onlyV (Still.vO _)
  | pick c y z => exact Still.onlyV (Still.bR fun _ => Still.vO _)
  | build t ps => exact Still.onlyV (Still.bR fun _ => Still.bR fun _ => Still.bR fun _ => Still.cnd (Still.bR fun _ => Still.val _) Still.bad)
  | nilCheck y => exact Still.onlyV (Still.bR fun _ => Still.cnd (Still.val _) Still.bad)
  | binOp op t y z u => exact Still.onlyV (still_bin (u := u))
  | unOp op t y => cases op <;> exact Still.onlyV (by first | exact Still.vO _ | exact Still.bR fun _ => Still.val _)
  | makeInterface t y => exact Still.onlyV (Still.bR fun _ => Still.bR fun _ => Still.cnd Still.bad (Still.val _))
  | makeFunc f p q => cases f <;> exact Still.onlyV (by first | exact Still.bad | exact Still.bR fun _ => Still.bR fun _ => Still.val _)
  | slice t y l u m => exact Still.onlyV (Still.bR fun _ => Still.bR fun _ => Still.bR fun _ => Still.bR fun _ => Still.rec (Still.vO _) fun _ => Still.val _)
  | fieldAddr t y f => exact Still.onlyV (Still.bR fun _ => Still.bR fun _ => Still.bR fun _ => Still.cnd Still.bad (Still.val _))
  | field t y f => exact Still.onlyV (Still.bR fun _ => Still.bR fun _ => Still.bR fun _ => Still.bR fun _ => Still.part _ _ _ _)
  | indexAddr t y i =>
    exact Still.onlyV (Still.bR fun v => Still.bR fun n => by
      cases v <;> first | exact Still.bad | exact Still.bR fun _ => Still.bR fun _ => Still.cnd (Still.val _) Still.bad)
  | index t y i => exact Still.onlyV (Still.rec (Still.vO _) fun _ => Still.bR fun _ => Still.cnd (Still.bR fun _ => Still.val _) Still.bad)
  | lookup t y i b => exact Still.onlyV (Still.vO _)
  | typeAssert y t u b => exact Still.onlyV (Still.bR fun _ => Still.bR fun _ => Still.cnd (Still.val _) Still.bad)
  | extract y i => exact Still.onlyV (Still.rec (Still.vO _) fun _ => Still.vO _)
  | call c =>
    obtain ⟨ce, args, ats⟩ := c
    cases ce with
    | builtin b => exact Still.bR fun vs => Still.onlyB (still_builtin h)
    | _ => cases h
  | _ => cases h

/-! ### Operations that turn no memory -/
theorem part_same {l : List EV} {i n : Nat} {s s' : ES} {b : Bool} {x : EV} (h : part l i n s b = .val x s') : s' = s := by
  have := (Still.part l i n b).same h s
  rw [this] at h
  exact ((val_inj.1 h).2).symm
theorem load_same {t : TypeId} {y : Operand} {s s' : ES} {x : EV} (h : opLoad t y k o tm s = .val x s') : s' = s := by
  obtain ⟨p, h1, h⟩ := bR_ne h (by simp)
  obtain ⟨l, h2, h⟩ := bR_ne h (by simp)
  obtain ⟨b, h3, h⟩ := bR_ne h (by simp)
  obtain ⟨n, h4, h⟩ := bR_ne h (by simp)
  exact part_same h
theorem vO_same {s s' : ES} {q : Option EV} {x : EV} (h : vO s q = .val x s') : s' = s := by
  cases q with
  | none => cases h
  | some y => exact ((val_inj.1 (show RO.val y s = .val x s' from h)).2).symm
theorem convSl_same {src dst : TypeId} {y : EV} {s s' : ES} {v : Value} (h : convSl src dst y k s = .val (.raw v) s') : s' = s := by
  obtain ⟨e, h1, h⟩ := bR_ne h (by simp)
  obtain ⟨kd, h2, h⟩ := bR_ne h (by simp)
  obtain ⟨h3, h⟩ := cnd_ne h (by simp)
  cases hb : strT k.P dst with
  | true =>
    rw [hb] at h
    obtain ⟨l, h4, h⟩ := bR_ne (show (bR (slCells s y) fun l => bR (bytesV l) fun bs => bR (slLen y) fun n => cnd (Nat.beq bs.length n) (.val (.raw (.string ⟨bs.toArray⟩)) s) .bad) = .val (.raw v) s' from h) (by simp)
    obtain ⟨bs, h5, h⟩ := bR_ne h (by simp)
    obtain ⟨n, h6, h⟩ := bR_ne h (by simp)
    obtain ⟨h7, h⟩ := cnd_ne h (by simp)
    exact ((val_inj.1 h).2).symm
  | false =>
    rw [hb] at h
    obtain ⟨h7, h⟩ := cnd_ne (show cnd (Nat.beq src dst) (RO.val y s) RO.bad = RO.val (.raw v) s' from h) (by simp)
    exact ((val_inj.1 h).2).symm
theorem conv_same {src dst : TypeId} {y : Operand} {s s' : ES} {v : Value} (h : opConv src dst y k o tm s = .val (.raw v) s') : s' = s := by
  obtain ⟨z, h1, h⟩ := bR_ne h (by simp)
  cases hp : asInt z with
  | none =>
    rw [hp] at h
    have h : cnd (isSl z) (convSl src dst z k s) (Option.rec (vO s (pureOp k.P tm o)) (fun b => Option.rec (convStr src dst b k s) (fun r => .val r s) (pureOp k.P tm o)) (asStr z)) = .val (.raw v) s' := h
    cases hi : isSl z with
    | true => rw [hi] at h; exact convSl_same h
    | false =>
      rw [hi] at h
      have h : (Option.rec (vO s (pureOp k.P tm o)) (fun b => Option.rec (convStr src dst b k s) (fun r => .val r s) (pureOp k.P tm o)) (asStr z) : RO) = .val (.raw v) s' := h
      cases hs : asStr z with
      | none => rw [hs] at h; exact vO_same h
      | some b =>
        rw [hs] at h
        have h : (Option.rec (convStr src dst b k s) (fun r => .val r s) (pureOp k.P tm o) : RO) = .val (.raw v) s' := h
        cases hq : pureOp k.P tm o with
        | some r => rw [hq] at h; exact ((val_inj.1 (show RO.val r s = .val (.raw v) s' from h)).2).symm
        | none =>
          rw [hq] at h
          obtain ⟨h3, h⟩ := cnd_ne (show convStr src dst b k s = .val (.raw v) s' from h) (by simp)
          obtain ⟨e, h4, h⟩ := bR_ne h (by simp)
          obtain ⟨kd, h5, h⟩ := bR_ne h (by simp)
          obtain ⟨sz, h6, h⟩ := bR_ne h (by simp)
          obtain ⟨h7, h⟩ := cnd_ne h (by simp)
          cases (val_inj.1 h).1
  | some p =>
    rw [hp] at h
    obtain ⟨h2, h⟩ := cnd_ne (show cnd (undA k.P src).isSome (convInt dst p k o tm s) .bad = .val (.raw v) s' from h) (by simp)
    cases hq : intT k.P dst with
    | none =>
      have h : (Option.rec (vO s (pureOp k.P tm o)) (fun kd => .val (.raw (.int kd (wrapI kd p.2))) s) (intT k.P dst) : RO) = .val (.raw v) s' := h
      rw [hq] at h
      exact vO_same h
    | some kd =>
      have h : (Option.rec (vO s (pureOp k.P tm o)) (fun kd => .val (.raw (.int kd (wrapI kd p.2))) s) (intT k.P dst) : RO) = .val (.raw v) s' := h
      rw [hq] at h
      exact ((val_inj.1 (show RO.val _ s = .val (.raw v) s' from h)).2).symm
/-- It looks at memory and turns nothing. -/
theorem qAns_sound {p : Op} {s : ES} {x : EV} (h : qAns p (opTab p k o tm s) = some x) : Ans (opTab p k o tm s) x s s := by
  cases hr : opTab p k o tm s with
  | keep y => rw [hr] at h; cases (show some y = some x from h); exact .inr ⟨rfl, rfl⟩
  | val y s' =>
    rw [hr] at h
    obtain ⟨h1, h2⟩ := cnd_none.1 (show cnd (lookL p y) (some y) none = some x from h)
    cases h2
    have hs : s' = s := by
      cases p <;> first | (cases h1; done) | skip
      · exact load_same (k := k) (o := o) (tm := tm) (onlyV_val (r := opLoad _ _ k o tm s) hr)
      · cases x <;> first | (cases h1; done) | skip
        exact conv_same (k := k) (o := o) (tm := tm) (onlyV_val (r := opConv _ _ _ k o tm s) hr)
    subst hs
    exact .inl rfl
  | _ => rw [hr] at h; cases h
theorem qOk_sound {q : QR} {s : ES} (h : qOkAt k q s = true) : Ans (opTab q.o.op k q.o q.tr s) q.x s s := by
  unfold qOkAt at h
  cases hr : qAns q.o.op (opTab q.o.op k q.o q.tr s) with
  | none => rw [hr] at h; cases h
  | some y =>
    rw [hr] at h
    have := eqE_eq y q.x h
    subst this
    exact qAns_sound hr
end Go.Eva
