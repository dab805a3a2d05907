/-
  An evaluator of calls at closed inputs, part y: regions that draw their order: what must come before what; what the row of operations, taken as listed, says of any order.
-/
import Derived.Test.YtmeijmmfkgpamaaGreatEx
import Derived.OrdersIn
namespace Go.Eva
open Go.RowKit
set_option linter.unusedVariables false
set_option linter.unusedSimpArgs false

/-! ### Bits -/
theorem tb_eq (m j : Nat) : tb m j = m.testBit j := by
  unfold tb
  have h1 : Nat.land (Nat.shiftRight m j) 1 = m / 2 ^ j % 2 := by
    have e1 : Nat.land (Nat.shiftRight m j) 1 = (m >>> j) % 2 := Nat.and_one_is_mod _
    rw [e1, Nat.shiftRight_eq_div_pow]
  rw [h1, Nat.testBit_eq_decide_div_mod_eq]
  cases h : decide (m / 2 ^ j % 2 = 1) with
  | true => rw [of_decide_eq_true h]; rfl
  | false =>
    have := of_decide_eq_false h
    have h2 : m / 2 ^ j % 2 = 0 := by omega
    rw [h2]; rfl
theorem nthL_get : ∀ (l : List Nat) (k b : Nat), tb (nthL l k) b = true → ∃ m, l[k]? = some m ∧ tb m b = true
  | [], k, b, h => by
    have h : tb 0 b = true := h
    rw [tb_eq, Nat.zero_testBit] at h
    cases h
  | x :: l, 0, b, h => ⟨x, rfl, h⟩
  | x :: l, k + 1, b, h => by
    obtain ⟨m, h1, h2⟩ := nthL_get l k b h
    exact ⟨m, by simpa using h1, h2⟩
theorem maskOf_bit {acc : List Nat} : ∀ {es : List Edge} {b : Nat}, tb (maskOf acc es) b = true → ∃ e ∈ es, bindsA e = true ∧ (b = e.on ∨ tb (nthL acc e.on) b = true)
  | [], b, h => by
    have h : tb 0 b = true := h
    rw [tb_eq, Nat.zero_testBit] at h
    cases h
  | e :: es, b, h => by
    have h : tb (cnd (bindsA e) (Nat.lor (Nat.lor (Nat.pow 2 e.on) (nthL acc e.on)) (maskOf acc es)) (maskOf acc es)) b = true := h
    have tl : tb (maskOf acc es) b = true → ∃ e' ∈ e :: es, bindsA e' = true ∧ (b = e'.on ∨ tb (nthL acc e'.on) b = true) := fun h => by
      obtain ⟨e', h1, h2⟩ := maskOf_bit h
      exact ⟨e', List.mem_cons_of_mem _ h1, h2⟩
    cases hb : bindsA e with
    | false => rw [hb] at h; exact tl h
    | true =>
      rw [hb] at h
      have h : tb ((2 ^ e.on ||| nthL acc e.on) ||| maskOf acc es) b = true := h
      rw [tb_eq, Nat.testBit_or, Nat.testBit_or, Nat.testBit_two_pow] at h
      rcases Bool.or_eq_true_iff.1 h with h | h
      · rcases Bool.or_eq_true_iff.1 h with h | h
        · exact ⟨e, by simp, hb, .inl (of_decide_eq_true h).symm⟩
        · exact ⟨e, by simp, hb, .inr (by rw [tb_eq]; exact h)⟩
      · exact tl (by rw [tb_eq]; exact h)
theorem items_sub (X : Nat → Prop) (after : Nat → List Edge) (hX : ∀ k, X k → ∀ e ∈ after k, bindsA e = true → X e.on) : ∀ (l : List Oper) (i : Nat) (acc : List Nat), acc.length = i →
    (∀ j o, l[j]? = some o → after (i + j) = o.after.toList) → (∀ k m, acc[k]? = some m → (∀ e ∈ after k, bindsA e = true → X e.on) → ∀ b, tb m b = true → X b) →
    ∀ j q, (itemsG l i acc)[j]? = some q → q.i = i + j ∧ l[j]? = some q.o ∧ ((∀ e ∈ after (i + j), bindsA e = true → X e.on) → ∀ b, tb q.m b = true → X b)
  | [], i, acc, hl, ha, hacc, j, q, h => by cases h
  | o :: l, i, acc, hl, ha, hacc, j, q, h => by
    have hm : (∀ e ∈ after i, bindsA e = true → X e.on) → ∀ b, tb (maskOf acc o.after.toList) b = true → X b := by
      intro he b hb
      obtain ⟨e, h1, h2, h3⟩ := maskOf_bit hb
      have ho := ha 0 o rfl
      rw [Nat.add_zero] at ho
      have hX1 := he e (by rw [ho]; exact h1) h2
      rcases h3 with rfl | h3
      · exact hX1
      · obtain ⟨m, h4, h5⟩ := nthL_get _ _ _ h3
        exact hacc e.on m h4 (hX e.on hX1) b h5
    have h : ((⟨i, maskOf acc o.after.toList, o⟩ :: itemsG l (i + 1) (acc ++ [maskOf acc o.after.toList]) : List DItem))[j]? = some q := h
    cases j with
    | zero =>
      cases h
      exact ⟨rfl, rfl, by rw [Nat.add_zero]; exact hm⟩
    | succ j =>
      have h : (itemsG l (i + 1) (acc ++ [maskOf acc o.after.toList]))[j]? = some q := by simpa using h
      have := items_sub X after hX l (i + 1) (acc ++ [maskOf acc o.after.toList]) (by simp [hl]) (fun j' o' hj => by have := ha (j' + 1) o' (by simpa using hj); rwa [show i + 1 + j' = i + (j' + 1) by omega]) (fun k m hk he b hb => by
        by_cases hki : k < acc.length
        · rw [List.getElem?_append_left hki] at hk; exact hacc k m hk he b hb
        · have hk2 : k = i := by
            have := (List.getElem?_eq_some_iff.1 hk).1
            simp at this; omega
          subst hk2
          rw [List.getElem?_append_right (by omega)] at hk
          simp [hl] at hk
          subst hk
          exact hm he b hb) j q h
      rw [show i + 1 + j = i + (j + 1) by omega] at this
      exact ⟨this.1, by simpa using this.2.1, this.2.2⟩
theorem items_len : ∀ (l : List Oper) (i : Nat) (acc : List Nat), (itemsG l i acc).length = l.length
  | [], i, acc => rfl
  | o :: l, i, acc => by
    show (_ :: itemsG l (i + 1) _ : List DItem).length = _
    rw [List.length_cons, List.length_cons, items_len]
/-- What is known of the operations of a region. -/
structure ItsOk (all : Array Oper) (its : List DItem) : Prop where
  len : its.length = all.size
  at_ : ∀ (k : Nat) (q : DItem), its[k]? = some q → q.i = k ∧ all[k]? = some q.o
  sub : ∀ X : Nat → Prop, (∀ (k : Nat) (q : DItem), X k → its[k]? = some q → ∀ e ∈ q.o.after.toList, bindsA e = true → X e.on) → ∀ (k : Nat) (q : DItem), its[k]? = some q → (∀ e ∈ q.o.after.toList, bindsA e = true → X e.on) → ∀ j, tb q.m j = true → X j
  edge : ∀ (k : Nat) (q : DItem), its[k]? = some q → ∀ e ∈ q.o.after.toList, bindsA e = true → e.on < k
  one : ∀ (j k : Nat) (p q : DItem) (d : Tmp), its[j]? = some p → its[k]? = some q → p.o.dst = some d → q.o.dst = some d → j = k
  apart : ∀ (j k : Nat) (p q : DItem) (t : Tmp), its[j]? = some p → its[k]? = some q → t ∈ looks all p.o → q.o.dst = some t → j = k ∨ tb p.m k = true ∨ tb q.m j = true
theorem bor {a b : Bool} : (a || b) = true ↔ a = true ∨ b = true := Bool.or_eq_true_iff
theorem itsOk {all : Array Oper} (h : drawOk all (itemsG all.toList 0 []) = true) : ItsOk all (itemsG all.toList 0 []) := by
  have hat : ∀ (k : Nat) (q : DItem), (itemsG all.toList 0 [])[k]? = some q → q.i = k ∧ all[k]? = some q.o := by
    intro k q hk
    have := items_sub (fun _ => True) (fun k => ((all[k]?).map fun o => o.after.toList).getD []) (fun _ _ _ _ _ => trivial) all.toList 0 [] rfl (fun j o hj => by
      have hj : all[j]? = some o := by simpa using hj
      simp [hj]) (fun k m hk => by cases hk) k q hk
    refine ⟨by simpa using this.1, ?_⟩
    have := this.2.1
    simpa using this
  have hok : ∀ (k : Nat) (q : DItem), (itemsG all.toList 0 [])[k]? = some q → itemOk all (itemsG all.toList 0 []) q = true := fun k q hk => List.all_eq_true.1 h q (List.mem_of_getElem? hk)
  refine ⟨by rw [items_len]; simp, hat, ?_, ?_, ?_, ?_⟩
  · intro X hX k q hk he j hj
    have hafter : ∀ k, X k → ∀ e ∈ ((all[k]?).map fun o => o.after.toList).getD [], bindsA e = true → X e.on := by
      intro k hk' e hke hb
      cases ho : all[k]? with
      | none => rw [ho] at hke; cases hke
      | some o =>
        rw [ho] at hke
        have hlt : k < (itemsG all.toList 0 []).length := by
          rw [items_len]; have := (Array.getElem?_eq_some_iff.1 ho).1; simpa using this
        have hq := List.getElem?_eq_getElem hlt
        have := hat k _ hq
        rw [ho] at this
        exact hX k _ hk' hq e (by have := Option.some.inj this.2; rw [← this]; exact hke) hb
    have := items_sub X (fun k => ((all[k]?).map fun o => o.after.toList).getD []) hafter all.toList 0 [] rfl (fun j o hj => by
      have hj : all[j]? = some o := by simpa using hj
      simp [hj]) (fun k m hk => by cases hk) k q hk
    refine this.2.2 ?_ j hj
    intro e hke hb
    rw [Nat.zero_add, (hat k q hk).2] at hke
    exact he e hke hb
  · intro k q hk e he hb
    obtain ⟨h1, h2⟩ := band.1 (hok k q hk)
    have := List.all_eq_true.1 h1 e he
    rw [hb] at this
    have := blt_lt (show Nat.blt e.on q.i = true from this)
    rw [(hat k q hk).1] at this
    exact this
  · intro j k p q d hj hk hp hq
    obtain ⟨h1, h2⟩ := band.1 (hok j p hj)
    obtain ⟨h3, h4⟩ := band.1 (List.all_eq_true.1 h2 q (List.mem_of_getElem? hk))
    rcases bor.1 h3 with h3 | h3
    · have := beq_n h3
      rwa [(hat j p hj).1, (hat k q hk).1] at this
    · rw [hp, hq] at h3
      have h3 : (!Nat.beq d d) = true := h3
      rw [Nat.beq_refl] at h3
      cases h3
  · intro j k p q t hj hk ht hq
    obtain ⟨h1, h2⟩ := band.1 (hok j p hj)
    obtain ⟨h3, h4⟩ := band.1 (List.all_eq_true.1 h2 q (List.mem_of_getElem? hk))
    have h5 := List.all_eq_true.1 h4 t ht
    have h5 : (Option.rec true (fun d => cnd (Nat.beq d t) (Nat.beq p.i q.i || tb p.m q.i || tb q.m p.i) true) q.o.dst : Bool) = true := h5
    rw [hq] at h5
    have h5 : cnd (Nat.beq t t) (Nat.beq p.i q.i || tb p.m q.i || tb q.m p.i) true = true := h5
    rw [Nat.beq_refl] at h5
    rw [(hat j p hj).1, (hat k q hk).1] at h5
    rcases bor.1 h5 with h5 | h5
    · rcases bor.1 h5 with h5 | h5
      · exact .inl (beq_n h5)
      · exact .inr (.inl h5)
    · exact .inr (.inr h5)
theorem ItsOk.bit {all : Array Oper} {its : List DItem} (H : ItsOk all its) {k j : Nat} {q : DItem} (hk : its[k]? = some q) (hj : tb q.m j = true) : j < k :=
  H.sub (fun j => j < k) (fun k' q' hk' hq' e he hb => Nat.lt_trans (H.edge k' q' hq' e he hb) hk') k q hk (fun e he hb => H.edge k q hk e he hb) j hj

theorem restr_get {tm : T EV} : ∀ {l : List Tmp} {t : Tmp} {y : EV}, T.get (restr tm l) t = some y → t ∈ l ∧ T.get tm t = some y
  | [], t, y, h => absurd ((get_e t).symm.trans (show T.get (T.e : T EV) t = some y from h)) (by simp)
  | a :: l, t, y, h => by
    have h : T.get (Option.rec (restr tm l) (fun x => T.set (restr tm l) a x) (T.get tm a) : T EV) t = some y := h
    cases ha : T.get tm a with
    | none =>
      rw [ha] at h
      obtain ⟨h1, h2⟩ := restr_get (l := l) h
      exact ⟨List.mem_cons_of_mem _ h1, h2⟩
    | some x =>
      rw [ha] at h
      rcases get_set (show T.get (T.set (restr tm l) a x) t = some y from h) with ⟨rfl, rfl⟩ | ⟨_, h⟩
      · exact ⟨by simp, ha⟩
      · obtain ⟨h1, h2⟩ := restr_get (l := l) h
        exact ⟨List.mem_cons_of_mem _ h1, h2⟩
theorem clearT_get {tm : T EV} : ∀ {l : List Oper} {t : Tmp} {y : EV}, T.get (clearT tm l) t = some y → T.get tm t = some y ∧ ∀ o ∈ l, o.dst ≠ some t
  | [], t, y, h => ⟨h, by simp⟩
  | o :: l, t, y, h => by
    have h : T.get (match o.dst with | some d => T.put 24 (clearT tm l) d none | none => clearT tm l) t = some y := h
    cases hd : o.dst with
    | none =>
      rw [hd] at h
      obtain ⟨h1, h2⟩ := clearT_get (l := l) h
      refine ⟨h1, fun p hp => ?_⟩
      rcases List.mem_cons.1 hp with rfl | hp
      · rw [hd]; simp
      · exact h2 p hp
    | some d =>
      rw [hd] at h
      obtain ⟨h0, h⟩ := get_drop (show T.get (T.put 24 (clearT tm l) d none) t = some y from h)
      obtain ⟨h1, h2⟩ := clearT_get (l := l) h
      refine ⟨h1, fun p hp => ?_⟩
      rcases List.mem_cons.1 hp with rfl | hp
      · rw [hd]; intro he; cases he; exact h0 rfl
      · exact h2 p hp

/-! ### The row as listed -/
section
variable {P : Program} {C : CallFn} {all : Array Oper} {its : List DItem} {tm0 : T EV} {N : Nat} {x : Nat → EV} {rk : Nat → Option Nat} {st : Nat → ES} {K p : Nat} {tm : T EV} {ld : List LD} {qs : List QR}

/-- How many of those that turn memory may have come when it comes. -/
def Adm (its : List DItem) (rk : Nat → Option Nat) (i : Nat) (q : DItem) (m : Nat) : Prop :=
  (∀ (j r : Nat), rk j = some r → m < r → tb q.m j = false) ∧ ∀ (j r : Nat) (q' : DItem), rk j = some r → r ≤ m → its[j]? = some q' → tb q'.m i = false
/-- What is known of one that was evaluated. -/
def OpI (P : Program) (C : CallFn) (all : Array Oper) (its : List DItem) (tm0 : T EV) (N : Nat) (x : Nat → EV) (rk : Nat → Option Nat) (st : Nat → ES) (K : Nat) (qs : List QR) (i : Nat) (q : DItem) : Prop :=
  ∃ (tr : T EV) (b : Bool),
    (∀ t y, T.get tr t = some y → (∃ (j : Nat) (q' : DItem), its[j]? = some q' ∧ q'.o.dst = some t ∧ tb q.m j = true ∧ x j = y) ∨ (T.get tm0 t = some y ∧ ∀ (j : Nat) (q' : DItem), its[j]? = some q' → q'.o.dst = some t → j = i ∨ tb q'.m i = true)) ∧
    (∀ d, q.o.dst = some d → d < N) ∧ wanted all tr q.o.guard = some b ∧ (b = false → x i = .raw undef ∧ aboutOk P tr q.o.op = true ∧ rk i = none) ∧
    (b = true → ∀ r, rk i = some r → opTab q.o.op ⟨P, C⟩ q.o tr (st (r - 1)) = .val (x i) (st r)) ∧
    (b = true → rk i = none → (∀ m, m ≤ K → Adm its rk i q m → Ans (opTab q.o.op ⟨P, C⟩ q.o tr (st m)) (x i) (st m) (st m)) ∧
      ((∀ s, Ans (opTab q.o.op ⟨P, C⟩ q.o tr s) (x i) s s) ∨ (∃ r : QR, r ∈ qs ∧ r.i = i ∧ r.m = q.m ∧ r.o = q.o ∧ r.tr = tr ∧ r.x = x i) ∨ ∃ (j r : Nat) (q' : DItem), rk j = some r ∧ its[j]? = some q' ∧ tb q'.m i = true))
inductive LdR (its : List DItem) (rk : Nat → Option Nat) (st : Nat → ES) : List LD → Nat → Prop
  | nil : LdR its rk st [] 0
  | cons {l : LD} {r : List LD} {k : Nat} {q : DItem} (h : rk l.i = some (k + 1)) (hq : its[l.i]? = some q) (hs : l.s = st k) (t : LdR its rk st r k) : LdR its rk st (l :: r) (k + 1)
structure Inv (P : Program) (C : CallFn) (all : Array Oper) (its : List DItem) (tm0 : T EV) (N : Nat) (p : Nat) (x : Nat → EV) (rk : Nat → Option Nat) (st : Nat → ES) (K : Nat) (tm : T EV) (ld : List LD) (qs : List QR) : Prop where
  tms : ∀ t y, T.get tm t = some y → (∃ (j : Nat) (q : DItem), j < p ∧ its[j]? = some q ∧ q.o.dst = some t ∧ x j = y) ∨ (T.get tm0 t = some y ∧ ∀ (j : Nat) (q : DItem), j < p → its[j]? = some q → q.o.dst ≠ some t)
  ops : ∀ (i : Nat) (q : DItem), i < p → its[i]? = some q → OpI P C all its tm0 N x rk st K qs i q
  rng : ∀ i r, rk i = some r → i < p ∧ 1 ≤ r ∧ r ≤ K
  inj : ∀ i j r, rk i = some r → rk j = some r → i = j
  prev : ∀ (i r : Nat) (q : DItem), rk i = some r → its[i]? = some q → r = 1 ∨ ∃ j, rk j = some (r - 1) ∧ tb q.m j = true
  ldr : LdR its rk st ld K
theorem LdR.upd {rk' : Nat → Option Nat} {st' : Nat → ES} (h1 : ∀ i r, rk i = some r → rk' i = some r) (h2 : ∀ m, m ≤ K → st' m = st m) : ∀ {ld : List LD} {k : Nat}, k ≤ K → LdR its rk st ld k → LdR its rk' st' ld k := by
  intro ld k hk h
  induction h with
  | nil => exact .nil
  | cons h hq hs t ih => exact .cons (h1 _ _ h) hq (by rw [hs, h2 _ (by omega)]) (ih (by omega))
def upd {α : Type} (f : Nat → α) (p : Nat) (v : α) : Nat → α := fun k => if k = p then v else f k
theorem upd_same {α : Type} (f : Nat → α) (p : Nat) (v : α) : upd f p v p = v := if_pos rfl
theorem upd_ne {α : Type} (f : Nat → α) {p k : Nat} (v : α) (h : k ≠ p) : upd f p v k = f k := if_neg h
/-- One more that turns nothing. -/
theorem OpI.keep (H : ItsOk all its) {i : Nat} {q : DItem} {y : EV} {qs' : List QR} (hi : i < p) (hq : its[i]? = some q) (hqs : ∀ r ∈ qs, r ∈ qs') (h : OpI P C all its tm0 N x rk st K qs i q) : OpI P C all its tm0 N (upd x p y) rk st K qs' i q := by
  obtain ⟨tr, b, h1, h2, h3, h4, h5, h6⟩ := h
  have hx : upd x p y i = x i := upd_ne _ _ (by omega)
  refine ⟨tr, b, fun t z hz => ?_, h2, h3, ?_, ?_, ?_⟩
  · rcases h1 t z hz with ⟨j, q', a, b, c, d⟩ | h
    · exact .inl ⟨j, q', a, b, c, by rw [upd_ne _ _ (by have := H.bit hq c; omega)]; exact d⟩
    · exact .inr h
  · rw [hx]; exact h4
  · rw [hx]; exact h5
  · rw [hx]
    intro hb hr
    obtain ⟨a, b⟩ := h6 hb hr
    refine ⟨a, ?_⟩
    rcases b with b | ⟨r, b, c⟩ | b
    · exact .inl b
    · exact .inr (.inl ⟨r, hqs r b, c⟩)
    · exact .inr (.inr b)
theorem fwd_sound {k : Kit} {i m : Nat} {s : ES} : ∀ {qs qs' : List QR}, fwd k i m s qs = some qs' → ∀ r ∈ qs, tb m r.i = true ∨ (r ∈ qs' ∧ qOkAt k r s = true)
  | [], qs', h, r, hr => by cases hr
  | a :: qs, qs', h, r, hr => by
    obtain ⟨l, h1, h2⟩ := bO_some.1 (show bO (fwd k i m s qs) (fun qs => cnd (tb m a.i) (some qs) (cnd (qOkAt k a s) (some (a :: qs)) none)) = some qs' from h)
    cases ht : tb m a.i with
    | true =>
      rw [ht] at h2
      cases (show some l = some qs' from h2)
      rcases List.mem_cons.1 hr with rfl | hr
      · exact .inl ht
      · exact fwd_sound h1 r hr
    | false =>
      rw [ht] at h2
      obtain ⟨h3, h4⟩ := cnd_none.1 (show cnd (qOkAt k a s) (some (a :: l)) none = some qs' from h2)
      cases h4
      rcases List.mem_cons.1 hr with rfl | hr
      · exact .inr ⟨by simp, h3⟩
      · rcases fwd_sound h1 r hr with h | ⟨h, h'⟩
        · exact .inl h
        · exact .inr ⟨List.mem_cons_of_mem _ h, h'⟩
/-- One more that turns memory. -/
theorem OpI.loud (H : ItsOk all its) {i : Nat} {q qp : DItem} {y : EV} {s' : ES} {qs' : List QR} (hi : i < p) (hq : its[i]? = some q) (hqp : its[p]? = some qp) (hrng : ∀ i r, rk i = some r → i < p ∧ 1 ≤ r ∧ r ≤ K) (hf : fwd ⟨P, C⟩ p qp.m s' qs = some qs')
    (h : OpI P C all its tm0 N x rk st K qs i q) : OpI P C all its tm0 N (upd x p y) (upd rk p (some (K + 1))) (upd st (K + 1) s') (K + 1) qs' i q := by
  obtain ⟨tr, b, h1, h2, h3, h4, h5, h6⟩ := h
  have hx : upd x p y i = x i := upd_ne _ _ (by omega)
  have hr : upd rk p (some (K + 1)) i = rk i := upd_ne _ _ (by omega)
  have hst : ∀ m, m ≤ K → upd st (K + 1) s' m = st m := fun m hm => upd_ne _ _ (by omega)
  have hrk : ∀ (j r : Nat), rk j = some r → upd rk p (some (K + 1)) j = some r := fun j r hj => by rw [upd_ne _ _ (by have := (hrng j r hj).1; omega)]; exact hj
  refine ⟨tr, b, fun t z hz => ?_, h2, h3, ?_, ?_, ?_⟩
  · rcases h1 t z hz with ⟨j, q', a, b, c, d⟩ | h
    · exact .inl ⟨j, q', a, b, c, by rw [upd_ne _ _ (by have := H.bit hq c; omega)]; exact d⟩
    · exact .inr h
  · rw [hx, hr]; exact h4
  · intro hb r hri
    rw [hr] at hri
    obtain ⟨_, r1, r2⟩ := hrng i r hri
    rw [hx, hst _ (by omega), hst _ r2]
    exact h5 hb r hri
  · intro hb hri
    rw [hr] at hri
    obtain ⟨a, b⟩ := h6 hb hri
    rw [hx]
    constructor
    · intro m hm hadm
      by_cases hmK : m ≤ K
      · rw [hst _ hmK]
        exact a m hmK ⟨fun j r hj hlt => hadm.1 j r (hrk j r hj) hlt, fun j r q' hj hle hq' => hadm.2 j r q' (hrk j r hj) hle hq'⟩
      · have hm1 : m = K + 1 := by omega
        subst hm1
        rw [upd_same]
        rcases b with b | ⟨r, b, c1, c2, c3, c4, c5⟩ | ⟨j, r, q', b1, b2, b3⟩
        · exact b s'
        · rcases fwd_sound hf r b with d | ⟨_, d⟩
          · have := hadm.2 p (K + 1) qp (upd_same _ _ _) (Nat.le_refl _) hqp
            rw [← c1, d] at this
            cases this
          · have := qOk_sound d
            rw [c3, c4, c5] at this
            exact this
        · have := hadm.2 j r q' (hrk j r b1) (by have := (hrng j r b1).2.2; omega) b2
          rw [b3] at this
          cases this
    · rcases b with b | ⟨r, b, c⟩ | ⟨j, r, q', b1, b2, b3⟩
      · exact .inl b
      · rcases fwd_sound hf r b with d | ⟨d, _⟩
        · exact .inr (.inr ⟨p, K + 1, qp, upd_same _ _ _, hqp, by rw [← c.1]; exact d⟩)
        · exact .inr (.inl ⟨r, d, c⟩)
      · exact .inr (.inr ⟨j, r, q', hrk j r b1, b2, b3⟩)
/-- What it comes to where fewer have come that turn memory. -/
theorem backOk_sound {k : Kit} {q : QR} : ∀ {ld : List LD} {K : Nat}, backOk k q ld = true → LdR its rk st ld K → ∀ m, m < K → (∀ (j r : Nat), rk j = some r → m < r → tb q.m j = false) → Ans (opTab q.o.op k q.o q.tr (st m)) q.x (st m) (st m) := by
  intro ld K hb hl
  induction hl with
  | nil => intro m hm; omega
  | @cons l r K qi h hq hs t ih =>
    intro m hm hno
    have hb : cnd (tb q.m l.i) true (cnd (qOkAt k q l.s) (backOk k q r) false) = true := hb
    rw [hno l.i (K + 1) h hm] at hb
    have hb : cnd (qOkAt k q l.s) (backOk k q r) false = true := hb
    cases hqo : qOkAt k q l.s with
    | false => rw [hqo] at hb; cases hb
    | true =>
      rw [hqo] at hb
      by_cases hmK : m = K
      · subst hmK
        rw [← hs]
        exact qOk_sound hqo
      · exact ih hb m (by omega) hno
/-- The temporaries that it looks at. -/
theorem looks_tr (H : ItsOk all its) (hI : Inv P C all its tm0 N p x rk st K tm ld qs) {q : DItem} (hq : its[p]? = some q) : ∀ t y, T.get (restr tm (looks all q.o)) t = some y →
    (∃ (j : Nat) (q' : DItem), its[j]? = some q' ∧ q'.o.dst = some t ∧ tb q.m j = true ∧ x j = y) ∨ (T.get tm0 t = some y ∧ ∀ (j : Nat) (q' : DItem), its[j]? = some q' → q'.o.dst = some t → j = p ∨ tb q'.m p = true) := by
  intro t y hy
  obtain ⟨h1, h2⟩ := restr_get hy
  rcases hI.tms t y h2 with ⟨j, q', a, b, c, d⟩ | ⟨a, b⟩
  · refine .inl ⟨j, q', b, c, ?_, d⟩
    rcases H.apart p j q q' t hq b h1 c with e | e | e
    · omega
    · exact e
    · have := H.bit b e; omega
  · refine .inr ⟨a, fun j q' hj hd => ?_⟩
    by_cases hjp : j < p
    · exact absurd hd (b j q' hjp hj)
    · rcases H.apart p j q q' t hq hj h1 hd with e | e | e
      · exact .inl e.symm
      · have := H.bit hq e; omega
      · exact .inr e
theorem tms_next (H : ItsOk all its) (hI : Inv P C all its tm0 N p x rk st K tm ld qs) {q : DItem} (hq : its[p]? = some q) {y : EV} {tm2 : T EV} (h2 : (q.o.dst = none ∧ tm2 = tm) ∨ ∃ d, q.o.dst = some d ∧ tm2 = T.set tm d y) :
    ∀ t z, T.get tm2 t = some z → (∃ (j : Nat) (q : DItem), j < p + 1 ∧ its[j]? = some q ∧ q.o.dst = some t ∧ upd x p y j = z) ∨ (T.get tm0 t = some z ∧ ∀ (j : Nat) (q : DItem), j < p + 1 → its[j]? = some q → q.o.dst ≠ some t) := by
  intro t z hz
  have old : T.get tm t = some z → q.o.dst ≠ some t → (∃ (j : Nat) (q : DItem), j < p + 1 ∧ its[j]? = some q ∧ q.o.dst = some t ∧ upd x p y j = z) ∨ (T.get tm0 t = some z ∧ ∀ (j : Nat) (q : DItem), j < p + 1 → its[j]? = some q → q.o.dst ≠ some t) := by
    intro hz hd
    rcases hI.tms t z hz with ⟨j, q', a, b, c, d⟩ | ⟨a, b⟩
    · exact .inl ⟨j, q', by omega, b, c, by rw [upd_ne _ _ (by omega)]; exact d⟩
    · refine .inr ⟨a, fun j q' hj hq' => ?_⟩
      by_cases hjp : j = p
      · subst hjp; rw [hq] at hq'; cases hq'; exact hd
      · exact b j q' (by omega) hq'
  rcases h2 with ⟨h2, rfl⟩ | ⟨d, h2, rfl⟩
  · exact old hz (by rw [h2]; simp)
  · rcases get_set hz with ⟨rfl, rfl⟩ | ⟨hne, hz⟩
    · exact .inl ⟨p, q, by omega, hq, h2, upd_same _ _ _⟩
    · exact old hz (by rw [h2]; intro he; cases he; exact hne rfl)
/-- One more that turns nothing. -/
theorem Inv.quiet (H : ItsOk all its) (hI : Inv P C all its tm0 N p x rk st K tm ld qs) {q : DItem} (hq : its[p]? = some q) {y : EV} {tm2 : T EV} (h2 : (q.o.dst = none ∧ tm2 = tm) ∨ ∃ d, q.o.dst = some d ∧ tm2 = T.set tm d y) (hN : ∀ d, q.o.dst = some d → d < N) {qs' : List QR} (hqs : ∀ r ∈ qs, r ∈ qs')
    {b : Bool} (hw : wanted all (restr tm (looks all q.o)) q.o.guard = some b) (hf : b = false → y = .raw undef ∧ aboutOk P (restr tm (looks all q.o)) q.o.op = true)
    (ht : b = true → (∀ m, m ≤ K → (∀ (j r : Nat), rk j = some r → m < r → tb q.m j = false) → Ans (opTab q.o.op ⟨P, C⟩ q.o (restr tm (looks all q.o)) (st m)) y (st m) (st m)) ∧
      ((∀ s, Ans (opTab q.o.op ⟨P, C⟩ q.o (restr tm (looks all q.o)) s) y s s) ∨ ∃ r : QR, r ∈ qs' ∧ r.i = p ∧ r.m = q.m ∧ r.o = q.o ∧ r.tr = restr tm (looks all q.o) ∧ r.x = y)) :
    Inv P C all its tm0 N (p + 1) (upd x p y) rk st K tm2 ld qs' := by
  have hrp : rk p = none := by
    cases h : rk p with
    | none => rfl
    | some r => have := (hI.rng p r h).1; omega
  refine ⟨tms_next H hI hq h2, fun i qi hi hqi => ?_, fun i r hr => ?_, hI.inj, hI.prev, hI.ldr⟩
  · by_cases hip : i = p
    · subst hip
      rw [hq] at hqi; cases hqi
      refine ⟨restr tm (looks all q.o), b, fun t z hz => ?_, hN, hw, fun hb => ?_, fun hb r hr => ?_, fun hb _ => ?_⟩
      · rcases looks_tr H hI hq t z hz with ⟨j, q', a, b, c, d⟩ | h
        · exact .inl ⟨j, q', a, b, c, by rw [upd_ne _ _ (by have := H.bit hq c; omega)]; exact d⟩
        · exact .inr h
      · rw [upd_same]; exact ⟨(hf hb).1, (hf hb).2, hrp⟩
      · rw [hrp] at hr; cases hr
      · rw [upd_same]
        obtain ⟨a, b⟩ := ht hb
        exact ⟨fun m hm hadm => a m hm hadm.1, b.imp id .inl⟩
    · exact (hI.ops i qi (by omega) hqi).keep H (by omega) hqi hqs
  · have := hI.rng i r hr; exact ⟨by omega, this.2⟩
/-- One more that turns memory. -/
theorem Inv.loud (H : ItsOk all its) (hI : Inv P C all its tm0 N p x rk st K tm ld qs) {q : DItem} (hq : its[p]? = some q) {y : EV} {s' : ES} {tm2 : T EV} (h2 : (q.o.dst = none ∧ tm2 = tm) ∨ ∃ d, q.o.dst = some d ∧ tm2 = T.set tm d y) (hN : ∀ d, q.o.dst = some d → d < N) {qs' : List QR}
    (hw : wanted all (restr tm (looks all q.o)) q.o.guard = some true) (ho : opTab q.o.op ⟨P, C⟩ q.o (restr tm (looks all q.o)) (st K) = .val y s') (hc : chainOk q.m ld = true) (hf : fwd ⟨P, C⟩ q.i q.m s' qs = some qs') :
    Inv P C all its tm0 N (p + 1) (upd x p y) (upd rk p (some (K + 1))) (upd st (K + 1) s') (K + 1) tm2 (⟨q.i, q.m, st K⟩ :: ld) qs' := by
  have hqi := (H.at_ p q hq).1
  have hst : ∀ m, m ≤ K → upd st (K + 1) s' m = st m := fun m hm => upd_ne _ _ (by omega)
  have hrk : ∀ (j r : Nat), rk j = some r → upd rk p (some (K + 1)) j = some r := fun j r hj => by rw [upd_ne _ _ (by have := (hI.rng j r hj).1; omega)]; exact hj
  have hback : ∀ j r, upd rk p (some (K + 1)) j = some r → (j = p ∧ r = K + 1) ∨ (j ≠ p ∧ rk j = some r) := by
    intro j r hj
    by_cases hjp : j = p
    · subst hjp; rw [upd_same] at hj; exact .inl ⟨rfl, (Option.some.inj hj).symm⟩
    · rw [upd_ne _ _ hjp] at hj; exact .inr ⟨hjp, hj⟩
  rw [hqi] at hf
  refine ⟨tms_next H hI hq h2, fun i qi hi hqi' => ?_, fun i r hr => ?_, fun i j r hi hj => ?_, fun i r qi hi hqi' => ?_, ?_⟩
  · by_cases hip : i = p
    · subst hip
      rw [hq] at hqi'; cases hqi'
      refine ⟨restr tm (looks all q.o), true, fun t z hz => ?_, hN, hw, fun hb => (by cases hb), fun _ r hr => ?_, fun _ hr => ?_⟩
      · rcases looks_tr H hI hq t z hz with ⟨j, q', a, b, c, d⟩ | h
        · exact .inl ⟨j, q', a, b, c, by rw [upd_ne _ _ (by have := H.bit hq c; omega)]; exact d⟩
        · exact .inr h
      · rw [upd_same] at hr
        cases hr
        rw [upd_same, upd_same, Nat.add_sub_cancel, hst K (Nat.le_refl _)]
        exact ho
      · rw [upd_same] at hr; cases hr
    · exact (hI.ops i qi (by omega) hqi').loud H (by omega) hqi' hq hI.rng hf
  · rcases hback i r hr with ⟨rfl, rfl⟩ | ⟨_, hr⟩
    · omega
    · have := hI.rng i r hr; omega
  · rcases hback i r hi with ⟨rfl, rfl⟩ | ⟨_, hi⟩
    · rcases hback j _ hj with ⟨rfl, _⟩ | ⟨_, hj⟩
      · rfl
      · have := (hI.rng j _ hj).2.2; omega
    · rcases hback j r hj with ⟨h1, rfl⟩ | ⟨_, hj⟩
      · have := (hI.rng i _ hi).2.2; omega
      · exact hI.inj i j r hi hj
  · rcases hback i r hi with ⟨rfl, rfl⟩ | ⟨_, hi⟩
    · rw [hq] at hqi'; cases hqi'
      have hl := hI.ldr
      cases hl with
      | nil => exact .inl rfl
      | @cons l r k ql h h' hs t =>
        refine .inr ⟨l.i, ?_, hc⟩
        rw [Nat.add_sub_cancel]
        exact hrk _ _ h
    · rcases hI.prev i r qi hi hqi' with h | ⟨j, a, b⟩
      · exact .inl h
      · exact .inr ⟨j, hrk _ _ a, b⟩
  · refine .cons ?_ (by rw [hqi]; exact hq) ?_ (hI.ldr.upd hrk hst (Nat.le_refl _))
    · rw [hqi, upd_same]
    · rw [hst K (Nat.le_refl _)]
end
end Go.Eva
