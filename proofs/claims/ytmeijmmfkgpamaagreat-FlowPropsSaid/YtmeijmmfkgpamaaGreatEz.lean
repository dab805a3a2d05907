/-
  An evaluator of calls at closed inputs, part z: regions that draw their order: whatever the order.
-/
import Derived.Test.YtmeijmmfkgpamaaGreatEy
namespace Go.Eva
open Go.RowKit
set_option linter.unusedVariables false
set_option linter.unusedSimpArgs false
section
variable {κ : Ctx} {P : Program} {C : CallFn} {all : Array Oper} {its : List DItem} {tm0 : T EV} {N : Nat} {x : Nat → EV} {rk : Nat → Option Nat} {st : Nat → ES} {K p : Nat} {tm : T EV} {ld : List LD} {qs : List QR}

theorem binds_any (e : Edge) : Region.binds .any e = bindsA e := by
  obtain ⟨on, g⟩ := e
  cases g <;> rfl
def Lst (listed : Array Bool) (k : Nat) : Prop := listed.getD k false = true
theorem lst_lt {listed : Array Bool} {k : Nat} (h : Lst listed k) : k < listed.size := by
  unfold Lst at h
  by_cases hk : k < listed.size
  · exact hk
  · simp [Array.getD_eq_getD_getElem?, Array.getElem?_eq_none (by omega : listed.size ≤ k)] at h
theorem lst_getD {listed : Array Bool} {k : Nat} (hk : k < listed.size) : listed.getD k true = false ↔ ¬ Lst listed k := by
  unfold Lst
  simp [Array.getD_eq_getD_getElem?, hk]
theorem lst_set {listed : Array Bool} {i k : Nat} (hi : i < listed.size) : Lst (listed.setIfInBounds i true) k ↔ Lst listed k ∨ k = i := by
  unfold Lst
  simp only [Array.getD_eq_getD_getElem?, Array.getElem?_setIfInBounds]
  by_cases hk : i = k
  · subst hk; simp [hi]
  · simp [hk, Ne.symm hk]
/-- One that is ready, where not all are listed. -/
theorem some_ready (H : ItsOk all its) {listed : Array Bool} (hs : listed.size = its.length) : ∀ (n : Nat), n < its.length → ¬ Lst listed n → ∃ i, i ∈ Region.ready .any all listed := by
  intro n
  induction n using Nat.strongRecOn with
  | _ n ih =>
    intro hn hl
    have hq := List.getElem?_eq_getElem hn
    by_cases h : ∃ e ∈ (its[n]).o.after.toList, bindsA e = true ∧ ¬ Lst listed e.on
    · obtain ⟨e, h1, h2, h3⟩ := h
      have := H.edge n _ hq e h1 h2
      exact ih e.on this (by omega) h3
    · refine ⟨n, mem_ready.2 ⟨(lst_getD (by omega)).2 hl, (its[n]).o, (H.at_ n _ hq).2, fun e he hb => ?_⟩⟩
      rw [binds_any] at hb
      by_cases h3 : Lst listed e.on
      · exact h3
      · exact absurd ⟨e, by simpa using he, hb, h3⟩ h
/-- How the temporaries read where some are listed. -/
structure TX (its : List DItem) (tm0 : T EV) (N : Nat) (x : Nat → EV) (listed : Array Bool) (ρ : Env) (tmps : Array Value) : Prop where
  size : tmps.size = N
  old : ∀ t y, T.get tm0 t = some y → (∀ (j : Nat) (q : DItem), Lst listed j → its[j]? = some q → q.o.dst ≠ some t) → ∃ v, tmps[t]? = some v ∧ y.den ρ = some v
  new : ∀ (j : Nat) (q : DItem) (t : Tmp), Lst listed j → its[j]? = some q → q.o.dst = some t → ∃ v, tmps[t]? = some v ∧ (x j).den ρ = some v
theorem TX.put (H : ItsOk all its) {listed : Array Bool} {ρ ρ' : Env} {a : Act} (h : TX its tm0 N x listed ρ a.tmps) (hle : ρ.le ρ') {i : Nat} {q : DItem} (hi : i < listed.size) (hq : its[i]? = some q) (hN : ∀ d, q.o.dst = some d → d < N) {v : Value} (hv : (x i).den ρ' = some v) :
    TX its tm0 N x (listed.setIfInBounds i true) ρ' (a.put q.o.dst v).tmps := by
  have up : ∀ {t : Tmp} {y : EV}, (∃ v, a.tmps[t]? = some v ∧ y.den ρ = some v) → q.o.dst ≠ some t → ∃ u, (a.put q.o.dst v).tmps[t]? = some u ∧ y.den ρ' = some u := by
    intro t y ⟨u, h1, h2⟩ hne
    refine ⟨u, ?_, den_mono hle _ _ h2⟩
    cases hd : q.o.dst with
    | none => exact h1
    | some d =>
      simp only [Act.put]
      rw [Array.getElem?_setIfInBounds, if_neg (fun e => by subst e; exact hne hd)]
      exact h1
  refine ⟨?_, fun t y hy hno => ?_, fun j qj t hj hqj ht => ?_⟩
  · rw [← h.size]
    cases q.o.dst <;> simp [Act.put]
  · refine up (h.old t y hy (fun j qj hj hqj => hno j qj ((lst_set hi).2 (.inl hj)) hqj)) (hno i q ((lst_set hi).2 (.inr rfl)) hq)
  · by_cases hji : j = i
    · subst hji
      rw [hq] at hqj; cases hqj
      have hdN := hN t ht
      refine ⟨v, ?_, hv⟩
      rw [ht]
      simp only [Act.put]
      rw [Array.getElem?_setIfInBounds, if_pos rfl, if_pos (by rw [h.size]; exact hdN)]
    · rcases (lst_set hi).1 hj with hj | hj
      · exact up (h.new j qj t hj hqj ht) (fun hd => hji (H.one j i qj q t hqj hq ht hd))
      · exact absurd hj hji
/-- What is asked at the end of the row. -/
def Fin (κ : Ctx) (P : Program) (C : CallFn) (all : Array Oper) (its : List DItem) (tm0 : T EV) (N : Nat) (st : Nat → ES) (K p : Nat) (tm : T EV) (ld : List LD) (df : List EDef) (ρ : Env) (Q : Exit → Act → World → Prop) : Prop :=
  (p = its.length ∧ Post κ P ρ N .normal tm df (st K) Q) ∨
  ∃ (q : DItem) (y : EV) (s' : ES), its[p]? = some q ∧ wanted all (restr tm (looks all q.o)) q.o.guard = some true ∧ opTab q.o.op ⟨P, C⟩ q.o (restr tm (looks all q.o)) (st K) = .pan y s' ∧ chainOk q.m ld = true ∧
    (∀ (j : Nat) (q' : DItem), p < j → its[j]? = some q' → tb q'.m p = true) ∧ Post κ P ρ N (.panic y) (clearT tm0 all.toList) df s' Q
theorem put_defers (a : Act) (d : Option Tmp) (v : Value) : (a.put d v).defers = a.defers := by cases d <;> rfl
theorem any_run (H : ItsOk all its) (hC : CSound κ P C) (hI : Inv P C all its tm0 N p x rk st K tm ld qs) {df : List EDef} {ρ0 : Env} {Q : Exit → Act → World → Prop} {ro : Option Nat} (hE : Fin κ P C all its tm0 N st K p tm ld df ρ0 Q) (hp : p ≤ its.length) :
    ∀ (fuel : Nat) (listed : Array Bool) (a : Act) (w : World) (ρ : Env) (m : Nat) (U : List Nat), listed.size = its.length → (∀ (k : Nat) (q : DItem), Lst listed k → its[k]? = some q → ∀ e ∈ q.o.after.toList, bindsA e = true → Lst listed e.on) → (∀ k, Lst listed k → k < p) →
      m ≤ K → (∀ j r, rk j = some r → (Lst listed j ↔ r ≤ m)) → S κ P ρ (st m) w → ρ0.le ρ → TX its tm0 N x listed ρ a.tmps → DR ρ df a.defers → U.length ≤ fuel → (∀ k, k < its.length → ¬ Lst listed k → k ∈ U) →
      wpAnyIn (EF P ro) 0 P .any all Q fuel listed a w := by
  have top : ∀ {listed : Array Bool} {m : Nat}, m ≤ K → (∀ j r, rk j = some r → (Lst listed j ↔ r ≤ m)) → (∀ l r, ld = l :: r → Lst listed l.i) → m = K := by
    intro listed m hm hrk hl
    have h := hI.ldr
    cases h with
    | nil => omega
    | @cons l r k q h hq hs t =>
      have := (hrk _ _ h).1 (hl l r rfl)
      omega
  have fin : ∀ (listed : Array Bool) (a : Act) (w : World) (ρ : Env) (m : Nat), listed.size = its.length → (∀ k, Lst listed k → k < p) → m ≤ K → (∀ j r, rk j = some r → (Lst listed j ↔ r ≤ m)) → S κ P ρ (st m) w → ρ0.le ρ → TX its tm0 N x listed ρ a.tmps → DR ρ df a.defers →
      Region.ready .any all listed = [] → Q .normal a w := by
    intro listed a w ρ m hsz hXp hm hrk hS hle hT hD hr
    have hall : ∀ k, k < its.length → Lst listed k := by
      intro k hk
      by_cases h : Lst listed k
      · exact h
      · obtain ⟨i, hi⟩ := some_ready H hsz k hk h
        rw [hr] at hi; cases hi
    have hpn : its.length ≤ p := by
      cases hn : its.length with
      | zero => omega
      | succ n => have := hXp n (hall n (by omega)); omega
    rcases hE with ⟨_, hQ⟩ | ⟨q, y, s', h1, _⟩
    · have hmK : m = K := top hm hrk (fun l r hl => by
        have h := hI.ldr
        rw [hl] at h
        cases h with
        | @cons _ _ k q h hq hs t => exact hall _ (List.getElem?_eq_some_iff.1 hq).1)
      subst hmK
      refine hQ ρ w a .normal hle hS ⟨hT.size, fun t y hy => ?_⟩ hD trivial
      rcases hI.tms t y hy with ⟨j, q, h1, h2, h3, rfl⟩ | ⟨h1, h2⟩
      · exact hT.new j q t (hall j (List.getElem?_eq_some_iff.1 h2).1) h2 h3
      · exact hT.old t y h1 (fun j q hj hq => h2 j q (hXp j hj) hq)
    · have := (List.getElem?_eq_some_iff.1 h1).1; omega
  intro fuel
  induction fuel with
  | zero =>
    intro listed a w ρ m U hsz hcl hXp hm hrk hS hle hT hD hU hUn
    have hU0 : U = [] := by cases U with | nil => rfl | cons _ _ => simp at hU
    subst hU0
    have hr : Region.ready .any all listed = [] := by
      cases h : Region.ready .any all listed with
      | nil => rfl
      | cons i r =>
        have hi : i ∈ Region.ready .any all listed := by rw [h]; simp
        obtain ⟨h1, o, h2, _⟩ := mem_ready.1 hi
        have hlt : i < its.length := by rw [H.len]; exact (Array.getElem?_eq_some_iff.1 h2).1
        have := hUn i hlt ((lst_getD (by omega)).1 h1)
        cases this
    exact ⟨hr, fin listed a w ρ m hsz hXp hm hrk hS hle hT hD hr⟩
  | succ fuel ih =>
    intro listed a w ρ m U hsz hcl hXp hm hrk hS hle hT hD hU hUn
    refine ⟨fun hr => fin listed a w ρ m hsz hXp hm hrk hS hle hT hD hr, fun i hi => ?_⟩
    obtain ⟨h1, o, h2, h3⟩ := mem_ready.1 hi
    have hlt : i < its.length := by rw [H.len]; exact (Array.getElem?_eq_some_iff.1 h2).1
    have hnl : ¬ Lst listed i := (lst_getD (by omega)).1 h1
    obtain ⟨q, hq⟩ : ∃ q, its[i]? = some q := ⟨_, List.getElem?_eq_getElem hlt⟩
    have hqo : o = q.o := by have := (H.at_ i q hq).2; rw [h2] at this; exact Option.some.inj this
    subst hqo
    have hedge : ∀ e ∈ q.o.after.toList, bindsA e = true → Lst listed e.on := fun e he hb => h3 e (by simpa using he) (by rw [binds_any]; exact hb)
    have hsub : ∀ j, tb q.m j = true → Lst listed j := H.sub (Lst listed) hcl i q hq hedge
    have hsubX : ∀ (k : Nat) (q' : DItem), Lst listed k → its[k]? = some q' → ∀ j, tb q'.m j = true → Lst listed j := fun k q' hk hq' => H.sub (Lst listed) hcl k q' hq' (hcl k q' hk hq')
    have hilt : i < listed.size := by omega
    -- one that reads as told
    have trOk : ∀ (tr : T EV), (∀ t y, T.get tr t = some y → (∃ (j : Nat) (q' : DItem), its[j]? = some q' ∧ q'.o.dst = some t ∧ tb q.m j = true ∧ x j = y) ∨ (T.get tm0 t = some y ∧ ∀ (j : Nat) (q' : DItem), its[j]? = some q' → q'.o.dst = some t → j = i ∨ tb q'.m i = true)) → TR ρ N tr a.tmps := by
      intro tr htr
      refine ⟨hT.size, fun t y hy => ?_⟩
      rcases htr t y hy with ⟨j, q', c1, c2, c3, rfl⟩ | ⟨c1, c2⟩
      · exact hT.new j q' t (hsub j c3) c1 c2
      · refine hT.old t y c1 (fun j q' hj hq' hd => ?_)
        rcases c2 j q' hq' hd with rfl | c
        · exact hnl hj
        · exact hnl (hsubX j q' hj hq' i c)
    by_cases hip : i < p
    · obtain ⟨tr, b, c1, c2, c3, c4, c5, c6⟩ := hI.ops i q hip hq
      have ht : TR ρ N tr a.tmps := trOk tr c1
      have next : ∀ ρ' w' v m', ρ.le ρ' → S κ P ρ' (st m') w' → (x i).den ρ' = some v → m' ≤ K → (∀ j r, rk j = some r → (Lst (listed.setIfInBounds i true) j ↔ r ≤ m')) →
          wpAnyIn (EF P ro) 0 P .any all Q fuel (listed.setIfInBounds i true) (a.put q.o.dst v) w' := by
        intro ρ' w' v m' d1 d2 d3 d4 d5
        refine ih (listed.setIfInBounds i true) (a.put q.o.dst v) w' ρ' m' (U.erase i) (by simpa using hsz) ?_ ?_ d4 d5 d2 (Env.le_trans hle d1) (hT.put H d1 hilt hq c2 d3) (by rw [put_defers]; exact hD.mono d1) ?_ ?_
        · intro k q' hk hq' e he hb
          rcases (lst_set hilt).1 hk with hk | rfl
          · exact (lst_set hilt).2 (.inl (hcl k q' hk hq' e he hb))
          · rw [hq] at hq'; cases hq'
            exact (lst_set hilt).2 (.inl (hedge e he hb))
        · intro k hk
          rcases (lst_set hilt).1 hk with hk | rfl
          · exact hXp k hk
          · exact hip
        · have : i ∈ U := hUn i hlt hnl
          rw [List.length_erase_of_mem this]; omega
        · intro k hk hk'
          have hki : k ≠ i := fun e => hk' ((lst_set hilt).2 (.inr e))
          exact (List.mem_erase_of_ne hki).2 (hUn k hk (fun h => hk' ((lst_set hilt).2 (.inl h))))
      have same : rk i = none → ∀ j r, rk j = some r → (Lst (listed.setIfInBounds i true) j ↔ r ≤ m) := by
        intro hn j r hj
        rw [lst_set hilt, ← hrk j r hj]
        constructor
        · rintro (h | rfl)
          · exact h
          · rw [hn] at hj; cases hj
        · exact .inl
      have hw := wanted_run (all := all) (a := a) (o := q.o) ht c3
      unfold wpOpIn
      rw [h2]
      simp only
      rw [hw]
      cases b with
      | false =>
        rw [if_neg (by simp)]
        obtain ⟨d1, d2, d3⟩ := c4 rfl
        exact ⟨about_ok ht d2 ro w, next ρ w undef m (Env.le_refl _) hS (by rw [d1]; rfl) hm (same d3)⟩
      | true =>
        rw [if_pos rfl]
        cases hri : rk i with
        | none =>
          obtain ⟨d1, _⟩ := c6 rfl hri
          have := d1 m hm ⟨fun j r hj hlt => (by
            cases hb : tb q.m j with
            | false => rfl
            | true => have := (hrk j r hj).1 (hsub j hb); omega), fun j r q' hj hle' hq' => (by
            cases hb : tb q'.m i with
            | false => rfl
            | true => exact absurd (hsubX j q' ((hrk j r hj).2 hle') hq' i hb) hnl)⟩
          refine opTab_val hC hS ht this (fun v w' hf => ?_)
          obtain ⟨ρ', e1, e2, e3⟩ := hf
          exact next ρ' w' v m e1 e2 e3 hm (same hri)
        | some r =>
          obtain ⟨_, r1, r2⟩ := hI.rng i r hri
          have hrm : ¬ r ≤ m := fun h => hnl ((hrk i r hri).2 h)
          have hm1 : m = r - 1 := by
            rcases hI.prev i r q hri hq with h | ⟨j, e1, e2⟩
            · omega
            · have := (hrk j _ e1).1 (hsub j e2); omega
          subst hm1
          refine opTab_val hC hS ht (.inl (c5 rfl r hri)) (fun v w' hf => ?_)
          obtain ⟨ρ', e1, e2, e3⟩ := hf
          refine next ρ' w' v r e1 e2 e3 r2 (fun j r' hj => ?_)
          rw [lst_set hilt, hrk j r' hj]
          constructor
          · rintro (h | rfl)
            · omega
            · rw [hri] at hj; cases hj; exact Nat.le_refl _
          · intro h
            by_cases hr' : r' = r
            · subst hr'; exact .inr (hI.inj j i _ hj hri)
            · exact .inl (by omega)
    · rcases hE with ⟨hpe, _⟩ | ⟨qp, y, s', e1, e2, e3, e4, e5, e6⟩
      · omega
      · by_cases hpi : i = p
        · subst hpi
          rw [hq] at e1; cases e1
          have ht : TR ρ N (restr tm (looks all q.o)) a.tmps := trOk _ (looks_tr H hI hq)
          have hmK : m = K := top hm hrk (fun l r hl => by
            rw [hl] at e4
            exact hsub _ e4)
          subst hmK
          have hw := wanted_run (all := all) (a := a) (o := q.o) ht e2
          unfold wpOpIn
          rw [h2]
          simp only
          rw [hw, if_pos rfl]
          refine opTab_pan hC hS ht e3 (fun v w' hf => ?_)
          obtain ⟨ρ', f1, f2, f3⟩ := hf
          refine e6 ρ' w' a _ (Env.le_trans hle f1) f2 ⟨hT.size, fun t z hz => ?_⟩ (hD.mono f1) ⟨v, rfl, f3⟩
          obtain ⟨g1, g2⟩ := clearT_get hz
          obtain ⟨u, g3, g4⟩ := hT.old t z g1 (fun j qj hj hqj => g2 qj.o (by
            have := (H.at_ j qj hqj).2
            have := Array.mem_of_getElem? this
            simpa using this))
          exact ⟨u, g3, den_mono f1 _ _ g4⟩
        · have := e5 i q (by omega) hq
          exact absurd (hXp p (hsub p this)) (Nat.lt_irrefl _)
end
end Go.Eva
