/-
  An evaluator of calls at closed inputs, part i: slices, literals, appending, copying.
-/
import Derived.Test.YtmeijmmfkgpamaaGreatEh
namespace Go.Eva
open Go.RowKit
set_option linter.unusedVariables false
set_option linter.unusedSimpArgs false
section
variable {κ : Ctx} {P : Program} {ρ : Env} {s s' : ES} {w : World} {N : Nat} {tm : T EV} {a : Act} {x : EV} {C : CallFn} {o : Oper}

/-! ### Slices of slices -/
theorem evO_den (ht : TR ρ N tm a.tmps) {y : Option Operand} {z : Option EV} (h : evO tm y = some z) : (y = none ∧ z = none) ∨ ∃ q v, y = some q ∧ z = some v ∧ v.den ρ = some (a.eval q) := by
  cases y with
  | none => cases h; exact .inl ⟨rfl, rfl⟩
  | some q =>
    obtain ⟨v, h1, h2⟩ := bO_some.1 (show bO (ev tm q) _ = some z from h)
    cases h2
    exact .inr ⟨q, v, rfl, rfl, ev_sound ht h1⟩
theorem nat_den {v : EV} {n : Nat} {u : Value} (h : asNat v = some n) (hd : v.den ρ = some u) : ∃ k, u = .int k (n : Int) := by
  obtain ⟨k, rfl⟩ := asNat_some h
  exact ⟨k, (Option.some.inj hd).symm⟩
theorem bound_run {k : IntKind} {i y : Nat} {code : BoundsCode} (h : i ≤ y) (w : World) : (Instr.sliceBound (.int k (i : Int)) y code).run P w = .ok i w := by
  simp [Instr.sliceBound, asIntOf, h]
theorem bounds_run {isS : Bool} {len cap l h : Nat} {m : Option Nat} {lo hi mx : Option Value} (hlo : (lo = none ∧ l = 0) ∨ ∃ k, lo = some (.int k (l : Int))) (hhi : (hi = none ∧ h = len ∧ mx = none) ∨ ∃ k, hi = some (.int k (h : Int)))
    (hmx : (mx = none ∧ m = none) ∨ ∃ k n, mx = some (.int k (n : Nat)) ∧ m = some n) (h1 : l ≤ h) (h2 : h ≤ m.getD cap) (h3 : m.getD cap ≤ cap) : (Instr.sliceBounds isS len cap lo hi mx).run P w = .ok (l, h, m.getD cap) w := by
  rcases hmx with ⟨rfl, rfl⟩ | ⟨k3, n, rfl, rfl⟩
  · simp only [Option.getD_none] at h2 h3 ⊢
    rcases hlo with ⟨rfl, rfl⟩ | ⟨k, rfl⟩ <;> rcases hhi with ⟨rfl, rfl, _⟩ | ⟨k2, rfl⟩ <;> simp [Instr.sliceBounds, bound_run h1, bound_run h2]
  · simp only [Option.getD_some] at h2 h3 ⊢
    rcases hhi with ⟨_, _, h5⟩ | ⟨k2, rfl⟩
    · cases h5
    · rcases hlo with ⟨rfl, rfl⟩ | ⟨k, rfl⟩ <;> simp [Instr.sliceBounds, bound_run h1, bound_run h2, bound_run h3]
theorem cutE_den {e : RE} {b i sz n l h : Nat} {c m : Option Nat} (he : ρ b = some e) (hsz : e.sz = sz) (hg : c = none → i + n ≤ e.cap) (h1 : l ≤ h) (h2 : h ≤ cutTop n c m) :
    (cutE b i sz n l h c m).den ρ = some (.slice (if m.getD (c.getD (e.cap - i)) = l then some ⟨e.b, e.base + i * sz, none⟩ else some ⟨e.b, e.base + i * sz + l * sz, none⟩) (h - l) (m.getD (c.getD (e.cap - i)) - l)) := by
  have hadd : e.base + i * sz + l * sz = e.base + (i + l) * sz := by rw [Nat.add_mul]; omega
  have known : ∀ T, cutE b i sz n l h c m = .sl b (cnd (Nat.beq T l) i (i + l)) sz (h - l) (some (T - l)) → m.getD (c.getD (e.cap - i)) = T → (cutE b i sz n l h c m).den ρ = some (.slice (if m.getD (c.getD (e.cap - i)) = l then some ⟨e.b, e.base + i * sz, none⟩ else some ⟨e.b, e.base + i * sz + l * sz, none⟩) (h - l) (m.getD (c.getD (e.cap - i)) - l)) := by
    intro T h3 h4
    rw [h3, h4, hadd]
    simp only [EV.den, he, Option.bind_some, hsz, true_and, reduceCtorEq, false_implies, if_true, Option.getD_some, cnd_eq, Nat.beq_eq]
    by_cases hT : T = l
    · simp [hT]
    · simp [hT]
  cases m with
  | some m => exact known m (by cases c <;> rfl) rfl
  | none =>
    cases c with
    | some k => exact known k rfl rfl
    | none =>
      have hg := hg rfl
      simp only [cutTop] at h2
      simp only [Option.getD_none]
      unfold cutE
      simp only [cnd_eq, Nat.beq_eq]
      by_cases hl0 : l = 0
      · subst hl0
        rw [if_pos rfl]
        simp only [EV.den, he, Option.bind_some, hsz, true_and, Option.getD_none]
        rw [if_pos (fun _ => by omega)]
        simp
      · rw [if_neg hl0]
        by_cases hln : l = n
        · subst hln
          rw [if_pos rfl]
          simp only [EV.den, he, Option.bind_some, hsz, true_and]
          rw [if_pos hg, hadd]
          have : h - l = 0 := by omega
          rw [this]
          by_cases hc : e.cap - i = l
          · rw [if_pos hc, if_pos hc]
          · rw [if_neg hc, if_neg hc]
        · rw [if_neg hln, if_neg (by omega), hadd]
          simp only [EV.den, he, Option.bind_some, hsz, true_and, Option.getD_none]
          rw [if_pos (fun _ => by omega), Nat.sub_sub]
theorem sliceBR {α : Type} {o' : Option α} {r : RO} {f : α → RO} {y : EV} {t : ES} (h : (Option.rec r f o' : RO) = .val y t) : (o' = none ∧ r = .val y t) ∨ ∃ z, o' = some z ∧ f z = .val y t := optRec_val h
theorem ext_toList (v : ByteArray) (l h : Nat) : (v.extract l h) = ⟨((v.data.toList.take h).drop l).toArray⟩ := by
  apply ByteArray.ext
  apply Array.ext'
  simp [ByteArray.data_extract, List.extract_eq_take_drop, List.drop_take]
theorem opSlice_sound (hS : S κ P ρ s w) (ht : TR ρ N tm a.tmps) {t : TypeId} {y : Operand} {lo hi mx : Option Operand} (ho : o.op = .slice t y lo hi mx) (h : opSlice t y lo hi mx ⟨P, C⟩ o tm s = .val x s') : DoesN κ P ρ w (execOp a.eval o) x s' := by
  obtain ⟨v, h1, h⟩ := bR_val.1 h
  obtain ⟨l', h2, h⟩ := bR_val.1 h
  obtain ⟨u', h3, h⟩ := bR_val.1 h
  obtain ⟨m', h4, h⟩ := bR_val.1 h
  rcases optRec_val h with ⟨_, h⟩ | ⟨r, h5, h⟩
  · exact pureR hS ht (by rw [ho]; simp) h
  obtain ⟨rfl, rfl⟩ := val_inj.1 h
  have hev := ev_sound ht h1
  have hex : execOp a.eval o = (do pure (Next.value (← Instr.sliceAt t (a.eval y) (lo.map a.eval) (hi.map a.eval) (mx.map a.eval)))) := by
    obtain ⟨dst, op, ty, pos, af, gd⟩ := o
    cases ho; rfl
  rw [hex]
  -- the bounds
  have hlo : ∀ n, bndLo l' = some n → (lo.map a.eval = none ∧ n = 0) ∨ ∃ k, lo.map a.eval = some (.int k (n : Int)) := by
    intro n hn
    rcases evO_den ht h2 with ⟨rfl, rfl⟩ | ⟨q, u, rfl, rfl, hd⟩
    · cases hn; exact .inl ⟨rfl, rfl⟩
    · obtain ⟨k, hk⟩ := nat_den hn hd
      exact .inr ⟨k, by rw [Option.map_some, hk]⟩
  have hmx : ∀ m, bndMx m' = some m → (mx.map a.eval = none ∧ m = none ∧ m' = none) ∨ ∃ k n, mx.map a.eval = some (.int k ((n : Nat) : Int)) ∧ m = some n := by
    intro m hm
    rcases evO_den ht h4 with ⟨rfl, rfl⟩ | ⟨q, u, rfl, rfl, hd⟩
    · cases hm; exact .inl ⟨rfl, rfl, rfl⟩
    · obtain ⟨n, hn, hm⟩ := bO_some.1 (show bO (asNat u) _ = some m from hm)
      cases hm
      obtain ⟨k, hk⟩ := nat_den hn hd
      exact .inr ⟨k, n, by rw [Option.map_some, hk], rfl⟩
  have hhi : ∀ len n, bndHi len u' = some n → (hi.map a.eval = none ∧ n = len ∧ u' = none) ∨ ((∃ k, hi.map a.eval = some (.int k (n : Int))) ∧ u'.isSome = true) := by
    intro len n hn
    rcases evO_den ht h3 with ⟨rfl, rfl⟩ | ⟨q, u, rfl, rfl, hd⟩
    · cases hn; exact .inl ⟨rfl, rfl, rfl⟩
    · obtain ⟨k, hk⟩ := nat_den hn hd
      exact .inr ⟨⟨k, by rw [Option.map_some, hk]⟩, rfl⟩
  cases v with
  | sl b i sz n c =>
    obtain ⟨e, q1, h5⟩ := bO_some.1 (show bO (slT P t) _ = some _ from h5)
    obtain ⟨sz', q2, h5⟩ := bO_some.1 h5
    obtain ⟨q3, h5⟩ := cnd_none.1 h5
    obtain ⟨nl, q4, h5⟩ := bO_some.1 h5
    obtain ⟨nh, q5, h5⟩ := bO_some.1 h5
    obtain ⟨nm, q6, h5⟩ := bO_some.1 h5
    obtain ⟨q7, h5⟩ := cnd_none.1 (show cnd _ (some (cutE b i sz n nl nh c nm)) none = some _ from h5)
    obtain ⟨q7, q8⟩ := band.1 q7
    obtain ⟨q7, q9⟩ := band.1 q7
    have q8 := ble_le q8
    have q9 := ble_le q9
    have q3 := beq_n q3
    cases h5
    subst q3
    obtain ⟨re, hr, hsz, hcap, hv⟩ := den_sl hev
    have htop : cutTop n c nm ≤ nm.getD (c.getD (re.cap - i)) ∧ nm.getD (c.getD (re.cap - i)) ≤ c.getD (re.cap - i) := by
      cases nm with
      | some m =>
        refine ⟨Nat.le_refl _, ?_⟩
        cases c with
        | some k => exact ble_le (band.1 q7).1
        | none => have := ble_le (band.1 q7).1; have := hcap rfl; simp only [Option.getD_some, Option.getD_none]; omega
      | none =>
        cases c with
        | some k => exact ⟨Nat.le_refl _, Nat.le_refl _⟩
        | none => have := hcap rfl; simp only [cutTop, Option.getD_none]; omega
    have hrun := bounds_run (P := P) (w := w) (isS := true) (len := n) (cap := c.getD (re.cap - i)) (hlo _ q4) (by
      rcases hhi _ _ q5 with ⟨z1, z2, z3⟩ | ⟨z1, _⟩
      · refine .inl ⟨z1, z2, ?_⟩
        rcases hmx _ q6 with ⟨z4, _, _⟩ | ⟨k, m, z4, z5⟩
        · exact z4
        · exfalso
          subst z5
          rw [z3] at q7
          cases c <;> (have := (band.1 q7).2; cases this)
      · exact .inr z1) ((hmx _ q6).imp (fun ⟨z1, z2, _⟩ => ⟨z1, z2⟩) id) q8 (Nat.le_trans q9 htop.1) htop.2
    rw [hv]
    refine Does.next (Does.val hS ?_ (cutE_den hr hsz hcap q8 q9))
    simp only [Instr.sliceAt, Sem.run_bind, run_und (und_slT q1), Result.andThen_ok, Instr.slice, hrun, run_szT q2, Sem.run_pure, Option.map_some, Addr.add_lit]
  | se b i j sz =>
    obtain ⟨e, q1, h5⟩ := bO_some.1 (show bO (slT P t) _ = some _ from h5)
    obtain ⟨szn, q2, h5⟩ := bO_some.1 h5
    obtain ⟨q3, h5⟩ := cnd_none.1 h5
    obtain ⟨nl, q4, h5⟩ := bO_some.1 h5
    obtain ⟨nh, q5, h5⟩ := bO_some.1 h5
    obtain ⟨q7, h5⟩ := cnd_none.1 h5
    obtain ⟨q7, q8⟩ := band.1 q7
    have q7 := beq_n q7
    have q8 := beq_n q8
    subst q7; subst q8
    cases h5
    have hmx0 : mx.map a.eval = none := by
      rcases evO_den ht h4 with ⟨rfl, rfl⟩ | ⟨q, u, rfl, rfl, hd⟩
      · rfl
      · cases q3
    have hev2 := hev
    simp only [EV.den, Option.bind_eq_some_iff] at hev
    obtain ⟨re, hr, hev⟩ := hev
    split at hev
    · rename_i hg
      have hv := Option.some.inj hev
      have hrun := bounds_run (P := P) (w := w) (isS := true) (len := 0) (cap := re.cap - i - j) (m := none) (hlo _ q4) (by
        rcases hhi _ _ q5 with ⟨z1, z2, z3⟩ | ⟨z1, _⟩
        · exact .inl ⟨z1, z2, hmx0⟩
        · exact .inr z1) (.inl ⟨hmx0, rfl⟩) (Nat.le_refl 0) (Nat.zero_le _) (Nat.le_refl _)
      refine Does.next (Does.val (v := a.eval y) hS ?_ hev2)
      rw [← hv]
      simp only [Instr.sliceAt, Sem.run_bind, run_und (und_slT q1), Result.andThen_ok, Instr.slice, hrun, run_szT q2, Sem.run_pure, Option.map_some, Option.getD_none, Nat.zero_mul, Addr.add_zero', Nat.sub_zero]
      congr 2
      split <;> rfl
    · cases hev
  | raw vv =>
    cases vv <;> first | (cases h5; done) | skip
    rename ByteArray => v
    obtain ⟨q1, h5⟩ := cnd_none.1 (show cnd (strT P t && m'.isNone) _ none = some _ from h5)
    obtain ⟨q1, q2⟩ := band.1 q1
    obtain ⟨nl, q4, h5⟩ := bO_some.1 h5
    obtain ⟨nh, q5, h5⟩ := bO_some.1 h5
    obtain ⟨q7, h5⟩ := cnd_none.1 (show cnd (Nat.ble nl nh && Nat.ble nh v.data.toList.length) _ none = some _ from h5)
    obtain ⟨q7, q8⟩ := band.1 q7
    have q7 := ble_le q7
    have q8 := ble_le q8
    cases h5
    have hmx0 : mx.map a.eval = none := by
      rcases evO_den ht h4 with ⟨rfl, rfl⟩ | ⟨q, u, rfl, rfl, hd⟩
      · rfl
      · cases q2
    have hlen : v.data.toList.length = v.size := by rw [Array.length_toList]; rfl
    rw [hlen] at q5 q8
    have hy : a.eval y = .string v := (Option.some.inj hev).symm
    have hrun := bounds_run (P := P) (w := w) (isS := false) (len := v.size) (cap := v.size) (m := none) (hlo _ q4) (by
      rcases hhi _ _ q5 with ⟨z1, z2, z3⟩ | ⟨z1, _⟩
      · exact .inl ⟨z1, z2, hmx0⟩
      · exact .inr z1) (.inl ⟨hmx0, rfl⟩) q7 q8 (Nat.le_refl _)
    rw [hy, hmx0] at *
    refine Does.next (Does.val (v := .string (v.extract nl nh)) hS ?_ (by rw [ext_toList]; rfl))
    simp only [Instr.sliceAt, Sem.run_bind, run_und (und_strT q1), Result.andThen_ok, Instr.slice, Option.isSome_none, Bool.false_eq_true, if_false, hrun, Sem.run_pure]
  | _ => cases h5
end
end Go.Eva
