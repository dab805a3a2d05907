/-
  Texts Hn, Ho, Hp, Hq, Hr, Hs, one behind the other.
-/
import Derived.Test.YtgoofaeifbfblaaGreatG9
set_option linter.unusedVariables false
set_option linter.unusedSimpArgs false
/-
  Walks: chapter 13, signs between nodes.
-/


namespace Go.Proofs.YtgoofaeifbfblaaGreat
open Go.Abs
set_option linter.unusedVariables false
set_option linter.unusedSimpArgs false
variable {κ : Ctx} {σ : List Res} {K : Ret → List Res → Prop} {o o' : Option (Option (Nat × Nat))}
abbrev EDA (k : (Int × Int) × Bool) : AV := .agg [I k.1.1, I k.1.2, B k.2]
set_option maxHeartbeats 8000000 in
theorem jAny {v : TrV} (hK : K (.ret (B (anyT v))) σ) : ACallF κ Tryz.prog 80 [TrA v] σ K := by
  unfold anyT emptyS at hK
  have e1 : (v.a.toList == ({ data := #[] } : ByteArray).toList) = true ∨ (v.a.toList == ({ data := #[] } : ByteArray).toList) = false := by cases (v.a.toList == ({ data := #[] } : ByteArray).toList) <;> simp
  refine ACallF.dropL (ACallF_intro Tryz.func80 rfl ?_)
  simp only [Tryz.ntmps80]
  repeat' (first | simp only [WL, strF, WM, Nat.reduceAdd, Nat.reduceSub, Nat.reduceEqDiff, Bool.not_false, true_and, reduceIte, Bool.false_eq_true, T9, fR fl133_0, fR fl133_1, Tryz.results80] | (with_reducible first | refine andA (hb := ?_) | refine y_load (hK := ?_) | refine y_box (hK := fun b => ?_)) | ((with_reducible first | refine grd_cases (fun h => ?_) (fun h => ?_) | refine condC_split (fun h => ?_) (fun h => ?_)) <;> (try simp only [h]) <;> (try simp only [NR_, NRb] at h)))
  · exact leafL (sub_cons sub_rfl) (leT_eq (by rw [beq_iff_eq.2 (by assumption : v.a.toList = ({ data := #[] } : ByteArray).toList)]; rfl)) hK
  · exact leafL (sub_cons sub_rfl) (leT_eq (by rw [beq_eq_false_iff_ne.2 (by assumption : ¬ v.a.toList = ({ data := #[] } : ByteArray).toList)]; rfl)) hK
set_option maxHeartbeats 8000000 in
theorem jLoose {b ix : Nat} {ls : List Ln} {n d : Int} {bk : Bool} {x y : AV} [hJ : Hold σ b ix (JC ls n bk d x y)] {p : Int × Int} {c : Int} (hs : Small ls) (hp : In64 p.1 ∧ In64 p.2) (hK : K (.ret (B (looseF ls p c))) σ) :
    ACallF κ Tryz.prog 157 [JP b, PLA p, I c] σ K := by
  have hr := restF_len (p := p) hs
  unfold looseF headF at hK
  refine ACallF.dropL (ACallF_intro Tryz.func157 rfl ?_)
  simp only [Tryz.ntmps157]
  repeat' (first | simp only [WL, intF, WM, Int.reduceToNat, reduceCtorEq, WLb, Nat.reduceAdd, Nat.reduceSub, Nat.reduceLeDiff, Bool.not_true, true_and, reduceIte, Bool.false_eq_true, T3, T39, cok33, cok127, Tryz.results157] | simp (disch := first | omega | (simp only [LN_]; omega)) only [getI] | (with_reducible first | refine andA (hb := ?_) | refine y_loadA (hK := ?_) | refine y_box (hK := fun b => ?_) | refine cD (jRest hs hp ?_) | refine cD (pSafeAt (i := 1) ?_ ?_ ?_)) | ((with_reducible first | refine grd_cases (fun h => ?_) (fun h => ?_) | refine condC_split (fun h => ?_) (fun h => ?_)) <;> (try simp only [h]) <;> (try simp only [NR_, NRb] at h)) | omega)
  · rw [decide_eq_true (by omega), beq_iff_eq.2 (by assumption : (restF ls p).getD 0 0 = c)] at hK
    exact leafL (sub_cons sub_rfl) (leT_eq rfl) hK
  · rw [beq_eq_false_iff_ne.2 (by assumption : ¬ (restF ls p).getD 0 0 = c), Bool.and_false] at hK
    exact leafL (sub_cons sub_rfl) (leT_eq rfl) hK
  · rw [decide_eq_false (by omega)] at hK
    exact leafL (sub_cons sub_rfl) (leT_eq rfl) hK
instance : TTwo Tryz.prog 67 := ⟨⟨_, _, _, _, Tryz.underlying67, by decide, by decide, rfl, rfl, Tryz.underlying3, Tryz.underlying3, ag3, ag3⟩, by decide +kernel, by decide +kernel⟩
set_option maxHeartbeats 8000000 in
theorem place_eq {a b : Int × Int} : (a.1 == b.1 && a.2 == b.2) = decide (a = b) := by
  rw [Bool.eq_iff_iff]; simp [Prod.ext_iff]
set_option maxHeartbeats 8000000 in
theorem jSign {b ix : Nat} {ls : List Ln} {n d : Int} {bk : Bool} {x y : AV} [hJ : Hold σ b ix (JC ls n bk d x y)] {p : Int × Int} {k : (Int × Int) × Bool} (hs : Small ls) (hp : In64 p.1 ∧ In64 p.2) (hK : K (.ret (B (signF ls p k))) σ) :
    ACallF κ Tryz.prog 160 [JP b, PLA p, EDA k] σ K := by
  unfold signF at hK
  cases h1 : looseF ls p 58 <;> cases h2 : isF ls p 58 <;> cases h3 : k.2
  all_goals
    rw [h1, h2, h3] at hK
    refine ACallF.dropL (ACallF_intro Tryz.func160 rfl ?_)
    simp only [Tryz.ntmps160]
    repeat' (first | ( with_reducible refine y_eq_two ?_) | simp only [WL, WM, Nat.reduceAdd, Nat.reduceSub, Nat.reduceEqDiff, true_and, reduceIte, Bool.false_eq_true, T4, T67, fR fl111_0, fR fl111_1, cok125, cok157, Tryz.results160, h1, h2, h3, place_eq] | (with_reducible first | refine andA (hb := ?_) | refine y_load (hK := ?_) | refine y_loadA (hK := ?_) | refine y_box (hK := fun b => ?_) | refine cD (jLoose hs hp ?_) | refine cD (jIs hs hp ?_)))
  all_goals first
    | exact leafL (sub_cons (sub_cons sub_rfl)) (leT_eq rfl) hK
    | exact leafL (sub_cons (sub_cons sub_rfl)) (leT_eq (congrArg B (by simp))) hK
    | trace_state
set_option maxHeartbeats 8000000 in
theorem must_q {ls : List Ln} {n : Int} {p q : Int × Int} (hs : Small ls) (h : mustF ls n p = .ok q) : Le2 p q ∧ Pl ls q ∧ 0 < (restF ls q).length ∧ blankAt (restF ls q) = false := by
  unfold mustF at h
  split at h
  · cases h
  · cases h
  · rename_i q' hq
    cases h
    obtain ⟨h1, h2, h3⟩ := onF_q hs hq
    exact ⟨h1, Pl.of_rest hs h2, h2, h3⟩
set_option maxHeartbeats 8000000 in
theorem must_mu {ls : List Ln} {n : Int} {p q : Int × Int} (hs : Small ls) (h : mustF ls n p = .ok q) (hp : 0 ≤ p.2) : mu q ≤ mu p := by
  obtain ⟨h1, h2, -⟩ := must_q hs h
  unfold Pl at h2
  exact mu_mono h1 h2.2.2.1 hp
abbrev PlW (p : Int × Int) : Prop := 0 ≤ p.1 ∧ p.1 ≤ 1000000000 ∧ In64 p.2 ∧ 0 ≤ p.2
set_option maxHeartbeats 8000000 in
theorem Pl.w {ls : List Ln} {p : Int × Int} (hs : Small ls) (h : Pl ls p) : PlW p := by
  have := hs.1
  unfold Pl at h
  unfold PlW
  omega
set_option maxHeartbeats 8000000 in
theorem Pl.w1 {ls : List Ln} {p : Int × Int} (hs : Small ls) (h : Pl ls p) : PlW (p.1, p.2 + 1) := by
  have := hs.1
  unfold Pl at h
  unfold PlW
  dsimp only
  omega
set_option maxHeartbeats 8000000 in
theorem Pl.in64 {ls : List Ln} {p : Int × Int} (hs : Small ls) (h : Pl ls p) : In64 p.1 ∧ In64 p.2 := by
  have := hs.1
  unfold Pl at h
  exact ⟨by omega, by omega⟩
set_option maxHeartbeats 8000000 in
theorem PlW.in64 {p : Int × Int} (h : PlW p) : In64 p.1 ∧ In64 p.2 := ⟨by have := h.1; have := h.2.1; omega, h.2.2.1⟩
set_option maxHeartbeats 8000000 in
theorem jMustF {bj ix : Nat} {ls : List Ln} {n d : Int} {bk : Bool} {x y : AV} [hJ : Hold σ bj ix (JC ls n bk d x y)] {p : Int × Int} (hs : Small ls) (hp : PlW p)
    (h1 : ∀ q, mustF ls n p = .ok q → K (.ret (PLA q)) σ) (h2 : ∀ e, mustF ls n p = .error e → K (.pan (wrongC e)) σ) : ACallF κ Tryz.prog 124 [JP bj, PLA p] σ K :=
  jMust hs hp (fun q h => h1 q (by unfold mustF; rw [h])) (fun h => h2 2 (by unfold mustF; rw [h])) (fun h => h2 7 (by unfold mustF; rw [h]))
set_option maxHeartbeats 8000000 in
theorem jMustOk {bj ix : Nat} {ls : List Ln} {n d : Int} {bk : Bool} {x y : AV} [hJ : Hold σ bj ix (JC ls n bk d x y)] {p q : Int × Int} (hm : mustF ls n p = .ok q) (hs : Small ls) (hp : PlW p) (hK : K (.ret (PLA q)) σ) : ACallF κ Tryz.prog 124 [JP bj, PLA p] σ K :=
  jMustF hs hp (fun q' h => by rw [hm] at h; cases h; exact hK) (fun e h => by rw [hm] at h; cases h)
set_option maxHeartbeats 8000000 in
theorem jMustEr {bj ix : Nat} {ls : List Ln} {n d e : Int} {bk : Bool} {x y : AV} [hJ : Hold σ bj ix (JC ls n bk d x y)] {p : Int × Int} (hm : mustF ls n p = .error e) (hs : Small ls) (hp : PlW p) (hK : K (.pan (wrongC e)) σ) : ACallF κ Tryz.prog 124 [JP bj, PLA p] σ K :=
  jMustF hs hp (fun q' h => by rw [hm] at h; cases h) (fun e h => by rw [hm] at h; cases h; exact hK)
def GoodN (ls : List Ln) (N : Int × Int → NodeR) : Prop := ∀ p ev e t, Pl ls p → N p = .ok (ev, e, t) → Le2 p e ∧ Pl ls e ∧ ev.length + 4 + 8 * mu e ≤ 8 * mu p ∧ 0 < ev.length
def NodeC (κ : Ctx) (bj : Nat) (ls : List Ln) (n d : Int) (bk : Bool) (N : Int × Int → NodeR) (k : Nat) : Prop :=
  ∀ {x y : AV} {op : List Int} {l : List EvV} {τ σ0 : List Res} {p : Int × Int} {K : Ret → List Res → Prop}, op.length = k → JX x y op l τ σ0 → Pl ls p → l.length + 8 * mu p + 8 ≤ 1000000000 →
    (∀ ev e t, N p = .ok (ev, e, t) → ∀ x' y' τ', JX x' y' op (l ++ ev) τ' σ0 → K (.ret (EDA (e, t))) (.obj bj (JC ls n bk d x' y') :: τ')) →
    (∀ e, N p = .error e → ∀ x' y' op' l' τ', JX x' y' op' l' τ' σ0 → K (.pan (wrongC e)) (.obj bj (JC ls n bk d x' y') :: τ')) →
    ACallF κ Tryz.prog 54 [JP bj, PLA p] (.obj bj (JC ls n bk d x y) :: τ) K
set_option maxHeartbeats 8000000 in
theorem jNodeN {bj k : Nat} {ls : List Ln} {n d : Int} {bk : Bool} {N : Int × Int → NodeR} {x y : AV} {op : List Int} {l : List EvV} {ρ τ σ0 : List Res} {p : Int × Int} (hN : NodeC κ bj ls n d bk N k) (hk : op.length = k) [hS : Split σ bj ρ (JC ls n bk d x y) τ] (hJ : JX x y op l τ σ0) (hp : Pl ls p) (hb : l.length + 8 * mu p + 8 ≤ 1000000000)
    (h1 : ∀ ev e t, N p = .ok (ev, e, t) → ∀ x' y' τ', JX x' y' op (l ++ ev) τ' σ0 → K (.ret (EDA (e, t))) (ρ ++ .obj bj (JC ls n bk d x' y') :: τ'))
    (h2 : ∀ e, N p = .error e → ∀ x' y' op' l' τ', JX x' y' op' l' τ' σ0 → K (.pan (wrongC e)) (ρ ++ .obj bj (JC ls n bk d x' y') :: τ')) :
    ACallF κ Tryz.prog 54 [JP bj, PLA p] σ K :=
  ACallF.at_ (b := bj) (hN hk hJ hp hb h1 h2)
set_option maxHeartbeats 8000000 in
theorem jNodeOk {bj k : Nat} {ls : List Ln} {n d : Int} {bk : Bool} {N : Int × Int → NodeR} {x y : AV} {op : List Int} {l ev : List EvV} {ρ τ σ0 : List Res} {p e : Int × Int} {t : Bool} (hN : NodeC κ bj ls n d bk N k) (hn : N p = .ok (ev, e, t)) (hk : op.length = k) [hS : Split σ bj ρ (JC ls n bk d x y) τ] (hJ : JX x y op l τ σ0) (hp : Pl ls p) (hb : l.length + 8 * mu p + 8 ≤ 1000000000)
    (h1 : ∀ x' y' τ', JX x' y' op (l ++ ev) τ' σ0 → K (.ret (EDA (e, t))) (ρ ++ .obj bj (JC ls n bk d x' y') :: τ')) : ACallF κ Tryz.prog 54 [JP bj, PLA p] σ K :=
  jNodeN hN hk hJ hp hb (fun ev' e' t' h => by rw [hn] at h; cases h; exact h1) (fun e' h => by rw [hn] at h; cases h)
set_option maxHeartbeats 8000000 in
theorem jNodeEr {bj k : Nat} {ls : List Ln} {n d e : Int} {bk : Bool} {N : Int × Int → NodeR} {x y : AV} {op : List Int} {l : List EvV} {ρ τ σ0 : List Res} {p : Int × Int} (hN : NodeC κ bj ls n d bk N k) (hn : N p = .error e) (hk : op.length = k) [hS : Split σ bj ρ (JC ls n bk d x y) τ] (hJ : JX x y op l τ σ0) (hp : Pl ls p) (hb : l.length + 8 * mu p + 8 ≤ 1000000000)
    (h2 : ∀ x' y' op' l' τ', JX x' y' op' l' τ' σ0 → K (.pan (wrongC e)) (ρ ++ .obj bj (JC ls n bk d x' y') :: τ')) : ACallF κ Tryz.prog 54 [JP bj, PLA p] σ K :=
  jNodeN hN hk hJ hp hb (fun ev' e' t' h => by rw [hn] at h; cases h) (fun e' h => by rw [hn] at h; cases h; exact h2)
set_option maxHeartbeats 8000000 in
theorem mu_step {ls : List Ln} {p : Int × Int} (hs : Small ls) (h : Pl ls p) : mu (p.1, p.2 + 1) + 1 = mu p := by
  have := hs.1
  unfold Pl at h
  exact mu_add (k := 1) h.2.2.1 (by omega) (by omega)
set_option maxHeartbeats 8000000 in
theorem jValue0 {bj : Nat} {ls : List Ln} {n d : Int} {bk : Bool} {N : Int × Int → NodeR} {x y : AV} {op : List Int} {l : List EvV} {τ σ0 : List Res} {key : (Int × Int) × Bool} {c : Int} (hN : NodeC κ bj ls n d bk N op.length) (hJ : JX x y op l τ σ0) (hs : Small ls) (hp : Pl ls key.1) (hb : l.length + 8 * mu key.1 + 8 ≤ 1000000000)
    (h1 : ∀ ev e, valueF ls n N key c = .ok (ev, e) → ∀ x' y' τ', JX x' y' op (l ++ ev) τ' σ0 → K (.ret (PLA e)) (.obj bj (JC ls n bk d x' y') :: τ'))
    (h2 : ∀ e, valueF ls n N key c = .error e → ∀ x' y' op' l' τ', JX x' y' op' l' τ' σ0 → K (.pan (wrongC e)) (.obj bj (JC ls n bk d x' y') :: τ')) : ACallF κ Tryz.prog 158 [JP bj, EDA key, I c] (.obj bj (JC ls n bk d x y) :: τ) K := by
  have hpw := hp.w hs
  have hll : l.length ≤ 1000000000 := by omega
  rw [valueF] at h1 h2
  cases hm : mustF ls n key.1 with
  | error e =>
    rw [hm] at h2
    refine ACallF.dropL (ACallF_intro Tryz.func158 rfl ?_)
    simp only [Tryz.ntmps158]
    repeat' (first | simp only [WL, WM, Nat.reduceAdd, Nat.reduceSub, Nat.reduceEqDiff, true_and, T67, fR fl111_0, cok124] | (with_reducible first | refine andA (hb := ?_) | refine y_loadA (hK := ?_) | refine y_box (hK := fun b => ?_) | refine y_new (hK := fun b => ?_) | refine cD (jMustEr (p := key.1) hm hs hpw ?_)))
    exact leafP (by repeat (first | exact sub_rfl | refine sub_cons ?_)) rfl (h2 _ rfl _ _ _ _ _ hJ)
  | ok p =>
    rw [hm] at h1 h2
    dsimp only at h1 h2
    obtain ⟨a1, a2, a3, a4⟩ := must_q hs hm
    have a5 := must_mu hs hm hp.2.2.1
    have a6 := mu_step hs a2
    have p64 := a2.in64 hs
    have pw1 := a2.w1 hs
    cases hsg : signF ls p key
    · rw [if_pos hsg] at h1 h2
      refine ACallF.dropL (ACallF_intro Tryz.func158 rfl ?_)
      simp only [Tryz.ntmps158]
      repeat' (first | simp only [WL, WM, Nat.reduceAdd, Nat.reduceSub, Nat.reduceEqDiff, Bool.not_false, true_and, T67, fR fl111_0, cok87, cok124, cok160, Tryz.results158, hsg] | (with_reducible first | refine andA (hb := ?_) | refine y_loadA (hK := ?_) | refine y_storeA (hK := ?_) | refine y_box (hK := fun b => ?_) | refine y_new (hK := fun b => ?_) | refine y_build (hK := ?_) | refine cD (jMustOk (p := key.1) hm hs hpw ?_) | refine cD (jSign (p := p) (k := key) hs p64 ?_) | refine cD (jEmpty (v := tr0) hJ hll (fun y' τ' hJ' => ?_))) | ((with_reducible refine resL_id ?_); apply res_c (hf := Tryz.results158); exact y_load2))
      exact leafL (by repeat (first | exact sub_rfl | refine sub_cons ?_)) (leT_eq rfl) (h1 _ _ rfl _ _ _ (by assumption))
    · rw [if_neg (by rw [hsg]; decide)] at h1 h2
      cases hm2 : mustF ls n (p.1, p.2 + 1) with
      | error e =>
        rw [hm2] at h2
        refine ACallF.dropL (ACallF_intro Tryz.func158 rfl ?_)
        simp only [Tryz.ntmps158]
        repeat' (first | simp only [WL, WM, Nat.reduceAdd, Nat.reduceSub, Nat.reduceEqDiff, Bool.not_true, true_and, T67, fR fl111_0, cok55, cok124, cok160, hsg] | (with_reducible first | refine andA (hb := ?_) | refine y_loadA (hK := ?_) | refine y_storeA (hK := ?_) | refine y_box (hK := fun b => ?_) | refine y_new (hK := fun b => ?_) | refine cD (jMustEr (p := (p.1, p.2 + 1)) hm2 hs pw1 ?_) | refine cD (jMustOk (p := key.1) hm hs hpw ?_) | refine cD (jSign (p := p) (k := key) hs p64 ?_) | refine cD (jBehind ?_ ?_)) | omega)
        exact leafP (by repeat (first | exact sub_rfl | refine sub_cons ?_)) rfl (h2 _ rfl _ _ _ _ _ hJ)
      | ok q =>
        rw [hm2] at h1 h2
        dsimp only at h1 h2
        obtain ⟨c1, c2, c3, c4⟩ := must_q hs hm2
        have c5 := must_mu hs hm2 pw1.2.2.2
        have q64 := c2.in64 hs
        cases hi : (isF ls q 44 || isF ls q c)
        · rw [if_neg (by rw [hi]; decide)] at h1 h2
          have hi1 : isF ls q 44 = false := by cases e : isF ls q 44 <;> simp_all
          have hi2 : isF ls q c = false := by cases e : isF ls q c <;> simp_all
          cases hn : N q with
          | error e =>
            rw [hn] at h2
            refine ACallF.dropL (ACallF_intro Tryz.func158 rfl ?_)
            simp only [Tryz.ntmps158]
            repeat' (first | simp only [WL, WM, Nat.reduceAdd, Nat.reduceSub, Nat.reduceEqDiff, Bool.not_true, true_and, reduceIte, Bool.false_eq_true, T67, fR fl111_0, cok54, cok55, cok124, cok125, cok160, hsg, hi1, hi2] | (with_reducible first | refine andA (hb := ?_) | refine y_loadA (hK := ?_) | refine y_storeA (hK := ?_) | refine y_box (hK := fun b => ?_) | refine y_new (hK := fun b => ?_) | refine cD (jMustOk (p := (p.1, p.2 + 1)) hm2 hs pw1 ?_) | refine cD (jMustOk (p := key.1) hm hs hpw ?_) | refine cD (jSign (p := p) (k := key) hs p64 ?_) | refine cD (jIs (p := q) hs q64 ?_) | refine cD (jNodeEr hN hn rfl hJ c2 (by omega) (fun x' y' op' l' τ' hJ' => ?_)) | refine cD (jBehind ?_ ?_)) | omega)
            exact leafP (by repeat (first | exact sub_rfl | refine sub_cons ?_)) rfl (h2 _ rfl _ _ _ _ _ (by assumption))
          | ok r =>
            obtain ⟨ev, e, tt⟩ := r
            rw [hn] at h1
            refine ACallF.dropL (ACallF_intro Tryz.func158 rfl ?_)
            simp only [Tryz.ntmps158]
            repeat' (first | simp only [WL, WM, Nat.reduceAdd, Nat.reduceSub, Nat.reduceEqDiff, Bool.not_true, true_and, reduceIte, Bool.false_eq_true, T67, fR fl111_0, fA fl111_0 ag67 sz67, cok54, cok55, cok124, cok125, cok160, Tryz.results158, hsg, hi1, hi2] | (with_reducible first | refine andA (hb := ?_) | refine y_loadA (hK := ?_) | refine y_storeA (hK := ?_) | refine y_box (hK := fun b => ?_) | refine y_new (hK := fun b => ?_) | refine cD (jMustOk (p := (p.1, p.2 + 1)) hm2 hs pw1 ?_) | refine cD (jMustOk (p := key.1) hm hs hpw ?_) | refine cD (jSign (p := p) (k := key) hs p64 ?_) | refine cD (jIs (p := q) hs q64 ?_) | refine cD (jNodeOk hN hn rfl hJ c2 (by omega) (fun x' y' τ' hJ' => ?_)) | refine cD (jBehind ?_ ?_)) | ((with_reducible refine resL_id ?_); apply res_c (hf := Tryz.results158); exact y_load2) | omega)
            exact leafL (by repeat (first | exact sub_rfl | refine sub_cons ?_)) (leT_eq rfl) (h1 _ _ rfl _ _ _ (by assumption))
        · rw [if_pos hi] at h1 h2
          rcases (Bool.or_eq_true _ _).mp hi with hi1 | hi1
          · skip
            refine ACallF.dropL (ACallF_intro Tryz.func158 rfl ?_)
            simp only [Tryz.ntmps158]
            repeat' (first | simp only [WL, WM, Nat.reduceAdd, Nat.reduceSub, Nat.reduceEqDiff, Bool.not_true, true_and, reduceIte, T67, fR fl111_0, cok55, cok87, cok124, cok125, cok160, Tryz.results158, hsg, hi1] | (with_reducible first | refine andA (hb := ?_) | refine y_loadA (hK := ?_) | refine y_storeA (hK := ?_) | refine y_box (hK := fun b => ?_) | refine y_new (hK := fun b => ?_) | refine y_build (hK := ?_) | refine cD (jMustOk (p := (p.1, p.2 + 1)) hm2 hs pw1 ?_) | refine cD (jMustOk (p := key.1) hm hs hpw ?_) | refine cD (jSign (p := p) (k := key) hs p64 ?_) | refine cD (jIs (p := q) hs q64 ?_) | refine cD (jEmpty (v := tr0) hJ hll (fun y' τ' hJ' => ?_)) | refine cD (jBehind ?_ ?_)) | ((with_reducible refine resL_id ?_); apply res_c (hf := Tryz.results158); exact y_load2) | omega)
            exact leafL (by repeat (first | exact sub_rfl | refine sub_cons ?_)) (leT_eq rfl) (h1 _ _ rfl _ _ _ (by assumption))
          · skip
            refine ACallF.dropL (ACallF_intro Tryz.func158 rfl ?_)
            simp only [Tryz.ntmps158]
            repeat' (first | simp only [WL, WM, Nat.reduceAdd, Nat.reduceSub, Nat.reduceEqDiff, Bool.not_true, Bool.not_false, true_and, reduceIte, Bool.false_eq_true, T67, fR fl111_0, cok55, cok87, cok124, cok125, cok160, Tryz.results158, hsg, hi1] | (with_reducible first | refine andA (hb := ?_) | refine y_loadA (hK := ?_) | refine y_storeA (hK := ?_) | refine y_box (hK := fun b => ?_) | refine y_new (hK := fun b => ?_) | refine y_build (hK := ?_) | refine cD (jMustOk (p := (p.1, p.2 + 1)) hm2 hs pw1 ?_) | refine cD (jMustOk (p := key.1) hm hs hpw ?_) | refine cD (jSign (p := p) (k := key) hs p64 ?_) | refine cD (jIs (p := q) hs q64 ?_) | refine cD (jEmpty (v := tr0) hJ hll (fun y' τ' hJ' => ?_)) | refine cD (jBehind ?_ ?_)) | ((with_reducible refine resL_id ?_); apply res_c (hf := Tryz.results158); exact y_load2) | ((with_reducible first | refine grd_cases (fun h => ?_) (fun h => ?_) | refine condC_split (fun h => ?_) (fun h => ?_)) <;> (try simp only [h]) <;> (try simp only [NR_, NRb] at h)) | omega)
            all_goals exact leafL (by repeat (first | exact sub_rfl | refine sub_cons ?_)) (leT_eq rfl) (h1 _ _ rfl _ _ _ (by assumption))
set_option maxHeartbeats 8000000 in
theorem value_good {ls : List Ln} {n : Int} {N : Int × Int → NodeR} {key : (Int × Int) × Bool} {c : Int} {ev : List EvV} {e : Int × Int} (hs : Small ls) (hN : GoodN ls N) (hp : Pl ls key.1) (h : valueF ls n N key c = .ok (ev, e)) :
    Le2 key.1 e ∧ Pl ls e ∧ ev.length + 8 * mu e ≤ 8 * mu key.1 + 1 := by
  unfold valueF at h
  split at h
  · cases h
  · rename_i p hm
    obtain ⟨a1, a2, a3, a4⟩ := must_q hs hm
    have a5 := must_mu hs hm hp.2.2.1
    split at h
    · cases h
      exact ⟨Le2.rfl_, hp, by simp; omega⟩
    · have a6 := mu_step hs a2
      have a7 := Pl.behind (n := 1) hs a3 (by omega)
      have a8 : Le2 key.1 (p.1, p.2 + 1) := a1.trans (.inr ⟨rfl, by dsimp only; omega⟩)
      split at h
      · cases h
      · rename_i q hm2
        obtain ⟨c1, c2, c3, c4⟩ := must_q hs hm2
        have c5 := must_mu hs hm2 a7.2.2.1
        split at h
        · cases h
          exact ⟨a8, a7, by simp; omega⟩
        · split at h
          · cases h
          · rename_i hn
            cases h
            obtain ⟨d1, d2, d3, d4⟩ := hN _ _ _ _ c2 hn
            exact ⟨(a8.trans c1).trans d1, d2, by omega⟩
set_option maxHeartbeats 8000000 in
theorem asked_good {ls : List Ln} {n : Int} {N : Int × Int → NodeR} {p : Int × Int} {c : Int} {ev : List EvV} {e : Int × Int} {t : Bool} (hs : Small ls) (hN : GoodN ls N) (hp : Pl ls p) (h0 : 0 < (restF ls p).length) (h : askedF ls n N p c = .ok (ev, e, t)) :
    Le2 p e ∧ Pl ls e ∧ ev.length + 4 + 8 * mu e ≤ 8 * mu p := by
  have a6 := mu_step hs hp
  have a7 := Pl.behind (n := 1) hs h0 (by omega)
  have a8 : Le2 p (p.1, p.2 + 1) := .inr ⟨rfl, by dsimp only; omega⟩
  unfold askedF at h
  split at h
  · cases h
  · rename_i q hm2
    obtain ⟨c1, c2, c3, c4⟩ := must_q hs hm2
    have c5 := must_mu hs hm2 a7.2.2.1
    split at h
    · cases h
      exact ⟨a8, a7, by simp; omega⟩
    · obtain ⟨d1, d2, d3, d4⟩ := hN _ _ _ _ c2 h
      exact ⟨(a8.trans c1).trans d1, d2, by omega⟩
set_option maxHeartbeats 8000000 in
theorem keyed_good {ls : List Ln} {n : Int} {N : Int × Int → NodeR} {p : Int × Int} {c : Int} {r : NodeR} {ev : List EvV} {e : Int × Int} (hs : Small ls) (hN : GoodN ls N) (hr : ∀ ev e t, r = .ok (ev, e, t) → Le2 p e ∧ Pl ls e ∧ ev.length + 4 + 8 * mu e ≤ 8 * mu p) (h : keyedF ls n N r c = .ok (ev, e)) :
    Le2 p e ∧ Pl ls e ∧ ev.length + 3 + 8 * mu e ≤ 8 * mu p := by
  unfold keyedF at h
  split at h
  · cases h
  · obtain ⟨a1, a2, a3⟩ := hr _ _ _ rfl
    split at h
    · cases h
    · rename_i hv
      cases h
      obtain ⟨b1, b2, b3⟩ := value_good hs hN a2 hv
      exact ⟨a1.trans b1, b2, by rw [List.length_append]; omega⟩
set_option maxHeartbeats 8000000 in
theorem loose_pos {ls : List Ln} {p : Int × Int} {c : Int} (h : looseF ls p c = true) : 0 < (restF ls p).length := by
  unfold looseF headF at h
  simp only [Bool.and_eq_true, decide_eq_true_eq] at h
  exact h.1.1
def GoodE (ls : List Ln) (E : Int × Int → PartR) : Prop := ∀ p ev e, Pl ls p → E p = .ok (ev, e) → Le2 p e ∧ Pl ls e ∧ ev.length + 1 + 8 * mu e ≤ 8 * mu p
set_option maxHeartbeats 8000000 in
theorem good_node {ls : List Ln} {N : Int × Int → NodeR} {p : Int × Int} (hN : GoodN ls N) (hp : Pl ls p) : ∀ ev e t, N p = .ok (ev, e, t) → Le2 p e ∧ Pl ls e ∧ ev.length + 4 + 8 * mu e ≤ 8 * mu p := fun ev e t h => by
  obtain ⟨a1, a2, a3, -⟩ := hN _ _ _ _ hp h
  exact ⟨a1, a2, a3⟩
set_option maxHeartbeats 8000000 in
theorem pair_good {ls : List Ln} {n : Int} {N : Int × Int → NodeR} (hs : Small ls) (hN : GoodN ls N) : GoodE ls (pairF ls n N) := by
  intro p ev e hp h
  unfold pairF at h
  split at h
  · rename_i h0
    obtain ⟨a1, a2, a3⟩ := keyed_good (p := p) hs hN (fun ev e t h => asked_good hs hN hp (loose_pos h0) h) h
    exact ⟨a1, a2, by omega⟩
  · obtain ⟨a1, a2, a3⟩ := keyed_good (p := p) hs hN (good_node hN hp) h
    exact ⟨a1, a2, by omega⟩
set_option maxHeartbeats 8000000 in
theorem wrap_good {r : PartR} {ev : List EvV} {e : Int × Int} (h : wrapF r = .ok (ev, e)) : ∃ ev', r = .ok (ev', e) ∧ ev = openE 5 tr0 :: (ev' ++ [shutE 6]) := by
  unfold wrapF at h
  split at h
  · cases h
  · cases h; exact ⟨_, rfl, rfl⟩
set_option maxHeartbeats 8000000 in
theorem item_good {ls : List Ln} {n d : Int} {k : Nat} {N N1 : Int × Int → NodeR} (hs : Small ls) (hN : GoodN ls N) (hN1 : GoodN ls N1) : GoodE ls (itemF ls n d k N N1) := by
  intro p ev e hp h
  unfold itemF at h
  split at h
  · rename_i h0
    split at h
    · cases h
    · obtain ⟨ev', h1, rfl⟩ := wrap_good h
      obtain ⟨a1, a2, a3⟩ := keyed_good (p := p) hs hN1 (fun ev e t h => asked_good hs hN1 hp (loose_pos h0) h) h1
      exact ⟨a1, a2, by simp only [List.length_cons, List.length_append, List.length_nil]; omega⟩
  · split at h
    · cases h
    · rename_i ev1 key hn
      obtain ⟨b1, b2, b3⟩ := good_node hN hp _ _ _ hn
      split at h
      · cases h
      · split at h
        · cases h
          exact ⟨b1, b2, by omega⟩
        · split at h
          · cases h
          · obtain ⟨ev', h1, rfl⟩ := wrap_good h
            obtain ⟨a1, a2, a3⟩ := keyed_good (p := p) hs hN1 (fun ev e t h => by cases h; exact ⟨b1, b2, b3⟩) h1
            exact ⟨a1, a2, by simp only [List.length_cons, List.length_append, List.length_nil]; omega⟩
set_option maxHeartbeats 8000000 in
theorem isF_pos {ls : List Ln} {p : Int × Int} {c : Int} (h : isF ls p c = true) : 0 < (restF ls p).length := by
  unfold isF headF at h
  simp only [Bool.and_eq_true, decide_eq_true_eq] at h
  exact h.1
set_option maxHeartbeats 8000000 in
theorem entries_good {ls : List Ln} {n : Int} {E : Int × Int → PartR} {c : Int} {M : Nat} (hs : Small ls) (hE : GoodE ls E) : ∀ {f : Nat} {q : Int × Int} {acc ev : List EvV} {e : Int × Int}, Pl ls q → acc.length + 8 * mu q ≤ M → entriesF ls n E c f q acc = .ok (ev, e) →
    Le2 q e ∧ Pl ls e ∧ ev.length + 8 * mu e ≤ M ∧ 0 < (restF ls e).length
  | 0, _, _, _, _, _, _, h => by cases h
  | f + 1, q, acc, ev, e, hp, hM, h => by
    unfold entriesF at h
    split at h
    · rename_i h0
      cases h
      exact ⟨Le2.rfl_, hp, hM, isF_pos h0⟩
    · split at h
      · cases h
      · rename_i ev1 e1 hn
        obtain ⟨b1, b2, b3⟩ := hE _ _ _ hp hn
        split at h
        · cases h
        · rename_i q2 hm
          obtain ⟨a1, a2, a3, a4⟩ := must_q hs hm
          have a5 := must_mu hs hm b2.2.2.1
          split at h
          · split at h
            · rename_i h0
              cases h
              exact ⟨b1.trans a1, a2, by rw [List.length_append]; omega, isF_pos h0⟩
            · cases h
          · have a6 := mu_step hs a2
            have a7 := Pl.behind (n := 1) hs a3 (by omega)
            split at h
            · cases h
            · rename_i q3 hm3
              obtain ⟨c1, c2, c3, c4⟩ := must_q hs hm3
              have c5 := must_mu hs hm3 a7.2.2.1
              obtain ⟨d1, d2, d3, d4⟩ := entries_good (M := M) hs hE c2 (by rw [List.length_append]; omega) h
              have a8 : Le2 q2 (q2.1, q2.2 + 1) := .inr ⟨rfl, by dsimp only; omega⟩
              exact ⟨((b1.trans a1).trans a8).trans (c1.trans d1), d2, d3, d4⟩
set_option maxHeartbeats 8000000 in
theorem jValue {bj : Nat} {ls : List Ln} {n d : Int} {bk : Bool} {N : Int × Int → NodeR} {x y : AV} {op : List Int} {l : List EvV} {ρ τ σ0 : List Res} {key : (Int × Int) × Bool} {c : Int} (hN : NodeC κ bj ls n d bk N op.length) [hS : Split σ bj ρ (JC ls n bk d x y) τ] (hJ : JX x y op l τ σ0) (hs : Small ls) (hp : Pl ls key.1) (hb : l.length + 8 * mu key.1 + 8 ≤ 1000000000)
    (h1 : ∀ ev e, valueF ls n N key c = .ok (ev, e) → ∀ x' y' τ', JX x' y' op (l ++ ev) τ' σ0 → K (.ret (PLA e)) (ρ ++ .obj bj (JC ls n bk d x' y') :: τ'))
    (h2 : ∀ e, valueF ls n N key c = .error e → ∀ x' y' op' l' τ', JX x' y' op' l' τ' σ0 → K (.pan (wrongC e)) (ρ ++ .obj bj (JC ls n bk d x' y') :: τ')) : ACallF κ Tryz.prog 158 [JP bj, EDA key, I c] σ K :=
  ACallF.at_ (b := bj) (jValue0 hN hJ hs hp hb h1 h2)
set_option maxHeartbeats 8000000 in
theorem jValueOk {bj : Nat} {ls : List Ln} {n d : Int} {bk : Bool} {N : Int × Int → NodeR} {x y : AV} {op : List Int} {l ev : List EvV} {ρ τ σ0 : List Res} {key : (Int × Int) × Bool} {c : Int} {e : Int × Int} (hv : valueF ls n N key c = .ok (ev, e)) (hN : NodeC κ bj ls n d bk N op.length) [hS : Split σ bj ρ (JC ls n bk d x y) τ] (hJ : JX x y op l τ σ0) (hs : Small ls) (hp : Pl ls key.1) (hb : l.length + 8 * mu key.1 + 8 ≤ 1000000000)
    (h1 : ∀ x' y' τ', JX x' y' op (l ++ ev) τ' σ0 → K (.ret (PLA e)) (ρ ++ .obj bj (JC ls n bk d x' y') :: τ')) : ACallF κ Tryz.prog 158 [JP bj, EDA key, I c] σ K :=
  jValue hN hJ hs hp hb (fun ev' e' h => by rw [hv] at h; cases h; exact h1) (fun e' h => by rw [hv] at h; cases h)
set_option maxHeartbeats 8000000 in
theorem jValueEr {bj : Nat} {ls : List Ln} {n d e : Int} {bk : Bool} {N : Int × Int → NodeR} {x y : AV} {op : List Int} {l : List EvV} {ρ τ σ0 : List Res} {key : (Int × Int) × Bool} {c : Int} (hv : valueF ls n N key c = .error e) (hN : NodeC κ bj ls n d bk N op.length) [hS : Split σ bj ρ (JC ls n bk d x y) τ] (hJ : JX x y op l τ σ0) (hs : Small ls) (hp : Pl ls key.1) (hb : l.length + 8 * mu key.1 + 8 ≤ 1000000000)
    (h2 : ∀ x' y' op' l' τ', JX x' y' op' l' τ' σ0 → K (.pan (wrongC e)) (ρ ++ .obj bj (JC ls n bk d x' y') :: τ')) : ACallF κ Tryz.prog 158 [JP bj, EDA key, I c] σ K :=
  jValue hN hJ hs hp hb (fun ev' e' h => by rw [hv] at h; cases h) (fun e' h => by rw [hv] at h; cases h; exact h2)
set_option maxHeartbeats 8000000 in
theorem jAsked0 {bj : Nat} {ls : List Ln} {n d : Int} {bk : Bool} {N : Int × Int → NodeR} {x y : AV} {op : List Int} {l : List EvV} {τ σ0 : List Res} {p : Int × Int} {c : Int} (hN : NodeC κ bj ls n d bk N op.length) (hJ : JX x y op l τ σ0) (hs : Small ls) (hp : Pl ls p) (hb : l.length + 8 * mu p ≤ 1000000000)
    (h1 : ∀ ev e t, askedF ls n N p c = .ok (ev, e, t) → ∀ x' y' τ', JX x' y' op (l ++ ev) τ' σ0 → K (.ret (EDA (e, t))) (.obj bj (JC ls n bk d x' y') :: τ'))
    (h2 : ∀ e, askedF ls n N p c = .error e → ∀ x' y' op' l' τ', JX x' y' op' l' τ' σ0 → K (.pan (wrongC e)) (.obj bj (JC ls n bk d x' y') :: τ')) : ACallF κ Tryz.prog 159 [JP bj, PLA p, I c] (.obj bj (JC ls n bk d x y) :: τ) K := by
  have hll : l.length ≤ 1000000000 := by omega
  have p64 := hp.in64 hs
  have pw1 := hp.w1 hs
  have a6 := mu_step hs hp
  rw [askedF] at h1 h2
  cases hm2 : mustF ls n (p.1, p.2 + 1) with
  | error e =>
    rw [hm2] at h2
    refine ACallF.dropL (ACallF_intro Tryz.func159 rfl ?_)
    simp only [Tryz.ntmps159]
    repeat' (first | simp only [WL, WM, Nat.reduceAdd, Nat.reduceSub, true_and, cok55, cok124] | (with_reducible first | refine andA (hb := ?_) | refine y_loadA (hK := ?_) | refine y_storeA (hK := ?_) | refine y_box (hK := fun b => ?_) | refine y_new (hK := fun b => ?_) | refine cD (jMustEr (p := (p.1, p.2 + 1)) hm2 hs pw1 ?_) | refine cD (jBehind ?_ ?_)) | omega)
    exact leafP (by repeat (first | exact sub_rfl | refine sub_cons ?_)) rfl (h2 _ rfl _ _ _ _ _ hJ)
  | ok q =>
    rw [hm2] at h1 h2
    dsimp only at h1 h2
    obtain ⟨c1, c2, c3, c4⟩ := must_q hs hm2
    have c5 := must_mu hs hm2 pw1.2.2.2
    have q64 := c2.in64 hs
    cases hi1 : isF ls q 44 <;> cases hi2 : isF ls q c <;> cases hi3 : looseF ls q 58 <;> rw [hi1, hi2, hi3] at h1 h2
    · rw [if_neg (by decide)] at h1 h2
      cases hn : N q with
      | error e =>
        refine ACallF.dropL (ACallF_intro Tryz.func159 rfl ?_)
        simp only [Tryz.ntmps159]
        repeat' (first | simp only [WL, WM, Nat.reduceAdd, Nat.reduceSub, true_and, reduceIte, Bool.false_eq_true, cok54, cok55, cok124, cok125, cok157, hi1, hi2, hi3] | (with_reducible first | refine andA (hb := ?_) | refine y_loadA (hK := ?_) | refine y_storeA (hK := ?_) | refine y_box (hK := fun b => ?_) | refine y_new (hK := fun b => ?_) | refine cD (jMustOk (p := (p.1, p.2 + 1)) hm2 hs pw1 ?_) | refine cD (jLoose (p := q) hs q64 ?_) | refine cD (jIs (p := q) hs q64 ?_) | refine cD (jNodeEr hN hn rfl hJ c2 (by omega) (fun x' y' op' l' τ' hJ' => ?_)) | refine cD (jBehind ?_ ?_)) | omega)
        exact leafP (by repeat (first | exact sub_rfl | refine sub_cons ?_)) rfl (h2 _ hn _ _ _ _ _ (by assumption))
      | ok r =>
        obtain ⟨ev, e, tt⟩ := r
        refine ACallF.dropL (ACallF_intro Tryz.func159 rfl ?_)
        simp only [Tryz.ntmps159]
        repeat' (first | simp only [WL, WM, Nat.reduceAdd, Nat.reduceSub, true_and, reduceIte, Bool.false_eq_true, cok54, cok55, cok124, cok125, cok157, Tryz.results159, hi1, hi2, hi3] | (with_reducible first | refine andA (hb := ?_) | refine y_loadA (hK := ?_) | refine y_storeA (hK := ?_) | refine y_box (hK := fun b => ?_) | refine y_new (hK := fun b => ?_) | refine cD (jMustOk (p := (p.1, p.2 + 1)) hm2 hs pw1 ?_) | refine cD (jLoose (p := q) hs q64 ?_) | refine cD (jIs (p := q) hs q64 ?_) | refine cD (jNodeOk hN hn rfl hJ c2 (by omega) (fun x' y' τ' hJ' => ?_)) | refine cD (jBehind ?_ ?_)) | ((with_reducible refine resL_id ?_); apply res_c (hf := Tryz.results159); exact y_load2) | omega)
        exact leafL (by repeat (first | exact sub_rfl | refine sub_cons ?_)) (leT_eq rfl) (h1 _ _ _ hn _ _ _ (by assumption))
    all_goals
      rw [if_pos (by rfl)] at h1 h2
      refine ACallF.dropL (ACallF_intro Tryz.func159 rfl ?_)
      simp only [Tryz.ntmps159]
      repeat' (first | simp only [WL, WM, Nat.reduceAdd, Nat.reduceSub, true_and, reduceIte, Bool.false_eq_true, cok55, cok87, cok124, cok125, cok157, Tryz.results159, hi1, hi2, hi3] | (with_reducible first | refine andA (hb := ?_) | refine y_loadA (hK := ?_) | refine y_storeA (hK := ?_) | refine y_box (hK := fun b => ?_) | refine y_new (hK := fun b => ?_) | refine y_build (hK := ?_) | refine cD (jMustOk (p := (p.1, p.2 + 1)) hm2 hs pw1 ?_) | refine cD (jLoose (p := q) hs q64 ?_) | refine cD (jIs (p := q) hs q64 ?_) | refine cD (jEmpty (v := tr0) hJ hll (fun y' τ' hJ' => ?_)) | refine cD (jBehind ?_ ?_)) | ((with_reducible refine resL_id ?_); apply res_c (hf := Tryz.results159); exact y_load2) | omega)
      exact leafL (by repeat (first | exact sub_rfl | refine sub_cons ?_)) (leT_eq rfl) (h1 _ _ _ rfl _ _ _ (by assumption))
set_option maxHeartbeats 8000000 in
theorem jAskedOk {bj : Nat} {ls : List Ln} {n d : Int} {bk : Bool} {N : Int × Int → NodeR} {x y : AV} {op : List Int} {l ev : List EvV} {ρ τ σ0 : List Res} {p e : Int × Int} {c : Int} {t : Bool} (hv : askedF ls n N p c = .ok (ev, e, t)) (hN : NodeC κ bj ls n d bk N op.length) [hS : Split σ bj ρ (JC ls n bk d x y) τ] (hJ : JX x y op l τ σ0) (hs : Small ls) (hp : Pl ls p) (hb : l.length + 8 * mu p ≤ 1000000000)
    (h1 : ∀ x' y' τ', JX x' y' op (l ++ ev) τ' σ0 → K (.ret (EDA (e, t))) (ρ ++ .obj bj (JC ls n bk d x' y') :: τ')) : ACallF κ Tryz.prog 159 [JP bj, PLA p, I c] σ K :=
  ACallF.at_ (b := bj) (jAsked0 hN hJ hs hp hb (fun ev' e' t' h => by rw [hv] at h; cases h; exact h1) (fun e' h => by rw [hv] at h; cases h))
set_option maxHeartbeats 8000000 in
theorem jAskedEr {bj : Nat} {ls : List Ln} {n d e : Int} {bk : Bool} {N : Int × Int → NodeR} {x y : AV} {op : List Int} {l : List EvV} {ρ τ σ0 : List Res} {p : Int × Int} {c : Int} (hv : askedF ls n N p c = .error e) (hN : NodeC κ bj ls n d bk N op.length) [hS : Split σ bj ρ (JC ls n bk d x y) τ] (hJ : JX x y op l τ σ0) (hs : Small ls) (hp : Pl ls p) (hb : l.length + 8 * mu p ≤ 1000000000)
    (h2 : ∀ x' y' op' l' τ', JX x' y' op' l' τ' σ0 → K (.pan (wrongC e)) (ρ ++ .obj bj (JC ls n bk d x' y') :: τ')) : ACallF κ Tryz.prog 159 [JP bj, PLA p, I c] σ K :=
  ACallF.at_ (b := bj) (jAsked0 hN hJ hs hp hb (fun ev' e' t' h => by rw [hv] at h; cases h) (fun e' h => by rw [hv] at h; cases h; exact h2))
def EntC (κ : Ctx) (bj : Nat) (ls : List Ln) (n d : Int) (bk : Bool) (E : Int × Int → PartR) (f : FuncId) (k : Nat) : Prop :=
  ∀ {x y : AV} {op : List Int} {l : List EvV} {τ σ0 : List Res} {p : Int × Int} {K : Ret → List Res → Prop}, op.length = k → JX x y op l τ σ0 → Pl ls p → l.length + 8 * mu p + 8 ≤ 1000000000 →
    (∀ ev e, E p = .ok (ev, e) → ∀ x' y' τ', JX x' y' op (l ++ ev) τ' σ0 → K (.ret (PLA e)) (.obj bj (JC ls n bk d x' y') :: τ')) →
    (∀ e, E p = .error e → ∀ x' y' op' l' τ', JX x' y' op' l' τ' σ0 → K (.pan (wrongC e)) (.obj bj (JC ls n bk d x' y') :: τ')) →
    ACallF κ Tryz.prog f [JP bj, PLA p] (.obj bj (JC ls n bk d x y) :: τ) K
set_option maxHeartbeats 8000000 in
theorem jEntOk {bj k : Nat} {ls : List Ln} {n d : Int} {bk : Bool} {E : Int × Int → PartR} {f : FuncId} {x y : AV} {op : List Int} {l ev : List EvV} {ρ τ σ0 : List Res} {p e : Int × Int} (hE : EntC κ bj ls n d bk E f k) (hn : E p = .ok (ev, e)) (hk : op.length = k) [hS : Split σ bj ρ (JC ls n bk d x y) τ] (hJ : JX x y op l τ σ0) (hp : Pl ls p) (hb : l.length + 8 * mu p + 8 ≤ 1000000000)
    (h1 : ∀ x' y' τ', JX x' y' op (l ++ ev) τ' σ0 → K (.ret (PLA e)) (ρ ++ .obj bj (JC ls n bk d x' y') :: τ')) : ACallF κ Tryz.prog f [JP bj, PLA p] σ K :=
  ACallF.at_ (b := bj) (hE hk hJ hp hb (fun ev' e' h => by rw [hn] at h; cases h; exact h1) (fun e' h => by rw [hn] at h; cases h))
set_option maxHeartbeats 8000000 in
theorem jEntEr {bj k : Nat} {ls : List Ln} {n d e : Int} {bk : Bool} {E : Int × Int → PartR} {f : FuncId} {x y : AV} {op : List Int} {l : List EvV} {ρ τ σ0 : List Res} {p : Int × Int} (hE : EntC κ bj ls n d bk E f k) (hn : E p = .error e) (hk : op.length = k) [hS : Split σ bj ρ (JC ls n bk d x y) τ] (hJ : JX x y op l τ σ0) (hp : Pl ls p) (hb : l.length + 8 * mu p + 8 ≤ 1000000000)
    (h2 : ∀ x' y' op' l' τ', JX x' y' op' l' τ' σ0 → K (.pan (wrongC e)) (ρ ++ .obj bj (JC ls n bk d x' y') :: τ')) : ACallF κ Tryz.prog f [JP bj, PLA p] σ K :=
  ACallF.at_ (b := bj) (hE hk hJ hp hb (fun ev' e' h => by rw [hn] at h; cases h) (fun e' h => by rw [hn] at h; cases h; exact h2))
set_option maxHeartbeats 8000000 in
theorem jPair {bj k : Nat} {ls : List Ln} {n d : Int} {bk : Bool} {N : Int × Int → NodeR} (hs : Small ls) (hN : NodeC κ bj ls n d bk N k) (hG : GoodN ls N) : EntC κ bj ls n d bk (pairF ls n N) 122 k := by
  intro x y op l τ σ0 p K hk hJ hp hb h1 h2
  subst hk
  have p64 := hp.in64 hs
  unfold pairF keyedF at h1 h2
  cases h0 : looseF ls p 63
  · simp only [h0, Bool.false_eq_true, if_false] at h1 h2
    cases hn : N p with
    | error e =>
      rw [hn] at h2
      refine ACallF.dropL (ACallF_intro Tryz.func122 rfl ?_)
      simp only [Tryz.ntmps122]
      repeat' (first | simp only [WL, WM, Nat.reduceAdd, Nat.reduceSub, true_and, cok54, cok157, h0] | (with_reducible first | refine y_loadA (hK := ?_) | refine y_box (hK := fun b => ?_) | refine y_new (hK := fun b => ?_) | refine cD (jLoose (p := p) hs p64 ?_) | refine cD (jNodeEr hN hn rfl hJ hp (by omega) (fun x' y' op' l' τ' hJ' => ?_))))
      exact leafP (by repeat (first | exact sub_rfl | refine sub_cons ?_)) rfl (h2 _ rfl _ _ _ _ _ (by assumption))
    | ok r =>
      obtain ⟨ev, e, tt⟩ := r
      rw [hn] at h1 h2
      dsimp only at h1 h2
      obtain ⟨a1, a2, a3⟩ := good_node hG hp _ _ _ hn
      have hl2 : (l ++ ev).length + 8 * mu (e, tt).1 + 8 ≤ 1000000000 := by rw [List.length_append]; dsimp only; omega
      cases hv : valueF ls n N (e, tt) 125 with
      | error e2 =>
        rw [hv] at h2
        refine ACallF.dropL (ACallF_intro Tryz.func122 rfl ?_)
        simp only [Tryz.ntmps122]
        repeat' (first | simp only [WL, WM, Nat.reduceAdd, Nat.reduceSub, true_and, cok54, cok157, cok158, h0] | (with_reducible first | refine y_loadA (hK := ?_) | refine y_box (hK := fun b => ?_) | refine y_new (hK := fun b => ?_) | refine cD (jLoose (p := p) hs p64 ?_) | refine cD (jNodeOk hN hn rfl hJ hp (by omega) (fun x' y' τ' hJ' => ?_)) | refine cD (jValueEr (key := (e, tt)) hv hN hJ' hs a2 hl2 (fun x'' y'' op' l' τ'' hJ'' => ?_))))
        exact leafP (by repeat (first | exact sub_rfl | refine sub_cons ?_)) rfl (h2 _ rfl _ _ _ _ _ (by assumption))
      | ok r2 =>
        obtain ⟨ev2, e2⟩ := r2
        rw [hv] at h1
        refine ACallF.dropL (ACallF_intro Tryz.func122 rfl ?_)
        simp only [Tryz.ntmps122]
        repeat' (first | simp only [WL, WM, Nat.reduceAdd, Nat.reduceSub, true_and, cok54, cok157, cok158, Tryz.results122, h0] | (with_reducible first | refine y_loadA (hK := ?_) | refine y_storeA (hK := ?_) | refine y_box (hK := fun b => ?_) | refine y_new (hK := fun b => ?_) | refine cD (jLoose (p := p) hs p64 ?_) | refine cD (jNodeOk hN hn rfl hJ hp (by omega) (fun x' y' τ' hJ' => ?_)) | refine cD (jValueOk (key := (e, tt)) hv hN hJ' hs a2 hl2 (fun x'' y'' τ'' hJ'' => ?_))) | ((with_reducible refine resL_id ?_); apply res_c (hf := Tryz.results122); exact y_load2))
        rw [List.append_assoc] at hJ''
        exact leafL (by repeat (first | exact sub_rfl | refine sub_cons ?_)) (leT_eq rfl) (h1 _ _ rfl _ _ _ hJ'')
  · simp only [h0, if_true] at h1 h2
    cases hn : askedF ls n N p 125 with
    | error e =>
      rw [hn] at h2
      refine ACallF.dropL (ACallF_intro Tryz.func122 rfl ?_)
      simp only [Tryz.ntmps122]
      repeat' (first | simp only [WL, WM, Nat.reduceAdd, Nat.reduceSub, true_and, cok157, cok159, h0] | (with_reducible first | refine y_loadA (hK := ?_) | refine y_box (hK := fun b => ?_) | refine y_new (hK := fun b => ?_) | refine cD (jLoose (p := p) hs p64 ?_) | refine cD (jAskedEr (p := p) hn hN hJ hs hp (by omega) (fun x' y' op' l' τ' hJ' => ?_))))
      exact leafP (by repeat (first | exact sub_rfl | refine sub_cons ?_)) rfl (h2 _ rfl _ _ _ _ _ (by assumption))
    | ok r =>
      obtain ⟨ev, e, tt⟩ := r
      rw [hn] at h1 h2
      dsimp only at h1 h2
      obtain ⟨a1, a2, a3⟩ := asked_good hs hG hp (loose_pos h0) hn
      have hl2 : (l ++ ev).length + 8 * mu (e, tt).1 + 8 ≤ 1000000000 := by rw [List.length_append]; dsimp only; omega
      cases hv : valueF ls n N (e, tt) 125 with
      | error e2 =>
        rw [hv] at h2
        refine ACallF.dropL (ACallF_intro Tryz.func122 rfl ?_)
        simp only [Tryz.ntmps122]
        repeat' (first | simp only [WL, WM, Nat.reduceAdd, Nat.reduceSub, true_and, cok157, cok158, cok159, h0] | (with_reducible first | refine y_loadA (hK := ?_) | refine y_box (hK := fun b => ?_) | refine y_new (hK := fun b => ?_) | refine cD (jLoose (p := p) hs p64 ?_) | refine cD (jAskedOk (p := p) hn hN hJ hs hp (by omega) (fun x' y' τ' hJ' => ?_)) | refine cD (jValueEr (key := (e, tt)) hv hN hJ' hs a2 hl2 (fun x'' y'' op' l' τ'' hJ'' => ?_))))
        exact leafP (by repeat (first | exact sub_rfl | refine sub_cons ?_)) rfl (h2 _ rfl _ _ _ _ _ (by assumption))
      | ok r2 =>
        obtain ⟨ev2, e2⟩ := r2
        rw [hv] at h1
        refine ACallF.dropL (ACallF_intro Tryz.func122 rfl ?_)
        simp only [Tryz.ntmps122]
        repeat' (first | simp only [WL, WM, Nat.reduceAdd, Nat.reduceSub, true_and, cok157, cok158, cok159, Tryz.results122, h0] | (with_reducible first | refine y_loadA (hK := ?_) | refine y_storeA (hK := ?_) | refine y_box (hK := fun b => ?_) | refine y_new (hK := fun b => ?_) | refine cD (jLoose (p := p) hs p64 ?_) | refine cD (jAskedOk (p := p) hn hN hJ hs hp (by omega) (fun x' y' τ' hJ' => ?_)) | refine cD (jValueOk (key := (e, tt)) hv hN hJ' hs a2 hl2 (fun x'' y'' τ'' hJ'' => ?_))) | ((with_reducible refine resL_id ?_); apply res_c (hf := Tryz.results122); exact y_load2))
        rw [List.append_assoc] at hJ''
        exact leafL (by repeat (first | exact sub_rfl | refine sub_cons ?_)) (leT_eq rfl) (h1 _ _ rfl _ _ _ hJ'')
set_option maxHeartbeats 8000000 in
theorem entries_eq {ls : List Ln} {n : Int} {E : Int × Int → PartR} {c : Int} {f : Nat} {q : Int × Int} {acc : List EvV} : entriesF ls n E c (f + 1) q acc =
    if isF ls q c = true then .ok (acc, q)
    else match E q with
      | .error e => .error e
      | .ok (ev, e) => match mustF ls n e with
        | .error e => .error e
        | .ok q2 =>
          if isF ls q2 44 = false then (if isF ls q2 c = true then .ok (acc ++ ev, q2) else .error 2)
          else match mustF ls n (q2.1, q2.2 + 1) with
            | .error e => .error e
            | .ok q3 => entriesF ls n E c f q3 (acc ++ ev) := rfl
set_option maxHeartbeats 8000000 in
theorem jColl0 {bj : Nat} {ls : List Ln} {n d c : Int} {bk : Bool} {N : Nat → Int × Int → NodeR} {x y : AV} {op : List Int} {l : List EvV} {τ σ0 : List Res} {p : Int × Int} {v : TrV} {E : Int × Int → PartR} {F : FuncId} {sh kd : Int} (hs : Small ls) (hd : 0 ≤ d ∧ d ≤ 1000000000)
    (hE : roomF d op.length 0 = true → EntC κ bj ls n d bk E F (op.length + 1)) (hG : GoodE ls E) (hc : (c = 123 ∧ F = 122 ∧ sh = 125 ∧ kd = 5) ∨ (¬ c = 123 ∧ F = 121 ∧ sh = 93 ∧ kd = 3)) (hJ : JX x y op l τ σ0) (hlo : op.length ≤ 1000000) (hp : Pl ls p) (h0 : 0 < (restF ls p).length) (hb : l.length + 8 * mu p + 8 ≤ 1000000000)
    (h1 : ∀ q ev e, roomF d op.length 0 = true → mustF ls n (p.1, p.2 + 1) = .ok q → entriesF ls n E sh (mu p + 1) q [] = .ok (ev, e) → ∀ x' y' τ', JX x' y' op (l ++ (openE kd v :: (ev ++ [shutE (kd + 1)]))) τ' σ0 → K (.ret (PLA (e.1, e.2 + 1))) (.obj bj (JC ls n bk d x' y') :: τ'))
    (h2 : ∀ e, ((roomF d op.length 0 = false ∧ e = 8) ∨ (roomF d op.length 0 = true ∧ mustF ls n (p.1, p.2 + 1) = .error e) ∨ (roomF d op.length 0 = true ∧ ∃ q, mustF ls n (p.1, p.2 + 1) = .ok q ∧ entriesF ls n E sh (mu p + 1) q [] = .error e)) → ∀ x' y' op' l' τ', JX x' y' op' l' τ' σ0 → K (.pan (wrongC e)) (.obj bj (JC ls n bk d x' y') :: τ')) :
    ACallF κ Tryz.prog 83 [JP bj, PLA p, I c, TrA v] (.obj bj (JC ls n bk d x y) :: τ) K := by
  have hll : l.length ≤ 1000000000 := by omega
  have p64 := hp.in64 hs
  have pw1 := hp.w1 hs
  have a6 := mu_step hs hp
  have a7 := Pl.behind (n := 1) hs h0 (by omega)
  have hq4 : ∀ q : Int × Int, isF ls q 44 = true → 0 < (restF ls q).length := fun q h => isF_pos h
  cases hr : roomF d op.length 0
  · rcases hc with ⟨hc, rfl, rfl, rfl⟩ | ⟨hc, rfl, rfl, rfl⟩
    all_goals
      refine ACallF.dropL (ACallF_intro Tryz.func83 rfl ?_)
      simp only [Tryz.ntmps83]
      repeat' (first | simp only [WL, intF, WM, reduceCtorEq, WLb, Nat.reduceAdd, Nat.reduceSub, Nat.reduceEqDiff, beq_self_eq_true, true_and, T9, fR fl133_0, fR fl133_1, cok123, hc] | (with_reducible first | refine andA (hb := ?_) | refine y_load (hK := ?_) | refine y_box (hK := fun b => ?_) | refine y_new (hK := fun b => ?_) | refine y_build (hK := ?_) | refine cD (jBegin (e := openE 5 v) hJ (by omega) hll hd (fun h => by rw [hr] at h; cases h) (fun h => ?_)) | refine cD (jBegin (e := openE 3 v) hJ (by omega) hll hd (fun h => by rw [hr] at h; cases h) (fun h => ?_))) | ((with_reducible first | refine grd_cases (fun h => ?_) (fun h => ?_) | refine condC_split (fun h => ?_) (fun h => ?_)) <;> (try simp only [h]) <;> (try simp only [NR_, NRb] at h)) | omega)
      exact leafP (by repeat (first | exact sub_rfl | refine sub_cons ?_)) rfl (h2 8 (.inl ⟨hr, rfl⟩) _ _ _ _ _ hJ)
  · cases hm : mustF ls n (p.1, p.2 + 1) with
    | error e =>
      rcases hc with ⟨hc, rfl, rfl, rfl⟩ | ⟨hc, rfl, rfl, rfl⟩
      all_goals
        refine ACallF.dropL (ACallF_intro Tryz.func83 rfl ?_)
        simp only [Tryz.ntmps83]
        repeat' (first | simp only [WL, intF, WM, reduceCtorEq, WLb, Nat.reduceAdd, Nat.reduceSub, Nat.reduceEqDiff, beq_self_eq_true, true_and, T9, fR fl133_0, fR fl133_1, cok55, cok123, cok124, hc] | (with_reducible first | refine andA (hb := ?_) | refine y_load (hK := ?_) | refine y_loadA (hK := ?_) | refine y_box (hK := fun b => ?_) | refine y_new (hK := fun b => ?_) | refine y_build (hK := ?_) | refine cD (jBegin (e := openE 5 v) hJ (by omega) hll hd (fun h x' y' τ' hJ' => ?_) (fun h => by rw [hr] at h; cases h)) | refine cD (jBegin (e := openE 3 v) hJ (by omega) hll hd (fun h x' y' τ' hJ' => ?_) (fun h => by rw [hr] at h; cases h)) | refine cD (jMustEr (p := (p.1, p.2 + 1)) hm hs pw1 ?_) | refine cD (jBehind ?_ ?_)) | ((with_reducible first | refine grd_cases (fun h => ?_) (fun h => ?_) | refine condC_split (fun h => ?_) (fun h => ?_)) <;> (try simp only [h]) <;> (try simp only [NR_, NRb] at h)) | omega)
        exact leafP (by repeat (first | exact sub_rfl | refine sub_cons ?_)) rfl (h2 _ (.inr (.inl ⟨hr, hm⟩)) _ _ _ _ _ (by assumption))
    | ok q0 =>
      obtain ⟨a1, a2, a3, a4⟩ := must_q hs hm
      have a5 := must_mu hs hm pw1.2.2.2
      have hE : EntC κ bj ls n d bk E F (op.length + 1) := @fun _ _ _ _ _ _ _ _ => hE hr
      rcases hc with ⟨hc, rfl, rfl, rfl⟩ | ⟨hc, rfl, rfl, rfl⟩
      all_goals
        refine ACallF.dropL (ACallF_intro Tryz.func83 rfl ?_)
        simp only [Tryz.ntmps83]
        repeat' (first | simp only [WL, intF, WM, reduceCtorEq, WLb, Nat.reduceAdd, Nat.reduceSub, Nat.reduceEqDiff, beq_self_eq_true, true_and, T9, fR fl133_0, fR fl133_1, cok55, cok123, cok124, hc] | (with_reducible first | refine andA (hb := ?_) | refine y_load (hK := ?_) | refine y_loadA (hK := ?_) | refine y_storeA (hK := ?_) | refine y_box (hK := fun b => ?_) | refine y_new (hK := fun b => ?_) | refine y_build (hK := ?_) | refine cD (jBegin (e := openE 5 v) hJ (by omega) hll hd (fun h x' y' τ' hJ' => ?_) (fun h => by rw [hr] at h; cases h)) | refine cD (jBegin (e := openE 3 v) hJ (by omega) hll hd (fun h x' y' τ' hJ' => ?_) (fun h => by rw [hr] at h; cases h)) | refine cD (jMustOk (p := (p.1, p.2 + 1)) hm hs pw1 ?_) | refine cD (jBehind ?_ ?_)) | ((with_reducible first | refine grd_cases (fun h => ?_) (fun h => ?_) | refine condC_split (fun h => ?_) (fun h => ?_)) <;> (try simp only [h]) <;> (try simp only [NR_, NRb] at h)) | omega)
      ·
        rename_i b5 b7 b8
        refine loop_by (fun z : (Int × Int) × List EvV × AV × AV × List Res => ⟨(JP bj :: PLA p :: I c :: TrA v :: .any :: JP b5 :: .any :: JP b7 :: JP b8 :: I 5 :: I 125 :: .raw (.func (.func 122) #[.pointer (some ⟨bj, 0, none⟩)] #[]) :: JP b :: .any :: .any :: .any :: .any :: .any :: .any :: .any :: .any :: .any :: .any :: .any :: .any :: .any :: .any :: .any :: .any :: .any :: .any :: .any :: .any :: .any :: .any :: .any :: .any :: .any :: .any :: .any :: .any :: .any :: .any :: .any :: .any :: .any :: .any :: .any :: .any :: .any :: .any :: .any :: .any :: .any :: .any :: .any :: .any :: .any :: .any :: .any :: []), .obj b [I z.1.1, I z.1.2] :: .obj b8 [I 0, I 0] :: .obj b7 (TrC v) :: .obj b5 [I p.1, I p.2] :: .obj bj (JC ls n bk d z.2.2.1 z.2.2.2.1) :: z.2.2.2.2, true, []⟩)
          (fun z => JX z.2.2.1 z.2.2.2.1 (op ++ [5]) (l ++ [openE 5 v] ++ z.2.1) z.2.2.2.2 σ0 ∧ Pl ls z.1 ∧ z.2.1.length + 8 * mu z.1 + 8 ≤ 8 * mu p ∧ ∃ f, mu z.1 < f ∧ entriesF ls n E 125 (mu p + 1) q0 [] = entriesF ls n E 125 f z.1 z.2.1) (fun z => mu z.1) (q0, [], x', y', τ') (St_le_same (by repeat (first | exact trivial | refine ⟨le_rfl, ?_⟩ | refine ⟨le_any, ?_⟩ | refine ⟨le_ro, ?_⟩ | refine ⟨le_nil (by decide), ?_⟩ | refine ⟨le_wrap (by omega) (by omega) (by omega), ?_⟩ | refine ⟨le_int (by omega), ?_⟩ | refine ⟨le_eq (by simp), ?_⟩)) id) ⟨by rw [List.append_nil]; exact hJ', a2, by simp; omega, mu p + 1, by dsimp only; omega, rfl⟩ ?_
        rintro ⟨q, acc, x1, y1, τ1⟩ ⟨g1, g2, g3, f, g4, g5⟩
        dsimp only at g1 g2 g3 g4 g5 ⊢
        cases f with
        | zero => omega
        | succ f =>
        replace g5 := g5.trans entries_eq
        have q64 := g2.in64 hs
        have hlk : (op ++ [(5 : Int)]).length = op.length + 1 := by simp
        have hl1 : (l ++ [openE 5 v] ++ acc).length = l.length + 1 + acc.length := by simp; omega
        have hll1 : (l ++ [openE 5 v] ++ acc).length ≤ 1000000000 := by omega
        cases hi : isF ls q 125
        · rw [hi, if_neg Bool.false_ne_true] at g5
          cases he : E q with
          | error e =>
            rw [he] at g5
            repeat' (first | simp only [WL, WM, Bool.not_false, true_and, cok122, cok125, hi] | (with_reducible first | refine y_loadA (hK := ?_) | refine cD (jIs (p := q) hs q64 ?_) | refine callD_mk (jEntEr hE he hlk g1 g2 (by omega) (fun x'' y'' op' l' τ'' hJ'' => ?_))))
            exact leafP (by repeat (first | exact sub_rfl | refine sub_cons ?_)) rfl (h2 _ (.inr (.inr ⟨hr, _, hm, g5⟩)) _ _ _ _ _ (by assumption))
          | ok r =>
            obtain ⟨ev, e⟩ := r
            rw [he] at g5
            obtain ⟨c1, c2, c3⟩ := hG _ _ _ g2 he
            have ew := c2.w hs
            cases hm2 : mustF ls n e with
            | error e2 =>
              simp only [hm2] at g5
              repeat' (first | simp only [WL, WM, Bool.not_false, true_and, cok122, cok124, cok125, hi] | (with_reducible first | refine y_loadA (hK := ?_) | refine cD (jIs (p := q) hs q64 ?_) | refine callD_mk (jEntOk hE he hlk g1 g2 (by omega) (fun x'' y'' τ'' hJ'' => ?_)) | refine cD (jMustEr (p := e) hm2 hs ew ?_)))
              exact leafP (by repeat (first | exact sub_rfl | refine sub_cons ?_)) rfl (h2 _ (.inr (.inr ⟨hr, _, hm, g5⟩)) _ _ _ _ _ (by assumption))
            | ok q2 =>
              simp only [hm2] at g5
              obtain ⟨e1, e2, e3, e4⟩ := must_q hs hm2
              have e5 := must_mu hs hm2 c2.2.2.1
              have e6 := mu_step hs e2
              have q264 := e2.in64 hs
              have q2w := e2.w1 hs
              cases hi2 : isF ls q2 44
              · rw [hi2, if_pos rfl] at g5
                cases hi3 : isF ls q2 125
                · rw [hi3, if_neg Bool.false_ne_true] at g5
                  repeat' (first | simp only [WL, WM, Nat.reduceAdd, Bool.not_false, true_and, cok79, cok122, cok124, cok125, hi, hi2, hi3] | (with_reducible first | refine y_loadA (hK := ?_) | refine y_storeA (hK := ?_) | refine cD (jIs (p := q) hs q64 ?_) | refine cD (jIs (p := q2) hs q264 ?_) | refine callD_mk (jEntOk hE he hlk g1 g2 (by omega) (fun x'' y'' τ'' hJ'' => ?_)) | refine cD (jMustOk (p := e) hm2 hs ew ?_) | refine cD (jNeedF ?_)))
                  exact leafP (by repeat (first | exact sub_rfl | refine sub_cons ?_)) rfl (h2 _ (.inr (.inr ⟨hr, _, hm, g5⟩)) _ _ _ _ _ (by assumption))
                · rw [hi3, if_pos rfl] at g5
                  have e7 := Pl.behind (n := 1) hs e3 (by omega)
                  unfold Pl at e7
                  repeat' (first | simp only [WL, intF, WM, reduceCtorEq, WLb, Nat.reduceAdd, Bool.not_false, true_and, reduceIte, cok55, cok79, cok122, cok124, cok125, cok126, Tryz.results83, hi, hi2, hi3] | simp (disch := first | omega | (simp only [LN_]; omega)) only [wrap_id] | (with_reducible first | refine andA (hb := ?_) | refine y_loadA (hK := ?_) | refine y_storeA (hK := ?_) | refine cD (jIs (p := q) hs q64 ?_) | refine cD (jIs (p := q2) hs q264 ?_) | refine callD_mk (jEntOk hE he hlk g1 g2 (by omega) (fun x'' y'' τ'' hJ'' => ?_)) | refine cD (jMustOk (p := e) hm2 hs ew ?_) | refine cD (jNeedT ?_) | refine cD (jEnd hJ'' (by omega) (by rw [List.length_append]; omega) (fun x3 y3 τ3 hJ3 => ?_)) | refine cD (jBehind ?_ ?_)) | ((with_reducible refine resL_id ?_); apply res_c (hf := Tryz.results83); exact y_load2) | omega)
                  simp only [List.append_assoc, List.cons_append, List.nil_append] at hJ3
                  exact leafL (by repeat (first | exact sub_rfl | refine sub_cons ?_)) (leT_eq rfl) (h1 _ _ _ hr hm g5 _ _ _ (by simpa using hJ3))
              · rw [hi2, if_neg (by decide)] at g5
                cases hm3 : mustF ls n (q2.1, q2.2 + 1) with
                | error e2 =>
                  simp only [hm3] at g5
                  repeat' (first | simp only [WL, WM, Nat.reduceAdd, Bool.not_true, Bool.not_false, true_and, cok55, cok122, cok124, cok125, hi, hi2] | (with_reducible first | refine andA (hb := ?_) | refine y_loadA (hK := ?_) | refine y_storeA (hK := ?_) | refine cD (jIs (p := q) hs q64 ?_) | refine cD (jIs (p := q2) hs q264 ?_) | refine callD_mk (jEntOk hE he hlk g1 g2 (by omega) (fun x'' y'' τ'' hJ'' => ?_)) | refine cD (jMustEr (p := (q2.1, q2.2 + 1)) hm3 hs q2w ?_) | refine cD (jMustOk (p := e) hm2 hs ew ?_) | refine cD (jBehind ?_ ?_)) | omega)
                  exact leafP (by repeat (first | exact sub_rfl | refine sub_cons ?_)) rfl (h2 _ (.inr (.inr ⟨hr, _, hm, g5⟩)) _ _ _ _ _ (by assumption))
                | ok q3 =>
                  simp only [hm3] at g5
                  obtain ⟨k1, k2, k3, k4⟩ := must_q hs hm3
                  have k5 := must_mu hs hm3 q2w.2.2.2
                  repeat' (first | simp only [WL, WM, Nat.reduceAdd, Bool.not_true, Bool.not_false, true_and, cok55, cok122, cok124, cok125, hi, hi2] | (with_reducible first | refine andA (hb := ?_) | refine y_loadA (hK := ?_) | refine y_storeA (hK := ?_) | refine cD (jIs (p := q) hs q64 ?_) | refine cD (jIs (p := q2) hs q264 ?_) | refine callD_mk (jEntOk hE he hlk g1 g2 (by omega) (fun x'' y'' τ'' hJ'' => ?_)) | refine cD (jMustOk (p := (q2.1, q2.2 + 1)) hm3 hs q2w ?_) | refine cD (jMustOk (p := e) hm2 hs ew ?_) | refine cD (jBehind ?_ ?_)) | omega)
                  exact ⟨(q3, acc ++ ev, x'', y'', τ''), St_le_same (by repeat (first | exact trivial | refine ⟨le_rfl, ?_⟩ | refine ⟨le_any, ?_⟩ | refine ⟨le_ro, ?_⟩ | refine ⟨le_nil (by decide), ?_⟩ | refine ⟨le_wrap (by omega) (by omega) (by omega), ?_⟩ | refine ⟨le_int (by omega), ?_⟩ | refine ⟨le_eq (by simp), ?_⟩)) id, ⟨by rw [← List.append_assoc]; exact hJ'', k2, by dsimp only; rw [List.length_append]; omega, f, by dsimp only; omega, g5⟩, by dsimp only; omega⟩
        · rw [hi, if_pos rfl] at g5
          have e7 := Pl.behind (n := 1) hs (isF_pos hi) (by have := isF_pos hi; omega)
          unfold Pl at e7
          repeat' (first | simp only [WL, intF, WM, reduceCtorEq, WLb, Nat.reduceAdd, Bool.not_true, true_and, cok55, cok125, cok126, Tryz.results83, hi] | simp (disch := first | omega | (simp only [LN_]; omega)) only [wrap_id] | (with_reducible first | refine andA (hb := ?_) | refine y_loadA (hK := ?_) | refine y_storeA (hK := ?_) | refine cD (jIs (p := q) hs q64 ?_) | refine cD (jEnd g1 (by omega) (by omega) (fun x3 y3 τ3 hJ3 => ?_)) | refine cD (jBehind ?_ ?_)) | ((with_reducible refine resL_id ?_); apply res_c (hf := Tryz.results83); exact y_load2) | omega)
          exact leafL (by repeat (first | exact sub_rfl | refine sub_cons ?_)) (leT_eq rfl) (h1 _ _ _ hr hm g5 _ _ _ (by simpa using hJ3))
      ·
        rename_i b5 b7 b8 hx
        refine loop_by (fun z : (Int × Int) × List EvV × AV × AV × List Res => ⟨(JP bj :: PLA p :: I c :: TrA v :: .any :: JP b5 :: .any :: JP b7 :: JP b8 :: I 3 :: I 93 :: .raw (.func (.func 121) #[.pointer (some ⟨bj, 0, none⟩)] #[]) :: JP b :: .any :: .any :: .any :: .any :: .any :: .any :: .any :: .any :: .any :: .any :: .any :: .any :: .any :: .any :: .any :: .any :: .any :: .any :: .any :: .any :: .any :: .any :: .any :: .any :: .any :: .any :: .any :: .any :: .any :: .any :: .any :: .any :: .any :: .any :: .any :: .any :: .any :: .any :: .any :: .any :: .any :: .any :: .any :: .any :: .any :: .any :: .any :: []), .obj b [I z.1.1, I z.1.2] :: .obj b8 [I 0, I 0] :: .obj b7 (TrC v) :: .obj b5 [I p.1, I p.2] :: .obj bj (JC ls n bk d z.2.2.1 z.2.2.2.1) :: z.2.2.2.2, true, []⟩)
          (fun z => JX z.2.2.1 z.2.2.2.1 (op ++ [3]) (l ++ [openE 3 v] ++ z.2.1) z.2.2.2.2 σ0 ∧ Pl ls z.1 ∧ z.2.1.length + 8 * mu z.1 + 8 ≤ 8 * mu p ∧ ∃ f, mu z.1 < f ∧ entriesF ls n E 93 (mu p + 1) q0 [] = entriesF ls n E 93 f z.1 z.2.1) (fun z => mu z.1) (q0, [], x', y', τ') (St_le_same (by repeat (first | exact trivial | refine ⟨le_rfl, ?_⟩ | refine ⟨le_any, ?_⟩ | refine ⟨le_ro, ?_⟩ | refine ⟨le_nil (by decide), ?_⟩ | refine ⟨le_wrap (by omega) (by omega) (by omega), ?_⟩ | refine ⟨le_int (by omega), ?_⟩ | refine ⟨le_eq (by simp), ?_⟩)) id) ⟨by rw [List.append_nil]; exact hJ', a2, by simp; omega, mu p + 1, by dsimp only; omega, rfl⟩ ?_
        rintro ⟨q, acc, x1, y1, τ1⟩ ⟨g1, g2, g3, f, g4, g5⟩
        dsimp only at g1 g2 g3 g4 g5 ⊢
        cases f with
        | zero => omega
        | succ f =>
        replace g5 := g5.trans entries_eq
        have q64 := g2.in64 hs
        have hlk : (op ++ [(3 : Int)]).length = op.length + 1 := by simp
        have hl1 : (l ++ [openE 3 v] ++ acc).length = l.length + 1 + acc.length := by simp; omega
        have hll1 : (l ++ [openE 3 v] ++ acc).length ≤ 1000000000 := by omega
        cases hi : isF ls q 93
        · rw [hi, if_neg Bool.false_ne_true] at g5
          cases he : E q with
          | error e =>
            rw [he] at g5
            repeat' (first | simp only [WL, WM, Bool.not_false, true_and, cok121, cok125, hi] | (with_reducible first | refine y_loadA (hK := ?_) | refine cD (jIs (p := q) hs q64 ?_) | refine callD_mk (jEntEr hE he hlk g1 g2 (by omega) (fun x'' y'' op' l' τ'' hJ'' => ?_))))
            exact leafP (by repeat (first | exact sub_rfl | refine sub_cons ?_)) rfl (h2 _ (.inr (.inr ⟨hr, _, hm, g5⟩)) _ _ _ _ _ (by assumption))
          | ok r =>
            obtain ⟨ev, e⟩ := r
            rw [he] at g5
            obtain ⟨c1, c2, c3⟩ := hG _ _ _ g2 he
            have ew := c2.w hs
            cases hm2 : mustF ls n e with
            | error e2 =>
              simp only [hm2] at g5
              repeat' (first | simp only [WL, WM, Bool.not_false, true_and, cok121, cok124, cok125, hi] | (with_reducible first | refine y_loadA (hK := ?_) | refine cD (jIs (p := q) hs q64 ?_) | refine callD_mk (jEntOk hE he hlk g1 g2 (by omega) (fun x'' y'' τ'' hJ'' => ?_)) | refine cD (jMustEr (p := e) hm2 hs ew ?_)))
              exact leafP (by repeat (first | exact sub_rfl | refine sub_cons ?_)) rfl (h2 _ (.inr (.inr ⟨hr, _, hm, g5⟩)) _ _ _ _ _ (by assumption))
            | ok q2 =>
              simp only [hm2] at g5
              obtain ⟨e1, e2, e3, e4⟩ := must_q hs hm2
              have e5 := must_mu hs hm2 c2.2.2.1
              have e6 := mu_step hs e2
              have q264 := e2.in64 hs
              have q2w := e2.w1 hs
              cases hi2 : isF ls q2 44
              · rw [hi2, if_pos rfl] at g5
                cases hi3 : isF ls q2 93
                · rw [hi3, if_neg Bool.false_ne_true] at g5
                  repeat' (first | simp only [WL, WM, Nat.reduceAdd, Bool.not_false, true_and, cok79, cok121, cok124, cok125, hi, hi2, hi3] | (with_reducible first | refine y_loadA (hK := ?_) | refine y_storeA (hK := ?_) | refine cD (jIs (p := q) hs q64 ?_) | refine cD (jIs (p := q2) hs q264 ?_) | refine callD_mk (jEntOk hE he hlk g1 g2 (by omega) (fun x'' y'' τ'' hJ'' => ?_)) | refine cD (jMustOk (p := e) hm2 hs ew ?_) | refine cD (jNeedF ?_)))
                  exact leafP (by repeat (first | exact sub_rfl | refine sub_cons ?_)) rfl (h2 _ (.inr (.inr ⟨hr, _, hm, g5⟩)) _ _ _ _ _ (by assumption))
                · rw [hi3, if_pos rfl] at g5
                  have e7 := Pl.behind (n := 1) hs e3 (by omega)
                  unfold Pl at e7
                  repeat' (first | simp only [WL, intF, WM, reduceCtorEq, WLb, Nat.reduceAdd, Bool.not_false, true_and, reduceIte, cok55, cok79, cok121, cok124, cok125, cok126, Tryz.results83, hi, hi2, hi3] | simp (disch := first | omega | (simp only [LN_]; omega)) only [wrap_id] | (with_reducible first | refine andA (hb := ?_) | refine y_loadA (hK := ?_) | refine y_storeA (hK := ?_) | refine cD (jIs (p := q) hs q64 ?_) | refine cD (jIs (p := q2) hs q264 ?_) | refine callD_mk (jEntOk hE he hlk g1 g2 (by omega) (fun x'' y'' τ'' hJ'' => ?_)) | refine cD (jMustOk (p := e) hm2 hs ew ?_) | refine cD (jNeedT ?_) | refine cD (jEnd hJ'' (by omega) (by rw [List.length_append]; omega) (fun x3 y3 τ3 hJ3 => ?_)) | refine cD (jBehind ?_ ?_)) | ((with_reducible refine resL_id ?_); apply res_c (hf := Tryz.results83); exact y_load2) | omega)
                  simp only [List.append_assoc, List.cons_append, List.nil_append] at hJ3
                  exact leafL (by repeat (first | exact sub_rfl | refine sub_cons ?_)) (leT_eq rfl) (h1 _ _ _ hr hm g5 _ _ _ (by simpa using hJ3))
              · rw [hi2, if_neg (by decide)] at g5
                cases hm3 : mustF ls n (q2.1, q2.2 + 1) with
                | error e2 =>
                  simp only [hm3] at g5
                  repeat' (first | simp only [WL, WM, Nat.reduceAdd, Bool.not_true, Bool.not_false, true_and, cok55, cok121, cok124, cok125, hi, hi2] | (with_reducible first | refine andA (hb := ?_) | refine y_loadA (hK := ?_) | refine y_storeA (hK := ?_) | refine cD (jIs (p := q) hs q64 ?_) | refine cD (jIs (p := q2) hs q264 ?_) | refine callD_mk (jEntOk hE he hlk g1 g2 (by omega) (fun x'' y'' τ'' hJ'' => ?_)) | refine cD (jMustEr (p := (q2.1, q2.2 + 1)) hm3 hs q2w ?_) | refine cD (jMustOk (p := e) hm2 hs ew ?_) | refine cD (jBehind ?_ ?_)) | omega)
                  exact leafP (by repeat (first | exact sub_rfl | refine sub_cons ?_)) rfl (h2 _ (.inr (.inr ⟨hr, _, hm, g5⟩)) _ _ _ _ _ (by assumption))
                | ok q3 =>
                  simp only [hm3] at g5
                  obtain ⟨k1, k2, k3, k4⟩ := must_q hs hm3
                  have k5 := must_mu hs hm3 q2w.2.2.2
                  repeat' (first | simp only [WL, WM, Nat.reduceAdd, Bool.not_true, Bool.not_false, true_and, cok55, cok121, cok124, cok125, hi, hi2] | (with_reducible first | refine andA (hb := ?_) | refine y_loadA (hK := ?_) | refine y_storeA (hK := ?_) | refine cD (jIs (p := q) hs q64 ?_) | refine cD (jIs (p := q2) hs q264 ?_) | refine callD_mk (jEntOk hE he hlk g1 g2 (by omega) (fun x'' y'' τ'' hJ'' => ?_)) | refine cD (jMustOk (p := (q2.1, q2.2 + 1)) hm3 hs q2w ?_) | refine cD (jMustOk (p := e) hm2 hs ew ?_) | refine cD (jBehind ?_ ?_)) | omega)
                  exact ⟨(q3, acc ++ ev, x'', y'', τ''), St_le_same (by repeat (first | exact trivial | refine ⟨le_rfl, ?_⟩ | refine ⟨le_any, ?_⟩ | refine ⟨le_ro, ?_⟩ | refine ⟨le_nil (by decide), ?_⟩ | refine ⟨le_wrap (by omega) (by omega) (by omega), ?_⟩ | refine ⟨le_int (by omega), ?_⟩ | refine ⟨le_eq (by simp), ?_⟩)) id, ⟨by rw [← List.append_assoc]; exact hJ'', k2, by dsimp only; rw [List.length_append]; omega, f, by dsimp only; omega, g5⟩, by dsimp only; omega⟩
        · rw [hi, if_pos rfl] at g5
          have e7 := Pl.behind (n := 1) hs (isF_pos hi) (by have := isF_pos hi; omega)
          unfold Pl at e7
          repeat' (first | simp only [WL, intF, WM, reduceCtorEq, WLb, Nat.reduceAdd, Bool.not_true, true_and, cok55, cok125, cok126, Tryz.results83, hi] | simp (disch := first | omega | (simp only [LN_]; omega)) only [wrap_id] | (with_reducible first | refine andA (hb := ?_) | refine y_loadA (hK := ?_) | refine y_storeA (hK := ?_) | refine cD (jIs (p := q) hs q64 ?_) | refine cD (jEnd g1 (by omega) (by omega) (fun x3 y3 τ3 hJ3 => ?_)) | refine cD (jBehind ?_ ?_)) | ((with_reducible refine resL_id ?_); apply res_c (hf := Tryz.results83); exact y_load2) | omega)
          exact leafL (by repeat (first | exact sub_rfl | refine sub_cons ?_)) (leT_eq rfl) (h1 _ _ _ hr hm g5 _ _ _ (by simpa using hJ3))
set_option maxHeartbeats 8000000 in
theorem jColl {bj : Nat} {ls : List Ln} {n d c : Int} {bk : Bool} {N : Nat → Int × Int → NodeR} {x y : AV} {op : List Int} {l : List EvV} {ρ τ σ0 : List Res} {p : Int × Int} {v : TrV} [hS : Split σ bj ρ (JC ls n bk d x y) τ] (hs : Small ls) (hd : 0 ≤ d ∧ d ≤ 1000000000)
    (hP : roomF d op.length 0 = true → EntC κ bj ls n d bk (pairF ls n (N (op.length + 1))) 122 (op.length + 1)) (hI : roomF d op.length 0 = true → EntC κ bj ls n d bk (itemF ls n d (op.length + 1) (N (op.length + 1)) (N (op.length + 2))) 121 (op.length + 1)) (hG : ∀ k, GoodN ls (N k)) (hJ : JX x y op l τ σ0) (hlo : op.length ≤ 1000000) (hp : Pl ls p) (h0 : 0 < (restF ls p).length) (hb : l.length + 8 * mu p + 8 ≤ 1000000000)
    (h1 : ∀ ev e, collF ls n d op.length N p c v = .ok (ev, e) → ∀ x' y' τ', JX x' y' op (l ++ ev) τ' σ0 → K (.ret (PLA e)) (ρ ++ .obj bj (JC ls n bk d x' y') :: τ'))
    (h2 : ∀ e, collF ls n d op.length N p c v = .error e → ∀ x' y' op' l' τ', JX x' y' op' l' τ' σ0 → K (.pan (wrongC e)) (ρ ++ .obj bj (JC ls n bk d x' y') :: τ')) :
    ACallF κ Tryz.prog 83 [JP bj, PLA p, I c, TrA v] σ K := by
  refine ACallF.at_ (b := bj) ?_
  unfold collF at h1 h2
  by_cases hc : c = 123
  · subst hc
    simp only [if_pos trivial, if_true] at h1 h2
    refine jColl0 (N := N) (c := 123) (kd := 5) (sh := 125) hs hd hP (pair_good hs (hG _)) (.inl ⟨rfl, rfl, rfl, rfl⟩) hJ hlo hp h0 hb (fun q ev e hr hm hE => ?_) (fun e he => ?_)
    · refine h1 _ _ ?_
      rw [hr, hm, if_neg (by decide)]
      dsimp only
      rw [hE]
      rfl
    · refine h2 _ ?_
      rcases he with ⟨hr, rfl⟩ | ⟨hr, hm⟩ | ⟨hr, q, hm, hE⟩
      · rw [hr, if_pos rfl]
      · rw [hr, hm, if_neg (by decide)]
      · rw [hr, hm, if_neg (by decide)]
        dsimp only
        rw [hE]
  · simp only [if_neg hc] at h1 h2
    refine jColl0 (N := N) (c := c) (kd := 3) (sh := 93) hs hd hI (item_good hs (hG _) (hG _)) (.inr ⟨hc, rfl, rfl, rfl⟩) hJ hlo hp h0 hb (fun q ev e hr hm hE => ?_) (fun e he => ?_)
    · refine h1 _ _ ?_
      rw [hr, hm, if_neg (by decide)]
      dsimp only
      rw [hE]
      rfl
    · refine h2 _ ?_
      rcases he with ⟨hr, rfl⟩ | ⟨hr, hm⟩ | ⟨hr, q, hm, hE⟩
      · rw [hr, if_pos rfl]
      · rw [hr, hm, if_neg (by decide)]
      · rw [hr, hm, if_neg (by decide)]
        dsimp only
        rw [hE]
set_option maxHeartbeats 8000000 in
theorem traitsG_q {ls : List Ln} {n : Int} (hs : Small ls) : ∀ {f : Nat} {v v' : TrV} {q q' : Int × Int} {ok ok' : Bool}, traitsG ls n f v q ok = .ok (v', q', ok') →
    (ok = true → Pl ls q ∧ 0 < (restF ls q).length ∧ blankAt (restF ls q) = false) → (ok = false → q = (0, 0)) →
    (ok' = true → Pl ls q' ∧ 0 < (restF ls q').length ∧ blankAt (restF ls q') = false ∧ (ok = true → Le2 q q')) ∧ (ok' = false → q' = (0, 0)) ∧ (v' = v ∨ (ok = true ∧ Pl ls v'.q ∧ Le2 q v'.q ∧ mu v'.q + 1 ≤ mu q))
  | f, v, v', q, q', false, ok', h, h1, h2 => by
    have : (Except.ok (v, q, false) : Except Int (TrV × (Int × Int) × Bool)) = .ok (v', q', ok') := by rw [← h]; cases f <;> rfl
    cases this
    exact ⟨fun h => (by cases h), fun _ => h2 rfl, .inl rfl⟩
  | 0, v, v', q, q', true, ok', h, h1, h2 => by
    unfold traitsG at h
    split at h
    · cases h
    · cases h
      obtain ⟨a1, a2, a3⟩ := h1 rfl
      exact ⟨fun _ => ⟨a1, a2, a3, fun _ => Le2.rfl_⟩, fun h => (by cases h), .inl rfl⟩
    · cases h
  | f + 1, v, v', q, q', true, ok', h, h1, h2 => by
    obtain ⟨a1, a2, a3⟩ := h1 rfl
    unfold traitsG at h
    split at h
    · cases h
    · cases h
      exact ⟨fun _ => ⟨a1, a2, a3, fun _ => Le2.rfl_⟩, fun h => (by cases h), .inl rfl⟩
    · rename_i w hw
      obtain ⟨b1, b2, b3, b4⟩ := trait_pl hs hw
      have b5 : Pl ls w.q := by
        have := Pl.behind (n := w.q.2 - q.2) hs a2 (by omega)
        rw [show (q.1, q.2 + (w.q.2 - q.2)) = w.q by ext <;> dsimp only <;> omega] at this
        exact this
      have b6 : Le2 q w.q := .inr ⟨b2.symm, by omega⟩
      have b7 : mu w.q + 1 ≤ mu q := by
        have c1 := mu_step hs a1
        have c2 : mu w.q ≤ mu (q.1, q.2 + 1) := mu_mono (.inr ⟨b2.symm, by dsimp only; omega⟩) b5.2.2.1 (by have := a1.2.2.1; dsimp only; omega)
        omega
      split at h
      · cases h
      · have h9 := h
        obtain ⟨c1, c2, c3⟩ := traitsG_q hs h (fun h => (by cases h)) (fun _ => rfl)
        refine ⟨fun hok => ⟨(c1 hok).1, (c1 hok).2.1, (c1 hok).2.2.1, fun _ => ?_⟩, c2, ?_⟩
        · have : (Except.ok (w, ((0, 0) : Int × Int), false) : Except Int (TrV × (Int × Int) × Bool)) = .ok (v', q', ok') := by rw [← h9]; cases f <;> rfl
          cases this
          cases hok
        · rcases c3 with rfl | ⟨c3, -⟩
          · exact .inr ⟨rfl, b5, b6, b7⟩
          · cases c3
      · rename_i q2 hq2
        obtain ⟨d1, d2, d3⟩ := onF_q hs hq2
        have d4 := Pl.of_rest hs d2
        obtain ⟨c1, c2, c3⟩ := traitsG_q hs h (fun _ => ⟨d4, d2, d3⟩) (fun h => by cases h)
        have d5 : Le2 q q2 := b6.trans d1
        refine ⟨fun h => ⟨(c1 h).1, (c1 h).2.1, (c1 h).2.2.1, fun _ => d5.trans ((c1 h).2.2.2 rfl)⟩, c2, ?_⟩
        rcases c3 with rfl | ⟨-, c3, c4, c5⟩
        · exact .inr ⟨rfl, b5, b6, b7⟩
        · have := mu_mono d5 d4.2.2.1 a1.2.2.1
          exact .inr ⟨rfl, c3, d5.trans c4, by omega⟩
set_option maxHeartbeats 8000000 in
theorem anyT_0 : anyT tr0 = false := by
  have e : (ByteArray.empty).toList = ({ data := #[] } : ByteArray).toList := rfl
  unfold anyT emptyS
  simp [e]
set_option maxHeartbeats 8000000 in
theorem traits_q {ls : List Ln} {n : Int} {p q : Int × Int} {v : TrV} {ok : Bool} (hs : Small ls) (hp : PlW p) (h : traitsF ls n p = .ok (v, q, ok)) :
    (ok = true → Le2 p q ∧ Pl ls q ∧ 0 < (restF ls q).length ∧ blankAt (restF ls q) = false) ∧ (ok = false → q = (0, 0)) ∧ (anyT v = true → Pl ls v.q ∧ Le2 p v.q ∧ mu v.q + 1 ≤ mu p) := by
  unfold traitsF at h
  split at h
  · cases h
  · cases h
    exact ⟨fun h => (by cases h), fun _ => rfl, fun h => by rw [anyT_0] at h; cases h⟩
  · rename_i q2 hq2
    obtain ⟨d1, d2, d3⟩ := onF_q hs hq2
    have d4 := Pl.of_rest hs d2
    obtain ⟨c1, c2, c3⟩ := traitsG_q hs h (fun _ => ⟨d4, d2, d3⟩) (fun h => by cases h)
    refine ⟨fun h => ⟨d1.trans ((c1 h).2.2.2 rfl), (c1 h).1, (c1 h).2.1, (c1 h).2.2.1⟩, c2, fun ha => ?_⟩
    rcases c3 with rfl | ⟨-, c3, c4, c5⟩
    · rw [anyT_0] at ha; cases ha
    · have := mu_mono d1 d4.2.2.1 hp.2.2.2
      exact ⟨c3, d1.trans c4, by omega⟩
set_option maxHeartbeats 8000000 in
theorem jTraitsOk {bj ix : Nat} {ls : List Ln} {n d : Int} {bk : Bool} {x y : AV} [hJ : Hold σ bj ix (JC ls n bk d x y)] {p q : Int × Int} {v : TrV} {ok : Bool} (ht : traitsF ls n p = .ok (v, q, ok)) (hs : Small ls) (hp : PlW p)
    (hK : K (.ret (.tup [TrA v, PLA q, B ok])) σ) : ACallF κ Tryz.prog 78 [JP bj, PLA p] σ K :=
  jTraits hs hp (fun v' q' ok' h => by rw [ht] at h; cases h; exact hK) (fun e h => by rw [ht] at h; cases h)
set_option maxHeartbeats 8000000 in
theorem jTraitsEr {bj ix : Nat} {ls : List Ln} {n d e : Int} {bk : Bool} {x y : AV} [hJ : Hold σ bj ix (JC ls n bk d x y)] {p : Int × Int} (ht : traitsF ls n p = .error e) (hs : Small ls) (hp : PlW p)
    (hK : K (.pan (wrongC e)) σ) : ACallF κ Tryz.prog 78 [JP bj, PLA p] σ K :=
  jTraits hs hp (fun v' q' ok' h => by rw [ht] at h; cases h) (fun e h => by rw [ht] at h; cases h; exact hK)
end Go.Proofs.YtgoofaeifbfblaaGreat
