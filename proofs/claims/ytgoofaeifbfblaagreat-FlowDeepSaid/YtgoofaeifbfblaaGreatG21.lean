/-
  Texts If, Ig, Ip, ML, Ir, Iq, Is, one behind the other.
-/
import Derived.Test.YtgoofaeifbfblaaGreatG18
import Derived.Test.YtgoofaeifbfblaaGreatG19
import Derived.Test.YtgoofaeifbfblaaGreatG20
set_option linter.unusedVariables false
set_option linter.unusedSimpArgs false
/-
  Walks: chapter 1, the form of texts of small bytes.
-/

namespace Go.Proofs.YtgoofaeifbfblaaGreat
open Go.Abs
set_option linter.unusedVariables false
set_option linter.unusedSimpArgs false
variable {κ : Ctx} {σ : List Res} {K : Ret → List Res → Prop} {o o' : Option (Option (Nat × Nat))}
set_option maxHeartbeats 8000000 in
set_option maxRecDepth 4000 in
theorem rFormS {b : List Int} (hb : Asc b) (h1 : b.length ≤ 1) (hK : K (.ret (.tup [I 1, I 0])) σ) : ACallF κ Tryz.prog 47 [SU o b] σ K := by
  have hbl := hb.1
  have hn3 : ¬ ((b.length : Int) > 3) := by omega
  have hn1 : ¬ ((b.length : Int) > 1) := by omega
  refine ACallF.dropL (ACallF_intro Tryz.func47 rfl ?_)
  simp only [Tryz.ntmps47]
  repeat' (first | simp only [WL, intF, WM, reduceCtorEq, WLb, Nat.reduceAdd, Nat.reduceSub, true_and, reduceIte, Bool.false_eq_true, T79, cok76, Tryz.results47, decide_eq_false hn3, decide_eq_false hn1] | with_reducible refine y_bs (hK := ?_) | ( refine callD_mk (ACallF.argsS (ys := [SU o b, SU none [0, 0, 254, 255]]) ⟨leS_rfl, leS_le le_ro, trivial⟩ (rIsNo hb (by decide) (by decide) ?_))) | ( refine callD_mk (ACallF.argsS (ys := [SU o b, SU none [255, 254, 0, 0]]) ⟨leS_rfl, leS_le le_ro, trivial⟩ (rIsNo hb (by decide) (by decide) ?_))) | ( refine callD_mk (ACallF.argsS (ys := [SU o b, SU none [254, 255]]) ⟨leS_rfl, leS_le le_ro, trivial⟩ (rIsNo hb (by decide) (by decide) ?_))) | ( refine callD_mk (ACallF.argsS (ys := [SU o b, SU none [255, 254]]) ⟨leS_rfl, leS_le le_ro, trivial⟩ (rIsNo hb (by decide) (by decide) ?_))) | ( refine callD_mk (ACallF.argsS (ys := [SU o b, SU none [239, 187, 191]]) ⟨leS_rfl, leS_le le_ro, trivial⟩ (rIsNo hb (by decide) (by decide) ?_))))
  all_goals first
    | exact leafL sub_rfl (leT_eq rfl) hK
    | (exfalso; omega)
    | trace_state
set_option maxHeartbeats 8000000 in
theorem rForm {b : List Int} (hb : Asc b) (hK : K (.ret (.tup [I 1, I 0])) σ) : ACallF κ Tryz.prog 47 [SU o b] σ K := by
  rcases Nat.lt_or_ge 1 b.length with h1 | h1
  · rcases Nat.lt_or_ge 3 b.length with h3 | h3
    · exact rFormL hb h3 hK
    · exact rFormM hb h1 h3 hK
  · exact rFormS hb h1 hK
set_option maxHeartbeats 8000000 in
theorem rPoints {b : List Int} (hb : Asc b) (hK : K (.ret (.tup [SI none b, I 0])) σ) : ACallF κ Tryz.prog 30 [SU o b] σ K := by
  have hbl := hb.1
  refine ACallF.dropL (ACallF_introA Tryz.func30 rfl ?_)
  simp only [Tryz.ntmps30]
  repeat' (first | (with_reducible first | refine AW_block ?_ | refine AW_seqA (AW_seqA ?_) | refine AW_seq ?_ | refine AW_runReg ?_ | refine AW_runCond ?_ | refine AW_runRet ?_) | simp only [WL, intF, WM, Int.reduceToNat, reduceCtorEq, WLb, Nat.reduceAdd, Nat.reduceSub, Nat.reduceLT, Bool.not_true, beq_self_eq_true, true_and, T5, T79, cok47, cok48, Tryz.results30] | (with_reducible first | refine andA (hb := ?_) | refine cD (rForm ?_ ?_) | refine cD (rSmall ?_ ?_)) | ((with_reducible first | refine grd_cases (fun h => ?_) (fun h => ?_) | refine condC_split (fun h => ?_) (fun h => ?_)) <;> (try simp only [h]) <;> (try simp only [NR_, NRb] at h)) | omega)
  exact leafL sub_rfl (leT_eq rfl) hK
set_option maxHeartbeats 8000000 in
theorem lLines {s : ByteArray} (hb : Asc (bytesI s)) (hK : K (.ret (SL none (readR (bytesI s)).1)) σ) : ACallF κ Tryz.prog 19 [.raw (.string s)] σ K := by
  have hbl := hb.1
  have hsz := bytesI_len s
  refine ACallF.dropL (ACallF_intro Tryz.func19 rfl ?_)
  simp only [Tryz.ntmps19]
  repeat' (first | simp only [WL, WM, Nat.reduceAdd, Nat.reduceSub, Nat.reduceLT, true_and, convC_str, cok30, cok31, Tryz.results19] | (with_reducible first | refine y_str ?_ ?_ | refine cD (rPoints ?_ ?_) | refine cD (rLines ?_ ?_)) | omega | (refine maxLen_ok ?_; (first | omega | (simp only [LN_]; omega))))
  exact leafL sub_rfl (leT_eq rfl) hK
end Go.Proofs.YtgoofaeifbfblaaGreat
/-
  Chapter 13: nodes on one line, plain facts.
-/

namespace Go.Proofs.YtgoofaeifbfblaaGreat
open Go.Abs
set_option linter.unusedVariables false
set_option linter.unusedSimpArgs false
abbrev oneL (T : List Int) : List Ln := [(0, T)]
set_option maxHeartbeats 4000000 in
theorem one_small {T : List Int} (h : T.length ≤ 2000) : Small (oneL T) := ⟨by simp, fun x hx => by
  obtain rfl : x = (0, T) := by simpa using hx
  exact ⟨h, Int.le_refl _, by show (0 : Int) ≤ 2000; decide⟩⟩
set_option maxHeartbeats 4000000 in
theorem one_rest {T : List Int} {k : Nat} : restF (oneL T) (0, (k : Int)) = T.drop k := by
  rw [restF_in (by dsimp only; omega) (by simp) (by dsimp only; omega)]
  show (if (k : Int) < (0 : Int) then [32] else T.drop (min ((k : Int) - max 0 0) (T.length : Int)).toNat) = _
  rw [if_neg (by omega)]
  rcases Nat.lt_or_ge k T.length with h | h
  · rw [show (min ((k : Int) - max 0 0) (T.length : Int)).toNat = k by omega]
  · rw [List.drop_eq_nil_of_le (by omega), List.drop_eq_nil_of_le h]
set_option maxHeartbeats 4000000 in
theorem one_past {T : List Int} {k b : Nat} (hb : blN (T.drop k) = b) : pastF (oneL T) (0, (k : Int)) = ((0, ((k + b : Nat) : Int)), T.drop (k + b)) := by
  have hc : colF (oneL T) (0, (k : Int)) = k := by
    unfold colF
    show (if (0 : Int) ≤ 0 ∧ (0 : Int) < 1 then max (k : Int) 0 else k) = _
    rw [if_pos (by decide)]; omega
  unfold pastF
  dsimp only
  rw [hc, one_rest, hb, List.drop_drop]
  congr 2
set_option maxHeartbeats 4000000 in
theorem one_on {T : List Int} {n : Int} {k b : Nat} (hb : blN (T.drop k) = b) (hl : k + b < T.length) (hc : ¬ T.getD (k + b) 0 = 35) : onF (oneL T) n (0, (k : Int)) = some (some (0, ((k + b : Nat) : Int))) := by
  have hs : someF (oneL T) (0, (k : Int)) = ((0, ((k + b : Nat) : Int)), true) := by
    unfold someF
    rw [one_past hb]
    dsimp only
    have h1 : 0 < (T.drop (k + b)).length := by rw [List.length_drop]; omega
    have h2 : comF (oneL T) (0, ((k + b : Nat) : Int)) (T.drop (k + b)) = false := by
      unfold comF headF
      rw [getD_drop_, Nat.add_zero, beq_eq_false_iff_ne.2 hc, Bool.and_false, Bool.false_and]
    rw [decide_eq_true h1, h2]; rfl
  unfold onF
  rw [places_step, hs]
  show onL _ _ _ (((0, ((k + b : Nat) : Int)), true) :: _) = _
  unfold onL
  rw [if_pos rfl]
  rw [if_neg (by dsimp only; omega)]
set_option maxHeartbeats 4000000 in
theorem one_must {T : List Int} {n : Int} {k b : Nat} (hb : blN (T.drop k) = b) (hl : k + b < T.length) (hc : ¬ T.getD (k + b) 0 = 35) : mustF (oneL T) n (0, (k : Int)) = .ok (0, ((k + b : Nat) : Int)) := by
  unfold mustF
  rw [one_on hb hl hc]
set_option maxHeartbeats 4000000 in
theorem one_head {T : List Int} {k : Nat} {c : Int} (hl : k < T.length) : headF (restF (oneL T) (0, (k : Int))) c = (T.getD k 0 == c) := by
  rw [one_rest]
  unfold headF
  rw [decide_eq_true (by rw [List.length_drop]; omega), Bool.true_and, getD_drop_, Nat.add_zero]
set_option maxHeartbeats 4000000 in
theorem one_is {T : List Int} {k : Nat} {c : Int} (hl : k < T.length) : isF (oneL T) (0, (k : Int)) c = (T.getD k 0 == c) := one_head hl
set_option maxHeartbeats 4000000 in
theorem blN_0 {l : List Int} (h : blankI (l.getD 0 0) = false) : blN l = 0 := by
  cases l with
  | nil => rfl
  | cons c l =>
    unfold blN
    rw [List.takeWhile_cons, show blankI c = false from h]; rfl
set_option maxHeartbeats 4000000 in
theorem one_must0 {T : List Int} {n : Int} {k : Nat} (hl : k < T.length) (hb : blankI (T.getD k 0) = false) (hc : ¬ T.getD k 0 = 35) : mustF (oneL T) n (0, (k : Int)) = .ok (0, (k : Int)) :=
  one_must (b := 0) (blN_0 (by rw [getD_drop_, Nat.add_zero]; exact hb)) hl hc
set_option maxHeartbeats 4000000 in
theorem one_traits {T : List Int} {n : Int} {k : Nat} (hl : k < T.length) (hb : blankI (T.getD k 0) = false) (hc : ¬ T.getD k 0 = 35) (h1 : ¬ T.getD k 0 = 38) (h2 : ¬ T.getD k 0 = 33) : traitsF (oneL T) n (0, (k : Int)) = .ok (tr0, (0, (k : Int)), true) := by
  unfold traitsF
  rw [one_on (b := 0) (blN_0 (by rw [getD_drop_, Nat.add_zero]; exact hb)) hl hc]
  dsimp only
  rw [Nat.add_zero]
  exact traitsG_end (traitF_no (by rw [one_head hl]; exact beq_eq_false_iff_ne.2 h1) (by rw [one_head hl]; exact beq_eq_false_iff_ne.2 h2))
set_option maxHeartbeats 4000000 in
theorem one_coll {T : List Int} {n d : Int} {bk : Bool} {k : Nat} {N : Nat → Int × Int → NodeR} {m : Nat} {c : Int} (hl : m < T.length) (hc : T.getD m 0 = c) (hc2 : c = 91 ∨ c = 123) :
    nodeS (oneL T) n d bk N k (0, (m : Int)) = match collF (oneL T) n d k N (0, (m : Int)) c tr0 with
      | .error e => .error e
      | .ok (ev, e) => .ok (ev, e, true) := by
  have hb : blankI (T.getD m 0) = false := by rw [hc]; rcases hc2 with h | h <;> rw [h] <;> decide
  unfold nodeS
  rw [one_traits hl hb (by rw [hc]; omega) (by rw [hc]; omega) (by rw [hc]; omega)]
  dsimp only
  rw [if_pos rfl]
  unfold bodyF
  have hh : ∀ x, headF (restF (oneL T) (0, (m : Int))) x = (c == x) := fun x => by rw [one_head hl, hc]
  have hg : (restF (oneL T) (0, (m : Int))).getD 0 0 = c := by rw [one_rest, getD_drop_, Nat.add_zero]; exact hc
  simp only [hh, hg]
  rcases hc2 with h | h <;> subst h <;> simp <;> generalize collF _ _ _ _ _ _ _ _ = R <;> cases R <;> rfl
/-! ### Brackets in brackets -/
abbrev brT (n : Nat) : List Int := List.replicate n 91 ++ List.replicate n 93
set_option maxHeartbeats 4000000 in
theorem brT_len (n : Nat) : (brT n).length = 2 * n := by simp; omega
set_option maxHeartbeats 4000000 in
theorem brT_lo {n k : Nat} (h : k < n) : (brT n).getD k 0 = 91 := by
  simp [List.getD_eq_getElem?_getD, List.getElem?_append, h]
set_option maxHeartbeats 4000000 in
theorem brT_hi {n k : Nat} (h : n ≤ k) (h2 : k < 2 * n) : (brT n).getD k 0 = 93 := by
  simp [List.getD_eq_getElem?_getD, List.getElem?_append, show ¬ k < n by omega, show k - n < n by omega]
set_option maxHeartbeats 4000000 in
theorem coll_room {ls : List Ln} {n d c : Int} {k : Nat} {N : Nat → Int × Int → NodeR} {v : TrV} {p : Int × Int} (h : roomF d k 0 = false) : collF ls n d k N p c v = .error 8 := by
  unfold collF; rw [if_pos h]
set_option maxHeartbeats 4000000 in
theorem room_t {d : Int} {k : Nat} (h : d + k < 200) (hd : 0 ≤ d) : roomF d k 0 = true := by
  unfold roomF; rw [decide_eq_true (by omega), decide_eq_true (by omega)]; rfl
set_option maxHeartbeats 4000000 in
theorem room_f {d : Int} {k : Nat} (h : 200 ≤ d + k) : roomF d k 0 = false := by
  unfold roomF; rw [decide_eq_false (by omega : ¬ d + k + 0 < 200), Bool.and_false]
set_option maxHeartbeats 4000000 in
theorem node_succ {ls : List Ln} {n d : Int} {bk : Bool} {f k : Nat} : nodeF ls n d bk (f + 1) k = nodeS ls n d bk (nodeF ls n d bk f) k := rfl
set_option maxHeartbeats 4000000 in
theorem node_any {ls : List Ln} {n d : Int} {bk : Bool} {f k : Nat} : ∃ N, nodeF ls n d bk f k = nodeS ls n d bk N k := by
  cases f with
  | zero => exact ⟨_, rfl⟩
  | succ f => exact ⟨_, rfl⟩
set_option maxHeartbeats 4000000 in
theorem br_node {n : Nat} {m d : Int} {bk : Bool} (hd : 0 ≤ d) : ∀ (r f k : Nat), r + k = n → 0 < r → 200 ≤ f + k →
    (200 < d + n → nodeF (oneL (brT n)) m d bk f k (0, (k : Int)) = .error 8) ∧ (d + n ≤ 200 → ∃ ev, nodeF (oneL (brT n)) m d bk f k (0, (k : Int)) = .ok (ev, (0, ((2 * n - k : Nat) : Int)), true))
  | 0, _, _, _, h, _ => absurd h (Nat.lt_irrefl _)
  | r + 1, f, k, hr, h0, hf => by
    have hl := brT_len n
    have hk : (brT n).getD k 0 = 91 := brT_lo (by omega)
    have hkl : k < (brT n).length := by omega
    rcases Int.lt_or_le (d + k) 200 with hroom | hroom
    · obtain ⟨f, rfl⟩ : ∃ f', f = f' + 1 := ⟨f - 1, by omega⟩
      rw [node_succ, one_coll hkl hk (.inl rfl)]
      have hrt := room_t hroom hd
      unfold collF
      rw [hrt, if_neg (by decide)]
      simp only [show ¬ (91 : Int) = 123 by decide, if_false]
      have hcast : (((0 : Int), (k : Int)).1, ((0 : Int), (k : Int)).2 + 1) = ((0 : Int), ((k + 1 : Nat) : Int)) := by ext <;> simp
      rw [hcast]
      rcases Nat.eq_zero_or_pos r with hr0 | hr0
      · -- the innermost
        have h93 : (brT n).getD (k + 1) 0 = 93 := brT_hi (by omega) (by omega)
        rw [one_must0 (k := k + 1) (by omega) (by rw [h93]; decide) (by rw [h93]; decide)]
        dsimp only
        rw [entriesF, if_pos (by rw [one_is (k := k + 1) (by omega), h93]; rfl)]
        refine ⟨fun h => by omega, fun _ => ?_⟩
        apply Exists.intro
        dsimp only
        rw [show ((2 * n - k : Nat) : Int) = ((k + 1 : Nat) : Int) + 1 by omega]
      · have h91 : (brT n).getD (k + 1) 0 = 91 := brT_lo (by omega)
        rw [one_must0 (k := k + 1) (by omega) (by rw [h91]; decide) (by rw [h91]; decide)]
        dsimp only
        obtain ⟨ih1, ih2⟩ := br_node (n := n) (m := m) (bk := bk) hd r f (k + 1) (by omega) hr0 (by omega)
        rw [entriesF, if_neg (by rw [one_is (k := k + 1) (by omega), h91]; decide)]
        have hloose : looseF (oneL (brT n)) (0, ((k + 1 : Nat) : Int)) 63 = false := by
          unfold looseF
          rw [one_head (k := k + 1) (by omega), h91]; rfl
        unfold itemF
        rw [hloose, if_neg Bool.false_ne_true]
        refine ⟨fun h => ?_, fun h => ?_⟩
        · rw [ih1 h]
        · obtain ⟨ev, hev⟩ := ih2 h
          have hp : ((2 * n - (k + 1) : Nat)) < (brT n).length := by omega
          have h93 : (brT n).getD (2 * n - (k + 1)) 0 = 93 := brT_hi (by omega) (by omega)
          have hm : mustF (oneL (brT n)) m (0, ((2 * n - (k + 1) : Nat) : Int)) = .ok (0, ((2 * n - (k + 1) : Nat) : Int)) := one_must0 hp (by rw [h93]; decide) (by rw [h93]; decide)
          rw [hev]
          dsimp only
          rw [hm]
          dsimp only
          have hsg : signF (oneL (brT n)) (0, ((2 * n - (k + 1) : Nat) : Int)) ((0, ((2 * n - (k + 1) : Nat) : Int)), true) = false := by
            unfold signF looseF
            rw [one_head hp, one_is hp, h93]; rfl
          have hkb : keyB (oneL (brT n)) (0, ((k + 1 : Nat) : Int)) (0, ((2 * n - (k + 1) : Nat) : Int)) ((0, ((2 * n - (k + 1) : Nat) : Int)), true) = false := by
            unfold keyB
            rw [hsg, Bool.and_false, Bool.and_false, Bool.and_false]
          rw [if_pos hkb]
          dsimp only
          rw [hm]
          dsimp only
          rw [if_pos (by rw [one_is hp, h93]; rfl), if_pos (by rw [one_is hp, h93]; rfl)]
          apply Exists.intro
          dsimp only
          rw [show ((2 * n - k : Nat) : Int) = ((2 * n - (k + 1) : Nat) : Int) + 1 by omega]
    · obtain ⟨N, hN⟩ := node_any (ls := oneL (brT n)) (n := m) (d := d) (bk := bk) (f := f) (k := k)
      rw [hN, one_coll hkl hk (.inl rfl), coll_room (room_f hroom)]
      exact ⟨fun _ => rfl, fun h => by omega⟩
end Go.Proofs.YtgoofaeifbfblaaGreat
/-
  The abstract layer, part L: elements of rows of one's own.
-/

namespace Go.Abs
section
variable {κ : Ctx} {P : Program} {σ : List Res} {K : AV → List Res → Prop}
theorem act_idx_row {t e : TypeId} {sz b o n c : Nat} {k : IntKind} {i : Int} (ht : slE P t = some e) (hs : szT P e = some sz) (h0 : 0 ≤ i) (h1 : i < n) (hK : K (.raw (.pointer (some ⟨b, o + i.toNat * sz, none⟩))) σ) :
    AAct κ P (.indexAddr t) [rowV b o n c, .raw (.int k i)] σ K := by
  intro φ g w vs hR hvs
  obtain ⟨v, u, rfl, hv, hu⟩ := two_vs hvs
  cases hv.raw_eq
  cases hu.raw_eq
  refine ⟨_, w, g, _, σ, ?_, hR, GE.refl _ _, .raw _, hK⟩
  have hu := und_of_slE ht
  simp [MA.sem, nth, Instr.indexAt, asIntOf, run_und hu, Instr.sureAddr, h0, h1, run_szT hs, Addr.add_lit]
end
section
variable {κ : Ctx} {P : Program} {all rest : List Oper} {Q : Exit → St → Prop} {d : Option Tmp} {t : List AV} {σ : List Res} {fr : Bool} {df : List Deferred} {dm : Bool}
theorem y_idx_row {ty e : TypeId} {sz by_ b o n c : Nat} {z : Value} {k : IntKind} {i : Int} [hS : TSl P ty e sz by_ z] (h0 : 0 ≤ i := by first | decide | omega) (h1 : i < n := by first | decide | omega) (hK : goK κ dm P all Q d rest ⟨t, σ, fr, df⟩ (.raw (.pointer (some ⟨b, o + i.toNat * sz, none⟩))) σ) : actC κ dm P all Q d rest ⟨t, σ, fr, df⟩ (.indexAddr ty) [rowV b o n c, .raw (.int k i)] :=
  actC_q (act_idx_row hS.sl hS.hz h0 h1 isA_mk) hK
end
end Go.Abs
/-
  Walks: chapter 13's laws: the example of the document.
-/



namespace Go.Proofs.YtgoofaeifbfblaaGreat
open Go.Abs
set_option linter.unusedVariables false
set_option linter.unusedSimpArgs false
variable {κ : Ctx} {σ : List Res} {K : Ret → List Res → Prop} {o o' : Option (Option (Nat × Nat))}
set_option maxHeartbeats 8000000 in
theorem sub_tail {r : Res} {σ ρ : List Res} (h : Sub (r :: σ) ρ) : Sub σ ρ := by
  classical
  obtain ⟨τ, hp, hs⟩ := h
  have h2 := (List.cons_perm_iff_perm_erase.1 hp.symm).2
  exact ⟨τ.erase r, h2.symm, List.Sublist.trans List.erase_sublist hs⟩
abbrev alT : List Int := [91, 97, 44, 32, 98, 58, 32, 99, 93]
abbrev alE : List EvV := [⟨3, .empty, .empty, .empty, 0, true⟩, ⟨7, textI [97], .empty, .empty, 1, false⟩, ⟨5, .empty, .empty, .empty, 0, true⟩, ⟨7, textI [98], .empty, .empty, 1, false⟩, ⟨7, textI [99], .empty, .empty, 1, false⟩, ⟨6, .empty, .empty, .empty, 0, false⟩, ⟨4, .empty, .empty, .empty, 0, false⟩]
set_option maxHeartbeats 8000000 in
theorem alive_whole : wholeF (oneL alT) (-1) 0 false (0, 0) = .ok (alE, (0, 9), true) := by kernel_rfl
set_option maxHeartbeats 8000000 in
theorem alive_lines : (readR alT).1 = oneL alT := by decide
set_option maxHeartbeats 8000000 in
theorem lNum {e : Int} (hK : K (.ret (I e)) σ) : ACallF κ Tryz.prog 17 [I e] σ K := by
  refine ACallF.dropL (ACallF_intro Tryz.func17 rfl ?_)
  simp only [Tryz.ntmps17]
  repeat' (first | simp only [WL, WM, Nat.reduceAdd, Nat.reduceSub, true_and, Tryz.results17])
  exact leafL sub_rfl (leT_eq rfl) hK
set_option maxHeartbeats 8000000 in
theorem jNodeRow {br ix : Nat} {ls : List Ln} {i k n d : Int} [hR : Hold σ br ix [SL none ls]] (hs : Small ls) (hd : 0 ≤ d ∧ d ≤ 1000000000) (hp64 : In64 i ∧ In64 k) (hn : In64 n) {ev : List EvV} {e : Int × Int} {t : Bool} (hw : wholeF ls n d false (i, k) = .ok (ev, e, t)) (hi : 0 ≤ i ∧ i < ls.length ∧ 0 ≤ k) (h0 : 0 < ev.length)
    (h1 : ∀ rb rc cs ρ, ev.length ≤ rc → Sub σ ρ → K (.ret (.tup [rowV rb 0 ev.length rc, I e.1, I e.2, I 0])) (.obj rb (cellsL (ev.map EVA) ++ cs) :: ρ)) : ACallF κ Tryz.prog 15 [JP br, I i, I k, I n, I d] σ K := by
  refine ACallF.dropL (jNodeR hs hd hp64 hn (fun bj hc => by omega) (fun ev' e' t' hw' bj x' y' τ' hJ' => ?_) (fun e' hw' => by rw [hw] at hw'; cases hw'))
  rw [hw] at hw'
  cases hw'
  obtain ⟨ρx, ρy, r1, r2, hp⟩ := hJ'
  generalize hm : ev.map EVA = m at r2
  have hml : m.length = ev.length := by rw [← hm, List.length_map]
  cases r2 with
  | nil => exfalso; rw [List.length_nil] at hml; omega
  | @row rb rc cs _ k0 kn kc kt =>
  rw [hml] at kn kt ⊢
  have hcs : cs = cellsL m ++ cs.drop (ev.length * 6) := by rw [← kt, List.take_append_drop]
  have h2 := h1 rb rc (cs.drop (ev.length * 6)) (.obj bj (JC ls n false d x' (rowV rb 0 ev.length rc)) :: (ρx ++ σ)) kn (sub_cons ⟨σ, List.Perm.refl _, List.sublist_append_right _ _⟩)
  rw [hm, ← hcs] at h2
  have hpp := (List.Perm.cons (.obj bj (JC ls n false d x' (rowV rb 0 ev.length rc))) (hp.trans List.perm_middle)).trans (List.Perm.swap _ _ _)
  exact leafL ⟨_, by first | exact hpp | exact hpp.symm, List.Sublist.refl _⟩ (leT_eq rfl) h2
set_option maxHeartbeats 8000000 in
theorem lAlive (hK : K (.ret (B true)) σ) : ACallF κ Tryz.prog 12 [] σ K := by
  have hA : Asc (bytesI { data := #[91, 97, 44, 32, 98, 58, 32, 99, 93] }) := ⟨by decide, by decide⟩
  have hb : bytesI { data := #[91, 97, 44, 32, 98, 58, 32, 99, 93] } = alT := by decide
  have hs := one_small (T := alT) (by decide)
  refine ACallF.dropL (ACallF_intro Tryz.func12 rfl ?_)
  simp only [Tryz.ntmps12]
  repeat' (first | ( with_reducible refine y_idx_row (hK := ?_)) | simp only [WL, intF, WM, Int.reduceToNat, reduceCtorEq, WLb, Nat.reduceAdd, Nat.reduceSub, Nat.reduceLT, Nat.reduceEqDiff, Bool.not_true, beq_self_eq_true, true_and, reduceIte, Bool.false_eq_true, T3, T27, fR fl41_0, cok14, cok15, cok17, cok19, Tryz.results12, hb, alive_lines] | (with_reducible first | refine andA (hb := ?_) | refine y_load (hK := ?_) | refine cD (lLines hA ?_) | refine cD (jNew (ls := oneL alT) (by simp) (by simp) (fun br => ?_)) | refine cD (jNodeRow (ls := oneL alT) hs (by omega) ⟨by decide, by decide⟩ (by decide) alive_whole (by simp) (by decide) (fun rb rc cs ρ hrc hsub => ?_)) | refine cD (lNum ?_)) | ((with_reducible first | refine grd_cases (fun h => ?_) (fun h => ?_) | refine condC_split (fun h => ?_) (fun h => ?_)) <;> (try simp only [h]) <;> (try simp only [NR_, NRb] at h)) | omega)
  all_goals first
    | exact leafL (sub_cons (sub_tail hsub)) (leT_eq rfl) hK
    | (exfalso; omega)
    | trace_state
end Go.Proofs.YtgoofaeifbfblaaGreat
/-
  Chapter 13: braces in braces, plain facts.
-/

namespace Go.Proofs.YtgoofaeifbfblaaGreat
open Go.Abs
set_option linter.unusedVariables false
set_option linter.unusedSimpArgs false
abbrev cuT (n : Nat) : List Int := (List.replicate n [123, 97, 58, 32]).flatten ++ List.replicate n 125
set_option maxHeartbeats 4000000 in
theorem cu_len : ∀ n : Nat, (List.replicate n [(123 : Int), 97, 58, 32]).flatten.length = 4 * n
  | 0 => rfl
  | n + 1 => by rw [List.replicate_succ, List.flatten_cons, List.length_append, cu_len n]; simp; omega
set_option maxHeartbeats 4000000 in
theorem cuT_len (n : Nat) : (cuT n).length = 5 * n := by rw [List.length_append, cu_len, List.length_replicate]; omega
set_option maxHeartbeats 4000000 in
theorem cu_at : ∀ {n j i : Nat}, j < n → i < 4 → (List.replicate n [(123 : Int), 97, 58, 32]).flatten.getD (4 * j + i) 0 = [(123 : Int), 97, 58, 32].getD i 0
  | 0, _, _, h, _ => absurd h (Nat.not_lt_zero _)
  | n + 1, 0, i, _, hi => by
    rw [List.replicate_succ, List.flatten_cons, Nat.mul_zero, Nat.zero_add]
    match i, hi with
    | 0, _ => rfl
    | 1, _ => rfl
    | 2, _ => rfl
    | 3, _ => rfl
  | n + 1, j + 1, i, h, hi => by
    have := cu_at (n := n) (j := j) (i := i) (by omega) hi
    rw [List.replicate_succ, List.flatten_cons]
    rw [← this]
    simp only [List.getD_eq_getElem?_getD]
    rw [List.getElem?_append_right (by simp; omega)]
    congr 2
    simp; omega
set_option maxHeartbeats 4000000 in
theorem cuT_lo {n j i : Nat} (h : j < n) (hi : i < 4) : (cuT n).getD (4 * j + i) 0 = [(123 : Int), 97, 58, 32].getD i 0 := by
  rw [← cu_at h hi]
  simp only [List.getD_eq_getElem?_getD]
  rw [List.getElem?_append_left (by rw [cu_len]; omega)]
set_option maxHeartbeats 4000000 in
theorem cuT_hi {n k : Nat} (h : 4 * n ≤ k) (h2 : k < 5 * n) : (cuT n).getD k 0 = 125 := by
  simp only [List.getD_eq_getElem?_getD]
  rw [List.getElem?_append_right (by rw [cu_len]; exact h), cu_len]
  simp [show k - 4 * n < n by omega]
set_option maxHeartbeats 4000000 in
theorem cu_drop {n j : Nat} (h : j < n) : ∃ r, (cuT n).drop (4 * j + 1) = 97 :: 58 :: 32 :: r := by
  have hl := cuT_len n
  refine ⟨(cuT n).drop (4 * j + 4), ?_⟩
  have e : ∀ i, i < 4 → (cuT n).drop (4 * j + i) = [(123 : Int), 97, 58, 32].getD i 0 :: (cuT n).drop (4 * j + i + 1) := fun i hi => by
    rw [← cuT_lo h hi, List.drop_eq_getElem_cons (by omega : 4 * j + i < (cuT n).length), List.getD_eq_getElem?_getD, List.getElem?_eq_getElem (by omega)]
    rfl
  rw [e 1 (by decide), e 2 (by decide), e 3 (by decide)]
  rfl
set_option maxHeartbeats 4000000 in
theorem a_begins (r : List Int) : beginsI (97 :: 58 :: 32 :: r) true = true := by
  unfold beginsI safeAt
  simp only [List.length_cons, List.getD_cons_zero]
  rw [show safeI 97 true = true by decide, show (decide (0 < r.length + 1 + 1 + 1)) = true by simp]
  rw [if_neg (by decide), show signI 97 = false by decide]
  rfl
set_option maxHeartbeats 4000000 in
theorem a_end (r : List Int) : endI (97 :: 58 :: 32 :: r) true = 1 := by
  have h1 : stopI (97 :: 58 :: 32 :: r) true = 1 := by
    unfold stopI
    rw [stopsAt, List.drop_zero, stopsN, if_neg (by decide), stopsN, if_pos (by decide), stopL]
    rw [if_neg (by
      rw [goes_f (.inr (by
        unfold safeAt
        simp only [List.getD_cons_succ, List.getD_cons_zero]
        rw [show safeI 32 true = false by decide, Bool.and_false])) (.inl (by simp))]
      exact Bool.false_ne_true)]
  unfold endI
  rw [h1, List.take_succ_cons, List.take_zero]
  decide
set_option maxHeartbeats 4000000 in
theorem cu_a {n j k : Nat} {m d : Int} {N : Nat → Int × Int → NodeR} (h : j < n) : nodeS (oneL (cuT n)) m d false N k (0, ((4 * j + 1 : Nat) : Int)) = .ok ([⟨7, textI [97], .empty, .empty, 1, false⟩], (0, ((4 * j + 2 : Nat) : Int)), false) := by
  have hl := cuT_len n
  obtain ⟨r, hr⟩ := cu_drop h
  have hc := cuT_lo h (i := 1) (by decide)
  have hc' : (cuT n).getD (4 * j + 1) 0 = 97 := hc
  unfold nodeS
  rw [one_traits (k := 4 * j + 1) (by omega) (by rw [hc']; decide) (by rw [hc']; decide) (by rw [hc']; decide) (by rw [hc']; decide)]
  dsimp only
  rw [if_pos rfl, one_rest, hr]
  unfold bodyF
  have hh : ∀ x, headF (97 :: 58 :: 32 :: r) x = ((97 : Int) == x) := fun x => by unfold headF; simp
  simp only [hh]
  rw [if_neg (by decide), if_neg (by decide), if_neg (by decide), if_pos ⟨by simp, by simpa using a_begins r⟩]
  have hpl : plainF (oneL (cuT n)) m (false && decide (k = 0)) (0, ((4 * j + 1 : Nat) : Int)) (97 :: 58 :: 32 :: r) = .ok ([97], (0, ((4 * j + 2 : Nat) : Int))) := by
    unfold plainF
    rw [plainN_eq]
    simp only [Bool.false_and, Bool.not_false, a_end]
    rw [if_neg (by simp)]
    have hp : (pastF (oneL (cuT n)) (0, ((4 * j + 1 : Nat) : Int) + ((1 : Nat) : Int))).2.length ≠ 0 := by
      have hc2 : (cuT n).getD (4 * j + 2) 0 = 58 := cuT_lo h (i := 2) (by decide)
      rw [show ((4 * j + 1 : Nat) : Int) + ((1 : Nat) : Int) = ((4 * j + 2 : Nat) : Int) by omega, one_past (b := 0) (blN_0 (by rw [getD_drop_, Nat.add_zero, hc2]; decide))]
      dsimp only
      rw [List.length_drop]; omega
    rw [if_neg (fun h9 => hp h9.1)]
    dsimp only
    rw [show ((4 * j + 1 : Nat) : Int) + ((1 : Nat) : Int) = ((4 * j + 2 : Nat) : Int) by omega]
    simp [flowF_one]
  rw [hpl]
set_option maxHeartbeats 4000000 in
theorem cu_node {n : Nat} {m d : Int} (hd : 0 ≤ d) : ∀ (r f k : Nat), r + k = n → 0 < r → 200 ≤ f + k →
    (200 < d + n → nodeF (oneL (cuT n)) m d false f k (0, ((4 * k : Nat) : Int)) = .error 8) ∧ (d + n ≤ 200 → ∃ ev, nodeF (oneL (cuT n)) m d false f k (0, ((4 * k : Nat) : Int)) = .ok (ev, (0, ((5 * n - k : Nat) : Int)), true))
  | 0, _, _, _, h, _ => absurd h (Nat.lt_irrefl _)
  | r + 1, f, k, hr, h0, hf => by
    have hl := cuT_len n
    have hkn : k < n := by omega
    have hk : (cuT n).getD (4 * k) 0 = 123 := cuT_lo (i := 0) hkn (by decide)
    have hk1 : (cuT n).getD (4 * k + 1) 0 = 97 := cuT_lo (i := 1) hkn (by decide)
    have hk2 : (cuT n).getD (4 * k + 2) 0 = 58 := cuT_lo (i := 2) hkn (by decide)
    have hk3 : (cuT n).getD (4 * k + 3) 0 = 32 := cuT_lo (i := 3) hkn (by decide)
    have hkl : 4 * k < (cuT n).length := by omega
    rcases Int.lt_or_le (d + k) 200 with hroom | hroom
    · obtain ⟨f, rfl⟩ : ∃ f', f = f' + 1 := ⟨f - 1, by omega⟩
      rw [node_succ, one_coll hkl hk (.inr rfl)]
      have hrt := room_t hroom hd
      unfold collF
      rw [hrt, if_neg (by decide)]
      simp only [if_pos trivial, if_true]
      have hcast : (((0 : Int), ((4 * k : Nat) : Int)).1, ((0 : Int), ((4 * k : Nat) : Int)).2 + 1) = ((0 : Int), ((4 * k + 1 : Nat) : Int)) := by ext <;> simp
      rw [hcast, one_must0 (k := 4 * k + 1) (by omega) (by rw [hk1]; decide) (by rw [hk1]; decide)]
      dsimp only
      rw [entriesF, if_neg (by rw [one_is (k := 4 * k + 1) (by omega), hk1]; decide)]
      have hloose : looseF (oneL (cuT n)) (0, ((4 * k + 1 : Nat) : Int)) 63 = false := by
        unfold looseF
        rw [one_head (k := 4 * k + 1) (by omega), hk1]; rfl
      obtain ⟨N, hN⟩ := node_any (ls := oneL (cuT n)) (n := m) (d := d) (bk := false) (f := f) (k := k + 1)
      have hA : nodeF (oneL (cuT n)) m d false f (k + 1) (0, ((4 * k + 1 : Nat) : Int)) = .ok ([⟨7, textI [97], .empty, .empty, 1, false⟩], (0, ((4 * k + 2 : Nat) : Int)), false) := by rw [hN]; exact cu_a hkn
      have hm2 : mustF (oneL (cuT n)) m (0, ((4 * k + 2 : Nat) : Int)) = .ok (0, ((4 * k + 2 : Nat) : Int)) := one_must0 (k := 4 * k + 2) (by omega) (by rw [hk2]; decide) (by rw [hk2]; decide)
      have hsg : signF (oneL (cuT n)) (0, ((4 * k + 2 : Nat) : Int)) ((0, ((4 * k + 2 : Nat) : Int)), false) = true := by
        unfold signF looseF
        rw [one_head (k := 4 * k + 2) (by omega), hk2, one_rest]
        unfold safeAt
        rw [getD_drop_, show 4 * k + 2 + 1 = 4 * k + 3 by omega, hk3, show safeI 32 true = false by decide, Bool.and_false]
        rfl
      have hbl : blN ((cuT n).drop (4 * k + 3)) = 1 := by
        have h4 : blankI ((cuT n).getD (4 * k + 4) 0) = false := by
          rcases Nat.lt_or_ge (k + 1) n with h | h
          · rw [show (cuT n).getD (4 * k + 4) 0 = 123 from cuT_lo (n := n) (j := k + 1) (i := 0) h (by decide)]; decide
          · rw [cuT_hi (by omega) (by omega)]; decide
        refine blN_is _ 1 (fun i hi => ?_) (by rw [List.length_drop]; omega) (.inr (by rw [getD_drop_]; exact h4))
        obtain rfl : i = 0 := by omega
        rw [getD_drop_, Nat.add_zero, hk3]; decide
      have hcast2 : (((0 : Int), ((4 * k + 2 : Nat) : Int)).1, ((0 : Int), ((4 * k + 2 : Nat) : Int)).2 + 1) = ((0 : Int), ((4 * k + 3 : Nat) : Int)) := by ext <;> simp; omega
      have hend : ∀ x : Nat, x < 5 * n → 4 * n ≤ x → mustF (oneL (cuT n)) m (0, (x : Int)) = .ok (0, (x : Int)) ∧ isF (oneL (cuT n)) (0, (x : Int)) 44 = false ∧ isF (oneL (cuT n)) (0, (x : Int)) 125 = true := fun x h1 h2 => by
        have h3 := cuT_hi h2 h1
        refine ⟨one_must0 (by omega) (by rw [h3]; decide) (by rw [h3]; decide), ?_, ?_⟩ <;> rw [one_is (by omega), h3] <;> rfl
      unfold pairF
      rw [hloose, if_neg Bool.false_ne_true, hA]
      unfold keyedF
      dsimp only
      unfold valueF
      dsimp only
      rw [hm2]
      dsimp only
      rw [if_neg (by rw [hsg]; decide), hcast2]
      rcases Nat.eq_zero_or_pos r with hr0 | hr0
      · obtain ⟨e1, e2, e3⟩ := hend (4 * k + 4) (by omega) (by omega)
        rw [one_must (k := 4 * k + 3) (b := 1) hbl (by omega) (by rw [cuT_hi (by omega) (by omega)]; decide)]
        dsimp only
        rw [if_pos (by rw [show 4 * k + 3 + 1 = 4 * k + 4 by omega, e3, Bool.or_true])]
        dsimp only
        rw [one_must (k := 4 * k + 3) (b := 1) hbl (by omega) (by rw [cuT_hi (by omega) (by omega)]; decide)]
        dsimp only
        rw [show 4 * k + 3 + 1 = 4 * k + 4 by omega, if_pos e2, if_pos e3]
        refine ⟨fun h => by omega, fun _ => ?_⟩
        apply Exists.intro
        dsimp only
        rw [show ((5 * n - k : Nat) : Int) = ((4 * k + 4 : Nat) : Int) + 1 by omega]
      · have h123 : (cuT n).getD (4 * k + 4) 0 = 123 := cuT_lo (n := n) (j := k + 1) (i := 0) (by omega) (by decide)
        obtain ⟨ih1, ih2⟩ := cu_node (n := n) (m := m) hd r f (k + 1) (by omega) hr0 (by omega)
        rw [one_must (k := 4 * k + 3) (b := 1) hbl (by omega) (by rw [show 4 * k + 3 + 1 = 4 * k + 4 by omega, h123]; decide)]
        dsimp only
        have hnot : (isF (oneL (cuT n)) (0, ((4 * k + 4 : Nat) : Int)) 44 || isF (oneL (cuT n)) (0, ((4 * k + 4 : Nat) : Int)) 125) = false := by
          rw [one_is (k := 4 * k + 4) (by omega), one_is (k := 4 * k + 4) (by omega), h123]; rfl
        rw [show 4 * k + 3 + 1 = 4 * k + 4 by omega, if_neg (by rw [hnot]; decide)]
        rw [show 4 * k + 4 = 4 * (k + 1) by omega]
        refine ⟨fun h => ?_, fun h => ?_⟩
        · rw [ih1 h]
        · obtain ⟨ev, hev⟩ := ih2 h
          obtain ⟨e1, e2, e3⟩ := hend (5 * n - (k + 1)) (by omega) (by omega)
          rw [hev]
          dsimp only
          rw [e1]
          dsimp only
          rw [if_pos e2, if_pos e3]
          apply Exists.intro
          dsimp only
          rw [show ((5 * n - k : Nat) : Int) = ((5 * n - (k + 1) : Nat) : Int) + 1 by omega]
    · obtain ⟨N, hN⟩ := node_any (ls := oneL (cuT n)) (n := m) (d := d) (bk := false) (f := f) (k := k)
      rw [hN, one_coll hkl hk (.inr rfl), coll_room (room_f hroom)]
      exact ⟨fun _ => rfl, fun h => by omega⟩
end Go.Proofs.YtgoofaeifbfblaaGreat
/-
  Walks: chapter 13's law FlowDeep.
-/


namespace Go.Proofs.YtgoofaeifbfblaaGreat
open Go.Abs
set_option linter.unusedVariables false
set_option linter.unusedSimpArgs false
variable {κ : Ctx} {σ : List Res} {K : Ret → List Res → Prop} {o o' : Option (Option (Nat × Nat))}
set_option maxHeartbeats 8000000 in
set_option maxRecDepth 4000 in
theorem lf_e : ({ data := #[] } : ByteArray) = textI [] := by decide +kernel
set_option maxHeartbeats 8000000 in
set_option maxRecDepth 4000 in
theorem lf_a : ({ data := #[123, 97, 58, 32] } : ByteArray) = textI [123, 97, 58, 32] := by decide +kernel
set_option maxHeartbeats 8000000 in
set_option maxRecDepth 4000 in
theorem lf_b : ({ data := #[125] } : ByteArray) = textI [125] := by decide +kernel
set_option maxHeartbeats 8000000 in
set_option maxRecDepth 4000 in
theorem lf_c : ({ data := #[91] } : ByteArray) = textI [91] := by decide +kernel
set_option maxHeartbeats 8000000 in
set_option maxRecDepth 4000 in
theorem lf_d : ({ data := #[93] } : ByteArray) = textI [93] := by decide +kernel
set_option maxHeartbeats 8000000 in
set_option maxRecDepth 4000 in
theorem asc_text {l : List Int} (h : Asc l) : bytesI (textI l) = l := by
  rw [bytesI_text]
  exact encL_ascii (fun c hc => by have := h.2 c hc; omega)
set_option maxHeartbeats 8000000 in
set_option maxRecDepth 4000 in
theorem asc_size {l : List Int} (h : Asc l) : (textI l).size = l.length := by rw [← bytesI_len, asc_text h]
set_option maxHeartbeats 8000000 in
set_option maxRecDepth 4000 in
theorem one_lines {l : List Int} (h : ∀ c ∈ l, 32 ≤ c ∧ c ≤ 126) (h0 : 0 < l.length) (h1 : ¬ l.getD 0 0 = 32) : (readR l).1 = oneL l := by
  have hg : readOk l = true := by
    unfold readOk
    rw [List.all_eq_true]
    intro c hc
    have := h c hc
    refine goodC_yes ?_ (by omega)
    unfold printI
    simp; omega
  unfold readR
  rw [if_pos hg]
  show linesOf l = _
  unfold linesOf
  rw [tx_none (fun c hc => by have := h c hc; simp [brk]; omega)]
  cases l with
  | nil => simp at h0
  | cons c r =>
    have hc : ¬ c = 32 := by simpa using h1
    simp [lineOf, List.takeWhile_cons, List.dropWhile_cons, hc]
abbrev openT (b : Bool) (i : Nat) : List Int := if b then (List.replicate i [(123 : Int), 97, 58, 32]).flatten else List.replicate i 91
abbrev shutT (b : Bool) (i : Nat) : List Int := List.replicate i (if b then (125 : Int) else 93)
set_option maxHeartbeats 8000000 in
set_option maxRecDepth 4000 in
theorem open_step (b : Bool) (i : Nat) : openT b (i + 1) = openT b i ++ (if b then [123, 97, 58, 32] else [91]) := by
  cases b
  · simp [openT, List.replicate_succ']
  · simp [openT, List.replicate_succ']
set_option maxHeartbeats 8000000 in
set_option maxRecDepth 4000 in
theorem shut_step (b : Bool) (i : Nat) : shutT b (i + 1) = shutT b i ++ [if b then 125 else 93] := by simp [shutT, List.replicate_succ']
set_option maxHeartbeats 8000000 in
set_option maxRecDepth 4000 in
theorem open_len (b : Bool) (i : Nat) : (openT b i).length ≤ 4 * i := by
  cases b
  · simp [openT]; omega
  · show (List.replicate i [(123 : Int), 97, 58, 32]).flatten.length ≤ _
    rw [cu_len]; exact Nat.le_refl _
set_option maxHeartbeats 8000000 in
set_option maxRecDepth 4000 in
theorem open_chars (b : Bool) (i : Nat) : ∀ c ∈ openT b i, 32 ≤ c ∧ c ≤ 126 := by
  intro c hc
  cases b
  · have := List.eq_of_mem_replicate hc; omega
  · obtain ⟨l, hl, hcl⟩ := List.mem_flatten.1 hc
    obtain rfl := List.eq_of_mem_replicate hl
    simp at hcl; omega
set_option maxHeartbeats 8000000 in
set_option maxRecDepth 4000 in
theorem shut_chars (b : Bool) (i : Nat) : ∀ c ∈ shutT b i, 32 ≤ c ∧ c ≤ 126 := by
  intro c hc
  have := List.eq_of_mem_replicate hc
  cases b <;> simp at this <;> omega
set_option maxHeartbeats 8000000 in
set_option maxRecDepth 4000 in
theorem asc_of {l : List Int} (h : ∀ c ∈ l, 32 ≤ c ∧ c ≤ 126) (hl : l.length ≤ 100000) : Asc l := ⟨hl, fun c hc => by have := h c hc; omega⟩
set_option maxHeartbeats 8000000 in
set_option maxRecDepth 4000 in
theorem deep_T (b : Bool) (n : Nat) : openT b n ++ shutT b n = if b then cuT n else brT n := by cases b <;> rfl
set_option maxHeartbeats 8000000 in
set_option maxRecDepth 4000 in
theorem deep_len (b : Bool) (n : Nat) : (openT b n ++ shutT b n).length ≤ 5 * n := by
  have := open_len b n
  rw [List.length_append]
  simp only [shutT, List.length_replicate]; omega
set_option maxHeartbeats 8000000 in
set_option maxRecDepth 4000 in
theorem deep_whole {b : Bool} {n : Nat} {d : Int} (hd : 0 ≤ d) (hn : 0 < n) (hn2 : n ≤ 250) :
    (200 < d + n → wholeF (oneL (openT b n ++ shutT b n)) (-1) d false (0, 0) = .error 8) ∧ (d + n ≤ 200 → ∃ ev, wholeF (oneL (openT b n ++ shutT b n)) (-1) d false (0, 0) = .ok (ev, (0, ((openT b n ++ shutT b n).length : Nat)), true) ∧ 0 < ev.length) := by
  rw [deep_T]
  have key : ∀ T : List Int, T.length ≤ 2000 → 0 < T.length → ∀ (x : Int × Int) ev, wholeF (oneL T) (-1) d false (0, 0) = .ok (ev, x, true) → 0 < ev.length := fun T h1 h2 x ev h =>
    (nodeF_good (one_small h1) 200 0 (0, 0) ev x true ⟨Int.le_refl _, by simp, Int.le_refl _, by decide⟩ h).2.2.2
  cases b
  · obtain ⟨h1, h2⟩ := br_node (n := n) (m := -1) (d := d) (bk := false) hd n 200 0 rfl hn (by decide)
    refine ⟨fun h => h1 h, fun h => ?_⟩
    obtain ⟨ev, he⟩ := h2 h
    have he2 : wholeF (oneL (brT n)) (-1) d false (0, 0) = .ok (ev, (0, ((brT n).length : Nat)), true) := by rw [brT_len]; exact he
    exact ⟨ev, he2, key (brT n) (by rw [brT_len]; omega) (by rw [brT_len]; omega) _ _ he2⟩
  · obtain ⟨h1, h2⟩ := cu_node (n := n) (m := -1) (d := d) hd n 200 0 rfl hn (by decide)
    refine ⟨fun h => h1 h, fun h => ?_⟩
    obtain ⟨ev, he⟩ := h2 h
    have he2 : wholeF (oneL (cuT n)) (-1) d false (0, 0) = .ok (ev, (0, ((cuT n).length : Nat)), true) := by rw [cuT_len]; exact he
    exact ⟨ev, he2, key (cuT n) (by rw [cuT_len]; omega) (by rw [cuT_len]; omega) _ _ he2⟩
set_option maxHeartbeats 8000000 in
set_option maxRecDepth 4000 in
theorem str_add3 {x y : ByteArray} {v : Option Value} (h : x.size + y.size ≤ 1000000000) : (if ((x.size + y.size : Nat) : Int) > IntKind.i64.max then none else v) = v := by
  rw [if_neg]
  have : IntKind.i64.max = 9223372036854775807 := by decide
  omega
set_option maxHeartbeats 8000000 in
set_option maxRecDepth 4000 in
theorem law_FlowDeep (κ : Ctx) (n : Int) (hn : IntKind.i64.min ≤ n ∧ n ≤ IntKind.i64.max) (d : Int) (hd : IntKind.i64.min ≤ d ∧ d ≤ IntKind.i64.max) (b : Bool) (hb : True) : ACallF κ Tryz.prog 6 [I n, I d, B b] [] (fun r _ => r = .ret (B true)) := by
  have hmin : IntKind.i64.min = -9223372036854775808 := by decide
  have hmax : IntKind.i64.max = 9223372036854775807 := by decide
  rw [hmin, hmax] at hn hd
  by_cases hr : 1 ≤ n ∧ n ≤ 250 ∧ 0 ≤ d ∧ d ≤ 250
  · obtain ⟨n, rfl⟩ : ∃ k : Nat, n = k := ⟨n.toNat, by omega⟩
    obtain ⟨r1, r2, r3, r4⟩ := hr
    refine ACallF.dropL (ACallF_introA Tryz.func6 rfl ?_)
    simp only [Tryz.ntmps6]
    repeat' (first | (with_reducible first | refine AW_block ?_ | refine cut_loop ?_ | refine AW_seqA (AW_seqA ?_) | refine AW_seq ?_ | refine AW_runReg ?_ | refine AW_runCond ?_) | simp only [WL, intF, WM, reduceCtorEq, WLb, Nat.reduceAdd, Nat.reduceSub, Bool.not_true, Bool.not_false, true_and, reduceIte, Bool.false_eq_true, cok12, Tryz.results6, lf_e] | with_reducible refine cD (lAlive ?_) | ((with_reducible first | refine grd_cases (fun h => ?_) (fun h => ?_) | refine condC_split (fun h => ?_) (fun h => ?_)) <;> (try simp only [h]) <;> (try simp only [NR_, NRb] at h)) | omega)
    refine loopA (fun i : Nat => ⟨(I n :: I d :: B b :: .any :: .any :: .any :: .any :: B true :: .raw (.string (textI (openT b i))) :: .raw (.string (textI (shutT b i))) :: I i :: .any :: .any :: .any :: .any :: .any :: .any :: .any :: .any :: .any :: .any :: .any :: .any :: .any :: .any :: .any :: .any :: .any :: .any :: .any :: .any :: .any :: .any :: .any :: .any :: .any :: .any :: .any :: .any :: .any :: .any :: .any :: .any :: .any :: .any :: .any :: .any :: .any :: .any :: .any :: .any :: .any :: .any :: .any :: .any :: .any :: .any :: .any :: .any :: .any :: .any :: .any :: .any :: .any :: .any :: .any :: .any :: .any :: .any :: .any :: .any :: .any :: .any :: .any :: .any :: .any :: .any :: .any :: .any :: .any :: .any :: .any :: .any :: .any :: .any :: .any :: .any :: .any :: .any :: []), [], true, []⟩) (fun i => i ≤ n) (fun i => n - i) 0 (St_le_same (by cases b <;> repeat (first | exact trivial | refine ⟨le_rfl, ?_⟩ | refine ⟨le_any, ?_⟩ | refine ⟨le_ro, ?_⟩ | refine ⟨le_nil (by decide), ?_⟩ | refine ⟨le_wrap (by omega) (by omega) (by omega), ?_⟩ | refine ⟨le_int (by omega), ?_⟩ | refine ⟨le_eq (by simp), ?_⟩)) id) (Nat.zero_le _) ?_
    intro i hi
    have hol := open_len b i
    have hsl : (shutT b i).length = i := by simp [shutT]
    have ho := asc_of (open_chars b i) (by omega)
    have hs := asc_of (shut_chars b i) (by omega)
    have hos := asc_size ho
    have hss := asc_size hs
    rcases Nat.lt_or_ge i n with hin | hin
    · have e1 := open_step b i
      have e2 := shut_step b i
      have z1 : (textI [123, 97, 58, 32]).size = 4 := by decide
      have z2 : (textI [125]).size = 1 := by decide
      have z3 : (textI [91]).size = 1 := by decide
      have z4 : (textI [93]).size = 1 := by decide
      generalize openT b i = S at *
      generalize shutT b i = E at *
      cases b
      all_goals
        simp only [Bool.false_eq_true, if_false, if_true] at e1 e2
        repeat' (first | (with_reducible first | refine AW_seqA (AW_block ?_) | refine AW_seqA (AW_seqA ?_) | refine AW_seq ?_ | refine AW_runReg ?_ | refine AW_runCond ?_) | simp only [WL, intF, strF, WM, ne_eq, reduceCtorEq, not_false_eq_true, true_and, cok14, cok19, lf_a, lf_b, lf_c, lf_d, textI_app] | simp (disch := first | omega | (simp only [LN_]; omega)) only [wrap_id, str_add3] | with_reducible refine cD (lLines ?_ ?_) | ((with_reducible first | refine grd_cases (fun h => ?_) (fun h => ?_) | refine condC_split (fun h => ?_) (fun h => ?_)) <;> (try simp only [h]) <;> (try simp only [NR_, NRb] at h)) | omega)
        exact ⟨i + 1, St_le_same (by simp only [e1, e2]; repeat (first | exact trivial | refine ⟨le_rfl, ?_⟩ | refine ⟨le_any, ?_⟩ | refine ⟨le_ro, ?_⟩ | refine ⟨le_nil (by decide), ?_⟩ | refine ⟨le_wrap (by omega) (by omega) (by omega), ?_⟩ | refine ⟨le_int (by omega), ?_⟩ | refine ⟨le_eq (by simp), ?_⟩)) id, hin, by omega⟩
    · obtain rfl : i = n := by omega
      have hT := deep_len b i
      have hA := asc_of (l := openT b i ++ shutT b i) (fun c hc => by rcases List.mem_append.1 hc with h | h; exact open_chars b i c h; exact shut_chars b i c h) (by omega)
      have hAb : Asc (bytesI (textI (openT b i ++ shutT b i))) := by rw [asc_text hA]; exact hA
      have hlen : (openT b i ++ shutT b i).length = (openT b i).length + (shutT b i).length := List.length_append
      have hln : (readR (bytesI (textI (openT b i ++ shutT b i)))).1 = oneL (openT b i ++ shutT b i) := by
        rw [asc_text hA]
        refine one_lines (fun c hc => by rcases List.mem_append.1 hc with h | h; exact open_chars b i c h; exact shut_chars b i c h) (by omega) ?_
        rw [deep_T]
        cases b
        · show ¬ (brT i).getD 0 0 = 32
          rw [brT_lo (by omega)]; decide
        · show ¬ (cuT i).getD 0 0 = 32
          rw [show (cuT i).getD 0 0 = 123 from cuT_lo (n := i) (j := 0) (i := 0) (by omega) (by decide)]; decide
      have hsm := one_small (T := openT b i ++ shutT b i) (by omega)
      obtain ⟨w1, w2⟩ := deep_whole (b := b) (n := i) r3 (by omega) (by omega)
      generalize hTT : openT b i ++ shutT b i = TT at *
      generalize openT b i = S at *
      generalize shutT b i = E at *
      rcases Int.lt_or_le 200 (d + i) with hg | hg
      · have w1 := w1 hg
        have hx : decide ((i : Int) + d > 200) = true := decide_eq_true (by omega)
        repeat' (first | (with_reducible first | refine AW_seqA (AW_block ?_) | refine AW_seqA (AW_seqA ?_) | refine AW_seq ?_ | refine AW_runReg ?_ | refine AW_runCond ?_) | simp only [WL, intF, strF, WM, reduceCtorEq, WLb, Nat.reduceAdd, Nat.reduceLT, Bool.not_true, beq_self_eq_true, true_and, reduceIte, Bool.false_eq_true, T27, cok14, cok15, cok17, cok19, Tryz.results6, textI_app, hTT, hln, hx] | simp (disch := first | omega | (simp only [LN_]; omega)) only [wrap_id, str_add3] | (with_reducible first | refine cD (lLines hAb ?_) | refine cD (jNew (ls := oneL TT) (by simp) (by simp) (fun br => ?_)) | refine cD (jNodeR (ls := oneL TT) hsm (by omega) ⟨by decide, by decide⟩ (by decide) (fun bj hc => ?_) (fun ev e t hw bj x' y' τ' hJ' => ?_) (fun e hw bj x' y' op' l' τ' hJ' => ?_)) | refine cD (lNum ?_)) | ((with_reducible first | refine grd_cases (fun h => ?_) (fun h => ?_) | refine condC_split (fun h => ?_) (fun h => ?_)) <;> (try simp only [h]) <;> (try simp only [NR_, NRb] at h)) | omega)
        all_goals first
          | (exfalso; simp at hc; done)
          | (exfalso; rw [w1] at hw; cases hw; done)
          | (rw [w1] at hw; cases hw; first | exact leafL sub_rfl (leT_eq rfl) rfl | (exfalso; omega))
          | trace_state
      · obtain ⟨ev, w2, w3⟩ := w2 hg
        have hx : decide ((i : Int) + d > 200) = false := decide_eq_false (by omega)
        repeat' (first | (with_reducible first | refine AW_seqA (AW_block ?_) | refine AW_seqA (AW_seqA ?_) | refine AW_seq ?_ | refine AW_runReg ?_ | refine AW_runCond ?_ | refine AW_runRet ?_) | simp only [WL, intF, strF, WM, reduceCtorEq, WLb, Nat.reduceAdd, Nat.reduceLT, beq_self_eq_true, true_and, reduceIte, T9, cok14, cok15, cok17, cok19, Tryz.results6, textI_app, hTT, hln, hx] | simp (disch := first | omega | (simp only [LN_]; omega)) only [wrap_id, str_add3] | (with_reducible first | refine cD (lLines hAb ?_) | refine cD (jNew (ls := oneL TT) (by simp) (by simp) (fun br => ?_)) | refine cD (jNodeRow (ls := oneL TT) hsm (by omega) ⟨by decide, by decide⟩ (by decide) w2 ⟨by decide, by simp, by decide⟩ w3 (fun rb rc cs ρ hrc hsub => ?_)) | refine cD (lNum ?_)) | ((with_reducible first | refine grd_cases (fun h => ?_) (fun h => ?_) | refine condC_split (fun h => ?_) (fun h => ?_)) <;> (try simp only [h]) <;> (try simp only [NR_, NRb] at h)) | omega)
        all_goals first
          | exact leafL sub_rfl (leT_eq rfl) rfl
          | exact leafL sub_rfl (leT_eq (congrArg B (beq_iff_eq.2 (by rw [hos, hss]; omega)))) rfl
          | (exfalso; omega)
          | trace_state
  · skip
    refine ACallF.dropL (ACallF_intro Tryz.func6 rfl ?_)
    simp only [Tryz.ntmps6]
    repeat' (first | simp only [WL, intF, WM, reduceCtorEq, WLb, Nat.reduceAdd, Nat.reduceSub, Bool.not_true, Bool.not_false, true_and, reduceIte, Bool.false_eq_true, cok12, Tryz.results6] | with_reducible refine cD (lAlive ?_) | ((with_reducible first | refine grd_cases (fun h => ?_) (fun h => ?_) | refine condC_split (fun h => ?_) (fun h => ?_)) <;> (try simp only [h]) <;> (try simp only [NR_, NRb] at h)) | omega)
    all_goals first
      | exact leafL sub_rfl (leT_eq rfl) rfl
      | (exfalso; omega)
      | trace_state
end Go.Proofs.YtgoofaeifbfblaaGreat
