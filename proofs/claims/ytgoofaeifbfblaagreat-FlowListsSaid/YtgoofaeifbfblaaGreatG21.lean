/-
  Texts If, Ig, Ip, ML, Ir, Iq, Is, Iu, Iv, It, Iw, one behind the other.
-/
import Derived.Test.YtgoofaeifbfblaaGreatG18
import Derived.Test.YtgoofaeifbfblaaGreatG19
import Derived.Test.YtgoofaeifbfblaaGreatG20
set_option linter.unusedVariables false
set_option linter.unusedSimpArgs false
/-
  Walks: chapter 1, the form of texts of small bytes.
-/

namespace Go.Proofs.YtgoofaeifbfblaaGreat
open Go.Abs
set_option linter.unusedVariables false
set_option linter.unusedSimpArgs false
variable {κ : Ctx} {σ : List Res} {K : Ret → List Res → Prop} {o o' : Option (Option (Nat × Nat))}
set_option maxHeartbeats 8000000 in
set_option maxRecDepth 4000 in
theorem rFormS {b : List Int} (hb : Asc b) (h1 : b.length ≤ 1) (hK : K (.ret (.tup [I 1, I 0])) σ) : ACallF κ Tryz.prog 47 [SU o b] σ K := by
  have hbl := hb.1
  have hn3 : ¬ ((b.length : Int) > 3) := by omega
  have hn1 : ¬ ((b.length : Int) > 1) := by omega
  refine ACallF.dropL (ACallF_intro Tryz.func47 rfl ?_)
  simp only [Tryz.ntmps47]
  repeat' (first | simp only [WL, intF, WM, reduceCtorEq, WLb, Nat.reduceAdd, Nat.reduceSub, true_and, reduceIte, Bool.false_eq_true, T79, cok76, Tryz.results47, decide_eq_false hn3, decide_eq_false hn1] | with_reducible refine y_bs (hK := ?_) | ( refine callD_mk (ACallF.argsS (ys := [SU o b, SU none [0, 0, 254, 255]]) ⟨leS_rfl, leS_le le_ro, trivial⟩ (rIsNo hb (by decide) (by decide) ?_))) | ( refine callD_mk (ACallF.argsS (ys := [SU o b, SU none [255, 254, 0, 0]]) ⟨leS_rfl, leS_le le_ro, trivial⟩ (rIsNo hb (by decide) (by decide) ?_))) | ( refine callD_mk (ACallF.argsS (ys := [SU o b, SU none [254, 255]]) ⟨leS_rfl, leS_le le_ro, trivial⟩ (rIsNo hb (by decide) (by decide) ?_))) | ( refine callD_mk (ACallF.argsS (ys := [SU o b, SU none [255, 254]]) ⟨leS_rfl, leS_le le_ro, trivial⟩ (rIsNo hb (by decide) (by decide) ?_))) | ( refine callD_mk (ACallF.argsS (ys := [SU o b, SU none [239, 187, 191]]) ⟨leS_rfl, leS_le le_ro, trivial⟩ (rIsNo hb (by decide) (by decide) ?_))))
  all_goals first
    | exact leafL sub_rfl (leT_eq rfl) hK
    | (exfalso; omega)
    | trace_state
set_option maxHeartbeats 8000000 in
theorem rForm {b : List Int} (hb : Asc b) (hK : K (.ret (.tup [I 1, I 0])) σ) : ACallF κ Tryz.prog 47 [SU o b] σ K := by
  rcases Nat.lt_or_ge 1 b.length with h1 | h1
  · rcases Nat.lt_or_ge 3 b.length with h3 | h3
    · exact rFormL hb h3 hK
    · exact rFormM hb h1 h3 hK
  · exact rFormS hb h1 hK
set_option maxHeartbeats 8000000 in
theorem rPoints {b : List Int} (hb : Asc b) (hK : K (.ret (.tup [SI none b, I 0])) σ) : ACallF κ Tryz.prog 30 [SU o b] σ K := by
  have hbl := hb.1
  refine ACallF.dropL (ACallF_introA Tryz.func30 rfl ?_)
  simp only [Tryz.ntmps30]
  repeat' (first | (with_reducible first | refine AW_block ?_ | refine AW_seqA (AW_seqA ?_) | refine AW_seq ?_ | refine AW_runReg ?_ | refine AW_runCond ?_ | refine AW_runRet ?_) | simp only [WL, intF, WM, Int.reduceToNat, reduceCtorEq, WLb, Nat.reduceAdd, Nat.reduceSub, Nat.reduceLT, Bool.not_true, beq_self_eq_true, true_and, T5, T79, cok47, cok48, Tryz.results30] | (with_reducible first | refine andA (hb := ?_) | refine cD (rForm ?_ ?_) | refine cD (rSmall ?_ ?_)) | ((with_reducible first | refine grd_cases (fun h => ?_) (fun h => ?_) | refine condC_split (fun h => ?_) (fun h => ?_)) <;> (try simp only [h]) <;> (try simp only [NR_, NRb] at h)) | omega)
  exact leafL sub_rfl (leT_eq rfl) hK
set_option maxHeartbeats 8000000 in
theorem lLines {s : ByteArray} (hb : Asc (bytesI s)) (hK : K (.ret (SL none (readR (bytesI s)).1)) σ) : ACallF κ Tryz.prog 19 [.raw (.string s)] σ K := by
  have hbl := hb.1
  have hsz := bytesI_len s
  refine ACallF.dropL (ACallF_intro Tryz.func19 rfl ?_)
  simp only [Tryz.ntmps19]
  repeat' (first | simp only [WL, WM, Nat.reduceAdd, Nat.reduceSub, Nat.reduceLT, true_and, convC_str, cok30, cok31, Tryz.results19] | (with_reducible first | refine y_str ?_ ?_ | refine cD (rPoints ?_ ?_) | refine cD (rLines ?_ ?_)) | omega | (refine maxLen_ok ?_; (first | omega | (simp only [LN_]; omega))))
  exact leafL sub_rfl (leT_eq rfl) hK
end Go.Proofs.YtgoofaeifbfblaaGreat
/-
  Chapter 13: nodes on one line, plain facts.
-/

namespace Go.Proofs.YtgoofaeifbfblaaGreat
open Go.Abs
set_option linter.unusedVariables false
set_option linter.unusedSimpArgs false
abbrev oneL (T : List Int) : List Ln := [(0, T)]
set_option maxHeartbeats 4000000 in
theorem one_small {T : List Int} (h : T.length ≤ 2000) : Small (oneL T) := ⟨by simp, fun x hx => by
  obtain rfl : x = (0, T) := by simpa using hx
  exact ⟨h, Int.le_refl _, by show (0 : Int) ≤ 2000; decide⟩⟩
set_option maxHeartbeats 4000000 in
theorem blN_0 {l : List Int} (h : blankI (l.getD 0 0) = false) : blN l = 0 := by
  cases l with
  | nil => rfl
  | cons c l =>
    unfold blN
    rw [List.takeWhile_cons, show blankI c = false from h]; rfl
set_option maxHeartbeats 4000000 in
theorem room_t {d : Int} {k : Nat} (h : d + k < 200) (hd : 0 ≤ d) : roomF d k 0 = true := by
  unfold roomF; rw [decide_eq_true (by omega), decide_eq_true (by omega)]; rfl
set_option maxHeartbeats 4000000 in
theorem node_any {ls : List Ln} {n d : Int} {bk : Bool} {f k : Nat} : ∃ N, nodeF ls n d bk f k = nodeS ls n d bk N k := by
  cases f with
  | zero => exact ⟨_, rfl⟩
  | succ f => exact ⟨_, rfl⟩
end Go.Proofs.YtgoofaeifbfblaaGreat
/-
  The abstract layer, part L: elements of rows of one's own.
-/

namespace Go.Abs
section
variable {κ : Ctx} {P : Program} {σ : List Res} {K : AV → List Res → Prop}
theorem act_idx_row {t e : TypeId} {sz b o n c : Nat} {k : IntKind} {i : Int} (ht : slE P t = some e) (hs : szT P e = some sz) (h0 : 0 ≤ i) (h1 : i < n) (hK : K (.raw (.pointer (some ⟨b, o + i.toNat * sz, none⟩))) σ) :
    AAct κ P (.indexAddr t) [rowV b o n c, .raw (.int k i)] σ K := by
  intro φ g w vs hR hvs
  obtain ⟨v, u, rfl, hv, hu⟩ := two_vs hvs
  cases hv.raw_eq
  cases hu.raw_eq
  refine ⟨_, w, g, _, σ, ?_, hR, GE.refl _ _, .raw _, hK⟩
  have hu := und_of_slE ht
  simp [MA.sem, nth, Instr.indexAt, asIntOf, run_und hu, Instr.sureAddr, h0, h1, run_szT hs, Addr.add_lit]
end
section
variable {κ : Ctx} {P : Program} {all rest : List Oper} {Q : Exit → St → Prop} {d : Option Tmp} {t : List AV} {σ : List Res} {fr : Bool} {df : List Deferred} {dm : Bool}
theorem y_idx_row {ty e : TypeId} {sz by_ b o n c : Nat} {z : Value} {k : IntKind} {i : Int} [hS : TSl P ty e sz by_ z] (h0 : 0 ≤ i := by first | decide | omega) (h1 : i < n := by first | decide | omega) (hK : goK κ dm P all Q d rest ⟨t, σ, fr, df⟩ (.raw (.pointer (some ⟨b, o + i.toNat * sz, none⟩))) σ) : actC κ dm P all Q d rest ⟨t, σ, fr, df⟩ (.indexAddr ty) [rowV b o n c, .raw (.int k i)] :=
  actC_q (act_idx_row hS.sl hS.hz h0 h1 isA_mk) hK
end
end Go.Abs
/-
  Walks: chapter 13's laws: the example of the document.
-/



namespace Go.Proofs.YtgoofaeifbfblaaGreat
open Go.Abs
set_option linter.unusedVariables false
set_option linter.unusedSimpArgs false
variable {κ : Ctx} {σ : List Res} {K : Ret → List Res → Prop} {o o' : Option (Option (Nat × Nat))}
set_option maxHeartbeats 8000000 in
theorem sub_tail {r : Res} {σ ρ : List Res} (h : Sub (r :: σ) ρ) : Sub σ ρ := by
  classical
  obtain ⟨τ, hp, hs⟩ := h
  have h2 := (List.cons_perm_iff_perm_erase.1 hp.symm).2
  exact ⟨τ.erase r, h2.symm, List.Sublist.trans List.erase_sublist hs⟩
abbrev alT : List Int := [91, 97, 44, 32, 98, 58, 32, 99, 93]
abbrev alE : List EvV := [⟨3, .empty, .empty, .empty, 0, true⟩, ⟨7, textI [97], .empty, .empty, 1, false⟩, ⟨5, .empty, .empty, .empty, 0, true⟩, ⟨7, textI [98], .empty, .empty, 1, false⟩, ⟨7, textI [99], .empty, .empty, 1, false⟩, ⟨6, .empty, .empty, .empty, 0, false⟩, ⟨4, .empty, .empty, .empty, 0, false⟩]
set_option maxHeartbeats 8000000 in
theorem alive_whole : wholeF (oneL alT) (-1) 0 false (0, 0) = .ok (alE, (0, 9), true) := by kernel_rfl
set_option maxHeartbeats 8000000 in
theorem alive_lines : (readR alT).1 = oneL alT := by decide
set_option maxHeartbeats 8000000 in
theorem lNum {e : Int} (hK : K (.ret (I e)) σ) : ACallF κ Tryz.prog 17 [I e] σ K := by
  refine ACallF.dropL (ACallF_intro Tryz.func17 rfl ?_)
  simp only [Tryz.ntmps17]
  repeat' (first | simp only [WL, WM, Nat.reduceAdd, Nat.reduceSub, true_and, Tryz.results17])
  exact leafL sub_rfl (leT_eq rfl) hK
set_option maxHeartbeats 8000000 in
theorem jNodeRow {br ix : Nat} {ls : List Ln} {i k n d : Int} [hR : Hold σ br ix [SL none ls]] (hs : Small ls) (hd : 0 ≤ d ∧ d ≤ 1000000000) (hp64 : In64 i ∧ In64 k) (hn : In64 n) {ev : List EvV} {e : Int × Int} {t : Bool} (hw : wholeF ls n d false (i, k) = .ok (ev, e, t)) (hi : 0 ≤ i ∧ i < ls.length ∧ 0 ≤ k) (h0 : 0 < ev.length)
    (h1 : ∀ rb rc cs ρ, ev.length ≤ rc → Sub σ ρ → K (.ret (.tup [rowV rb 0 ev.length rc, I e.1, I e.2, I 0])) (.obj rb (cellsL (ev.map EVA) ++ cs) :: ρ)) : ACallF κ Tryz.prog 15 [JP br, I i, I k, I n, I d] σ K := by
  refine ACallF.dropL (jNodeR hs hd hp64 hn (fun bj hc => by omega) (fun ev' e' t' hw' bj x' y' τ' hJ' => ?_) (fun e' hw' => by rw [hw] at hw'; cases hw'))
  rw [hw] at hw'
  cases hw'
  obtain ⟨ρx, ρy, r1, r2, hp⟩ := hJ'
  generalize hm : ev.map EVA = m at r2
  have hml : m.length = ev.length := by rw [← hm, List.length_map]
  cases r2 with
  | nil => exfalso; rw [List.length_nil] at hml; omega
  | @row rb rc cs _ k0 kn kc kt =>
  rw [hml] at kn kt ⊢
  have hcs : cs = cellsL m ++ cs.drop (ev.length * 6) := by rw [← kt, List.take_append_drop]
  have h2 := h1 rb rc (cs.drop (ev.length * 6)) (.obj bj (JC ls n false d x' (rowV rb 0 ev.length rc)) :: (ρx ++ σ)) kn (sub_cons ⟨σ, List.Perm.refl _, List.sublist_append_right _ _⟩)
  rw [hm, ← hcs] at h2
  have hpp := (List.Perm.cons (.obj bj (JC ls n false d x' (rowV rb 0 ev.length rc))) (hp.trans List.perm_middle)).trans (List.Perm.swap _ _ _)
  exact leafL ⟨_, by first | exact hpp | exact hpp.symm, List.Sublist.refl _⟩ (leT_eq rfl) h2
set_option maxHeartbeats 8000000 in
theorem lAlive (hK : K (.ret (B true)) σ) : ACallF κ Tryz.prog 12 [] σ K := by
  have hA : Asc (bytesI { data := #[91, 97, 44, 32, 98, 58, 32, 99, 93] }) := ⟨by decide, by decide⟩
  have hb : bytesI { data := #[91, 97, 44, 32, 98, 58, 32, 99, 93] } = alT := by decide
  have hs := one_small (T := alT) (by decide)
  refine ACallF.dropL (ACallF_intro Tryz.func12 rfl ?_)
  simp only [Tryz.ntmps12]
  repeat' (first | ( with_reducible refine y_idx_row (hK := ?_)) | simp only [WL, intF, WM, Int.reduceToNat, reduceCtorEq, WLb, Nat.reduceAdd, Nat.reduceSub, Nat.reduceLT, Nat.reduceEqDiff, Bool.not_true, beq_self_eq_true, true_and, reduceIte, Bool.false_eq_true, T3, T27, fR fl41_0, cok14, cok15, cok17, cok19, Tryz.results12, hb, alive_lines] | (with_reducible first | refine andA (hb := ?_) | refine y_load (hK := ?_) | refine cD (lLines hA ?_) | refine cD (jNew (ls := oneL alT) (by simp) (by simp) (fun br => ?_)) | refine cD (jNodeRow (ls := oneL alT) hs (by omega) ⟨by decide, by decide⟩ (by decide) alive_whole (by simp) (by decide) (fun rb rc cs ρ hrc hsub => ?_)) | refine cD (lNum ?_)) | ((with_reducible first | refine grd_cases (fun h => ?_) (fun h => ?_) | refine condC_split (fun h => ?_) (fun h => ?_)) <;> (try simp only [h]) <;> (try simp only [NR_, NRb] at h)) | omega)
  all_goals first
    | exact leafL (sub_cons (sub_tail hsub)) (leT_eq rfl) hK
    | (exfalso; omega)
    | trace_state
end Go.Proofs.YtgoofaeifbfblaaGreat
/-
  Chapter 13: braces in braces, plain facts.
-/

namespace Go.Proofs.YtgoofaeifbfblaaGreat
open Go.Abs
set_option linter.unusedVariables false
set_option linter.unusedSimpArgs false
end Go.Proofs.YtgoofaeifbfblaaGreat
/-
  Walks: chapter 13's law FlowDeep.
-/


namespace Go.Proofs.YtgoofaeifbfblaaGreat
open Go.Abs
set_option linter.unusedVariables false
set_option linter.unusedSimpArgs false
variable {κ : Ctx} {σ : List Res} {K : Ret → List Res → Prop} {o o' : Option (Option (Nat × Nat))}
set_option maxHeartbeats 8000000 in
set_option maxRecDepth 4000 in
theorem lf_e : ({ data := #[] } : ByteArray) = textI [] := by decide +kernel
set_option maxHeartbeats 8000000 in
set_option maxRecDepth 4000 in
theorem lf_c : ({ data := #[91] } : ByteArray) = textI [91] := by decide +kernel
set_option maxHeartbeats 8000000 in
set_option maxRecDepth 4000 in
theorem asc_text {l : List Int} (h : Asc l) : bytesI (textI l) = l := by
  rw [bytesI_text]
  exact encL_ascii (fun c hc => by have := h.2 c hc; omega)
set_option maxHeartbeats 8000000 in
set_option maxRecDepth 4000 in
theorem asc_size {l : List Int} (h : Asc l) : (textI l).size = l.length := by rw [← bytesI_len, asc_text h]
set_option maxHeartbeats 8000000 in
set_option maxRecDepth 4000 in
theorem one_lines {l : List Int} (h : ∀ c ∈ l, 32 ≤ c ∧ c ≤ 126) (h0 : 0 < l.length) (h1 : ¬ l.getD 0 0 = 32) : (readR l).1 = oneL l := by
  have hg : readOk l = true := by
    unfold readOk
    rw [List.all_eq_true]
    intro c hc
    have := h c hc
    refine goodC_yes ?_ (by omega)
    unfold printI
    simp; omega
  unfold readR
  rw [if_pos hg]
  show linesOf l = _
  unfold linesOf
  rw [tx_none (fun c hc => by have := h c hc; simp [brk]; omega)]
  cases l with
  | nil => simp at h0
  | cons c r =>
    have hc : ¬ c = 32 := by simpa using h1
    simp [lineOf, List.takeWhile_cons, List.dropWhile_cons, hc]
set_option maxHeartbeats 8000000 in
set_option maxRecDepth 4000 in
theorem asc_of {l : List Int} (h : ∀ c ∈ l, 32 ≤ c ∧ c ≤ 126) (hl : l.length ≤ 100000) : Asc l := ⟨hl, fun c hc => by have := h c hc; omega⟩
set_option maxHeartbeats 8000000 in
set_option maxRecDepth 4000 in
theorem str_add3 {x y : ByteArray} {v : Option Value} (h : x.size + y.size ≤ 1000000000) : (if ((x.size + y.size : Nat) : Int) > IntKind.i64.max then none else v) = v := by
  rw [if_neg]
  have : IntKind.i64.max = 9223372036854775807 := by decide
  omega
end Go.Proofs.YtgoofaeifbfblaaGreat
/-
  Chapter 13: places in lines, words, and what stands between them: plain facts.
-/

namespace Go.Proofs.YtgoofaeifbfblaaGreat
open Go.Abs
set_option linter.unusedVariables false
set_option linter.unusedSimpArgs false
/-! ### Places, by what stands there -/
def At (ls : List Ln) (p : Int × Int) (l : List Int) : Prop := 0 ≤ p.1 ∧ p.1 < ls.length ∧ 0 ≤ p.2 ∧ 0 ≤ (ls.getD p.1.toNat (0, [])).1 ∧ (ls.getD p.1.toNat (0, [])).1 ≤ p.2 ∧ restF ls p = l
set_option maxHeartbeats 4000000 in
theorem at_mk {ls : List Ln} {i k : Int} {t : List Int} (h0 : 0 ≤ i) (h1 : i < ls.length) (h : ls.getD i.toNat (0, []) = (k, t)) (hk : 0 ≤ k) : At ls (i, k) t := by
  refine ⟨h0, h1, hk, by dsimp only; rw [h]; exact hk, by dsimp only; rw [h]; exact Int.le_refl _, ?_⟩
  rw [restF_in (by dsimp only; omega) (by dsimp only; omega) (by dsimp only; omega)]
  dsimp only
  rw [h]
  dsimp only
  rw [if_neg (by omega), show (min (k - max 0 k) (t.length : Int)).toNat = 0 by omega, List.drop_zero]
set_option maxHeartbeats 4000000 in
theorem At.step {ls : List Ln} {p : Int × Int} {a l : List Int} (h : At ls p (a ++ l)) : At ls (p.1, p.2 + (a.length : Nat)) l := by
  obtain ⟨h1, h2, h3, h4, h5, h6⟩ := h
  refine ⟨h1, h2, by dsimp only; omega, h4, by dsimp only; omega, ?_⟩
  rw [restF_in (by omega) (by omega) (by omega), if_neg (by omega)] at h6
  rw [restF_in (by dsimp only; omega) (by dsimp only; omega) (by dsimp only; omega)]
  dsimp only at *
  generalize ls.getD p.1.toNat (0, []) = x at *
  rw [if_neg (by omega)]
  have hl := congrArg List.length h6
  rw [List.length_drop, List.length_append] at hl
  rw [show (min (p.2 + (a.length : Nat) - max 0 x.1) (x.2.length : Int)).toNat = (min (p.2 - max 0 x.1) (x.2.length : Int)).toNat + a.length by omega, ← List.drop_drop, h6, List.drop_left]
set_option maxHeartbeats 4000000 in
theorem blN_app {b r : List Int} (hb : ∀ c ∈ b, blankI c = true) (hr : r.length = 0 ∨ blankI (r.getD 0 0) = false) : blN (b ++ r) = b.length := by
  have h0 : blN r = 0 := by
    rcases hr with h | h
    · rw [List.length_eq_zero_iff.1 h]; rfl
    · exact blN_0 h
  unfold blN at *
  rw [List.takeWhile_append_of_pos hb, List.length_append, h0, Nat.add_zero]
set_option maxHeartbeats 4000000 in
theorem At.past {ls : List Ln} {p : Int × Int} {b r : List Int} (h : At ls p (b ++ r)) (hb : ∀ c ∈ b, blankI c = true) (hr : r.length = 0 ∨ blankI (r.getD 0 0) = false) : pastF ls p = ((p.1, p.2 + (b.length : Nat)), r) := by
  have hc : colF ls p = p.2 := by
    obtain ⟨h1, h2, h3, h4, h5, h6⟩ := h
    unfold colF
    rw [if_pos ⟨h1, h2⟩]; omega
  unfold pastF
  rw [hc, show ((p.1, p.2) : Int × Int) = p from rfl, h.2.2.2.2.2, blN_app hb hr, List.drop_left]
set_option maxHeartbeats 4000000 in
theorem past_line {ls : List Ln} {i k : Int} {t : List Int} (h0 : 0 ≤ i) (h1 : i < ls.length) (h : ls.getD i.toNat (0, []) = (k, t)) (hk : 0 ≤ k) : pastF ls (i, 0) = pastF ls (i, k) := by
  have hc : colF ls (i, 0) = k := by unfold colF; rw [if_pos ⟨h0, h1⟩]; dsimp only; rw [h]; dsimp only; omega
  have hc' : colF ls (i, k) = k := by unfold colF; rw [if_pos ⟨h0, h1⟩]; dsimp only; rw [h]; dsimp only; omega
  unfold pastF
  rw [hc, hc']
set_option maxHeartbeats 4000000 in
theorem some_line {ls : List Ln} {i k : Int} {t : List Int} (h0 : 0 ≤ i) (h1 : i < ls.length) (h : ls.getD i.toNat (0, []) = (k, t)) (hk : 0 ≤ k) : someF ls (i, 0) = someF ls (i, k) := by
  unfold someF
  rw [past_line h0 h1 h hk]
set_option maxHeartbeats 4000000 in
theorem some_here {ls : List Ln} {p : Int × Int} {b r : List Int} (h : At ls p (b ++ r)) (hb : ∀ c ∈ b, blankI c = true) (h0 : 0 < r.length) (h1 : blankI (r.getD 0 0) = false) (h2 : ¬ r.getD 0 0 = 35) : someF ls p = ((p.1, p.2 + (b.length : Nat)), true) := by
  unfold someF
  rw [h.past hb (.inr h1)]
  dsimp only
  have hc : comF ls (p.1, p.2 + (b.length : Nat)) r = false := by
    unfold comF headF
    rw [beq_eq_false_iff_ne.2 h2, Bool.and_false, Bool.false_and]
  rw [decide_eq_true h0, hc]; rfl
set_option maxHeartbeats 4000000 in
theorem some_none {ls : List Ln} {p : Int × Int} {b : List Int} (h : At ls p b) (hb : ∀ c ∈ b, blankI c = true) : (someF ls p).2 = false := by
  unfold someF
  rw [At.past (r := []) (by rw [List.append_nil]; exact h) hb (.inl rfl)]; rfl
set_option maxHeartbeats 4000000 in
theorem some_com {ls : List Ln} {p : Int × Int} {b r : List Int} {x : Int} (h : At ls p (b ++ x :: 35 :: r)) (hb : ∀ c ∈ b, blankI c = true) (hx : blankI x = true) : (someF ls p).2 = false := by
  have hp := At.past (b := b ++ [x]) (r := 35 :: r) (by rw [List.append_assoc]; exact h) (fun c hc => by rcases List.mem_append.1 hc with h | h; exact hb c h; simp at h; subst h; exact hx) (.inr (by rw [List.getD_cons_zero]; decide))
  have ha := h.step
  unfold someF
  rw [hp]
  dsimp only
  have hc : comF ls (p.1, p.2 + ((b ++ [x]).length : Nat)) (35 :: r) = true := by
    unfold comF afterF
    rw [show ((p.1, p.2 + ((b ++ [x]).length : Nat)).1, (p.1, p.2 + ((b ++ [x]).length : Nat)).2 - 1) = (p.1, p.2 + (b.length : Nat)) by rw [List.length_append]; ext <;> simp <;> omega, ha.2.2.2.2.2]
    have e1 : headF (35 :: r) 35 = true := by unfold headF; simp
    have e2 : blankAt (x :: 35 :: r) = true := by unfold blankAt; simp [hx]
    rw [e1, e2]; simp
  rw [hc]; simp
set_option maxHeartbeats 4000000 in
theorem on_some {ls : List Ln} {n : Int} {p q : Int × Int} (h : someF ls p = (q, true)) (hq : q.1 = p.1) : onF ls n p = some (some q) := by
  unfold onF
  rw [places_step, h]
  show onL _ _ _ ((q, true) :: _) = _
  unfold onL
  rw [if_pos rfl, if_neg (by omega)]
set_option maxHeartbeats 4000000 in
theorem onL_skip {ls : List Ln} {n i : Int} {p : Int × Int} (h : (someF ls p).2 = false) (ho : overF ls (p.1 + 1) = false) : onL ls n i (placesL ls p) = onL ls n i (placesL ls (p.1 + 1, 0)) := by
  rw [places_step (p := p), ho, if_neg Bool.false_ne_true]
  generalize placesL ls (p.1 + 1, 0) = r
  cases hs : someF ls p with
  | mk q s =>
    rw [hs] at h
    dsimp only at h
    subst h
    show (if false = true then _ else onL ls n i r) = _
    rw [if_neg Bool.false_ne_true]
set_option maxHeartbeats 4000000 in
theorem onL_some {ls : List Ln} {n i : Int} {p q : Int × Int} (h : someF ls p = (q, true)) (hi : n < (ls.getD q.1.toNat (0, [])).1) : onL ls n i (placesL ls p) = some (some q) := by
  rw [places_step, h]
  show onL _ _ _ ((q, true) :: _) = _
  unfold onL
  rw [if_pos rfl, if_neg (by omega)]
/-! ### Texts and their lines -/
def cutL : List Int → List Int × List (List Int)
  | [] => ([], [])
  | c :: t => if c = 10 then ([], (cutL t).1 :: (cutL t).2) else (c :: (cutL t).1, (cutL t).2)
set_option maxHeartbeats 4000000 in
theorem cut_nl {t : List Int} : cutL (10 :: t) = ([], (cutL t).1 :: (cutL t).2) := by rw [cutL, if_pos rfl]
set_option maxHeartbeats 4000000 in
theorem cut_c {c : Int} {t : List Int} (h : ¬ c = 10) : cutL (c :: t) = (c :: (cutL t).1, (cutL t).2) := by rw [cutL, if_neg h]
set_option maxHeartbeats 4000000 in
theorem cut_app : ∀ {a t : List Int}, (∀ c ∈ a, ¬ c = 10) → cutL (a ++ t) = (a ++ (cutL t).1, (cutL t).2)
  | [], t, _ => rfl
  | c :: a, t, h => by rw [List.cons_append, cut_c (h c (by simp)), cut_app (fun x hx => h x (by simp [hx]))]; rfl
set_option maxHeartbeats 4000000 in
theorem tx_cut : ∀ (T acc : List Int), (∀ c ∈ T, ¬ c = 13) → 0 < T.length → ¬ T.getD (T.length - 1) 0 = 10 → tx acc T = (acc ++ (cutL T).1) :: (cutL T).2
  | [], _, _, h, _ => by simp at h
  | [c], acc, h13, _, hl => by
    have h1 : ¬ c = 10 := by simpa using hl
    have h2 := h13 c (by simp)
    have hb : brk c = false := by simp [brk, h1, h2]
    rw [cut_c h1]
    simp [tx, hb, cutL]
  | c :: d :: r, acc, h13, _, hl => by
    have h2 := h13 c (by simp)
    have ih := tx_cut (d :: r) (if c = 10 then [] else acc ++ [c]) (fun x hx => h13 x (by simp at hx ⊢; exact .inr hx)) (by simp) (by simpa using hl)
    by_cases h : c = 10
    · subst h
      rw [if_pos rfl, List.nil_append] at ih
      rw [cut_nl, tx_brk (by decide) (by simp), ih, List.append_nil]
    · rw [if_neg h] at ih
      have hb : brk c = false := by simp [brk, h, h2]
      rw [cut_c h, tx_push hb, ih]
      simp
def Tx (ls : List Ln) (p : Int × Int) (t : List Int) : Prop := At ls p (cutL t).1 ∧ ls.drop (p.1.toNat + 1) = (cutL t).2.map lineOf
set_option maxHeartbeats 4000000 in
theorem Tx.step {ls : List Ln} {p : Int × Int} {a t : List Int} (h : Tx ls p (a ++ t)) (ha : ∀ c ∈ a, ¬ c = 10) : Tx ls (p.1, p.2 + (a.length : Nat)) t := by
  obtain ⟨h1, h2⟩ := h
  rw [cut_app ha] at h1 h2
  exact ⟨h1.step, h2⟩
set_option maxHeartbeats 4000000 in
theorem Tx.line {ls : List Ln} {p : Int × Int} {t l : List Int} {m : List (List Int)} (h : Tx ls p t) (hc : (cutL t).2 = l :: m) : 0 ≤ p.1 + 1 ∧ p.1 + 1 < ls.length ∧ ls.getD (p.1 + 1).toNat (0, []) = lineOf l ∧ ls.drop ((p.1 + 1).toNat + 1) = m.map lineOf := by
  obtain ⟨⟨h1, h2, -⟩, h3⟩ := h
  rw [hc, List.map_cons] at h3
  have hk : (p.1 + 1).toNat = p.1.toNat + 1 := by omega
  have hl := congrArg List.length h3
  rw [List.length_drop, List.length_cons] at hl
  refine ⟨by omega, by omega, ?_, ?_⟩
  · rw [hk, List.getD_eq_getElem?_getD, ← List.head?_drop, h3]; rfl
  · rw [hk, ← List.drop_drop, h3]; rfl
set_option maxHeartbeats 4000000 in
theorem lineOf_in {k : Nat} {l : List Int} (h : l.length = 0 ∨ ¬ l.getD 0 0 = 32) : lineOf (List.replicate k 32 ++ l) = ((k : Int), l) := by
  have h1 : (List.replicate k (32 : Int) ++ l).takeWhile (· == 32) = List.replicate k 32 ++ l.takeWhile (· == 32) := List.takeWhile_append_of_pos (fun c hc => by rw [(List.mem_replicate.1 hc).2]; rfl)
  have h2 : (List.replicate k (32 : Int) ++ l).dropWhile (· == 32) = l.dropWhile (· == 32) := List.dropWhile_append_of_pos (fun c hc => by rw [(List.mem_replicate.1 hc).2]; rfl)
  have h3 : l.takeWhile (· == 32) = [] ∧ l.dropWhile (· == 32) = l := by
    cases l with
    | nil => exact ⟨rfl, rfl⟩
    | cons c l =>
      have hc : ¬ c = 32 := by rcases h with h | h; simp at h; simpa using h
      have he : (c == 32) = false := beq_eq_false_iff_ne.2 hc
      exact ⟨by rw [List.takeWhile_cons, if_neg (by rw [he]; exact Bool.false_ne_true)], by rw [List.dropWhile_cons, if_neg (by rw [he]; exact Bool.false_ne_true)]⟩
  unfold lineOf
  rw [h1, h2, h3.1, h3.2, List.append_nil, List.length_replicate]
set_option maxHeartbeats 4000000 in
theorem over_no {ls : List Ln} {i k : Int} {t : List Int} (h1 : i < ls.length) (h : ls.getD i.toNat (0, []) = (k, t)) (hm : ¬ k = 0 ∨ t.length = 0) : overF ls i = false := by
  unfold overF
  rw [decide_eq_false (by omega), h]
  have : markerI k t = 0 := by unfold markerI; rw [if_neg (by rintro ⟨h1, h2, -⟩; omega)]
  rw [this]; rfl
/-! ### What stands between words -/
def gapT : Nat → List Int
  | 0 => []
  | 1 => [32]
  | 2 => [10, 32]
  | 3 => [32, 35, 32, 99, 10, 10, 32, 32]
  | _ => [9]
def Beg (c : Int) : Prop := blankI c = false ∧ ¬ c = 35 ∧ ¬ c = 10
set_option maxHeartbeats 4000000 in
theorem Beg.n32 {c : Int} (h : Beg c) : ¬ c = 32 := by
  intro e
  have := h.1
  rw [e] at this
  cases this
set_option maxHeartbeats 4000000 in
theorem here_on {ls : List Ln} {n : Int} {p : Int × Int} {b t : List Int} {c : Int} (h : Tx ls p (b ++ (c :: t))) (hb : ∀ c ∈ b, blankI c = true) (hc : Beg c) : onF ls n p = some (some (p.1, p.2 + (b.length : Nat))) ∧ Tx ls (p.1, p.2 + (b.length : Nat)) (c :: t) := by
  have hb10 : ∀ c ∈ b, ¬ c = 10 := fun c hc e => by have := hb c hc; rw [e] at this; cases this
  refine ⟨?_, h.step hb10⟩
  have h1 := h.1
  rw [cut_app hb10, cut_c hc.2.2] at h1
  exact on_some (some_here h1 hb (by simp) (by rw [List.getD_cons_zero]; exact hc.1) (by rw [List.getD_cons_zero]; exact hc.2.1)) rfl
set_option maxHeartbeats 4000000 in
theorem gap_on {ls : List Ln} {n : Int} {p : Int × Int} {b t : List Int} {g : Nat} {c : Int} (hn : n < 1) (h : Tx ls p (b ++ (gapT g ++ (c :: t)))) (hb : ∀ c ∈ b, blankI c = true) (hc : Beg c) : ∃ q, onF ls n p = some (some q) ∧ Tx ls q (c :: t) := by
  have hb10 : ∀ c ∈ b, ¬ c = 10 := fun c hc e => by have := hb c hc; rw [e] at this; cases this
  have here : ∀ x : List Int, (∀ c ∈ x, blankI c = true) → Tx ls p (b ++ (x ++ (c :: t))) → ∃ q, onF ls n p = some (some q) ∧ Tx ls q (c :: t) := fun x hx hT => by
    rw [← List.append_assoc] at hT
    exact ⟨_, here_on hT (fun c hc => by rcases List.mem_append.1 hc with h | h; exact hb c h; exact hx c h) hc⟩
  have hl32 : ¬ ((cutL (c :: t)).1.getD 0 0 = 32) := by rw [cut_c hc.2.2, List.getD_cons_zero]; exact hc.n32
  have hbeg : ∀ i k : Int, 0 ≤ i → i < ls.length → ls.getD i.toNat (0, []) = (k, (cutL (c :: t)).1) → n < k → 0 ≤ k → ∀ i0, onL ls n i0 (placesL ls (i, 0)) = some (some (i, k)) ∧ At ls (i, k) (cutL (c :: t)).1 := fun i k h0 h1 hg hk hk0 i0 => by
    have ha := at_mk h0 h1 hg hk0
    refine ⟨onL_some ?_ (by dsimp only; rw [hg]; exact hk), ha⟩
    rw [some_line h0 h1 hg hk0]
    have := some_here (b := []) ha (fun c hc => by simp at hc) (by rw [cut_c hc.2.2]; simp) (by rw [cut_c hc.2.2, List.getD_cons_zero]; exact hc.1) (by rw [cut_c hc.2.2, List.getD_cons_zero]; exact hc.2.1)
    rw [this]; simp
  match g, h with
  | 0, h => exact here [] (fun c hc => by simp at hc) h
  | 1, h => exact here [32] (fun c hc => by simp at hc; subst hc; rfl) h
  | 2, h =>
    have e : cutL (b ++ ([10, 32] ++ (c :: t))) = (b, (32 :: (cutL (c :: t)).1) :: (cutL (c :: t)).2) := by
      rw [cut_app hb10]
      show (b ++ (cutL (10 :: 32 :: c :: t)).1, (cutL (10 :: 32 :: c :: t)).2) = _
      rw [cut_nl, cut_c (c := 32) (by decide), List.append_nil]
    have hL := h.line (l := 32 :: (cutL (c :: t)).1) (m := (cutL (c :: t)).2) (by show (cutL (b ++ ([10, 32] ++ (c :: t)))).2 = _; rw [e])
    have h1 := h.1
    rw [show (cutL (b ++ (gapT 2 ++ c :: t))).1 = b by show (cutL (b ++ ([10, 32] ++ (c :: t)))).1 = _; rw [e]] at h1
    obtain ⟨l1, l2, l3, l4⟩ := hL
    rw [show (32 : Int) :: (cutL (c :: t)).1 = List.replicate 1 32 ++ (cutL (c :: t)).1 from rfl, lineOf_in (.inr hl32)] at l3
    obtain ⟨e1, e2⟩ := hbeg (p.1 + 1) 1 l1 l2 l3 hn (by decide) p.1
    refine ⟨(p.1 + 1, 1), ?_, e2, l4⟩
    unfold onF
    rw [onL_skip (some_none h1 hb) (over_no l2 l3 (.inl (by decide)))]
    exact e1
  | 3, h =>
    have hb' : ∀ c ∈ b ++ [32, 35, 32, 99], ¬ c = 10 := fun c hc => by
      rcases List.mem_append.1 hc with h | h
      · exact hb10 c h
      · simp at h; omega
    have e : cutL (b ++ (gapT 3 ++ (c :: t))) = (b ++ [32, 35, 32, 99], [] :: (32 :: 32 :: (cutL (c :: t)).1) :: (cutL (c :: t)).2) := by
      show cutL (b ++ ([32, 35, 32, 99] ++ (10 :: 10 :: 32 :: 32 :: c :: t))) = _
      rw [← List.append_assoc, cut_app hb', cut_nl, cut_nl, cut_c (c := 32) (by decide), cut_c (c := 32) (by decide), List.append_nil]
    have hL := h.line (l := []) (m := (32 :: 32 :: (cutL (c :: t)).1) :: (cutL (c :: t)).2) (by rw [e])
    have h1 := h.1
    rw [e] at h1
    obtain ⟨l1, l2, l3, l4⟩ := hL
    have l3' : ls.getD (p.1 + 1).toNat (0, []) = (0, []) := l3
    have ha2 := at_mk l1 l2 l3' (Int.le_refl 0)
    have hT2 : Tx ls (p.1 + 1, 0) (10 :: 32 :: 32 :: c :: t) := ⟨by rw [cut_nl]; exact ha2, by rw [cut_nl, cut_c (c := 32) (by decide), cut_c (c := 32) (by decide)]; exact l4⟩
    obtain ⟨m1, m2, m3, m4⟩ := hT2.line (l := 32 :: 32 :: (cutL (c :: t)).1) (m := (cutL (c :: t)).2) (by rw [cut_nl, cut_c (c := 32) (by decide), cut_c (c := 32) (by decide)])
    rw [show (32 : Int) :: 32 :: (cutL (c :: t)).1 = List.replicate 2 32 ++ (cutL (c :: t)).1 from rfl, lineOf_in (.inr hl32)] at m3
    obtain ⟨e1, e2⟩ := hbeg (p.1 + 1 + 1) 2 m1 m2 m3 (by omega) (by decide) p.1
    refine ⟨(p.1 + 1 + 1, 2), ?_, e2, m4⟩
    unfold onF
    rw [onL_skip (some_com (x := 32) (b := b) (r := [32, 99]) h1 hb (by decide)) (over_no l2 l3' (.inr rfl)), onL_skip (p := (p.1 + 1, 0)) (some_none (b := []) ha2 (fun c hc => by simp at hc)) (over_no m2 m3 (.inl (by decide)))]
    exact e1
  | g + 4, h => exact here [9] (fun c hc => by simp at hc; subst hc; rfl) h
def Lets (w : List Int) : Prop := ∀ c ∈ w, 97 ≤ c ∧ c ≤ 122
def Blks (b : List Int) : Prop := ∀ c ∈ b, blankI c = true
set_option maxHeartbeats 4000000 in
theorem blank_or {c : Int} (h : blankI c = true) : c = 32 ∨ c = 9 := by
  unfold blankI at h
  simpa using h
set_option maxHeartbeats 4000000 in
theorem stopsN_skip {fl : Bool} : ∀ {x r : List Int} {i : Nat}, (∀ c ∈ x, stopC fl c = false) → stopsN fl i (x ++ r) = stopsN fl (i + x.length) r
  | [], r, i, _ => rfl
  | c :: x, r, i, h => by
    rw [List.cons_append, stopsN, h c (by simp), if_neg Bool.false_ne_true, stopsN_skip (fun c hc => h c (by simp [hc]))]
    congr 1
    simp; omega
set_option maxHeartbeats 4000000 in
theorem getD_app {x r : List Int} {i : Nat} : (x ++ r).getD (x.length + i) 0 = r.getD i 0 := by
  simp only [List.getD_eq_getElem?_getD]
  rw [List.getElem?_append_right (by omega)]
  congr 2; omega
set_option maxHeartbeats 4000000 in
theorem safe_app {x r : List Int} {i : Nat} {fl : Bool} : safeAt (x ++ r) (x.length + i) fl = safeAt r i fl := by
  unfold safeAt
  rw [getD_app, List.length_append]
  congr 1
  exact decide_eq_decide.2 (by omega)
def Stop (fl : Bool) (b r : List Int) : Prop := r = [] ∨ ∃ c r', r = c :: r' ∧ (fl = true ∧ flowI c = true ∨ c = 58 ∧ safeAt r 1 fl = false ∨ c = 35 ∧ 0 < b.length)
set_option maxHeartbeats 4000000 in
theorem stop_word {w b r : List Int} {fl : Bool} (hw : Lets w) (hb : Blks b) (hr : Stop fl b r) : stopI (w ++ (b ++ r)) fl = (w ++ b).length := by
  have hx : ∀ c ∈ w ++ b, stopC fl c = false := fun c hc => by
    rcases List.mem_append.1 hc with h | h
    · have := hw c h
      refine stopC_f (by omega) (by omega) (.inr ?_)
      unfold flowI; simp; omega
    · rcases blank_or (hb c h) with rfl | rfl
      · exact stopC_f (by decide) (by decide) (.inr (by decide))
      · exact stopC_f (by decide) (by decide) (.inr (by decide))
  unfold stopI
  rw [stopsAt, List.drop_zero, ← List.append_assoc, stopsN_skip hx, Nat.zero_add]
  rcases hr with rfl | ⟨c, r', rfl, h⟩
  · rw [List.append_nil]; rfl
  · have hs : stopC fl c = true := stopC_t (by
      rcases h with ⟨h1, h2⟩ | ⟨h, -⟩ | ⟨h, -⟩
      · exact .inr (.inr ⟨h1, h2⟩)
      · exact .inl h
      · exact .inr (.inl h))
    have h0 : (w ++ b ++ c :: r').getD (w ++ b).length 0 = c := by
      have := getD_app (x := w ++ b) (r := c :: r') (i := 0)
      rw [Nat.add_zero, List.getD_cons_zero] at this
      exact this
    rw [stopsN, if_pos hs, stopL, if_neg]
    rw [goes_f]
    · exact Bool.false_ne_true
    · rcases h with ⟨-, h2⟩ | ⟨-, h⟩ | ⟨h, -⟩
      · refine .inl (by rw [h0]; intro e; rw [e] at h2; cases h2)
      · exact .inr (by rw [safe_app]; exact h)
      · exact .inl (by rw [h0, h]; decide)
    · rcases h with ⟨-, h2⟩ | ⟨h, -⟩ | ⟨-, h⟩
      · refine .inl (by rw [h0]; intro e; rw [e] at h2; cases h2)
      · exact .inl (by rw [h0, h]; decide)
      · refine .inr ⟨by rw [List.length_append]; omega, ?_⟩
        have hi : (w ++ b).length - 1 < (w ++ b).length := by rw [List.length_append]; omega
        rw [List.getD_eq_getElem?_getD, List.getElem?_append_left hi]
        have hi2 : (w ++ b).length - 1 = w.length + (b.length - 1) := by rw [List.length_append]; omega
        rw [hi2, List.getElem?_append_right (by omega), show w.length + (b.length - 1) - w.length = b.length - 1 by omega, List.getElem?_eq_getElem (by omega)]
        exact hb _ (List.getElem_mem _)
set_option maxHeartbeats 4000000 in
theorem back_word {w b : List Int} (hw : Lets w) (hb : Blks b) : backI (w ++ b) = w := by
  unfold backI
  rw [List.reverse_append, List.dropWhile_append_of_pos (fun c hc => hb c (List.mem_reverse.1 hc))]
  have : w.reverse.dropWhile blankI = w.reverse := by
    cases hr : w.reverse with
    | nil => rfl
    | cons c r =>
      have hc := hw c (List.mem_reverse.1 (by rw [hr]; simp))
      have : blankI c = false := by unfold blankI; simp; omega
      rw [List.dropWhile_cons, if_neg (by rw [this]; exact Bool.false_ne_true)]
  rw [this, List.reverse_reverse]
set_option maxHeartbeats 4000000 in
theorem end_word {w b r : List Int} {fl : Bool} (hw : Lets w) (hb : Blks b) (hr : Stop fl b r) : endI (w ++ (b ++ r)) fl = w.length := by
  unfold endI
  rw [stop_word hw hb hr, ← List.append_assoc, List.take_left, back_word hw hb]
set_option maxHeartbeats 4000000 in
theorem end_stop {b r : List Int} {fl : Bool} (hb : Blks b) (hr : Stop fl b r) : endI (b ++ r) fl = 0 := by
  have := end_word (w := []) (fun c hc => by simp at hc) hb hr
  simpa using this
set_option maxHeartbeats 4000000 in
theorem letter_ok : ∀ k : Fin 26, ∀ fl : Bool, safeI (97 + (k.val : Int)) fl = true ∧ signI (97 + (k.val : Int)) = false := by decide +kernel
set_option maxHeartbeats 4000000 in
theorem letter {c : Int} (h : 97 ≤ c ∧ c ≤ 122) (fl : Bool) : safeI c fl = true ∧ signI c = false := by
  have := letter_ok ⟨(c - 97).toNat, by omega⟩ fl
  rw [show 97 + (((⟨(c - 97).toNat, by omega⟩ : Fin 26).val : Nat) : Int) = c by dsimp only; omega] at this
  exact this
set_option maxHeartbeats 4000000 in
theorem word_begins {w r : List Int} {fl : Bool} (hw : Lets w) (h0 : 0 < w.length) : beginsI (w ++ r) fl = true := by
  cases w with
  | nil => simp at h0
  | cons c w =>
    have hc := hw c (by simp)
    obtain ⟨h1, h2⟩ := letter hc fl
    unfold beginsI safeAt
    simp only [List.cons_append, List.getD_cons_zero, List.length_cons]
    rw [h1, h2, if_neg (by omega)]
    simp
set_option maxHeartbeats 4000000 in
theorem let_beg {c : Int} (h : 97 ≤ c ∧ c ≤ 122) : Beg c := ⟨by unfold blankI; simp; omega, by omega, by omega⟩
set_option maxHeartbeats 4000000 in
theorem word_node {ls : List Ln} {n d : Int} {bk : Bool} {N : Nat → Int × Int → NodeR} {k : Nat} {q : Int × Int} {w b r : List Int} (hA : At ls q (w ++ (b ++ r))) (hw : Lets w) (h0 : 0 < w.length) (hb : Blks b) (hr : Stop (!(bk && decide (k = 0))) b r)
    (hf : (∃ c r', r = c :: r' ∧ blankI c = false) ∨ (furtherF ls n (bk && decide (k = 0)) q.1).2 = false) : nodeS ls n d bk N k q = .ok ([⟨7, textI w, .empty, .empty, 1, false⟩], (q.1, q.2 + (w.length : Nat)), false) := by
  have hq := hA.2.2.2.2.2
  have hstep := hA.step
  have hbegin := word_begins (r := b ++ r) (fl := !(bk && decide (k = 0))) hw h0
  have hen := end_word hw hb hr
  have hhead : ∀ x : Int, ¬ (97 ≤ x ∧ x ≤ 122) → headF (w ++ (b ++ r)) x = false := fun x hx => by
    cases w with
    | nil => simp at h0
    | cons c w =>
      have hc := hw c (by simp)
      unfold headF
      simp only [List.cons_append, List.getD_cons_zero]
      rw [beq_eq_false_iff_ne.2 (by omega), Bool.and_false]
  have hon : onF ls n q = some (some q) := by
    cases w with
    | nil => simp at h0
    | cons c w =>
      have hB := let_beg (hw c (by simp))
      have := on_some (n := n) (some_here (b := []) (by exact hA) (fun c hc => by simp at hc) (by simp) (by simp only [List.cons_append, List.getD_cons_zero]; exact hB.1) (by simp only [List.cons_append, List.getD_cons_zero]; exact hB.2.1)) rfl
      rw [this]; simp
  have htr : traitsF ls n q = .ok (tr0, q, true) := by
    unfold traitsF
    rw [hon]
    dsimp only
    exact traitsG_end (traitF_no (by rw [hq]; exact hhead _ (by decide)) (by rw [hq]; exact hhead _ (by decide)))
  have hpast : ¬ ((pastF ls (q.1, q.2 + (w.length : Nat))).2.length = 0 ∧ (furtherF ls n (bk && decide (k = 0)) q.1).2 = true) := by
    rintro ⟨h1, h2⟩
    rcases hf with ⟨c, r', rfl, hc⟩ | hf
    · rw [hstep.past hb (.inr (by rw [List.getD_cons_zero]; exact hc))] at h1
      simp at h1
    · rw [hf] at h2; cases h2
  have hpl : plainF ls n (bk && decide (k = 0)) q (w ++ (b ++ r)) = .ok (w, (q.1, q.2 + (w.length : Nat))) := by
    unfold plainF
    rw [plainN_eq, hen, if_neg (by simp), if_neg hpast]
    dsimp only
    rw [List.nil_append, List.take_left, flowF_one]
  unfold nodeS
  rw [htr]
  dsimp only
  rw [if_pos rfl, hq]
  unfold bodyF
  rw [hhead 42 (by decide), hhead 34 (by decide), hhead 39 (by decide), hhead 91 (by decide), hhead 123 (by decide)]
  rw [if_neg Bool.false_ne_true, if_neg (by simp), if_neg (by simp), if_pos ⟨by rw [List.length_append]; omega, hbegin⟩, hpl]
end Go.Proofs.YtgoofaeifbfblaaGreat
/-
  Walks: chapter 13, keys.
-/

namespace Go.Proofs.YtgoofaeifbfblaaGreat
open Go.Abs
set_option linter.unusedVariables false
set_option linter.unusedSimpArgs false
variable {κ : Ctx} {σ : List Res} {K : Ret → List Res → Prop} {o o' : Option (Option (Nat × Nat))}
def aloneF (ls : List Ln) (i : Int) : List Ln := if 0 ≤ i ∧ i < ls.length then [ls.getD i.toNat (0, [])] else []
set_option maxHeartbeats 8000000 in
theorem alone_small {ls : List Ln} {i : Int} (hs : Small ls) : Small (aloneF ls i) := by
  unfold aloneF
  split
  · have := hs.at_ (i := i.toNat) (by omega)
    exact ⟨by simp, fun x hx => by simp at hx; subst hx; exact this⟩
  · exact ⟨by simp, fun x hx => by simp at hx⟩
set_option maxHeartbeats 8000000 in
theorem alone_cells' {ls : List Ln} {i : Int} (hi : 0 ≤ i ∧ i < ls.length) : (ls.take (i + 1).toNat).drop i.toNat = aloneF ls i := by
  unfold aloneF
  rw [if_pos hi, show (i + 1).toNat = i.toNat + 1 by omega, List.drop_take, show i.toNat + 1 - i.toNat = 1 by omega, List.drop_eq_getElem_cons (by omega), List.take_succ_cons, List.take_zero]
  simp [List.getD_eq_getElem?_getD, show i.toNat < ls.length by omega]
set_option maxHeartbeats 8000000 in
theorem alone_none {ls : List Ln} {i : Int} (hi : ¬ (0 ≤ i ∧ i < ls.length)) : aloneF ls i = [] := if_neg hi
set_option maxHeartbeats 8000000 in
theorem jAlone {ls : List Ln} {i : Int} (hl : ls.length ≤ 1000000000) (hK : ∀ b, K (.ret (JP b)) (.obj b (JC (aloneF ls i) (-1) true 0 nilS nilS) :: σ)) : ACallF κ Tryz.prog 32 [SL none ls, I i] σ K := by
  have hc' := fun h => alone_cells' (ls := ls) (i := i) h
  refine ACallF.dropW ?_
  refine ACallF.dropL (ACallF_intro Tryz.func32 rfl ?_)
  simp only [Tryz.ntmps32]
  repeat' (first | simp only [WL, intF, WM, reduceCtorEq, WLb, Nat.reduceAdd, Nat.reduceSub, Nat.reduceEqDiff, Bool.not_true, true_and, reduceIte, Bool.false_eq_true, T22, T52, fR fl64_0, Tryz.results32] | simp (disch := first | omega | (simp only [LN_]; omega)) only [wrap_id] | (with_reducible first | refine andA (hb := ?_) | refine y_store (hK := ?_) | refine y_box (hK := fun b => ?_) | refine y_build (hK := ?_)) | ((with_reducible first | refine grd_cases (fun h => ?_) (fun h => ?_) | refine condC_split (fun h => ?_) (fun h => ?_)) <;> (try simp only [h]) <;> (try simp only [NR_, NRb] at h)))
  all_goals first
    | exact leafL sub_rfl (leT_eq rfl) ⟨.obj _ (JC (aloneF ls i) (-1) true 0 nilS nilS) :: σ, ResW.obj ⟨le_eq (congrArg (SL none) (hc' ⟨by assumption, by assumption⟩).symm), le_rfl, le_rfl, le_rfl, le_rfl, le_rfl, trivial⟩, hK _⟩
    | exact leafL sub_rfl (leT_eq rfl) ⟨.obj _ (JC (aloneF ls i) (-1) true 0 nilS nilS) :: σ, ResW.obj ⟨by rw [alone_none (by omega)]; exact le_nilro (by decide), le_rfl, le_rfl, le_rfl, le_rfl, le_rfl, trivial⟩, hK _⟩
    | trace_state
def colonB (k : Int) (p : Int × Int) (l : List Int) : Bool := headF l 58 && (decide (l.length ≤ 1) || blankI (l.getD 1 0)) && decide (p.2 - k ≤ 1024)
def keyF (ls : List Ln) (k : Int) : Option Int :=
  if (restF ls (0, k)).length = 0 ∨ blankI ((restF ls (0, k)).getD 0 0) = true then none
  else match wholeF ls (-1) 0 true (0, k) with
    | .error _ => none
    | .ok (_, e, _) => if colonB k (pastF ls e).1 (pastF ls e).2 = true then some (pastF ls e).1.2 else none
def keyA : Option Int → AV
  | none => .tup [I 0, B false]
  | some k => .tup [I k, B true]
set_option maxHeartbeats 8000000 in
theorem jAloneE {ls la : List Ln} {i : Int} (he : aloneF ls i = la) (hl : ls.length ≤ 1000000000) (hK : ∀ b, K (.ret (JP b)) (.obj b (JC la (-1) true 0 nilS nilS) :: σ)) : ACallF κ Tryz.prog 32 [SL none ls, I i] σ K := by
  subst he
  exact jAlone hl hK
set_option maxHeartbeats 8000000 in
theorem keyA_none : keyA none = .tup [I 0, B false] := rfl
set_option maxHeartbeats 8000000 in
theorem keyA_some {k : Int} : keyA (some k) = .tup [I k, B true] := rfl
set_option maxHeartbeats 8000000 in
theorem PlW.of0 {k : Int} (h : In64 k) (h0 : 0 ≤ k) : PlW ((0 : Int), k) := ⟨Int.le_refl 0, (by decide : (0 : Int) ≤ 1000000000), h, h0⟩
set_option maxHeartbeats 8000000 in
theorem JX.sub {x y : AV} {op : List Int} {l : List EvV} {τ σ0 : List Res} (h : JX x y op l τ σ0) : Sub σ0 τ := by
  obtain ⟨ρx, ρy, r1, r2, hp⟩ := h
  refine sub_perm hp.symm ⟨σ0, List.Perm.refl _, ?_⟩
  rw [← List.append_assoc]
  exact List.sublist_append_right _ _
set_option maxHeartbeats 8000000 in
theorem colon_t {k : Int} {p : Int × Int} {l : List Int} (h0 : 0 < l.length) (h1 : l.getD 0 0 = 58) (h2 : l.length ≤ 1 ∨ blankI (l.getD 1 0) = true) (h3 : p.2 - k ≤ 1024) : colonB k p l = true := by
  unfold colonB headF
  rw [decide_eq_true h0, h1, decide_eq_true h3]
  rcases h2 with h2 | h2
  · rw [decide_eq_true h2]; rfl
  · rw [h2]; simp
set_option maxHeartbeats 8000000 in
theorem colon_f {k : Int} {p : Int × Int} {l : List Int} (h : l.length = 0 ∨ ¬ l.getD 0 0 = 58 ∨ (1 < l.length ∧ blankI (l.getD 1 0) = false) ∨ 1024 < p.2 - k) : colonB k p l = false := by
  unfold colonB headF
  rcases h with h | h | ⟨h, h'⟩ | h
  · rw [decide_eq_false (by omega)]; rfl
  · rw [beq_eq_false_iff_ne.2 h]; simp
  · rw [decide_eq_false (by omega : ¬ l.length ≤ 1), h']; simp
  · rw [decide_eq_false (by omega : ¬ p.2 - k ≤ 1024)]; simp
set_option maxHeartbeats 8000000 in
theorem jRunOk {bj : Nat} {ls : List Ln} {n d : Int} {bk : Bool} {p e : Int × Int} {ev : List EvV} {t : Bool} {ρ τ : List Res} [hS : Split σ bj ρ (JC ls n bk d nilS nilS) τ] (hw : wholeF ls n d bk p = .ok (ev, e, t)) (hs : Small ls) (hd : 0 ≤ d ∧ d ≤ 1000000000) (hp : PlW p)
    (h1 : ∀ x' y' τ', JX x' y' [] ev τ' τ → K (.ret (.tup [PLA e, I 0])) (ρ ++ .obj bj (JC ls n bk d x' y') :: τ')) : ACallF κ Tryz.prog 35 [JP bj, PLA p] σ K :=
  ACallF.at_ (b := bj) (jRun0 hs hd hp (fun ev' e' t' h => by rw [hw] at h; cases h; exact h1) (fun e' h => by rw [hw] at h; cases h))
set_option maxHeartbeats 8000000 in
theorem jRunEr {bj : Nat} {ls : List Ln} {n d e : Int} {bk : Bool} {p : Int × Int} {ρ τ : List Res} [hS : Split σ bj ρ (JC ls n bk d nilS nilS) τ] (hw : wholeF ls n d bk p = .error e) (hs : Small ls) (hd : 0 ≤ d ∧ d ≤ 1000000000) (hp : PlW p)
    (h2 : ∀ x' y' op' l' τ', JX x' y' op' l' τ' τ → K (.ret (.tup [PLA (0, 0), I e])) (ρ ++ .obj bj (JC ls n bk d x' y') :: τ')) : ACallF κ Tryz.prog 35 [JP bj, PLA p] σ K :=
  ACallF.at_ (b := bj) (jRun0 hs hd hp (fun ev' e' t' h => by rw [hw] at h; cases h) (fun e' h => by rw [hw] at h; cases h; exact h2))
set_option maxHeartbeats 8000000 in
theorem jKey {br ix : Nat} {ls : List Ln} {i k : Int} [hR : Hold σ br ix [SL none ls]] (hs : Small ls) (hk : In64 k) (hK : K (.ret (keyA (keyF (aloneF ls i) k))) σ) : ACallF κ Tryz.prog 20 [JP br, I i, I k] σ K := by
  have hl := hs.1
  have hsa := alone_small (i := i) hs
  have hal : (aloneF ls i).length ≤ 1 := by unfold aloneF; split <;> simp
  generalize he : aloneF ls i = la at *
  have hr := restF_len (p := (0, k)) hsa
  have hr1 := fun h => restF_some (p := (0, k)) hsa h
  unfold keyF at hK
  by_cases hc : (restF la (0, k)).length = 0 ∨ blankI ((restF la (0, k)).getD 0 0) = true
  · rw [if_pos hc] at hK
    refine ACallF.dropL (ACallF_intro Tryz.func20 rfl ?_)
    simp only [Tryz.ntmps20]
    repeat' (first | simp only [WL, intF, WM, Int.reduceToNat, reduceCtorEq, WLb, Nat.reduceAdd, Nat.reduceSub, Nat.reduceEqDiff, Bool.not_false, true_and, reduceIte, Bool.false_eq_true, T3, T22, T39, fR fl59_0, cok32, cok33, cok34, cok35, Tryz.results20] | simp (disch := first | omega | (simp only [LN_]; omega)) only [getI] | (with_reducible first | refine andA (hb := ?_) | refine y_load (hK := ?_) | refine y_loadA (hK := ?_) | refine y_storeA (hK := ?_) | refine y_new (hK := fun b => ?_) | refine y_build (hK := ?_) | refine cD (jAloneE he (by omega) (fun bj => ?_)) | refine cD (jRest (ls := la) (p := (0, k)) hsa ⟨(by decide : In64 0), hk⟩ ?_) | refine cD (Blank ?_)) | ((with_reducible first | refine grd_cases (fun h => ?_) (fun h => ?_) | refine condC_split (fun h => ?_) (fun h => ?_)) <;> (try simp only [h]) <;> (try simp only [NR_, NRb] at h)))
    all_goals first
      | exact leafL (sub_cons (sub_cons sub_rfl)) (leT_eq rfl) hK
      | (exfalso; simp_all; done)
      | trace_state
  · rw [if_neg hc] at hK
    have hc1 : 0 < (restF la (0, k)).length := by omega
    have hc2 : blankI ((restF la (0, k)).getD 0 0) = false := by simpa using fun h => hc (.inr h)
    have hp : PlW (0, k) := PlW.of0 hk (hr1 hc1).2.2.1
    have hkb := hr1 hc1
    have hPl := Pl.of_rest hsa hc1
    dsimp only at hkb
    cases hw : wholeF la (-1) 0 true (0, k) with
    | error e =>
      have hen := whole_err hw
      rw [hw] at hK
      refine ACallF.dropL (ACallF_intro Tryz.func20 rfl ?_)
      simp only [Tryz.ntmps20]
      repeat' (first | simp only [WL, intF, WM, Int.reduceToNat, reduceCtorEq, WLb, Nat.reduceAdd, Nat.reduceSub, Nat.reduceLT, Nat.reduceEqDiff, Bool.not_false, true_and, reduceIte, Bool.false_eq_true, T3, T22, T39, fR fl59_0, cok32, cok33, cok34, cok35, cok36, Tryz.results20, hc2] | simp (disch := first | omega | (simp only [LN_]; omega)) only [getI] | (with_reducible first | refine andA (hb := ?_) | refine y_load (hK := ?_) | refine y_loadA (hK := ?_) | refine y_storeA (hK := ?_) | refine y_new (hK := fun b => ?_) | refine y_build (hK := ?_) | refine cD (jAloneE he (by omega) (fun bj => ?_)) | refine cD (jRest (ls := la) (p := (0, k)) hsa ⟨(by decide : In64 0), hk⟩ ?_) | refine callD_mk (jRunEr (bj := bj) hw hsa (by decide) hp (fun x' y' op' l' τ' hJ' => ?_)) | refine cD (Blank ?_)) | ((with_reducible first | refine grd_cases (fun h => ?_) (fun h => ?_) | refine condC_split (fun h => ?_) (fun h => ?_)) <;> (try simp only [h]) <;> (try simp only [NR_, NRb] at h)) | omega)
      all_goals first
        | contradiction
        | exact leafL (sub_cons (sub_cons (sub_cons hJ'.sub))) (leT_eq rfl) hK
        | trace_state
    | ok r =>
      obtain ⟨ev, e, t⟩ := r
      have hg := nodeF_good hsa 200 0 (0, k) ev e t hPl hw
      have hpe : In64 e.1 ∧ In64 e.2 := Pl.in64 hsa hg.2.1
      have hql := pastF_le (p := e) hsa
      have hqb : 0 < (pastF la e).2.length → 0 ≤ (pastF la e).1.2 ∧ (pastF la e).1.2 ≤ 4000 := fun h => by
        have h2 := past_rest hsa h
        have h3 := restF_some (p := (pastF la e).1) hsa (by rw [h2]; exact h)
        exact ⟨h3.2.2.1, by omega⟩
      rw [hw] at hK
      dsimp only at hK
      have hkT : ∀ h : colonB k (pastF la e).1 (pastF la e).2 = true, K (.ret (.tup [I (pastF la e).1.2, B true])) σ := fun h => by rw [if_pos h] at hK; exact hK
      have hkF : ∀ h : colonB k (pastF la e).1 (pastF la e).2 = false, K (.ret (.tup [I 0, B false])) σ := fun h => by rw [if_neg (by rw [h]; exact Bool.false_ne_true)] at hK; exact hK
      clear hK
      refine ACallF.dropL (ACallF_intro Tryz.func20 rfl ?_)
      simp only [Tryz.ntmps20]
      repeat' (first | simp only [WL, intF, WM, Int.reduceToNat, reduceCtorEq, WLb, Nat.reduceAdd, Nat.reduceSub, Nat.reduceLT, Nat.reduceEqDiff, Bool.not_true, Bool.not_false, true_and, reduceIte, Bool.false_eq_true, T3, T22, T39, fR fl59_0, fR fl67_1, cok32, cok33, cok34, cok35, cok36, Tryz.results20, hc2] | simp (disch := first | omega | (simp only [LN_]; omega)) only [wrap_id, getI] | (with_reducible first | refine andA (hb := ?_) | refine y_load (hK := ?_) | refine y_loadA (hK := ?_) | refine y_storeA (hK := ?_) | refine y_new (hK := fun b => ?_) | refine y_build (hK := ?_) | refine cD (jAloneE he (by omega) (fun bj => ?_)) | refine cD (jRest (ls := la) (p := (0, k)) hsa ⟨(by decide : In64 0), hk⟩ ?_) | refine callD_mk (jRunOk (bj := bj) hw hsa (by decide) hp (fun x' y' τ' hJ' => ?_)) | refine cD (jPast (ls := la) (p := e) hsa hpe ?_) | refine cD (Blank ?_)) | ((with_reducible first | refine grd_cases (fun h => ?_) (fun h => ?_) | refine condC_split (fun h => ?_) (fun h => ?_)) <;> (try simp only [h]) <;> (try simp only [NR_, NRb] at h)) | omega)
      all_goals first
        | exact leafL (sub_cons (sub_cons (sub_cons (sub_cons hJ'.sub)))) (leT_eq rfl) (hkT (colon_t (by omega) (by assumption) (by first | exact .inr (by assumption) | exact .inl (by omega)) (by omega)))
        | exact leafL (sub_cons (sub_cons (sub_cons (sub_cons hJ'.sub)))) (leT_eq rfl) (hkF (colon_f (by first | (exact .inl (by omega)) | (exact .inr (.inl (by assumption))) | (exact .inr (.inr (.inl ⟨by omega, by assumption⟩))) | (exact .inr (.inr (.inr (by omega)))))))
        | (exfalso; omega)
        | exact absurd trivial (by assumption)
        | trace_state
end Go.Proofs.YtgoofaeifbfblaaGreat
/-
  Chapter 13: words between signs: plain facts.
-/


namespace Go.Proofs.YtgoofaeifbfblaaGreat
open Go.Abs
set_option linter.unusedVariables false
set_option linter.unusedSimpArgs false
abbrev wordE (w : List Int) : EvV := ⟨7, textI w, .empty, .empty, 1, false⟩
set_option maxHeartbeats 4000000 in
theorem must_of {ls : List Ln} {n : Int} {p q : Int × Int} (h : onF ls n p = some (some q)) : mustF ls n p = .ok q := by unfold mustF; rw [h]
set_option maxHeartbeats 4000000 in
theorem Tx.rest {ls : List Ln} {q : Int × Int} {c : Int} {t : List Int} (h : Tx ls q (c :: t)) (hc : ¬ c = 10) : restF ls q = c :: (cutL t).1 := by
  have := h.1.2.2.2.2.2
  rw [cut_c hc] at this
  exact this
set_option maxHeartbeats 4000000 in
theorem Tx.is {ls : List Ln} {q : Int × Int} {c x : Int} {t : List Int} (h : Tx ls q (c :: t)) (hc : ¬ c = 10) : isF ls q x = (c == x) := by
  unfold isF headF
  rw [h.rest hc]
  simp
set_option maxHeartbeats 4000000 in
theorem Tx.loose_f {ls : List Ln} {q : Int × Int} {c x : Int} {t : List Int} (h : Tx ls q (c :: t)) (hc : ¬ c = 10) (hx : ¬ c = x) : looseF ls q x = false := by
  unfold looseF headF
  rw [h.rest hc, List.getD_cons_zero, beq_eq_false_iff_ne.2 hx]
  simp
set_option maxHeartbeats 4000000 in
theorem Tx.colon {ls : List Ln} {q : Int × Int} {t : List Int} (h : Tx ls q (58 :: 32 :: t)) : looseF ls q 58 = true := by
  unfold looseF headF
  rw [h.rest (by decide), cut_c (by decide)]
  unfold safeAt
  rw [show List.getD (58 :: 32 :: (cutL t).1) 1 0 = (32 : Int) from rfl, show safeI 32 true = false by decide, Bool.and_false]
  simp
set_option maxHeartbeats 4000000 in
theorem Tx.next {ls : List Ln} {q : Int × Int} {c : Int} {t : List Int} (h : Tx ls q (c :: t)) (hc : ¬ c = 10) : Tx ls (q.1, q.2 + 1) t := h.step (a := [c]) (fun x hx => by simp at hx; omega)
set_option maxHeartbeats 4000000 in
theorem coll_node {ls : List Ln} {n d c : Int} {bk : Bool} {k : Nat} {N : Nat → Int × Int → NodeR} {q : Int × Int} {t : List Int} (h : Tx ls q (c :: t)) (hc : c = 91 ∨ c = 123) :
    nodeS ls n d bk N k q = match collF ls n d k N q c tr0 with
      | .error e => .error e
      | .ok (ev, e) => .ok (ev, e, true) := by
  have h10 : ¬ c = 10 := by omega
  have hB : Beg c := ⟨by rcases hc with h | h <;> rw [h] <;> decide, by omega, h10⟩
  have hr := h.rest h10
  have hh : ∀ x, headF (c :: (cutL t).1) x = (c == x) := fun x => by unfold headF; simp
  have hon : onF ls n q = some (some q) := by
    have := (here_on (n := n) (b := []) h (fun c hc => by simp at hc) hB).1
    rw [this]; simp
  have htr : traitsF ls n q = .ok (tr0, q, true) := by
    unfold traitsF
    rw [hon]
    dsimp only
    exact traitsG_end (traitF_no (by rw [hr, hh]; exact beq_eq_false_iff_ne.2 (by omega)) (by rw [hr, hh]; exact beq_eq_false_iff_ne.2 (by omega)))
  unfold nodeS
  rw [htr]
  dsimp only
  rw [if_pos rfl, hr]
  unfold bodyF
  simp only [hh, List.getD_cons_zero]
  rcases hc with h | h <;> subst h <;> simp <;> generalize collF _ _ _ _ _ _ _ _ = R <;> cases R <;> rfl
set_option maxHeartbeats 4000000 in
theorem word_T {ls : List Ln} {n d : Int} {bk : Bool} {N : Nat → Int × Int → NodeR} {k : Nat} {q : Int × Int} {w t : List Int} {g : Nat} {c : Int} (hn : n < 1) (hk : (bk && decide (k = 0)) = false) (hw : Lets w) (h0 : 0 < w.length) (hs : flowI c = true ∨ c = 58 ∧ ∃ t', t = 32 :: t') (h : Tx ls q (w ++ (gapT g ++ (c :: t)))) :
    nodeS ls n d bk N k q = .ok ([wordE w], (q.1, q.2 + (w.length : Nat)), false) ∧ Tx ls (q.1, q.2 + (w.length : Nat)) (gapT g ++ (c :: t)) := by
  have hw10 : ∀ c ∈ w, ¬ c = 10 := fun c hc => by have := hw c hc; omega
  refine ⟨?_, h.step hw10⟩
  have hB : Beg c := by
    rcases hs with h | ⟨rfl, -⟩
    · unfold flowI at h
      have h : c = 44 ∨ c = 91 ∨ c = 93 ∨ c = 123 ∨ c = 125 := by simpa using h
      exact ⟨by unfold blankI; simp; omega, by omega, by omega⟩
    · exact ⟨by decide, by decide, by decide⟩
  have hstop : ∀ b : List Int, Stop (!(bk && decide (k = 0))) b (c :: (cutL t).1) := fun b => by
    rw [hk]
    refine .inr ⟨c, _, rfl, ?_⟩
    rcases hs with h | ⟨rfl, t', rfl⟩
    · exact .inl ⟨rfl, h⟩
    · refine .inr (.inl ⟨rfl, ?_⟩)
      rw [cut_c (by decide)]
      unfold safeAt
      rw [show List.getD (58 :: 32 :: (cutL t').1) 1 0 = (32 : Int) from rfl, show safeI 32 (!false) = false by decide, Bool.and_false]
  have here : ∀ b : List Int, Blks b → Tx ls q (w ++ (b ++ (c :: t))) → nodeS ls n d bk N k q = .ok ([wordE w], (q.1, q.2 + (w.length : Nat)), false) := fun b hb hT => by
    have h1 := hT.1
    rw [cut_app hw10, cut_app (fun c hc e => by have := hb c hc; rw [e] at this; cases this), cut_c hB.2.2] at h1
    exact word_node h1 hw h0 hb (hstop b) (.inl ⟨_, _, rfl, hB.1⟩)
  match g, h with
  | 0, h => exact here [] (fun c hc => by simp at hc) h
  | 1, h => exact here [32] (fun c hc => by simp at hc; subst hc; rfl) h
  | 2, h =>
    have hl32 : ¬ ((cutL (c :: t)).1.getD 0 0 = 32) := by rw [cut_c hB.2.2, List.getD_cons_zero]; exact hB.n32
    have e : cutL (w ++ (gapT 2 ++ (c :: t))) = (w, (32 :: (cutL (c :: t)).1) :: (cutL (c :: t)).2) := by
      rw [cut_app hw10]
      show (w ++ (cutL (10 :: 32 :: c :: t)).1, (cutL (10 :: 32 :: c :: t)).2) = _
      rw [cut_nl, cut_c (c := 32) (by decide), List.append_nil]
    have hL := h.line (l := 32 :: (cutL (c :: t)).1) (m := (cutL (c :: t)).2) (by rw [e])
    have h1 := h.1
    rw [e] at h1
    obtain ⟨l1, l2, l3, l4⟩ := hL
    rw [show (32 : Int) :: (cutL (c :: t)).1 = List.replicate 1 32 ++ (cutL (c :: t)).1 from rfl, lineOf_in (.inr hl32), cut_c hB.2.2] at l3
    refine word_node (b := []) (r := []) (by rw [List.append_nil, List.append_nil]; exact h1) hw h0 (fun c hc => by simp at hc) (.inl rfl) (.inr ?_)
    have hnx : nextL ls ls.length (q.1 + 1) = q.1 + 1 := nextL_end (by
      rintro ⟨-, h2⟩
      rw [l3, List.all_cons, hB.1] at h2
      cases h2) _
    unfold furtherF
    rw [hnx, if_neg (by
      rintro (h2 | h2)
      · rw [over_no l2 l3 (.inl (by decide))] at h2; cases h2
      · rw [l3] at h2; dsimp only at h2; omega)]
    dsimp only
    rw [past_line l1 l2 l3 (by decide), At.past (b := []) (at_mk l1 l2 l3 (by decide)) (fun c hc => by simp at hc) (.inr (by rw [List.getD_cons_zero]; exact hB.1))]
    dsimp only
    have := end_stop (b := []) (fun c hc => by simp at hc) (hstop [])
    rw [List.nil_append] at this
    rw [this]; simp
  | 3, h =>
    have h1 := h.1
    rw [cut_app hw10, show gapT 3 ++ (c :: t) = [32] ++ ([35, 32, 99] ++ (10 :: 10 :: 32 :: 32 :: c :: t)) from rfl, cut_app (a := [32]) (by simp), cut_app (a := [35, 32, 99]) (by simp), cut_nl, List.append_nil] at h1
    exact word_node h1 hw h0 (b := [32]) (fun c hc => by simp at hc; subst hc; rfl) (.inr ⟨35, _, rfl, .inr (.inr ⟨rfl, by decide⟩)⟩) (.inl ⟨_, _, rfl, by decide⟩)
  | g + 4, h => exact here [9] (fun c hc => by simp at hc; subst hc; rfl) h
set_option maxHeartbeats 4000000 in
theorem Tx.one {T : List Int} (h : ∀ c ∈ T, ¬ c = 10) : Tx (oneL T) (0, 0) T := by
  have e := cut_app (t := []) h
  rw [List.append_nil] at e
  have e1 : (cutL T).1 = T := by rw [e]; exact List.append_nil _
  have e2 : (cutL T).2 = [] := by rw [e]; rfl
  exact ⟨by rw [e1]; exact at_mk (Int.le_refl 0) (by simp) rfl (Int.le_refl 0), by rw [e2]; rfl⟩
/-! ### Long keys -/
abbrev xs (n : Nat) : List Int := List.replicate n 120
set_option maxHeartbeats 4000000 in
theorem xs_let (n : Nat) : Lets (xs n) := fun c hc => by rw [(List.mem_replicate.1 hc).2]; decide
abbrev longT (a b : Int) (n : Nat) : List Int := a :: (xs n ++ [58, 32, 98, b])
set_option maxHeartbeats 4000000 in
theorem long_10 {a b : Int} {n : Nat} (ha : ¬ a = 10) (hb : ¬ b = 10) : ∀ c ∈ longT a b n, ¬ c = 10 := fun c hc => by
  rcases List.mem_cons.1 hc with h | h
  · omega
  · rcases List.mem_append.1 h with h | h
    · rw [(List.mem_replicate.1 h).2]; decide
    · simp at h; omega
set_option maxHeartbeats 4000000 in
theorem long_tail {ls : List Ln} {m d b : Int} {N : Nat → Int × Int → NodeR} {k : Nat} {q : Int × Int} (hm : m < 1) (hb : b = 93 ∨ b = 125) (h : Tx ls q [58, 32, 98, b]) :
    mustF ls m (q.1, q.2 + 1) = .ok (q.1, q.2 + 2) ∧ Tx ls (q.1, q.2 + 2) [98, b] ∧ nodeS ls m d false N k (q.1, q.2 + 2) = .ok ([wordE [98]], (q.1, q.2 + 3), false) ∧ mustF ls m (q.1, q.2 + 3) = .ok (q.1, q.2 + 3) ∧ Tx ls (q.1, q.2 + 3) [b] := by
  have h10 : ¬ b = 10 := by omega
  have hBb : Beg b := ⟨by rcases hb with h | h <;> rw [h] <;> decide, by omega, h10⟩
  have hB98 : Beg 98 := ⟨by decide, by decide, by decide⟩
  have h1 := h.next (by decide)
  obtain ⟨a1, a2⟩ := here_on (n := m) (b := [32]) (c := 98) (t := [b]) h1 (fun c hc => by simp at hc; subst hc; rfl) hB98
  dsimp only at a1 a2
  have e2 : q.2 + 1 + (([32] : List Int).length : Nat) = q.2 + 2 := by simp; omega
  rw [e2] at a1 a2
  obtain ⟨w1, w2⟩ := word_T (n := m) (d := d) (bk := false) (N := N) (k := k) (g := 0) (w := [98]) (t := []) hm rfl (fun c hc => by simp at hc; subst hc; decide) (by decide) (.inl (by rcases hb with h | h <;> rw [h] <;> decide)) a2
  dsimp only at w1 w2
  have e3 : q.2 + 2 + (([98] : List Int).length : Nat) = q.2 + 3 := by simp; omega
  rw [e3] at w1 w2
  have w3 : Tx ls (q.1, q.2 + 3) [b] := w2
  obtain ⟨b1, b2⟩ := here_on (n := m) (b := []) (t := []) w3 (fun c hc => by simp at hc) hBb
  refine ⟨must_of a1, a2, w1, ?_, w3⟩
  have := must_of b1
  rw [this]; simp
set_option maxHeartbeats 4000000 in
theorem long_head {ls : List Ln} {m d a b : Int} {N : Nat → Int × Int → NodeR} {n k : Nat} (hm : m < 1) (hn : 0 < n) (ha : ¬ a = 10) (h : Tx ls (0, 0) (longT a b n)) :
    mustF ls m (0, 1) = .ok (0, 1) ∧ isF ls (0, 1) 93 = false ∧ isF ls (0, 1) 125 = false ∧ looseF ls (0, 1) 63 = false ∧ nodeS ls m d false N k (0, 1) = .ok ([wordE (xs n)], (0, 1 + (n : Int)), false) ∧ mustF ls m (0, 1 + (n : Int)) = .ok (0, 1 + (n : Int)) ∧ Tx ls (0, 1 + (n : Int)) [58, 32, 98, b] := by
  have h1 : Tx ls (0, 1) (xs n ++ [58, 32, 98, b]) := h.next ha
  obtain ⟨n, rfl⟩ : ∃ j, n = j + 1 := ⟨n - 1, by omega⟩
  have h2 : Tx ls (0, 1) (120 :: (xs n ++ [58, 32, 98, b])) := by rw [xs, List.replicate_succ] at h1; exact h1
  have hB : Beg 120 := ⟨by decide, by decide, by decide⟩
  obtain ⟨a1, -⟩ := here_on (n := m) (b := []) h2 (fun c hc => by simp at hc) hB
  obtain ⟨w1, w2⟩ := word_T (n := m) (d := d) (bk := false) (N := N) (k := k) (g := 0) (c := 58) (t := [32, 98, b]) hm rfl (xs_let (n + 1)) (by simp) (.inr ⟨rfl, _, rfl⟩) h1
  have el : ((xs (n + 1)).length : Nat) = n + 1 := List.length_replicate
  rw [el] at w1 w2
  have w3 : Tx ls (0, 1 + ((n + 1 : Nat) : Int)) [58, 32, 98, b] := w2
  obtain ⟨b1, -⟩ := here_on (n := m) (b := []) w3 (fun c hc => by simp at hc) ⟨by decide, by decide, by decide⟩
  refine ⟨?_, by rw [h2.is (by decide)]; rfl, by rw [h2.is (by decide)]; rfl, h2.loose_f (by decide) (by decide), w1, ?_, w3⟩
  · have := must_of a1
    rw [this]; simp
  · have := must_of b1
    rw [this]; simp
set_option maxHeartbeats 4000000 in
theorem room_zero {k : Nat} (h : k < 200) : roomF 0 k 0 = true := room_t (by omega) (Int.le_refl 0)
set_option maxHeartbeats 4000000 in
theorem depth_word (w : List Int) : depthF [wordE w] = 0 := rfl
set_option maxHeartbeats 4000000 in
theorem long_seq {n : Nat} (hn : 0 < n) : (n ≤ 1024 → ∃ ev e, wholeF (oneL (longT 91 93 n)) (-1) 0 false (0, 0) = .ok (ev, e, true) ∧ ev.length = 6) ∧ (1024 < n → wholeF (oneL (longT 91 93 n)) (-1) 0 false (0, 0) = .error 2) := by
  have hT := Tx.one (long_10 (a := 91) (b := 93) (n := n) (by decide) (by decide))
  unfold wholeF
  rw [show nodeF (oneL (longT 91 93 n)) (-1) 0 false 200 0 (0, 0) = nodeS _ _ _ _ (nodeF (oneL (longT 91 93 n)) (-1) 0 false 199) 0 (0, 0) from rfl, coll_node hT (.inl rfl)]
  unfold collF
  rw [room_zero (by decide), if_neg (by decide)]
  simp only [show ¬ (91 : Int) = 123 by decide, if_false]
  have hN : ∀ k, ∃ N, nodeF (oneL (longT 91 93 n)) (-1) 0 false 199 k = nodeS (oneL (longT 91 93 n)) (-1) 0 false N k := fun k => node_any
  generalize nodeF (oneL (longT 91 93 n)) (-1) 0 false 199 = NN at *
  obtain ⟨N1, hN1⟩ := hN (0 + 1)
  obtain ⟨N2, hN2⟩ := hN (0 + 2)
  obtain ⟨h1, h2, -, h3, h4, h5, h6⟩ := long_head (m := -1) (d := 0) (N := N1) (k := 0 + 1) (by decide) hn (by decide) hT
  obtain ⟨t1, t2, t3, t4, t5⟩ := long_tail (m := -1) (d := 0) (N := N2) (k := 0 + 2) (by decide) (.inl rfl) h6
  dsimp only at t1 t2 t3 t4 t5
  rw [show (((0 : Int), (0 : Int)).1, ((0 : Int), (0 : Int)).2 + 1) = ((0 : Int), (1 : Int)) from rfl, h1]
  dsimp only
  rw [entriesF, if_neg (by rw [h2]; exact Bool.false_ne_true)]
  unfold itemF
  rw [h3, if_neg Bool.false_ne_true, hN1, h4]
  dsimp only
  rw [h5]
  dsimp only
  have hsg : signF (oneL (longT 91 93 n)) (0, 1 + (n : Int)) ((0, 1 + (n : Int)), false) = true := by unfold signF; rw [h6.colon]; rfl
  refine ⟨fun h => ?_, fun h => ?_⟩
  · have hk : keyB (oneL (longT 91 93 n)) (0, 1) (0, 1 + (n : Int)) ((0, 1 + (n : Int)), false) = true := by
      unfold keyB
      dsimp only
      rw [hsg, decide_eq_true (by omega : 1 + (n : Int) - 1 ≤ 1024)]; rfl
    rw [hk, if_neg (by decide), depth_word, room_zero (by decide), if_neg (by decide)]
    unfold keyedF
    dsimp only
    unfold valueF
    dsimp only
    rw [h5]
    dsimp only
    rw [hsg, if_neg (by decide), t1]
    dsimp only
    rw [if_neg (by rw [t2.is (by decide), t2.is (by decide)]; decide), show NN (0 + 1 + 1) = NN (0 + 2) from rfl, hN2, t3]
    unfold wrapF
    dsimp only
    rw [t4]
    dsimp only
    rw [if_pos (by rw [t5.is (by decide)]; rfl), if_pos (by rw [t5.is (by decide)]; rfl)]
    exact ⟨_, _, rfl, rfl⟩
  · have hk : keyB (oneL (longT 91 93 n)) (0, 1) (0, 1 + (n : Int)) ((0, 1 + (n : Int)), false) = false := by
      unfold keyB
      dsimp only
      rw [decide_eq_false (by omega : ¬ 1 + (n : Int) - 1 ≤ 1024)]; simp
    rw [hk, if_pos rfl]
    dsimp only
    rw [h5]
    dsimp only
    rw [if_pos (by rw [h6.is (by decide)]; rfl), if_neg (by rw [h6.is (by decide)]; decide)]
set_option maxHeartbeats 4000000 in
theorem long_map {n : Nat} (hn : 0 < n) : ∃ ev e, wholeF (oneL (longT 123 125 n)) (-1) 0 false (0, 0) = .ok (ev, e, true) := by
  have hT := Tx.one (long_10 (a := 123) (b := 125) (n := n) (by decide) (by decide))
  unfold wholeF
  rw [show nodeF (oneL (longT 123 125 n)) (-1) 0 false 200 0 (0, 0) = nodeS _ _ _ _ (nodeF (oneL (longT 123 125 n)) (-1) 0 false 199) 0 (0, 0) from rfl, coll_node hT (.inr rfl)]
  unfold collF
  rw [room_zero (by decide), if_neg (by decide)]
  simp only [if_pos trivial, if_true]
  have hN : ∀ k, ∃ N, nodeF (oneL (longT 123 125 n)) (-1) 0 false 199 k = nodeS (oneL (longT 123 125 n)) (-1) 0 false N k := fun k => node_any
  generalize nodeF (oneL (longT 123 125 n)) (-1) 0 false 199 = NN at *
  obtain ⟨N1, hN1⟩ := hN (0 + 1)
  obtain ⟨h1, -, h2, h3, h4, h5, h6⟩ := long_head (m := -1) (d := 0) (N := N1) (k := 0 + 1) (by decide) hn (by decide) hT
  obtain ⟨t1, t2, t3, t4, t5⟩ := long_tail (m := -1) (d := 0) (N := N1) (k := 0 + 1) (by decide) (.inr rfl) h6
  dsimp only at t1 t2 t3 t4 t5
  rw [show (((0 : Int), (0 : Int)).1, ((0 : Int), (0 : Int)).2 + 1) = ((0 : Int), (1 : Int)) from rfl, h1]
  dsimp only
  rw [entriesF, if_neg (by rw [h2]; exact Bool.false_ne_true)]
  unfold pairF
  rw [h3, if_neg Bool.false_ne_true, hN1, h4]
  have hsg : signF (oneL (longT 123 125 n)) (0, 1 + (n : Int)) ((0, 1 + (n : Int)), false) = true := by unfold signF; rw [h6.colon]; rfl
  unfold keyedF
  dsimp only
  unfold valueF
  dsimp only
  rw [h5]
  dsimp only
  rw [hsg, if_neg (by decide), t1]
  dsimp only
  rw [if_neg (by rw [t2.is (by decide), t2.is (by decide)]; decide), t3]
  dsimp only
  rw [t4]
  dsimp only
  rw [if_pos (by rw [t5.is (by decide)]; rfl), if_pos (by rw [t5.is (by decide)]; rfl)]
  exact ⟨_, _, rfl⟩
abbrev keyT (n : Nat) : List Int := xs n ++ [58, 32, 98]
set_option maxHeartbeats 4000000 in
theorem long_key {n : Nat} (hn : 0 < n) : keyF (aloneF (oneL (keyT n)) 0) 0 = if n ≤ 1024 then some (n : Int) else none := by
  have hal : aloneF (oneL (keyT n)) 0 = oneL (keyT n) := rfl
  have h10 : ∀ c ∈ keyT n, ¬ c = 10 := fun c hc => by
    rcases List.mem_append.1 hc with h | h
    · rw [(List.mem_replicate.1 h).2]; decide
    · simp at h; omega
  have hT := Tx.one h10
  have hA : At (oneL (keyT n)) (0, 0) (xs n ++ ([] ++ [58, 32, 98])) := at_mk (Int.le_refl 0) (by simp) rfl (Int.le_refl 0)
  have hx := xs_let n
  have hlen : (xs n).length = n := List.length_replicate
  have hr : restF (oneL (keyT n)) (0, 0) = xs n ++ [58, 32, 98] := hA.2.2.2.2.2
  have hS := hA.step
  dsimp only at hS
  rw [hlen] at hS
  have hw : wholeF (oneL (keyT n)) (-1) 0 true (0, 0) = .ok ([wordE (xs n)], (0, 0 + (n : Int)), false) := by
    unfold wholeF
    rw [show nodeF (oneL (keyT n)) (-1) 0 true 200 0 (0, 0) = nodeS _ _ _ _ (nodeF (oneL (keyT n)) (-1) 0 true 199) 0 (0, 0) from rfl]
    have := word_node (n := -1) (d := 0) (bk := true) (N := nodeF (oneL (keyT n)) (-1) 0 true 199) (k := 0) hA hx (by rw [hlen]; exact hn) (fun c hc => by simp at hc) (.inr ⟨58, _, rfl, .inr (.inl ⟨rfl, by decide⟩)⟩) (.inl ⟨_, _, rfl, by decide⟩)
    rw [this, hlen]
  unfold keyF
  rw [hal, if_neg (by
    rw [hr]
    rintro (h | h)
    · rw [List.length_append] at h; simp at h
    · obtain ⟨n, rfl⟩ : ∃ j, n = j + 1 := ⟨n - 1, by omega⟩
      rw [xs, List.replicate_succ] at h
      cases h), hw]
  dsimp only
  rw [hS.past (fun c hc => by simp at hc) (.inr (by decide))]
  dsimp only
  by_cases h : n ≤ 1024
  · rw [if_pos h, colon_t (by decide) rfl (.inr (by decide)) (by dsimp only; simp; omega), if_pos rfl]
    congr 1
    simp
  · rw [if_neg h, colon_f (.inr (.inr (.inr (by dsimp only; simp; omega)))), if_neg (by decide)]
end Go.Proofs.YtgoofaeifbfblaaGreat
