/-
  Texts If, Ig, Ip, Ir, Kx, Iu, Iv, Iw, Kb, Iq, Is, Iy, Ky, one behind the other.
-/
import Derived.Test.YthkabaiamcjdbaaGreatG27
import Derived.Test.YthkabaiamcjdbaaGreatG28
import Derived.Test.YthkabaiamcjdbaaGreatG29
set_option linter.unusedVariables false
set_option linter.unusedSimpArgs false
set_option maxHeartbeats 16000000
/-
 Walks: chapter 1, the form of texts of small bytes.
-/

namespace Go.Proofs.YthkabaiamcjdbaaGreat
open Go.Abs
variable {κ : Ctx} {σ : List Res} {K : Ret → List Res → Prop} {o o' : Option (Option (Nat × Nat))}
set_option maxRecDepth 4000 in
theorem rFormS {b : List Int} (hb : Asc b) (h1 : b.length ≤ 1) (hK : K (.ret (.tup [I 1, I 0])) σ) : ACallF κ Tryz.prog 36 [SU o b] σ K := by
 have hbl := hb.1
 have hn3 : ¬ ((b.length : Int) > 3) := by omega
 have hn1 : ¬ ((b.length : Int) > 1) := by omega
 refine ACallF.dropL (ACallF_intro Tryz.func36 rfl ?_)
 simp only [Tryz.ntmps36]
 repeat' (first | simp only [WL, intF, WM, reduceCtorEq, WLb, Nat.reduceAdd, Nat.reduceSub, true_and, reduceIte, Bool.false_eq_true, T63, cok53, Tryz.results36, decide_eq_false hn3, decide_eq_false hn1] | with_reducible refine y_bs (hK := ?_) | ( refine callD_mk (ACallF.argsS (ys := [SU o b, SU none [0, 0, 254, 255]]) ⟨leS_rfl, leS_le le_ro, trivial⟩ (rIsNo hb (by decide) (by decide) ?_))) | ( refine callD_mk (ACallF.argsS (ys := [SU o b, SU none [255, 254, 0, 0]]) ⟨leS_rfl, leS_le le_ro, trivial⟩ (rIsNo hb (by decide) (by decide) ?_))) | ( refine callD_mk (ACallF.argsS (ys := [SU o b, SU none [254, 255]]) ⟨leS_rfl, leS_le le_ro, trivial⟩ (rIsNo hb (by decide) (by decide) ?_))) | ( refine callD_mk (ACallF.argsS (ys := [SU o b, SU none [255, 254]]) ⟨leS_rfl, leS_le le_ro, trivial⟩ (rIsNo hb (by decide) (by decide) ?_))) | ( refine callD_mk (ACallF.argsS (ys := [SU o b, SU none [239, 187, 191]]) ⟨leS_rfl, leS_le le_ro, trivial⟩ (rIsNo hb (by decide) (by decide) ?_))))
 all_goals first
  | exact leafL sub_rfl (leT_eq rfl) hK
  | (exfalso; omega)
theorem rForm {b : List Int} (hb : Asc b) (hK : K (.ret (.tup [I 1, I 0])) σ) : ACallF κ Tryz.prog 36 [SU o b] σ K := by
 rcases Nat.lt_or_ge 1 b.length with h1 | h1
 ·rcases Nat.lt_or_ge 3 b.length with h3 | h3
  ·exact rFormL hb h3 hK
  ·exact rFormM hb h1 h3 hK
 ·exact rFormS hb h1 hK
theorem rPoints {b : List Int} (hb : Asc b) (hK : K (.ret (.tup [SI none b, I 0])) σ) : ACallF κ Tryz.prog 26 [SU o b] σ K := by
 have hbl := hb.1
 refine ACallF.dropL (ACallF_introA Tryz.func26 rfl ?_)
 simp only [Tryz.ntmps26]
 repeat' (first | (with_reducible first | refine AW_block ?_ | refine AW_seqA (AW_seqA ?_) | refine AW_seq ?_ | refine AW_runReg ?_ | refine AW_runCond ?_ | refine AW_runRet ?_) | simp only [WL, intF, WM, Int.reduceToNat, reduceCtorEq, WLb, Nat.reduceAdd, Nat.reduceSub, Nat.reduceLT, Bool.not_true, beq_self_eq_true, true_and, T5, T63, cok36, cok37, Tryz.results26] | (with_reducible first | refine andA (hb := ?_) | refine cD (rForm ?_ ?_) | refine cD (rSmall ?_ ?_)) | ((with_reducible first | refine grd_cases (fun h => ?_) (fun h => ?_) | refine condC_split (fun h => ?_) (fun h => ?_)) <;> (try simp only [h]) <;> (try simp only [NR_, NRb] at h)) | omega)
 exact leafL sub_rfl (leT_eq rfl) hK
theorem lLines {s : ByteArray} (hb : Asc (bytesI s)) (hK : K (.ret (SL none (readR (bytesI s)).1)) σ) : ACallF κ Tryz.prog 13 [.raw (.string s)] σ K := by
 have hbl := hb.1
 have hsz := bytesI_len s
 refine ACallF.dropL (ACallF_intro Tryz.func13 rfl ?_)
 simp only [Tryz.ntmps13]
 repeat' (first | simp only [WL, WM, Nat.reduceAdd, Nat.reduceSub, Nat.reduceLT, true_and, convC_str, cok26, cok27, Tryz.results13] | (with_reducible first | refine y_str ?_ ?_ | refine cD (rPoints ?_ ?_) | refine cD (rLines ?_ ?_)) | omega | (refine maxLen_ok ?_; (first | omega | (simp only [LN_]; omega))))
 exact leafL sub_rfl (leT_eq rfl) hK
end Go.Proofs.YthkabaiamcjdbaaGreat
/-
 Chapter 13: nodes on one line, plain facts.
-/

namespace Go.Proofs.YthkabaiamcjdbaaGreat
open Go.Abs
abbrev oneL (T : List Int) : List Ln := [(0, T)]
theorem one_small {T : List Int} (h : T.length ≤ 2000) : Small (oneL T) := ⟨by simp, fun x hx => by
 obtain rfl : x = (0, T) := by simpa using hx
 exact ⟨h, Int.le_refl _, by show (0 : Int) ≤ 2000; decide⟩⟩
theorem blN_0 {l : List Int} (h : blankI (l.getD 0 0) = false) : blN l = 0 := by
 cases l with
 | nil => rfl
 | cons c l =>
  unfold blN
  rw [List.takeWhile_cons, show blankI c = false from h]; rfl
end Go.Proofs.YthkabaiamcjdbaaGreat
/-
 Walks: chapter 13's laws: the example of the document.
-/



namespace Go.Proofs.YthkabaiamcjdbaaGreat
open Go.Abs
variable {κ : Ctx} {σ : List Res} {K : Ret → List Res → Prop} {o o' : Option (Option (Nat × Nat))}
abbrev al4T : List Int := [97, 58, 32, 49, 10, 98, 58, 10, 45, 32, 99]
abbrev al4L : List Ln := [(0, [97, 58, 32, 49]), (0, [98, 58]), (0, [45, 32, 99])]
abbrev sc4 (l : List Int) : EvV := ⟨7, textI l, .empty, .empty, 1, false⟩
abbrev al4E : List EvV := [openP 5 tp0, sc4 [97], sc4 [49], sc4 [98], openP 3 tp0, sc4 [99], shutE 4, shutE 6]
set_option maxRecDepth 4000 in
theorem alive4_doc : docP al4L 0 0 = .ok (al4E, 3) := by kernel_rfl
set_option maxRecDepth 4000 in
theorem alive4_lines : (readR al4T).1 = al4L := by decide
set_option maxRecDepth 4000 in
theorem al4_small : Small al4L := ⟨by decide, by decide⟩
set_option maxRecDepth 4000 in
theorem lNum4 {e : Int} (hK : K (.ret (I e)) σ) : ACallF κ Tryz.prog 14 [I e] σ K := by
 refine ACallF.dropL (ACallF_intro Tryz.func14 rfl ?_)
 simp only [Tryz.ntmps14]
 repeat' (first | simp only [WL, WM, Nat.reduceAdd, Nat.reduceSub, true_and, Tryz.results14])
 exact leafL sub_rfl (leT_eq rfl) hK
set_option maxRecDepth 4000 in
theorem lAlive4 (hK : K (.ret (B true)) σ) : ACallF κ Tryz.prog 10 [] σ K := by
 have hA : Asc (bytesI { data := #[97, 58, 32, 49, 10, 98, 58, 10, 45, 32, 99] }) := ⟨by decide, by decide⟩
 have hb : bytesI { data := #[97, 58, 32, 49, 10, 98, 58, 10, 45, 32, 99] } = al4T := by decide
 refine ACallF.dropL (ACallF_intro Tryz.func10 rfl ?_)
 simp only [Tryz.ntmps10]
 repeat' (first | ( with_reducible refine y_idx_row (hK := ?_)) | simp only [WL, intF, WM, Int.reduceToNat, reduceCtorEq, WLb, Nat.reduceAdd, Nat.reduceSub, Nat.reduceLT, Nat.reduceEqDiff, Bool.not_true, beq_self_eq_true, true_and, reduceIte, Bool.false_eq_true, T3, T24, fR fl26_0, cok12, cok13, cok14, Tryz.results10, hb, alive4_lines] | (with_reducible first | refine andA (hb := ?_) | refine y_load (hK := ?_) | refine cD (lLines hA ?_) | refine callD_mk (zNodeOk0 (ls := al4L) alive4_doc al4_small (by decide) (by decide) (fun rb rc cs hrc => ?_)) | refine cD (lNum4 ?_)) | ((with_reducible first | refine grd_cases (fun h => ?_) (fun h => ?_) | refine condC_split (fun h => ?_) (fun h => ?_)) <;> (try simp only [h]) <;> (try simp only [NR_, NRb] at h)) | omega)
 all_goals first
  | exact leafL (sub_cons sub_rfl) (leT_eq rfl) hK
  | (exfalso; omega)
end Go.Proofs.YthkabaiamcjdbaaGreat
/-
 Chapter 13: places in lines, words, and what stands between them: plain facts.
-/

namespace Go.Proofs.YthkabaiamcjdbaaGreat
open Go.Abs
/-! ### Places, by what stands there -/
def At (ls : List Ln) (p : Int × Int) (l : List Int) : Prop := 0 ≤ p.1 ∧ p.1 < ls.length ∧ 0 ≤ p.2 ∧ 0 ≤ (ls.getD p.1.toNat (0, [])).1 ∧ (ls.getD p.1.toNat (0, [])).1 ≤ p.2 ∧ restF ls p = l
theorem at_mk {ls : List Ln} {i k : Int} {t : List Int} (h0 : 0 ≤ i) (h1 : i < ls.length) (h : ls.getD i.toNat (0, []) = (k, t)) (hk : 0 ≤ k) : At ls (i, k) t := by
 refine ⟨h0, h1, hk, by dsimp only; rw [h]; exact hk, by dsimp only; rw [h]; exact Int.le_refl _, ?_⟩
 rw [restF_in (by dsimp only; omega) (by dsimp only; omega) (by dsimp only; omega)]
 dsimp only
 rw [h]
 dsimp only
 rw [if_neg (by omega), show (min (k - max 0 k) (t.length : Int)).toNat = 0 by omega, List.drop_zero]
theorem At.step {ls : List Ln} {p : Int × Int} {a l : List Int} (h : At ls p (a ++ l)) : At ls (p.1, p.2 + (a.length : Nat)) l := by
 obtain ⟨h1, h2, h3, h4, h5, h6⟩ := h
 refine ⟨h1, h2, by dsimp only; omega, h4, by dsimp only; omega, ?_⟩
 rw [restF_in (by omega) (by omega) (by omega), if_neg (by omega)] at h6
 rw [restF_in (by dsimp only; omega) (by dsimp only; omega) (by dsimp only; omega)]
 dsimp only at *
 generalize ls.getD p.1.toNat (0, []) = x at *
 rw [if_neg (by omega)]
 have hl := congrArg List.length h6
 rw [List.length_drop, List.length_append] at hl
 rw [show (min (p.2 + (a.length : Nat) - max 0 x.1) (x.2.length : Int)).toNat = (min (p.2 - max 0 x.1) (x.2.length : Int)).toNat + a.length by omega, ← List.drop_drop, h6, List.drop_left]
theorem blN_app {b r : List Int} (hb : ∀ c ∈ b, blankI c = true) (hr : r.length = 0 ∨ blankI (r.getD 0 0) = false) : blN (b ++ r) = b.length := by
 have h0 : blN r = 0 := by
  rcases hr with h | h
  ·rw [List.length_eq_zero_iff.1 h]; rfl
  ·exact blN_0 h
 unfold blN at *
 rw [List.takeWhile_append_of_pos hb, List.length_append, h0, Nat.add_zero]
theorem At.past {ls : List Ln} {p : Int × Int} {b r : List Int} (h : At ls p (b ++ r)) (hb : ∀ c ∈ b, blankI c = true) (hr : r.length = 0 ∨ blankI (r.getD 0 0) = false) : pastF ls p = ((p.1, p.2 + (b.length : Nat)), r) := by
 have hc : colF ls p = p.2 := by
  obtain ⟨h1, h2, h3, h4, h5, h6⟩ := h
  unfold colF
  rw [if_pos ⟨h1, h2⟩]; omega
 unfold pastF
 rw [hc, show ((p.1, p.2) : Int × Int) = p from rfl, h.2.2.2.2.2, blN_app hb hr, List.drop_left]
theorem some_here {ls : List Ln} {p : Int × Int} {b r : List Int} (h : At ls p (b ++ r)) (hb : ∀ c ∈ b, blankI c = true) (h0 : 0 < r.length) (h1 : blankI (r.getD 0 0) = false) (h2 : ¬ r.getD 0 0 = 35) : someF ls p = ((p.1, p.2 + (b.length : Nat)), true) := by
 unfold someF
 rw [h.past hb (.inr h1)]
 dsimp only
 have hc : comF ls (p.1, p.2 + (b.length : Nat)) r = false := by
  unfold comF headF
  rw [beq_eq_false_iff_ne.2 h2, Bool.and_false, Bool.false_and]
 rw [decide_eq_true h0, hc]; rfl
theorem on_some {ls : List Ln} {n : Int} {p q : Int × Int} (h : someF ls p = (q, true)) (hq : q.1 = p.1) : onF ls n p = some (some q) := by
 unfold onF
 rw [places_step, h]
 show onL _ _ _ ((q, true) :: _) = _
 unfold onL
 rw [if_pos rfl, if_neg (by omega)]
/-! ### Texts and their lines -/
def cutL : List Int → List Int × List (List Int)
 | [] => ([], [])
 | c :: t => if c = 10 then ([], (cutL t).1 :: (cutL t).2) else (c :: (cutL t).1, (cutL t).2)
theorem cut_c {c : Int} {t : List Int} (h : ¬ c = 10) : cutL (c :: t) = (c :: (cutL t).1, (cutL t).2) := by rw [cutL, if_neg h]
theorem cut_app : ∀ {a t : List Int}, (∀ c ∈ a, ¬ c = 10) → cutL (a ++ t) = (a ++ (cutL t).1, (cutL t).2)
 | [], t, _ => rfl
 | c :: a, t, h => by rw [List.cons_append, cut_c (h c (by simp)), cut_app (fun x hx => h x (by simp [hx]))]; rfl
def Tx (ls : List Ln) (p : Int × Int) (t : List Int) : Prop := At ls p (cutL t).1 ∧ ls.drop (p.1.toNat + 1) = (cutL t).2.map lineOf
theorem Tx.step {ls : List Ln} {p : Int × Int} {a t : List Int} (h : Tx ls p (a ++ t)) (ha : ∀ c ∈ a, ¬ c = 10) : Tx ls (p.1, p.2 + (a.length : Nat)) t := by
 obtain ⟨h1, h2⟩ := h
 rw [cut_app ha] at h1 h2
 exact ⟨h1.step, h2⟩
theorem Tx.line {ls : List Ln} {p : Int × Int} {t l : List Int} {m : List (List Int)} (h : Tx ls p t) (hc : (cutL t).2 = l :: m) : 0 ≤ p.1 + 1 ∧ p.1 + 1 < ls.length ∧ ls.getD (p.1 + 1).toNat (0, []) = lineOf l ∧ ls.drop ((p.1 + 1).toNat + 1) = m.map lineOf := by
 obtain ⟨⟨h1, h2, -⟩, h3⟩ := h
 rw [hc, List.map_cons] at h3
 have hk : (p.1 + 1).toNat = p.1.toNat + 1 := by omega
 have hl := congrArg List.length h3
 rw [List.length_drop, List.length_cons] at hl
 refine ⟨by omega, by omega, ?_, ?_⟩
 ·rw [hk, List.getD_eq_getElem?_getD, ← List.head?_drop, h3]; rfl
 ·rw [hk, ← List.drop_drop, h3]; rfl
theorem lineOf_in {k : Nat} {l : List Int} (h : l.length = 0 ∨ ¬ l.getD 0 0 = 32) : lineOf (List.replicate k 32 ++ l) = ((k : Int), l) := by
 have h1 : (List.replicate k (32 : Int) ++ l).takeWhile (· == 32) = List.replicate k 32 ++ l.takeWhile (· == 32) := List.takeWhile_append_of_pos (fun c hc => by rw [(List.mem_replicate.1 hc).2]; rfl)
 have h2 : (List.replicate k (32 : Int) ++ l).dropWhile (· == 32) = l.dropWhile (· == 32) := List.dropWhile_append_of_pos (fun c hc => by rw [(List.mem_replicate.1 hc).2]; rfl)
 have h3 : l.takeWhile (· == 32) = [] ∧ l.dropWhile (· == 32) = l := by
  cases l with
  | nil => exact ⟨rfl, rfl⟩
  | cons c l =>
   have hc : ¬ c = 32 := by rcases h with h | h; simp at h; simpa using h
   have he : (c == 32) = false := beq_eq_false_iff_ne.2 hc
   exact ⟨by rw [List.takeWhile_cons, if_neg (by rw [he]; exact Bool.false_ne_true)], by rw [List.dropWhile_cons, if_neg (by rw [he]; exact Bool.false_ne_true)]⟩
 unfold lineOf
 rw [h1, h2, h3.1, h3.2, List.append_nil, List.length_replicate]
theorem over_no {ls : List Ln} {i k : Int} {t : List Int} (h1 : i < ls.length) (h : ls.getD i.toNat (0, []) = (k, t)) (hm : ¬ k = 0 ∨ t.length = 0) : overF ls i = false := by
 unfold overF
 rw [decide_eq_false (by omega), h]
 have : markerI k t = 0 := by unfold markerI; rw [if_neg (by rintro ⟨h1, h2, -⟩; omega)]
 rw [this]; rfl
def Beg (c : Int) : Prop := blankI c = false ∧ ¬ c = 35 ∧ ¬ c = 10
def Lets (w : List Int) : Prop := ∀ c ∈ w, 97 ≤ c ∧ c ≤ 122
def Blks (b : List Int) : Prop := ∀ c ∈ b, blankI c = true
theorem blank_or {c : Int} (h : blankI c = true) : c = 32 ∨ c = 9 := by
 unfold blankI at h
 simpa using h
theorem stopsN_skip {fl : Bool} : ∀ {x r : List Int} {i : Nat}, (∀ c ∈ x, stopC fl c = false) → stopsN fl i (x ++ r) = stopsN fl (i + x.length) r
 | [], r, i, _ => rfl
 | c :: x, r, i, h => by
  rw [List.cons_append, stopsN, h c (by simp), if_neg Bool.false_ne_true, stopsN_skip (fun c hc => h c (by simp [hc]))]
  congr 1
  simp; omega
theorem getD_app {x r : List Int} {i : Nat} : (x ++ r).getD (x.length + i) 0 = r.getD i 0 := by
 simp only [List.getD_eq_getElem?_getD]
 rw [List.getElem?_append_right (by omega)]
 congr 2; omega
theorem safe_app {x r : List Int} {i : Nat} {fl : Bool} : safeAt (x ++ r) (x.length + i) fl = safeAt r i fl := by
 unfold safeAt
 rw [getD_app, List.length_append]
 congr 1
 exact decide_eq_decide.2 (by omega)
def Stop (fl : Bool) (b r : List Int) : Prop := r = [] ∨ ∃ c r', r = c :: r' ∧ (fl = true ∧ flowI c = true ∨ c = 58 ∧ safeAt r 1 fl = false ∨ c = 35 ∧ 0 < b.length)
theorem stop_word {w b r : List Int} {fl : Bool} (hw : Lets w) (hb : Blks b) (hr : Stop fl b r) : stopI (w ++ (b ++ r)) fl = (w ++ b).length := by
 have hx : ∀ c ∈ w ++ b, stopC fl c = false := fun c hc => by
  rcases List.mem_append.1 hc with h | h
  ·have := hw c h
   refine stopC_f (by omega) (by omega) (.inr ?_)
   unfold flowI; simp; omega
  ·rcases blank_or (hb c h) with rfl | rfl
   ·exact stopC_f (by decide) (by decide) (.inr (by decide))
   ·exact stopC_f (by decide) (by decide) (.inr (by decide))
 unfold stopI
 rw [stopsAt, List.drop_zero, ← List.append_assoc, stopsN_skip hx, Nat.zero_add]
 rcases hr with rfl | ⟨c, r', rfl, h⟩
 ·rw [List.append_nil]; rfl
 ·have hs : stopC fl c = true := stopC_t (by
   rcases h with ⟨h1, h2⟩ | ⟨h, -⟩ | ⟨h, -⟩
   ·exact .inr (.inr ⟨h1, h2⟩)
   ·exact .inl h
   ·exact .inr (.inl h))
  have h0 : (w ++ b ++ c :: r').getD (w ++ b).length 0 = c := by
   have := getD_app (x := w ++ b) (r := c :: r') (i := 0)
   rw [Nat.add_zero, List.getD_cons_zero] at this
   exact this
  rw [stopsN, if_pos hs, stopL, if_neg]
  rw [goes_f]
  ·exact Bool.false_ne_true
  ·rcases h with ⟨-, h2⟩ | ⟨-, h⟩ | ⟨h, -⟩
   ·refine .inl (by rw [h0]; intro e; rw [e] at h2; cases h2)
   ·exact .inr (by rw [safe_app]; exact h)
   ·exact .inl (by rw [h0, h]; decide)
  ·rcases h with ⟨-, h2⟩ | ⟨h, -⟩ | ⟨-, h⟩
   ·refine .inl (by rw [h0]; intro e; rw [e] at h2; cases h2)
   ·exact .inl (by rw [h0, h]; decide)
   ·refine .inr ⟨by rw [List.length_append]; omega, ?_⟩
    have hi : (w ++ b).length - 1 < (w ++ b).length := by rw [List.length_append]; omega
    rw [List.getD_eq_getElem?_getD, List.getElem?_append_left hi]
    have hi2 : (w ++ b).length - 1 = w.length + (b.length - 1) := by rw [List.length_append]; omega
    rw [hi2, List.getElem?_append_right (by omega), show w.length + (b.length - 1) - w.length = b.length - 1 by omega, List.getElem?_eq_getElem (by omega)]
    exact hb _ (List.getElem_mem _)
theorem back_word {w b : List Int} (hw : Lets w) (hb : Blks b) : backI (w ++ b) = w := by
 unfold backI
 rw [List.reverse_append, List.dropWhile_append_of_pos (fun c hc => hb c (List.mem_reverse.1 hc))]
 have : w.reverse.dropWhile blankI = w.reverse := by
  cases hr : w.reverse with
  | nil => rfl
  | cons c r =>
   have hc := hw c (List.mem_reverse.1 (by rw [hr]; simp))
   have : blankI c = false := by unfold blankI; simp; omega
   rw [List.dropWhile_cons, if_neg (by rw [this]; exact Bool.false_ne_true)]
 rw [this, List.reverse_reverse]
theorem end_word {w b r : List Int} {fl : Bool} (hw : Lets w) (hb : Blks b) (hr : Stop fl b r) : endI (w ++ (b ++ r)) fl = w.length := by
 unfold endI
 rw [stop_word hw hb hr, ← List.append_assoc, List.take_left, back_word hw hb]
theorem letter_ok : ∀ k : Fin 26, ∀ fl : Bool, safeI (97 + (k.val : Int)) fl = true ∧ signI (97 + (k.val : Int)) = false := by decide +kernel
theorem letter {c : Int} (h : 97 ≤ c ∧ c ≤ 122) (fl : Bool) : safeI c fl = true ∧ signI c = false := by
 have := letter_ok ⟨(c - 97).toNat, by omega⟩ fl
 rw [show 97 + (((⟨(c - 97).toNat, by omega⟩ : Fin 26).val : Nat) : Int) = c by dsimp only; omega] at this
 exact this
theorem word_begins {w r : List Int} {fl : Bool} (hw : Lets w) (h0 : 0 < w.length) : beginsI (w ++ r) fl = true := by
 cases w with
 | nil => simp at h0
 | cons c w =>
  have hc := hw c (by simp)
  obtain ⟨h1, h2⟩ := letter hc fl
  unfold beginsI safeAt
  simp only [List.cons_append, List.getD_cons_zero, List.length_cons]
  rw [h1, h2, if_neg (by omega)]
  simp
theorem let_beg {c : Int} (h : 97 ≤ c ∧ c ≤ 122) : Beg c := ⟨by unfold blankI; simp; omega, by omega, by omega⟩
theorem word_node {ls : List Ln} {n d : Int} {bk : Bool} {N : Nat → Int × Int → NodeR} {k : Nat} {q : Int × Int} {w b r : List Int} (hA : At ls q (w ++ (b ++ r))) (hw : Lets w) (h0 : 0 < w.length) (hb : Blks b) (hr : Stop (!(bk && decide (k = 0))) b r)
  (hf : (∃ c r', r = c :: r' ∧ blankI c = false) ∨ (furtherF ls n (bk && decide (k = 0)) q.1).2 = false) : nodeS ls n d bk N k q = .ok ([⟨7, textI w, .empty, .empty, 1, false⟩], (q.1, q.2 + (w.length : Nat)), false) := by
 have hq := hA.2.2.2.2.2
 have hstep := hA.step
 have hbegin := word_begins (r := b ++ r) (fl := !(bk && decide (k = 0))) hw h0
 have hen := end_word hw hb hr
 have hhead : ∀ x : Int, ¬ (97 ≤ x ∧ x ≤ 122) → headF (w ++ (b ++ r)) x = false := fun x hx => by
  cases w with
  | nil => simp at h0
  | cons c w =>
   have hc := hw c (by simp)
   unfold headF
   simp only [List.cons_append, List.getD_cons_zero]
   rw [beq_eq_false_iff_ne.2 (by omega), Bool.and_false]
 have hon : onF ls n q = some (some q) := by
  cases w with
  | nil => simp at h0
  | cons c w =>
   have hB := let_beg (hw c (by simp))
   have := on_some (n := n) (some_here (b := []) (by exact hA) (fun c hc => by simp at hc) (by simp) (by simp only [List.cons_append, List.getD_cons_zero]; exact hB.1) (by simp only [List.cons_append, List.getD_cons_zero]; exact hB.2.1)) rfl
   rw [this]; simp
 have htr : traitsF ls n q = .ok (tr0, q, true) := by
  unfold traitsF
  rw [hon]
  dsimp only
  exact traitsG_end (traitF_no (by rw [hq]; exact hhead _ (by decide)) (by rw [hq]; exact hhead _ (by decide)))
 have hpast : ¬ ((pastF ls (q.1, q.2 + (w.length : Nat))).2.length = 0 ∧ (furtherF ls n (bk && decide (k = 0)) q.1).2 = true) := by
  rintro ⟨h1, h2⟩
  rcases hf with ⟨c, r', rfl, hc⟩ | hf
  ·rw [hstep.past hb (.inr (by rw [List.getD_cons_zero]; exact hc))] at h1
   simp at h1
  ·rw [hf] at h2; cases h2
 have hpl : plainF ls n (bk && decide (k = 0)) q (w ++ (b ++ r)) = .ok (w, (q.1, q.2 + (w.length : Nat))) := by
  unfold plainF
  rw [plainN_eq, hen, if_neg (by simp), if_neg hpast]
  dsimp only
  rw [List.nil_append, List.take_left, flowF_one]
 unfold nodeS
 rw [htr]
 dsimp only
 rw [if_pos rfl, hq]
 unfold bodyF
 rw [hhead 42 (by decide), hhead 34 (by decide), hhead 39 (by decide), hhead 91 (by decide), hhead 123 (by decide)]
 rw [if_neg Bool.false_ne_true, if_neg (by simp), if_neg (by simp), if_pos ⟨by rw [List.length_append]; omega, hbegin⟩, hpl]
abbrev wordE (w : List Int) : EvV := ⟨7, textI w, .empty, .empty, 1, false⟩
theorem Tx.rest {ls : List Ln} {q : Int × Int} {c : Int} {t : List Int} (h : Tx ls q (c :: t)) (hc : ¬ c = 10) : restF ls q = c :: (cutL t).1 := by
 have := h.1.2.2.2.2.2
 rw [cut_c hc] at this
 exact this
theorem Tx.is {ls : List Ln} {q : Int × Int} {c x : Int} {t : List Int} (h : Tx ls q (c :: t)) (hc : ¬ c = 10) : isF ls q x = (c == x) := by
 unfold isF headF
 rw [h.rest hc]
 simp
theorem Tx.next {ls : List Ln} {q : Int × Int} {c : Int} {t : List Int} (h : Tx ls q (c :: t)) (hc : ¬ c = 10) : Tx ls (q.1, q.2 + 1) t := h.step (a := [c]) (fun x hx => by simp at hx; omega)
theorem Tx.one {T : List Int} (h : ∀ c ∈ T, ¬ c = 10) : Tx (oneL T) (0, 0) T := by
 have e := cut_app (t := []) h
 rw [List.append_nil] at e
 have e1 : (cutL T).1 = T := by rw [e]; exact List.append_nil _
 have e2 : (cutL T).2 = [] := by rw [e]; rfl
 exact ⟨by rw [e1]; exact at_mk (Int.le_refl 0) (by simp) rfl (Int.le_refl 0), by rw [e2]; rfl⟩
/-! ### Long keys -/
abbrev xs (n : Nat) : List Int := List.replicate n 120
theorem rest_mk {ls : List Ln} {i c k : Int} {T b r : List Int} (hl : lineP ls i = (k, T)) (hk : k ≤ c) (hd : T.drop (c - k).toNat = b ++ r) (hb : Blks b) (hr : r.length = 0 ∨ blankI (r.getD 0 0) = false ∧ ¬ r.getD 0 0 = 35) : restP ls i c = (r, c + (b.length : Nat)) := by
 have hc : cutP ls i c = b ++ r := by
  unfold cutP
  rw [hl]
  dsimp only
  rw [show max c k = c by omega]
  rcases Nat.lt_or_ge T.length (c - k).toNat with h | h
  ·rw [List.drop_eq_nil_of_le (by omega)] at hd
   rw [List.drop_eq_nil_of_le (by omega)]; exact hd
  ·rw [show (min (c - k) (T.length : Int)).toNat = (c - k).toNat by omega]; exact hd
 have hn : blN (b ++ r) = b.length := blN_app hb (by rcases hr with h | h; exact .inl h; exact .inr h.1)
 have hh : headF r 35 = false := by
  rcases hr with h | h
  ·exact headF_0 h
  ·exact headF_f h.2
 unfold restP
 rw [hc, hn, List.drop_left, hl, hh]
 dsimp only
 rw [show max c k = c by omega, if_neg (by rintro ⟨h, -⟩; cases h)]
theorem next_over {ls : List Ln} {i : Int} (h : (ls.length : Int) ≤ i) : nextP ls i = .ok (i, false) := by
 have hb : nextB ls ls.length i = i := by
  cases ls.length with
  | zero => rfl
  | succ f => rw [nextB, if_neg (by omega)]
 have ho : overF ls i = true := by unfold overF; rw [decide_eq_true h]; rfl
 unfold nextP
 rw [hb, ho, if_pos rfl]
theorem next_line {ls : List Ln} {i k : Int} {c : Int} {t : List Int} (h : i < ls.length) (hl : lineP ls i = (k, c :: t)) (hc : Beg c) (ho : overF ls i = false) : nextP ls i = .ok (i, true) := by
 have hb : nextB ls ls.length i = i := by
  cases hn : ls.length with
  | zero => rfl
  | succ f =>
   have hbl := hc.1
   rw [nextB, if_neg (by
    rintro ⟨-, h2⟩
    rw [hl] at h2
    unfold bareI at h2
    rw [List.all_cons, hbl, Bool.false_and, Bool.false_or, List.dropWhile_cons, if_neg (by rw [hbl]; exact Bool.false_ne_true), List.getD_cons_zero] at h2
    exact hc.2.1 (beq_iff_eq.1 h2))]
 unfold nextP
 rw [hb, ho, if_neg Bool.false_ne_true, hl, if_neg]
 rw [List.getD_cons_zero]
 intro e
 have := hc.1
 rw [e] at this
 cases this
theorem sign_no {ls : List Ln} {i c k x y : Int} {t : List Int} (hl : lineP ls i = (k, y :: t)) (hk : c = k) (h : ¬ y = x) : signP ls i c x = false := by
 subst hk
 unfold signP
 rw [hl]
 dsimp only
 rw [show (c - c).toNat = 0 by omega, List.getD_cons_zero, beq_eq_false_iff_ne.2 h]
 simp
/-! ### Lists -/
def dashT (m : Nat) : List Int := (List.replicate m [(45 : Int), 32]).flatten
theorem dash_cons (m : Nat) : dashT (m + 1) = 45 :: 32 :: dashT m := by simp [dashT, List.replicate_succ]
theorem dash_len (m : Nat) : (dashT m).length = 2 * m := by
 induction m with
 | zero => rfl
 | succ m ih => rw [dash_cons, List.length_cons, List.length_cons, ih]; omega
theorem dash_drop : ∀ (j m : Nat), (dashT (j + m)).drop (2 * j) = dashT m
 | 0, m => by rw [Nat.zero_add]; rfl
 | j + 1, m => by
  rw [show j + 1 + m = j + m + 1 by omega, dash_cons, show 2 * (j + 1) = 2 * j + 1 + 1 by omega, List.drop_succ_cons, List.drop_succ_cons]
  exact dash_drop j m
theorem dash_drop1 (j m : Nat) (h : 0 < j) : (dashT (j + m)).drop (2 * j - 1) = 32 :: dashT m := by
 obtain ⟨j, rfl⟩ : ∃ q, j = q + 1 := ⟨j - 1, by omega⟩
 have := dash_drop j (m + 1)
 rw [dash_cons] at this
 rw [show 2 * (j + 1) - 1 = 2 * j + 1 by omega, show j + 1 + m = j + (m + 1) by omega, ← List.drop_drop, this, List.drop_succ_cons, List.drop_zero]
theorem dash_rest {j m : Nat} {c : Int} (hc : c = 2 * (j : Int) ∨ c + 1 = 2 * (j : Int)) (h0 : 0 ≤ c) : restP (oneL (dashT (j + m))) 0 c = (dashT m, 2 * (j : Int)) := by
 have hr : (dashT m).length = 0 ∨ blankI ((dashT m).getD 0 0) = false ∧ ¬ (dashT m).getD 0 0 = 35 := by
  cases m with
  | zero => exact .inl rfl
  | succ m => rw [dash_cons]; exact .inr ⟨by rw [List.getD_cons_zero]; decide, by rw [List.getD_cons_zero]; decide⟩
 rcases hc with hc | hc
 ·rw [rest_mk (k := 0) (T := dashT (j + m)) (b := []) (r := dashT m) rfl h0 (by rw [show (c - 0).toNat = 2 * j by omega, dash_drop]; rfl) (fun c hc => by simp at hc) hr]
  simp [hc]
 ·rw [rest_mk (k := 0) (T := dashT (j + m)) (b := [32]) (r := dashT m) rfl h0 (by rw [show (c - 0).toNat = 2 * j - 1 by omega, dash_drop1 j m (by omega)]; rfl) (fun c hc => by simp at hc; subst hc; rfl) hr]
  congr 1
theorem dash_sign {j m : Nat} : signP (oneL (dashT (j + (m + 1)))) 0 (2 * (j : Int)) 45 = true := by
 have h := dash_drop j (m + 1)
 rw [dash_cons] at h
 have hl := dash_len (j + (m + 1))
 have g0 : (dashT (j + (m + 1))).getD (2 * j) 0 = 45 := by
  have := congrArg (fun l => l.getD 0 0) h
  simpa [List.getD_eq_getElem?_getD, List.getElem?_drop] using this
 have g1 : (dashT (j + (m + 1))).getD (2 * j + 1) 0 = 32 := by
  have := congrArg (fun l => l.getD 1 0) h
  simpa [List.getD_eq_getElem?_getD, List.getElem?_drop] using this
 unfold signP
 show (decide (0 ≤ (2 * j : Int) - 0) && (decide ((2 * j : Int) - 0 < ((dashT (j + (m + 1))).length : Int)) && ((dashT (j + (m + 1))).getD ((2 * j : Int) - 0).toNat 0 == 45 && (decide ((2 * j : Int) - 0 + 1 = ((dashT (j + (m + 1))).length : Int)) || blankI ((dashT (j + (m + 1))).getD ((2 * j : Int) - 0 + 1).toNat 0))))) = true
 rw [show ((2 * j : Int) - 0).toNat = 2 * j by omega, show ((2 * j : Int) - 0 + 1).toNat = 2 * j + 1 by omega, g0, g1, decide_eq_true (by omega), decide_eq_true (by omega)]
 simp [show blankI 32 = true from rfl]
theorem dash_lev : ∀ (m j f : Nat) (d nn : Int) (pair : Bool) (c : Int), (c = 2 * (j : Int) ∨ c + 1 = 2 * (j : Int)) → 0 ≤ c →
  (m ≤ f → ∃ ev, levP (oneL (dashT (j + m))) f d nn pair 0 c true tp0 = .ok (ev, 1) ∧ ev.length = 2 * m + 1) ∧ (f < m → levP (oneL (dashT (j + m))) f d nn pair 0 c true tp0 = .error 8)
 | 0, j, f, d, nn, pair, c, hc, h0 => by
  have hr := dash_rest (m := 0) hc h0
  have hn := next_over (ls := oneL (dashT (j + 0))) (i := 0 + 1) (by simp)
  refine ⟨fun _ => ⟨[emptyP tp0], ?_, rfl⟩, fun h => absurd h (Nat.not_lt_zero f)⟩
  cases f <;> rw [levP, show 2 * (oneL (dashT (j + 0))).length + 2 = 3 + 1 from rfl, nodeP, hr, if_neg (by simp [dashT]), hn] <;> dsimp only <;> rw [if_pos (.inl rfl)] <;> rfl
 | m + 1, j, f, d, nn, pair, c, hc, h0 => by
  have hr := dash_rest (m := m + 1) hc h0
  have hs := dash_sign (j := j) (m := m)
  have hlen : 0 < (dashT (m + 1)).length := by rw [dash_len]; omega
  cases f with
  | zero =>
   refine ⟨fun h => absurd h (by omega), fun _ => ?_⟩
   rw [levP, show 2 * (oneL (dashT (j + (m + 1)))).length + 2 = 3 + 1 from rfl, nodeP, hr, if_pos hlen]
   dsimp only
   unfold atP
   rw [hs, if_pos rfl, if_pos rfl]
  | succ f =>
   obtain ⟨h1, h2⟩ := dash_lev m (j + 1) f (d + 1) (2 * (j : Int)) false (2 * (j : Int) + 1) (.inr (by omega)) (by omega)
   rw [show j + 1 + m = j + (m + 1) by omega] at h1 h2
   have hn := next_over (ls := oneL (dashT (j + (m + 1)))) (i := 1) (by simp)
   have hf : furP (oneL (dashT (j + (m + 1)))) 1 (2 * (j : Int)) = .ok (1, false) := by
    unfold furP
    rw [hn]
    dsimp only
    rw [if_pos (.inl rfl)]
   have e1 : levP (oneL (dashT (j + (m + 1)))) (f + 1) d nn pair 0 c true tp0 = seqP (oneL (dashT (j + (m + 1)))) (fun i c n pair => levP (oneL (dashT (j + (m + 1)))) f (d + 1) n pair i c (!pair) tp0) 0 (2 * (j : Int)) false tp0 := by
    rw [levP, show 2 * (oneL (dashT (j + (m + 1)))).length + 2 = 3 + 1 from rfl, nodeP, hr, if_pos hlen]
    dsimp only
    unfold atP
    rw [hs, if_pos rfl, if_pos rfl]
   rw [e1]
   unfold seqP
   rw [show (oneL (dashT (j + (m + 1)))).length + 1 = 1 + 1 from rfl, entriesP]
   refine ⟨fun h => ?_, fun h => ?_⟩
   ·obtain ⟨ev, k1, k2⟩ := h1 (by omega)
    rw [show (!false) = true from rfl, k1]
    dsimp only
    rw [hf]
    dsimp only
    rw [if_pos rfl]
    refine ⟨_, rfl, ?_⟩
    simp [k2]; omega
   ·rw [show (!false) = true from rfl, h2 (by omega)]
theorem deep_seq {n : Nat} : (n ≤ 200 → ∃ ev, docP (oneL (dashT n)) 0 0 = .ok (ev, 1) ∧ ev.length = 2 * n + 1) ∧ (200 < n → docP (oneL (dashT n)) 0 0 = .error 8) := by
 obtain ⟨h1, h2⟩ := dash_lev n 0 200 0 (-1) false 0 (.inl rfl) (by decide)
 rw [Nat.zero_add] at h1 h2
 have hn := next_over (ls := oneL (dashT n)) (i := 1) (by simp)
 unfold docP
 rw [show decide ((0 : Int) = 0) = true from rfl]
 refine ⟨fun h => ?_, fun h => by rw [h2 h]⟩
 obtain ⟨ev, k1, k2⟩ := h1 h
 rw [k1]
 dsimp only
 rw [hn]
 dsimp only
 rw [if_pos rfl]
 exact ⟨ev, rfl, k2⟩
/-! ### Mappings -/
def mapL (n : Nat) : List Ln := (List.range n).map fun i : Nat => (((i : Nat) : Int), [97, 58])
theorem map_line {n j : Nat} (h : j < n) : lineP (mapL n) j = ((j : Int), [97, 58]) := by
 unfold mapL
 rw [show lineP ((List.range n).map fun i : Nat => (((i : Nat) : Int), [(97 : Int), 58])) j = ((List.range n).map fun i : Nat => (((i : Nat) : Int), [(97 : Int), 58])).getD (j : Int).toNat (0, []) from rfl]
 simp [List.getD_eq_getElem?_getD, h]
theorem map_len (n : Nat) : (mapL n).length = n := by simp [mapL]
theorem map_over {n j : Nat} (h : j < n) : overF (mapL n) j = false := by
 have hl := map_line h
 unfold overF
 rw [map_len, decide_eq_false (by omega)]
 have : markerI (lineP (mapL n) j).1 (lineP (mapL n) j).2 = 0 := by
  rw [hl]
  unfold markerI
  rw [if_neg (by rintro ⟨-, h2, -⟩; simp at h2)]
 show (false || !(markerI (lineP (mapL n) j).1 (lineP (mapL n) j).2 == 0)) = false
 rw [this]; rfl
theorem map_key {n j : Nat} (h : j < n) (d : Int) : keyF (aloneF (mapL n) j) j = some ((j : Int) + 1) ∧ wholeF (aloneF (mapL n) j) (-1) d true (0, j) = .ok ([wordE [97]], (0, (j : Int) + 1), false) := by
 have hl := map_line h
 have ha : aloneF (mapL n) j = [((j : Int), [97, 58])] := by
  unfold aloneF
  rw [if_pos ⟨by omega, by rw [map_len]; omega⟩]
  exact congrArg (fun x => [x]) hl
 have hA : At [((j : Int), [97, 58])] (0, j) ([97] ++ ([] ++ [58])) := at_mk (Int.le_refl 0) (by simp) rfl (by omega)
 have hS := hA.step
 have hw : ∀ d : Int, wholeF [((j : Int), [97, 58])] (-1) d true (0, j) = .ok ([wordE [97]], (0, (j : Int) + 1), false) := fun d => by
  unfold wholeF
  rw [show nodeF [((j : Int), [97, 58])] (-1) d true 200 0 (0, j) = nodeS _ _ _ _ (nodeF [((j : Int), [97, 58])] (-1) d true 199) 0 (0, j) from rfl]
  exact word_node (n := -1) (d := d) (bk := true) (k := 0) hA (fun c hc => by simp at hc; subst hc; decide) (by decide) (fun c hc => by simp at hc) (.inr ⟨58, [], rfl, .inr (.inl ⟨rfl, rfl⟩)⟩) (.inl ⟨58, [], rfl, by decide⟩)
 rw [ha]
 refine ⟨?_, hw d⟩
 unfold keyF
 have hr : restF [((j : Int), [97, 58])] (0, j) = [97, 58] := hA.2.2.2.2.2
 rw [hr, if_neg (by decide), hw 0]
 dsimp only
 have hp := hS.past (b := []) (r := [58]) (fun c hc => by simp at hc) (.inr (by decide))
 dsimp only at hp
 simp at hp
 rw [hp]
 dsimp only
 rw [colon_t (by decide) rfl (.inl (by decide)) (by dsimp only; omega), if_pos rfl]
theorem map_fur {n : Nat} (c : Int) : furP (mapL n) n c = .ok ((n : Int), false) := by
 unfold furP
 rw [next_over (by rw [map_len]; omega)]
 dsimp only
 rw [if_pos (.inl rfl)]
abbrev levN (ls : List Ln) (f : Nat) (d : Int) : Int → Int → Int → Bool → PR := fun i c n pair => levP ls f d n pair i c (!pair) tp0
theorem map_at {n j f : Nat} {d nn : Int} {S : Int → Int → Bool → TP → PR} {R : Int → Int → Bool → TP → PR} (h : j < n) : atP (mapL n) S (mapP (mapL n) (levN (mapL n) f (d + 1)) (d + 1)) R d nn j j true tp0 = match levP (mapL n) f (d + 1) j true j (j + 2) false tp0 with
  | .error e => .error e
  | .ok (ev, k) => match furP (mapL n) k j with
   | .error e => .error e
   | .ok (k', ok) => if ok = false then .ok (openP 5 tp0 :: (([wordE [97]] ++ ev) ++ [shutE 6]), k) else match pairsP (mapL n) (levN (mapL n) f (d + 1)) (d + 1) j n k' ([wordE [97]] ++ ev) with
    | .error e => .error e
    | .ok (ev, k) => .ok (openP 5 tp0 :: (ev ++ [shutE 6]), k) := by
 have hl := map_line h
 obtain ⟨k1, k2⟩ := map_key h (d + 1)
 unfold atP
 rw [sign_no hl rfl (by decide), if_neg Bool.false_ne_true]
 have ha : asksP (mapL n) j j = true := by unfold asksP; rw [k1]; simp
 rw [ha, if_pos rfl, if_pos rfl]
 unfold mapP
 rw [map_len, pairsP, sign_no hl rfl (by decide), if_neg Bool.false_ne_true]
 unfold pairP
 rw [k1]
 dsimp only
 rw [k2]
 dsimp only
 rw [show (j : Int) + 1 + 1 = j + 2 by omega, show levN (mapL n) f (d + 1) j (j + 2) j true = levP (mapL n) f (d + 1) j true j (j + 2) false tp0 from rfl]
 cases levP (mapL n) f (d + 1) j true j (j + 2) false tp0 with
 | error e => rfl
 | ok r =>
  obtain ⟨ev, k⟩ := r
  dsimp only
  cases furP (mapL n) k j with
  | error e => rfl
  | ok r =>
   obtain ⟨k', ok⟩ := r
   dsimp only
   rw [List.nil_append]
   cases ok
   ·rw [if_pos rfl, if_pos rfl]
   ·rw [if_neg (by decide), if_neg (by decide)]
    generalize pairsP (mapL n) (levN (mapL n) f (d + 1)) (d + 1) j n k' ([wordE [97]] ++ ev) = R
    cases R <;> rfl
theorem map_val {n : Nat} : ∀ (m i f : Nat) (d : Int), i + 1 + m = n →
  (m ≤ f → ∃ ev, levP (mapL n) f d i true i (i + 2) false tp0 = .ok (ev, (n : Int)) ∧ ev.length = 3 * m + 1) ∧ (f < m → levP (mapL n) f d i true i (i + 2) false tp0 = .error 8)
 | 0, i, f, d, h => by
  have hr := rest_mk (ls := mapL n) (i := i) (c := i + 2) (b := []) (r := []) (map_line (by omega)) (by omega) (by rw [show ((i : Int) + 2 - i).toNat = 2 by omega]; rfl) (fun c hc => by simp at hc) (.inl rfl)
  have hn := next_over (ls := mapL n) (i := (i : Int) + 1) (by rw [map_len]; omega)
  refine ⟨fun _ => ⟨[emptyP tp0], ?_, rfl⟩, fun h => absurd h (Nat.not_lt_zero f)⟩
  cases f <;> rw [levP, show 2 * (mapL n).length + 2 = (2 * (mapL n).length + 1) + 1 from rfl, nodeP, hr, if_neg (by simp), hn] <;> dsimp only <;> rw [if_pos (.inl rfl), show (i : Int) + 1 = n by omega]
 | m + 1, i, f, d, h => by
  have hr := rest_mk (ls := mapL n) (i := i) (c := i + 2) (b := []) (r := []) (map_line (by omega)) (by omega) (by rw [show ((i : Int) + 2 - i).toNat = 2 by omega]; rfl) (fun c hc => by simp at hc) (.inl rfl)
  have hl := map_line (n := n) (j := i + 1) (by omega)
  have ho := map_over (n := n) (j := i + 1) (by omega)
  have e : (((i + 1 : Nat)) : Int) = (i : Int) + 1 := by omega
  rw [e] at hl ho
  have hn := next_line (by rw [map_len]; omega) hl ⟨by decide, by decide, by decide⟩ ho
  cases f with
  | zero =>
   refine ⟨fun h => absurd h (by omega), fun _ => ?_⟩
   obtain ⟨k1, -⟩ := map_key (n := n) (j := i + 1) (by omega) 0
   rw [e] at k1
   rw [levP, show 2 * (mapL n).length + 2 = (2 * (mapL n).length + 1) + 1 from rfl, nodeP, hr, if_neg (by simp), hn]
   dsimp only
   rw [hl]
   dsimp only
   rw [if_neg (by rintro (h | h | ⟨h, -⟩); cases h; omega; omega), if_neg (by omega)]
   unfold atP
   rw [sign_no hl rfl (by decide), if_neg Bool.false_ne_true]
   have ha : asksP (mapL n) (i + 1) (i + 1) = true := by unfold asksP; rw [k1]; simp
   rw [ha, if_pos rfl, if_pos rfl]
  | succ f =>
   have e1 : levP (mapL n) (f + 1) d i true i (i + 2) false tp0 = atP (mapL n) (seqP (mapL n) (levN (mapL n) f (d + 1))) (mapP (mapL n) (levN (mapL n) f (d + 1)) (d + 1)) (nodeP (mapL n) (seqP (mapL n) (levN (mapL n) f (d + 1))) (mapP (mapL n) (levN (mapL n) f (d + 1)) (d + 1)) d i true (2 * (mapL n).length + 1)) d i (i + 1 : Nat) (i + 1 : Nat) true tp0 := by
    rw [levP, show 2 * (mapL n).length + 2 = (2 * (mapL n).length + 1) + 1 from rfl, nodeP, hr, if_neg (by simp), hn]
    dsimp only
    rw [hl]
    dsimp only
    rw [if_neg (by rintro (h | h | ⟨h, -⟩); cases h; omega; omega), if_neg (by omega), e]
   rw [e1, map_at (j := i + 1) (by omega)]
   obtain ⟨h1, h2⟩ := map_val (n := n) m (i + 1) f (d + 1) (by omega)
   refine ⟨fun h => ?_, fun h => by rw [h2 (by omega)]⟩
   obtain ⟨ev, k1, k2⟩ := h1 (by omega)
   rw [k1]
   dsimp only
   rw [map_fur]
   dsimp only
   rw [if_pos rfl]
   refine ⟨_, rfl, ?_⟩
   simp [k2]; omega
theorem deep_map {n : Nat} (h0 : 0 < n) : (n ≤ 200 → ∃ ev, docP (mapL n) 0 0 = .ok (ev, (n : Int)) ∧ ev.length = 3 * n + 1) ∧ (200 < n → docP (mapL n) 0 0 = .error 8) := by
 have hl := map_line (n := n) (j := 0) h0
 have hr := rest_mk (ls := mapL n) (i := 0) (c := 0) (b := []) (r := [97, 58]) hl (by decide) rfl (fun c hc => by simp at hc) (.inr ⟨by decide, by decide⟩)
 have e1 : levP (mapL n) 200 0 (-1) false 0 0 true tp0 = atP (mapL n) (seqP (mapL n) (levN (mapL n) 199 1)) (mapP (mapL n) (levN (mapL n) 199 (0 + 1)) (0 + 1)) (nodeP (mapL n) (seqP (mapL n) (levN (mapL n) 199 1)) (mapP (mapL n) (levN (mapL n) 199 1) 1) 0 (-1) false (2 * (mapL n).length + 1)) 0 (-1) (0 : Nat) (0 : Nat) true tp0 := by
  rw [show (200 : Nat) = 199 + 1 from rfl, levP, show 2 * (mapL n).length + 2 = (2 * (mapL n).length + 1) + 1 from rfl, nodeP, hr, if_pos (by simp)]
  rfl
 obtain ⟨h1, h2⟩ := map_val (n := n) (n - 1) 0 199 1 (by omega)
 unfold docP
 rw [show decide ((0 : Int) = 0) = true from rfl, e1, map_at h0]
 refine ⟨fun h => ?_, fun h => ?_⟩
 ·obtain ⟨ev, k1, k2⟩ := h1 (by omega)
  rw [show ((0 : Int) + 1) = 1 from rfl, k1]
  dsimp only
  rw [map_fur]
  dsimp only
  rw [if_pos rfl]
  dsimp only
  rw [next_over (i := (n : Int)) (by rw [map_len]; omega)]
  dsimp only
  rw [if_pos rfl]
  refine ⟨_, rfl, ?_⟩
  simp [k2]; omega
 ·rw [show ((0 : Int) + 1) = 1 from rfl, h2 (by omega)]
end Go.Proofs.YthkabaiamcjdbaaGreat
/-
 Walks: chapter 13's law FlowDeep.
-/


namespace Go.Proofs.YthkabaiamcjdbaaGreat
open Go.Abs
variable {κ : Ctx} {σ : List Res} {K : Ret → List Res → Prop} {o o' : Option (Option (Nat × Nat))}
set_option maxRecDepth 4000 in
theorem lf_e : ({ data := #[] } : ByteArray) = textI [] := by decide +kernel
set_option maxRecDepth 4000 in
theorem asc_text {l : List Int} (h : Asc l) : bytesI (textI l) = l := by
 rw [bytesI_text]
 exact encL_ascii (fun c hc => by have := h.2 c hc; omega)
set_option maxRecDepth 4000 in
theorem asc_size {l : List Int} (h : Asc l) : (textI l).size = l.length := by rw [← bytesI_len, asc_text h]
set_option maxRecDepth 4000 in
theorem one_lines {l : List Int} (h : ∀ c ∈ l, 32 ≤ c ∧ c ≤ 126) (h0 : 0 < l.length) (h1 : ¬ l.getD 0 0 = 32) : (readR l).1 = oneL l := by
 have hg : readOk l = true := by
  unfold readOk
  rw [List.all_eq_true]
  intro c hc
  have := h c hc
  refine goodC_yes ?_ (by omega)
  unfold printI
  simp; omega
 unfold readR
 rw [if_pos hg]
 show linesOf l = _
 unfold linesOf
 rw [tx_none (fun c hc => by have := h c hc; simp [brk]; omega)]
 cases l with
 | nil => simp at h0
 | cons c r =>
  have hc : ¬ c = 32 := by simpa using h1
  simp [lineOf, List.takeWhile_cons, List.dropWhile_cons, hc]
set_option maxRecDepth 4000 in
theorem asc_of {l : List Int} (h : ∀ c ∈ l, 32 ≤ c ∧ c ≤ 126) (hl : l.length ≤ 100000) : Asc l := ⟨hl, fun c hc => by have := h c hc; omega⟩
set_option maxRecDepth 4000 in
theorem str_add3 {x y : ByteArray} {v : Option Value} (h : x.size + y.size ≤ 1000000000) : (if ((x.size + y.size : Nat) : Int) > IntKind.i64.max then none else v) = v := by
 rw [if_neg]
 have : IntKind.i64.max = 9223372036854775807 := by decide
 omega
end Go.Proofs.YthkabaiamcjdbaaGreat
/-
 Chapter 13: lists of words: plain facts.
-/

namespace Go.Proofs.YthkabaiamcjdbaaGreat
open Go.Abs
def CharsW (T : List Int) : Prop := ∀ c ∈ T, c = 9 ∨ c = 10 ∨ 32 ≤ c ∧ c ≤ 126
theorem CharsW.app {a b : List Int} (ha : CharsW a) (hb : CharsW b) : CharsW (a ++ b) := fun c hc => by rcases List.mem_append.1 hc with h | h; exact ha c h; exact hb c h
end Go.Proofs.YthkabaiamcjdbaaGreat
/-
 Walks: chapter 14's law ParserDeep.
-/




namespace Go.Proofs.YthkabaiamcjdbaaGreat
open Go.Abs
variable {κ : Ctx} {σ : List Res} {K : Ret → List Res → Prop} {o o' : Option (Option (Nat × Nat))}
abbrev rowsT (rows : List (List Int)) : List Int := rows.flatMap fun r => r ++ [10]
set_option maxRecDepth 4000 in
theorem tx_rows : ∀ rows : List (List Int), (∀ r ∈ rows, ∀ c ∈ r, ¬ c = 10 ∧ ¬ c = 13) → tx [] (rowsT rows) = rows
 | [], _ => by simp [tx]
 | r :: rs, h => by
  show tx [] ((r ++ [10]) ++ rowsT rs) = _
  rw [List.append_assoc, List.singleton_append, tx_stepB (fun c hc => by have := h r (by simp) c hc; simp [brk, this]) (by decide) (by rintro ⟨h, -⟩; exact absurd h (by decide)), tx_rows rs (fun x hx => h x (by simp [hx]))]
set_option maxRecDepth 4000 in
theorem rows_lines {rows : List (List Int)} (h : ∀ r ∈ rows, ∀ c ∈ r, c = 9 ∨ 32 ≤ c ∧ c ≤ 126) : (readR (rowsT rows)).1 = rows.map lineOf := by
 have hg : readOk (rowsT rows) = true := by
  unfold readOk
  rw [List.all_eq_true]
  intro c hc
  obtain ⟨r, hr, hcr⟩ := List.mem_flatMap.1 hc
  rcases List.mem_append.1 hcr with h1 | h1
  ·have := h r hr c h1
   refine goodC_yes ?_ (by omega)
   unfold printI
   simp; omega
  ·simp at h1; subst h1; decide
 unfold readR
 rw [if_pos hg]
 show linesOf _ = _
 unfold linesOf
 rw [tx_rows rows (fun r hr c hc => by have := h r hr c hc; omega)]
set_option maxRecDepth 4000 in
theorem rows_asc {rows : List (List Int)} (h : ∀ r ∈ rows, ∀ c ∈ r, c = 9 ∨ 32 ≤ c ∧ c ≤ 126) (hl : (rowsT rows).length ≤ 100000) : Asc (rowsT rows) := ⟨hl, fun c hc => by
 obtain ⟨r, hr, hcr⟩ := List.mem_flatMap.1 hc
 rcases List.mem_append.1 hcr with h1 | h1
 ·have := h r hr c h1; omega
 ·simp at h1; omega⟩
def mapT : Nat → List Int
 | 0 => []
 | i + 1 => mapT i ++ (List.replicate i 32 ++ [97, 58, 10])
set_option maxRecDepth 4000 in
theorem mapT_rows : ∀ n, mapT n = rowsT ((List.range n).map fun i => List.replicate i 32 ++ [97, 58])
 | 0 => rfl
 | n + 1 => by rw [mapT, mapT_rows n, List.range_succ, List.map_append]; simp
set_option maxRecDepth 4000 in
theorem mapT_len : ∀ n, n ≤ 230 → (mapT n).length ≤ 233 * n
 | 0, _ => by simp [mapT]
 | n + 1, h => by
  have := mapT_len n (by omega)
  rw [mapT, List.length_append, List.length_append, List.length_replicate]
  simp; omega
set_option maxRecDepth 4000 in
theorem mapT_ok (n : Nat) : ∀ r ∈ (List.range n).map fun i => List.replicate i (32 : Int) ++ [97, 58], ∀ c ∈ r, c = 9 ∨ 32 ≤ c ∧ c ≤ 126 := fun r hr c hc => by
 obtain ⟨i, -, rfl⟩ := List.mem_map.1 hr
 rcases List.mem_append.1 hc with h | h
 ·have := List.eq_of_mem_replicate h; omega
 ·simp at h; omega
set_option maxRecDepth 4000 in
theorem mapT_lines (n : Nat) : (readR (mapT n)).1 = mapL n := by
 rw [mapT_rows, rows_lines (mapT_ok n), List.map_map]
 unfold mapL
 refine List.map_congr_left (fun i _ => ?_)
 show lineOf (List.replicate i 32 ++ [97, 58]) = _
 exact lineOf_in (.inr (by decide))
set_option maxRecDepth 4000 in
theorem mapL_small {n : Nat} (h : n ≤ 230) : Small (mapL n) := ⟨by rw [map_len]; omega, fun x hx => by
 obtain ⟨i, hi, rfl⟩ := List.mem_map.1 hx
 have := List.mem_range.1 hi
 exact ⟨by show 2 ≤ 2000; decide, by show (0 : Int) ≤ (i : Nat); omega, by show ((i : Nat) : Int) ≤ 2000; omega⟩⟩
set_option maxRecDepth 4000 in
theorem dashT_ok (n : Nat) : ∀ c ∈ dashT n, 32 ≤ c ∧ c ≤ 126 := fun c hc => by
 obtain ⟨l, hl, hcl⟩ := List.mem_flatten.1 hc
 obtain rfl := List.eq_of_mem_replicate hl
 simp at hcl; omega
set_option maxRecDepth 4000 in
theorem dash_snoc (n : Nat) : dashT (n + 1) = dashT n ++ [45, 32] := by simp [dashT, List.replicate_succ']
set_option maxRecDepth 4000 in
theorem dash_lines {n : Nat} (h : 0 < n) : (readR (dashT n)).1 = oneL (dashT n) := by
 refine one_lines (dashT_ok n) (by rw [dash_len]; omega) ?_
 obtain ⟨m, rfl⟩ : ∃ m, n = m + 1 := ⟨n - 1, by omega⟩
 rw [dash_cons, List.getD_cons_zero]
 decide
abbrev deepT4 (b : Bool) (n : Nat) : List Int := if b then mapT n else dashT n
abbrev deepL4 (b : Bool) (n : Nat) : List Ln := if b then mapL n else oneL (dashT n)
set_option maxRecDepth 4000 in
theorem deep4 {b : Bool} {n : Nat} (h0 : 0 < n) : (n ≤ 200 → ∃ ev k, docP (deepL4 b n) 0 0 = .ok (ev, k) ∧ ev.length = (if b then 3 * n + 1 else 2 * n + 1)) ∧ (200 < n → docP (deepL4 b n) 0 0 = .error 8) := by
 cases b
 ·obtain ⟨h1, h2⟩ := deep_seq (n := n)
  exact ⟨fun h => by obtain ⟨ev, a, b⟩ := h1 h; exact ⟨ev, _, a, b⟩, h2⟩
 ·obtain ⟨h1, h2⟩ := deep_map h0
  exact ⟨fun h => by obtain ⟨ev, a, b⟩ := h1 h; exact ⟨ev, _, a, b⟩, h2⟩
set_option maxRecDepth 4000 in
theorem lf4_a : ({ data := #[97, 58, 10] } : ByteArray) = textI [97, 58, 10] := by decide +kernel
set_option maxRecDepth 4000 in
theorem lf4_b : ({ data := #[45, 32] } : ByteArray) = textI [45, 32] := by decide +kernel
set_option maxRecDepth 4000 in
theorem lf4_s : ({ data := #[32] } : ByteArray) = textI [32] := by decide +kernel
set_option maxRecDepth 4000 in
theorem asc4 (b : Bool) {n : Nat} (h : n ≤ 230) : Asc (deepT4 b n) := by
 cases b
 ·show Asc (dashT n)
  exact asc_of (dashT_ok n) (by rw [dash_len]; omega)
 ·have := mapT_len n h
  show Asc (mapT n)
  rw [mapT_rows] at this ⊢
  exact rows_asc (mapT_ok n) (by omega)
set_option maxRecDepth 4000 in
theorem law_ParserDeep (κ : Ctx) (n : Int) (hn : IntKind.i64.min ≤ n ∧ n ≤ IntKind.i64.max) (b : Bool) (hb : True) : ACallF κ Tryz.prog 5 [I n, B b] [] (fun r _ => r = .ret (B true)) := by
 have hmin : IntKind.i64.min = -9223372036854775808 := by decide
 have hmax : IntKind.i64.max = 9223372036854775807 := by decide
 rw [hmin, hmax] at hn
 by_cases hr : 1 ≤ n ∧ n ≤ 230
 ·obtain ⟨n, rfl⟩ : ∃ k : Nat, n = k := ⟨n.toNat, by omega⟩
  obtain ⟨r1, r2⟩ := hr
  refine ACallF.dropL (ACallF_introA Tryz.func5 rfl ?_)
  simp only [Tryz.ntmps5]
  repeat' (first | (with_reducible first | refine AW_block ?_ | refine cut_loop ?_ | refine AW_seqA (AW_seqA ?_) | refine AW_seq ?_ | refine AW_runReg ?_ | refine AW_runCond ?_) | simp only [WL, intF, WM, reduceCtorEq, WLb, Nat.reduceAdd, Nat.reduceSub, Bool.not_true, Bool.not_false, true_and, reduceIte, Bool.false_eq_true, cok10, Tryz.results5, lf_e] | with_reducible refine cD (lAlive4 ?_) | ((with_reducible first | refine grd_cases (fun h => ?_) (fun h => ?_) | refine condC_split (fun h => ?_) (fun h => ?_)) <;> (try simp only [h]) <;> (try simp only [NR_, NRb] at h)) | omega)
  refine loopA (fun i : Nat => ⟨(I n :: B b :: .any::.any::.any::B true :: .raw (.string (textI (deepT4 b i))) :: I i :: .any::.any::.any::.any::.any::.any::.any::.any::.any::.any::.any::.any::.any::.any::.any::.any::.any::.any::.any::.any::.any::.any::.any::.any::.any::.any::.any::.any::.any::.any::.any::.any::.any::.any::.any::.any::.any::.any::.any::.any::.any::.any::.any::.any::.any::.any::.any::.any::.any::.any::.any::.any::.any::.any::.any::.any::.any::.any::.any::.any::.any::.any::.any::.any::.any::.any::.any::[]), [], true, []⟩) (fun i => i ≤ n) (fun i => n - i) 0 (St_le_same (by cases b <;> exact leA) id) (Nat.zero_le _) ?_
  intro i hi
  have hA := asc4 b (n := i) (by omega)
  have hAs := asc_size hA
  have hAl := hA.1
  rcases Nat.lt_or_ge i n with hin | hin
  ·have z2 : (textI [45, 32]).size = 2 := by decide
   have z3 : (textI [97, 58, 10]).size = 3 := by decide
   have z4 : (textI [32]).size = 1 := by decide
   cases b
   ·simp only [deepT4, Bool.false_eq_true, if_false] at *
    repeat' (first | (with_reducible first | refine AW_seqA (AW_block ?_) | refine AW_seqA (AW_seqA ?_) | refine AW_seq ?_ | refine AW_runReg ?_ | refine AW_runCond ?_) | simp only [WL, intF, strF, WM, ne_eq, reduceCtorEq, not_false_eq_true, true_and, cok12, cok13, lf4_b, textI_app] | simp (disch := first | omega | (simp only [LN_]; omega)) only [wrap_id, str_add3] | with_reducible refine cD (lLines ?_ ?_) | ((with_reducible first | refine grd_cases (fun h => ?_) (fun h => ?_) | refine condC_split (fun h => ?_) (fun h => ?_)) <;> (try simp only [h]) <;> (try simp only [NR_, NRb] at h)) | omega)
    exact ⟨i + 1, St_le_same (by simp only [dash_snoc]; exact leA) id, hin, by omega⟩
   ·simp only [deepT4, if_true] at *
    repeat' (first | (with_reducible first | refine AW_seqA (AW_block ?_) | refine AW_seqA (AW_seqA ?_) | refine AW_seq ?_ | refine AW_runReg ?_ | refine AW_runCond ?_) | simp only [WL, intF, WM, ne_eq, reduceCtorEq, not_false_eq_true, true_and, cok12, cok13] | with_reducible refine cD (lLines ?_ ?_) | ((with_reducible first | refine grd_cases (fun h => ?_) (fun h => ?_) | refine condC_split (fun h => ?_) (fun h => ?_)) <;> (try simp only [h]) <;> (try simp only [NR_, NRb] at h)) | omega)
    refine loop_by (fun k : Nat => ⟨(I n :: B true :: .any::.any::.any::B true :: .raw (.string (textI (mapT i ++ List.replicate k 32))) :: I i :: I k :: .any::.any::.any::.any::.any::.any::.any::.any::.any::.any::.any::.any::.any::.any::.any::.any::.any::.any::.any::.any::.any::.any::.any::.any::.any::.any::.any::.any::.any::.any::.any::.any::.any::.any::.any::.any::.any::.any::.any::.any::.any::.any::.any::.any::.any::.any::.any::.any::.any::.any::.any::.any::.any::.any::.any::.any::.any::.any::.any::.any::.any::.any::.any::.any::.any::.any::[]), [], true, []⟩) (fun k => k ≤ i) (fun k => i - k) 0 ?_ (Nat.zero_le _) ?_
    ·exact St_le_same (by simp only [List.replicate_zero, List.append_nil]; exact leA) id
    intro k hk
    have hAk : (textI (mapT i ++ List.replicate k 32)).size = (mapT i).length + k := by
     rw [asc_size ⟨by rw [List.length_append, List.length_replicate]; have := mapT_len i (by omega); omega, fun c hc => by rcases List.mem_append.1 hc with h | h; exact hA.2 c h; have := List.eq_of_mem_replicate h; omega⟩, List.length_append, List.length_replicate]
    rcases Nat.lt_or_ge k i with hki | hki
    ·skip
     repeat' (first | simp only [WL, intF, strF, WM, ne_eq, reduceCtorEq, not_false_eq_true, lf4_s, textI_app] | simp (disch := first | omega | (simp only [LN_]; omega)) only [wrap_id, str_add3] | ((with_reducible first | refine grd_cases (fun h => ?_) (fun h => ?_) | refine condC_split (fun h => ?_) (fun h => ?_)) <;> (try simp only [h]) <;> (try simp only [NR_, NRb] at h)) | omega)
     exact ⟨k + 1, St_le_same (by simp only [List.replicate_succ', List.append_assoc]; exact leA) id, hki, by omega⟩
    ·obtain rfl : k = i := by omega
     repeat' (first | simp only [WL, intF, strF, WM, ne_eq, reduceCtorEq, not_false_eq_true, lf4_a, textI_app] | simp (disch := first | omega | (simp only [LN_]; omega)) only [wrap_id, str_add3] | ((with_reducible first | refine grd_cases (fun h => ?_) (fun h => ?_) | refine condC_split (fun h => ?_) (fun h => ?_)) <;> (try simp only [h]) <;> (try simp only [NR_, NRb] at h)) | omega)
     repeat' (first | with_reducible refine AW_runReg ?_ | simp only [WL, intF, WM, ne_eq, reduceCtorEq, not_false_eq_true] | simp (disch := first | omega | (simp only [LN_]; omega)) only [wrap_id])
     exact ⟨k + 1, St_le_same (by simp only [mapT, List.append_assoc]; exact leA) id, hin, by omega⟩
  ·obtain rfl : i = n := by omega
   have hAb : Asc (bytesI (textI (deepT4 b i))) := by rw [asc_text hA]; exact hA
   have hln : (readR (bytesI (textI (deepT4 b i)))).1 = deepL4 b i := by
    rw [asc_text hA]
    cases b
    ·exact dash_lines (by omega)
    ·exact mapT_lines i
   have hsm : Small (deepL4 b i) := by
    cases b
    ·exact one_small (by rw [dash_len]; omega)
    ·exact mapL_small (by omega)
   have hr0 : (0 : Int) ≤ 0 ∧ (0 : Int) < (deepL4 b i).length := by
    cases b
    ·exact ⟨by decide, by show (0 : Int) < (oneL (dashT i)).length; simp⟩
    ·exact ⟨by decide, by show (0 : Int) < (mapL i).length; rw [map_len]; omega⟩
   have hc0 : (0 : Int) ≤ 0 ∧ 0 - (lineP (deepL4 b i) 0).1 ≤ (lineP (deepL4 b i) 0).2.length := by
    have := (hsm.at_ (i := 0) (by omega)).2.1
    refine ⟨by decide, ?_⟩
    show 0 - ((deepL4 b i).getD 0 (0, [])).1 ≤ _
    omega
   obtain ⟨w1, w2⟩ := deep4 (b := b) (n := i) (by omega)
   generalize hTT : deepT4 b i = TT at *
   generalize hLL : deepL4 b i = LL at *
   rcases Nat.lt_or_ge 200 i with hg | hg
   ·have w2 := w2 hg
    repeat' (first | (with_reducible first | refine AW_seqA (AW_block ?_) | refine AW_seqA (AW_seqA ?_) | refine AW_seq ?_ | refine AW_runReg ?_ | refine AW_runCond ?_ | refine AW_runRet ?_) | simp only [WL, intF, strF, WM, reduceCtorEq, WLb, Nat.reduceAdd, Nat.reduceLT, Bool.not_true, beq_self_eq_true, true_and, reduceIte, Bool.false_eq_true, T24, cok12, cok13, cok14, Tryz.results5, hln] | simp (disch := first | omega | (simp only [LN_]; omega)) only [wrap_id] | (with_reducible first | refine cD (lLines hAb ?_) | refine callD_mk (zNodeEr0 w2 hsm hr0 hc0 ?_) | refine cD (lNum4 ?_)) | ((with_reducible first | refine grd_cases (fun h => ?_) (fun h => ?_) | refine condC_split (fun h => ?_) (fun h => ?_)) <;> (try simp only [h]) <;> (try simp only [NR_, NRb] at h)) | omega)
    all_goals first
     | exact leafL sub_rfl (leT_eq rfl) rfl
     | (exfalso; omega)
   ·obtain ⟨ev, k, w4, w3⟩ := w1 hg
    clear w1
    cases b
    all_goals
     simp only [Bool.false_eq_true, if_false, if_true] at w3
     repeat' (first | (with_reducible first | refine AW_seqA (AW_block ?_) | refine AW_seqA (AW_seqA ?_) | refine AW_seq ?_ | refine AW_runReg ?_ | refine AW_runCond ?_ | refine AW_runRet ?_) | simp only [WL, intF, strF, WM, reduceCtorEq, WLb, Nat.reduceAdd, Nat.reduceLT, Bool.not_true, beq_self_eq_true, true_and, reduceIte, Bool.false_eq_true, T24, cok12, cok13, cok14, Tryz.results5, hln] | simp (disch := first | omega | (simp only [LN_]; omega)) only [wrap_id] | (with_reducible first | refine cD (lLines hAb ?_) | refine callD_mk (zNodeOk0 w4 hsm hr0 hc0 (fun rb rc cs hrc => ?_)) | refine cD (lNum4 ?_)) | ((with_reducible first | refine grd_cases (fun h => ?_) (fun h => ?_) | refine condC_split (fun h => ?_) (fun h => ?_)) <;> (try simp only [h]) <;> (try simp only [NR_, NRb] at h)) | omega)
    all_goals first
     | exact leafL (sub_cons sub_rfl) (leT_eq (congrArg B (beq_iff_eq.2 (by omega)))) rfl
     | (exfalso; omega)
 ·skip
  refine ACallF.dropL (ACallF_intro Tryz.func5 rfl ?_)
  simp only [Tryz.ntmps5]
  repeat' (first | simp only [WL, intF, WM, reduceCtorEq, WLb, Nat.reduceAdd, Nat.reduceSub, Bool.not_true, Bool.not_false, true_and, reduceIte, Bool.false_eq_true, cok10, Tryz.results5] | with_reducible refine cD (lAlive4 ?_) | ((with_reducible first | refine grd_cases (fun h => ?_) (fun h => ?_) | refine condC_split (fun h => ?_) (fun h => ?_)) <;> (try simp only [h]) <;> (try simp only [NR_, NRb] at h)) | omega)
  all_goals first
   | exact leafL sub_rfl (leT_eq rfl) rfl
   | (exfalso; omega)
end Go.Proofs.YthkabaiamcjdbaaGreat
