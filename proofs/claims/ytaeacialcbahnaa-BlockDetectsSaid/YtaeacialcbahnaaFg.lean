/-
  Walks: chapter 6, texts of whole lines.
-/
import Derived.Test.YtaeacialcbahnaaFd
namespace Go.Proofs.Ytaeacialcbahnaa
open Go.Abs
set_option linter.unusedVariables false
set_option linter.unusedSimpArgs false
-- hb: 4000000
variable {κ : Ctx} {σ : List Res} {K : Ret → List Res → Prop} {o o' : Option (Option (Nat × Nat))}

-- fold.Literal
set_option maxHeartbeats 4000000 in
theorem literal1 {l : List (List Int)} {c : Int} (hl : tot l ≤ 1000000000) (hK : K (.ret (SI none (litF l c))) σ) : ACallF κ Try.prog 68 [SSI o l, I c] σ K := by
  have hlen := tot_len l
  have hfl := fullN_le l
  have hel := endsC_len l.length (fullN l) c hfl
  have hmin : (l.take (fullN l)).length = fullN l := by simp; omega
  refine ACallF.dropL (ACallF_intro Try.func68 rfl ?_)
  simp only [Try.ntmps68]
  repeat' (first
    | simp only [WL, intF, strF, WM, Int.reduceToNat, ne_eq, reduceCtorEq, not_false_eq_true, Nat.reduceAdd, Nat.reduceSub, Nat.reduceLT, Nat.reduceLeDiff, Nat.reduceEqDiff, Bool.not_true, Bool.not_false, beq_self_eq_true, true_and, and_true, reduceIte, Bool.false_eq_true, T3, T4, T24, T69, cok100, cok101, Try.results68, hmin]
    | simp (disch := first | omega | (simp only [LN_]; omega)) only [wrap_id, getI]
    | with_reducible first | refine andA (hb := ?_) | refine y_load (hK := ?_) | refine y_appN ?_ | refine y_appS ?_ | refine y_app (hlen := ?_) (hmax := ?_) (hK := fun tk => ?_) | refine y_bs0 ?_ | refine y_bs (hK := ?_) | refine cD (full1 ?_ ?_) | refine cD (ends1 (by omega) (by omega) ?_)
    | with_reducible refine y_nil (hK := ?_)
    | (with_reducible refine nilTC_split (fun h => ?_) (fun h bn => ?_) <;> (try simp only [List.length_map] at h))
    | ((with_reducible first | refine grd_cases (fun h => ?_) (fun h => ?_) | refine condC_split (fun h => ?_) (fun h => ?_)) <;> (try simp only [h]) <;> (try simp only [NR_, Bool.not_true, Bool.not_false, Bool.not_eq_eq_eq_not, ne_eq] at h))
    | omega | (simp only [LN_]; omega) | (refine maxLen_ok ?_; (first | omega | (simp only [LN_]; omega))))
  refine loop_by (fun x : Nat × List Int × Option (Nat × Nat) => ⟨(SSI o l :: I c :: .any :: .any :: .any :: I (fullN l : Nat) :: SI (some x.2.2) x.2.1 :: .any :: .any :: .any :: .any :: .any :: .any :: SSI none (l.take (fullN l)) :: I (fullN l : Nat) :: I x.1 :: .any :: .any :: .any :: .any :: .any :: .any :: .any :: .any :: .any :: .any :: .any :: .any :: .any :: .any :: .any :: .any :: .any :: .any :: .any :: .any :: []), .tip x.2.2 :: σ, true, []⟩)
    (fun x => x.1 ≤ fullN l ∧ litGo true (l.take (fullN l)) = x.2.1 ++ litGo (decide (x.1 = 0)) ((l.take (fullN l)).drop x.1) ∧ (x.1 = 0 → x.2.1 = [])) (fun x => fullN l - x.1) (0, [], none) (St_leW (by repeat (first | exact trivial | refine ⟨le_rfl, ?_⟩ | refine ⟨le_any, ?_⟩ | refine ⟨le_ro, ?_⟩ | refine ⟨le_nil (by decide), ?_⟩ | refine ⟨le_wrap (by omega) (by omega) (by omega), ?_⟩ | refine ⟨le_int (by omega), ?_⟩ | refine ⟨le_eq (by simp), ?_⟩)) ResW.void id) ⟨Nat.zero_le _, by simp, fun _ => rfl⟩ ?_
  rintro ⟨k, out, tk⟩ ⟨h1, h2, h3⟩
  dsimp only at h1 h2 h3 ⊢
  have ho := lit_out h2
  have e1 : k < fullN l → k < (l.take (fullN l)).length := fun h => by simp; omega
  have e2 := tot_get (l := l) k
  rcases Nat.lt_or_ge k (fullN l) with hk | hk
  · rw [take_drop_cons hk hfl] at h2 ho
    have e3 := getD_take (l := l) hk
    rcases Nat.eq_zero_or_pos k with rfl | hk0
    · simp only [decide_true, litGo_first] at h2 ho
      simp only [List.length_append] at ho
      repeat' (first
        | simp only [WL, intF, strF, WM, Int.reduceToNat, ne_eq, reduceCtorEq, not_false_eq_true, Nat.reduceAdd, Nat.reduceSub, Nat.reduceLT, Nat.reduceLeDiff, Nat.reduceEqDiff, Bool.not_true, Bool.not_false, beq_self_eq_true, true_and, and_true, reduceIte, Bool.false_eq_true, T3, T4, T24, T69, cok100, cok101, Try.results68, e3]
        | simp (disch := first | omega | (simp only [LN_]; omega)) only [wrap_id, getI, getS]
        | with_reducible first | refine andA (hb := ?_) | refine y_load (hK := ?_) | refine y_appN ?_ | refine y_appS ?_ | refine y_app (hlen := ?_) (hmax := ?_) (hK := fun tk => ?_) | refine y_bs0 ?_ | refine y_bs (hK := ?_) | refine cD (full1 ?_ ?_) | refine cD (ends1 (by omega) (by omega) ?_)
        | with_reducible refine y_nil (hK := ?_)
        | (with_reducible refine nilTC_split (fun h => ?_) (fun h bn => ?_) <;> (try simp only [List.length_map] at h))
        | ((with_reducible first | refine grd_cases (fun h => ?_) (fun h => ?_) | refine condC_split (fun h => ?_) (fun h => ?_)) <;> (try simp only [h]) <;> (try simp only [NR_, Bool.not_true, Bool.not_false, Bool.not_eq_eq_eq_not, ne_eq] at h))
        | omega | (simp only [LN_]; omega) | (refine maxLen_ok ?_; (first | omega | (simp only [LN_]; omega))))
      exact ⟨(1, out ++ l.getD 0 [], tk), St_leW (by repeat (first | exact trivial | refine ⟨le_rfl, ?_⟩ | refine ⟨le_any, ?_⟩ | refine ⟨le_ro, ?_⟩ | refine ⟨le_nil (by decide), ?_⟩ | refine ⟨le_wrap (by omega) (by omega) (by omega), ?_⟩ | refine ⟨le_int (by omega), ?_⟩ | refine ⟨le_eq (by simp), ?_⟩)) (ResW.refl _) id, ⟨by dsimp only; omega, by rw [h2]; simp, fun h => by omega⟩, by dsimp only; omega⟩
    · have hk1 : ¬ k = 0 := by omega
      simp only [decide_eq_false hk1, litGo_next] at h2 ho
      simp only [List.length_append, List.length_cons] at ho
      repeat' (first
        | simp only [WL, intF, strF, WM, Int.reduceToNat, ne_eq, reduceCtorEq, not_false_eq_true, Nat.reduceAdd, Nat.reduceSub, Nat.reduceLT, Nat.reduceLeDiff, Nat.reduceEqDiff, Bool.not_true, Bool.not_false, beq_self_eq_true, true_and, and_true, reduceIte, Bool.false_eq_true, T3, T4, T24, T69, cok100, cok101, Try.results68, e3]
        | simp (disch := first | omega | (simp only [LN_]; omega)) only [wrap_id, getI, getS]
        | with_reducible first | refine andA (hb := ?_) | refine y_load (hK := ?_) | refine y_appN ?_ | refine y_appS ?_ | refine y_app (hlen := ?_) (hmax := ?_) (hK := fun tk => ?_) | refine y_bs0 ?_ | refine y_bs (hK := ?_) | refine cD (full1 ?_ ?_) | refine cD (ends1 (by omega) (by omega) ?_)
        | with_reducible refine y_nil (hK := ?_)
        | (with_reducible refine nilTC_split (fun h => ?_) (fun h bn => ?_) <;> (try simp only [List.length_map] at h))
        | ((with_reducible first | refine grd_cases (fun h => ?_) (fun h => ?_) | refine condC_split (fun h => ?_) (fun h => ?_)) <;> (try simp only [h]) <;> (try simp only [NR_, Bool.not_true, Bool.not_false, Bool.not_eq_eq_eq_not, ne_eq] at h))
        | omega | (simp only [LN_]; omega) | (refine maxLen_ok ?_; (first | omega | (simp only [LN_]; omega))))
      exact ⟨(k + 1, out ++ 10 :: l.getD k [], tk), St_leW (by repeat (first | exact trivial | refine ⟨le_rfl, ?_⟩ | refine ⟨le_any, ?_⟩ | refine ⟨le_ro, ?_⟩ | refine ⟨le_nil (by decide), ?_⟩ | refine ⟨le_wrap (by omega) (by omega) (by omega), ?_⟩ | refine ⟨le_int (by omega), ?_⟩ | refine ⟨le_eq (by simp), ?_⟩)) (ResW.refl _) id, ⟨by dsimp only; omega, by rw [h2]; simp, fun h => by omega⟩, by dsimp only; omega⟩
  · rw [List.drop_eq_nil_of_le (by simp; omega)] at h2
    have e4 : ∀ b, litGo b [] = [] := fun b => rfl
    rw [e4, List.append_nil] at h2
    repeat' (first
      | simp only [WL, intF, strF, WM, Int.reduceToNat, ne_eq, reduceCtorEq, not_false_eq_true, Nat.reduceAdd, Nat.reduceSub, Nat.reduceLT, Nat.reduceLeDiff, Nat.reduceEqDiff, Bool.not_true, Bool.not_false, beq_self_eq_true, true_and, and_true, reduceIte, Bool.false_eq_true, T3, T4, T24, T69, cok100, cok101, Try.results68]
      | simp (disch := first | omega | (simp only [LN_]; omega)) only [wrap_id, getI]
      | with_reducible first | refine andA (hb := ?_) | refine y_load (hK := ?_) | refine y_appN ?_ | refine y_appS ?_ | refine y_app (hlen := ?_) (hmax := ?_) (hK := fun tk => ?_) | refine y_bs0 ?_ | refine y_bs (hK := ?_) | refine cD (full1 ?_ ?_) | refine cD (ends1 (by omega) (by omega) ?_)
      | with_reducible refine y_nil (hK := ?_)
      | (with_reducible refine nilTC_split (fun h => ?_) (fun h bn => ?_) <;> (try simp only [List.length_map] at h))
      | ((with_reducible first | refine grd_cases (fun h => ?_) (fun h => ?_) | refine condC_split (fun h => ?_) (fun h => ?_)) <;> (try simp only [h]) <;> (try simp only [NR_, Bool.not_true, Bool.not_false, Bool.not_eq_eq_eq_not, ne_eq] at h))
      | omega | (simp only [LN_]; omega) | (refine maxLen_ok ?_; (first | omega | (simp only [LN_]; omega))))
    exact leafL (sub_cons sub_rfl) (leT_le (by rw [litF, h2]; simp only [SI, List.map_append]; exact le_ro)) hK

def lastV : Option (List Int) → AV
  | none => nilS
  | some t => SI none t

-- fold.Block
set_option maxHeartbeats 4000000 in
theorem block1 {l : List (List Int)} {c : Int} (hl : tot l ≤ 1000000000) (hK : K (.ret (SI none (blkF l c))) σ) : ACallF κ Try.prog 69 [SSI o l, I c] σ K := by
  have hlen := tot_len l
  have hfl := fullN_le l
  have hel := endsC_len l.length (fullN l) c hfl
  have hmin : (l.take (fullN l)).length = fullN l := by simp; omega
  refine ACallF.dropL (ACallF_intro Try.func69 rfl ?_)
  simp only [Try.ntmps69]
  repeat' (first
    | simp only [WL, intF, strF, WM, Int.reduceToNat, ne_eq, reduceCtorEq, not_false_eq_true, Nat.reduceAdd, Nat.reduceSub, Nat.reduceLT, Nat.reduceLeDiff, Nat.reduceEqDiff, Bool.not_true, Bool.not_false, beq_self_eq_true, true_and, and_true, reduceIte, Bool.false_eq_true, T3, T4, T24, T69, cok100, cok101, cok102, cok103, cok104, Try.results69, hmin]
    | simp (disch := first | omega | (simp only [LN_]; omega)) only [wrap_id, getI]
    | with_reducible first | refine andA (hb := ?_) | refine y_load (hK := ?_) | refine y_appN ?_ | refine y_appS ?_ | refine y_app (hlen := ?_) (hmax := ?_) (hK := fun tk => ?_) | refine y_bs0 ?_ | refine y_bs (hK := ?_) | refine cD (full1 ?_ ?_) | refine cD (ends1 (by omega) (by omega) ?_) | refine cD (repeat1 (by omega) ?_) | refine cD (spaced1 ?_ ?_) | refine cD (between1 (by omega) ?_)
    | with_reducible refine y_nil (hK := ?_)
    | (with_reducible refine nilTC_split (fun h => ?_) (fun h bn => ?_) <;> (try simp only [List.length_map] at h))
    | ((with_reducible first | refine grd_cases (fun h => ?_) (fun h => ?_) | refine condC_split (fun h => ?_) (fun h => ?_)) <;> (try simp only [h]) <;> (try simp only [NR_, Bool.not_true, Bool.not_false, Bool.not_eq_eq_eq_not, ne_eq] at h))
    | omega | (simp only [LN_]; omega) | (refine maxLen_ok ?_; (first | omega | (simp only [LN_]; omega))))
  refine loop_by (fun x : Nat × List Int × Option (List Int) × Nat × Option (Nat × Nat) => ⟨(SSI o l :: I c :: .any :: .any :: .any :: I (fullN l : Nat) :: SI (some x.2.2.2.2) x.2.1 :: lastV x.2.2.1 :: I x.2.2.2.1 :: .any :: .any :: .any :: .any :: .any :: .any :: SSI none (l.take (fullN l)) :: I (fullN l : Nat) :: I x.1 :: .any :: .any :: .any :: .any :: .any :: .any :: .any :: .any :: .any :: .any :: .any :: .any :: .any :: .any :: .any :: .any :: .any :: .any :: .any :: .any :: .any :: .any :: .any :: .any :: .any :: .any :: .any :: .any :: .any :: .any :: .any :: .any :: .any :: .any :: .any :: .any :: .any :: .any :: .any :: .any :: .any :: .any :: .any :: []), .tip x.2.2.2.2 :: σ, true, []⟩)
    (fun x => x.1 ≤ fullN l ∧ blkGo none 0 (l.take (fullN l)) = x.2.1 ++ blkGo x.2.2.1 x.2.2.2.1 ((l.take (fullN l)).drop x.1) ∧ (x.2.2.1 = none → x.2.1 = []) ∧ (∀ t, x.2.2.1 = some t → 0 < t.length ∧ t.length ≤ tot l) ∧ x.2.2.2.1 ≤ x.1) (fun x => fullN l - x.1) (0, [], none, 0, none) (St_leW (by repeat (first | exact trivial | refine ⟨le_rfl, ?_⟩ | refine ⟨le_any, ?_⟩ | refine ⟨le_ro, ?_⟩ | refine ⟨le_nil (by decide), ?_⟩ | refine ⟨le_wrap (by omega) (by omega) (by omega), ?_⟩ | refine ⟨le_int (by omega), ?_⟩ | refine ⟨le_eq (by simp), ?_⟩)) ResW.void id) ⟨Nat.zero_le _, by simp, fun _ => rfl, fun t h => (by cases h), Nat.le_refl _⟩ ?_
  rintro ⟨k, out, s, e, tk⟩ ⟨h1, h2, h3, h5, h6⟩
  dsimp only at h1 h2 h3 h5 h6 ⊢
  have ho := blk_out h2
  have e1 : k < fullN l → k < (l.take (fullN l)).length := fun h => by simp; omega
  have e2 := tot_get (l := l) k
  have hb0 := between_len e
  have hb1 := between_len (e + 1)
  rcases Nat.lt_or_ge k (fullN l) with hk | hk
  · rw [take_drop_cons hk hfl] at h2 ho
    have e3 := getD_take (l := l) hk
    by_cases ht : l.getD k [] = []
    · rw [blkGo_empty ht] at h2
      have ht2 : (l.getD k []).length = 0 := by rw [ht]; rfl
      repeat' (first
        | simp only [WL, intF, strF, WM, Int.reduceToNat, ne_eq, reduceCtorEq, not_false_eq_true, Nat.reduceAdd, Nat.reduceSub, Nat.reduceLT, Nat.reduceLeDiff, Nat.reduceEqDiff, Bool.not_true, Bool.not_false, beq_self_eq_true, true_and, and_true, reduceIte, Bool.false_eq_true, T3, T4, T24, T69, cok100, cok101, cok102, cok103, cok104, Try.results69, e3]
        | simp (disch := first | omega | (simp only [LN_]; omega)) only [wrap_id, getI, getS]
        | with_reducible first | refine andA (hb := ?_) | refine y_load (hK := ?_) | refine y_appN ?_ | refine y_appS ?_ | refine y_app (hlen := ?_) (hmax := ?_) (hK := fun tk => ?_) | refine y_bs0 ?_ | refine y_bs (hK := ?_) | refine cD (full1 ?_ ?_) | refine cD (ends1 (by omega) (by omega) ?_) | refine cD (repeat1 (by omega) ?_) | refine cD (spaced1 ?_ ?_) | refine cD (between1 (by omega) ?_)
        | with_reducible refine y_nil (hK := ?_)
        | (with_reducible refine nilTC_split (fun h => ?_) (fun h bn => ?_) <;> (try simp only [List.length_map] at h))
        | ((with_reducible first | refine grd_cases (fun h => ?_) (fun h => ?_) | refine condC_split (fun h => ?_) (fun h => ?_)) <;> (try simp only [h]) <;> (try simp only [NR_, Bool.not_true, Bool.not_false, Bool.not_eq_eq_eq_not, ne_eq] at h))
        | omega | (simp only [LN_]; omega) | (refine maxLen_ok ?_; (first | omega | (simp only [LN_]; omega))))
      exact ⟨(k + 1, out, s, e + 1, tk), St_leW (by repeat (first | exact trivial | refine ⟨le_rfl, ?_⟩ | refine ⟨le_any, ?_⟩ | refine ⟨le_ro, ?_⟩ | refine ⟨le_nil (by decide), ?_⟩ | refine ⟨le_wrap (by omega) (by omega) (by omega), ?_⟩ | refine ⟨le_int (by omega), ?_⟩ | refine ⟨le_eq (by simp), ?_⟩)) (ResW.refl _) id, ⟨by dsimp only; omega, h2, h3, h5, by dsimp only; omega⟩, by dsimp only; omega⟩
    · rw [blkGo_cons ht] at h2 ho
      have ht2 : 0 < (l.getD k []).length := by
        rcases Nat.eq_zero_or_pos (l.getD k []).length with h | h
        · exact (ht (List.eq_nil_of_length_eq_zero h)).elim
        · exact h
      simp only [List.length_append] at ho
      cases s with
      | none =>
        obtain rfl := h3 rfl
        simp only [sep, lastV] at h2 ho ⊢
        have hc : (k + 1 : Int).toNat = k + 1 := by omega
        repeat' (first
          | simp only [WL, intF, strF, WM, Int.reduceToNat, ne_eq, reduceCtorEq, not_false_eq_true, Nat.reduceAdd, Nat.reduceSub, Nat.reduceLT, Nat.reduceLeDiff, Nat.reduceEqDiff, Bool.not_true, Bool.not_false, beq_self_eq_true, true_and, and_true, reduceIte, Bool.false_eq_true, T3, T4, T24, T69, cok100, cok101, cok102, cok103, cok104, Try.results69, e3]
          | simp (disch := first | omega | (simp only [LN_]; omega)) only [wrap_id, getI, getS]
          | with_reducible first | refine andA (hb := ?_) | refine y_load (hK := ?_) | refine y_appN ?_ | refine y_appS ?_ | refine y_app (hlen := ?_) (hmax := ?_) (hK := fun tk => ?_) | refine y_bs0 ?_ | refine y_bs (hK := ?_)
          | ( refine callD_mk (repeat1o (c := 10) (by omega) (fun tk => ?_)))
          | with_reducible first | refine cD (full1 ?_ ?_) | refine cD (ends1 (by omega) (by omega) ?_) | refine cD (repeat1 (by omega) ?_) | refine cD (spaced1 ?_ ?_) | refine cD (between1 (by omega) ?_)
          | with_reducible refine y_nil (hK := ?_)
          | (with_reducible refine nilTC_split (fun h => ?_) (fun h bn => ?_) <;> (try simp only [List.length_map] at h))
          | ((with_reducible first | refine grd_cases (fun h => ?_) (fun h => ?_) | refine condC_split (fun h => ?_) (fun h => ?_)) <;> (try simp only [h]) <;> (try simp only [NR_, Bool.not_true, Bool.not_false, Bool.not_eq_eq_eq_not, ne_eq] at h))
          | omega | (simp only [LN_]; omega) | (refine maxLen_ok ?_; (first | omega | (simp only [LN_]; omega))))
        exact ⟨(k + 1, List.replicate e 10 ++ l.getD k [], some (l.getD k []), 0, _), St_leW (by simp only [lastV]; repeat (first | exact trivial | refine ⟨le_rfl, ?_⟩ | refine ⟨le_any, ?_⟩ | refine ⟨le_ro, ?_⟩ | refine ⟨le_nil (by decide), ?_⟩ | refine ⟨le_wrap (by omega) (by omega) (by omega), ?_⟩ | refine ⟨le_int (by omega), ?_⟩ | refine ⟨le_eq (by simp), ?_⟩)) (ResW.cons _ (ResW.sub (List.sublist_cons_self _ _))) id, ⟨by dsimp only; omega, by rw [h2]; simp, fun h => (by cases h), fun t h => (by cases h; exact ⟨ht2, e2⟩), by dsimp only; omega⟩, by dsimp only; omega⟩
      | some t =>
        obtain ⟨h7, h8⟩ := h5 t rfl
        have ne1 : ((e : Int) + 1) = ((e + 1 : Nat) : Int) := by omega
        have hs := sep_len (some t) e (l.getD k [])
        simp only [sep] at h2 ho hs
        simp only [lastV]
        repeat' (first
          | simp only [WL, intF, strF, WM, Int.reduceToNat, ne_eq, reduceCtorEq, not_false_eq_true, Nat.reduceAdd, Nat.reduceSub, Nat.reduceLT, Nat.reduceLeDiff, Nat.reduceEqDiff, Bool.not_true, Bool.not_false, beq_self_eq_true, true_and, and_true, reduceIte, Bool.false_eq_true, T3, T4, T24, T69, cok100, cok101, cok102, cok103, cok104, Try.results69, e3, ne1]
          | simp (disch := first | omega | (simp only [LN_]; omega)) only [wrap_id, getI, getS]
          | with_reducible first | refine andA (hb := ?_) | refine y_load (hK := ?_) | refine y_appN ?_ | refine y_appS ?_ | refine y_app (hlen := ?_) (hmax := ?_) (hK := fun tk => ?_) | refine y_bs0 ?_ | refine y_bs (hK := ?_) | refine cD (full1 ?_ ?_) | refine cD (ends1 (by omega) (by omega) ?_) | refine cD (repeat1 (by omega) ?_) | refine cD (spaced1 ?_ ?_) | refine cD (between1 (by omega) ?_)
          | with_reducible refine y_nil (hK := ?_)
          | (with_reducible refine nilTC_split (fun h => ?_) (fun h bn => ?_) <;> (try simp only [List.length_map] at h))
          | ((with_reducible first | refine grd_cases (fun h => ?_) (fun h => ?_) | refine condC_split (fun h => ?_) (fun h => ?_)) <;> (try simp only [h]) <;> (try simp only [NR_, Bool.not_true, Bool.not_false, Bool.not_eq_eq_eq_not, ne_eq] at h))
          | omega | (simp only [LN_]; omega) | (refine maxLen_ok ?_; (first | omega | (simp only [LN_]; omega))))
        · rw [if_pos (by simp only [*, Bool.or_true, Bool.true_or])] at h2
          exact ⟨(k + 1, out ++ (between (e + 1) ++ l.getD k []), some (l.getD k []), 0, _), St_leW (by simp only [lastV]; repeat (first | exact trivial | refine ⟨le_rfl, ?_⟩ | refine ⟨le_any, ?_⟩ | refine ⟨le_ro, ?_⟩ | refine ⟨le_nil (by decide), ?_⟩ | refine ⟨le_wrap (by omega) (by omega) (by omega), ?_⟩ | refine ⟨le_int (by omega), ?_⟩ | refine ⟨le_eq (by simp), ?_⟩)) (ResW.refl _) id, ⟨by dsimp only; omega, by rw [h2]; simp only [List.append_assoc], fun h => (by cases h), fun t h => (by cases h; exact ⟨ht2, e2⟩), by dsimp only; omega⟩, by dsimp only; omega⟩
        · rw [if_neg (by simp only [*, Bool.or_self]; decide)] at h2
          exact ⟨(k + 1, out ++ (between e ++ l.getD k []), some (l.getD k []), 0, _), St_leW (by simp only [lastV]; repeat (first | exact trivial | refine ⟨le_rfl, ?_⟩ | refine ⟨le_any, ?_⟩ | refine ⟨le_ro, ?_⟩ | refine ⟨le_nil (by decide), ?_⟩ | refine ⟨le_wrap (by omega) (by omega) (by omega), ?_⟩ | refine ⟨le_int (by omega), ?_⟩ | refine ⟨le_eq (by simp), ?_⟩)) (ResW.refl _) id, ⟨by dsimp only; omega, by rw [h2]; simp only [List.append_assoc], fun h => (by cases h), fun t h => (by cases h; exact ⟨ht2, e2⟩), by dsimp only; omega⟩, by dsimp only; omega⟩
        · rw [if_pos (by simp only [*, Bool.or_true, Bool.true_or])] at h2
          exact ⟨(k + 1, out ++ (between (e + 1) ++ l.getD k []), some (l.getD k []), 0, _), St_leW (by simp only [lastV]; repeat (first | exact trivial | refine ⟨le_rfl, ?_⟩ | refine ⟨le_any, ?_⟩ | refine ⟨le_ro, ?_⟩ | refine ⟨le_nil (by decide), ?_⟩ | refine ⟨le_wrap (by omega) (by omega) (by omega), ?_⟩ | refine ⟨le_int (by omega), ?_⟩ | refine ⟨le_eq (by simp), ?_⟩)) (ResW.refl _) id, ⟨by dsimp only; omega, by rw [h2]; simp only [List.append_assoc], fun h => (by cases h), fun t h => (by cases h; exact ⟨ht2, e2⟩), by dsimp only; omega⟩, by dsimp only; omega⟩
  · rw [List.drop_eq_nil_of_le (by simp; omega)] at h2
    have e4 : ∀ s e, blkGo s e [] = [] := fun s e => rfl
    rw [e4, List.append_nil] at h2
    repeat' (first
      | simp only [WL, intF, strF, WM, Int.reduceToNat, ne_eq, reduceCtorEq, not_false_eq_true, Nat.reduceAdd, Nat.reduceSub, Nat.reduceLT, Nat.reduceLeDiff, Nat.reduceEqDiff, Bool.not_true, Bool.not_false, beq_self_eq_true, true_and, and_true, reduceIte, Bool.false_eq_true, T3, T4, T24, T69, cok100, cok101, cok102, cok103, cok104, Try.results69]
      | simp (disch := first | omega | (simp only [LN_]; omega)) only [wrap_id, getI]
      | with_reducible first | refine andA (hb := ?_) | refine y_load (hK := ?_) | refine y_appN ?_ | refine y_appS ?_ | refine y_app (hlen := ?_) (hmax := ?_) (hK := fun tk => ?_) | refine y_bs0 ?_ | refine y_bs (hK := ?_) | refine cD (full1 ?_ ?_) | refine cD (ends1 (by omega) (by omega) ?_) | refine cD (repeat1 (by omega) ?_) | refine cD (spaced1 ?_ ?_) | refine cD (between1 (by omega) ?_)
      | with_reducible refine y_nil (hK := ?_)
      | (with_reducible refine nilTC_split (fun h => ?_) (fun h bn => ?_) <;> (try simp only [List.length_map] at h))
      | ((with_reducible first | refine grd_cases (fun h => ?_) (fun h => ?_) | refine condC_split (fun h => ?_) (fun h => ?_)) <;> (try simp only [h]) <;> (try simp only [NR_, Bool.not_true, Bool.not_false, Bool.not_eq_eq_eq_not, ne_eq] at h))
      | omega | (simp only [LN_]; omega) | (refine maxLen_ok ?_; (first | omega | (simp only [LN_]; omega))))
    exact leafL (sub_cons sub_rfl) (leT_le (by rw [blkF, h2]; simp only [SI, List.map_append]; exact le_ro)) hK

end Go.Proofs.Ytaeacialcbahnaa
