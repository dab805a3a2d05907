/-
  Walks: code points as bytes; the reference's, and the program's.
-/
import Derived.Test.YtaeacialcbahnaaSu
import Derived.Test.YtaeacialcbahnaaT
namespace Go.Proofs.Ytaeacialcbahnaa
open Go.Abs
set_option linter.unusedVariables false
set_option linter.unusedSimpArgs false
-- hb: 4000000
variable {κ : Ctx} {σ : List Res} {K : Ret → List Res → Prop} {o o' : Option (Option (Nat × Nat))}

-- marginaliaref1.right
set_option maxHeartbeats 4000000 in
theorem rRight {c : Int} (hK : K (.ret (B (rightI c))) σ) : ACallF κ Try.prog 83 [I c] σ K := by
  refine ACallF.dropL (ACallF_intro Try.func83 rfl ?_)
  simp only [Try.ntmps83]
  repeat' (first
    | simp only [WL, intF, strF, WM, Int.reduceToNat, ne_eq, reduceCtorEq, not_false_eq_true, Nat.reduceAdd, Nat.reduceSub, Nat.reduceLT, Nat.reduceLeDiff, Nat.reduceEqDiff, Bool.not_true, Bool.not_false, beq_self_eq_true, true_and, and_true, reduceIte, Bool.false_eq_true, T3, T4, Try.results83]
    | simp (disch := first | omega | (simp only [LN_]; omega)) only [wrap_id, getI]
    | with_reducible first | refine andA (hb := ?_)
    | with_reducible refine y_nil (hK := ?_)
    | (with_reducible refine nilTC_split (fun h => ?_) (fun h bn => ?_) <;> (try simp only [List.length_map] at h))
    | ((with_reducible first | refine grd_cases (fun h => ?_) (fun h => ?_) | refine condC_split (fun h => ?_) (fun h => ?_)) <;> (try simp only [h]) <;> (try simp only [NR_, Bool.not_true, Bool.not_false, Bool.not_eq_eq_eq_not, ne_eq] at h))
    | omega | (simp only [LN_]; omega))
  all_goals (refine leafL sub_rfl (leT_eq (congrArg B ?_)) hK; rw [Bool.eq_iff_iff]; simp only [rightI_iff, decide_eq_true_eq, Bool.false_eq_true, false_iff, true_iff, eq_self]; omega)

-- utf.is
set_option maxHeartbeats 4000000 in
theorem uIs {c : Int} (hK : K (.ret (B (rightI c))) σ) : ACallF κ Try.prog 105 [I c] σ K := by
  refine ACallF.dropL (ACallF_intro Try.func105 rfl ?_)
  simp only [Try.ntmps105]
  repeat' (first
    | simp only [WL, intF, strF, WM, Int.reduceToNat, ne_eq, reduceCtorEq, not_false_eq_true, Nat.reduceAdd, Nat.reduceSub, Nat.reduceLT, Nat.reduceLeDiff, Nat.reduceEqDiff, Bool.not_true, Bool.not_false, beq_self_eq_true, true_and, and_true, reduceIte, Bool.false_eq_true, T3, T4, Try.results105]
    | simp (disch := first | omega | (simp only [LN_]; omega)) only [wrap_id, getI]
    | with_reducible first | refine andA (hb := ?_)
    | with_reducible refine y_nil (hK := ?_)
    | (with_reducible refine nilTC_split (fun h => ?_) (fun h bn => ?_) <;> (try simp only [List.length_map] at h))
    | ((with_reducible first | refine grd_cases (fun h => ?_) (fun h => ?_) | refine condC_split (fun h => ?_) (fun h => ?_)) <;> (try simp only [h]) <;> (try simp only [NR_, Bool.not_true, Bool.not_false, Bool.not_eq_eq_eq_not, ne_eq] at h))
    | omega | (simp only [LN_]; omega))
  all_goals (refine leafL sub_rfl (leT_eq (congrArg B ?_)) hK; rw [Bool.eq_iff_iff]; simp only [rightI_iff, decide_eq_true_eq, Bool.false_eq_true, false_iff, true_iff, eq_self]; omega)

-- marginaliaref1.put
set_option maxHeartbeats 4000000 in
theorem rPut {bs : List Int} {c : Int} {tk : Option (Nat × Nat)} (hb : bs.length ≤ 8000000000) (hK : ∀ tk', K (.ret (SU (some tk') (bs ++ encC c))) (.tip tk' :: σ)) : ACallF κ Try.prog 45 [SU (some tk) bs, I c] (.tip tk :: σ) K := by
  cases hr : rightI c
  ·
    refine ACallF.dropL (ACallF_intro Try.func45 rfl ?_)
    simp only [Try.ntmps45]
    repeat' (first
      | simp only [WL, intF, strF, WM, Int.reduceToNat, ne_eq, reduceCtorEq, not_false_eq_true, Nat.reduceAdd, Nat.reduceSub, Nat.reduceLT, Nat.reduceLeDiff, Nat.reduceEqDiff, Bool.not_true, Bool.not_false, beq_self_eq_true, true_and, and_true, reduceIte, Bool.false_eq_true, T3, T4, T5, T30, cI in5, cok83, Try.results45, hr, fold_or, fold_and, and63, Int.reduceToNat, Int.reducePow]
      | simp (disch := first | omega | (simp only [LN_]; omega)) only [wrap_id, getI, shr_i, or128, or192, or224, or240, wrapu8]
      | with_reducible first | refine andA (hb := ?_) | refine y_appN ?_ | refine y_appS ?_ | refine y_app (hlen := ?_) (hmax := ?_) (hK := fun tk => ?_) | refine y_bs0 ?_ | refine y_bs (hK := ?_) | refine cD (rRight ?_)
      | with_reducible refine y_nil (hK := ?_)
      | (with_reducible refine nilTC_split (fun h => ?_) (fun h bn => ?_) <;> (try simp only [List.length_map] at h))
      | ((with_reducible first | refine grd_cases (fun h => ?_) (fun h => ?_) | refine condC_split (fun h => ?_) (fun h => ?_)) <;> (try simp only [h]) <;> (try simp only [NR_, Bool.not_true, Bool.not_false, Bool.not_eq_eq_eq_not, ne_eq] at h))
      | omega | (simp only [LN_]; omega) | (refine maxLen_ok ?_; (first | omega | (simp only [LN_]; omega))))
    all_goals exact leafL sub_rfl (leT_eq (by simp [encC, fix_no hr, encR])) (hK _)
  · obtain ⟨r1, r2, r3⟩ := rightI_iff.1 hr
    refine ACallF.dropL (ACallF_intro Try.func45 rfl ?_)
    simp only [Try.ntmps45]
    repeat' (first
      | simp only [WL, intF, strF, WM, Int.reduceToNat, ne_eq, reduceCtorEq, not_false_eq_true, Nat.reduceAdd, Nat.reduceSub, Nat.reduceLT, Nat.reduceLeDiff, Nat.reduceEqDiff, Bool.not_true, Bool.not_false, beq_self_eq_true, true_and, and_true, reduceIte, Bool.false_eq_true, T3, T4, T5, T30, cI in5, cok83, Try.results45, hr, fold_or, fold_and, and63, Int.reduceToNat, Int.reducePow]
      | simp (disch := first | omega | (simp only [LN_]; omega)) only [wrap_id, getI, shr_i, or128, or192, or224, or240, wrapu8]
      | with_reducible first | refine andA (hb := ?_) | refine y_appN ?_ | refine y_appS ?_ | refine y_app (hlen := ?_) (hmax := ?_) (hK := fun tk => ?_) | refine y_bs0 ?_ | refine y_bs (hK := ?_) | refine cD (rRight ?_)
      | with_reducible refine y_nil (hK := ?_)
      | (with_reducible refine nilTC_split (fun h => ?_) (fun h bn => ?_) <;> (try simp only [List.length_map] at h))
      | ((with_reducible first | refine grd_cases (fun h => ?_) (fun h => ?_) | refine condC_split (fun h => ?_) (fun h => ?_)) <;> (try simp only [h]) <;> (try simp only [NR_, Bool.not_true, Bool.not_false, Bool.not_eq_eq_eq_not, ne_eq] at h))
      | omega | (simp only [LN_]; omega) | (refine maxLen_ok ?_; (first | omega | (simp only [LN_]; omega))))
    all_goals
      refine leafL sub_rfl (leT_eq ?_) (hK _)
      unfold encC encR
      rw [fix_id hr]
      first
        | rw [if_pos (by omega)]
        | rw [if_neg (by omega), if_pos (by omega)]
        | rw [if_neg (by omega), if_neg (by omega), if_pos (by omega)]
        | rw [if_neg (by omega), if_neg (by omega), if_neg (by omega)]
      simp

-- marginaliaref1.Bytes
set_option maxHeartbeats 4000000 in
theorem rBytes {l : List Int} (hl : l.length ≤ 1000000000) (hK : K (.ret (SU none (encL l))) σ) : ACallF κ Try.prog 17 [SI o l] σ K := by
  refine ACallF.dropL (ACallF_intro Try.func17 rfl ?_)
  simp only [Try.ntmps17]
  repeat' (first
    | simp only [WL, intF, strF, WM, Int.reduceToNat, ne_eq, reduceCtorEq, not_false_eq_true, Nat.reduceAdd, Nat.reduceSub, Nat.reduceLT, Nat.reduceLeDiff, Nat.reduceEqDiff, Bool.not_true, Bool.not_false, beq_self_eq_true, true_and, and_true, reduceIte, Bool.false_eq_true, T3, T4, T5, T24, T30, cok45, Try.results17]
    | simp (disch := first | omega | (simp only [LN_]; omega)) only [wrap_id, getI]
    | with_reducible first | refine andA (hb := ?_) | refine y_load (hK := ?_) | refine cD (rPut ?_ (fun tkp => ?_))
    | with_reducible refine y_nil (hK := ?_)
    | (with_reducible refine nilTC_split (fun h => ?_) (fun h bn => ?_) <;> (try simp only [List.length_map] at h))
    | ((with_reducible first | refine grd_cases (fun h => ?_) (fun h => ?_) | refine condC_split (fun h => ?_) (fun h => ?_)) <;> (try simp only [h]) <;> (try simp only [NR_, Bool.not_true, Bool.not_false, Bool.not_eq_eq_eq_not, ne_eq] at h))
    | omega | (simp only [LN_]; omega))
  refine loop_by (fun x : Nat × Option (Nat × Nat) => ⟨(SI o l :: .any :: .any :: SU (some x.2) (encL (l.take x.1)) :: I x.1 :: .any :: .any :: .any :: .any :: .any :: .any :: .any :: .any :: .any :: .any :: .any :: .any :: .any :: []), .tip x.2 :: σ, true, []⟩) (fun x => x.1 ≤ l.length) (fun x => l.length - x.1) (0, none) (St_leW (by repeat (first | exact trivial | refine ⟨le_rfl, ?_⟩ | refine ⟨le_any, ?_⟩ | refine ⟨le_ro, ?_⟩ | refine ⟨le_nil (by decide), ?_⟩ | refine ⟨le_wrap (by omega) (by omega) (by omega), ?_⟩ | refine ⟨le_int (by omega), ?_⟩ | refine ⟨le_eq (by simp), ?_⟩)) ResW.void id) (Nat.zero_le _) ?_
  rintro ⟨k, tk⟩ h1
  dsimp only at h1 ⊢
  have he := encL_len (l.take k)
  have ht : (l.take k).length = k := by simp; omega
  repeat' (first
    | simp only [WL, intF, strF, WM, Int.reduceToNat, ne_eq, reduceCtorEq, not_false_eq_true, Nat.reduceAdd, Nat.reduceSub, Nat.reduceLT, Nat.reduceLeDiff, Nat.reduceEqDiff, Bool.not_true, Bool.not_false, beq_self_eq_true, true_and, and_true, reduceIte, Bool.false_eq_true, T3, T4, T5, T24, T30, cok45, Try.results17]
    | simp (disch := first | omega | (simp only [LN_]; omega)) only [wrap_id, getI]
    | with_reducible first | refine andA (hb := ?_) | refine y_load (hK := ?_) | refine cD (rPut ?_ (fun tkp => ?_))
    | with_reducible refine y_nil (hK := ?_)
    | (with_reducible refine nilTC_split (fun h => ?_) (fun h bn => ?_) <;> (try simp only [List.length_map] at h))
    | ((with_reducible first | refine grd_cases (fun h => ?_) (fun h => ?_) | refine condC_split (fun h => ?_) (fun h => ?_)) <;> (try simp only [h]) <;> (try simp only [NR_, Bool.not_true, Bool.not_false, Bool.not_eq_eq_eq_not, ne_eq] at h))
    | omega | (simp only [LN_]; omega))
  · exact ⟨(k + 1, _), St_leW (by dsimp only; rw [encL_take (by omega)]; repeat (first | exact trivial | refine ⟨le_rfl, ?_⟩ | refine ⟨le_any, ?_⟩ | refine ⟨le_ro, ?_⟩ | refine ⟨le_nil (by decide), ?_⟩ | refine ⟨le_wrap (by omega) (by omega) (by omega), ?_⟩ | refine ⟨le_int (by omega), ?_⟩ | refine ⟨le_eq (by simp), ?_⟩)) (ResW.refl _) id, by dsimp only; omega, by dsimp only; omega⟩
  · exact leafL (sub_cons sub_rfl) (leT_le (by rw [List.take_of_length_le (by omega)]; exact le_ro)) hK

def AppR (σ : List Res) (tk : Option (Nat × Nat)) (x : AV) : Prop := True

-- utf8.appendRuneNonASCII
set_option maxHeartbeats 4000000 in
theorem uAppend2 {bs : List Int} {c : Int} {tk : Option (Nat × Nat)} (hb : bs.length ≤ 8000000000) (hc : 128 ≤ c) (hr : rightI c = true) (hK : ∀ tk', K (.ret (SU (some tk') (bs ++ encC c))) (.tip tk' :: σ)) : ACallF κ Try.prog 117 [SU (some tk) bs, .raw (.int .i32 c)] (.tip tk :: σ) K := by
  obtain ⟨r1, r2, r3⟩ := rightI_iff.1 hr
  refine ACallF.dropL (ACallF_intro Try.func117 rfl ?_)
  simp only [Try.ntmps117]
  repeat' (first
    | simp only [WL, intF, strF, WM, Int.reduceToNat, ne_eq, reduceCtorEq, not_false_eq_true, Nat.reduceAdd, Nat.reduceSub, Nat.reduceLT, Nat.reduceLeDiff, Nat.reduceEqDiff, Bool.not_true, Bool.not_false, beq_self_eq_true, true_and, and_true, reduceIte, Bool.false_eq_true, T4, T5, T21, T30, T118, cI in5, cI in118, Try.results117, fold_or8, fold_and8, and8_63, Int.reduceToNat, Int.reducePow]
    | simp (disch := first | omega | (simp only [LN_]; omega)) only [wrap_id, getI, shr_i32, or8_128, or8_192, or8_224, or8_240, wrapu8, wrapu32]
    | with_reducible first | refine andA (hb := ?_) | refine y_appN ?_ | refine y_appS ?_ | refine y_app (hlen := ?_) (hmax := ?_) (hK := fun tk => ?_) | refine y_bs0 ?_ | refine y_bs (hK := ?_)
    | with_reducible refine y_nil (hK := ?_)
    | (with_reducible refine nilTC_split (fun h => ?_) (fun h bn => ?_) <;> (try simp only [List.length_map] at h))
    | ((with_reducible first | refine grd_cases (fun h => ?_) (fun h => ?_) | refine condC_split (fun h => ?_) (fun h => ?_)) <;> (try simp only [h]) <;> (try simp only [NR_, Bool.not_true, Bool.not_false, Bool.not_eq_eq_eq_not, ne_eq] at h))
    | omega | (simp only [LN_]; omega) | (refine maxLen_ok ?_; (first | omega | (simp only [LN_]; omega))))
  all_goals
    refine leafL sub_rfl (leT_eq ?_) (hK _)
    unfold encC encR
    rw [fix_id hr]
    first
      | rw [if_pos (by omega)]
      | rw [if_neg (by omega), if_pos (by omega)]
      | rw [if_neg (by omega), if_neg (by omega), if_pos (by omega)]
      | rw [if_neg (by omega), if_neg (by omega), if_neg (by omega)]
    simp

-- utf8.AppendRune
set_option maxHeartbeats 4000000 in
theorem uAppend {bs : List Int} {c : Int} {tk : Option (Nat × Nat)} (hb : bs.length ≤ 8000000000) (hr : rightI c = true) (hK : ∀ tk', K (.ret (SU (some tk') (bs ++ encC c))) (.tip tk' :: σ)) : ACallF κ Try.prog 106 [SU (some tk) bs, .raw (.int .i32 c)] (.tip tk :: σ) K := by
  obtain ⟨r1, r2, r3⟩ := rightI_iff.1 hr
  refine ACallF.dropL (ACallF_intro Try.func106 rfl ?_)
  simp only [Try.ntmps106]
  repeat' (first
    | simp only [WL, intF, strF, WM, Int.reduceToNat, ne_eq, reduceCtorEq, not_false_eq_true, Nat.reduceAdd, Nat.reduceSub, Nat.reduceLT, Nat.reduceLeDiff, Nat.reduceEqDiff, Bool.not_true, Bool.not_false, beq_self_eq_true, true_and, and_true, reduceIte, Bool.false_eq_true, T4, T5, T21, T30, T118, cI in5, cI in118, cok117, Try.results106]
    | simp (disch := first | omega | (simp only [LN_]; omega)) only [wrap_id, getI, wrapu32, wrapu8]
    | with_reducible first | refine andA (hb := ?_) | refine y_appN ?_ | refine y_appS ?_ | refine y_app (hlen := ?_) (hmax := ?_) (hK := fun tk => ?_) | refine y_bs0 ?_ | refine y_bs (hK := ?_) | refine cD (uAppend2 ?_ ?_ ?_ (fun tkp => ?_))
    | with_reducible refine y_nil (hK := ?_)
    | (with_reducible refine nilTC_split (fun h => ?_) (fun h bn => ?_) <;> (try simp only [List.length_map] at h))
    | ((with_reducible first | refine grd_cases (fun h => ?_) (fun h => ?_) | refine condC_split (fun h => ?_) (fun h => ?_)) <;> (try simp only [h]) <;> (try simp only [NR_, Bool.not_true, Bool.not_false, Bool.not_eq_eq_eq_not, ne_eq] at h))
    | omega | (simp only [LN_]; omega) | (refine maxLen_ok ?_; (first | omega | (simp only [LN_]; omega))))
  all_goals first
    | exact leafL sub_rfl (leT_eq (by rw [encC_ascii (by omega) (by omega)]; simp)) (hK _)
    | exact leafL sub_rfl (leT_eq rfl) (hK _)
    | assumption

-- utf.Bytes
set_option maxHeartbeats 4000000 in
theorem uBytes {l : List Int} (hl : l.length ≤ 1000000000) (hK : K (.ret (SU none (encL l))) σ) : ACallF κ Try.prog 70 [SI o l] σ K := by
  refine ACallF.dropL (ACallF_intro Try.func70 rfl ?_)
  simp only [Try.ntmps70]
  repeat' (first
    | simp only [WL, intF, strF, WM, Int.reduceToNat, ne_eq, reduceCtorEq, not_false_eq_true, Nat.reduceAdd, Nat.reduceSub, Nat.reduceLT, Nat.reduceLeDiff, Nat.reduceEqDiff, Bool.not_true, Bool.not_false, beq_self_eq_true, true_and, and_true, reduceIte, Bool.false_eq_true, T3, T4, T5, T21, T24, T30, cI in21, cok105, cok106, Try.results70]
    | simp (disch := first | omega | (simp only [LN_]; omega)) only [wrap_id, getI]
    | with_reducible first | refine andA (hb := ?_) | refine y_load (hK := ?_) | refine cD (uIs ?_) | refine cD (uAppend ?_ ?_ (fun tkp => ?_))
    | with_reducible refine y_nil (hK := ?_)
    | (with_reducible refine nilTC_split (fun h => ?_) (fun h bn => ?_) <;> (try simp only [List.length_map] at h))
    | ((with_reducible first | refine grd_cases (fun h => ?_) (fun h => ?_) | refine condC_split (fun h => ?_) (fun h => ?_)) <;> (try simp only [h]) <;> (try simp only [NR_, Bool.not_true, Bool.not_false, Bool.not_eq_eq_eq_not, ne_eq] at h))
    | omega | (simp only [LN_]; omega) | (refine maxLen_ok ?_; (first | omega | (simp only [LN_]; omega))))
  refine loop_by (fun x : Nat × Option (Nat × Nat) => ⟨(SI o l :: .any :: .any :: SU (some x.2) (encL (l.take x.1)) :: .any :: .any :: SI o l :: I l.length :: I x.1 :: .any :: .any :: .any :: .any :: .any :: .any :: .any :: .any :: .any :: .any :: .any :: .any :: []), .tip x.2 :: σ, true, []⟩) (fun x => x.1 ≤ l.length) (fun x => l.length - x.1) (0, none) (St_leW (by repeat (first | exact trivial | refine ⟨le_rfl, ?_⟩ | refine ⟨le_any, ?_⟩ | refine ⟨le_ro, ?_⟩ | refine ⟨le_nil (by decide), ?_⟩ | refine ⟨le_wrap (by omega) (by omega) (by omega), ?_⟩ | refine ⟨le_int (by omega), ?_⟩ | refine ⟨le_eq (by simp), ?_⟩)) ResW.void id) (Nat.zero_le _) ?_
  rintro ⟨k, tk⟩ h1
  dsimp only at h1 ⊢
  have he := encL_len (l.take k)
  have ht : (l.take k).length = k := by simp; omega
  cases hr : rightI (l.getD k 0)
  · have e : encC 65533 = encC (l.getD k 0) := by unfold encC; rw [fix_no hr, fix_id (by decide)]
    repeat' (first
      | simp only [WL, intF, strF, WM, Int.reduceToNat, ne_eq, reduceCtorEq, not_false_eq_true, Nat.reduceAdd, Nat.reduceSub, Nat.reduceLT, Nat.reduceLeDiff, Nat.reduceEqDiff, Bool.not_true, Bool.not_false, beq_self_eq_true, true_and, and_true, reduceIte, Bool.false_eq_true, T3, T4, T5, T21, T24, T30, cI in21, cok105, cok106, Try.results70, hr]
      | simp (disch := first | omega | (simp only [LN_]; omega)) only [wrap_id, getI, wrapi32]
      | with_reducible first | refine andA (hb := ?_) | refine y_load (hK := ?_) | refine cD (uIs ?_) | refine cD (uAppend ?_ ?_ (fun tkp => ?_))
      | with_reducible refine y_nil (hK := ?_)
      | (with_reducible refine nilTC_split (fun h => ?_) (fun h bn => ?_) <;> (try simp only [List.length_map] at h))
      | ((with_reducible first | refine grd_cases (fun h => ?_) (fun h => ?_) | refine condC_split (fun h => ?_) (fun h => ?_)) <;> (try simp only [h]) <;> (try simp only [NR_, Bool.not_true, Bool.not_false, Bool.not_eq_eq_eq_not, ne_eq] at h))
      | omega | (simp only [LN_]; omega) | (refine maxLen_ok ?_; (first | omega | (simp only [LN_]; omega))))
    · decide
    · exact ⟨(k + 1, _), St_leW (by dsimp only; rw [encL_take (by omega), ← e]; repeat (first | exact trivial | refine ⟨le_rfl, ?_⟩ | refine ⟨le_any, ?_⟩ | refine ⟨le_ro, ?_⟩ | refine ⟨le_nil (by decide), ?_⟩ | refine ⟨le_wrap (by omega) (by omega) (by omega), ?_⟩ | refine ⟨le_int (by omega), ?_⟩ | refine ⟨le_eq (by simp), ?_⟩)) (ResW.refl _) id, by dsimp only; omega, by dsimp only; omega⟩
    · exact leafL (sub_cons sub_rfl) (leT_le (by rw [List.take_of_length_le (by omega)]; exact le_ro)) hK
  · obtain ⟨r1, r2, r3⟩ := rightI_iff.1 hr
    repeat' (first
      | simp only [WL, intF, strF, WM, Int.reduceToNat, ne_eq, reduceCtorEq, not_false_eq_true, Nat.reduceAdd, Nat.reduceSub, Nat.reduceLT, Nat.reduceLeDiff, Nat.reduceEqDiff, Bool.not_true, Bool.not_false, beq_self_eq_true, true_and, and_true, reduceIte, Bool.false_eq_true, T3, T4, T5, T21, T24, T30, cI in21, cok105, cok106, Try.results70, hr]
      | simp (disch := first | omega | (simp only [LN_]; omega)) only [wrap_id, getI, wrapi32]
      | with_reducible first | refine andA (hb := ?_) | refine y_load (hK := ?_) | refine cD (uIs ?_) | refine cD (uAppend ?_ ?_ (fun tkp => ?_))
      | with_reducible refine y_nil (hK := ?_)
      | (with_reducible refine nilTC_split (fun h => ?_) (fun h bn => ?_) <;> (try simp only [List.length_map] at h))
      | ((with_reducible first | refine grd_cases (fun h => ?_) (fun h => ?_) | refine condC_split (fun h => ?_) (fun h => ?_)) <;> (try simp only [h]) <;> (try simp only [NR_, Bool.not_true, Bool.not_false, Bool.not_eq_eq_eq_not, ne_eq] at h))
      | omega | (simp only [LN_]; omega) | (refine maxLen_ok ?_; (first | omega | (simp only [LN_]; omega))))
    · exact ⟨(k + 1, _), St_leW (by dsimp only; rw [encL_take (by omega)]; repeat (first | exact trivial | refine ⟨le_rfl, ?_⟩ | refine ⟨le_any, ?_⟩ | refine ⟨le_ro, ?_⟩ | refine ⟨le_nil (by decide), ?_⟩ | refine ⟨le_wrap (by omega) (by omega) (by omega), ?_⟩ | refine ⟨le_int (by omega), ?_⟩ | refine ⟨le_eq (by simp), ?_⟩)) (ResW.refl _) id, by dsimp only; omega, by dsimp only; omega⟩
    · exact leafL (sub_cons sub_rfl) (leT_le (by rw [List.take_of_length_le (by omega)]; exact le_ro)) hK
end Go.Proofs.Ytaeacialcbahnaa
