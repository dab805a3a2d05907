/-
  Texts Pd, Pe, one behind the other.
-/
import Derived.Test.YtaeacialcbahnaaG8
/-
  Walks: chapter 11, the reference's tags.
-/

namespace Go.Proofs.Ytaeacialcbahnaa
open Go.Abs
set_option linter.unusedVariables false
set_option linter.unusedSimpArgs false
-- hb: 8000000
variable {κ : Ctx} {σ : List Res} {K : Ret → List Res → Prop} {o o' : Option (Option (Nat × Nat))}

set_option maxHeartbeats 8000000 in
theorem getD_dropI {l : List Int} {i j : Nat} : (l.drop i).getD j 0 = l.getD (i + j) 0 := by simp [List.getD_eq_getElem?_getD]
set_option maxHeartbeats 8000000 in
theorem atI_mk {l : List Int} {i : Nat} {c : Int} (h : i < l.length) (h1 : l.getD i 0 = c) : atI l i c = true := decide_eq_true ⟨h, h1⟩
set_option maxHeartbeats 8000000 in
theorem atI_mk0 {l : List Int} {i : Nat} {c : Int} (h : l.length ≤ i ∨ ¬ l.getD i 0 = c) : atI l i c = false := decide_eq_false (fun e => h.elim (fun h => absurd e.1 (by omega)) (fun h => h e.2))
set_option maxHeartbeats 8000000 in
theorem atI_beq {l : List Int} {i : Nat} {c : Int} (h : i < l.length) : atI l i c = (l.getD i 0 == c) := by rw [Bool.eq_iff_iff]; simp [atI, h]
set_option maxHeartbeats 8000000 in
theorem short_yes {c : Int} (h : shortC c = true) : ¬ c = 33 ∧ flowI c = false := by
  unfold shortC at h
  simpa using h
-- marginaliaref1.Tag
set_option maxHeartbeats 8000000 in
theorem rTag {l : List Int} (hl : l.length ≤ 1000000000) (hK : K (.ret (.tup [.raw (.string (tagI l).1), I (tagI l).2.1, B (tagI l).2.2])) σ) : ACallF κ Try.prog 94 [SI o l] σ K := by
  cases h0 : atI l 0 33
  · have ew : tagI l = noneT := by rw [tagI, if_pos h0]
    rw [ew] at hK
    have h0' := atI_no h0
    refine ACallF.dropL (ACallF_intro Try.func94 rfl ?_)
    simp only [Try.ntmps94]
    repeat' (first
      | simp only [WL, intF, strF, WM, Int.reduceToNat, ne_eq, reduceCtorEq, not_false_eq_true, Nat.reduceAdd, Nat.reduceSub, Nat.reduceLT, Nat.reduceLeDiff, Nat.reduceEqDiff, Bool.not_true, Bool.not_false, beq_self_eq_true, true_and, and_true, reduceIte, Bool.false_eq_true, convC_sl, convC_str, List.eraseIdx_cons_zero, List.eraseIdx_cons_succ, T3, T4, T5, T9, T24, T30, cok16, cok17, cok37, cok87, Try.results94]
      | simp (disch := first | omega | (simp only [LN_]; omega)) only [wrap_id, getI]
      | with_reducible first | refine andA (hb := ?_) | refine y_load (hK := ?_) | refine y_bytes ?_ | refine cD (rWord ?_) | refine cD (rBytes ?_ ?_) | refine cD (rUri ?_ ?_) | refine cD (rFlow ?_)
      | with_reducible refine y_nil (hK := ?_)
      | (with_reducible refine nilTC_split (fun h => ?_) (fun h bn => ?_) <;> (try simp only [List.length_map] at h))
      | ((with_reducible first | refine grd_cases (fun h => ?_) (fun h => ?_) | refine condC_split (fun h => ?_) (fun h => ?_)) <;> (try simp only [h]) <;> (try simp only [NR_, Bool.not_true, Bool.not_false, Bool.not_eq_eq_eq_not, ne_eq] at h))
      | omega | (simp only [LN_]; omega) | (refine maxLen_ok ?_; (first | omega | (simp only [LN_]; omega))))
    all_goals first
      | exact leafL sub_rfl (leT_eq rfl) hK
      | (exfalso; omega)
  obtain ⟨hp, h33⟩ := atI_lt h0
  cases h1 : atI l 1 60
  · have ew : tagI l = shortI l := by rw [tagI, if_neg (by rw [h0]; decide), if_neg (by rw [h1]; decide)]
    rw [ew] at hK
    have h1' := atI_no h1
    have hh := handleN_le l
    have hu := uriN_le shortC (l.drop (max (handleN l) 1))
    rw [List.length_drop] at hu
    refine ACallF.dropL (ACallF_introA Try.func94 rfl ?_)
    simp only [Try.ntmps94]
    repeat' (first
      | with_reducible first | refine cut_at (id := 3) ?_ | refine cut_unit (id := 3) ?_ | refine cut_one (id := 3) ?_ | refine AW_seqA (AW_block ?_) | refine AW_block ?_ | refine cut_seqloop ?_ | refine cut_loop ?_ | refine AW_seqA (AW_seqA ?_) | refine AW_seq ?_ | refine AW_runReg ?_ | refine AW_runCond ?_ | refine AW_runExit ?_ | refine AW_runRet ?_ | refine AW_runSkip ?_ | refine AW_runLabel ?_
      | simp only [WL, intF, strF, WM, Int.reduceToNat, ne_eq, reduceCtorEq, not_false_eq_true, Nat.reduceAdd, Nat.reduceSub, Nat.reduceLT, Nat.reduceLeDiff, Nat.reduceEqDiff, Bool.not_true, Bool.not_false, beq_self_eq_true, true_and, and_true, reduceIte, Bool.false_eq_true, convC_sl, convC_str, List.eraseIdx_cons_zero, List.eraseIdx_cons_succ, T3, T4, T5, T9, T24, T30, cok16, cok17, cok37, cok87, Try.results94]
      | simp (disch := first | omega | (simp only [LN_]; omega)) only [wrap_id, getI]
      | with_reducible first | refine andA (hb := ?_) | refine y_load (hK := ?_) | refine y_bytes ?_ | refine cD (rWord ?_) | refine cD (rBytes ?_ ?_) | refine cD (rUri ?_ ?_) | refine cD (rFlow ?_)
      | with_reducible refine y_nil (hK := ?_)
      | (with_reducible refine nilTC_split (fun h => ?_) (fun h bn => ?_) <;> (try simp only [List.length_map] at h))
      | ((with_reducible first | refine grd_cases (fun h => ?_) (fun h => ?_) | refine condC_split (fun h => ?_) (fun h => ?_)) <;> (try simp only [h]) <;> (try simp only [NR_, Bool.not_true, Bool.not_false, Bool.not_eq_eq_eq_not, ne_eq] at h))
      | omega | (simp only [LN_]; omega) | (refine maxLen_ok ?_; (first | omega | (simp only [LN_]; omega))))
    all_goals first
      | (exfalso; omega)
      | skip
    refine midA (fun _ : Unit => ⟨(SI o l :: .any :: .any :: .any :: .any :: .any :: .any :: .any :: .any :: .any :: .any :: .any :: .any :: .any :: .any :: .any :: .any :: .any :: .any :: .any :: .any :: .any :: .any :: .any :: .any :: .any :: .any :: .any :: .any :: .any :: .any :: .any :: .any :: .any :: .any :: .any :: .any :: .any :: .any :: .any :: .any :: .any :: .any :: .any :: .any :: .any :: .any :: .any :: .any :: .any :: .any :: .any :: .any :: .any :: .any :: .any :: .any :: .any :: .any :: .any :: .any :: .any :: .any :: .any :: .any :: .any :: .any :: .any :: .any :: .any :: .any :: .any :: .any :: .any :: .any :: .any :: .any :: .any :: .any :: .any :: .any :: .any :: .any :: .any :: .any :: .any :: .any :: .any :: .any :: .any :: .any :: .any :: .any :: .any :: .any :: .any :: .any :: .any :: .any :: .any :: .any :: .any :: .any :: .any :: .any :: .any :: .any :: .any :: .any :: .any :: .any :: .any :: .any :: .any :: .any :: .any :: .any :: .any :: .any :: .any :: .any :: .any :: .any :: .any :: .any :: .any :: .any :: .any :: []), σ, true, []⟩) (fun _ => True) ?_ ?_
    · skip
      repeat' (first
        | with_reducible first | refine AW_seqA (AW_block ?_) | refine AW_block ?_ | refine cut_seqloop ?_ | refine cut_loop ?_ | refine AW_seqA (AW_seqA ?_) | refine AW_seq ?_ | refine AW_runReg ?_ | refine AW_runCond ?_ | refine AW_runExit ?_ | refine AW_runRet ?_ | refine AW_runSkip ?_ | refine AW_runLabel ?_
        | simp only [WL, intF, strF, WM, Int.reduceToNat, ne_eq, reduceCtorEq, not_false_eq_true, Nat.reduceAdd, Nat.reduceSub, Nat.reduceLT, Nat.reduceLeDiff, Nat.reduceEqDiff, Bool.not_true, Bool.not_false, beq_self_eq_true, true_and, and_true, reduceIte, Bool.false_eq_true, convC_sl, convC_str, List.eraseIdx_cons_zero, List.eraseIdx_cons_succ, T3, T4, T5, T9, T24, T30, cok16, cok17, cok37, cok87, Try.results94]
        | simp (disch := first | omega | (simp only [LN_]; omega)) only [wrap_id, getI]
        | with_reducible first | refine andA (hb := ?_) | refine y_load (hK := ?_) | refine y_bytes ?_ | refine cD (rWord ?_) | refine cD (rBytes ?_ ?_) | refine cD (rUri ?_ ?_) | refine cD (rFlow ?_)
        | with_reducible refine y_nil (hK := ?_)
        | (with_reducible refine nilTC_split (fun h => ?_) (fun h bn => ?_) <;> (try simp only [List.length_map] at h))
        | ((with_reducible first | refine grd_cases (fun h => ?_) (fun h => ?_) | refine condC_split (fun h => ?_) (fun h => ?_)) <;> (try simp only [h]) <;> (try simp only [NR_, Bool.not_true, Bool.not_false, Bool.not_eq_eq_eq_not, ne_eq] at h))
        | omega | (simp only [LN_]; omega) | (refine maxLen_ok ?_; (first | omega | (simp only [LN_]; omega))))
      all_goals first
        | (exfalso; omega)
        | exact ⟨(), St_le_same (by repeat (first | exact trivial | refine ⟨le_rfl, ?_⟩ | refine ⟨le_any, ?_⟩ | refine ⟨le_ro, ?_⟩ | refine ⟨le_nil (by decide), ?_⟩ | refine ⟨le_wrap (by omega) (by omega) (by omega), ?_⟩ | refine ⟨le_int (by omega), ?_⟩ | refine ⟨le_eq (by simp), ?_⟩)) id⟩
    rintro _ _
    repeat' (first
      | with_reducible first | refine cut_blk (id := 2) ?_ | refine AW_seqA (AW_block ?_) | refine AW_block ?_ | refine cut_seqloop ?_ | refine cut_loop ?_ | refine AW_seqA (AW_seqA ?_) | refine AW_seq ?_ | refine AW_runReg ?_ | refine AW_runCond ?_ | refine AW_runExit ?_ | refine AW_runRet ?_ | refine AW_runSkip ?_ | refine AW_runLabel ?_
      | simp only [WL, intF, strF, WM, Int.reduceToNat, ne_eq, reduceCtorEq, not_false_eq_true, Nat.reduceAdd, Nat.reduceSub, Nat.reduceLT, Nat.reduceLeDiff, Nat.reduceEqDiff, Bool.not_true, Bool.not_false, beq_self_eq_true, true_and, and_true, reduceIte, Bool.false_eq_true, convC_sl, convC_str, List.eraseIdx_cons_zero, List.eraseIdx_cons_succ, T3, T4, T5, T9, T24, T30, cok16, cok17, cok37, cok87, Try.results94]
      | simp (disch := first | omega | (simp only [LN_]; omega)) only [wrap_id, getI]
      | with_reducible first | refine andA (hb := ?_) | refine y_load (hK := ?_) | refine y_bytes ?_ | refine cD (rWord ?_) | refine cD (rBytes ?_ ?_) | refine cD (rUri ?_ ?_) | refine cD (rFlow ?_)
      | with_reducible refine y_nil (hK := ?_)
      | (with_reducible refine nilTC_split (fun h => ?_) (fun h bn => ?_) <;> (try simp only [List.length_map] at h))
      | ((with_reducible first | refine grd_cases (fun h => ?_) (fun h => ?_) | refine condC_split (fun h => ?_) (fun h => ?_)) <;> (try simp only [h]) <;> (try simp only [NR_, Bool.not_true, Bool.not_false, Bool.not_eq_eq_eq_not, ne_eq] at h))
      | omega | (simp only [LN_]; omega) | (refine maxLen_ok ?_; (first | omega | (simp only [LN_]; omega))))
    refine midA (fun _ : Unit => ⟨(SI o l :: .any :: .any :: .any :: .any :: .any :: I (1 + cnt wordI (l.drop 1) : Nat) :: .any :: .any :: .any :: .any :: .any :: .any :: .any :: .any :: .any :: .any :: .any :: .any :: .any :: .any :: .any :: .any :: .any :: .any :: .any :: .any :: .any :: .any :: .any :: .any :: .any :: .any :: .any :: .any :: .any :: .any :: .any :: .any :: .any :: .any :: .any :: .any :: .any :: .any :: .any :: .any :: .any :: .any :: .any :: .any :: .any :: .any :: .any :: .any :: .any :: .any :: .any :: .any :: .any :: .any :: .any :: .any :: .any :: .any :: .any :: .any :: .any :: .any :: .any :: .any :: .any :: .any :: .any :: .any :: .any :: .any :: .any :: .any :: .any :: .any :: .any :: .any :: .any :: .any :: .any :: .any :: .any :: .any :: .any :: .any :: .any :: .any :: .any :: .any :: .any :: .any :: .any :: .any :: .any :: .any :: .any :: .any :: .any :: .any :: .any :: .any :: .any :: .any :: .any :: .any :: .any :: .any :: .any :: .any :: .any :: .any :: .any :: .any :: .any :: .any :: .any :: .any :: .any :: .any :: .any :: .any :: .any :: []), σ, true, []⟩) (fun _ => True) ?_ ?_
    · skip
      repeat' (first
        | with_reducible first | refine AW_seqA (AW_block ?_) | refine AW_block ?_ | refine cut_seqloop ?_ | refine cut_loop ?_ | refine AW_seqA (AW_seqA ?_) | refine AW_seq ?_ | refine AW_runReg ?_ | refine AW_runCond ?_ | refine AW_runExit ?_ | refine AW_runRet ?_ | refine AW_runSkip ?_ | refine AW_runLabel ?_
        | simp only [WL, intF, strF, WM, Int.reduceToNat, ne_eq, reduceCtorEq, not_false_eq_true, Nat.reduceAdd, Nat.reduceSub, Nat.reduceLT, Nat.reduceLeDiff, Nat.reduceEqDiff, Bool.not_true, Bool.not_false, beq_self_eq_true, true_and, and_true, reduceIte, Bool.false_eq_true, convC_sl, convC_str, List.eraseIdx_cons_zero, List.eraseIdx_cons_succ, T3, T4, T5, T9, T24, T30, cok16, cok17, cok37, cok87, Try.results94]
        | simp (disch := first | omega | (simp only [LN_]; omega)) only [wrap_id, getI]
        | with_reducible first | refine andA (hb := ?_) | refine y_load (hK := ?_) | refine y_bytes ?_ | refine cD (rWord ?_) | refine cD (rBytes ?_ ?_) | refine cD (rUri ?_ ?_) | refine cD (rFlow ?_)
        | with_reducible refine y_nil (hK := ?_)
        | (with_reducible refine nilTC_split (fun h => ?_) (fun h bn => ?_) <;> (try simp only [List.length_map] at h))
        | ((with_reducible first | refine grd_cases (fun h => ?_) (fun h => ?_) | refine condC_split (fun h => ?_) (fun h => ?_)) <;> (try simp only [h]) <;> (try simp only [NR_, Bool.not_true, Bool.not_false, Bool.not_eq_eq_eq_not, ne_eq] at h))
        | omega | (simp only [LN_]; omega) | (refine maxLen_ok ?_; (first | omega | (simp only [LN_]; omega))))
      refine loopA (fun k : Nat => ⟨(SI o l :: .any :: .any :: .any :: .any :: .any :: I (1 + k : Nat) :: .any :: .any :: .any :: .any :: .any :: .any :: .any :: .any :: .any :: .any :: .any :: .any :: .any :: .any :: .any :: .any :: .any :: .any :: .any :: .any :: .any :: .any :: .any :: .any :: .any :: .any :: .any :: .any :: .any :: .any :: .any :: .any :: .any :: .any :: .any :: .any :: .any :: .any :: .any :: .any :: .any :: .any :: .any :: .any :: .any :: .any :: .any :: .any :: .any :: .any :: .any :: .any :: .any :: .any :: .any :: .any :: .any :: .any :: .any :: .any :: .any :: .any :: .any :: .any :: .any :: .any :: .any :: .any :: .any :: .any :: .any :: .any :: .any :: .any :: .any :: .any :: .any :: .any :: .any :: .any :: .any :: .any :: .any :: .any :: .any :: .any :: .any :: .any :: .any :: .any :: .any :: .any :: .any :: .any :: .any :: .any :: .any :: .any :: .any :: .any :: .any :: .any :: .any :: .any :: .any :: .any :: .any :: .any :: .any :: .any :: .any :: .any :: .any :: .any :: .any :: .any :: .any :: .any :: .any :: .any :: .any :: []), σ, true, []⟩) (fun k => k ≤ cnt wordI (l.drop 1)) (fun k => l.length - k) 0 (St_le_same (by repeat (first | exact trivial | refine ⟨le_rfl, ?_⟩ | refine ⟨le_any, ?_⟩ | refine ⟨le_ro, ?_⟩ | refine ⟨le_nil (by decide), ?_⟩ | refine ⟨le_wrap (by omega) (by omega) (by omega), ?_⟩ | refine ⟨le_int (by omega), ?_⟩ | refine ⟨le_eq (by simp), ?_⟩)) id) (Nat.zero_le _) ?_
      intro k hk
      have hcl := cnt_le wordI (l.drop 1)
      rw [List.length_drop] at hcl
      repeat' (first
        | with_reducible first | refine AW_seqA (AW_block ?_) | refine AW_block ?_ | refine cut_seqloop ?_ | refine cut_loop ?_ | refine AW_seqA (AW_seqA ?_) | refine AW_seq ?_ | refine AW_runReg ?_ | refine AW_runCond ?_ | refine AW_runExit ?_ | refine AW_runRet ?_ | refine AW_runSkip ?_ | refine AW_runLabel ?_
        | simp only [WL, intF, strF, WM, Int.reduceToNat, ne_eq, reduceCtorEq, not_false_eq_true, Nat.reduceAdd, Nat.reduceSub, Nat.reduceLT, Nat.reduceLeDiff, Nat.reduceEqDiff, Bool.not_true, Bool.not_false, beq_self_eq_true, true_and, and_true, reduceIte, Bool.false_eq_true, convC_sl, convC_str, List.eraseIdx_cons_zero, List.eraseIdx_cons_succ, T3, T4, T5, T9, T24, T30, cok16, cok17, cok37, cok87, Try.results94]
        | simp (disch := first | omega | (simp only [LN_]; omega)) only [wrap_id, getI]
        | with_reducible first | refine andA (hb := ?_) | refine y_load (hK := ?_) | refine y_bytes ?_ | refine cD (rWord ?_) | refine cD (rBytes ?_ ?_) | refine cD (rUri ?_ ?_) | refine cD (rFlow ?_)
        | with_reducible refine y_nil (hK := ?_)
        | (with_reducible refine nilTC_split (fun h => ?_) (fun h bn => ?_) <;> (try simp only [List.length_map] at h))
        | ((with_reducible first | refine grd_cases (fun h => ?_) (fun h => ?_) | refine condC_split (fun h => ?_) (fun h => ?_)) <;> (try simp only [h]) <;> (try simp only [NR_, Bool.not_true, Bool.not_false, Bool.not_eq_eq_eq_not, ne_eq] at h))
        | omega | (simp only [LN_]; omega) | (refine maxLen_ok ?_; (first | omega | (simp only [LN_]; omega))))
      all_goals first
        | exact ⟨k + 1, St_le_same (by repeat (first | exact trivial | refine ⟨le_rfl, ?_⟩ | refine ⟨le_any, ?_⟩ | refine ⟨le_ro, ?_⟩ | refine ⟨le_nil (by decide), ?_⟩ | refine ⟨le_wrap (by omega) (by omega) (by omega), ?_⟩ | refine ⟨le_int (by omega), ?_⟩ | refine ⟨le_eq (by simp), ?_⟩)) id, cnt_step hk (by rw [List.length_drop]; omega) (by rw [getD_dropI]; assumption), by omega⟩
        | (have e := cnt_stop hk (by first | exact .inl (by rw [List.length_drop]; omega) | exact .inr (by rw [getD_dropI]; assumption))
           subst e
           exact ⟨(), St_le_same (by repeat (first | exact trivial | refine ⟨le_rfl, ?_⟩ | refine ⟨le_any, ?_⟩ | refine ⟨le_ro, ?_⟩ | refine ⟨le_nil (by decide), ?_⟩ | refine ⟨le_wrap (by omega) (by omega) (by omega), ?_⟩ | refine ⟨le_int (by omega), ?_⟩ | refine ⟨le_eq (by simp), ?_⟩)) id⟩)
    rintro _ _
    have hcl := cnt_le wordI (l.drop 1)
    rw [List.length_drop] at hcl
    repeat' (first
      | with_reducible first | refine cut_at (id := 13) ?_ | refine cut_unit (id := 13) ?_ | refine cut_one (id := 13) ?_ | refine AW_seqA (AW_block ?_) | refine AW_block ?_ | refine cut_seqloop ?_ | refine cut_loop ?_ | refine AW_seqA (AW_seqA ?_) | refine AW_seq ?_ | refine AW_runReg ?_ | refine AW_runCond ?_ | refine AW_runExit ?_ | refine AW_runRet ?_ | refine AW_runSkip ?_ | refine AW_runLabel ?_
      | simp only [WL, intF, strF, WM, Int.reduceToNat, ne_eq, reduceCtorEq, not_false_eq_true, Nat.reduceAdd, Nat.reduceSub, Nat.reduceLT, Nat.reduceLeDiff, Nat.reduceEqDiff, Bool.not_true, Bool.not_false, beq_self_eq_true, true_and, and_true, reduceIte, Bool.false_eq_true, convC_sl, convC_str, List.eraseIdx_cons_zero, List.eraseIdx_cons_succ, T3, T4, T5, T9, T24, T30, cok16, cok17, cok37, cok87, Try.results94]
      | simp (disch := first | omega | (simp only [LN_]; omega)) only [wrap_id, getI]
      | with_reducible first | refine andA (hb := ?_) | refine y_load (hK := ?_) | refine y_bytes ?_ | refine cD (rWord ?_) | refine cD (rBytes ?_ ?_) | refine cD (rUri ?_ ?_) | refine cD (rFlow ?_)
      | with_reducible refine y_nil (hK := ?_)
      | (with_reducible refine nilTC_split (fun h => ?_) (fun h bn => ?_) <;> (try simp only [List.length_map] at h))
      | ((with_reducible first | refine grd_cases (fun h => ?_) (fun h => ?_) | refine condC_split (fun h => ?_) (fun h => ?_)) <;> (try simp only [h]) <;> (try simp only [NR_, Bool.not_true, Bool.not_false, Bool.not_eq_eq_eq_not, ne_eq] at h))
      | omega | (simp only [LN_]; omega) | (refine maxLen_ok ?_; (first | omega | (simp only [LN_]; omega))))
    refine midA (fun _ : Unit => ⟨(SI o l :: .any :: .any :: .any :: .any :: .any :: I (1 + cnt wordI (l.drop 1) : Nat) :: B (atI l (1 + cnt wordI (l.drop 1)) 33) :: .any :: .any :: .any :: .any :: .any :: .any :: .any :: .any :: .any :: .any :: .any :: .any :: .any :: .any :: .any :: .any :: .any :: .any :: .any :: .any :: .any :: .any :: .any :: .any :: .any :: .any :: .any :: .any :: .any :: .any :: .any :: .any :: .any :: .any :: .any :: .any :: .any :: .any :: .any :: .any :: .any :: .any :: .any :: .any :: .any :: .any :: .any :: .any :: .any :: .any :: .any :: .any :: .any :: .any :: .any :: .any :: .any :: .any :: .any :: .any :: .any :: .any :: .any :: .any :: .any :: .any :: .any :: .any :: .any :: .any :: .any :: .any :: .any :: .any :: .any :: .any :: .any :: .any :: .any :: .any :: .any :: .any :: .any :: .any :: .any :: .any :: .any :: .any :: .any :: .any :: .any :: .any :: .any :: .any :: .any :: .any :: .any :: .any :: .any :: .any :: .any :: .any :: .any :: .any :: .any :: .any :: .any :: .any :: .any :: .any :: .any :: .any :: .any :: .any :: .any :: .any :: .any :: .any :: .any :: .any :: []), σ, true, []⟩) (fun _ => True) ?_ ?_
    · skip
      repeat' (first
        | with_reducible first | refine AW_seqA (AW_block ?_) | refine AW_block ?_ | refine cut_seqloop ?_ | refine cut_loop ?_ | refine AW_seqA (AW_seqA ?_) | refine AW_seq ?_ | refine AW_runReg ?_ | refine AW_runCond ?_ | refine AW_runExit ?_ | refine AW_runRet ?_ | refine AW_runSkip ?_ | refine AW_runLabel ?_
        | simp only [WL, intF, strF, WM, Int.reduceToNat, ne_eq, reduceCtorEq, not_false_eq_true, Nat.reduceAdd, Nat.reduceSub, Nat.reduceLT, Nat.reduceLeDiff, Nat.reduceEqDiff, Bool.not_true, Bool.not_false, beq_self_eq_true, true_and, and_true, reduceIte, Bool.false_eq_true, convC_sl, convC_str, List.eraseIdx_cons_zero, List.eraseIdx_cons_succ, T3, T4, T5, T9, T24, T30, cok16, cok17, cok37, cok87, Try.results94]
        | simp (disch := first | omega | (simp only [LN_]; omega)) only [wrap_id, getI]
        | with_reducible first | refine andA (hb := ?_) | refine y_load (hK := ?_) | refine y_bytes ?_ | refine cD (rWord ?_) | refine cD (rBytes ?_ ?_) | refine cD (rUri ?_ ?_) | refine cD (rFlow ?_)
        | with_reducible refine y_nil (hK := ?_)
        | (with_reducible refine nilTC_split (fun h => ?_) (fun h bn => ?_) <;> (try simp only [List.length_map] at h))
        | ((with_reducible first | refine grd_cases (fun h => ?_) (fun h => ?_) | refine condC_split (fun h => ?_) (fun h => ?_)) <;> (try simp only [h]) <;> (try simp only [NR_, Bool.not_true, Bool.not_false, Bool.not_eq_eq_eq_not, ne_eq] at h))
        | omega | (simp only [LN_]; omega) | (refine maxLen_ok ?_; (first | omega | (simp only [LN_]; omega))))
      all_goals first
        | exact ⟨(), St_le_same (by rw [atI_beq (by omega)]; repeat (first | exact trivial | refine ⟨le_rfl, ?_⟩ | refine ⟨le_any, ?_⟩ | refine ⟨le_ro, ?_⟩ | refine ⟨le_nil (by decide), ?_⟩ | refine ⟨le_wrap (by omega) (by omega) (by omega), ?_⟩ | refine ⟨le_int (by omega), ?_⟩ | refine ⟨le_eq (by simp), ?_⟩)) id⟩
        | exact ⟨(), St_le_same (by rw [atI_mk0 (.inl (by omega))]; repeat (first | exact trivial | refine ⟨le_rfl, ?_⟩ | refine ⟨le_any, ?_⟩ | refine ⟨le_ro, ?_⟩ | refine ⟨le_nil (by decide), ?_⟩ | refine ⟨le_wrap (by omega) (by omega) (by omega), ?_⟩ | refine ⟨le_int (by omega), ?_⟩ | refine ⟨le_eq (by simp), ?_⟩)) id⟩
    rintro _ _
    repeat' (first
      | with_reducible first | refine cut_at (id := 14) ?_ | refine cut_unit (id := 14) ?_ | refine cut_one (id := 14) ?_ | refine AW_seqA (AW_block ?_) | refine AW_block ?_ | refine cut_seqloop ?_ | refine cut_loop ?_ | refine AW_seqA (AW_seqA ?_) | refine AW_seq ?_ | refine AW_runReg ?_ | refine AW_runCond ?_ | refine AW_runExit ?_ | refine AW_runRet ?_ | refine AW_runSkip ?_ | refine AW_runLabel ?_
      | simp only [WL, intF, strF, WM, Int.reduceToNat, ne_eq, reduceCtorEq, not_false_eq_true, Nat.reduceAdd, Nat.reduceSub, Nat.reduceLT, Nat.reduceLeDiff, Nat.reduceEqDiff, Bool.not_true, Bool.not_false, beq_self_eq_true, true_and, and_true, reduceIte, Bool.false_eq_true, convC_sl, convC_str, List.eraseIdx_cons_zero, List.eraseIdx_cons_succ, T3, T4, T5, T9, T24, T30, cok16, cok17, cok37, cok87, Try.results94]
      | simp (disch := first | omega | (simp only [LN_]; omega)) only [wrap_id, getI]
      | with_reducible first | refine andA (hb := ?_) | refine y_load (hK := ?_) | refine y_bytes ?_ | refine cD (rWord ?_) | refine cD (rBytes ?_ ?_) | refine cD (rUri ?_ ?_) | refine cD (rFlow ?_)
      | with_reducible refine y_nil (hK := ?_)
      | (with_reducible refine nilTC_split (fun h => ?_) (fun h bn => ?_) <;> (try simp only [List.length_map] at h))
      | ((with_reducible first | refine grd_cases (fun h => ?_) (fun h => ?_) | refine condC_split (fun h => ?_) (fun h => ?_)) <;> (try simp only [h]) <;> (try simp only [NR_, Bool.not_true, Bool.not_false, Bool.not_eq_eq_eq_not, ne_eq] at h))
      | omega | (simp only [LN_]; omega) | (refine maxLen_ok ?_; (first | omega | (simp only [LN_]; omega))))
    refine midA (fun _ : Unit => ⟨(SI o l :: .any :: .any :: .any :: .any :: .any :: I (max (handleN l) 1 : Nat) :: B (decide (0 < handleN l)) :: .any :: .any :: .any :: .any :: .any :: .any :: .any :: .any :: .any :: .any :: .any :: .any :: .any :: .any :: .any :: .any :: .any :: .any :: .any :: .any :: .any :: .any :: .any :: .any :: .any :: .any :: .any :: .any :: .any :: .any :: .any :: .any :: .any :: .any :: .any :: .any :: .any :: .any :: .any :: .any :: .any :: .any :: .any :: .any :: .any :: .any :: .any :: .any :: .any :: .any :: .any :: .any :: .any :: .any :: .any :: .any :: .any :: .any :: .any :: .any :: .any :: .any :: .any :: .any :: .any :: .any :: .any :: .any :: .any :: .any :: .any :: .any :: .any :: .any :: .any :: .any :: .any :: .any :: .any :: .any :: .any :: .any :: .any :: .any :: .any :: .any :: .any :: .any :: .any :: .any :: .any :: .any :: .any :: .any :: .any :: .any :: .any :: .any :: .any :: .any :: .any :: .any :: .any :: .any :: .any :: .any :: .any :: .any :: .any :: .any :: .any :: .any :: .any :: .any :: .any :: .any :: .any :: .any :: .any :: .any :: []), σ, true, []⟩) (fun _ => True) ?_ ?_
    · cases ha : atI l (1 + cnt wordI (l.drop 1)) 33
      · have e : handleN l = 0 := by unfold handleN; rw [if_neg (by rw [ha]; decide)]
        repeat' (first
          | with_reducible first | refine AW_seqA (AW_block ?_) | refine AW_block ?_ | refine cut_seqloop ?_ | refine cut_loop ?_ | refine AW_seqA (AW_seqA ?_) | refine AW_seq ?_ | refine AW_runReg ?_ | refine AW_runCond ?_ | refine AW_runExit ?_ | refine AW_runRet ?_ | refine AW_runSkip ?_ | refine AW_runLabel ?_
          | simp only [WL, intF, strF, WM, Int.reduceToNat, ne_eq, reduceCtorEq, not_false_eq_true, Nat.reduceAdd, Nat.reduceSub, Nat.reduceLT, Nat.reduceLeDiff, Nat.reduceEqDiff, Bool.not_true, Bool.not_false, beq_self_eq_true, true_and, and_true, reduceIte, Bool.false_eq_true, convC_sl, convC_str, List.eraseIdx_cons_zero, List.eraseIdx_cons_succ, T3, T4, T5, T9, T24, T30, cok16, cok17, cok37, cok87, Try.results94]
          | simp (disch := first | omega | (simp only [LN_]; omega)) only [wrap_id, getI]
          | with_reducible first | refine andA (hb := ?_) | refine y_load (hK := ?_) | refine y_bytes ?_ | refine cD (rWord ?_) | refine cD (rBytes ?_ ?_) | refine cD (rUri ?_ ?_) | refine cD (rFlow ?_)
          | with_reducible refine y_nil (hK := ?_)
          | (with_reducible refine nilTC_split (fun h => ?_) (fun h bn => ?_) <;> (try simp only [List.length_map] at h))
          | ((with_reducible first | refine grd_cases (fun h => ?_) (fun h => ?_) | refine condC_split (fun h => ?_) (fun h => ?_)) <;> (try simp only [h]) <;> (try simp only [NR_, Bool.not_true, Bool.not_false, Bool.not_eq_eq_eq_not, ne_eq] at h))
          | omega | (simp only [LN_]; omega) | (refine maxLen_ok ?_; (first | omega | (simp only [LN_]; omega))))
        exact ⟨(), St_le_same (by rw [e]; repeat (first | exact trivial | refine ⟨le_rfl, ?_⟩ | refine ⟨le_any, ?_⟩ | refine ⟨le_ro, ?_⟩ | refine ⟨le_nil (by decide), ?_⟩ | refine ⟨le_wrap (by omega) (by omega) (by omega), ?_⟩ | refine ⟨le_int (by omega), ?_⟩ | refine ⟨le_eq (by simp), ?_⟩)) id⟩
      · have e : handleN l = 1 + cnt wordI (l.drop 1) + 1 := by unfold handleN; rw [if_pos ha]
        have e2 : max (handleN l) 1 = 1 + cnt wordI (l.drop 1) + 1 := by omega
        have e3 : decide (0 < handleN l) = true := decide_eq_true (by omega)
        have hl2 := (atI_lt ha).1
        repeat' (first
          | with_reducible first | refine AW_seqA (AW_block ?_) | refine AW_block ?_ | refine cut_seqloop ?_ | refine cut_loop ?_ | refine AW_seqA (AW_seqA ?_) | refine AW_seq ?_ | refine AW_runReg ?_ | refine AW_runCond ?_ | refine AW_runExit ?_ | refine AW_runRet ?_ | refine AW_runSkip ?_ | refine AW_runLabel ?_
          | simp only [WL, intF, strF, WM, Int.reduceToNat, ne_eq, reduceCtorEq, not_false_eq_true, Nat.reduceAdd, Nat.reduceSub, Nat.reduceLT, Nat.reduceLeDiff, Nat.reduceEqDiff, Bool.not_true, Bool.not_false, beq_self_eq_true, true_and, and_true, reduceIte, Bool.false_eq_true, convC_sl, convC_str, List.eraseIdx_cons_zero, List.eraseIdx_cons_succ, T3, T4, T5, T9, T24, T30, cok16, cok17, cok37, cok87, Try.results94]
          | simp (disch := first | omega | (simp only [LN_]; omega)) only [wrap_id, getI]
          | with_reducible first | refine andA (hb := ?_) | refine y_load (hK := ?_) | refine y_bytes ?_ | refine cD (rWord ?_) | refine cD (rBytes ?_ ?_) | refine cD (rUri ?_ ?_) | refine cD (rFlow ?_)
          | with_reducible refine y_nil (hK := ?_)
          | (with_reducible refine nilTC_split (fun h => ?_) (fun h bn => ?_) <;> (try simp only [List.length_map] at h))
          | ((with_reducible first | refine grd_cases (fun h => ?_) (fun h => ?_) | refine condC_split (fun h => ?_) (fun h => ?_)) <;> (try simp only [h]) <;> (try simp only [NR_, Bool.not_true, Bool.not_false, Bool.not_eq_eq_eq_not, ne_eq] at h))
          | omega | (simp only [LN_]; omega) | (refine maxLen_ok ?_; (first | omega | (simp only [LN_]; omega))))
        exact ⟨(), St_le_same (by rw [e2, e3]; repeat (first | exact trivial | refine ⟨le_rfl, ?_⟩ | refine ⟨le_any, ?_⟩ | refine ⟨le_ro, ?_⟩ | refine ⟨le_nil (by decide), ?_⟩ | refine ⟨le_wrap (by omega) (by omega) (by omega), ?_⟩ | refine ⟨le_int (by omega), ?_⟩ | refine ⟨le_eq (by simp), ?_⟩)) id⟩
    rintro _ _
    repeat' (first
      | with_reducible first | refine AW_seqA (AW_block ?_) | refine AW_block ?_ | refine cut_seqloop ?_ | refine cut_loop ?_ | refine AW_seqA (AW_seqA ?_) | refine AW_seq ?_ | refine AW_runReg ?_ | refine AW_runCond ?_ | refine AW_runExit ?_ | refine AW_runRet ?_ | refine AW_runSkip ?_ | refine AW_runLabel ?_
      | simp only [WL, intF, strF, WM, Int.reduceToNat, ne_eq, reduceCtorEq, not_false_eq_true, Nat.reduceAdd, Nat.reduceSub, Nat.reduceLT, Nat.reduceLeDiff, Nat.reduceEqDiff, Bool.not_true, Bool.not_false, beq_self_eq_true, true_and, and_true, reduceIte, Bool.false_eq_true, convC_sl, convC_str, List.eraseIdx_cons_zero, List.eraseIdx_cons_succ, T3, T4, T5, T9, T24, T30, cok16, cok17, cok37, cok87, Try.results94]
      | simp (disch := first | omega | (simp only [LN_]; omega)) only [wrap_id, getI]
      | with_reducible first | refine andA (hb := ?_) | refine y_load (hK := ?_) | refine y_bytes ?_ | refine cD (rWord ?_) | refine cD (rBytes ?_ ?_) | refine cD (rUri ?_ ?_) | refine cD (rFlow ?_)
      | with_reducible refine y_nil (hK := ?_)
      | (with_reducible refine nilTC_split (fun h => ?_) (fun h bn => ?_) <;> (try simp only [List.length_map] at h))
      | ((with_reducible first | refine grd_cases (fun h => ?_) (fun h => ?_) | refine condC_split (fun h => ?_) (fun h => ?_)) <;> (try simp only [h]) <;> (try simp only [NR_, Bool.not_true, Bool.not_false, Bool.not_eq_eq_eq_not, ne_eq] at h))
      | omega | (simp only [LN_]; omega) | (refine maxLen_ok ?_; (first | omega | (simp only [LN_]; omega))))
    refine loopA (fun i : Nat => ⟨(SI o l :: .any :: .any :: .any :: .any :: .any :: I i :: B (decide (0 < handleN l)) :: I (max (handleN l) 1 : Nat) :: .any :: .any :: .any :: .any :: .any :: .any :: .any :: .any :: .any :: .any :: .any :: .any :: .any :: .any :: .any :: .any :: .any :: .any :: .any :: .any :: .any :: .any :: .any :: .any :: .any :: .any :: .any :: .any :: .any :: .any :: .any :: .any :: .any :: .any :: .any :: .any :: .any :: .any :: .any :: .any :: .any :: .any :: .any :: .any :: .any :: .any :: .any :: .any :: .any :: .any :: .any :: .any :: .any :: .any :: .any :: .any :: .any :: .any :: .any :: .any :: .any :: .any :: .any :: .any :: .any :: .any :: .any :: .any :: .any :: .any :: .any :: .any :: .any :: .any :: .any :: .any :: .any :: .any :: .any :: .any :: .any :: .any :: .any :: .any :: .any :: .any :: .any :: .any :: .any :: .any :: .any :: .any :: .any :: .any :: .any :: .any :: .any :: .any :: .any :: .any :: .any :: .any :: .any :: .any :: .any :: .any :: .any :: .any :: .any :: .any :: .any :: .any :: .any :: .any :: .any :: .any :: .any :: .any :: .any :: []), σ, true, []⟩) (fun i => max (handleN l) 1 ≤ i ∧ i ≤ l.length ∧ uriN shortC (l.drop (max (handleN l) 1)) + max (handleN l) 1 = i + uriN shortC (l.drop i)) (fun i => l.length - i) (max (handleN l) 1) (St_le_same (by repeat (first | exact trivial | refine ⟨le_rfl, ?_⟩ | refine ⟨le_any, ?_⟩ | refine ⟨le_ro, ?_⟩ | refine ⟨le_nil (by decide), ?_⟩ | refine ⟨le_wrap (by omega) (by omega) (by omega), ?_⟩ | refine ⟨le_int (by omega), ?_⟩ | refine ⟨le_eq (by simp), ?_⟩)) id) ⟨Nat.le_refl _, by omega, by omega⟩ ?_
    rintro i ⟨hi2, hil, hui⟩
    have hsn := signN_drop_le (l := l) (i := i)
    by_cases hgo : signN (l.drop i) = 0 ∨ shortC (l.getD i 0) = false
    · rw [uriN_no (l := l.drop i) (by rw [getD_drop0]; exact hgo), Nat.add_zero] at hui
      have ew2 : shortI l = if 0 < handleN l ∧ i = max (handleN l) 1 then noneT else (textI (l.take i), (i : Int), true) := by
        unfold shortI
        rw [hui]
        exact ite_congr (propext (and_congr_right fun _ => by omega)) (fun _ => rfl) (fun _ => rfl)
      rw [ew2] at hK
      clear ew2
      by_cases hq : 0 < handleN l ∧ i = max (handleN l) 1
      · rw [if_pos hq] at hK
        obtain ⟨hq1, hq2⟩ := hq
        repeat' (first
          | with_reducible first | refine AW_seqA (AW_block ?_) | refine AW_block ?_ | refine cut_seqloop ?_ | refine cut_loop ?_ | refine AW_seqA (AW_seqA ?_) | refine AW_seq ?_ | refine AW_runReg ?_ | refine AW_runCond ?_ | refine AW_runExit ?_ | refine AW_runRet ?_ | refine AW_runSkip ?_ | refine AW_runLabel ?_
          | simp only [WL, intF, strF, WM, Int.reduceToNat, ne_eq, reduceCtorEq, not_false_eq_true, Nat.reduceAdd, Nat.reduceSub, Nat.reduceLT, Nat.reduceLeDiff, Nat.reduceEqDiff, Bool.not_true, Bool.not_false, beq_self_eq_true, true_and, and_true, reduceIte, Bool.false_eq_true, convC_sl, convC_str, List.eraseIdx_cons_zero, List.eraseIdx_cons_succ, T3, T4, T5, T9, T24, T30, cok16, cok17, cok37, cok87, Try.results94]
          | simp (disch := first | omega | (simp only [LN_]; omega)) only [wrap_id, getI]
          | with_reducible first | refine andA (hb := ?_) | refine y_load (hK := ?_) | refine y_bytes ?_ | refine cD (rWord ?_) | refine cD (rBytes ?_ ?_) | refine cD (rUri ?_ ?_) | refine cD (rFlow ?_)
          | with_reducible refine y_nil (hK := ?_)
          | (with_reducible refine nilTC_split (fun h => ?_) (fun h bn => ?_) <;> (try simp only [List.length_map] at h))
          | ((with_reducible first | refine grd_cases (fun h => ?_) (fun h => ?_) | refine condC_split (fun h => ?_) (fun h => ?_)) <;> (try simp only [h]) <;> (try simp only [NR_, Bool.not_true, Bool.not_false, Bool.not_eq_eq_eq_not, ne_eq] at h))
          | omega | (simp only [LN_]; omega) | (refine maxLen_ok ?_; (first | omega | (simp only [LN_]; omega))))
        all_goals first
          | (exfalso; omega)
          | exact leafL sub_rfl (leT_eq rfl) hK
          | exact leafL sub_rfl (leT_eq (by simp [textI])) hK
          | (exfalso
             rcases hgo with e | e
             · omega
             · simp_all [shortC])
      · rw [if_neg hq] at hK
        repeat' (first
          | with_reducible first | refine AW_seqA (AW_block ?_) | refine AW_block ?_ | refine cut_seqloop ?_ | refine cut_loop ?_ | refine AW_seqA (AW_seqA ?_) | refine AW_seq ?_ | refine AW_runReg ?_ | refine AW_runCond ?_ | refine AW_runExit ?_ | refine AW_runRet ?_ | refine AW_runSkip ?_ | refine AW_runLabel ?_
          | simp only [WL, intF, strF, WM, Int.reduceToNat, ne_eq, reduceCtorEq, not_false_eq_true, Nat.reduceAdd, Nat.reduceSub, Nat.reduceLT, Nat.reduceLeDiff, Nat.reduceEqDiff, Bool.not_true, Bool.not_false, beq_self_eq_true, true_and, and_true, reduceIte, Bool.false_eq_true, convC_sl, convC_str, List.eraseIdx_cons_zero, List.eraseIdx_cons_succ, T3, T4, T5, T9, T24, T30, cok16, cok17, cok37, cok87, Try.results94]
          | simp (disch := first | omega | (simp only [LN_]; omega)) only [wrap_id, getI]
          | with_reducible first | refine andA (hb := ?_) | refine y_load (hK := ?_) | refine y_bytes ?_ | refine cD (rWord ?_) | refine cD (rBytes ?_ ?_) | refine cD (rUri ?_ ?_) | refine cD (rFlow ?_)
          | with_reducible refine y_nil (hK := ?_)
          | (with_reducible refine nilTC_split (fun h => ?_) (fun h bn => ?_) <;> (try simp only [List.length_map] at h))
          | ((with_reducible first | refine grd_cases (fun h => ?_) (fun h => ?_) | refine condC_split (fun h => ?_) (fun h => ?_)) <;> (try simp only [h]) <;> (try simp only [NR_, Bool.not_true, Bool.not_false, Bool.not_eq_eq_eq_not, ne_eq] at h))
          | omega | (simp only [LN_]; omega) | (refine maxLen_ok ?_; (first | omega | (simp only [LN_]; omega))))
        all_goals first
          | (exfalso; omega)
          | exact leafL sub_rfl (leT_eq rfl) hK
          | exact leafL sub_rfl (leT_eq (by simp [textI])) hK
          | (exfalso
             rcases hgo with e | e
             · omega
             · simp_all [shortC])
    · have hgo1 : ¬ signN (l.drop i) = 0 := fun e => hgo (.inl e)
      have hgo2 : shortC (l.getD i 0) = true := by
        cases e : shortC (l.getD i 0)
        · exact absurd (.inr e) hgo
        · rfl
      rw [uriN_yes hgo1 (by rw [getD_drop0]; exact hgo2), List.drop_drop] at hui
      have hs1 := (short_yes hgo2).1
      have hs2 := (short_yes hgo2).2
      repeat' (first
        | with_reducible first | refine AW_seqA (AW_block ?_) | refine AW_block ?_ | refine cut_seqloop ?_ | refine cut_loop ?_ | refine AW_seqA (AW_seqA ?_) | refine AW_seq ?_ | refine AW_runReg ?_ | refine AW_runCond ?_ | refine AW_runExit ?_ | refine AW_runRet ?_ | refine AW_runSkip ?_ | refine AW_runLabel ?_
        | simp only [WL, intF, strF, WM, Int.reduceToNat, ne_eq, reduceCtorEq, not_false_eq_true, Nat.reduceAdd, Nat.reduceSub, Nat.reduceLT, Nat.reduceLeDiff, Nat.reduceEqDiff, Bool.not_true, Bool.not_false, beq_self_eq_true, true_and, and_true, reduceIte, Bool.false_eq_true, convC_sl, convC_str, List.eraseIdx_cons_zero, List.eraseIdx_cons_succ, T3, T4, T5, T9, T24, T30, cok16, cok17, cok37, cok87, Try.results94, hs2]
        | simp (disch := first | omega | (simp only [LN_]; omega)) only [wrap_id, getI]
        | with_reducible first | refine andA (hb := ?_) | refine y_load (hK := ?_) | refine y_bytes ?_ | refine cD (rWord ?_) | refine cD (rBytes ?_ ?_) | refine cD (rUri ?_ ?_) | refine cD (rFlow ?_)
        | with_reducible refine y_nil (hK := ?_)
        | (with_reducible refine nilTC_split (fun h => ?_) (fun h bn => ?_) <;> (try simp only [List.length_map] at h))
        | ((with_reducible first | refine grd_cases (fun h => ?_) (fun h => ?_) | refine condC_split (fun h => ?_) (fun h => ?_)) <;> (try simp only [h]) <;> (try simp only [NR_, Bool.not_true, Bool.not_false, Bool.not_eq_eq_eq_not, ne_eq] at h))
        | omega | (simp only [LN_]; omega) | (refine maxLen_ok ?_; (first | omega | (simp only [LN_]; omega))))
      all_goals first
        | exact ⟨i + signN (l.drop i), St_le_same (by repeat (first | exact trivial | refine ⟨le_rfl, ?_⟩ | refine ⟨le_any, ?_⟩ | refine ⟨le_ro, ?_⟩ | refine ⟨le_nil (by decide), ?_⟩ | refine ⟨le_wrap (by omega) (by omega) (by omega), ?_⟩ | refine ⟨le_int (by omega), ?_⟩ | refine ⟨le_eq (by simp), ?_⟩)) id, ⟨by omega, by omega, by omega⟩, by omega⟩
        | (exfalso; omega)
        | trace_state
  · have ew : tagI l = wholeI l := by rw [tagI, if_neg (by rw [h0]; decide), if_pos h1]
    rw [ew] at hK
    obtain ⟨hp2, h60⟩ := atI_lt h1
    refine ACallF.dropL (ACallF_intro Try.func94 rfl ?_)
    simp only [Try.ntmps94]
    repeat' (first
      | simp only [WL, intF, strF, WM, Int.reduceToNat, ne_eq, reduceCtorEq, not_false_eq_true, Nat.reduceAdd, Nat.reduceSub, Nat.reduceLT, Nat.reduceLeDiff, Nat.reduceEqDiff, Bool.not_true, Bool.not_false, beq_self_eq_true, true_and, and_true, reduceIte, Bool.false_eq_true, convC_sl, convC_str, List.eraseIdx_cons_zero, List.eraseIdx_cons_succ, T3, T4, T5, T9, T24, T30, cok16, cok17, cok37, cok87, Try.results94]
      | simp (disch := first | omega | (simp only [LN_]; omega)) only [wrap_id, getI]
      | with_reducible first | refine andA (hb := ?_) | refine y_load (hK := ?_) | refine y_bytes ?_ | refine cD (rWord ?_) | refine cD (rBytes ?_ ?_) | refine cD (rUri ?_ ?_) | refine cD (rFlow ?_)
      | with_reducible refine y_nil (hK := ?_)
      | (with_reducible refine nilTC_split (fun h => ?_) (fun h bn => ?_) <;> (try simp only [List.length_map] at h))
      | ((with_reducible first | refine grd_cases (fun h => ?_) (fun h => ?_) | refine condC_split (fun h => ?_) (fun h => ?_)) <;> (try simp only [h]) <;> (try simp only [NR_, Bool.not_true, Bool.not_false, Bool.not_eq_eq_eq_not, ne_eq] at h))
      | omega | (simp only [LN_]; omega) | (refine maxLen_ok ?_; (first | omega | (simp only [LN_]; omega))))
    all_goals first
      | (exfalso; omega)
      | skip
    refine loop_by (fun i : Nat => ⟨(SI o l :: .any :: .any :: .any :: .any :: I i :: .any :: .any :: .any :: .any :: .any :: .any :: .any :: .any :: .any :: .any :: .any :: .any :: .any :: .any :: .any :: .any :: .any :: .any :: .any :: .any :: .any :: .any :: .any :: .any :: .any :: .any :: .any :: .any :: .any :: .any :: .any :: .any :: .any :: .any :: .any :: .any :: .any :: .any :: .any :: .any :: .any :: .any :: .any :: .any :: .any :: .any :: .any :: .any :: .any :: .any :: .any :: .any :: .any :: .any :: .any :: .any :: .any :: .any :: .any :: .any :: .any :: .any :: .any :: .any :: .any :: .any :: .any :: .any :: .any :: .any :: .any :: .any :: .any :: .any :: .any :: .any :: .any :: .any :: .any :: .any :: .any :: .any :: .any :: .any :: .any :: .any :: .any :: .any :: .any :: .any :: .any :: .any :: .any :: .any :: .any :: .any :: .any :: .any :: .any :: .any :: .any :: .any :: .any :: .any :: .any :: .any :: .any :: .any :: .any :: .any :: .any :: .any :: .any :: .any :: .any :: .any :: .any :: .any :: .any :: .any :: .any :: .any :: []), σ, true, []⟩) (fun i => 2 ≤ i ∧ i ≤ l.length ∧ uriN anyC (l.drop 2) + 2 = i + uriN anyC (l.drop i)) (fun i => l.length - i) 2 (St_le_same (by repeat (first | exact trivial | refine ⟨le_rfl, ?_⟩ | refine ⟨le_any, ?_⟩ | refine ⟨le_ro, ?_⟩ | refine ⟨le_nil (by decide), ?_⟩ | refine ⟨le_wrap (by omega) (by omega) (by omega), ?_⟩ | refine ⟨le_int (by omega), ?_⟩ | refine ⟨le_eq (by simp), ?_⟩)) id) ⟨Nat.le_refl _, by omega, by omega⟩ ?_
    rintro i ⟨hi2, hil, hu⟩
    have hsn := signN_drop_le (l := l) (i := i)
    by_cases hz : signN (l.drop i) = 0
    · rw [uriN_no (.inl hz), Nat.add_zero] at hu
      have ew2 : wholeI l = if i = 2 ∨ atI l i 62 = false then noneT else (textI ((l.take i).drop 1), ((i + 1 : Nat) : Int), true) := by
        unfold wholeI
        rw [hu, show uriN anyC (l.drop 2) + 3 = i + 1 by omega]
        exact ite_congr (propext (or_congr_left (by omega))) (fun _ => rfl) (fun _ => rfl)
      rw [ew2] at hK
      clear ew2
      repeat' (first
        | simp only [WL, intF, strF, WM, Int.reduceToNat, ne_eq, reduceCtorEq, not_false_eq_true, Nat.reduceAdd, Nat.reduceSub, Nat.reduceLT, Nat.reduceLeDiff, Nat.reduceEqDiff, Bool.not_true, Bool.not_false, beq_self_eq_true, true_and, and_true, reduceIte, Bool.false_eq_true, convC_sl, convC_str, List.eraseIdx_cons_zero, List.eraseIdx_cons_succ, T3, T4, T5, T9, T24, T30, cok16, cok17, cok37, cok87, Try.results94, hz]
        | simp (disch := first | omega | (simp only [LN_]; omega)) only [wrap_id, getI]
        | with_reducible first | refine andA (hb := ?_) | refine y_load (hK := ?_) | refine y_bytes ?_ | refine cD (rWord ?_) | refine cD (rBytes ?_ ?_) | refine cD (rUri ?_ ?_) | refine cD (rFlow ?_)
        | with_reducible refine y_nil (hK := ?_)
        | (with_reducible refine nilTC_split (fun h => ?_) (fun h bn => ?_) <;> (try simp only [List.length_map] at h))
        | ((with_reducible first | refine grd_cases (fun h => ?_) (fun h => ?_) | refine condC_split (fun h => ?_) (fun h => ?_)) <;> (try simp only [h]) <;> (try simp only [NR_, Bool.not_true, Bool.not_false, Bool.not_eq_eq_eq_not, ne_eq] at h))
        | omega | (simp only [LN_]; omega) | (refine maxLen_ok ?_; (first | omega | (simp only [LN_]; omega))))
      all_goals first
        | (rw [if_pos (by first | exact .inl (by omega) | exact .inr (atI_mk0 (by first | exact .inl (by omega) | exact .inr (by assumption))))] at hK; exact leafL sub_rfl (leT_eq rfl) hK)
        | (rw [if_neg (fun h => h.elim (fun h => by omega) (fun h => by rw [atI_mk (by omega) (by assumption)] at h; cases h))] at hK; exact leafL sub_rfl (leT_eq (by simp [textI])) hK)
        | (exfalso; omega)
        | trace_state
    · rw [uriN_yes hz rfl, List.drop_drop] at hu
      repeat' (first
        | simp only [WL, intF, strF, WM, Int.reduceToNat, ne_eq, reduceCtorEq, not_false_eq_true, Nat.reduceAdd, Nat.reduceSub, Nat.reduceLT, Nat.reduceLeDiff, Nat.reduceEqDiff, Bool.not_true, Bool.not_false, beq_self_eq_true, true_and, and_true, reduceIte, Bool.false_eq_true, convC_sl, convC_str, List.eraseIdx_cons_zero, List.eraseIdx_cons_succ, T3, T4, T5, T9, T24, T30, cok16, cok17, cok37, cok87, Try.results94]
        | simp (disch := first | omega | (simp only [LN_]; omega)) only [wrap_id, getI]
        | with_reducible first | refine andA (hb := ?_) | refine y_load (hK := ?_) | refine y_bytes ?_ | refine cD (rWord ?_) | refine cD (rBytes ?_ ?_) | refine cD (rUri ?_ ?_) | refine cD (rFlow ?_)
        | with_reducible refine y_nil (hK := ?_)
        | (with_reducible refine nilTC_split (fun h => ?_) (fun h bn => ?_) <;> (try simp only [List.length_map] at h))
        | ((with_reducible first | refine grd_cases (fun h => ?_) (fun h => ?_) | refine condC_split (fun h => ?_) (fun h => ?_)) <;> (try simp only [h]) <;> (try simp only [NR_, Bool.not_true, Bool.not_false, Bool.not_eq_eq_eq_not, ne_eq] at h))
        | omega | (simp only [LN_]; omega) | (refine maxLen_ok ?_; (first | omega | (simp only [LN_]; omega))))
      all_goals first
        | exact ⟨i + signN (l.drop i), St_le_same (by repeat (first | exact trivial | refine ⟨le_rfl, ?_⟩ | refine ⟨le_any, ?_⟩ | refine ⟨le_ro, ?_⟩ | refine ⟨le_nil (by decide), ?_⟩ | refine ⟨le_wrap (by omega) (by omega) (by omega), ?_⟩ | refine ⟨le_int (by omega), ?_⟩ | refine ⟨le_eq (by simp), ?_⟩)) id, ⟨by omega, by omega, by omega⟩, by omega⟩
        | (exfalso; omega)
end Go.Proofs.Ytaeacialcbahnaa
/-
  Walks: chapter 11, directives.
-/

namespace Go.Proofs.Ytaeacialcbahnaa
open Go.Abs
set_option linter.unusedVariables false
set_option linter.unusedSimpArgs false
-- hb: 8000000
variable {κ : Ctx} {σ : List Res} {K : Ret → List Res → Prop} {o o' : Option (Option (Nat × Nat))}

-- props.blanks
set_option maxHeartbeats 8000000 in
theorem pBlanks {l : List Int} {i : Nat} (hl : l.length ≤ 1000000000) (hi : i ≤ l.length) (hK : K (.ret (I (i + cnt blankI (l.drop i) : Nat))) σ) : ACallF κ Try.prog 48 [SI o l, I i] σ K := by
  have hcl := cnt_le blankI (l.drop i)
  rw [List.length_drop] at hcl
  refine ACallF.dropL (ACallF_introA Try.func48 rfl ?_)
  simp only [Try.ntmps48]
  repeat' (first
    | with_reducible first | refine AW_seqA (AW_block ?_) | refine AW_block ?_ | refine cut_seqloop ?_ | refine cut_loop ?_ | refine AW_seqA (AW_seqA ?_) | refine AW_seq ?_ | refine AW_runReg ?_ | refine AW_runCond ?_ | refine AW_runExit ?_ | refine AW_runRet ?_ | refine AW_runSkip ?_ | refine AW_runLabel ?_
    | simp only [WL, intF, strF, WM, Int.reduceToNat, ne_eq, reduceCtorEq, not_false_eq_true, Nat.reduceAdd, Nat.reduceSub, Nat.reduceLT, Nat.reduceLeDiff, Nat.reduceEqDiff, Bool.not_true, Bool.not_false, beq_self_eq_true, true_and, and_true, reduceIte, Bool.false_eq_true, T3, T4, T24, cok76, Try.results48]
    | simp (disch := first | omega | (simp only [LN_]; omega)) only [wrap_id, getI]
    | with_reducible first | refine andA (hb := ?_) | refine y_load (hK := ?_) | refine cD (Blank ?_)
    | with_reducible refine y_nil (hK := ?_)
    | (with_reducible refine nilTC_split (fun h => ?_) (fun h bn => ?_) <;> (try simp only [List.length_map] at h))
    | ((with_reducible first | refine grd_cases (fun h => ?_) (fun h => ?_) | refine condC_split (fun h => ?_) (fun h => ?_)) <;> (try simp only [h]) <;> (try simp only [NR_, Bool.not_true, Bool.not_false, Bool.not_eq_eq_eq_not, ne_eq] at h))
    | omega | (simp only [LN_]; omega))
  refine loopA (fun k : Nat => ⟨(SI o l :: I (i + k : Nat) :: .any :: .any :: .any :: .any :: .any :: .any :: .any :: .any :: .any :: .any :: .any :: .any :: .any :: .any :: .any :: .any :: .any :: []), σ, true, []⟩) (fun k => k ≤ cnt blankI (l.drop i)) (fun k => l.length - k) 0 (St_le_same (by repeat (first | exact trivial | refine ⟨le_rfl, ?_⟩ | refine ⟨le_any, ?_⟩ | refine ⟨le_ro, ?_⟩ | refine ⟨le_nil (by decide), ?_⟩ | refine ⟨le_wrap (by omega) (by omega) (by omega), ?_⟩ | refine ⟨le_int (by omega), ?_⟩ | refine ⟨le_eq (by simp), ?_⟩)) id) (Nat.zero_le _) ?_
  intro k hk
  repeat' (first
    | with_reducible first | refine AW_seqA (AW_block ?_) | refine AW_block ?_ | refine cut_seqloop ?_ | refine cut_loop ?_ | refine AW_seqA (AW_seqA ?_) | refine AW_seq ?_ | refine AW_runReg ?_ | refine AW_runCond ?_ | refine AW_runExit ?_ | refine AW_runRet ?_ | refine AW_runSkip ?_ | refine AW_runLabel ?_
    | simp only [WL, intF, strF, WM, Int.reduceToNat, ne_eq, reduceCtorEq, not_false_eq_true, Nat.reduceAdd, Nat.reduceSub, Nat.reduceLT, Nat.reduceLeDiff, Nat.reduceEqDiff, Bool.not_true, Bool.not_false, beq_self_eq_true, true_and, and_true, reduceIte, Bool.false_eq_true, T3, T4, T24, cok76, Try.results48]
    | simp (disch := first | omega | (simp only [LN_]; omega)) only [wrap_id, getI]
    | with_reducible first | refine andA (hb := ?_) | refine y_load (hK := ?_) | refine cD (Blank ?_)
    | with_reducible refine y_nil (hK := ?_)
    | (with_reducible refine nilTC_split (fun h => ?_) (fun h bn => ?_) <;> (try simp only [List.length_map] at h))
    | ((with_reducible first | refine grd_cases (fun h => ?_) (fun h => ?_) | refine condC_split (fun h => ?_) (fun h => ?_)) <;> (try simp only [h]) <;> (try simp only [NR_, Bool.not_true, Bool.not_false, Bool.not_eq_eq_eq_not, ne_eq] at h))
    | omega | (simp only [LN_]; omega))
  all_goals first
    | exact ⟨k + 1, St_le_same (by repeat (first | exact trivial | refine ⟨le_rfl, ?_⟩ | refine ⟨le_any, ?_⟩ | refine ⟨le_ro, ?_⟩ | refine ⟨le_nil (by decide), ?_⟩ | refine ⟨le_wrap (by omega) (by omega) (by omega), ?_⟩ | refine ⟨le_int (by omega), ?_⟩ | refine ⟨le_eq (by simp), ?_⟩)) id, cnt_step hk (by rw [List.length_drop]; omega) (by rw [getD_dropI]; assumption), by omega⟩
    | (have e := cnt_stop hk (by first | exact .inl (by rw [List.length_drop]; omega) | exact .inr (by rw [getD_dropI]; assumption))
       exact leafL sub_rfl (leT_eq (by rw [← e])) hK)

-- props.over
set_option maxHeartbeats 8000000 in
theorem pOver {l : List Int} {i : Nat} (hl : l.length ≤ 1000000000) (hi : i ≤ l.length) (hK : K (.ret (B (tailI (l.drop i)))) σ) : ACallF κ Try.prog 86 [SI o l, I i] σ K := by
  have hcl := cnt_le blankI (l.drop i)
  rw [List.length_drop] at hcl
  refine ACallF.dropL (ACallF_intro Try.func86 rfl ?_)
  simp only [Try.ntmps86]
  repeat' (first
    | simp only [WL, intF, strF, WM, Int.reduceToNat, ne_eq, reduceCtorEq, not_false_eq_true, Nat.reduceAdd, Nat.reduceSub, Nat.reduceLT, Nat.reduceLeDiff, Nat.reduceEqDiff, Bool.not_true, Bool.not_false, beq_self_eq_true, true_and, and_true, reduceIte, Bool.false_eq_true, T3, T4, T24, cok48, Try.results86]
    | simp (disch := first | omega | (simp only [LN_]; omega)) only [wrap_id, getI]
    | with_reducible first | refine andA (hb := ?_) | refine y_load (hK := ?_) | refine cD (pBlanks ?_ ?_ ?_)
    | with_reducible refine y_nil (hK := ?_)
    | (with_reducible refine nilTC_split (fun h => ?_) (fun h bn => ?_) <;> (try simp only [List.length_map] at h))
    | ((with_reducible first | refine grd_cases (fun h => ?_) (fun h => ?_) | refine condC_split (fun h => ?_) (fun h => ?_)) <;> (try simp only [h]) <;> (try simp only [NR_, Bool.not_true, Bool.not_false, Bool.not_eq_eq_eq_not, ne_eq] at h))
    | omega | (simp only [LN_]; omega))
  all_goals
    refine leafL sub_rfl (leT_eq (congrArg B ?_)) hK
    rw [Bool.eq_iff_iff]
    simp only [tailI, List.length_drop, getD_dropI, decide_eq_true_eq, beq_iff_eq, Bool.false_eq_true, false_iff, true_iff]
    omega

-- props.digits
set_option maxHeartbeats 8000000 in
theorem pDigits {l : List Int} {i : Nat} (hl : l.length ≤ 1000000000) (hi : i ≤ l.length) (hK : K (.ret (I (i + cnt digitC (l.drop i) : Nat))) σ) : ACallF κ Try.prog 85 [SI o l, I i] σ K := by
  have hcl := cnt_le digitC (l.drop i)
  rw [List.length_drop] at hcl
  refine ACallF.dropL (ACallF_introA Try.func85 rfl ?_)
  simp only [Try.ntmps85]
  repeat' (first
    | with_reducible first | refine AW_seqA (AW_block ?_) | refine AW_block ?_ | refine cut_seqloop ?_ | refine cut_loop ?_ | refine AW_seqA (AW_seqA ?_) | refine AW_seq ?_ | refine AW_runReg ?_ | refine AW_runCond ?_ | refine AW_runExit ?_ | refine AW_runRet ?_ | refine AW_runSkip ?_ | refine AW_runLabel ?_
    | simp only [WL, intF, strF, WM, Int.reduceToNat, ne_eq, reduceCtorEq, not_false_eq_true, Nat.reduceAdd, Nat.reduceSub, Nat.reduceLT, Nat.reduceLeDiff, Nat.reduceEqDiff, Bool.not_true, Bool.not_false, beq_self_eq_true, true_and, and_true, reduceIte, Bool.false_eq_true, T3, T4, T24, Try.results85]
    | simp (disch := first | omega | (simp only [LN_]; omega)) only [wrap_id, getI]
    | with_reducible first | refine andA (hb := ?_) | refine y_load (hK := ?_)
    | with_reducible refine y_nil (hK := ?_)
    | (with_reducible refine nilTC_split (fun h => ?_) (fun h bn => ?_) <;> (try simp only [List.length_map] at h))
    | ((with_reducible first | refine grd_cases (fun h => ?_) (fun h => ?_) | refine condC_split (fun h => ?_) (fun h => ?_)) <;> (try simp only [h]) <;> (try simp only [NR_, Bool.not_true, Bool.not_false, Bool.not_eq_eq_eq_not, ne_eq] at h))
    | omega | (simp only [LN_]; omega))
  refine loopA (fun k : Nat => ⟨(SI o l :: I (i + k : Nat) :: .any :: .any :: .any :: .any :: .any :: .any :: .any :: .any :: .any :: .any :: .any :: .any :: .any :: .any :: .any :: .any :: .any :: .any :: .any :: .any :: .any :: .any :: .any :: .any :: []), σ, true, []⟩) (fun k => k ≤ cnt digitC (l.drop i)) (fun k => l.length - k) 0 (St_le_same (by repeat (first | exact trivial | refine ⟨le_rfl, ?_⟩ | refine ⟨le_any, ?_⟩ | refine ⟨le_ro, ?_⟩ | refine ⟨le_nil (by decide), ?_⟩ | refine ⟨le_wrap (by omega) (by omega) (by omega), ?_⟩ | refine ⟨le_int (by omega), ?_⟩ | refine ⟨le_eq (by simp), ?_⟩)) id) (Nat.zero_le _) ?_
  intro k hk
  repeat' (first
    | with_reducible first | refine AW_seqA (AW_block ?_) | refine AW_block ?_ | refine cut_seqloop ?_ | refine cut_loop ?_ | refine AW_seqA (AW_seqA ?_) | refine AW_seq ?_ | refine AW_runReg ?_ | refine AW_runCond ?_ | refine AW_runExit ?_ | refine AW_runRet ?_ | refine AW_runSkip ?_ | refine AW_runLabel ?_
    | simp only [WL, intF, strF, WM, Int.reduceToNat, ne_eq, reduceCtorEq, not_false_eq_true, Nat.reduceAdd, Nat.reduceSub, Nat.reduceLT, Nat.reduceLeDiff, Nat.reduceEqDiff, Bool.not_true, Bool.not_false, beq_self_eq_true, true_and, and_true, reduceIte, Bool.false_eq_true, T3, T4, T24, Try.results85]
    | simp (disch := first | omega | (simp only [LN_]; omega)) only [wrap_id, getI]
    | with_reducible first | refine andA (hb := ?_) | refine y_load (hK := ?_)
    | with_reducible refine y_nil (hK := ?_)
    | (with_reducible refine nilTC_split (fun h => ?_) (fun h bn => ?_) <;> (try simp only [List.length_map] at h))
    | ((with_reducible first | refine grd_cases (fun h => ?_) (fun h => ?_) | refine condC_split (fun h => ?_) (fun h => ?_)) <;> (try simp only [h]) <;> (try simp only [NR_, Bool.not_true, Bool.not_false, Bool.not_eq_eq_eq_not, ne_eq] at h))
    | omega | (simp only [LN_]; omega))
  all_goals first
    | exact ⟨k + 1, St_le_same (by repeat (first | exact trivial | refine ⟨le_rfl, ?_⟩ | refine ⟨le_any, ?_⟩ | refine ⟨le_ro, ?_⟩ | refine ⟨le_nil (by decide), ?_⟩ | refine ⟨le_wrap (by omega) (by omega) (by omega), ?_⟩ | refine ⟨le_int (by omega), ?_⟩ | refine ⟨le_eq (by simp), ?_⟩)) id, cnt_step hk (by rw [List.length_drop]; omega) (by rw [getD_dropI]; exact decide_eq_true ⟨by omega, by omega⟩), by omega⟩
    | (have e := cnt_stop hk (by first | exact .inl (by rw [List.length_drop]; omega) | exact .inr (by rw [getD_dropI]; exact decide_eq_false (by omega)))
       exact leafL sub_rfl (leT_eq (by rw [← e])) hK)

-- props.version
set_option maxHeartbeats 8000000 in
theorem pVersion {l : List Int} {i : Nat} (hl : l.length ≤ 1000000000) (hi : i ≤ l.length) (hK : K (.ret (.tup [.raw (.string (versP l i).1), .raw (.string (versP l i).2.1), B (versP l i).2.2])) σ) : ACallF κ Try.prog 49 [SI o l, I i] σ K := by
  have hcl := cnt_le digitC (l.drop i)
  rw [List.length_drop] at hcl
  unfold versP at hK
  generalize ha : cnt digitC (l.drop i) = a at *
  have hdig : ∀ (K : Ret → List Res → Prop), K (.ret (I (i + a : Nat))) σ → ACallF κ Try.prog 85 [SI o l, I i] σ K := fun K h => pDigits hl hi (by rw [ha]; exact h)
  cases h2 : atI l (i + a) 46
  · rw [if_pos (.inr h2)] at hK
    refine ACallF.dropL (ACallF_intro Try.func49 rfl ?_)
    simp only [Try.ntmps49]
    repeat' (first
      | simp only [WL, intF, strF, WM, Int.reduceToNat, ne_eq, reduceCtorEq, not_false_eq_true, Nat.reduceAdd, Nat.reduceSub, Nat.reduceLT, Nat.reduceLeDiff, Nat.reduceEqDiff, Bool.not_true, Bool.not_false, beq_self_eq_true, true_and, and_true, reduceIte, Bool.false_eq_true, T3, T4, T9, T24, cok39, cok44, cok85, cok86, Try.results49, h2]
      | simp (disch := first | omega | (simp only [LN_]; omega)) only [wrap_id, getI]
      | with_reducible first | refine andA (hb := ?_) | refine callD_mk (hdig _ ?_) | refine cD (pIs (i := i + a) ?_ ?_ ?_) | refine cQ (pIs ?_ ?_ isR_mk) ?_ | refine cD (pIs ?_ ?_ ?_) | refine cQ (pText ?_ isR_mk) ?_ | refine cD (pText ?_ ?_) | refine cQ (pDigits ?_ ?_ isR_mk) ?_ | refine cD (pDigits ?_ ?_ ?_) | refine cQ (pOver ?_ ?_ isR_mk) ?_ | refine cD (pOver ?_ ?_ ?_)
      | ((with_reducible refine AW_drawM (id := 5) 23 mixed ?_ ?_); kernel_rfl)
      | (with_reducible refine dmQ_mk ?_)
      | with_reducible refine y_nil (hK := ?_)
      | (with_reducible refine nilTC_split (fun h => ?_) (fun h bn => ?_) <;> (try simp only [List.length_map] at h))
      | ((with_reducible first | refine grd_cases (fun h => ?_) (fun h => ?_) | refine condC_split (fun h => ?_) (fun h => ?_)) <;> (try simp only [h]) <;> (try simp only [NR_, Bool.not_true, Bool.not_false, Bool.not_eq_eq_eq_not, ne_eq] at h))
      | omega | (simp only [LN_]; omega))
    all_goals exact leafL sub_rfl (leT_eq rfl) hK
  have hl3 := (atI_lt h2).1
  have hb := cnt_le digitC (l.drop (i + a + 1))
  rw [List.length_drop] at hb
  by_cases h1 : a = 0
  · rw [if_pos (.inl h1)] at hK
    refine ACallF.dropL (ACallF_intro Try.func49 rfl ?_)
    simp only [Try.ntmps49]
    repeat' (first
      | simp only [WL, intF, strF, WM, Int.reduceToNat, ne_eq, reduceCtorEq, not_false_eq_true, Nat.reduceAdd, Nat.reduceSub, Nat.reduceLT, Nat.reduceLeDiff, Nat.reduceEqDiff, Bool.not_true, Bool.not_false, beq_self_eq_true, true_and, and_true, reduceIte, Bool.false_eq_true, T3, T4, T9, T24, cok39, cok44, cok85, cok86, Try.results49, h2]
      | simp (disch := first | omega | (simp only [LN_]; omega)) only [wrap_id, getI]
      | with_reducible first | refine andA (hb := ?_) | refine callD_mk (hdig _ ?_) | refine cD (pIs (i := i + a) ?_ ?_ ?_) | refine cQ (pIs ?_ ?_ isR_mk) ?_ | refine cD (pIs ?_ ?_ ?_) | refine cQ (pText ?_ isR_mk) ?_ | refine cD (pText ?_ ?_) | refine cQ (pDigits ?_ ?_ isR_mk) ?_ | refine cD (pDigits ?_ ?_ ?_) | refine cQ (pOver ?_ ?_ isR_mk) ?_ | refine cD (pOver ?_ ?_ ?_)
      | ((with_reducible refine AW_drawM (id := 5) 23 mixed ?_ ?_); kernel_rfl)
      | (with_reducible refine dmQ_mk ?_)
      | with_reducible refine y_nil (hK := ?_)
      | (with_reducible refine nilTC_split (fun h => ?_) (fun h bn => ?_) <;> (try simp only [List.length_map] at h))
      | ((with_reducible first | refine grd_cases (fun h => ?_) (fun h => ?_) | refine condC_split (fun h => ?_) (fun h => ?_)) <;> (try simp only [h]) <;> (try simp only [NR_, Bool.not_true, Bool.not_false, Bool.not_eq_eq_eq_not, ne_eq] at h))
      | omega | (simp only [LN_]; omega))
    all_goals first
      | exact leafL sub_rfl (leT_eq rfl) hK
      | (exfalso; omega)
  · rw [if_neg (fun h => h.elim h1 (fun h => by rw [h2] at h; cases h))] at hK
    generalize hb2 : cnt digitC (l.drop (i + a + 1)) = b at *
    have hdig2 : ∀ (K : Ret → List Res → Prop), K (.ret (I (i + a + 1 + b : Nat))) σ → ACallF κ Try.prog 85 [SI o l, I (i + a + 1 : Nat)] σ K := fun K h => pDigits (i := i + a + 1) hl (by omega) (by rw [hb2]; exact h)
    have e1 : ((i + a : Nat) : Int) + 1 = ((i + a + 1 : Nat) : Int) := by omega
    refine ACallF.dropL (ACallF_intro Try.func49 rfl ?_)
    simp only [Try.ntmps49]
    repeat' (first
      | simp only [WL, intF, strF, WM, Int.reduceToNat, ne_eq, reduceCtorEq, not_false_eq_true, Nat.reduceAdd, Nat.reduceSub, Nat.reduceLT, Nat.reduceLeDiff, Nat.reduceEqDiff, Bool.not_true, Bool.not_false, beq_self_eq_true, true_and, and_true, reduceIte, Bool.false_eq_true, T3, T4, T9, T24, cok39, cok44, cok85, cok86, Try.results49, h2, e1]
      | simp (disch := first | omega | (simp only [LN_]; omega)) only [wrap_id, getI]
      | with_reducible first | refine andA (hb := ?_) | refine callD_mk (hdig _ ?_) | refine callD_mk (hdig2 _ ?_) | refine cD (pIs (i := i + a) ?_ ?_ ?_) | refine cQ (pIs ?_ ?_ isR_mk) ?_ | refine cD (pIs ?_ ?_ ?_) | refine cQ (pText ?_ isR_mk) ?_ | refine cD (pText ?_ ?_) | refine cQ (pDigits ?_ ?_ isR_mk) ?_ | refine cD (pDigits ?_ ?_ ?_) | refine cQ (pOver ?_ ?_ isR_mk) ?_ | refine cD (pOver ?_ ?_ ?_)
      | ((with_reducible refine AW_drawM (id := 5) 23 mixed ?_ ?_); kernel_rfl)
      | (with_reducible refine dmQ_mk ?_)
      | with_reducible refine y_nil (hK := ?_)
      | (with_reducible refine nilTC_split (fun h => ?_) (fun h bn => ?_) <;> (try simp only [List.length_map] at h))
      | ((with_reducible first | refine grd_cases (fun h => ?_) (fun h => ?_) | refine condC_split (fun h => ?_) (fun h => ?_)) <;> (try simp only [h]) <;> (try simp only [NR_, Bool.not_true, Bool.not_false, Bool.not_eq_eq_eq_not, ne_eq] at h))
      | omega | (simp only [LN_]; omega))
    all_goals first
      | (exfalso; omega)
      | (have n1 : 0 < b := by omega
         exact leafL sub_rfl (leT_eq (by simp [n1])) hK)
      | (have n1 : ¬ 0 < b := by omega
         exact leafL sub_rfl (leT_eq (by simp [n1])) hK)
      | trace_state

-- props.prefix
set_option maxHeartbeats 8000000 in
theorem pPrefix {l : List Int} {i : Nat} (hl : l.length ≤ 1000000000) (hi : i ≤ l.length) (hK : K (.ret (.tup [.raw (.string (preP l i).1), .raw (.string (preP l i).2.1), B (preP l i).2.2])) σ) : ACallF κ Try.prog 50 [SI o l, I i] σ K := by
  unfold preP at hK
  cases h2 : atI l i 33
  · rw [if_pos h2] at hK
    refine ACallF.dropL (ACallF_intro Try.func50 rfl ?_)
    simp only [Try.ntmps50]
    repeat' (first
      | simp only [WL, intF, strF, WM, Int.reduceToNat, ne_eq, reduceCtorEq, not_false_eq_true, Nat.reduceAdd, Nat.reduceSub, Nat.reduceLT, Nat.reduceLeDiff, Nat.reduceEqDiff, Bool.not_true, Bool.not_false, beq_self_eq_true, true_and, and_true, reduceIte, Bool.false_eq_true, T3, T4, T9, T24, T29, cok39, cok41, cok42, cok44, cok46, cok48, cok86, Try.results50, h2]
      | simp (disch := first | omega | (simp only [LN_]; omega)) only [wrap_id, getI]
      | with_reducible first | refine andA (hb := ?_) | refine y_max ?_ | refine y_min ?_ | refine cQ (pIs ?_ ?_ isR_mk) ?_ | refine cD (pIs ?_ ?_ ?_) | refine cQ (pHandle ?_ ?_ isR_mk) ?_ | refine cD (pHandle ?_ ?_ ?_) | refine cQ (pText ?_ isR_mk) ?_ | refine cD (pText ?_ ?_) | refine cQ (pBlanks ?_ ?_ isR_mk) ?_ | refine cD (pBlanks ?_ ?_ ?_) | refine cQ (pOver ?_ ?_ isR_mk) ?_ | refine cD (pOver ?_ ?_ ?_)
      | ((with_reducible refine AW_drawM (id := 6) 29 mixed ?_ ?_); kernel_rfl)
      | (with_reducible refine dmQ_mk ?_)
      | with_reducible refine y_nil (hK := ?_)
      | (with_reducible refine nilTC_split (fun h => ?_) (fun h bn => ?_) <;> (try simp only [List.length_map] at h))
      | ((with_reducible first | refine grd_cases (fun h => ?_) (fun h => ?_) | refine condC_split (fun h => ?_) (fun h => ?_)) <;> (try simp only [h]) <;> (try simp only [NR_, Bool.not_true, Bool.not_false, Bool.not_eq_eq_eq_not, ne_eq] at h))
      | omega | (simp only [LN_]; omega))
    all_goals exact leafL sub_rfl (leT_eq rfl) hK
  · rw [if_neg (by rw [h2]; decide)] at hK
    have hlt := (atI_lt h2).1
    have h3 := preH_le hlt
    have h4 := preF_le hlt
    have h5 := preU_le hlt
    have eH : (i : Int) + max 1 ((handleN (l.drop i) : Nat) : Int) = ((preH l i : Nat) : Int) := by unfold preH; omega
    have eF : preH l i + cnt blankI (l.drop (preH l i)) = preF l i := rfl
    have eU : uriN anyC (l.drop (preF l i)) = preU l i := rfl
    have eS : ((preF l i : Nat) : Int) + ((preU l i : Nat) : Int) = ((preF l i + preU l i : Nat) : Int) := by omega
    refine ACallF.dropL (ACallF_intro Try.func50 rfl ?_)
    simp only [Try.ntmps50]
    repeat' (first
      | simp only [WL, intF, strF, WM, Int.reduceToNat, ne_eq, reduceCtorEq, not_false_eq_true, Nat.reduceAdd, Nat.reduceSub, Nat.reduceLT, Nat.reduceLeDiff, Nat.reduceEqDiff, Bool.not_true, Bool.not_false, beq_self_eq_true, true_and, and_true, reduceIte, Bool.false_eq_true, T3, T4, T9, T24, T29, cok39, cok41, cok42, cok44, cok46, cok48, cok86, Try.results50, h2, eH, eF, eU, eS]
      | simp (disch := first | omega | (simp only [LN_]; omega)) only [wrap_id, getI]
      | with_reducible first | refine andA (hb := ?_) | refine y_max ?_ | refine y_min ?_ | refine cD (pBlanks (i := preH l i) ?_ ?_ ?_) | refine cD (pUriAll ?_ ?_) | refine cD (pOver (i := preF l i + preU l i) ?_ ?_ ?_) | refine callD_q (pOver (i := preF l i + preU l i) hl h5 isR_mk) ?_ | refine cQ (pIs ?_ ?_ isR_mk) ?_ | refine cD (pIs ?_ ?_ ?_) | refine cQ (pHandle ?_ ?_ isR_mk) ?_ | refine cD (pHandle ?_ ?_ ?_) | refine cQ (pText ?_ isR_mk) ?_ | refine cD (pText ?_ ?_) | refine cQ (pBlanks ?_ ?_ isR_mk) ?_ | refine cD (pBlanks ?_ ?_ ?_) | refine cQ (pOver ?_ ?_ isR_mk) ?_ | refine cD (pOver ?_ ?_ ?_)
      | ((with_reducible refine AW_drawM (id := 6) 29 mixed ?_ ?_); kernel_rfl)
      | (with_reducible refine dmQ_mk ?_)
      | with_reducible refine y_nil (hK := ?_)
      | (with_reducible refine nilTC_split (fun h => ?_) (fun h bn => ?_) <;> (try simp only [List.length_map] at h))
      | ((with_reducible first | refine grd_cases (fun h => ?_) (fun h => ?_) | refine condC_split (fun h => ?_) (fun h => ?_)) <;> (try simp only [h]) <;> (try simp only [NR_, Bool.not_true, Bool.not_false, Bool.not_eq_eq_eq_not, ne_eq] at h))
      | omega | (simp only [LN_]; omega))
    all_goals first
      | (exfalso; omega)
      | (have n1 : preH l i < preF l i := by omega
         have n2 : 0 < preU l i := by omega
         exact leafL sub_rfl (leT_eq (by simp [n1, n2])) hK)
      | (have n1 : preH l i < preF l i := by omega
         have n2 : ¬ 0 < preU l i := by omega
         exact leafL sub_rfl (leT_eq (by simp [n1, n2])) hK)
      | (have n1 : ¬ preH l i < preF l i := by omega
         exact leafL sub_rfl (leT_eq (by simp [n1])) hK)
      | trace_state

-- props.Directive
set_option maxHeartbeats 8000000 in
theorem pDirective {l : List Int} (hl : l.length ≤ 1000000000) (hK : K (.ret (.tup [.raw (.string (dirI l).1), .raw (.string (dirI l).2.1), .raw (.string (dirI l).2.2.1), B (dirI l).2.2.2])) σ) : ACallF κ Try.prog 19 [SI o l] σ K := by
  unfold dirI at hK
  cases h0 : atI l 0 37
  · rw [if_pos h0] at hK
    refine ACallF.dropL (ACallF_intro Try.func19 rfl ?_)
    simp only [Try.ntmps19]
    repeat' (first
      | simp only [WL, intF, strF, WM, Int.reduceToNat, ne_eq, reduceCtorEq, not_false_eq_true, Nat.reduceAdd, Nat.reduceSub, Nat.reduceLT, Nat.reduceLeDiff, Nat.reduceEqDiff, Bool.not_true, Bool.not_false, beq_self_eq_true, true_and, and_true, reduceIte, Bool.false_eq_true, T3, T4, T9, T24, cok39, cok44, cok47, cok48, cok49, cok50, Try.results19, h0]
      | simp (disch := first | omega | (simp only [LN_]; omega)) only [wrap_id, getI]
      | with_reducible first | refine andA (hb := ?_) | refine cD (pIs (i := 0) ?_ ?_ ?_) | refine cD (pIs ?_ ?_ ?_) | refine cD (pText ?_ ?_) | refine cD (pNames ?_ ?_) | refine cD (pBlanks ?_ ?_ ?_) | refine cD (pVersion ?_ ?_ ?_) | refine cD (pPrefix ?_ ?_ ?_)
      | with_reducible refine y_nil (hK := ?_)
      | (with_reducible refine nilTC_split (fun h => ?_) (fun h bn => ?_) <;> (try simp only [List.length_map] at h))
      | ((with_reducible first | refine grd_cases (fun h => ?_) (fun h => ?_) | refine condC_split (fun h => ?_) (fun h => ?_)) <;> (try simp only [h]) <;> (try simp only [NR_, Bool.not_true, Bool.not_false, Bool.not_eq_eq_eq_not, ne_eq] at h))
      | omega | (simp only [LN_]; omega))
    all_goals exact leafL sub_rfl (leT_eq rfl) hK
  rw [if_neg (by rw [h0]; decide)] at hK
  have hlt := (atI_lt h0).1
  have hn := dirN_le hlt
  have hm := dirM_le l
  have hn1 : 1 ≤ dirN l := by unfold dirN; omega
  have eN : (1 : Int) + ((cnt nameI (l.drop 1) : Nat) : Int) = ((dirN l : Nat) : Int) := by unfold dirN; omega
  have eM : dirN l + cnt blankI (l.drop (dirN l)) = dirN l + dirM l := rfl
  have eT : textI ((l.take (dirN l)).drop 1) = dirT l := rfl
  by_cases hY : (dirT l).toList = litY.toList
  · rw [if_pos hY] at hK
    have q1 : ((dirT l).toList == litY.toList) = true := by simp [hY]
    have q2 : ((dirT l).toList == ({ data := #[] } : ByteArray).toList) = false := by rw [hY]; decide +kernel
    refine ACallF.dropL (ACallF_intro Try.func19 rfl ?_)
    simp only [Try.ntmps19]
    repeat' (first
      | simp only [WL, intF, strF, WM, Int.reduceToNat, ne_eq, reduceCtorEq, not_false_eq_true, Nat.reduceAdd, Nat.reduceSub, Nat.reduceLT, Nat.reduceLeDiff, Nat.reduceEqDiff, Bool.not_true, Bool.not_false, beq_self_eq_true, true_and, and_true, reduceIte, Bool.false_eq_true, T3, T4, T9, T24, cok39, cok44, cok47, cok48, cok49, cok50, Try.results19, h0, eN, eM, eT, q1, q2]
      | simp (disch := first | omega | (simp only [LN_]; omega)) only [wrap_id, getI]
      | with_reducible first | refine andA (hb := ?_) | refine cD (pIs (i := 0) ?_ ?_ ?_) | refine cD (pBlanks (i := dirN l) ?_ ?_ ?_) | refine cD (pVersion (i := dirN l + dirM l) ?_ ?_ ?_) | refine cD (pIs ?_ ?_ ?_) | refine cD (pText ?_ ?_) | refine cD (pNames ?_ ?_) | refine cD (pBlanks ?_ ?_ ?_) | refine cD (pVersion ?_ ?_ ?_) | refine cD (pPrefix ?_ ?_ ?_)
      | with_reducible refine y_nil (hK := ?_)
      | (with_reducible refine nilTC_split (fun h => ?_) (fun h bn => ?_) <;> (try simp only [List.length_map] at h))
      | ((with_reducible first | refine grd_cases (fun h => ?_) (fun h => ?_) | refine condC_split (fun h => ?_) (fun h => ?_)) <;> (try simp only [h]) <;> (try simp only [NR_, Bool.not_true, Bool.not_false, Bool.not_eq_eq_eq_not, ne_eq] at h))
      | omega | (simp only [LN_]; omega))
    all_goals first
      | (exfalso; omega)
      | (rw [if_pos ⟨by assumption, by omega⟩] at hK; exact leafL sub_rfl (leT_eq rfl) hK)
      | (rw [if_neg (fun h => by have := h.2; omega)] at hK; exact leafL sub_rfl (leT_eq rfl) hK)
      | (rw [if_neg (fun h => by have := h.1; simp_all)] at hK; exact leafL sub_rfl (leT_eq rfl) hK)
      | trace_state
  · have q1 : ((dirT l).toList == litY.toList) = false := by simpa using hY
    rw [if_neg hY] at hK
    by_cases hT : (dirT l).toList = litT.toList
    · rw [if_pos hT] at hK
      have q3 : ((dirT l).toList == litT.toList) = true := by simp [hT]
      have q2 : ((dirT l).toList == ({ data := #[] } : ByteArray).toList) = false := by rw [hT]; decide +kernel
      refine ACallF.dropL (ACallF_intro Try.func19 rfl ?_)
      simp only [Try.ntmps19]
      repeat' (first
        | simp only [WL, intF, strF, WM, Int.reduceToNat, ne_eq, reduceCtorEq, not_false_eq_true, Nat.reduceAdd, Nat.reduceSub, Nat.reduceLT, Nat.reduceLeDiff, Nat.reduceEqDiff, Bool.not_true, Bool.not_false, beq_self_eq_true, true_and, and_true, reduceIte, Bool.false_eq_true, T3, T4, T9, T24, cok39, cok44, cok47, cok48, cok49, cok50, Try.results19, h0, eN, eM, eT, q1, q2, q3]
        | simp (disch := first | omega | (simp only [LN_]; omega)) only [wrap_id, getI]
        | with_reducible first | refine andA (hb := ?_) | refine cD (pIs (i := 0) ?_ ?_ ?_) | refine cD (pBlanks (i := dirN l) ?_ ?_ ?_) | refine cD (pPrefix (i := dirN l + dirM l) ?_ ?_ ?_) | refine cD (pIs ?_ ?_ ?_) | refine cD (pText ?_ ?_) | refine cD (pNames ?_ ?_) | refine cD (pBlanks ?_ ?_ ?_) | refine cD (pVersion ?_ ?_ ?_) | refine cD (pPrefix ?_ ?_ ?_)
        | with_reducible refine y_nil (hK := ?_)
        | (with_reducible refine nilTC_split (fun h => ?_) (fun h bn => ?_) <;> (try simp only [List.length_map] at h))
        | ((with_reducible first | refine grd_cases (fun h => ?_) (fun h => ?_) | refine condC_split (fun h => ?_) (fun h => ?_)) <;> (try simp only [h]) <;> (try simp only [NR_, Bool.not_true, Bool.not_false, Bool.not_eq_eq_eq_not, ne_eq] at h))
        | omega | (simp only [LN_]; omega))
      all_goals first
        | (exfalso; omega)
        | (rw [if_pos ⟨by assumption, by omega⟩] at hK; exact leafL sub_rfl (leT_eq rfl) hK)
        | (rw [if_neg (fun h => by have := h.2; omega)] at hK; exact leafL sub_rfl (leT_eq rfl) hK)
        | (rw [if_neg (fun h => by have := h.1; simp_all)] at hK; exact leafL sub_rfl (leT_eq rfl) hK)
        | trace_state
    · have q3 : ((dirT l).toList == litT.toList) = false := by simpa using hT
      rw [if_neg hT] at hK
      refine ACallF.dropL (ACallF_intro Try.func19 rfl ?_)
      simp only [Try.ntmps19]
      repeat' (first
        | simp only [WL, intF, strF, WM, Int.reduceToNat, ne_eq, reduceCtorEq, not_false_eq_true, Nat.reduceAdd, Nat.reduceSub, Nat.reduceLT, Nat.reduceLeDiff, Nat.reduceEqDiff, Bool.not_true, Bool.not_false, beq_self_eq_true, true_and, and_true, reduceIte, Bool.false_eq_true, T3, T4, T9, T24, cok39, cok44, cok47, cok48, cok49, cok50, Try.results19, h0, eN, eM, eT, q1, q3]
        | simp (disch := first | omega | (simp only [LN_]; omega)) only [wrap_id, getI]
        | with_reducible first | refine andA (hb := ?_) | refine cD (pIs (i := 0) ?_ ?_ ?_) | refine cD (pBlanks (i := dirN l) ?_ ?_ ?_) | refine cD (pIs ?_ ?_ ?_) | refine cD (pText ?_ ?_) | refine cD (pNames ?_ ?_) | refine cD (pBlanks ?_ ?_ ?_) | refine cD (pVersion ?_ ?_ ?_) | refine cD (pPrefix ?_ ?_ ?_)
        | with_reducible refine y_nil (hK := ?_)
        | (with_reducible refine nilTC_split (fun h => ?_) (fun h bn => ?_) <;> (try simp only [List.length_map] at h))
        | ((with_reducible first | refine grd_cases (fun h => ?_) (fun h => ?_) | refine condC_split (fun h => ?_) (fun h => ?_)) <;> (try simp only [h]) <;> (try simp only [NR_, Bool.not_true, Bool.not_false, Bool.not_eq_eq_eq_not, ne_eq] at h))
        | omega | (simp only [LN_]; omega))
      all_goals first
        | (rw [if_pos ⟨by assumption, by omega⟩] at hK; exact leafL sub_rfl (leT_eq rfl) hK)
        | (rw [if_neg (fun h => by have := h.2; omega)] at hK; exact leafL sub_rfl (leT_eq rfl) hK)
        | (rw [if_neg (fun h => h.1 (by assumption))] at hK; exact leafL sub_rfl (leT_eq rfl) hK)
        | trace_state
end Go.Proofs.Ytaeacialcbahnaa
