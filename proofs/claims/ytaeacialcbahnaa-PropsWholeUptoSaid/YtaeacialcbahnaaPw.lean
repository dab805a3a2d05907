/-
  The law PropsWhole, up to a bound.
-/
import Derived.Test.YtaeacialcbahnaaPl
import Derived.Test.YtaeacialcbahnaaSy
namespace Go.Proofs.Ytaeacialcbahnaa
open Go.Abs
set_option linter.unusedVariables false
set_option linter.unusedSimpArgs false
-- hb: 8000000
-- rd: 20000
variable {κ : Ctx} {σ : List Res} {K : Ret → List Res → Prop} {o o' : Option (Option (Nat × Nat))}

set_option maxHeartbeats 8000000 in
set_option maxRecDepth 20000 in
theorem leS_roeqW {sz : Nat} {o : Option (Option (Nat × Nat))} {l l' : List AV} (h : l = l') : leS (.sl sz o l) (.sl sz none l') := h ▸ leS_le le_ro
set_option maxHeartbeats 8000000 in
set_option maxRecDepth 20000 in
theorem fold_text {l : List Int} : strOfNums (encL l) = textI l := rfl
set_option maxHeartbeats 8000000 in
set_option maxRecDepth 20000 in
theorem lw_a : ({ data := #[60] } : ByteArray) = textI [60] := by decide +kernel
set_option maxHeartbeats 8000000 in
set_option maxRecDepth 20000 in
theorem lw_h : ({ data := #[33, 104, 33] } : ByteArray) = textI [33, 104, 33] := by decide +kernel

-- marginalialaw11.PropsWhole
set_option maxHeartbeats 8000000 in
set_option maxRecDepth 20000 in
theorem law_PropsWhole (κ : Ctx) (s : ByteArray) (hs : s.size ≤ maxLen) (w : Bool) (hw : True) (hu : s.size ≤ 1048576) : ACallF κ Try.prog 3 [.raw (.string s), B w] [] (fun r _ => r = .ret (B true)) := by
  clear hs hw
  cases hv : validI (bytesI s)
  · skip
    refine ACallF.dropL (ACallF_intro Try.func3 rfl ?_)
    simp only [Try.ntmps3]
    repeat' (first
      | simp only [WL, intF, strF, WM, Int.reduceToNat, ne_eq, reduceCtorEq, not_false_eq_true, Nat.reduceAdd, Nat.reduceSub, Nat.reduceLT, Nat.reduceLeDiff, Nat.reduceEqDiff, Bool.not_true, Bool.not_false, beq_self_eq_true, true_and, and_true, reduceIte, Bool.false_eq_true, convC_sl, convC_str, List.eraseIdx_cons_zero, List.eraseIdx_cons_succ, T3, T4, T5, T9, T24, T30, cok12, cok13, cok14, cok15, cok16, cok17, Try.results3, hv]
      | simp (disch := first | omega | (simp only [LN_]; omega)) only [wrap_id, getI]
      | with_reducible first | refine andA (hb := ?_) | refine y_load (hK := ?_) | refine y_appN ?_ | refine y_appS ?_ | refine y_app (hlen := ?_) (hmax := ?_) (hK := fun tk => ?_) | refine y_bs0 ?_ | refine y_bs (hK := ?_) | refine y_bytes ?_ | refine cD (alive11 ?_) | refine cD (rValid ?_ ?_) | refine cD (rText ?_ ?_) | refine cD (pTag ?_ ?_) | refine cD (rWord ?_) | refine cD (rBytes ?_ ?_)
      | with_reducible refine y_nil (hK := ?_)
      | (with_reducible refine nilTC_split (fun h => ?_) (fun h bn => ?_) <;> (try simp only [List.length_map] at h))
      | ((with_reducible first | refine grd_cases (fun h => ?_) (fun h => ?_) | refine condC_split (fun h => ?_) (fun h => ?_)) <;> (try simp only [h]) <;> (try simp only [NR_, Bool.not_true, Bool.not_false, Bool.not_eq_eq_eq_not, ne_eq] at h))
      | omega | (simp only [LN_]; omega) | (refine maxLen_ok ?_; (first | omega | (simp only [LN_]; omega))))
    all_goals exact leafLaw rfl
  obtain ⟨hst, hsm, h0, huri⟩ := valid_text hv
  have hasc := valid_ascii hv
  obtain ⟨l, hl⟩ : ∃ l, l = bytesI s := ⟨_, rfl⟩
  rw [← hl] at hst hsm h0 huri hasc
  have hsz : s.size = l.length := by rw [hl, bytesI_len]
  by_cases hbig : 200 < s.size
  · skip
    refine ACallF.dropL (ACallF_intro Try.func3 rfl ?_)
    simp only [Try.ntmps3]
    repeat' (first
      | simp only [WL, intF, strF, WM, Int.reduceToNat, ne_eq, reduceCtorEq, not_false_eq_true, Nat.reduceAdd, Nat.reduceSub, Nat.reduceLT, Nat.reduceLeDiff, Nat.reduceEqDiff, Bool.not_true, Bool.not_false, beq_self_eq_true, true_and, and_true, reduceIte, Bool.false_eq_true, convC_sl, convC_str, List.eraseIdx_cons_zero, List.eraseIdx_cons_succ, T3, T4, T5, T9, T24, T30, cok12, cok13, cok14, cok15, cok16, cok17, Try.results3, hv]
      | simp (disch := first | omega | (simp only [LN_]; omega)) only [wrap_id, getI]
      | with_reducible first | refine andA (hb := ?_) | refine y_load (hK := ?_) | refine y_appN ?_ | refine y_appS ?_ | refine y_app (hlen := ?_) (hmax := ?_) (hK := fun tk => ?_) | refine y_bs0 ?_ | refine y_bs (hK := ?_) | refine y_bytes ?_ | refine cD (alive11 ?_) | refine cD (rValid ?_ ?_) | refine cD (rText ?_ ?_) | refine cD (pTag ?_ ?_) | refine cD (rWord ?_) | refine cD (rBytes ?_ ?_)
      | with_reducible refine y_nil (hK := ?_)
      | (with_reducible refine nilTC_split (fun h => ?_) (fun h bn => ?_) <;> (try simp only [List.length_map] at h))
      | ((with_reducible first | refine grd_cases (fun h => ?_) (fun h => ?_) | refine condC_split (fun h => ?_) (fun h => ?_)) <;> (try simp only [h]) <;> (try simp only [NR_, Bool.not_true, Bool.not_false, Bool.not_eq_eq_eq_not, ne_eq] at h))
      | omega | (simp only [LN_]; omega) | (refine maxLen_ok ?_; (first | omega | (simp only [LN_]; omega))))
    all_goals first
      | exact leafLaw rfl
      | (exfalso; omega)
  have hl2 : l.length ≤ 200 := by omega
  have zt : (textI l).size ≤ 200 := by rw [txt_size hasc]; exact hl2
  have z1 : (textI [60]).size = 1 := by decide +kernel
  have z2 : (textI [33, 104, 33]).size = 3 := by decide +kernel
  have z3 : (textI [33]).size = 1 := by decide +kernel
  have z4 : (textI [33, 33]).size = 2 := by decide +kernel
  have hw1 : tagI (33 :: 60 :: (l ++ [62, 32, 120])) = (textI (60 :: l), ((l.length + 3 : Nat) : Int), true) := by
    have := tag_whole h0 huri
    simpa only [List.cons_append, List.nil_append, List.append_assoc] using this
  have hlen1 : ([33, 60] ++ l ++ [62, 32, 120] : List Int).length ≤ 1000000000 := by simp; omega
  rw [← hl] at hv
  rw [hst] at hl hu hbig ⊢
  have hvT : validI (bytesI (textI l)) = true := by rw [← hl]; exact hv
  have hsmT : smallI (bytesI (textI l)) = some l := by rw [← hl]; exact hsm
  refine ACallF.dropL (ACallF_introA Try.func3 rfl ?_)
  simp only [Try.ntmps3]
  repeat' (first
    | with_reducible first | refine AW_seqA (AW_block ?_) | refine AW_block ?_ | refine cut_seqloop ?_ | refine cut_loop ?_ | refine AW_seqA (AW_seqA ?_) | refine AW_seq ?_ | refine AW_runReg ?_ | refine AW_runCond ?_ | refine AW_runExit ?_ | refine AW_runRet ?_ | refine AW_runSkip ?_ | refine AW_runLabel ?_
    | simp only [WL, intF, strF, WM, Int.reduceToNat, ne_eq, reduceCtorEq, not_false_eq_true, Nat.reduceAdd, Nat.reduceSub, Nat.reduceLT, Nat.reduceLeDiff, Nat.reduceEqDiff, Bool.not_true, Bool.not_false, beq_self_eq_true, true_and, and_true, reduceIte, Bool.false_eq_true, convC_sl, convC_str, List.eraseIdx_cons_zero, List.eraseIdx_cons_succ, T3, T4, T5, T9, T24, T30, cok12, cok13, cok14, cok15, cok16, cok17, Try.results3, hvT, hsmT, Option.getD_some, hw1, lw_a, textI_app]
    | simp (disch := first | omega | (simp only [LN_]; omega)) only [wrap_id, getI, str_add]
    | with_reducible first | refine andA (hb := ?_) | refine y_load (hK := ?_) | refine y_appN ?_ | refine y_appS ?_ | refine y_app (hlen := ?_) (hmax := ?_) (hK := fun tk => ?_) | refine y_bso (ty := 24) (hK := fun tb => ?_) | refine y_bytes ?_ | refine callD_mk (rText (by omega) ?_)
    | ( refine callD_mk (ACallF.argsS (ys := [SI none ([33, 60] ++ l ++ [62, 32, 120])]) ⟨leS_roeqW (by first | (simp; done) | fail), trivial⟩ (pTag hlen1 ?_)))
    | with_reducible first | refine cD (alive11 ?_) | refine cD (rValid ?_ ?_) | refine cD (rText ?_ ?_) | refine cD (pTag ?_ ?_) | refine cD (rWord ?_) | refine cD (rBytes ?_ ?_)
    | with_reducible refine y_nil (hK := ?_)
    | (with_reducible refine nilTC_split (fun h => ?_) (fun h bn => ?_) <;> (try simp only [List.length_map] at h))
    | ((with_reducible first | refine grd_cases (fun h => ?_) (fun h => ?_) | refine condC_split (fun h => ?_) (fun h => ?_)) <;> (try simp only [h]) <;> (try simp only [NR_, Bool.not_true, Bool.not_false, Bool.not_eq_eq_eq_not, ne_eq] at h))
    | omega | (simp only [LN_]; omega) | (refine maxLen_ok ?_; (first | omega | (simp only [LN_]; omega))))
  all_goals try exact leafLaw rfl
  all_goals try (exfalso; omega)
  rename_i tb tk0 tk
  refine loopA (fun k : Nat => ⟨(.raw (.string (textI l)) :: B w :: .any :: .any :: .any :: .any :: .any :: SI none l :: .any :: .any :: .any :: .any :: .any :: I k :: .any :: .any :: .any :: .any :: .any :: .any :: .any :: .any :: .any :: .any :: .any :: .any :: .any :: .any :: .any :: .any :: .any :: .any :: .any :: .any :: .any :: .any :: .any :: .any :: .any :: .any :: .any :: .any :: .any :: .any :: .any :: .any :: .any :: .any :: .any :: .any :: .any :: .any :: .any :: .any :: .any :: .any :: .any :: .any :: .any :: .any :: .any :: .any :: .any :: .any :: .any :: .any :: .any :: .any :: .any :: .any :: .any :: .any :: .any :: .any :: .any :: .any :: .any :: .any :: .any :: .any :: .any :: .any :: .any :: .any :: .any :: .any :: .any :: .any :: .any :: .any :: .any :: .any :: .any :: .any :: .any :: .any :: .any :: .any :: .any :: .any :: .any :: .any :: .any :: .any :: .any :: .any :: .any :: .any :: .any :: .any :: .any :: .any :: .any :: .any :: .any :: .any :: .any :: .any :: .any :: .any :: .any :: .any :: .any :: .any :: .any :: .any :: .any :: .any :: .any :: .any :: .any :: .any :: .any :: .any :: .any :: .any :: .any :: .any :: .any :: .any :: []), [.tip (some (tb, 3 * 1)), .tip tk], true, []⟩) (fun k => k ≤ l.length ∧ ∀ j, j < k → wordI (l.getD j 0) = true) (fun k => l.length - k) 0 (St_le_same (by repeat (first | exact trivial | refine ⟨le_rfl, ?_⟩ | refine ⟨le_any, ?_⟩ | refine ⟨le_ro, ?_⟩ | refine ⟨le_nil (by decide), ?_⟩ | refine ⟨le_wrap (by omega) (by omega) (by omega), ?_⟩ | refine ⟨le_int (by omega), ?_⟩ | refine ⟨le_eq (by simp), ?_⟩)) id) ⟨Nat.zero_le _, fun j h => absurd h (Nat.not_lt_zero _)⟩ ?_
  rintro k ⟨hk, hall⟩
  rcases Nat.lt_or_ge k l.length with hlt | hge
  · cases hwk : wordI (l.getD k 0)
    · skip
      repeat' (first
        | with_reducible first | refine AW_seqA (AW_block ?_) | refine AW_block ?_ | refine cut_seqloop ?_ | refine cut_loop ?_ | refine AW_seqA (AW_seqA ?_) | refine AW_seq ?_ | refine AW_runReg ?_ | refine AW_runCond ?_ | refine AW_runExit ?_ | refine AW_runRet ?_ | refine AW_runSkip ?_ | refine AW_runLabel ?_
        | simp only [WL, intF, strF, WM, Int.reduceToNat, ne_eq, reduceCtorEq, not_false_eq_true, Nat.reduceAdd, Nat.reduceSub, Nat.reduceLT, Nat.reduceLeDiff, Nat.reduceEqDiff, Bool.not_true, Bool.not_false, beq_self_eq_true, true_and, and_true, reduceIte, Bool.false_eq_true, convC_sl, convC_str, List.eraseIdx_cons_zero, List.eraseIdx_cons_succ, T3, T4, T5, T9, T24, T30, cok12, cok13, cok14, cok15, cok16, cok17, Try.results3, hwk]
        | simp (disch := first | omega | (simp only [LN_]; omega)) only [wrap_id, getI]
        | with_reducible first | refine andA (hb := ?_) | refine y_load (hK := ?_) | refine y_appN ?_ | refine y_appS ?_ | refine y_app (hlen := ?_) (hmax := ?_) (hK := fun tk => ?_) | refine y_bs0 ?_ | refine y_bs (hK := ?_) | refine y_bytes ?_ | refine cD (alive11 ?_) | refine cD (rValid ?_ ?_) | refine cD (rText ?_ ?_) | refine cD (pTag ?_ ?_) | refine cD (rWord ?_) | refine cD (rBytes ?_ ?_)
        | with_reducible refine y_nil (hK := ?_)
        | (with_reducible refine nilTC_split (fun h => ?_) (fun h bn => ?_) <;> (try simp only [List.length_map] at h))
        | ((with_reducible first | refine grd_cases (fun h => ?_) (fun h => ?_) | refine condC_split (fun h => ?_) (fun h => ?_)) <;> (try simp only [h]) <;> (try simp only [NR_, Bool.not_true, Bool.not_false, Bool.not_eq_eq_eq_not, ne_eq] at h))
        | omega | (simp only [LN_]; omega) | (refine maxLen_ok ?_; (first | omega | (simp only [LN_]; omega))))
      all_goals first
        | exact leafLaw rfl
        | (exfalso; omega)
    · skip
      repeat' (first
        | with_reducible first | refine AW_seqA (AW_block ?_) | refine AW_block ?_ | refine cut_seqloop ?_ | refine cut_loop ?_ | refine AW_seqA (AW_seqA ?_) | refine AW_seq ?_ | refine AW_runReg ?_ | refine AW_runCond ?_ | refine AW_runExit ?_ | refine AW_runRet ?_ | refine AW_runSkip ?_ | refine AW_runLabel ?_
        | simp only [WL, intF, strF, WM, Int.reduceToNat, ne_eq, reduceCtorEq, not_false_eq_true, Nat.reduceAdd, Nat.reduceSub, Nat.reduceLT, Nat.reduceLeDiff, Nat.reduceEqDiff, Bool.not_true, Bool.not_false, beq_self_eq_true, true_and, and_true, reduceIte, Bool.false_eq_true, convC_sl, convC_str, List.eraseIdx_cons_zero, List.eraseIdx_cons_succ, T3, T4, T5, T9, T24, T30, cok12, cok13, cok14, cok15, cok16, cok17, Try.results3, hwk]
        | simp (disch := first | omega | (simp only [LN_]; omega)) only [wrap_id, getI]
        | with_reducible first | refine andA (hb := ?_) | refine y_load (hK := ?_) | refine y_appN ?_ | refine y_appS ?_ | refine y_app (hlen := ?_) (hmax := ?_) (hK := fun tk => ?_) | refine y_bs0 ?_ | refine y_bs (hK := ?_) | refine y_bytes ?_ | refine cD (alive11 ?_) | refine cD (rValid ?_ ?_) | refine cD (rText ?_ ?_) | refine cD (pTag ?_ ?_) | refine cD (rWord ?_) | refine cD (rBytes ?_ ?_)
        | with_reducible refine y_nil (hK := ?_)
        | (with_reducible refine nilTC_split (fun h => ?_) (fun h bn => ?_) <;> (try simp only [List.length_map] at h))
        | ((with_reducible first | refine grd_cases (fun h => ?_) (fun h => ?_) | refine condC_split (fun h => ?_) (fun h => ?_)) <;> (try simp only [h]) <;> (try simp only [NR_, Bool.not_true, Bool.not_false, Bool.not_eq_eq_eq_not, ne_eq] at h))
        | omega | (simp only [LN_]; omega) | (refine maxLen_ok ?_; (first | omega | (simp only [LN_]; omega))))
      all_goals first
        | exact ⟨k + 1, St_le_same (by repeat (first | exact trivial | refine ⟨le_rfl, ?_⟩ | refine ⟨le_any, ?_⟩ | refine ⟨le_ro, ?_⟩ | refine ⟨le_nil (by decide), ?_⟩ | refine ⟨le_wrap (by omega) (by omega) (by omega), ?_⟩ | refine ⟨le_int (by omega), ?_⟩ | refine ⟨le_eq (by simp), ?_⟩)) id, ⟨by omega, fun j hj => by rcases Nat.lt_succ_iff_lt_or_eq.mp hj with h | rfl <;> first | exact hall _ h | assumption⟩, by omega⟩
        | (exfalso; omega)
        | (set_option pp.maxSteps 100000 in trace_state)
  · obtain rfl : k = l.length := by omega
    have hwords : ∀ c ∈ l, wordI c = true := by
      intro c hc
      obtain ⟨j, hj, rfl⟩ := List.mem_iff_getElem.mp hc
      have := hall j hj
      rwa [List.getD_eq_getElem?_getD, List.getElem?_eq_getElem hj] at this
    have hw3 : tagI (33 :: 104 :: 33 :: (l ++ [44, 120])) = (textI (33 :: 104 :: 33 :: l), ((l.length + 3 : Nat) : Int), true) := by
      have := tag_three h0 hwords
      simpa only [List.cons_append, List.nil_append, List.append_assoc] using this
    have hlen3 : (33 :: 104 :: 33 :: (l ++ [44, 120]) : List Int).length ≤ 1000000000 := by simp; omega
    cases w
    · have hw2 : tagI (33 :: (l ++ [32, 120])) = (textI (33 :: l), ((l.length + 1 : Nat) : Int), true) := by
        have := tag_one h0 hwords (t := [32, 120]) (by decide) rfl (by decide)
        simpa only [List.cons_append, List.nil_append, List.append_assoc] using this
      have hlen2 : (33 :: (l ++ [32, 120]) : List Int).length ≤ 1000000000 := by simp; omega
      repeat' (first
        | with_reducible first | refine AW_seqA (AW_block ?_) | refine AW_block ?_ | refine cut_seqloop ?_ | refine cut_loop ?_ | refine AW_seqA (AW_seqA ?_) | refine AW_seq ?_ | refine AW_runReg ?_ | refine AW_runCond ?_ | refine AW_runExit ?_ | refine AW_runRet ?_ | refine AW_runSkip ?_ | refine AW_runLabel ?_
        | simp only [WL, intF, strF, WM, Int.reduceToNat, ne_eq, reduceCtorEq, not_false_eq_true, Nat.reduceAdd, Nat.reduceSub, Nat.reduceLT, Nat.reduceLeDiff, Nat.reduceEqDiff, Bool.not_true, Bool.not_false, beq_self_eq_true, true_and, and_true, reduceIte, Bool.false_eq_true, convC_sl, convC_str, List.eraseIdx_cons_zero, List.eraseIdx_cons_succ, T3, T4, T5, T9, T24, T30, cok12, cok13, cok14, cok15, cok16, cok17, Try.results3, hw2, hw3, lw_h, fold_text, textI_app]
        | simp (disch := first | omega | (simp only [LN_]; omega)) only [wrap_id, getI, str_add]
        | with_reducible first | refine andA (hb := ?_) | refine y_load (hK := ?_) | refine y_appN ?_ | refine y_appS ?_ | refine y_app (hlen := ?_) (hmax := ?_) (hK := fun tk => ?_) | refine y_bso (ty := 24) (hK := fun tb => ?_) | refine y_bytes ?_
        | ( refine callD_mk (ACallF.argsS (ys := [SI none [33]]) ⟨leS_roeqW rfl, trivial⟩ (rBytes (by simp) ?_)))
        | ( refine callD_mk (ACallF.argsS (ys := [SI none (33 :: (l ++ [32, 120]))]) ⟨leS_roeqW (by first | (simp; done) | fail), trivial⟩ (pTag hlen2 ?_)))
        | ( refine callD_mk (ACallF.argsS (ys := [SI none (33 :: 104 :: 33 :: (l ++ [44, 120]))]) ⟨leS_roeqW (by first | (simp; done) | fail), trivial⟩ (pTag hlen3 ?_)))
        | with_reducible first | refine cD (alive11 ?_) | refine cD (rValid ?_ ?_) | refine cD (rText ?_ ?_) | refine cD (pTag ?_ ?_) | refine cD (rWord ?_) | refine cD (rBytes ?_ ?_)
        | with_reducible refine y_nil (hK := ?_)
        | (with_reducible refine nilTC_split (fun h => ?_) (fun h bn => ?_) <;> (try simp only [List.length_map] at h))
        | ((with_reducible first | refine grd_cases (fun h => ?_) (fun h => ?_) | refine condC_split (fun h => ?_) (fun h => ?_)) <;> (try simp only [h]) <;> (try simp only [NR_, Bool.not_true, Bool.not_false, Bool.not_eq_eq_eq_not, ne_eq] at h))
        | omega | (simp only [LN_]; omega) | (refine maxLen_ok ?_; (first | omega | (simp only [LN_]; omega))))
      all_goals first
        | exact leafLaw (beq_iff_eq.mpr (by omega))
        | exact leafLaw rfl
        | (exfalso; omega)
    · have hw2 : tagI (33 :: 33 :: (l ++ [32, 120])) = (textI (33 :: 33 :: l), ((l.length + 2 : Nat) : Int), true) := by
        have := tag_two h0 hwords (t := [32, 120]) (by decide)
        simpa only [List.cons_append, List.nil_append, List.append_assoc] using this
      have hlen2 : (33 :: 33 :: (l ++ [32, 120]) : List Int).length ≤ 1000000000 := by simp; omega
      repeat' (first
        | with_reducible first | refine AW_seqA (AW_block ?_) | refine AW_block ?_ | refine cut_seqloop ?_ | refine cut_loop ?_ | refine AW_seqA (AW_seqA ?_) | refine AW_seq ?_ | refine AW_runReg ?_ | refine AW_runCond ?_ | refine AW_runExit ?_ | refine AW_runRet ?_ | refine AW_runSkip ?_ | refine AW_runLabel ?_
        | simp only [WL, intF, strF, WM, Int.reduceToNat, ne_eq, reduceCtorEq, not_false_eq_true, Nat.reduceAdd, Nat.reduceSub, Nat.reduceLT, Nat.reduceLeDiff, Nat.reduceEqDiff, Bool.not_true, Bool.not_false, beq_self_eq_true, true_and, and_true, reduceIte, Bool.false_eq_true, convC_sl, convC_str, List.eraseIdx_cons_zero, List.eraseIdx_cons_succ, T3, T4, T5, T9, T24, T30, cok12, cok13, cok14, cok15, cok16, cok17, Try.results3, hw2, hw3, lw_h, fold_text, textI_app]
        | simp (disch := first | omega | (simp only [LN_]; omega)) only [wrap_id, getI, str_add]
        | with_reducible first | refine andA (hb := ?_) | refine y_load (hK := ?_) | refine y_appN ?_ | refine y_appS ?_ | refine y_app (hlen := ?_) (hmax := ?_) (hK := fun tk => ?_) | refine y_bso (ty := 24) (hK := fun tb => ?_) | refine y_bytes ?_
        | ( refine callD_mk (ACallF.argsS (ys := [SI none [33, 33]]) ⟨leS_roeqW rfl, trivial⟩ (rBytes (by simp) ?_)))
        | ( refine callD_mk (ACallF.argsS (ys := [SI none (33 :: 33 :: (l ++ [32, 120]))]) ⟨leS_roeqW (by first | (simp; done) | fail), trivial⟩ (pTag hlen2 ?_)))
        | ( refine callD_mk (ACallF.argsS (ys := [SI none (33 :: 104 :: 33 :: (l ++ [44, 120]))]) ⟨leS_roeqW (by first | (simp; done) | fail), trivial⟩ (pTag hlen3 ?_)))
        | with_reducible first | refine cD (alive11 ?_) | refine cD (rValid ?_ ?_) | refine cD (rText ?_ ?_) | refine cD (pTag ?_ ?_) | refine cD (rWord ?_) | refine cD (rBytes ?_ ?_)
        | with_reducible refine y_nil (hK := ?_)
        | (with_reducible refine nilTC_split (fun h => ?_) (fun h bn => ?_) <;> (try simp only [List.length_map] at h))
        | ((with_reducible first | refine grd_cases (fun h => ?_) (fun h => ?_) | refine condC_split (fun h => ?_) (fun h => ?_)) <;> (try simp only [h]) <;> (try simp only [NR_, Bool.not_true, Bool.not_false, Bool.not_eq_eq_eq_not, ne_eq] at h))
        | omega | (simp only [LN_]; omega) | (refine maxLen_ok ?_; (first | omega | (simp only [LN_]; omega))))
      all_goals first
        | exact leafLaw (beq_iff_eq.mpr (by omega))
        | exact leafLaw rfl
        | (exfalso; omega)
end Go.Proofs.Ytaeacialcbahnaa
