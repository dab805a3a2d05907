/-
  Texts Ck, Ub, Pb, Pc, one behind the other.
-/
import Derived.Test.YtaeacialcbahnaaG7
/-
  Walks: chapter 2's kinds of code points, and the reference's.
-/


namespace Go.Proofs.Ytaeacialcbahnaa
open Go.Abs
set_option linter.unusedVariables false
set_option linter.unusedSimpArgs false
-- hb: 4000000
variable {κ : Ctx} {σ : List Res} {K : Ret → List Res → Prop} {o o' : Option (Option (Nat × Nat))}

-- chars.among
set_option maxHeartbeats 4000000 in
theorem among {s : ByteArray} {c : Int} (hs : s.size ≤ 1000000000) (hK : K (.ret (B (decide (c ∈ bytesI s)))) σ) : ACallF κ Try.prog 111 [.raw (.string s), I c] σ K := by
  have hl := bytesI_len s
  refine ACallF.dropL (ACallF_intro Try.func111 rfl ?_)
  simp only [Try.ntmps111]
  repeat' (first
    | simp only [WL, intF, strF, WM, Int.reduceToNat, ne_eq, reduceCtorEq, not_false_eq_true, Nat.reduceAdd, Nat.reduceSub, Nat.reduceLT, Nat.reduceLeDiff, Nat.reduceEqDiff, Bool.not_true, Bool.not_false, beq_self_eq_true, true_and, and_true, reduceIte, Bool.false_eq_true, convC_sl, convC_str, List.eraseIdx_cons_zero, List.eraseIdx_cons_succ, T3, T4, T5, T9, T30, cI in3, Try.results111]
    | simp (disch := first | omega | (simp only [LN_]; omega)) only [wrap_id, getI]
    | with_reducible first | refine andA (hb := ?_) | refine y_load (hK := ?_) | refine y_str ?_ ?_
    | with_reducible refine y_nil (hK := ?_)
    | (with_reducible refine nilTC_split (fun h => ?_) (fun h bn => ?_) <;> (try simp only [List.length_map] at h))
    | ((with_reducible first | refine grd_cases (fun h => ?_) (fun h => ?_) | refine condC_split (fun h => ?_) (fun h => ?_)) <;> (try simp only [h]) <;> (try simp only [NR_, Bool.not_true, Bool.not_false, Bool.not_eq_eq_eq_not, ne_eq] at h))
    | omega | (simp only [LN_]; omega) | (refine maxLen_ok ?_; (first | omega | (simp only [LN_]; omega))))
  refine loop_by (fun k : Nat => ⟨(.raw (.string s) :: I c :: .any :: .any :: .any :: .any :: .any :: .any :: SU none (bytesI s) :: I s.size :: I k :: .any :: .any :: .any :: .any :: .any :: .any :: .any :: .any :: []), σ, true, []⟩) (fun k => k ≤ s.size ∧ ∀ j, j < k → ¬ (bytesI s).getD j 0 = c) (fun k => s.size - k) 0 (St_le_same (by simp only [hl]; repeat (first | exact trivial | refine ⟨le_rfl, ?_⟩ | refine ⟨le_any, ?_⟩ | refine ⟨le_ro, ?_⟩ | refine ⟨le_nil (by decide), ?_⟩ | refine ⟨le_wrap (by omega) (by omega) (by omega), ?_⟩ | refine ⟨le_int (by omega), ?_⟩ | refine ⟨le_eq (by simp), ?_⟩)) id) ⟨Nat.zero_le _, fun j h => by omega⟩ ?_
  rintro k ⟨hk, hb⟩
  have hby : k < s.size → 0 ≤ (bytesI s).getD k 0 ∧ (bytesI s).getD k 0 ≤ 255 := fun h => bytesI_byte s _ (by rw [List.getD_eq_getElem?_getD, List.getElem?_eq_getElem (by omega)]; exact List.getElem_mem _)
  repeat' (first
    | simp only [WL, intF, strF, WM, Int.reduceToNat, ne_eq, reduceCtorEq, not_false_eq_true, Nat.reduceAdd, Nat.reduceSub, Nat.reduceLT, Nat.reduceLeDiff, Nat.reduceEqDiff, Bool.not_true, Bool.not_false, beq_self_eq_true, true_and, and_true, reduceIte, Bool.false_eq_true, convC_sl, convC_str, List.eraseIdx_cons_zero, List.eraseIdx_cons_succ, T3, T4, T5, T9, T30, cI in3, Try.results111]
    | simp (disch := first | omega | (simp only [LN_]; omega)) only [wrap_id, getI, getU]
    | with_reducible first | refine andA (hb := ?_) | refine y_load (hK := ?_) | refine y_str ?_ ?_
    | with_reducible refine y_nil (hK := ?_)
    | (with_reducible refine nilTC_split (fun h => ?_) (fun h bn => ?_) <;> (try simp only [List.length_map] at h))
    | ((with_reducible first | refine grd_cases (fun h => ?_) (fun h => ?_) | refine condC_split (fun h => ?_) (fun h => ?_)) <;> (try simp only [h]) <;> (try simp only [NR_, Bool.not_true, Bool.not_false, Bool.not_eq_eq_eq_not, ne_eq] at h))
    | omega | (simp only [LN_]; omega) | (refine maxLen_ok ?_; (first | omega | (simp only [LN_]; omega))))
  · exact leafL sub_rfl (leT_eq (congrArg B (decide_eq_true (mem_getD (k := k) (by omega) (by assumption))).symm)) hK
  · refine ⟨k + 1, St_le_same (by repeat (first | exact trivial | refine ⟨le_rfl, ?_⟩ | refine ⟨le_any, ?_⟩ | refine ⟨le_ro, ?_⟩ | refine ⟨le_nil (by decide), ?_⟩ | refine ⟨le_wrap (by omega) (by omega) (by omega), ?_⟩ | refine ⟨le_int (by omega), ?_⟩ | refine ⟨le_eq (by simp), ?_⟩)) id, ⟨by omega, fun j h => ?_⟩, by omega⟩
    rcases Nat.lt_succ_iff_lt_or_eq.1 h with h | rfl
    · exact hb j h
    · assumption
  · exact leafL sub_rfl (leT_eq (congrArg B (decide_eq_false (not_mem_getD (fun j hj => hb j (by omega)))).symm)) hK

-- marginaliaref1.among
set_option maxHeartbeats 4000000 in
theorem ramong {s : ByteArray} {c : Int} (hs : s.size ≤ 1000000000) (hK : K (.ret (B (decide (c ∈ bytesI s)))) σ) : ACallF κ Try.prog 77 [.raw (.string s), I c] σ K := by
  have hl := bytesI_len s
  refine ACallF.dropL (ACallF_intro Try.func77 rfl ?_)
  simp only [Try.ntmps77]
  repeat' (first
    | simp only [WL, intF, strF, WM, Int.reduceToNat, ne_eq, reduceCtorEq, not_false_eq_true, Nat.reduceAdd, Nat.reduceSub, Nat.reduceLT, Nat.reduceLeDiff, Nat.reduceEqDiff, Bool.not_true, Bool.not_false, beq_self_eq_true, true_and, and_true, reduceIte, Bool.false_eq_true, T3, T4, T5, T9, cI in3, Try.results77]
    | simp (disch := first | omega | (simp only [LN_]; omega)) only [wrap_id, getI]
    | with_reducible first | refine andA (hb := ?_)
    | with_reducible refine y_nil (hK := ?_)
    | (with_reducible refine nilTC_split (fun h => ?_) (fun h bn => ?_) <;> (try simp only [List.length_map] at h))
    | ((with_reducible first | refine grd_cases (fun h => ?_) (fun h => ?_) | refine condC_split (fun h => ?_) (fun h => ?_)) <;> (try simp only [h]) <;> (try simp only [NR_, Bool.not_true, Bool.not_false, Bool.not_eq_eq_eq_not, ne_eq] at h))
    | omega | (simp only [LN_]; omega) | (refine maxLen_ok ?_; (first | omega | (simp only [LN_]; omega))))
  refine loop_by (fun k : Nat => ⟨(.raw (.string s) :: I c :: .any :: .any :: .any :: I k :: .any :: .any :: .any :: .any :: .any :: .any :: .any :: .any :: .any :: .any :: .any :: .any :: []), σ, true, []⟩) (fun k => k ≤ s.size ∧ ∀ j, j < k → ¬ (bytesI s).getD j 0 = c) (fun k => s.size - k) 0 (St_le_same (by repeat (first | exact trivial | refine ⟨le_rfl, ?_⟩ | refine ⟨le_any, ?_⟩ | refine ⟨le_ro, ?_⟩ | refine ⟨le_nil (by decide), ?_⟩ | refine ⟨le_wrap (by omega) (by omega) (by omega), ?_⟩ | refine ⟨le_int (by omega), ?_⟩ | refine ⟨le_eq (by simp), ?_⟩)) id) ⟨Nat.zero_le _, fun j h => by omega⟩ ?_
  rintro k ⟨hk, hb⟩
  have hby : k < s.size → 0 ≤ (bytesI s).getD k 0 ∧ (bytesI s).getD k 0 ≤ 255 := fun h => bytesI_byte s _ (by rw [List.getD_eq_getElem?_getD, List.getElem?_eq_getElem (by omega)]; exact List.getElem_mem _)
  repeat' (first
    | simp only [WL, intF, strF, WM, Int.reduceToNat, ne_eq, reduceCtorEq, not_false_eq_true, Nat.reduceAdd, Nat.reduceSub, Nat.reduceLT, Nat.reduceLeDiff, Nat.reduceEqDiff, Bool.not_true, Bool.not_false, beq_self_eq_true, true_and, and_true, reduceIte, Bool.false_eq_true, T3, T4, T5, T9, cI in3, Try.results77, getB]
    | simp (disch := first | omega | (simp only [LN_]; omega)) only [wrap_id, getI]
    | with_reducible first | refine andA (hb := ?_)
    | with_reducible refine y_nil (hK := ?_)
    | (with_reducible refine nilTC_split (fun h => ?_) (fun h bn => ?_) <;> (try simp only [List.length_map] at h))
    | ((with_reducible first | refine grd_cases (fun h => ?_) (fun h => ?_) | refine condC_split (fun h => ?_) (fun h => ?_)) <;> (try simp only [h]) <;> (try simp only [NR_, Bool.not_true, Bool.not_false, Bool.not_eq_eq_eq_not, ne_eq] at h))
    | omega | (simp only [LN_]; omega) | (refine maxLen_ok ?_; (first | omega | (simp only [LN_]; omega))))
  · exact leafL sub_rfl (leT_eq (congrArg B (decide_eq_true (mem_getD (k := k) (by omega) (by assumption))).symm)) hK
  · refine ⟨k + 1, St_le_same (by repeat (first | exact trivial | refine ⟨le_rfl, ?_⟩ | refine ⟨le_any, ?_⟩ | refine ⟨le_ro, ?_⟩ | refine ⟨le_nil (by decide), ?_⟩ | refine ⟨le_wrap (by omega) (by omega) (by omega), ?_⟩ | refine ⟨le_int (by omega), ?_⟩ | refine ⟨le_eq (by simp), ?_⟩)) id, ⟨by omega, fun j h => ?_⟩, by omega⟩
    rcases Nat.lt_succ_iff_lt_or_eq.1 h with h | rfl
    · exact hb j h
    · assumption
  · exact leafL sub_rfl (leT_eq (congrArg B (decide_eq_false (not_mem_getD (fun j hj => hb j (by omega)))).symm)) hK

-- chars.Flow
set_option maxHeartbeats 4000000 in
theorem cFlow {c : Int} (hK : K (.ret (B (flowI c))) σ) : ACallF κ Try.prog 82 [I c] σ K := by
  refine ACallF.dropL (ACallF_intro Try.func82 rfl ?_)
  simp only [Try.ntmps82]
  repeat' (first
    | simp only [WL, intF, strF, WM, Int.reduceToNat, ne_eq, reduceCtorEq, not_false_eq_true, Nat.reduceAdd, Nat.reduceSub, Nat.reduceLT, Nat.reduceLeDiff, Nat.reduceEqDiff, Bool.not_true, Bool.not_false, beq_self_eq_true, true_and, and_true, reduceIte, Bool.false_eq_true, T3, T4, T9, cok111, Try.results82]
    | simp (disch := first | omega | (simp only [LN_]; omega)) only [wrap_id, getI]
    | with_reducible first | refine andA (hb := ?_) | refine cD (among ?_ ?_)
    | ((with_reducible first | refine grd_cases (fun h => ?_) (fun h => ?_) | refine condC_split (fun h => ?_) (fun h => ?_)) <;> (try simp only [h]) <;> (try simp only [NR_, Bool.not_true, Bool.not_false, Bool.not_eq_eq_eq_not, ne_eq] at h))
    | omega | (simp only [LN_]; omega))
  · decide
  · exact leafL sub_rfl (leT_eq (congrArg B (flow_mem (by decide) c))) hK

-- marginaliaref1.Flow
set_option maxHeartbeats 4000000 in
theorem rFlow {c : Int} (hK : K (.ret (B (flowI c))) σ) : ACallF κ Try.prog 87 [I c] σ K := by
  refine ACallF.dropL (ACallF_intro Try.func87 rfl ?_)
  simp only [Try.ntmps87]
  repeat' (first
    | simp only [WL, intF, strF, WM, Int.reduceToNat, ne_eq, reduceCtorEq, not_false_eq_true, Nat.reduceAdd, Nat.reduceSub, Nat.reduceLT, Nat.reduceLeDiff, Nat.reduceEqDiff, Bool.not_true, Bool.not_false, beq_self_eq_true, true_and, and_true, reduceIte, Bool.false_eq_true, T3, T4, T9, cok77, Try.results87]
    | simp (disch := first | omega | (simp only [LN_]; omega)) only [wrap_id, getI]
    | with_reducible first | refine andA (hb := ?_) | refine cD (ramong ?_ ?_)
    | ((with_reducible first | refine grd_cases (fun h => ?_) (fun h => ?_) | refine condC_split (fun h => ?_) (fun h => ?_)) <;> (try simp only [h]) <;> (try simp only [NR_, Bool.not_true, Bool.not_false, Bool.not_eq_eq_eq_not, ne_eq] at h))
    | omega | (simp only [LN_]; omega))
  · decide
  · exact leafL sub_rfl (leT_eq (congrArg B (flow_mem (by decide) c))) hK

-- chars.Name
set_option maxHeartbeats 4000000 in
theorem cName {c : Int} (hK : K (.ret (B (nameI c))) σ) : ACallF κ Try.prog 84 [I c] σ K := by
  refine ACallF.dropL (ACallF_intro Try.func84 rfl ?_)
  simp only [Try.ntmps84]
  repeat' (first
    | simp only [WL, intF, strF, WM, Int.reduceToNat, ne_eq, reduceCtorEq, not_false_eq_true, Nat.reduceAdd, Nat.reduceSub, Nat.reduceLT, Nat.reduceLeDiff, Nat.reduceEqDiff, Bool.not_true, Bool.not_false, beq_self_eq_true, true_and, and_true, reduceIte, Bool.false_eq_true, T3, T4, cok76, cok82, cok112, Try.results84]
    | simp (disch := first | omega | (simp only [LN_]; omega)) only [wrap_id, getI]
    | with_reducible first | refine andA (hb := ?_) | refine cD (Blank ?_) | refine cD (cFlow ?_) | refine cD (Print ?_)
    | with_reducible refine y_nil (hK := ?_)
    | (with_reducible refine nilTC_split (fun h => ?_) (fun h bn => ?_) <;> (try simp only [List.length_map] at h))
    | ((with_reducible first | refine grd_cases (fun h => ?_) (fun h => ?_) | refine condC_split (fun h => ?_) (fun h => ?_)) <;> (try simp only [h]) <;> (try simp only [NR_, Bool.not_true, Bool.not_false, Bool.not_eq_eq_eq_not, ne_eq] at h))
    | omega | (simp only [LN_]; omega))
  all_goals exact leafL sub_rfl (leT_eq (congrArg B (by simp [nameI, *]))) hK

-- marginaliaref1.Name
set_option maxHeartbeats 4000000 in
theorem rName {c : Int} (hK : K (.ret (B (nameI c))) σ) : ACallF κ Try.prog 51 [I c] σ K := by
  refine ACallF.dropL (ACallF_intro Try.func51 rfl ?_)
  simp only [Try.ntmps51]
  repeat' (first
    | simp only [WL, intF, strF, WM, Int.reduceToNat, ne_eq, reduceCtorEq, not_false_eq_true, Nat.reduceAdd, Nat.reduceSub, Nat.reduceLT, Nat.reduceLeDiff, Nat.reduceEqDiff, Bool.not_true, Bool.not_false, beq_self_eq_true, true_and, and_true, reduceIte, Bool.false_eq_true, T3, T4, cok35, cok55, cok87, Try.results51]
    | simp (disch := first | omega | (simp only [LN_]; omega)) only [wrap_id, getI]
    | with_reducible first | refine andA (hb := ?_) | refine cD (rPrint ?_) | refine cD (rBlank ?_) | refine cD (rFlow ?_)
    | with_reducible refine y_nil (hK := ?_)
    | (with_reducible refine nilTC_split (fun h => ?_) (fun h bn => ?_) <;> (try simp only [List.length_map] at h))
    | ((with_reducible first | refine grd_cases (fun h => ?_) (fun h => ?_) | refine condC_split (fun h => ?_) (fun h => ?_)) <;> (try simp only [h]) <;> (try simp only [NR_, Bool.not_true, Bool.not_false, Bool.not_eq_eq_eq_not, ne_eq] at h))
    | omega | (simp only [LN_]; omega))
  all_goals exact leafL sub_rfl (leT_eq (congrArg B (by simp [nameI, *]))) hK

-- chars.Word
set_option maxHeartbeats 4000000 in
theorem cWord {c : Int} (hK : K (.ret (B (wordI c))) σ) : ACallF κ Try.prog 95 [I c] σ K := by
  refine ACallF.dropL (ACallF_intro Try.func95 rfl ?_)
  simp only [Try.ntmps95]
  repeat' (first
    | simp only [WL, intF, strF, WM, Int.reduceToNat, ne_eq, reduceCtorEq, not_false_eq_true, Nat.reduceAdd, Nat.reduceSub, Nat.reduceLT, Nat.reduceLeDiff, Nat.reduceEqDiff, Bool.not_true, Bool.not_false, beq_self_eq_true, true_and, and_true, reduceIte, Bool.false_eq_true, T3, T4, cok115, Try.results95]
    | simp (disch := first | omega | (simp only [LN_]; omega)) only [wrap_id, getI]
    | with_reducible first | refine andA (hb := ?_) | refine cD (within ?_)
    | with_reducible refine y_nil (hK := ?_)
    | (with_reducible refine nilTC_split (fun h => ?_) (fun h bn => ?_) <;> (try simp only [List.length_map] at h))
    | ((with_reducible first | refine grd_cases (fun h => ?_) (fun h => ?_) | refine condC_split (fun h => ?_) (fun h => ?_)) <;> (try simp only [h]) <;> (try simp only [NR_, Bool.not_true, Bool.not_false, Bool.not_eq_eq_eq_not, ne_eq] at h))
    | omega | (simp only [LN_]; omega))
  all_goals (refine leafL sub_rfl (leT_eq (congrArg B ?_)) hK; rw [Bool.eq_iff_iff]; simp only [wordI, decide_eq_true_eq, beq_iff_eq, Bool.false_eq_true, false_iff, true_iff, eq_self]; omega)

-- marginaliaref1.Word
set_option maxHeartbeats 4000000 in
theorem rWord {c : Int} (hK : K (.ret (B (wordI c))) σ) : ACallF κ Try.prog 16 [I c] σ K := by
  refine ACallF.dropL (ACallF_intro Try.func16 rfl ?_)
  simp only [Try.ntmps16]
  repeat' (first
    | simp only [WL, intF, strF, WM, Int.reduceToNat, ne_eq, reduceCtorEq, not_false_eq_true, Nat.reduceAdd, Nat.reduceSub, Nat.reduceLT, Nat.reduceLeDiff, Nat.reduceEqDiff, Bool.not_true, Bool.not_false, beq_self_eq_true, true_and, and_true, reduceIte, Bool.false_eq_true, T3, T4, Try.results16]
    | simp (disch := first | omega | (simp only [LN_]; omega)) only [wrap_id, getI]
    | with_reducible first | refine andA (hb := ?_)
    | with_reducible refine y_nil (hK := ?_)
    | (with_reducible refine nilTC_split (fun h => ?_) (fun h bn => ?_) <;> (try simp only [List.length_map] at h))
    | ((with_reducible first | refine grd_cases (fun h => ?_) (fun h => ?_) | refine condC_split (fun h => ?_) (fun h => ?_)) <;> (try simp only [h]) <;> (try simp only [NR_, Bool.not_true, Bool.not_false, Bool.not_eq_eq_eq_not, ne_eq] at h))
    | omega | (simp only [LN_]; omega))
  all_goals (refine leafL sub_rfl (leT_eq (congrArg B ?_)) hK; rw [Bool.eq_iff_iff]; simp only [wordI, decide_eq_true_eq, beq_iff_eq, Bool.false_eq_true, false_iff, true_iff, eq_self]; omega)

-- chars.Hex
set_option maxHeartbeats 4000000 in
theorem cHex {c : Int} (hK : K (.ret (I (hexI c))) σ) : ACallF κ Try.prog 118 [I c] σ K := by
  refine ACallF.dropL (ACallF_intro Try.func118 rfl ?_)
  simp only [Try.ntmps118]
  repeat' (first
    | simp only [WL, intF, strF, WM, Int.reduceToNat, ne_eq, reduceCtorEq, not_false_eq_true, Nat.reduceAdd, Nat.reduceSub, Nat.reduceLT, Nat.reduceLeDiff, Nat.reduceEqDiff, Bool.not_true, Bool.not_false, beq_self_eq_true, true_and, and_true, reduceIte, Bool.false_eq_true, T3, T4, cok115, Try.results118]
    | simp (disch := first | omega | (simp only [LN_]; omega)) only [wrap_id, getI]
    | with_reducible first | refine andA (hb := ?_) | refine cD (within ?_)
    | with_reducible refine y_nil (hK := ?_)
    | (with_reducible refine nilTC_split (fun h => ?_) (fun h bn => ?_) <;> (try simp only [List.length_map] at h))
    | ((with_reducible first | refine grd_cases (fun h => ?_) (fun h => ?_) | refine condC_split (fun h => ?_) (fun h => ?_)) <;> (try simp only [h]) <;> (try simp only [NR_, Bool.not_true, Bool.not_false, Bool.not_eq_eq_eq_not, ne_eq] at h))
    | omega | (simp only [LN_]; omega))
  all_goals (refine leafL sub_rfl (leT_eq (congrArg I ?_)) hK; unfold hexI; (repeat' split) <;> omega)

-- marginaliaref1.Hex
set_option maxHeartbeats 4000000 in
theorem rHex {c : Int} (hK : K (.ret (I (hexI c))) σ) : ACallF κ Try.prog 78 [I c] σ K := by
  refine ACallF.dropL (ACallF_intro Try.func78 rfl ?_)
  simp only [Try.ntmps78]
  repeat' (first
    | simp only [WL, intF, strF, WM, Int.reduceToNat, ne_eq, reduceCtorEq, not_false_eq_true, Nat.reduceAdd, Nat.reduceSub, Nat.reduceLT, Nat.reduceLeDiff, Nat.reduceEqDiff, Bool.not_true, Bool.not_false, beq_self_eq_true, true_and, and_true, reduceIte, Bool.false_eq_true, T3, T4, Try.results78]
    | simp (disch := first | omega | (simp only [LN_]; omega)) only [wrap_id, getI]
    | with_reducible first | refine andA (hb := ?_)
    | with_reducible refine y_nil (hK := ?_)
    | (with_reducible refine nilTC_split (fun h => ?_) (fun h bn => ?_) <;> (try simp only [List.length_map] at h))
    | ((with_reducible first | refine grd_cases (fun h => ?_) (fun h => ?_) | refine condC_split (fun h => ?_) (fun h => ?_)) <;> (try simp only [h]) <;> (try simp only [NR_, Bool.not_true, Bool.not_false, Bool.not_eq_eq_eq_not, ne_eq] at h))
    | omega | (simp only [LN_]; omega))
  all_goals (refine leafL sub_rfl (leT_eq (congrArg I ?_)) hK; unfold hexI; (repeat' split) <;> omega)
end Go.Proofs.Ytaeacialcbahnaa
/-
  Walks: code points as bytes; the reference's, and the program's.
-/


namespace Go.Proofs.Ytaeacialcbahnaa
open Go.Abs
set_option linter.unusedVariables false
set_option linter.unusedSimpArgs false
-- hb: 4000000
variable {κ : Ctx} {σ : List Res} {K : Ret → List Res → Prop} {o o' : Option (Option (Nat × Nat))}

-- marginaliaref1.right
set_option maxHeartbeats 4000000 in
theorem rRight {c : Int} (hK : K (.ret (B (rightI c))) σ) : ACallF κ Try.prog 83 [I c] σ K := by
  refine ACallF.dropL (ACallF_intro Try.func83 rfl ?_)
  simp only [Try.ntmps83]
  repeat' (first
    | simp only [WL, intF, strF, WM, Int.reduceToNat, ne_eq, reduceCtorEq, not_false_eq_true, Nat.reduceAdd, Nat.reduceSub, Nat.reduceLT, Nat.reduceLeDiff, Nat.reduceEqDiff, Bool.not_true, Bool.not_false, beq_self_eq_true, true_and, and_true, reduceIte, Bool.false_eq_true, T3, T4, Try.results83]
    | simp (disch := first | omega | (simp only [LN_]; omega)) only [wrap_id, getI]
    | with_reducible first | refine andA (hb := ?_)
    | with_reducible refine y_nil (hK := ?_)
    | (with_reducible refine nilTC_split (fun h => ?_) (fun h bn => ?_) <;> (try simp only [List.length_map] at h))
    | ((with_reducible first | refine grd_cases (fun h => ?_) (fun h => ?_) | refine condC_split (fun h => ?_) (fun h => ?_)) <;> (try simp only [h]) <;> (try simp only [NR_, Bool.not_true, Bool.not_false, Bool.not_eq_eq_eq_not, ne_eq] at h))
    | omega | (simp only [LN_]; omega))
  all_goals (refine leafL sub_rfl (leT_eq (congrArg B ?_)) hK; rw [Bool.eq_iff_iff]; simp only [rightI_iff, decide_eq_true_eq, Bool.false_eq_true, false_iff, true_iff, eq_self]; omega)

-- utf.is
set_option maxHeartbeats 4000000 in
theorem uIs {c : Int} (hK : K (.ret (B (rightI c))) σ) : ACallF κ Try.prog 105 [I c] σ K := by
  refine ACallF.dropL (ACallF_intro Try.func105 rfl ?_)
  simp only [Try.ntmps105]
  repeat' (first
    | simp only [WL, intF, strF, WM, Int.reduceToNat, ne_eq, reduceCtorEq, not_false_eq_true, Nat.reduceAdd, Nat.reduceSub, Nat.reduceLT, Nat.reduceLeDiff, Nat.reduceEqDiff, Bool.not_true, Bool.not_false, beq_self_eq_true, true_and, and_true, reduceIte, Bool.false_eq_true, T3, T4, Try.results105]
    | simp (disch := first | omega | (simp only [LN_]; omega)) only [wrap_id, getI]
    | with_reducible first | refine andA (hb := ?_)
    | with_reducible refine y_nil (hK := ?_)
    | (with_reducible refine nilTC_split (fun h => ?_) (fun h bn => ?_) <;> (try simp only [List.length_map] at h))
    | ((with_reducible first | refine grd_cases (fun h => ?_) (fun h => ?_) | refine condC_split (fun h => ?_) (fun h => ?_)) <;> (try simp only [h]) <;> (try simp only [NR_, Bool.not_true, Bool.not_false, Bool.not_eq_eq_eq_not, ne_eq] at h))
    | omega | (simp only [LN_]; omega))
  all_goals (refine leafL sub_rfl (leT_eq (congrArg B ?_)) hK; rw [Bool.eq_iff_iff]; simp only [rightI_iff, decide_eq_true_eq, Bool.false_eq_true, false_iff, true_iff, eq_self]; omega)

-- marginaliaref1.put
set_option maxHeartbeats 4000000 in
theorem rPut {bs : List Int} {c : Int} {tk : Option (Nat × Nat)} (hb : bs.length ≤ 8000000000) (hK : ∀ tk', K (.ret (SU (some tk') (bs ++ encC c))) (.tip tk' :: σ)) : ACallF κ Try.prog 45 [SU (some tk) bs, I c] (.tip tk :: σ) K := by
  cases hr : rightI c
  ·
    refine ACallF.dropL (ACallF_intro Try.func45 rfl ?_)
    simp only [Try.ntmps45]
    repeat' (first
      | simp only [WL, intF, strF, WM, Int.reduceToNat, ne_eq, reduceCtorEq, not_false_eq_true, Nat.reduceAdd, Nat.reduceSub, Nat.reduceLT, Nat.reduceLeDiff, Nat.reduceEqDiff, Bool.not_true, Bool.not_false, beq_self_eq_true, true_and, and_true, reduceIte, Bool.false_eq_true, T3, T4, T5, T30, cI in5, cok83, Try.results45, hr, fold_or, fold_and, and63, Int.reduceToNat, Int.reducePow]
      | simp (disch := first | omega | (simp only [LN_]; omega)) only [wrap_id, getI, shr_i, or128, or192, or224, or240, wrapu8]
      | with_reducible first | refine andA (hb := ?_) | refine y_appN ?_ | refine y_appS ?_ | refine y_app (hlen := ?_) (hmax := ?_) (hK := fun tk => ?_) | refine y_bs0 ?_ | refine y_bs (hK := ?_) | refine cD (rRight ?_)
      | with_reducible refine y_nil (hK := ?_)
      | (with_reducible refine nilTC_split (fun h => ?_) (fun h bn => ?_) <;> (try simp only [List.length_map] at h))
      | ((with_reducible first | refine grd_cases (fun h => ?_) (fun h => ?_) | refine condC_split (fun h => ?_) (fun h => ?_)) <;> (try simp only [h]) <;> (try simp only [NR_, Bool.not_true, Bool.not_false, Bool.not_eq_eq_eq_not, ne_eq] at h))
      | omega | (simp only [LN_]; omega) | (refine maxLen_ok ?_; (first | omega | (simp only [LN_]; omega))))
    all_goals exact leafL sub_rfl (leT_eq (by simp [encC, fix_no hr, encR])) (hK _)
  · obtain ⟨r1, r2, r3⟩ := rightI_iff.1 hr
    refine ACallF.dropL (ACallF_intro Try.func45 rfl ?_)
    simp only [Try.ntmps45]
    repeat' (first
      | simp only [WL, intF, strF, WM, Int.reduceToNat, ne_eq, reduceCtorEq, not_false_eq_true, Nat.reduceAdd, Nat.reduceSub, Nat.reduceLT, Nat.reduceLeDiff, Nat.reduceEqDiff, Bool.not_true, Bool.not_false, beq_self_eq_true, true_and, and_true, reduceIte, Bool.false_eq_true, T3, T4, T5, T30, cI in5, cok83, Try.results45, hr, fold_or, fold_and, and63, Int.reduceToNat, Int.reducePow]
      | simp (disch := first | omega | (simp only [LN_]; omega)) only [wrap_id, getI, shr_i, or128, or192, or224, or240, wrapu8]
      | with_reducible first | refine andA (hb := ?_) | refine y_appN ?_ | refine y_appS ?_ | refine y_app (hlen := ?_) (hmax := ?_) (hK := fun tk => ?_) | refine y_bs0 ?_ | refine y_bs (hK := ?_) | refine cD (rRight ?_)
      | with_reducible refine y_nil (hK := ?_)
      | (with_reducible refine nilTC_split (fun h => ?_) (fun h bn => ?_) <;> (try simp only [List.length_map] at h))
      | ((with_reducible first | refine grd_cases (fun h => ?_) (fun h => ?_) | refine condC_split (fun h => ?_) (fun h => ?_)) <;> (try simp only [h]) <;> (try simp only [NR_, Bool.not_true, Bool.not_false, Bool.not_eq_eq_eq_not, ne_eq] at h))
      | omega | (simp only [LN_]; omega) | (refine maxLen_ok ?_; (first | omega | (simp only [LN_]; omega))))
    all_goals
      refine leafL sub_rfl (leT_eq ?_) (hK _)
      unfold encC encR
      rw [fix_id hr]
      first
        | rw [if_pos (by omega)]
        | rw [if_neg (by omega), if_pos (by omega)]
        | rw [if_neg (by omega), if_neg (by omega), if_pos (by omega)]
        | rw [if_neg (by omega), if_neg (by omega), if_neg (by omega)]
      simp

-- marginaliaref1.Bytes
set_option maxHeartbeats 4000000 in
theorem rBytes {l : List Int} (hl : l.length ≤ 1000000000) (hK : K (.ret (SU none (encL l))) σ) : ACallF κ Try.prog 17 [SI o l] σ K := by
  refine ACallF.dropL (ACallF_intro Try.func17 rfl ?_)
  simp only [Try.ntmps17]
  repeat' (first
    | simp only [WL, intF, strF, WM, Int.reduceToNat, ne_eq, reduceCtorEq, not_false_eq_true, Nat.reduceAdd, Nat.reduceSub, Nat.reduceLT, Nat.reduceLeDiff, Nat.reduceEqDiff, Bool.not_true, Bool.not_false, beq_self_eq_true, true_and, and_true, reduceIte, Bool.false_eq_true, T3, T4, T5, T24, T30, cok45, Try.results17]
    | simp (disch := first | omega | (simp only [LN_]; omega)) only [wrap_id, getI]
    | with_reducible first | refine andA (hb := ?_) | refine y_load (hK := ?_) | refine cD (rPut ?_ (fun tkp => ?_))
    | with_reducible refine y_nil (hK := ?_)
    | (with_reducible refine nilTC_split (fun h => ?_) (fun h bn => ?_) <;> (try simp only [List.length_map] at h))
    | ((with_reducible first | refine grd_cases (fun h => ?_) (fun h => ?_) | refine condC_split (fun h => ?_) (fun h => ?_)) <;> (try simp only [h]) <;> (try simp only [NR_, Bool.not_true, Bool.not_false, Bool.not_eq_eq_eq_not, ne_eq] at h))
    | omega | (simp only [LN_]; omega))
  refine loop_by (fun x : Nat × Option (Nat × Nat) => ⟨(SI o l :: .any :: .any :: SU (some x.2) (encL (l.take x.1)) :: I x.1 :: .any :: .any :: .any :: .any :: .any :: .any :: .any :: .any :: .any :: .any :: .any :: .any :: .any :: []), .tip x.2 :: σ, true, []⟩) (fun x => x.1 ≤ l.length) (fun x => l.length - x.1) (0, none) (St_leW (by repeat (first | exact trivial | refine ⟨le_rfl, ?_⟩ | refine ⟨le_any, ?_⟩ | refine ⟨le_ro, ?_⟩ | refine ⟨le_nil (by decide), ?_⟩ | refine ⟨le_wrap (by omega) (by omega) (by omega), ?_⟩ | refine ⟨le_int (by omega), ?_⟩ | refine ⟨le_eq (by simp), ?_⟩)) ResW.void id) (Nat.zero_le _) ?_
  rintro ⟨k, tk⟩ h1
  dsimp only at h1 ⊢
  have he := encL_len (l.take k)
  have ht : (l.take k).length = k := by simp; omega
  repeat' (first
    | simp only [WL, intF, strF, WM, Int.reduceToNat, ne_eq, reduceCtorEq, not_false_eq_true, Nat.reduceAdd, Nat.reduceSub, Nat.reduceLT, Nat.reduceLeDiff, Nat.reduceEqDiff, Bool.not_true, Bool.not_false, beq_self_eq_true, true_and, and_true, reduceIte, Bool.false_eq_true, T3, T4, T5, T24, T30, cok45, Try.results17]
    | simp (disch := first | omega | (simp only [LN_]; omega)) only [wrap_id, getI]
    | with_reducible first | refine andA (hb := ?_) | refine y_load (hK := ?_) | refine cD (rPut ?_ (fun tkp => ?_))
    | with_reducible refine y_nil (hK := ?_)
    | (with_reducible refine nilTC_split (fun h => ?_) (fun h bn => ?_) <;> (try simp only [List.length_map] at h))
    | ((with_reducible first | refine grd_cases (fun h => ?_) (fun h => ?_) | refine condC_split (fun h => ?_) (fun h => ?_)) <;> (try simp only [h]) <;> (try simp only [NR_, Bool.not_true, Bool.not_false, Bool.not_eq_eq_eq_not, ne_eq] at h))
    | omega | (simp only [LN_]; omega))
  · exact ⟨(k + 1, _), St_leW (by dsimp only; rw [encL_take (by omega)]; repeat (first | exact trivial | refine ⟨le_rfl, ?_⟩ | refine ⟨le_any, ?_⟩ | refine ⟨le_ro, ?_⟩ | refine ⟨le_nil (by decide), ?_⟩ | refine ⟨le_wrap (by omega) (by omega) (by omega), ?_⟩ | refine ⟨le_int (by omega), ?_⟩ | refine ⟨le_eq (by simp), ?_⟩)) (ResW.refl _) id, by dsimp only; omega, by dsimp only; omega⟩
  · exact leafL (sub_cons sub_rfl) (leT_le (by rw [List.take_of_length_le (by omega)]; exact le_ro)) hK

def AppR (σ : List Res) (tk : Option (Nat × Nat)) (x : AV) : Prop := True

-- utf8.appendRuneNonASCII
set_option maxHeartbeats 4000000 in
theorem uAppend2 {bs : List Int} {c : Int} {tk : Option (Nat × Nat)} (hb : bs.length ≤ 8000000000) (hc : 128 ≤ c) (hr : rightI c = true) (hK : ∀ tk', K (.ret (SU (some tk') (bs ++ encC c))) (.tip tk' :: σ)) : ACallF κ Try.prog 117 [SU (some tk) bs, .raw (.int .i32 c)] (.tip tk :: σ) K := by
  obtain ⟨r1, r2, r3⟩ := rightI_iff.1 hr
  refine ACallF.dropL (ACallF_intro Try.func117 rfl ?_)
  simp only [Try.ntmps117]
  repeat' (first
    | simp only [WL, intF, strF, WM, Int.reduceToNat, ne_eq, reduceCtorEq, not_false_eq_true, Nat.reduceAdd, Nat.reduceSub, Nat.reduceLT, Nat.reduceLeDiff, Nat.reduceEqDiff, Bool.not_true, Bool.not_false, beq_self_eq_true, true_and, and_true, reduceIte, Bool.false_eq_true, T4, T5, T21, T30, T118, cI in5, cI in118, Try.results117, fold_or8, fold_and8, and8_63, Int.reduceToNat, Int.reducePow]
    | simp (disch := first | omega | (simp only [LN_]; omega)) only [wrap_id, getI, shr_i32, or8_128, or8_192, or8_224, or8_240, wrapu8, wrapu32]
    | with_reducible first | refine andA (hb := ?_) | refine y_appN ?_ | refine y_appS ?_ | refine y_app (hlen := ?_) (hmax := ?_) (hK := fun tk => ?_) | refine y_bs0 ?_ | refine y_bs (hK := ?_)
    | with_reducible refine y_nil (hK := ?_)
    | (with_reducible refine nilTC_split (fun h => ?_) (fun h bn => ?_) <;> (try simp only [List.length_map] at h))
    | ((with_reducible first | refine grd_cases (fun h => ?_) (fun h => ?_) | refine condC_split (fun h => ?_) (fun h => ?_)) <;> (try simp only [h]) <;> (try simp only [NR_, Bool.not_true, Bool.not_false, Bool.not_eq_eq_eq_not, ne_eq] at h))
    | omega | (simp only [LN_]; omega) | (refine maxLen_ok ?_; (first | omega | (simp only [LN_]; omega))))
  all_goals
    refine leafL sub_rfl (leT_eq ?_) (hK _)
    unfold encC encR
    rw [fix_id hr]
    first
      | rw [if_pos (by omega)]
      | rw [if_neg (by omega), if_pos (by omega)]
      | rw [if_neg (by omega), if_neg (by omega), if_pos (by omega)]
      | rw [if_neg (by omega), if_neg (by omega), if_neg (by omega)]
    simp

-- utf8.AppendRune
set_option maxHeartbeats 4000000 in
theorem uAppend {bs : List Int} {c : Int} {tk : Option (Nat × Nat)} (hb : bs.length ≤ 8000000000) (hr : rightI c = true) (hK : ∀ tk', K (.ret (SU (some tk') (bs ++ encC c))) (.tip tk' :: σ)) : ACallF κ Try.prog 106 [SU (some tk) bs, .raw (.int .i32 c)] (.tip tk :: σ) K := by
  obtain ⟨r1, r2, r3⟩ := rightI_iff.1 hr
  refine ACallF.dropL (ACallF_intro Try.func106 rfl ?_)
  simp only [Try.ntmps106]
  repeat' (first
    | simp only [WL, intF, strF, WM, Int.reduceToNat, ne_eq, reduceCtorEq, not_false_eq_true, Nat.reduceAdd, Nat.reduceSub, Nat.reduceLT, Nat.reduceLeDiff, Nat.reduceEqDiff, Bool.not_true, Bool.not_false, beq_self_eq_true, true_and, and_true, reduceIte, Bool.false_eq_true, T4, T5, T21, T30, T118, cI in5, cI in118, cok117, Try.results106]
    | simp (disch := first | omega | (simp only [LN_]; omega)) only [wrap_id, getI, wrapu32, wrapu8]
    | with_reducible first | refine andA (hb := ?_) | refine y_appN ?_ | refine y_appS ?_ | refine y_app (hlen := ?_) (hmax := ?_) (hK := fun tk => ?_) | refine y_bs0 ?_ | refine y_bs (hK := ?_) | refine cD (uAppend2 ?_ ?_ ?_ (fun tkp => ?_))
    | with_reducible refine y_nil (hK := ?_)
    | (with_reducible refine nilTC_split (fun h => ?_) (fun h bn => ?_) <;> (try simp only [List.length_map] at h))
    | ((with_reducible first | refine grd_cases (fun h => ?_) (fun h => ?_) | refine condC_split (fun h => ?_) (fun h => ?_)) <;> (try simp only [h]) <;> (try simp only [NR_, Bool.not_true, Bool.not_false, Bool.not_eq_eq_eq_not, ne_eq] at h))
    | omega | (simp only [LN_]; omega) | (refine maxLen_ok ?_; (first | omega | (simp only [LN_]; omega))))
  all_goals first
    | exact leafL sub_rfl (leT_eq (by rw [encC_ascii (by omega) (by omega)]; simp)) (hK _)
    | exact leafL sub_rfl (leT_eq rfl) (hK _)
    | assumption

-- utf.Bytes
set_option maxHeartbeats 4000000 in
theorem uBytes {l : List Int} (hl : l.length ≤ 1000000000) (hK : K (.ret (SU none (encL l))) σ) : ACallF κ Try.prog 70 [SI o l] σ K := by
  refine ACallF.dropL (ACallF_intro Try.func70 rfl ?_)
  simp only [Try.ntmps70]
  repeat' (first
    | simp only [WL, intF, strF, WM, Int.reduceToNat, ne_eq, reduceCtorEq, not_false_eq_true, Nat.reduceAdd, Nat.reduceSub, Nat.reduceLT, Nat.reduceLeDiff, Nat.reduceEqDiff, Bool.not_true, Bool.not_false, beq_self_eq_true, true_and, and_true, reduceIte, Bool.false_eq_true, T3, T4, T5, T21, T24, T30, cI in21, cok105, cok106, Try.results70]
    | simp (disch := first | omega | (simp only [LN_]; omega)) only [wrap_id, getI]
    | with_reducible first | refine andA (hb := ?_) | refine y_load (hK := ?_) | refine cD (uIs ?_) | refine cD (uAppend ?_ ?_ (fun tkp => ?_))
    | with_reducible refine y_nil (hK := ?_)
    | (with_reducible refine nilTC_split (fun h => ?_) (fun h bn => ?_) <;> (try simp only [List.length_map] at h))
    | ((with_reducible first | refine grd_cases (fun h => ?_) (fun h => ?_) | refine condC_split (fun h => ?_) (fun h => ?_)) <;> (try simp only [h]) <;> (try simp only [NR_, Bool.not_true, Bool.not_false, Bool.not_eq_eq_eq_not, ne_eq] at h))
    | omega | (simp only [LN_]; omega) | (refine maxLen_ok ?_; (first | omega | (simp only [LN_]; omega))))
  refine loop_by (fun x : Nat × Option (Nat × Nat) => ⟨(SI o l :: .any :: .any :: SU (some x.2) (encL (l.take x.1)) :: .any :: .any :: SI o l :: I l.length :: I x.1 :: .any :: .any :: .any :: .any :: .any :: .any :: .any :: .any :: .any :: .any :: .any :: .any :: []), .tip x.2 :: σ, true, []⟩) (fun x => x.1 ≤ l.length) (fun x => l.length - x.1) (0, none) (St_leW (by repeat (first | exact trivial | refine ⟨le_rfl, ?_⟩ | refine ⟨le_any, ?_⟩ | refine ⟨le_ro, ?_⟩ | refine ⟨le_nil (by decide), ?_⟩ | refine ⟨le_wrap (by omega) (by omega) (by omega), ?_⟩ | refine ⟨le_int (by omega), ?_⟩ | refine ⟨le_eq (by simp), ?_⟩)) ResW.void id) (Nat.zero_le _) ?_
  rintro ⟨k, tk⟩ h1
  dsimp only at h1 ⊢
  have he := encL_len (l.take k)
  have ht : (l.take k).length = k := by simp; omega
  cases hr : rightI (l.getD k 0)
  · have e : encC 65533 = encC (l.getD k 0) := by unfold encC; rw [fix_no hr, fix_id (by decide)]
    repeat' (first
      | simp only [WL, intF, strF, WM, Int.reduceToNat, ne_eq, reduceCtorEq, not_false_eq_true, Nat.reduceAdd, Nat.reduceSub, Nat.reduceLT, Nat.reduceLeDiff, Nat.reduceEqDiff, Bool.not_true, Bool.not_false, beq_self_eq_true, true_and, and_true, reduceIte, Bool.false_eq_true, T3, T4, T5, T21, T24, T30, cI in21, cok105, cok106, Try.results70, hr]
      | simp (disch := first | omega | (simp only [LN_]; omega)) only [wrap_id, getI, wrapi32]
      | with_reducible first | refine andA (hb := ?_) | refine y_load (hK := ?_) | refine cD (uIs ?_) | refine cD (uAppend ?_ ?_ (fun tkp => ?_))
      | with_reducible refine y_nil (hK := ?_)
      | (with_reducible refine nilTC_split (fun h => ?_) (fun h bn => ?_) <;> (try simp only [List.length_map] at h))
      | ((with_reducible first | refine grd_cases (fun h => ?_) (fun h => ?_) | refine condC_split (fun h => ?_) (fun h => ?_)) <;> (try simp only [h]) <;> (try simp only [NR_, Bool.not_true, Bool.not_false, Bool.not_eq_eq_eq_not, ne_eq] at h))
      | omega | (simp only [LN_]; omega) | (refine maxLen_ok ?_; (first | omega | (simp only [LN_]; omega))))
    · decide
    · exact ⟨(k + 1, _), St_leW (by dsimp only; rw [encL_take (by omega), ← e]; repeat (first | exact trivial | refine ⟨le_rfl, ?_⟩ | refine ⟨le_any, ?_⟩ | refine ⟨le_ro, ?_⟩ | refine ⟨le_nil (by decide), ?_⟩ | refine ⟨le_wrap (by omega) (by omega) (by omega), ?_⟩ | refine ⟨le_int (by omega), ?_⟩ | refine ⟨le_eq (by simp), ?_⟩)) (ResW.refl _) id, by dsimp only; omega, by dsimp only; omega⟩
    · exact leafL (sub_cons sub_rfl) (leT_le (by rw [List.take_of_length_le (by omega)]; exact le_ro)) hK
  · obtain ⟨r1, r2, r3⟩ := rightI_iff.1 hr
    repeat' (first
      | simp only [WL, intF, strF, WM, Int.reduceToNat, ne_eq, reduceCtorEq, not_false_eq_true, Nat.reduceAdd, Nat.reduceSub, Nat.reduceLT, Nat.reduceLeDiff, Nat.reduceEqDiff, Bool.not_true, Bool.not_false, beq_self_eq_true, true_and, and_true, reduceIte, Bool.false_eq_true, T3, T4, T5, T21, T24, T30, cI in21, cok105, cok106, Try.results70, hr]
      | simp (disch := first | omega | (simp only [LN_]; omega)) only [wrap_id, getI, wrapi32]
      | with_reducible first | refine andA (hb := ?_) | refine y_load (hK := ?_) | refine cD (uIs ?_) | refine cD (uAppend ?_ ?_ (fun tkp => ?_))
      | with_reducible refine y_nil (hK := ?_)
      | (with_reducible refine nilTC_split (fun h => ?_) (fun h bn => ?_) <;> (try simp only [List.length_map] at h))
      | ((with_reducible first | refine grd_cases (fun h => ?_) (fun h => ?_) | refine condC_split (fun h => ?_) (fun h => ?_)) <;> (try simp only [h]) <;> (try simp only [NR_, Bool.not_true, Bool.not_false, Bool.not_eq_eq_eq_not, ne_eq] at h))
      | omega | (simp only [LN_]; omega) | (refine maxLen_ok ?_; (first | omega | (simp only [LN_]; omega))))
    · exact ⟨(k + 1, _), St_leW (by dsimp only; rw [encL_take (by omega)]; repeat (first | exact trivial | refine ⟨le_rfl, ?_⟩ | refine ⟨le_any, ?_⟩ | refine ⟨le_ro, ?_⟩ | refine ⟨le_nil (by decide), ?_⟩ | refine ⟨le_wrap (by omega) (by omega) (by omega), ?_⟩ | refine ⟨le_int (by omega), ?_⟩ | refine ⟨le_eq (by simp), ?_⟩)) (ResW.refl _) id, by dsimp only; omega, by dsimp only; omega⟩
    · exact leafL (sub_cons sub_rfl) (leT_le (by rw [List.take_of_length_le (by omega)]; exact le_ro)) hK
end Go.Proofs.Ytaeacialcbahnaa
/-
  Walks: chapter 11, anchors and tags.
-/



namespace Go.Proofs.Ytaeacialcbahnaa
open Go.Abs
set_option linter.unusedVariables false
set_option linter.unusedSimpArgs false
-- hb: 8000000
variable {κ : Ctx} {σ : List Res} {K : Ret → List Res → Prop} {o o' : Option (Option (Nat × Nat))}

-- props.text
set_option maxHeartbeats 8000000 in
theorem pText {l : List Int} (hl : l.length ≤ 1000000000) (hK : K (.ret (.raw (.string (textI l)))) σ) : ACallF κ Try.prog 44 [SI o l] σ K := by
  refine ACallF.dropL (ACallF_intro Try.func44 rfl ?_)
  simp only [Try.ntmps44]
  repeat' (first
    | simp only [WL, intF, strF, WM, Int.reduceToNat, ne_eq, reduceCtorEq, not_false_eq_true, Nat.reduceAdd, Nat.reduceSub, Nat.reduceLT, Nat.reduceLeDiff, Nat.reduceEqDiff, Bool.not_true, Bool.not_false, beq_self_eq_true, true_and, and_true, reduceIte, Bool.false_eq_true, convC_sl, convC_str, List.eraseIdx_cons_zero, List.eraseIdx_cons_succ, T3, T5, T9, T24, T30, cok70, Try.results44]
    | simp (disch := first | omega | (simp only [LN_]; omega)) only [wrap_id, getI]
    | with_reducible first | refine andA (hb := ?_) | refine y_bytes ?_ | refine cD (uBytes ?_ ?_)
    | ((with_reducible first | refine grd_cases (fun h => ?_) (fun h => ?_) | refine condC_split (fun h => ?_) (fun h => ?_)) <;> (try simp only [h]) <;> (try simp only [NR_, Bool.not_true, Bool.not_false, Bool.not_eq_eq_eq_not, ne_eq] at h))
    | omega | (simp only [LN_]; omega) | (refine maxLen_ok ?_; (first | omega | (simp only [LN_]; omega))))
  exact leafL sub_rfl (leT_eq rfl) hK

-- props.names
set_option maxHeartbeats 8000000 in
theorem pNames {l : List Int} (hl : l.length ≤ 1000000000) (hK : K (.ret (I (cnt nameI l))) σ) : ACallF κ Try.prog 47 [SI o l] σ K := by
  refine ACallF.dropL (ACallF_introA Try.func47 rfl ?_)
  simp only [Try.ntmps47]
  repeat' (first
    | with_reducible first | refine AW_seqA (AW_block ?_) | refine AW_block ?_ | refine cut_seqloop ?_ | refine cut_loop ?_ | refine AW_seqA (AW_seqA ?_) | refine AW_seq ?_ | refine AW_runReg ?_ | refine AW_runCond ?_ | refine AW_runExit ?_ | refine AW_runRet ?_ | refine AW_runSkip ?_ | refine AW_runLabel ?_
    | simp only [WL, intF, strF, WM, Int.reduceToNat, ne_eq, reduceCtorEq, not_false_eq_true, Nat.reduceAdd, Nat.reduceSub, Nat.reduceLT, Nat.reduceLeDiff, Nat.reduceEqDiff, Bool.not_true, Bool.not_false, beq_self_eq_true, true_and, and_true, reduceIte, Bool.false_eq_true, T3, T4, T24, cok84, Try.results47]
    | simp (disch := first | omega | (simp only [LN_]; omega)) only [wrap_id, getI]
    | with_reducible first | refine andA (hb := ?_) | refine y_load (hK := ?_) | refine cD (cName ?_)
    | with_reducible refine y_nil (hK := ?_)
    | (with_reducible refine nilTC_split (fun h => ?_) (fun h bn => ?_) <;> (try simp only [List.length_map] at h))
    | ((with_reducible first | refine grd_cases (fun h => ?_) (fun h => ?_) | refine condC_split (fun h => ?_) (fun h => ?_)) <;> (try simp only [h]) <;> (try simp only [NR_, Bool.not_true, Bool.not_false, Bool.not_eq_eq_eq_not, ne_eq] at h))
    | omega | (simp only [LN_]; omega))
  refine loopA (fun k : Nat => ⟨(SI o l :: .any :: .any :: I k :: .any :: .any :: .any :: .any :: .any :: .any :: .any :: .any :: .any :: .any :: .any :: .any :: .any :: .any :: []), σ, true, []⟩) (fun k => k ≤ cnt nameI l) (fun k => l.length - k) 0 (St_le_same (by repeat (first | exact trivial | refine ⟨le_rfl, ?_⟩ | refine ⟨le_any, ?_⟩ | refine ⟨le_ro, ?_⟩ | refine ⟨le_nil (by decide), ?_⟩ | refine ⟨le_wrap (by omega) (by omega) (by omega), ?_⟩ | refine ⟨le_int (by omega), ?_⟩ | refine ⟨le_eq (by simp), ?_⟩)) id) (Nat.zero_le _) ?_
  intro k hk
  have hcl := cnt_le nameI l
  repeat' (first
    | with_reducible first | refine AW_seqA (AW_block ?_) | refine AW_block ?_ | refine cut_seqloop ?_ | refine cut_loop ?_ | refine AW_seqA (AW_seqA ?_) | refine AW_seq ?_ | refine AW_runReg ?_ | refine AW_runCond ?_ | refine AW_runExit ?_ | refine AW_runRet ?_ | refine AW_runSkip ?_ | refine AW_runLabel ?_
    | simp only [WL, intF, strF, WM, Int.reduceToNat, ne_eq, reduceCtorEq, not_false_eq_true, Nat.reduceAdd, Nat.reduceSub, Nat.reduceLT, Nat.reduceLeDiff, Nat.reduceEqDiff, Bool.not_true, Bool.not_false, beq_self_eq_true, true_and, and_true, reduceIte, Bool.false_eq_true, T3, T4, T24, cok84, Try.results47]
    | simp (disch := first | omega | (simp only [LN_]; omega)) only [wrap_id, getI]
    | with_reducible first | refine andA (hb := ?_) | refine y_load (hK := ?_) | refine cD (cName ?_)
    | with_reducible refine y_nil (hK := ?_)
    | (with_reducible refine nilTC_split (fun h => ?_) (fun h bn => ?_) <;> (try simp only [List.length_map] at h))
    | ((with_reducible first | refine grd_cases (fun h => ?_) (fun h => ?_) | refine condC_split (fun h => ?_) (fun h => ?_)) <;> (try simp only [h]) <;> (try simp only [NR_, Bool.not_true, Bool.not_false, Bool.not_eq_eq_eq_not, ne_eq] at h))
    | omega | (simp only [LN_]; omega))
  all_goals first
    | exact ⟨k + 1, St_le_same (by repeat (first | exact trivial | refine ⟨le_rfl, ?_⟩ | refine ⟨le_any, ?_⟩ | refine ⟨le_ro, ?_⟩ | refine ⟨le_nil (by decide), ?_⟩ | refine ⟨le_wrap (by omega) (by omega) (by omega), ?_⟩ | refine ⟨le_int (by omega), ?_⟩ | refine ⟨le_eq (by simp), ?_⟩)) id, cnt_step hk (by omega) (by assumption), by omega⟩
    | exact leafL sub_rfl (leT_eq (by rw [← cnt_stop hk (by first | exact .inl (by omega) | exact .inr (by assumption))])) hK

-- props.words
set_option maxHeartbeats 8000000 in
theorem pWords {l : List Int} (hl : l.length ≤ 1000000000) (hK : K (.ret (I (cnt wordI l))) σ) : ACallF κ Try.prog 80 [SI o l] σ K := by
  refine ACallF.dropL (ACallF_introA Try.func80 rfl ?_)
  simp only [Try.ntmps80]
  repeat' (first
    | with_reducible first | refine AW_seqA (AW_block ?_) | refine AW_block ?_ | refine cut_seqloop ?_ | refine cut_loop ?_ | refine AW_seqA (AW_seqA ?_) | refine AW_seq ?_ | refine AW_runReg ?_ | refine AW_runCond ?_ | refine AW_runExit ?_ | refine AW_runRet ?_ | refine AW_runSkip ?_ | refine AW_runLabel ?_
    | simp only [WL, intF, strF, WM, Int.reduceToNat, ne_eq, reduceCtorEq, not_false_eq_true, Nat.reduceAdd, Nat.reduceSub, Nat.reduceLT, Nat.reduceLeDiff, Nat.reduceEqDiff, Bool.not_true, Bool.not_false, beq_self_eq_true, true_and, and_true, reduceIte, Bool.false_eq_true, T3, T4, T24, cok95, Try.results80]
    | simp (disch := first | omega | (simp only [LN_]; omega)) only [wrap_id, getI]
    | with_reducible first | refine andA (hb := ?_) | refine y_load (hK := ?_) | refine cD (cWord ?_)
    | with_reducible refine y_nil (hK := ?_)
    | (with_reducible refine nilTC_split (fun h => ?_) (fun h bn => ?_) <;> (try simp only [List.length_map] at h))
    | ((with_reducible first | refine grd_cases (fun h => ?_) (fun h => ?_) | refine condC_split (fun h => ?_) (fun h => ?_)) <;> (try simp only [h]) <;> (try simp only [NR_, Bool.not_true, Bool.not_false, Bool.not_eq_eq_eq_not, ne_eq] at h))
    | omega | (simp only [LN_]; omega))
  refine loopA (fun k : Nat => ⟨(SI o l :: .any :: .any :: I k :: .any :: .any :: .any :: .any :: .any :: .any :: .any :: .any :: .any :: .any :: .any :: .any :: .any :: .any :: []), σ, true, []⟩) (fun k => k ≤ cnt wordI l) (fun k => l.length - k) 0 (St_le_same (by repeat (first | exact trivial | refine ⟨le_rfl, ?_⟩ | refine ⟨le_any, ?_⟩ | refine ⟨le_ro, ?_⟩ | refine ⟨le_nil (by decide), ?_⟩ | refine ⟨le_wrap (by omega) (by omega) (by omega), ?_⟩ | refine ⟨le_int (by omega), ?_⟩ | refine ⟨le_eq (by simp), ?_⟩)) id) (Nat.zero_le _) ?_
  intro k hk
  have hcl := cnt_le wordI l
  repeat' (first
    | with_reducible first | refine AW_seqA (AW_block ?_) | refine AW_block ?_ | refine cut_seqloop ?_ | refine cut_loop ?_ | refine AW_seqA (AW_seqA ?_) | refine AW_seq ?_ | refine AW_runReg ?_ | refine AW_runCond ?_ | refine AW_runExit ?_ | refine AW_runRet ?_ | refine AW_runSkip ?_ | refine AW_runLabel ?_
    | simp only [WL, intF, strF, WM, Int.reduceToNat, ne_eq, reduceCtorEq, not_false_eq_true, Nat.reduceAdd, Nat.reduceSub, Nat.reduceLT, Nat.reduceLeDiff, Nat.reduceEqDiff, Bool.not_true, Bool.not_false, beq_self_eq_true, true_and, and_true, reduceIte, Bool.false_eq_true, T3, T4, T24, cok95, Try.results80]
    | simp (disch := first | omega | (simp only [LN_]; omega)) only [wrap_id, getI]
    | with_reducible first | refine andA (hb := ?_) | refine y_load (hK := ?_) | refine cD (cWord ?_)
    | with_reducible refine y_nil (hK := ?_)
    | (with_reducible refine nilTC_split (fun h => ?_) (fun h bn => ?_) <;> (try simp only [List.length_map] at h))
    | ((with_reducible first | refine grd_cases (fun h => ?_) (fun h => ?_) | refine condC_split (fun h => ?_) (fun h => ?_)) <;> (try simp only [h]) <;> (try simp only [NR_, Bool.not_true, Bool.not_false, Bool.not_eq_eq_eq_not, ne_eq] at h))
    | omega | (simp only [LN_]; omega))
  all_goals first
    | exact ⟨k + 1, St_le_same (by repeat (first | exact trivial | refine ⟨le_rfl, ?_⟩ | refine ⟨le_any, ?_⟩ | refine ⟨le_ro, ?_⟩ | refine ⟨le_nil (by decide), ?_⟩ | refine ⟨le_wrap (by omega) (by omega) (by omega), ?_⟩ | refine ⟨le_int (by omega), ?_⟩ | refine ⟨le_eq (by simp), ?_⟩)) id, cnt_step hk (by omega) (by assumption), by omega⟩
    | exact leafL sub_rfl (leT_eq (by rw [← cnt_stop hk (by first | exact .inl (by omega) | exact .inr (by assumption))])) hK

-- props.is
set_option maxHeartbeats 8000000 in
theorem pIs {l : List Int} {i : Nat} {c : Int} (hl : l.length ≤ 1000000000) (hi : i ≤ 2000000000) (hK : K (.ret (B (atI l i c))) σ) : ACallF κ Try.prog 39 [SI o l, I i, I c] σ K := by
  refine ACallF.dropL (ACallF_intro Try.func39 rfl ?_)
  simp only [Try.ntmps39]
  repeat' (first
    | simp only [WL, intF, strF, WM, Int.reduceToNat, ne_eq, reduceCtorEq, not_false_eq_true, Nat.reduceAdd, Nat.reduceSub, Nat.reduceLT, Nat.reduceLeDiff, Nat.reduceEqDiff, Bool.not_true, Bool.not_false, beq_self_eq_true, true_and, and_true, reduceIte, Bool.false_eq_true, T3, T4, T24, Try.results39]
    | simp (disch := first | omega | (simp only [LN_]; omega)) only [wrap_id, getI]
    | with_reducible first | refine andA (hb := ?_) | refine y_load (hK := ?_)
    | with_reducible refine y_nil (hK := ?_)
    | (with_reducible refine nilTC_split (fun h => ?_) (fun h bn => ?_) <;> (try simp only [List.length_map] at h))
    | ((with_reducible first | refine grd_cases (fun h => ?_) (fun h => ?_) | refine condC_split (fun h => ?_) (fun h => ?_)) <;> (try simp only [h]) <;> (try simp only [NR_, Bool.not_true, Bool.not_false, Bool.not_eq_eq_eq_not, ne_eq] at h))
    | omega | (simp only [LN_]; omega))
  all_goals exact leafL sub_rfl (leT_eq (congrArg B (by rw [Bool.eq_iff_iff]; simp [atI]; omega))) hK

-- props.handle
set_option maxHeartbeats 8000000 in
theorem pHandle {l : List Int} (hl : l.length ≤ 1000000000) (h0 : 0 < l.length) (hK : K (.ret (I (handleN l))) σ) : ACallF κ Try.prog 41 [SI o l] σ K := by
  have hcl := cnt_le wordI (l.drop 1)
  rw [List.length_drop] at hcl
  refine ACallF.dropL (ACallF_intro Try.func41 rfl ?_)
  simp only [Try.ntmps41]
  repeat' (first
    | simp only [WL, intF, strF, WM, Int.reduceToNat, ne_eq, reduceCtorEq, not_false_eq_true, Nat.reduceAdd, Nat.reduceSub, Nat.reduceLT, Nat.reduceLeDiff, Nat.reduceEqDiff, Bool.not_true, Bool.not_false, beq_self_eq_true, true_and, and_true, reduceIte, Bool.false_eq_true, T3, T4, T24, cok39, cok80, Try.results41]
    | simp (disch := first | omega | (simp only [LN_]; omega)) only [wrap_id, getI]
    | with_reducible first | refine andA (hb := ?_) | refine cD (pIs ?_ ?_ ?_) | refine cD (pWords ?_ ?_)
    | with_reducible refine y_nil (hK := ?_)
    | (with_reducible refine nilTC_split (fun h => ?_) (fun h bn => ?_) <;> (try simp only [List.length_map] at h))
    | ((with_reducible first | refine grd_cases (fun h => ?_) (fun h => ?_) | refine condC_split (fun h => ?_) (fun h => ?_)) <;> (try simp only [h]) <;> (try simp only [NR_, Bool.not_true, Bool.not_false, Bool.not_eq_eq_eq_not, ne_eq] at h))
    | omega | (simp only [LN_]; omega))
  all_goals exact leafL sub_rfl (leT_eq (congrArg I (by simp only [handleN, h]; simp))) hK

-- props.Anchor
-- (no function props.Anchor in this program)
-- marginaliaref1.Anchor
-- (no function marginaliaref1.Anchor in this program)
-- props.short
set_option maxHeartbeats 8000000 in
theorem pShort {c : Int} (hK : K (.ret (B (shortC c))) σ) : ACallF κ Try.prog 43 [I c] σ K := by
  refine ACallF.dropL (ACallF_intro Try.func43 rfl ?_)
  simp only [Try.ntmps43]
  repeat' (first
    | simp only [WL, intF, strF, WM, Int.reduceToNat, ne_eq, reduceCtorEq, not_false_eq_true, Nat.reduceAdd, Nat.reduceSub, Nat.reduceLT, Nat.reduceLeDiff, Nat.reduceEqDiff, Bool.not_true, Bool.not_false, beq_self_eq_true, true_and, and_true, reduceIte, Bool.false_eq_true, T3, T4, cok82, Try.results43]
    | simp (disch := first | omega | (simp only [LN_]; omega)) only [wrap_id, getI]
    | with_reducible first | refine andA (hb := ?_) | refine cD (cFlow ?_)
    | with_reducible refine y_nil (hK := ?_)
    | (with_reducible refine nilTC_split (fun h => ?_) (fun h bn => ?_) <;> (try simp only [List.length_map] at h))
    | ((with_reducible first | refine grd_cases (fun h => ?_) (fun h => ?_) | refine condC_split (fun h => ?_) (fun h => ?_)) <;> (try simp only [h]) <;> (try simp only [NR_, Bool.not_true, Bool.not_false, Bool.not_eq_eq_eq_not, ne_eq] at h))
    | omega | (simp only [LN_]; omega))
  all_goals exact leafL sub_rfl (leT_eq (congrArg B (by simp [shortC, *]))) hK
-- props.all
set_option maxHeartbeats 8000000 in
theorem pAll {c : Int} (hK : K (.ret (B (anyC c))) σ) : ACallF κ Try.prog 46 [I c] σ K := by
  refine ACallF.dropL (ACallF_intro Try.func46 rfl ?_)
  simp only [Try.ntmps46]
  repeat' (first
    | simp only [WL, intF, strF, WM, Int.reduceToNat, ne_eq, reduceCtorEq, not_false_eq_true, Nat.reduceAdd, Nat.reduceSub, Nat.reduceLT, Nat.reduceLeDiff, Nat.reduceEqDiff, Bool.not_true, Bool.not_false, beq_self_eq_true, true_and, and_true, reduceIte, Bool.false_eq_true, T4, Try.results46]
    | simp (disch := first | omega | (simp only [LN_]; omega)) only [wrap_id, getI]
    | with_reducible first | refine andA (hb := ?_)
    | ((with_reducible first | refine grd_cases (fun h => ?_) (fun h => ?_) | refine condC_split (fun h => ?_) (fun h => ?_)) <;> (try simp only [h]) <;> (try simp only [NR_, Bool.not_true, Bool.not_false, Bool.not_eq_eq_eq_not, ne_eq] at h))
    | omega | (simp only [LN_]; omega))
  exact leafL sub_rfl (leT_eq rfl) hK
end Go.Proofs.Ytaeacialcbahnaa
/-
  Walks: chapter 11, tags.
-/

namespace Go.Proofs.Ytaeacialcbahnaa
open Go.Abs
set_option linter.unusedVariables false
set_option linter.unusedSimpArgs false
-- hb: 8000000
variable {κ : Ctx} {σ : List Res} {K : Ret → List Res → Prop} {o o' : Option (Option (Nat × Nat))}

set_option maxHeartbeats 8000000 in
theorem lit_uri : bytesI ({ data := #[35, 59, 47, 63, 58, 64, 38, 61, 43, 36, 44, 95, 46, 33, 126, 42, 39, 40, 41, 91, 93] } : ByteArray) = uriL := by decide +kernel
set_option maxHeartbeats 8000000 in
theorem uriL_byte {k : Nat} (h : k < uriL.length) : 0 ≤ uriL.getD k 0 ∧ uriL.getD k 0 ≤ 255 := by
  have : ∀ c ∈ uriL, 0 ≤ c ∧ c ≤ 255 := by decide
  rw [List.getD_eq_getElem?_getD, List.getElem?_eq_getElem h]
  exact this _ (List.getElem_mem h)
set_option maxHeartbeats 8000000 in
theorem uriC_yes {c : Int} {k : Nat} (h : k < uriL.length) (hc : c = uriL.getD k 0) : uriC c = true := by
  unfold uriC
  rw [decide_eq_true_eq, hc, List.getD_eq_getElem?_getD, List.getElem?_eq_getElem h]
  exact List.getElem_mem h
set_option maxHeartbeats 8000000 in
theorem uriC_no {c : Int} (h : ∀ j, j < uriL.length → ¬ c = uriL.getD j 0) : uriC c = false := by
  unfold uriC
  rw [decide_eq_false_iff_not]
  intro hm
  obtain ⟨j, hj, e⟩ := List.getElem_of_mem hm
  exact h j hj (by rw [List.getD_eq_getElem?_getD, List.getElem?_eq_getElem hj]; exact e.symm)

set_option maxHeartbeats 8000000 in
theorem lit_uri_size : ({ data := #[35, 59, 47, 63, 58, 64, 38, 61, 43, 36, 44, 95, 46, 33, 126, 42, 39, 40, 41, 91, 93] } : ByteArray).size = 21 := by decide +kernel

-- marginaliaref1.uri
set_option maxHeartbeats 8000000 in
theorem rUri {l : List Int} {i : Nat} (hl : l.length ≤ 1000000000) (hK : K (.ret (I (signN (l.drop i)))) σ) : ACallF κ Try.prog 37 [SI o l, I i] σ K := by
  by_cases hi : i < l.length
  · skip
    refine ACallF.dropL (ACallF_intro Try.func37 rfl ?_)
    simp only [Try.ntmps37]
    repeat' (first
      | simp only [WL, intF, strF, WM, Int.reduceToNat, ne_eq, reduceCtorEq, not_false_eq_true, Nat.reduceAdd, Nat.reduceSub, Nat.reduceLT, Nat.reduceLeDiff, Nat.reduceEqDiff, Bool.not_true, Bool.not_false, beq_self_eq_true, true_and, and_true, reduceIte, Bool.false_eq_true, T3, T4, T9, T24, cok16, cok77, cok78, Try.results37, lit_uri, lit_uri_size, tn1, tn2]
      | simp (disch := first | omega | (simp only [LN_]; omega)) only [wrap_id, getI]
      | with_reducible first | refine andA (hb := ?_) | refine y_load (hK := ?_) | refine cD (rWord ?_) | refine cD (ramong ?_ ?_) | refine cD (rHex ?_)
      | with_reducible refine y_nil (hK := ?_)
      | (with_reducible refine nilTC_split (fun h => ?_) (fun h bn => ?_) <;> (try simp only [List.length_map] at h))
      | ((with_reducible first | refine grd_cases (fun h => ?_) (fun h => ?_) | refine condC_split (fun h => ?_) (fun h => ?_)) <;> (try simp only [h]) <;> (try simp only [NR_, Bool.not_true, Bool.not_false, Bool.not_eq_eq_eq_not, ne_eq] at h))
      | omega | (simp only [LN_]; omega))
    all_goals refine leafL sub_rfl (leT_eq (congrArg I ?_)) hK
    all_goals first
      | (rw [sign_w hi (by assumption)]; rfl)
      | (rw [sign_u hi (uriC_iff.2 (by assumption))]; rfl)
      | (rw [sign_p (by omega) (by assumption) (by assumption) (by assumption)]; rfl)
      | (rw [sign_pn hi (by assumption) (by first | exact .inl (by omega) | exact .inr (.inl (by assumption)) | exact .inr (.inr (by assumption)))]; rfl)
      | (rw [sign_n hi (by assumption) (by assumption) (by rw [← Bool.not_eq_true, uriC_iff]; assumption)]; rfl)
  · skip
    refine ACallF.dropL (ACallF_intro Try.func37 rfl ?_)
    simp only [Try.ntmps37]
    repeat' (first
      | simp only [WL, intF, strF, WM, Int.reduceToNat, ne_eq, reduceCtorEq, not_false_eq_true, Nat.reduceAdd, Nat.reduceSub, Nat.reduceLT, Nat.reduceLeDiff, Nat.reduceEqDiff, Bool.not_true, Bool.not_false, beq_self_eq_true, true_and, and_true, reduceIte, Bool.false_eq_true, T3, T4, T9, T24, cok16, cok77, cok78, Try.results37]
      | simp (disch := first | omega | (simp only [LN_]; omega)) only [wrap_id, getI]
      | with_reducible first | refine andA (hb := ?_) | refine y_load (hK := ?_) | refine cD (rWord ?_) | refine cD (ramong ?_ ?_) | refine cD (rHex ?_)
      | with_reducible refine y_nil (hK := ?_)
      | (with_reducible refine nilTC_split (fun h => ?_) (fun h bn => ?_) <;> (try simp only [List.length_map] at h))
      | ((with_reducible first | refine grd_cases (fun h => ?_) (fun h => ?_) | refine condC_split (fun h => ?_) (fun h => ?_)) <;> (try simp only [h]) <;> (try simp only [NR_, Bool.not_true, Bool.not_false, Bool.not_eq_eq_eq_not, ne_eq] at h))
      | omega | (simp only [LN_]; omega))
    exact leafL sub_rfl (leT_eq (by rw [sign_e (by omega)]; rfl)) hK

-- props.sign
set_option maxHeartbeats 8000000 in
theorem pSign {l : List Int} (hl : l.length ≤ 1000000000) (hK : K (.ret (I (signN l))) σ) : ACallF κ Try.prog 110 [SI o l] σ K := by
  have e0 : signN l = signN (l.drop 0) := rfl
  refine ACallF.dropL (ACallF_introA Try.func110 rfl ?_)
  simp only [Try.ntmps110]
  repeat' (first
    | with_reducible first | refine AW_seqA (AW_block ?_) | refine AW_block ?_ | refine cut_seqloop ?_ | refine cut_loop ?_ | refine AW_seqA (AW_seqA ?_) | refine AW_seq ?_ | refine AW_runReg ?_ | refine AW_runCond ?_ | refine AW_runExit ?_ | refine AW_runRet ?_ | refine AW_runSkip ?_ | refine AW_runLabel ?_
    | simp only [WL, intF, strF, WM, Int.reduceToNat, ne_eq, reduceCtorEq, not_false_eq_true, Nat.reduceAdd, Nat.reduceSub, Nat.reduceLT, Nat.reduceLeDiff, Nat.reduceEqDiff, Bool.not_true, Bool.not_false, beq_self_eq_true, true_and, and_true, reduceIte, Bool.false_eq_true, convC_sl, convC_str, List.eraseIdx_cons_zero, List.eraseIdx_cons_succ, T3, T4, T5, T24, T30, cI in3, cok95, cok118, Try.results110]
    | simp (disch := first | omega | (simp only [LN_]; omega)) only [wrap_id, getI]
    | with_reducible first | refine andA (hb := ?_) | refine y_load (hK := ?_) | refine y_bso (ty := 30) (hK := fun tb => ?_) | refine y_mark (hK := ?_) | refine cD (cWord ?_) | refine cD (cHex ?_)
    | with_reducible refine y_nil (hK := ?_)
    | (with_reducible refine nilTC_split (fun h => ?_) (fun h bn => ?_) <;> (try simp only [List.length_map] at h))
    | ((with_reducible first | refine grd_cases (fun h => ?_) (fun h => ?_) | refine condC_split (fun h => ?_) (fun h => ?_)) <;> (try simp only [h]) <;> (try simp only [NR_, Bool.not_true, Bool.not_false, Bool.not_eq_eq_eq_not, ne_eq] at h))
    | omega | (simp only [LN_]; omega) | (refine maxLen_ok ?_; (first | omega | (simp only [LN_]; omega))))
  · exact leafL sub_rfl (leT_eq (by rw [e0, sign_e (by omega)]; rfl)) hK
  · exact leafL sub_rfl (leT_eq (by rw [e0, sign_p (by omega) (by assumption) (by assumption) (by assumption)]; rfl)) hK
  · exact leafL sub_rfl (leT_eq (by rw [e0, sign_pn (by omega) (by assumption) (.inr (.inr (by assumption)))]; rfl)) hK
  · exact leafL sub_rfl (leT_eq (by rw [e0, sign_pn (by omega) (by assumption) (.inr (.inl (by assumption)))]; rfl)) hK
  · exact leafL sub_rfl (leT_eq (by rw [e0, sign_pn (by omega) (by assumption) (.inl (by omega))]; rfl)) hK
  · exact leafL sub_rfl (leT_eq (by rw [e0, sign_w (by omega) (by assumption)]; rfl)) hK
  have h21 : uriL.length = 21 := rfl
  refine loopA (fun k : Nat => ⟨(SI o l :: .any :: .any :: .any :: .any :: .any :: .any :: .any :: .any :: .any :: .any :: .any :: .any :: .any :: .any :: .any :: .any :: .any :: .any :: .any :: .any :: .any :: .any :: .any :: .any :: .any :: .any :: .any :: .any :: .any :: .any :: .any :: .any :: .any :: SU none uriL :: I 21 :: I k :: .any :: .any :: .any :: .any :: .any :: .any :: .any :: .any :: .any :: .any :: []), σ, true, []⟩) (fun k => k ≤ 21 ∧ ∀ j, j < k → ¬ l.getD 0 0 = uriL.getD j 0) (fun k => 21 - k) 0 (St_le_same (by repeat (first | exact trivial | refine ⟨le_rfl, ?_⟩ | refine ⟨le_any, ?_⟩ | refine ⟨le_ro, ?_⟩ | refine ⟨le_nil (by decide), ?_⟩ | refine ⟨le_wrap (by omega) (by omega) (by omega), ?_⟩ | refine ⟨le_int (by omega), ?_⟩ | refine ⟨le_eq (by simp), ?_⟩)) id) ⟨Nat.zero_le _, fun j h => by omega⟩ ?_
  rintro k ⟨hk, hn⟩
  have hb := fun h => uriL_byte (k := k) h
  repeat' (first
    | with_reducible first | refine AW_seqA (AW_block ?_) | refine AW_block ?_ | refine cut_seqloop ?_ | refine cut_loop ?_ | refine AW_seqA (AW_seqA ?_) | refine AW_seq ?_ | refine AW_runReg ?_ | refine AW_runCond ?_ | refine AW_runExit ?_ | refine AW_runRet ?_ | refine AW_runSkip ?_ | refine AW_runLabel ?_
    | simp only [WL, intF, strF, WM, Int.reduceToNat, ne_eq, reduceCtorEq, not_false_eq_true, Nat.reduceAdd, Nat.reduceSub, Nat.reduceLT, Nat.reduceLeDiff, Nat.reduceEqDiff, Bool.not_true, Bool.not_false, beq_self_eq_true, true_and, and_true, reduceIte, Bool.false_eq_true, convC_sl, convC_str, List.eraseIdx_cons_zero, List.eraseIdx_cons_succ, T3, T4, T5, T24, T30, cI in3, cok95, cok118, Try.results110]
    | simp (disch := first | omega | (simp only [LN_]; omega)) only [wrap_id, getI, getU]
    | with_reducible first | refine andA (hb := ?_) | refine y_load (hK := ?_) | refine y_bs0 ?_ | refine y_bs (hK := ?_) | refine y_mark (hK := ?_) | refine cD (cWord ?_) | refine cD (cHex ?_)
    | with_reducible refine y_nil (hK := ?_)
    | (with_reducible refine nilTC_split (fun h => ?_) (fun h bn => ?_) <;> (try simp only [List.length_map] at h))
    | ((with_reducible first | refine grd_cases (fun h => ?_) (fun h => ?_) | refine condC_split (fun h => ?_) (fun h => ?_)) <;> (try simp only [h]) <;> (try simp only [NR_, Bool.not_true, Bool.not_false, Bool.not_eq_eq_eq_not, ne_eq] at h))
    | omega | (simp only [LN_]; omega) | (refine maxLen_ok ?_; (first | omega | (simp only [LN_]; omega))))
  · exact leafL sub_rfl (leT_eq (by rw [e0, sign_u (by omega) (uriC_yes (k := k) (by omega) (by assumption))]; rfl)) hK
  · exact ⟨k + 1, St_le_same (by repeat (first | exact trivial | refine ⟨le_rfl, ?_⟩ | refine ⟨le_any, ?_⟩ | refine ⟨le_ro, ?_⟩ | refine ⟨le_nil (by decide), ?_⟩ | refine ⟨le_wrap (by omega) (by omega) (by omega), ?_⟩ | refine ⟨le_int (by omega), ?_⟩ | refine ⟨le_eq (by simp), ?_⟩)) id, ⟨by omega, fun j hj => by
      rcases Nat.lt_or_ge j k with h' | h'
      · exact hn j h'
      · obtain rfl : j = k := by omega
        assumption⟩, by omega⟩
  · exact leafL sub_rfl (leT_eq (by rw [e0, sign_n (by omega) (by assumption) (by assumption) (uriC_no (fun j hj => hn j (by omega)))]; rfl)) hK

-- props.each
set_option maxHeartbeats 8000000 in
theorem pEach {l : List Int} (hK : ∀ b, K (.ret (.raw (.func (.func 109) #[] #[.pointer (some ⟨b, 0, none⟩)]))) (.obj b [SI o l] :: σ)) : ACallF κ Try.prog 81 [SI o l] σ K := by
  refine ACallF.dropL (ACallF_intro Try.func81 rfl ?_)
  simp only [Try.ntmps81]
  repeat' (first
    | simp only [WL, intF, strF, WM, Int.reduceToNat, ne_eq, reduceCtorEq, not_false_eq_true, Nat.reduceAdd, Nat.reduceSub, Nat.reduceLT, Nat.reduceLeDiff, Nat.reduceEqDiff, Bool.not_true, Bool.not_false, beq_self_eq_true, true_and, and_true, reduceIte, Bool.false_eq_true, T3, T24, T103, cok109, Try.results81]
    | simp (disch := first | omega | (simp only [LN_]; omega)) only [wrap_id, getI]
    | with_reducible first | refine andA (hb := ?_) | refine y_box (hK := fun b => ?_) | refine y_new (hK := fun b => ?_)
    | ((with_reducible first | refine grd_cases (fun h => ?_) (fun h => ?_) | refine condC_split (fun h => ?_) (fun h => ?_)) <;> (try simp only [h]) <;> (try simp only [NR_, Bool.not_true, Bool.not_false, Bool.not_eq_eq_eq_not, ne_eq] at h))
    | omega | (simp only [LN_]; omega))
  exact leafL sub_rfl (leT_eq rfl) (hK _)

abbrev signsA (l : List Int) (i : Nat) : List (List AV) := (signsAt l i).map fun p => [I p.1, I p.2]
-- props.each$1
set_option maxHeartbeats 8000000 in
theorem pEachIt {b L : Nat} {l : List Int} (hl : l.length ≤ 1000000000) (hI : Iter κ Try.prog L K (signsA l 0) σ) :
    ACallF κ Try.prog 109 [.raw (.func (.yield L) #[] #[]), .raw (.pointer (some ⟨b, 0, none⟩))] (.obj b [SI o l] :: σ) K := by
  refine ACallF.dropL (ACallF_intro Try.func109 rfl ?_)
  simp only [Try.ntmps109]
  repeat' (first
    | simp only [WL, intF, strF, WM, Int.reduceToNat, ne_eq, reduceCtorEq, not_false_eq_true, Nat.reduceAdd, Nat.reduceSub, Nat.reduceLT, Nat.reduceLeDiff, Nat.reduceEqDiff, Bool.not_true, Bool.not_false, beq_self_eq_true, true_and, and_true, reduceIte, Bool.false_eq_true, T3, T4, T24, T114, cok110, Try.results109]
    | simp (disch := first | omega | (simp only [LN_]; omega)) only [wrap_id, getI]
    | with_reducible first | refine andA (hb := ?_) | refine y_load (hK := ?_) | refine cD (pSign ?_ ?_)
    | with_reducible refine y_nil (hK := ?_)
    | (with_reducible refine nilTC_split (fun h => ?_) (fun h bn => ?_) <;> (try simp only [List.length_map] at h))
    | ((with_reducible first | refine grd_cases (fun h => ?_) (fun h => ?_) | refine condC_split (fun h => ?_) (fun h => ?_)) <;> (try simp only [h]) <;> (try simp only [NR_, Bool.not_true, Bool.not_false, Bool.not_eq_eq_eq_not, ne_eq] at h))
    | omega | (simp only [LN_]; omega))
  refine loop_by (fun x : Nat × List Res => ⟨(.raw (.func (.yield L) #[] #[]) :: .raw (.pointer (some ⟨b, 0, none⟩)) :: .any :: I x.1 :: .any :: .any :: .any :: .any :: .any :: .any :: .any :: .any :: .any :: .any :: .any :: .any :: .any :: .any :: .any :: .any :: .any :: .any :: .any :: []), .obj b [SI o l] :: x.2, true, []⟩) (fun x => x.1 ≤ l.length ∧ Iter κ Try.prog L K (signsA l x.1) x.2) (fun x => l.length - x.1) (0, σ) (St_le_same (by repeat (first | exact trivial | refine ⟨le_rfl, ?_⟩ | refine ⟨le_any, ?_⟩ | refine ⟨le_ro, ?_⟩ | refine ⟨le_nil (by decide), ?_⟩ | refine ⟨le_wrap (by omega) (by omega) (by omega), ?_⟩ | refine ⟨le_int (by omega), ?_⟩ | refine ⟨le_eq (by simp), ?_⟩)) id) ⟨Nat.zero_le _, hI⟩ ?_
  rintro ⟨k, σ'⟩ hx
  dsimp only at hx ⊢
  have h1 := hx.1
  have h2 := hx.2
  have hsn := signN_drop_le (l := l) (i := k)
  by_cases hz : signN (l.drop k) = 0
  · rw [signsA, signsAt_no hz] at h2
    repeat' (first
      | simp only [WL, intF, strF, WM, Int.reduceToNat, ne_eq, reduceCtorEq, not_false_eq_true, Nat.reduceAdd, Nat.reduceSub, Nat.reduceLT, Nat.reduceLeDiff, Nat.reduceEqDiff, Bool.not_true, Bool.not_false, beq_self_eq_true, true_and, and_true, reduceIte, Bool.false_eq_true, T3, T4, T24, T114, cok110, Try.results109, hz]
      | simp (disch := first | omega | (simp only [LN_]; omega)) only [wrap_id, getI]
      | with_reducible first | refine andA (hb := ?_) | refine y_load (hK := ?_) | refine cD (pSign ?_ ?_)
      | with_reducible refine y_nil (hK := ?_)
      | (with_reducible refine nilTC_split (fun h => ?_) (fun h bn => ?_) <;> (try simp only [List.length_map] at h))
      | ((with_reducible first | refine grd_cases (fun h => ?_) (fun h => ?_) | refine condC_split (fun h => ?_) (fun h => ?_)) <;> (try simp only [h]) <;> (try simp only [NR_, Bool.not_true, Bool.not_false, Bool.not_eq_eq_eq_not, ne_eq] at h))
      | omega | (simp only [LN_]; omega))
    exact leafL (sub_cons sub_rfl) (leT_eq rfl) h2
  · rw [signsA, signsAt_yes hz, List.map_cons] at h2
    repeat' (first
      | simp only [WL, intF, strF, WM, Int.reduceToNat, ne_eq, reduceCtorEq, not_false_eq_true, Nat.reduceAdd, Nat.reduceSub, Nat.reduceLT, Nat.reduceLeDiff, Nat.reduceEqDiff, Bool.not_true, Bool.not_false, beq_self_eq_true, true_and, and_true, reduceIte, Bool.false_eq_true, T3, T4, T24, T114, cok110, Try.results109]
      | simp (disch := first | omega | (simp only [LN_]; omega)) only [wrap_id, getI]
      | with_reducible first | refine andA (hb := ?_) | refine y_load (hK := ?_) | refine cD (pSign ?_ ?_)
      | with_reducible refine y_nil (hK := ?_)
      | (with_reducible refine nilTC_split (fun h => ?_) (fun h bn => ?_) <;> (try simp only [List.length_map] at h))
      | ((with_reducible first | refine grd_cases (fun h => ?_) (fun h => ?_) | refine condC_split (fun h => ?_) (fun h => ?_)) <;> (try simp only [h]) <;> (try simp only [NR_, Bool.not_true, Bool.not_false, Bool.not_eq_eq_eq_not, ne_eq] at h))
      | omega | (simp only [LN_]; omega))
    refine callYD_iter [.obj b [SI o l]] (leL_two le_rfl (le_int (by simp))) h2 (fun σ3 h => ?_) (fun σ3 h => ?_) (fun c σ3 h => ?_)
    · skip
      repeat' (first
        | simp only [WL, intF, strF, WM, Int.reduceToNat, ne_eq, reduceCtorEq, not_false_eq_true, Nat.reduceAdd, Nat.reduceSub, Nat.reduceLT, Nat.reduceLeDiff, Nat.reduceEqDiff, Bool.not_true, Bool.not_false, beq_self_eq_true, true_and, and_true, reduceIte, Bool.false_eq_true, T3, T4, T24, T114, cok110, Try.results109]
        | simp (disch := first | omega | (simp only [LN_]; omega)) only [wrap_id, getI]
        | with_reducible first | refine andA (hb := ?_) | refine y_load (hK := ?_) | refine cD (pSign ?_ ?_)
        | with_reducible refine y_nil (hK := ?_)
        | (with_reducible refine nilTC_split (fun h => ?_) (fun h bn => ?_) <;> (try simp only [List.length_map] at h))
        | ((with_reducible first | refine grd_cases (fun h => ?_) (fun h => ?_) | refine condC_split (fun h => ?_) (fun h => ?_)) <;> (try simp only [h]) <;> (try simp only [NR_, Bool.not_true, Bool.not_false, Bool.not_eq_eq_eq_not, ne_eq] at h))
        | omega | (simp only [LN_]; omega))
      exact ⟨(k + signN (l.drop k), σ3), St_le_same (by repeat (first | exact trivial | refine ⟨le_rfl, ?_⟩ | refine ⟨le_any, ?_⟩ | refine ⟨le_ro, ?_⟩ | refine ⟨le_nil (by decide), ?_⟩ | refine ⟨le_wrap (by omega) (by omega) (by omega), ?_⟩ | refine ⟨le_int (by omega), ?_⟩ | refine ⟨le_eq (by simp), ?_⟩)) id, ⟨by dsimp only; omega, h⟩, by dsimp only; omega⟩
    · skip
      repeat' (first
        | simp only [WL, intF, strF, WM, Int.reduceToNat, ne_eq, reduceCtorEq, not_false_eq_true, Nat.reduceAdd, Nat.reduceSub, Nat.reduceLT, Nat.reduceLeDiff, Nat.reduceEqDiff, Bool.not_true, Bool.not_false, beq_self_eq_true, true_and, and_true, reduceIte, Bool.false_eq_true, T3, T4, T24, T114, cok110, Try.results109]
        | simp (disch := first | omega | (simp only [LN_]; omega)) only [wrap_id, getI]
        | with_reducible first | refine andA (hb := ?_) | refine y_load (hK := ?_) | refine cD (pSign ?_ ?_)
        | with_reducible refine y_nil (hK := ?_)
        | (with_reducible refine nilTC_split (fun h => ?_) (fun h bn => ?_) <;> (try simp only [List.length_map] at h))
        | ((with_reducible first | refine grd_cases (fun h => ?_) (fun h => ?_) | refine condC_split (fun h => ?_) (fun h => ?_)) <;> (try simp only [h]) <;> (try simp only [NR_, Bool.not_true, Bool.not_false, Bool.not_eq_eq_eq_not, ne_eq] at h))
        | omega | (simp only [LN_]; omega))
      exact leafL (sub_cons sub_rfl) (leT_eq rfl) h
    · skip
      repeat' (first
        | simp only [WL, intF, strF, WM, Int.reduceToNat, ne_eq, reduceCtorEq, not_false_eq_true, Nat.reduceAdd, Nat.reduceSub, Nat.reduceLT, Nat.reduceLeDiff, Nat.reduceEqDiff, Bool.not_true, Bool.not_false, beq_self_eq_true, true_and, and_true, reduceIte, Bool.false_eq_true, T3, T4, T24, T114, cok110, Try.results109]
        | simp (disch := first | omega | (simp only [LN_]; omega)) only [wrap_id, getI]
        | with_reducible first | refine andA (hb := ?_) | refine y_load (hK := ?_) | refine cD (pSign ?_ ?_)
        | with_reducible refine y_nil (hK := ?_)
        | (with_reducible refine nilTC_split (fun h => ?_) (fun h bn => ?_) <;> (try simp only [List.length_map] at h))
        | ((with_reducible first | refine grd_cases (fun h => ?_) (fun h => ?_) | refine condC_split (fun h => ?_) (fun h => ?_)) <;> (try simp only [h]) <;> (try simp only [NR_, Bool.not_true, Bool.not_false, Bool.not_eq_eq_eq_not, ne_eq] at h))
        | omega | (simp only [LN_]; omega))
      exact leafP (sub_cons sub_rfl) rfl h

-- props.uri
set_option maxHeartbeats 8000000 in
theorem pUri {l : List Int} {F : FuncId} {may : Int → Bool} (hF : callOk Try.prog F = True) (hmay : ∀ c σ K, K (.ret (B (may c))) σ → ACallF κ Try.prog F [I c] σ K) (hl : l.length ≤ 1000000000) (hK : K (.ret (I (uriN may l))) σ) : ACallF κ Try.prog 42 [SI o l, .raw (.func (.func F) #[] #[])] σ K := by
  refine ACallF.dropL (ACallF_introA Try.func42 rfl ?_)
  simp only [Try.ntmps42]
  repeat' (first
    | with_reducible first | refine AW_seqA (AW_block ?_) | refine AW_block ?_ | refine cut_seqloop ?_ | refine cut_loop ?_ | refine AW_seqA (AW_seqA ?_) | refine AW_seq ?_ | refine AW_runReg ?_ | refine AW_runCond ?_ | refine AW_runExit ?_ | refine AW_runRet ?_ | refine AW_runSkip ?_ | refine AW_runLabel ?_
    | simp only [WL, intF, strF, WM, Int.reduceToNat, ne_eq, reduceCtorEq, not_false_eq_true, Nat.reduceAdd, Nat.reduceSub, Nat.reduceLT, Nat.reduceLeDiff, Nat.reduceEqDiff, Bool.not_true, Bool.not_false, beq_self_eq_true, true_and, and_true, reduceIte, Bool.false_eq_true, T3, T4, T24, T29, T103, cok81, Try.results42]
    | simp (disch := first | omega | (simp only [LN_]; omega)) only [wrap_id, getI]
    | with_reducible first | refine andA (hb := ?_) | refine y_load (hK := ?_) | refine y_store (hK := ?_) | refine y_box (hK := fun b => ?_) | refine y_new (hK := fun b => ?_) | refine cD (pEach (fun eb => ?_))
    | ((with_reducible refine AW_drawM (id := 5) 7 mixed ?_ ?_); kernel_rfl)
    | (with_reducible refine dmQ_mk ?_)
    | ((with_reducible first | refine grd_cases (fun h => ?_) (fun h => ?_) | refine condC_split (fun h => ?_) (fun h => ?_)) <;> (try simp only [h]) <;> (try simp only [NR_, Bool.not_true, Bool.not_false, Bool.not_eq_eq_eq_not, ne_eq] at h))
    | omega | (simp only [LN_]; omega))
  rename_i b1 b2
  refine range_by 109 [] [.pointer (some ⟨eb, 0, none⟩)] (signsA l 0) [.obj eb [SI o l]] (.obj b [I 0] :: .obj b2 [.raw (.func (.func F) #[] #[])] :: .obj b1 [SI o l] :: σ)
    (fun xs τ => ∃ i : Nat, xs = signsA l i ∧ i ≤ l.length ∧ uriN may l = i + uriN may (l.drop i) ∧ τ = .obj b [I i] :: .obj b2 [.raw (.func (.func F) #[] #[])] :: .obj b1 [SI o l] :: σ)
    rfl cok109 (ResW.refl _) (fun L K σ' h => pEachIt hl h) ⟨0, rfl, Nat.zero_le _, (Nat.zero_add _).symm, rfl⟩ ?_ ?_
  · rintro τ ⟨i, h1, h2, h3, rfl⟩
    by_cases hz : signN (l.drop i) = 0
    · rw [uriN_no (.inl hz)] at h3
      repeat' (first
        | with_reducible first | refine AW_seqA (AW_block ?_) | refine AW_block ?_ | refine cut_seqloop ?_ | refine cut_loop ?_ | refine AW_seqA (AW_seqA ?_) | refine AW_seq ?_ | refine AW_runReg ?_ | refine AW_runCond ?_ | refine AW_runExit ?_ | refine AW_runRet ?_ | refine AW_runSkip ?_ | refine AW_runLabel ?_
        | simp only [WL, intF, strF, WM, Int.reduceToNat, ne_eq, reduceCtorEq, not_false_eq_true, Nat.reduceAdd, Nat.reduceSub, Nat.reduceLT, Nat.reduceLeDiff, Nat.reduceEqDiff, Bool.not_true, Bool.not_false, beq_self_eq_true, true_and, and_true, reduceIte, Bool.false_eq_true, T3, T4, T24, T29, T103, cok81, Try.results42]
        | simp (disch := first | omega | (simp only [LN_]; omega)) only [wrap_id, getI]
        | with_reducible first | refine andA (hb := ?_) | refine y_load (hK := ?_) | refine y_store (hK := ?_) | refine y_box (hK := fun b => ?_) | refine y_new (hK := fun b => ?_) | refine cD (pEach (fun eb => ?_))
        | ((with_reducible refine AW_drawM (id := 5) 7 mixed ?_ ?_); kernel_rfl)
        | (with_reducible refine dmQ_mk ?_)
        | ((with_reducible first | refine grd_cases (fun h => ?_) (fun h => ?_) | refine condC_split (fun h => ?_) (fun h => ?_)) <;> (try simp only [h]) <;> (try simp only [NR_, Bool.not_true, Bool.not_false, Bool.not_eq_eq_eq_not, ne_eq] at h))
        | omega | (simp only [LN_]; omega))
      exact leafL (sub_cons (sub_cons (sub_cons sub_rfl))) (leT_eq (by rw [h3]; rfl)) hK
    · rw [signsA, signsAt_yes hz] at h1; cases h1
  · rintro dd L Rr Rb hR x xs τ ⟨i, h1, h2, h3, rfl⟩
    by_cases hz : signN (l.drop i) = 0
    · rw [signsA, signsAt_no hz] at h1; cases h1
    rw [signsA, signsAt_yes hz, List.map_cons, List.cons.injEq] at h1
    obtain ⟨rfl, rfl⟩ := h1
    have hsn := signN_drop_le (l := l) (i := i)
    refine ⟨rfl, ?_⟩
    repeat' (first
      | simp only [WL, intF, strF, WM, Int.reduceToNat, ne_eq, reduceCtorEq, not_false_eq_true, Nat.reduceAdd, Nat.reduceSub, Nat.reduceLT, Nat.reduceLeDiff, Nat.reduceEqDiff, Bool.not_true, Bool.not_false, beq_self_eq_true, true_and, and_true, reduceIte, Bool.false_eq_true, T3, T4, T24, T29, T103, cok81, Try.results42]
      | simp (disch := first | omega | (simp only [LN_]; omega)) only [wrap_id, getI]
      | with_reducible first | refine andA (hb := ?_) | refine y_load (hK := ?_) | refine y_store (hK := ?_) | refine y_box (hK := fun b => ?_) | refine y_new (hK := fun b => ?_) | refine cD (pEach (fun eb => ?_))
      | ((with_reducible refine AW_drawM (id := 5) 7 mixed ?_ ?_); kernel_rfl)
      | (with_reducible refine dmQ_mk ?_)
      | ((with_reducible first | refine grd_cases (fun h => ?_) (fun h => ?_) | refine condC_split (fun h => ?_) (fun h => ?_)) <;> (try simp only [h]) <;> (try simp only [NR_, Bool.not_true, Bool.not_false, Bool.not_eq_eq_eq_not, ne_eq] at h))
      | omega | (simp only [LN_]; omega))
    refine rngA_mk ?_
    repeat' (first
      | simp only [WL, intF, strF, WM, Int.reduceToNat, ne_eq, reduceCtorEq, not_false_eq_true, Nat.reduceAdd, Nat.reduceSub, Nat.reduceLT, Nat.reduceLeDiff, Nat.reduceEqDiff, Bool.not_true, Bool.not_false, beq_self_eq_true, true_and, and_true, reduceIte, Bool.false_eq_true, T3, T4, T24, T29, T103, cok81, Try.results42, hF]
      | simp (disch := first | omega | (simp only [LN_]; omega)) only [wrap_id, getI]
      | with_reducible first | refine andA (hb := ?_) | refine y_load (hK := ?_) | refine y_store (hK := ?_) | refine y_box (hK := fun b => ?_) | refine y_new (hK := fun b => ?_) | refine callD_q (hmay _ _ _ isR_mk) ?_ | refine cD (pEach (fun eb => ?_))
      | ((with_reducible refine AW_drawM (id := 5) 7 mixed ?_ ?_); kernel_rfl)
      | (with_reducible refine dmQ_mk ?_)
      | ((with_reducible first | refine grd_cases (fun h => ?_) (fun h => ?_) | refine condC_split (fun h => ?_) (fun h => ?_)) <;> (try simp only [h]) <;> (try simp only [NR_, Bool.not_true, Bool.not_false, Bool.not_eq_eq_eq_not, ne_eq] at h))
      | omega | (simp only [LN_]; omega))
    · refine ⟨_, resS_rfl, ?_⟩
      rw [uriN_no (l := l.drop i) (.inr (by rw [getD_drop0]; assumption)), Nat.add_zero] at h3
      repeat' (first
        | with_reducible first | refine AW_seqA (AW_block ?_) | refine AW_block ?_ | refine cut_seqloop ?_ | refine cut_loop ?_ | refine AW_seqA (AW_seqA ?_) | refine AW_seq ?_ | refine AW_runReg ?_ | refine AW_runCond ?_ | refine AW_runExit ?_ | refine AW_runRet ?_ | refine AW_runSkip ?_ | refine AW_runLabel ?_
        | simp only [WL, intF, strF, WM, Int.reduceToNat, ne_eq, reduceCtorEq, not_false_eq_true, Nat.reduceAdd, Nat.reduceSub, Nat.reduceLT, Nat.reduceLeDiff, Nat.reduceEqDiff, Bool.not_true, Bool.not_false, beq_self_eq_true, true_and, and_true, reduceIte, Bool.false_eq_true, T3, T4, T24, T29, T103, cok81, Try.results42]
        | simp (disch := first | omega | (simp only [LN_]; omega)) only [wrap_id, getI]
        | with_reducible first | refine andA (hb := ?_) | refine y_load (hK := ?_) | refine y_store (hK := ?_) | refine y_box (hK := fun b => ?_) | refine y_new (hK := fun b => ?_) | refine cD (pEach (fun eb => ?_))
        | ((with_reducible refine AW_drawM (id := 5) 7 mixed ?_ ?_); kernel_rfl)
        | (with_reducible refine dmQ_mk ?_)
        | ((with_reducible first | refine grd_cases (fun h => ?_) (fun h => ?_) | refine condC_split (fun h => ?_) (fun h => ?_)) <;> (try simp only [h]) <;> (try simp only [NR_, Bool.not_true, Bool.not_false, Bool.not_eq_eq_eq_not, ne_eq] at h))
        | omega | (simp only [LN_]; omega))
      exact leafL (sub_cons (sub_cons (sub_cons sub_rfl))) (leT_eq (by rw [h3])) hK
    · exact ⟨_, resS_rfl, i + signN (l.drop i), rfl, by omega, by rw [h3, uriN_yes hz (by rw [getD_drop0]; assumption), List.drop_drop]; omega, rfl⟩
set_option maxHeartbeats 8000000 in
theorem pUriAll {l : List Int} (hl : l.length ≤ 1000000000) (hK : K (.ret (I (uriN anyC l))) σ) : ACallF κ Try.prog 42 [SI o l, .raw (.func (.func 46) #[] #[])] σ K := pUri cok46 (fun c σ K h => pAll h) hl hK
set_option maxHeartbeats 8000000 in
theorem pUriShort {l : List Int} (hl : l.length ≤ 1000000000) (hK : K (.ret (I (uriN shortC l))) σ) : ACallF κ Try.prog 42 [SI o l, .raw (.func (.func 43) #[] #[])] σ K := pUri cok43 (fun c σ K h => pShort h) hl hK

-- props.whole
set_option maxHeartbeats 8000000 in
theorem pWhole {l : List Int} (hl : l.length ≤ 1000000000) (h2 : 2 ≤ l.length) (hK : K (.ret (.tup [.raw (.string (wholeI l).1), I (wholeI l).2.1, B (wholeI l).2.2])) σ) : ACallF κ Try.prog 40 [SI o l] σ K := by
  have hu := uriN_le anyC (l.drop 2)
  rw [List.length_drop] at hu
  have e1 : ((uriN anyC (l.drop 2) : Int) + 2).toNat = uriN anyC (l.drop 2) + 2 := by omega
  have e2 : (uriN anyC (l.drop 2) : Int) + 2 = ((uriN anyC (l.drop 2) + 2 : Nat) : Int) := by omega
  by_cases hz : uriN anyC (l.drop 2) = 0
  · have ew : wholeI l = noneT := by rw [wholeI, if_pos (.inl hz)]
    rw [ew] at hK
    refine ACallF.dropL (ACallF_intro Try.func40 rfl ?_)
    simp only [Try.ntmps40]
    repeat' (first
      | simp only [WL, intF, strF, WM, Int.reduceToNat, ne_eq, reduceCtorEq, not_false_eq_true, Nat.reduceAdd, Nat.reduceSub, Nat.reduceLT, Nat.reduceLeDiff, Nat.reduceEqDiff, Bool.not_true, Bool.not_false, beq_self_eq_true, true_and, and_true, reduceIte, Bool.false_eq_true, T3, T4, T9, T24, T29, cok39, cok42, cok44, cok46, Try.results40, hz]
      | simp (disch := first | omega | (simp only [LN_]; omega)) only [wrap_id, getI]
      | with_reducible first | refine andA (hb := ?_) | refine cD (pUriAll ?_ ?_) | refine cD (pIs ?_ ?_ ?_) | refine cD (pText ?_ ?_)
      | with_reducible refine y_nil (hK := ?_)
      | (with_reducible refine nilTC_split (fun h => ?_) (fun h bn => ?_) <;> (try simp only [List.length_map] at h))
      | ((with_reducible first | refine grd_cases (fun h => ?_) (fun h => ?_) | refine condC_split (fun h => ?_) (fun h => ?_)) <;> (try simp only [h]) <;> (try simp only [NR_, Bool.not_true, Bool.not_false, Bool.not_eq_eq_eq_not, ne_eq] at h))
      | omega | (simp only [LN_]; omega))
    all_goals first
      | exact leafL sub_rfl (leT_eq rfl) hK
      | (exfalso; omega)
  · cases ha : atI l (uriN anyC (l.drop 2) + 2) 62
    · have ew : wholeI l = noneT := by rw [wholeI, if_pos (.inr ha)]
      rw [ew] at hK
      refine ACallF.dropL (ACallF_intro Try.func40 rfl ?_)
      simp only [Try.ntmps40]
      repeat' (first
        | simp only [WL, intF, strF, WM, Int.reduceToNat, ne_eq, reduceCtorEq, not_false_eq_true, Nat.reduceAdd, Nat.reduceSub, Nat.reduceLT, Nat.reduceLeDiff, Nat.reduceEqDiff, Bool.not_true, Bool.not_false, beq_self_eq_true, true_and, and_true, reduceIte, Bool.false_eq_true, T3, T4, T9, T24, T29, cok39, cok42, cok44, cok46, Try.results40, e2, ha]
        | simp (disch := first | omega | (simp only [LN_]; omega)) only [wrap_id, getI]
        | with_reducible first | refine andA (hb := ?_) | refine cD (pUriAll ?_ ?_) | refine cD (pIs (i := uriN anyC (l.drop 2) + 2) ?_ ?_ ?_) | refine cD (pIs ?_ ?_ ?_) | refine cD (pText ?_ ?_)
        | with_reducible refine y_nil (hK := ?_)
        | (with_reducible refine nilTC_split (fun h => ?_) (fun h bn => ?_) <;> (try simp only [List.length_map] at h))
        | ((with_reducible first | refine grd_cases (fun h => ?_) (fun h => ?_) | refine condC_split (fun h => ?_) (fun h => ?_)) <;> (try simp only [h]) <;> (try simp only [NR_, Bool.not_true, Bool.not_false, Bool.not_eq_eq_eq_not, ne_eq] at h))
        | omega | (simp only [LN_]; omega))
      all_goals first
        | exact leafL sub_rfl (leT_eq rfl) hK
        | (exfalso; omega)
    · have hn : ¬ (uriN anyC (l.drop 2) = 0 ∨ atI l (uriN anyC (l.drop 2) + 2) 62 = false) := fun h => by
        rcases h with h | h
        · exact hz h
        · rw [ha] at h; cases h
      have ew : wholeI l = (textI ((l.take (uriN anyC (l.drop 2) + 2)).drop 1), ((uriN anyC (l.drop 2) + 3 : Nat) : Int), true) := by rw [wholeI, if_neg hn]
      rw [ew] at hK
      have hl3 := (atI_lt ha).1
      refine ACallF.dropL (ACallF_intro Try.func40 rfl ?_)
      simp only [Try.ntmps40]
      repeat' (first
        | simp only [WL, intF, strF, WM, Int.reduceToNat, ne_eq, reduceCtorEq, not_false_eq_true, Nat.reduceAdd, Nat.reduceSub, Nat.reduceLT, Nat.reduceLeDiff, Nat.reduceEqDiff, Bool.not_true, Bool.not_false, beq_self_eq_true, true_and, and_true, reduceIte, Bool.false_eq_true, T3, T4, T9, T24, T29, cok39, cok42, cok44, cok46, Try.results40, e1, ha]
        | simp (disch := first | omega | (simp only [LN_]; omega)) only [wrap_id, getI]
        | with_reducible first | refine andA (hb := ?_) | refine cD (pUriAll ?_ ?_) | refine cD (pIs (i := uriN anyC (l.drop 2) + 2) ?_ ?_ ?_) | refine cD (pIs ?_ ?_ ?_) | refine cD (pText ?_ ?_)
        | with_reducible refine y_nil (hK := ?_)
        | (with_reducible refine nilTC_split (fun h => ?_) (fun h bn => ?_) <;> (try simp only [List.length_map] at h))
        | ((with_reducible first | refine grd_cases (fun h => ?_) (fun h => ?_) | refine condC_split (fun h => ?_) (fun h => ?_)) <;> (try simp only [h]) <;> (try simp only [NR_, Bool.not_true, Bool.not_false, Bool.not_eq_eq_eq_not, ne_eq] at h))
        | omega | (simp only [LN_]; omega))
      all_goals first
        | exact leafL sub_rfl (leT_eq (by simp; omega)) hK
        | (exfalso; omega)

-- props.Tag
set_option maxHeartbeats 8000000 in
theorem pTag {l : List Int} (hl : l.length ≤ 1000000000) (hK : K (.ret (.tup [.raw (.string (tagI l).1), I (tagI l).2.1, B (tagI l).2.2])) σ) : ACallF κ Try.prog 15 [SI o l] σ K := by
  cases h0 : atI l 0 33
  · have ew : tagI l = noneT := by rw [tagI, if_pos h0]
    rw [ew] at hK
    refine ACallF.dropL (ACallF_intro Try.func15 rfl ?_)
    simp only [Try.ntmps15]
    repeat' (first
      | simp only [WL, intF, strF, WM, Int.reduceToNat, ne_eq, reduceCtorEq, not_false_eq_true, Nat.reduceAdd, Nat.reduceSub, Nat.reduceLT, Nat.reduceLeDiff, Nat.reduceEqDiff, Bool.not_true, Bool.not_false, beq_self_eq_true, true_and, and_true, reduceIte, Bool.false_eq_true, T3, T4, T9, T24, T29, cok39, cok40, cok41, cok42, cok43, cok44, Try.results15, h0]
      | simp (disch := first | omega | (simp only [LN_]; omega)) only [wrap_id, getI]
      | with_reducible first | refine andA (hb := ?_) | refine y_max ?_ | refine y_min ?_ | refine cD (pIs (i := 0) ?_ ?_ ?_) | refine cD (pIs ?_ ?_ ?_) | refine cD (pWhole ?_ ?_ ?_) | refine cD (pHandle ?_ ?_ ?_) | refine cD (pText ?_ ?_)
      | with_reducible refine y_nil (hK := ?_)
      | (with_reducible refine nilTC_split (fun h => ?_) (fun h bn => ?_) <;> (try simp only [List.length_map] at h))
      | ((with_reducible first | refine grd_cases (fun h => ?_) (fun h => ?_) | refine condC_split (fun h => ?_) (fun h => ?_)) <;> (try simp only [h]) <;> (try simp only [NR_, Bool.not_true, Bool.not_false, Bool.not_eq_eq_eq_not, ne_eq] at h))
      | omega | (simp only [LN_]; omega))
    all_goals exact leafL sub_rfl (leT_eq rfl) hK
  have hp := (atI_lt h0).1
  cases h1 : atI l 1 60
  · have ew : tagI l = shortI l := by rw [tagI, if_neg (by rw [h0]; decide), if_neg (by rw [h1]; decide)]
    rw [ew] at hK
    have hh := handleN_le l
    have hu := uriN_le shortC (l.drop (max (handleN l) 1))
    rw [List.length_drop] at hu
    have e1 : max ((handleN l : Nat) : Int) 1 = ((max (handleN l) 1 : Nat) : Int) := by omega
    have e2 : ((uriN shortC (l.drop (max (handleN l) 1)) : Int) + ((max (handleN l) 1 : Nat) : Int)).toNat = uriN shortC (l.drop (max (handleN l) 1)) + max (handleN l) 1 := by omega
    by_cases hz : 0 < handleN l ∧ uriN shortC (l.drop (max (handleN l) 1)) = 0
    · have es : shortI l = noneT := by rw [shortI, if_pos hz]
      rw [es] at hK
      refine ACallF.dropL (ACallF_intro Try.func15 rfl ?_)
      simp only [Try.ntmps15]
      repeat' (first
        | simp only [WL, intF, strF, WM, Int.reduceToNat, ne_eq, reduceCtorEq, not_false_eq_true, Nat.reduceAdd, Nat.reduceSub, Nat.reduceLT, Nat.reduceLeDiff, Nat.reduceEqDiff, Bool.not_true, Bool.not_false, beq_self_eq_true, true_and, and_true, reduceIte, Bool.false_eq_true, T3, T4, T9, T24, T29, cok39, cok40, cok41, cok42, cok43, cok44, Try.results15, h0, h1, e1]
        | simp (disch := first | omega | (simp only [LN_]; omega)) only [wrap_id, getI]
        | with_reducible first | refine andA (hb := ?_) | refine y_max ?_ | refine y_min ?_ | refine cD (pIs (i := 0) ?_ ?_ ?_) | refine cD (pIs (i := 1) ?_ ?_ ?_) | refine cD (pUriShort ?_ ?_) | refine cD (pIs ?_ ?_ ?_) | refine cD (pWhole ?_ ?_ ?_) | refine cD (pHandle ?_ ?_ ?_) | refine cD (pText ?_ ?_)
        | with_reducible refine y_nil (hK := ?_)
        | (with_reducible refine nilTC_split (fun h => ?_) (fun h bn => ?_) <;> (try simp only [List.length_map] at h))
        | ((with_reducible first | refine grd_cases (fun h => ?_) (fun h => ?_) | refine condC_split (fun h => ?_) (fun h => ?_)) <;> (try simp only [h]) <;> (try simp only [NR_, Bool.not_true, Bool.not_false, Bool.not_eq_eq_eq_not, ne_eq] at h))
        | omega | (simp only [LN_]; omega))
      all_goals first
        | exact leafL sub_rfl (leT_eq rfl) hK
        | (exfalso; omega)
        | trace_state
    · have es : shortI l = (textI (l.take (uriN shortC (l.drop (max (handleN l) 1)) + max (handleN l) 1)), ((uriN shortC (l.drop (max (handleN l) 1)) + max (handleN l) 1 : Nat) : Int), true) := by rw [shortI, if_neg hz]
      rw [es] at hK
      refine ACallF.dropL (ACallF_intro Try.func15 rfl ?_)
      simp only [Try.ntmps15]
      repeat' (first
        | simp only [WL, intF, strF, WM, Int.reduceToNat, ne_eq, reduceCtorEq, not_false_eq_true, Nat.reduceAdd, Nat.reduceSub, Nat.reduceLT, Nat.reduceLeDiff, Nat.reduceEqDiff, Bool.not_true, Bool.not_false, beq_self_eq_true, true_and, and_true, reduceIte, Bool.false_eq_true, T3, T4, T9, T24, T29, cok39, cok40, cok41, cok42, cok43, cok44, Try.results15, h0, h1, e1, e2]
        | simp (disch := first | omega | (simp only [LN_]; omega)) only [wrap_id, getI]
        | with_reducible first | refine andA (hb := ?_) | refine y_max ?_ | refine y_min ?_ | refine cD (pIs (i := 0) ?_ ?_ ?_) | refine cD (pIs (i := 1) ?_ ?_ ?_) | refine cD (pUriShort ?_ ?_) | refine cD (pIs ?_ ?_ ?_) | refine cD (pWhole ?_ ?_ ?_) | refine cD (pHandle ?_ ?_ ?_) | refine cD (pText ?_ ?_)
        | with_reducible refine y_nil (hK := ?_)
        | (with_reducible refine nilTC_split (fun h => ?_) (fun h bn => ?_) <;> (try simp only [List.length_map] at h))
        | ((with_reducible first | refine grd_cases (fun h => ?_) (fun h => ?_) | refine condC_split (fun h => ?_) (fun h => ?_)) <;> (try simp only [h]) <;> (try simp only [NR_, Bool.not_true, Bool.not_false, Bool.not_eq_eq_eq_not, ne_eq] at h))
        | omega | (simp only [LN_]; omega))
      all_goals first
        | (exfalso; omega)
        | exact leafL sub_rfl (leT_eq (by simp)) hK
        | trace_state
  · have ew : tagI l = wholeI l := by rw [tagI, if_neg (by rw [h0]; decide), if_pos h1]
    rw [ew] at hK
    have hp2 := (atI_lt h1).1
    refine ACallF.dropL (ACallF_intro Try.func15 rfl ?_)
    simp only [Try.ntmps15]
    repeat' (first
      | simp only [WL, intF, strF, WM, Int.reduceToNat, ne_eq, reduceCtorEq, not_false_eq_true, Nat.reduceAdd, Nat.reduceSub, Nat.reduceLT, Nat.reduceLeDiff, Nat.reduceEqDiff, Bool.not_true, Bool.not_false, beq_self_eq_true, true_and, and_true, reduceIte, Bool.false_eq_true, T3, T4, T9, T24, T29, cok39, cok40, cok41, cok42, cok43, cok44, Try.results15, h0, h1]
      | simp (disch := first | omega | (simp only [LN_]; omega)) only [wrap_id, getI]
      | with_reducible first | refine andA (hb := ?_) | refine y_max ?_ | refine y_min ?_ | refine cD (pIs (i := 0) ?_ ?_ ?_) | refine cD (pIs (i := 1) ?_ ?_ ?_) | refine cD (pIs ?_ ?_ ?_) | refine cD (pWhole ?_ ?_ ?_) | refine cD (pHandle ?_ ?_ ?_) | refine cD (pText ?_ ?_)
      | with_reducible refine y_nil (hK := ?_)
      | (with_reducible refine nilTC_split (fun h => ?_) (fun h bn => ?_) <;> (try simp only [List.length_map] at h))
      | ((with_reducible first | refine grd_cases (fun h => ?_) (fun h => ?_) | refine condC_split (fun h => ?_) (fun h => ?_)) <;> (try simp only [h]) <;> (try simp only [NR_, Bool.not_true, Bool.not_false, Bool.not_eq_eq_eq_not, ne_eq] at h))
      | omega | (simp only [LN_]; omega))
    all_goals exact leafL sub_rfl (leT_eq rfl) hK
end Go.Proofs.Ytaeacialcbahnaa
