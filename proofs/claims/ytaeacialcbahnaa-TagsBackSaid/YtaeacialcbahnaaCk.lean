/-
  Walks: chapter 2's kinds of code points, and the reference's.
-/
import Derived.Test.YtaeacialcbahnaaSc
import Derived.Test.YtaeacialcbahnaaCh
namespace Go.Proofs.Ytaeacialcbahnaa
open Go.Abs
set_option linter.unusedVariables false
set_option linter.unusedSimpArgs false
-- hb: 4000000
variable {κ : Ctx} {σ : List Res} {K : Ret → List Res → Prop} {o o' : Option (Option (Nat × Nat))}

-- chars.among
set_option maxHeartbeats 4000000 in
theorem among {s : ByteArray} {c : Int} (hs : s.size ≤ 1000000000) (hK : K (.ret (B (decide (c ∈ bytesI s)))) σ) : ACallF κ Try.prog 111 [.raw (.string s), I c] σ K := by
  have hl := bytesI_len s
  refine ACallF.dropL (ACallF_intro Try.func111 rfl ?_)
  simp only [Try.ntmps111]
  repeat' (first
    | simp only [WL, intF, strF, WM, Int.reduceToNat, ne_eq, reduceCtorEq, not_false_eq_true, Nat.reduceAdd, Nat.reduceSub, Nat.reduceLT, Nat.reduceLeDiff, Nat.reduceEqDiff, Bool.not_true, Bool.not_false, beq_self_eq_true, true_and, and_true, reduceIte, Bool.false_eq_true, convC_sl, convC_str, List.eraseIdx_cons_zero, List.eraseIdx_cons_succ, T3, T4, T5, T9, T30, cI in3, Try.results111]
    | simp (disch := first | omega | (simp only [LN_]; omega)) only [wrap_id, getI]
    | with_reducible first | refine andA (hb := ?_) | refine y_load (hK := ?_) | refine y_str ?_ ?_
    | with_reducible refine y_nil (hK := ?_)
    | (with_reducible refine nilTC_split (fun h => ?_) (fun h bn => ?_) <;> (try simp only [List.length_map] at h))
    | ((with_reducible first | refine grd_cases (fun h => ?_) (fun h => ?_) | refine condC_split (fun h => ?_) (fun h => ?_)) <;> (try simp only [h]) <;> (try simp only [NR_, Bool.not_true, Bool.not_false, Bool.not_eq_eq_eq_not, ne_eq] at h))
    | omega | (simp only [LN_]; omega) | (refine maxLen_ok ?_; (first | omega | (simp only [LN_]; omega))))
  refine loop_by (fun k : Nat => ⟨(.raw (.string s) :: I c :: .any :: .any :: .any :: .any :: .any :: .any :: SU none (bytesI s) :: I s.size :: I k :: .any :: .any :: .any :: .any :: .any :: .any :: .any :: .any :: []), σ, true, []⟩) (fun k => k ≤ s.size ∧ ∀ j, j < k → ¬ (bytesI s).getD j 0 = c) (fun k => s.size - k) 0 (St_le_same (by simp only [hl]; repeat (first | exact trivial | refine ⟨le_rfl, ?_⟩ | refine ⟨le_any, ?_⟩ | refine ⟨le_ro, ?_⟩ | refine ⟨le_nil (by decide), ?_⟩ | refine ⟨le_wrap (by omega) (by omega) (by omega), ?_⟩ | refine ⟨le_int (by omega), ?_⟩ | refine ⟨le_eq (by simp), ?_⟩)) id) ⟨Nat.zero_le _, fun j h => by omega⟩ ?_
  rintro k ⟨hk, hb⟩
  have hby : k < s.size → 0 ≤ (bytesI s).getD k 0 ∧ (bytesI s).getD k 0 ≤ 255 := fun h => bytesI_byte s _ (by rw [List.getD_eq_getElem?_getD, List.getElem?_eq_getElem (by omega)]; exact List.getElem_mem _)
  repeat' (first
    | simp only [WL, intF, strF, WM, Int.reduceToNat, ne_eq, reduceCtorEq, not_false_eq_true, Nat.reduceAdd, Nat.reduceSub, Nat.reduceLT, Nat.reduceLeDiff, Nat.reduceEqDiff, Bool.not_true, Bool.not_false, beq_self_eq_true, true_and, and_true, reduceIte, Bool.false_eq_true, convC_sl, convC_str, List.eraseIdx_cons_zero, List.eraseIdx_cons_succ, T3, T4, T5, T9, T30, cI in3, Try.results111]
    | simp (disch := first | omega | (simp only [LN_]; omega)) only [wrap_id, getI, getU]
    | with_reducible first | refine andA (hb := ?_) | refine y_load (hK := ?_) | refine y_str ?_ ?_
    | with_reducible refine y_nil (hK := ?_)
    | (with_reducible refine nilTC_split (fun h => ?_) (fun h bn => ?_) <;> (try simp only [List.length_map] at h))
    | ((with_reducible first | refine grd_cases (fun h => ?_) (fun h => ?_) | refine condC_split (fun h => ?_) (fun h => ?_)) <;> (try simp only [h]) <;> (try simp only [NR_, Bool.not_true, Bool.not_false, Bool.not_eq_eq_eq_not, ne_eq] at h))
    | omega | (simp only [LN_]; omega) | (refine maxLen_ok ?_; (first | omega | (simp only [LN_]; omega))))
  · exact leafL sub_rfl (leT_eq (congrArg B (decide_eq_true (mem_getD (k := k) (by omega) (by assumption))).symm)) hK
  · refine ⟨k + 1, St_le_same (by repeat (first | exact trivial | refine ⟨le_rfl, ?_⟩ | refine ⟨le_any, ?_⟩ | refine ⟨le_ro, ?_⟩ | refine ⟨le_nil (by decide), ?_⟩ | refine ⟨le_wrap (by omega) (by omega) (by omega), ?_⟩ | refine ⟨le_int (by omega), ?_⟩ | refine ⟨le_eq (by simp), ?_⟩)) id, ⟨by omega, fun j h => ?_⟩, by omega⟩
    rcases Nat.lt_succ_iff_lt_or_eq.1 h with h | rfl
    · exact hb j h
    · assumption
  · exact leafL sub_rfl (leT_eq (congrArg B (decide_eq_false (not_mem_getD (fun j hj => hb j (by omega)))).symm)) hK

-- marginaliaref1.among
set_option maxHeartbeats 4000000 in
theorem ramong {s : ByteArray} {c : Int} (hs : s.size ≤ 1000000000) (hK : K (.ret (B (decide (c ∈ bytesI s)))) σ) : ACallF κ Try.prog 77 [.raw (.string s), I c] σ K := by
  have hl := bytesI_len s
  refine ACallF.dropL (ACallF_intro Try.func77 rfl ?_)
  simp only [Try.ntmps77]
  repeat' (first
    | simp only [WL, intF, strF, WM, Int.reduceToNat, ne_eq, reduceCtorEq, not_false_eq_true, Nat.reduceAdd, Nat.reduceSub, Nat.reduceLT, Nat.reduceLeDiff, Nat.reduceEqDiff, Bool.not_true, Bool.not_false, beq_self_eq_true, true_and, and_true, reduceIte, Bool.false_eq_true, T3, T4, T5, T9, cI in3, Try.results77]
    | simp (disch := first | omega | (simp only [LN_]; omega)) only [wrap_id, getI]
    | with_reducible first | refine andA (hb := ?_)
    | with_reducible refine y_nil (hK := ?_)
    | (with_reducible refine nilTC_split (fun h => ?_) (fun h bn => ?_) <;> (try simp only [List.length_map] at h))
    | ((with_reducible first | refine grd_cases (fun h => ?_) (fun h => ?_) | refine condC_split (fun h => ?_) (fun h => ?_)) <;> (try simp only [h]) <;> (try simp only [NR_, Bool.not_true, Bool.not_false, Bool.not_eq_eq_eq_not, ne_eq] at h))
    | omega | (simp only [LN_]; omega) | (refine maxLen_ok ?_; (first | omega | (simp only [LN_]; omega))))
  refine loop_by (fun k : Nat => ⟨(.raw (.string s) :: I c :: .any :: .any :: .any :: I k :: .any :: .any :: .any :: .any :: .any :: .any :: .any :: .any :: .any :: .any :: .any :: .any :: []), σ, true, []⟩) (fun k => k ≤ s.size ∧ ∀ j, j < k → ¬ (bytesI s).getD j 0 = c) (fun k => s.size - k) 0 (St_le_same (by repeat (first | exact trivial | refine ⟨le_rfl, ?_⟩ | refine ⟨le_any, ?_⟩ | refine ⟨le_ro, ?_⟩ | refine ⟨le_nil (by decide), ?_⟩ | refine ⟨le_wrap (by omega) (by omega) (by omega), ?_⟩ | refine ⟨le_int (by omega), ?_⟩ | refine ⟨le_eq (by simp), ?_⟩)) id) ⟨Nat.zero_le _, fun j h => by omega⟩ ?_
  rintro k ⟨hk, hb⟩
  have hby : k < s.size → 0 ≤ (bytesI s).getD k 0 ∧ (bytesI s).getD k 0 ≤ 255 := fun h => bytesI_byte s _ (by rw [List.getD_eq_getElem?_getD, List.getElem?_eq_getElem (by omega)]; exact List.getElem_mem _)
  repeat' (first
    | simp only [WL, intF, strF, WM, Int.reduceToNat, ne_eq, reduceCtorEq, not_false_eq_true, Nat.reduceAdd, Nat.reduceSub, Nat.reduceLT, Nat.reduceLeDiff, Nat.reduceEqDiff, Bool.not_true, Bool.not_false, beq_self_eq_true, true_and, and_true, reduceIte, Bool.false_eq_true, T3, T4, T5, T9, cI in3, Try.results77, getB]
    | simp (disch := first | omega | (simp only [LN_]; omega)) only [wrap_id, getI]
    | with_reducible first | refine andA (hb := ?_)
    | with_reducible refine y_nil (hK := ?_)
    | (with_reducible refine nilTC_split (fun h => ?_) (fun h bn => ?_) <;> (try simp only [List.length_map] at h))
    | ((with_reducible first | refine grd_cases (fun h => ?_) (fun h => ?_) | refine condC_split (fun h => ?_) (fun h => ?_)) <;> (try simp only [h]) <;> (try simp only [NR_, Bool.not_true, Bool.not_false, Bool.not_eq_eq_eq_not, ne_eq] at h))
    | omega | (simp only [LN_]; omega) | (refine maxLen_ok ?_; (first | omega | (simp only [LN_]; omega))))
  · exact leafL sub_rfl (leT_eq (congrArg B (decide_eq_true (mem_getD (k := k) (by omega) (by assumption))).symm)) hK
  · refine ⟨k + 1, St_le_same (by repeat (first | exact trivial | refine ⟨le_rfl, ?_⟩ | refine ⟨le_any, ?_⟩ | refine ⟨le_ro, ?_⟩ | refine ⟨le_nil (by decide), ?_⟩ | refine ⟨le_wrap (by omega) (by omega) (by omega), ?_⟩ | refine ⟨le_int (by omega), ?_⟩ | refine ⟨le_eq (by simp), ?_⟩)) id, ⟨by omega, fun j h => ?_⟩, by omega⟩
    rcases Nat.lt_succ_iff_lt_or_eq.1 h with h | rfl
    · exact hb j h
    · assumption
  · exact leafL sub_rfl (leT_eq (congrArg B (decide_eq_false (not_mem_getD (fun j hj => hb j (by omega)))).symm)) hK

-- chars.Flow
set_option maxHeartbeats 4000000 in
theorem cFlow {c : Int} (hK : K (.ret (B (flowI c))) σ) : ACallF κ Try.prog 82 [I c] σ K := by
  refine ACallF.dropL (ACallF_intro Try.func82 rfl ?_)
  simp only [Try.ntmps82]
  repeat' (first
    | simp only [WL, intF, strF, WM, Int.reduceToNat, ne_eq, reduceCtorEq, not_false_eq_true, Nat.reduceAdd, Nat.reduceSub, Nat.reduceLT, Nat.reduceLeDiff, Nat.reduceEqDiff, Bool.not_true, Bool.not_false, beq_self_eq_true, true_and, and_true, reduceIte, Bool.false_eq_true, T3, T4, T9, cok111, Try.results82]
    | simp (disch := first | omega | (simp only [LN_]; omega)) only [wrap_id, getI]
    | with_reducible first | refine andA (hb := ?_) | refine cD (among ?_ ?_)
    | ((with_reducible first | refine grd_cases (fun h => ?_) (fun h => ?_) | refine condC_split (fun h => ?_) (fun h => ?_)) <;> (try simp only [h]) <;> (try simp only [NR_, Bool.not_true, Bool.not_false, Bool.not_eq_eq_eq_not, ne_eq] at h))
    | omega | (simp only [LN_]; omega))
  · decide
  · exact leafL sub_rfl (leT_eq (congrArg B (flow_mem (by decide) c))) hK

-- marginaliaref1.Flow
set_option maxHeartbeats 4000000 in
theorem rFlow {c : Int} (hK : K (.ret (B (flowI c))) σ) : ACallF κ Try.prog 87 [I c] σ K := by
  refine ACallF.dropL (ACallF_intro Try.func87 rfl ?_)
  simp only [Try.ntmps87]
  repeat' (first
    | simp only [WL, intF, strF, WM, Int.reduceToNat, ne_eq, reduceCtorEq, not_false_eq_true, Nat.reduceAdd, Nat.reduceSub, Nat.reduceLT, Nat.reduceLeDiff, Nat.reduceEqDiff, Bool.not_true, Bool.not_false, beq_self_eq_true, true_and, and_true, reduceIte, Bool.false_eq_true, T3, T4, T9, cok77, Try.results87]
    | simp (disch := first | omega | (simp only [LN_]; omega)) only [wrap_id, getI]
    | with_reducible first | refine andA (hb := ?_) | refine cD (ramong ?_ ?_)
    | ((with_reducible first | refine grd_cases (fun h => ?_) (fun h => ?_) | refine condC_split (fun h => ?_) (fun h => ?_)) <;> (try simp only [h]) <;> (try simp only [NR_, Bool.not_true, Bool.not_false, Bool.not_eq_eq_eq_not, ne_eq] at h))
    | omega | (simp only [LN_]; omega))
  · decide
  · exact leafL sub_rfl (leT_eq (congrArg B (flow_mem (by decide) c))) hK

-- chars.Name
set_option maxHeartbeats 4000000 in
theorem cName {c : Int} (hK : K (.ret (B (nameI c))) σ) : ACallF κ Try.prog 84 [I c] σ K := by
  refine ACallF.dropL (ACallF_intro Try.func84 rfl ?_)
  simp only [Try.ntmps84]
  repeat' (first
    | simp only [WL, intF, strF, WM, Int.reduceToNat, ne_eq, reduceCtorEq, not_false_eq_true, Nat.reduceAdd, Nat.reduceSub, Nat.reduceLT, Nat.reduceLeDiff, Nat.reduceEqDiff, Bool.not_true, Bool.not_false, beq_self_eq_true, true_and, and_true, reduceIte, Bool.false_eq_true, T3, T4, cok76, cok82, cok112, Try.results84]
    | simp (disch := first | omega | (simp only [LN_]; omega)) only [wrap_id, getI]
    | with_reducible first | refine andA (hb := ?_) | refine cD (Blank ?_) | refine cD (cFlow ?_) | refine cD (Print ?_)
    | with_reducible refine y_nil (hK := ?_)
    | (with_reducible refine nilTC_split (fun h => ?_) (fun h bn => ?_) <;> (try simp only [List.length_map] at h))
    | ((with_reducible first | refine grd_cases (fun h => ?_) (fun h => ?_) | refine condC_split (fun h => ?_) (fun h => ?_)) <;> (try simp only [h]) <;> (try simp only [NR_, Bool.not_true, Bool.not_false, Bool.not_eq_eq_eq_not, ne_eq] at h))
    | omega | (simp only [LN_]; omega))
  all_goals exact leafL sub_rfl (leT_eq (congrArg B (by simp [nameI, *]))) hK

-- marginaliaref1.Name
set_option maxHeartbeats 4000000 in
theorem rName {c : Int} (hK : K (.ret (B (nameI c))) σ) : ACallF κ Try.prog 51 [I c] σ K := by
  refine ACallF.dropL (ACallF_intro Try.func51 rfl ?_)
  simp only [Try.ntmps51]
  repeat' (first
    | simp only [WL, intF, strF, WM, Int.reduceToNat, ne_eq, reduceCtorEq, not_false_eq_true, Nat.reduceAdd, Nat.reduceSub, Nat.reduceLT, Nat.reduceLeDiff, Nat.reduceEqDiff, Bool.not_true, Bool.not_false, beq_self_eq_true, true_and, and_true, reduceIte, Bool.false_eq_true, T3, T4, cok35, cok55, cok87, Try.results51]
    | simp (disch := first | omega | (simp only [LN_]; omega)) only [wrap_id, getI]
    | with_reducible first | refine andA (hb := ?_) | refine cD (rPrint ?_) | refine cD (rBlank ?_) | refine cD (rFlow ?_)
    | with_reducible refine y_nil (hK := ?_)
    | (with_reducible refine nilTC_split (fun h => ?_) (fun h bn => ?_) <;> (try simp only [List.length_map] at h))
    | ((with_reducible first | refine grd_cases (fun h => ?_) (fun h => ?_) | refine condC_split (fun h => ?_) (fun h => ?_)) <;> (try simp only [h]) <;> (try simp only [NR_, Bool.not_true, Bool.not_false, Bool.not_eq_eq_eq_not, ne_eq] at h))
    | omega | (simp only [LN_]; omega))
  all_goals exact leafL sub_rfl (leT_eq (congrArg B (by simp [nameI, *]))) hK

-- chars.Word
set_option maxHeartbeats 4000000 in
theorem cWord {c : Int} (hK : K (.ret (B (wordI c))) σ) : ACallF κ Try.prog 95 [I c] σ K := by
  refine ACallF.dropL (ACallF_intro Try.func95 rfl ?_)
  simp only [Try.ntmps95]
  repeat' (first
    | simp only [WL, intF, strF, WM, Int.reduceToNat, ne_eq, reduceCtorEq, not_false_eq_true, Nat.reduceAdd, Nat.reduceSub, Nat.reduceLT, Nat.reduceLeDiff, Nat.reduceEqDiff, Bool.not_true, Bool.not_false, beq_self_eq_true, true_and, and_true, reduceIte, Bool.false_eq_true, T3, T4, cok115, Try.results95]
    | simp (disch := first | omega | (simp only [LN_]; omega)) only [wrap_id, getI]
    | with_reducible first | refine andA (hb := ?_) | refine cD (within ?_)
    | with_reducible refine y_nil (hK := ?_)
    | (with_reducible refine nilTC_split (fun h => ?_) (fun h bn => ?_) <;> (try simp only [List.length_map] at h))
    | ((with_reducible first | refine grd_cases (fun h => ?_) (fun h => ?_) | refine condC_split (fun h => ?_) (fun h => ?_)) <;> (try simp only [h]) <;> (try simp only [NR_, Bool.not_true, Bool.not_false, Bool.not_eq_eq_eq_not, ne_eq] at h))
    | omega | (simp only [LN_]; omega))
  all_goals (refine leafL sub_rfl (leT_eq (congrArg B ?_)) hK; rw [Bool.eq_iff_iff]; simp only [wordI, decide_eq_true_eq, beq_iff_eq, Bool.false_eq_true, false_iff, true_iff, eq_self]; omega)

-- marginaliaref1.Word
set_option maxHeartbeats 4000000 in
theorem rWord {c : Int} (hK : K (.ret (B (wordI c))) σ) : ACallF κ Try.prog 16 [I c] σ K := by
  refine ACallF.dropL (ACallF_intro Try.func16 rfl ?_)
  simp only [Try.ntmps16]
  repeat' (first
    | simp only [WL, intF, strF, WM, Int.reduceToNat, ne_eq, reduceCtorEq, not_false_eq_true, Nat.reduceAdd, Nat.reduceSub, Nat.reduceLT, Nat.reduceLeDiff, Nat.reduceEqDiff, Bool.not_true, Bool.not_false, beq_self_eq_true, true_and, and_true, reduceIte, Bool.false_eq_true, T3, T4, Try.results16]
    | simp (disch := first | omega | (simp only [LN_]; omega)) only [wrap_id, getI]
    | with_reducible first | refine andA (hb := ?_)
    | with_reducible refine y_nil (hK := ?_)
    | (with_reducible refine nilTC_split (fun h => ?_) (fun h bn => ?_) <;> (try simp only [List.length_map] at h))
    | ((with_reducible first | refine grd_cases (fun h => ?_) (fun h => ?_) | refine condC_split (fun h => ?_) (fun h => ?_)) <;> (try simp only [h]) <;> (try simp only [NR_, Bool.not_true, Bool.not_false, Bool.not_eq_eq_eq_not, ne_eq] at h))
    | omega | (simp only [LN_]; omega))
  all_goals (refine leafL sub_rfl (leT_eq (congrArg B ?_)) hK; rw [Bool.eq_iff_iff]; simp only [wordI, decide_eq_true_eq, beq_iff_eq, Bool.false_eq_true, false_iff, true_iff, eq_self]; omega)

-- chars.Hex
set_option maxHeartbeats 4000000 in
theorem cHex {c : Int} (hK : K (.ret (I (hexI c))) σ) : ACallF κ Try.prog 118 [I c] σ K := by
  refine ACallF.dropL (ACallF_intro Try.func118 rfl ?_)
  simp only [Try.ntmps118]
  repeat' (first
    | simp only [WL, intF, strF, WM, Int.reduceToNat, ne_eq, reduceCtorEq, not_false_eq_true, Nat.reduceAdd, Nat.reduceSub, Nat.reduceLT, Nat.reduceLeDiff, Nat.reduceEqDiff, Bool.not_true, Bool.not_false, beq_self_eq_true, true_and, and_true, reduceIte, Bool.false_eq_true, T3, T4, cok115, Try.results118]
    | simp (disch := first | omega | (simp only [LN_]; omega)) only [wrap_id, getI]
    | with_reducible first | refine andA (hb := ?_) | refine cD (within ?_)
    | with_reducible refine y_nil (hK := ?_)
    | (with_reducible refine nilTC_split (fun h => ?_) (fun h bn => ?_) <;> (try simp only [List.length_map] at h))
    | ((with_reducible first | refine grd_cases (fun h => ?_) (fun h => ?_) | refine condC_split (fun h => ?_) (fun h => ?_)) <;> (try simp only [h]) <;> (try simp only [NR_, Bool.not_true, Bool.not_false, Bool.not_eq_eq_eq_not, ne_eq] at h))
    | omega | (simp only [LN_]; omega))
  all_goals (refine leafL sub_rfl (leT_eq (congrArg I ?_)) hK; unfold hexI; (repeat' split) <;> omega)

-- marginaliaref1.Hex
set_option maxHeartbeats 4000000 in
theorem rHex {c : Int} (hK : K (.ret (I (hexI c))) σ) : ACallF κ Try.prog 78 [I c] σ K := by
  refine ACallF.dropL (ACallF_intro Try.func78 rfl ?_)
  simp only [Try.ntmps78]
  repeat' (first
    | simp only [WL, intF, strF, WM, Int.reduceToNat, ne_eq, reduceCtorEq, not_false_eq_true, Nat.reduceAdd, Nat.reduceSub, Nat.reduceLT, Nat.reduceLeDiff, Nat.reduceEqDiff, Bool.not_true, Bool.not_false, beq_self_eq_true, true_and, and_true, reduceIte, Bool.false_eq_true, T3, T4, Try.results78]
    | simp (disch := first | omega | (simp only [LN_]; omega)) only [wrap_id, getI]
    | with_reducible first | refine andA (hb := ?_)
    | with_reducible refine y_nil (hK := ?_)
    | (with_reducible refine nilTC_split (fun h => ?_) (fun h bn => ?_) <;> (try simp only [List.length_map] at h))
    | ((with_reducible first | refine grd_cases (fun h => ?_) (fun h => ?_) | refine condC_split (fun h => ?_) (fun h => ?_)) <;> (try simp only [h]) <;> (try simp only [NR_, Bool.not_true, Bool.not_false, Bool.not_eq_eq_eq_not, ne_eq] at h))
    | omega | (simp only [LN_]; omega))
  all_goals (refine leafL sub_rfl (leT_eq (congrArg I ?_)) hK; unfold hexI; (repeat' split) <;> omega)
end Go.Proofs.Ytaeacialcbahnaa
