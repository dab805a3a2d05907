/-
  Walks: chapter 16, what is told short.
-/
import Derived.Test.YtaeacialcbahnaaTa
import Derived.Test.YtaeacialcbahnaaSo
namespace Go.Proofs.Ytaeacialcbahnaa
open Go.Abs
set_option linter.unusedVariables false
set_option linter.unusedSimpArgs false
-- hb: 8000000
variable {κ : Ctx} {σ : List Res} {K : Ret → List Res → Prop} {o o' : Option (Option (Nat × Nat))}
def yB : ByteArray := { data := #[116, 97, 103, 58, 121, 97, 109, 108, 46, 111, 114, 103, 44, 50, 48, 48, 50, 58] }
def bangB : ByteArray := { data := #[33] }
def bang2B : ByteArray := { data := #[33, 33] }
def lessB : ByteArray := { data := #[60] }
set_option maxHeartbeats 8000000 in
theorem lt_y : ({ data := #[116, 97, 103, 58, 121, 97, 109, 108, 46, 111, 114, 103, 44, 50, 48, 48, 50, 58] } : ByteArray) = yB := rfl
set_option maxHeartbeats 8000000 in
theorem lt_b : ({ data := #[33] } : ByteArray) = bangB := rfl
set_option maxHeartbeats 8000000 in
theorem lt_b2 : ({ data := #[33, 33] } : ByteArray) = bang2B := rfl
set_option maxHeartbeats 8000000 in
theorem lt_l : ({ data := #[60] } : ByteArray) = lessB := rfl
set_option maxHeartbeats 8000000 in
theorem z_y : yB.size = 18 := by decide +kernel
set_option maxHeartbeats 8000000 in
theorem z_b : bangB.size = 1 := by decide +kernel
set_option maxHeartbeats 8000000 in
theorem z_b2 : bang2B.size = 2 := by decide +kernel
set_option maxHeartbeats 8000000 in
theorem z_l : lessB.size = 1 := by decide +kernel
set_option maxHeartbeats 8000000 in
theorem z_ext {s : ByteArray} (a : Nat) : (s.extract a s.size).size ≤ s.size := by rw [ByteArray.size_extract]; omega
def shortB (s : ByteArray) : ByteArray × Bool :=
  if hasB s yB = true ∧ wordsB (s.extract 18 s.size) = true then (bang2B ++ s.extract 18 s.size, true)
  else if hasB s bangB = true ∧ wordsB (s.extract 1 s.size) = true then (s, true)
  else if validI (bytesI s) = true then (lessB ++ s, true) else (({ data := #[] } : ByteArray), false)

-- tags.Short
set_option maxHeartbeats 8000000 in
theorem tShort {s : ByteArray} (hs : s.size ≤ 1000000) (hK : K (.ret (.tup [.raw (.string (shortB s).1), B (shortB s).2])) σ) : ACallF κ Try.prog 28 [.raw (.string s)] σ K := by
  have y1 := z_y
  have y2 := z_b
  have y3 := z_b2
  have y4 := z_l
  have e1 := z_ext (s := s) 18
  have e2 := z_ext (s := s) 1
  have k1 : cutB s yB = if hasB s yB = true then (s.extract 18 s.size, true) else (s, false) := rfl
  have k2 : cutB s bangB = if hasB s bangB = true then (s.extract 1 s.size, true) else (s, false) := rfl
  unfold shortB at hK
  by_cases h1 : hasB s yB = true ∧ wordsB (s.extract 18 s.size) = true
  · rw [if_pos h1] at hK
    rw [if_pos h1.1] at k1
    have w1 := h1.2
    refine ACallF.dropL (ACallF_intro Try.func28 rfl ?_)
    simp only [Try.ntmps28]
    repeat' (first
      | simp only [WL, intF, strF, WM, Int.reduceToNat, ne_eq, reduceCtorEq, not_false_eq_true, Nat.reduceAdd, Nat.reduceSub, Nat.reduceLT, Nat.reduceLeDiff, Nat.reduceEqDiff, Bool.not_true, Bool.not_false, beq_self_eq_true, true_and, and_true, reduceIte, Bool.false_eq_true, T4, T9, cok18, cok57, cok62, Try.results28, lt_y, lt_b, lt_b2, lt_l, k1, w1]
      | simp (disch := first | omega | (simp only [LN_]; omega)) only [wrap_id, getI, str_add]
      | with_reducible first | refine andA (hb := ?_) | refine cD (pValid ?_ ?_) | refine cD (sCutP ?_) | refine cD (tWords ?_ ?_)
      | with_reducible refine y_nil (hK := ?_)
      | (with_reducible refine nilTC_split (fun h => ?_) (fun h bn => ?_) <;> (try simp only [List.length_map] at h))
      | ((with_reducible first | refine grd_cases (fun h => ?_) (fun h => ?_) | refine condC_split (fun h => ?_) (fun h => ?_)) <;> (try simp only [h]) <;> (try simp only [NR_, Bool.not_true, Bool.not_false, Bool.not_eq_eq_eq_not, ne_eq] at h))
      | omega | (simp only [LN_]; omega))
    all_goals first
      | exact leafL sub_rfl (leT_eq rfl) hK
      | trace_state
  rw [if_neg h1] at hK
  by_cases h2 : hasB s bangB = true ∧ wordsB (s.extract 1 s.size) = true
  · rw [if_pos h2] at hK
    rw [if_pos h2.1] at k2
    have w2 := h2.2
    cases h3 : hasB s yB
    · rw [if_neg (by rw [h3]; decide)] at k1
      refine ACallF.dropL (ACallF_intro Try.func28 rfl ?_)
      simp only [Try.ntmps28]
      repeat' (first
        | simp only [WL, intF, strF, WM, Int.reduceToNat, ne_eq, reduceCtorEq, not_false_eq_true, Nat.reduceAdd, Nat.reduceSub, Nat.reduceLT, Nat.reduceLeDiff, Nat.reduceEqDiff, Bool.not_true, Bool.not_false, beq_self_eq_true, true_and, and_true, reduceIte, Bool.false_eq_true, T4, T9, cok18, cok57, cok62, Try.results28, lt_y, lt_b, lt_b2, lt_l, k1, k2, w2]
        | simp (disch := first | omega | (simp only [LN_]; omega)) only [wrap_id, getI, str_add]
        | with_reducible first | refine andA (hb := ?_) | refine cD (pValid ?_ ?_) | refine cD (sCutP ?_) | refine cD (tWords ?_ ?_)
        | with_reducible refine y_nil (hK := ?_)
        | (with_reducible refine nilTC_split (fun h => ?_) (fun h bn => ?_) <;> (try simp only [List.length_map] at h))
        | ((with_reducible first | refine grd_cases (fun h => ?_) (fun h => ?_) | refine condC_split (fun h => ?_) (fun h => ?_)) <;> (try simp only [h]) <;> (try simp only [NR_, Bool.not_true, Bool.not_false, Bool.not_eq_eq_eq_not, ne_eq] at h))
        | omega | (simp only [LN_]; omega))
      all_goals first
        | exact leafL sub_rfl (leT_eq rfl) hK
        | trace_state
    · rw [if_pos h3] at k1
      have w1 : wordsB (s.extract 18 s.size) = false := Bool.eq_false_iff.mpr fun e => h1 ⟨h3, e⟩
      refine ACallF.dropL (ACallF_intro Try.func28 rfl ?_)
      simp only [Try.ntmps28]
      repeat' (first
        | simp only [WL, intF, strF, WM, Int.reduceToNat, ne_eq, reduceCtorEq, not_false_eq_true, Nat.reduceAdd, Nat.reduceSub, Nat.reduceLT, Nat.reduceLeDiff, Nat.reduceEqDiff, Bool.not_true, Bool.not_false, beq_self_eq_true, true_and, and_true, reduceIte, Bool.false_eq_true, T4, T9, cok18, cok57, cok62, Try.results28, lt_y, lt_b, lt_b2, lt_l, k1, k2, w1, w2]
        | simp (disch := first | omega | (simp only [LN_]; omega)) only [wrap_id, getI, str_add]
        | with_reducible first | refine andA (hb := ?_) | refine cD (pValid ?_ ?_) | refine cD (sCutP ?_) | refine cD (tWords ?_ ?_)
        | with_reducible refine y_nil (hK := ?_)
        | (with_reducible refine nilTC_split (fun h => ?_) (fun h bn => ?_) <;> (try simp only [List.length_map] at h))
        | ((with_reducible first | refine grd_cases (fun h => ?_) (fun h => ?_) | refine condC_split (fun h => ?_) (fun h => ?_)) <;> (try simp only [h]) <;> (try simp only [NR_, Bool.not_true, Bool.not_false, Bool.not_eq_eq_eq_not, ne_eq] at h))
        | omega | (simp only [LN_]; omega))
      all_goals first
        | exact leafL sub_rfl (leT_eq rfl) hK
        | trace_state
  rw [if_neg h2] at hK
  have hend : ∀ {X : Prop}, (validI (bytesI s) = true → X) → (validI (bytesI s) = false → X) → X := fun a b => by cases h : validI (bytesI s) <;> simp_all
  cases h3 : hasB s yB <;> cases h4 : hasB s bangB
  · rw [if_neg (by rw [h3]; decide)] at k1
    rw [if_neg (by rw [h4]; decide)] at k2
    cases hv : validI (bytesI s) <;> simp only [hv, if_true, Bool.false_eq_true, if_false] at hK
    · skip
      refine ACallF.dropL (ACallF_intro Try.func28 rfl ?_)
      simp only [Try.ntmps28]
      repeat' (first
        | simp only [WL, intF, strF, WM, Int.reduceToNat, ne_eq, reduceCtorEq, not_false_eq_true, Nat.reduceAdd, Nat.reduceSub, Nat.reduceLT, Nat.reduceLeDiff, Nat.reduceEqDiff, Bool.not_true, Bool.not_false, beq_self_eq_true, true_and, and_true, reduceIte, Bool.false_eq_true, T4, T9, cok18, cok57, cok62, Try.results28, lt_y, lt_b, lt_b2, lt_l, k1, k2, hv]
        | simp (disch := first | omega | (simp only [LN_]; omega)) only [wrap_id, getI, str_add]
        | with_reducible first | refine andA (hb := ?_) | refine cD (pValid ?_ ?_) | refine cD (sCutP ?_) | refine cD (tWords ?_ ?_)
        | with_reducible refine y_nil (hK := ?_)
        | (with_reducible refine nilTC_split (fun h => ?_) (fun h bn => ?_) <;> (try simp only [List.length_map] at h))
        | ((with_reducible first | refine grd_cases (fun h => ?_) (fun h => ?_) | refine condC_split (fun h => ?_) (fun h => ?_)) <;> (try simp only [h]) <;> (try simp only [NR_, Bool.not_true, Bool.not_false, Bool.not_eq_eq_eq_not, ne_eq] at h))
        | omega | (simp only [LN_]; omega))
      all_goals first
        | exact leafL sub_rfl (leT_eq rfl) hK
        | trace_state
    · skip
      refine ACallF.dropL (ACallF_intro Try.func28 rfl ?_)
      simp only [Try.ntmps28]
      repeat' (first
        | simp only [WL, intF, strF, WM, Int.reduceToNat, ne_eq, reduceCtorEq, not_false_eq_true, Nat.reduceAdd, Nat.reduceSub, Nat.reduceLT, Nat.reduceLeDiff, Nat.reduceEqDiff, Bool.not_true, Bool.not_false, beq_self_eq_true, true_and, and_true, reduceIte, Bool.false_eq_true, T4, T9, cok18, cok57, cok62, Try.results28, lt_y, lt_b, lt_b2, lt_l, k1, k2, hv]
        | simp (disch := first | omega | (simp only [LN_]; omega)) only [wrap_id, getI, str_add]
        | with_reducible first | refine andA (hb := ?_) | refine cD (pValid ?_ ?_) | refine cD (sCutP ?_) | refine cD (tWords ?_ ?_)
        | with_reducible refine y_nil (hK := ?_)
        | (with_reducible refine nilTC_split (fun h => ?_) (fun h bn => ?_) <;> (try simp only [List.length_map] at h))
        | ((with_reducible first | refine grd_cases (fun h => ?_) (fun h => ?_) | refine condC_split (fun h => ?_) (fun h => ?_)) <;> (try simp only [h]) <;> (try simp only [NR_, Bool.not_true, Bool.not_false, Bool.not_eq_eq_eq_not, ne_eq] at h))
        | omega | (simp only [LN_]; omega))
      all_goals first
        | exact leafL sub_rfl (leT_eq rfl) hK
        | trace_state
  · rw [if_neg (by rw [h3]; decide)] at k1
    rw [if_pos h4] at k2
    have w2 : wordsB (s.extract 1 s.size) = false := Bool.eq_false_iff.mpr fun e => h2 ⟨h4, e⟩
    cases hv : validI (bytesI s) <;> simp only [hv, if_true, Bool.false_eq_true, if_false] at hK
    · skip
      refine ACallF.dropL (ACallF_intro Try.func28 rfl ?_)
      simp only [Try.ntmps28]
      repeat' (first
        | simp only [WL, intF, strF, WM, Int.reduceToNat, ne_eq, reduceCtorEq, not_false_eq_true, Nat.reduceAdd, Nat.reduceSub, Nat.reduceLT, Nat.reduceLeDiff, Nat.reduceEqDiff, Bool.not_true, Bool.not_false, beq_self_eq_true, true_and, and_true, reduceIte, Bool.false_eq_true, T4, T9, cok18, cok57, cok62, Try.results28, lt_y, lt_b, lt_b2, lt_l, k1, k2, w2, hv]
        | simp (disch := first | omega | (simp only [LN_]; omega)) only [wrap_id, getI, str_add]
        | with_reducible first | refine andA (hb := ?_) | refine cD (pValid ?_ ?_) | refine cD (sCutP ?_) | refine cD (tWords ?_ ?_)
        | with_reducible refine y_nil (hK := ?_)
        | (with_reducible refine nilTC_split (fun h => ?_) (fun h bn => ?_) <;> (try simp only [List.length_map] at h))
        | ((with_reducible first | refine grd_cases (fun h => ?_) (fun h => ?_) | refine condC_split (fun h => ?_) (fun h => ?_)) <;> (try simp only [h]) <;> (try simp only [NR_, Bool.not_true, Bool.not_false, Bool.not_eq_eq_eq_not, ne_eq] at h))
        | omega | (simp only [LN_]; omega))
      all_goals first
        | exact leafL sub_rfl (leT_eq rfl) hK
        | trace_state
    · skip
      refine ACallF.dropL (ACallF_intro Try.func28 rfl ?_)
      simp only [Try.ntmps28]
      repeat' (first
        | simp only [WL, intF, strF, WM, Int.reduceToNat, ne_eq, reduceCtorEq, not_false_eq_true, Nat.reduceAdd, Nat.reduceSub, Nat.reduceLT, Nat.reduceLeDiff, Nat.reduceEqDiff, Bool.not_true, Bool.not_false, beq_self_eq_true, true_and, and_true, reduceIte, Bool.false_eq_true, T4, T9, cok18, cok57, cok62, Try.results28, lt_y, lt_b, lt_b2, lt_l, k1, k2, w2, hv]
        | simp (disch := first | omega | (simp only [LN_]; omega)) only [wrap_id, getI, str_add]
        | with_reducible first | refine andA (hb := ?_) | refine cD (pValid ?_ ?_) | refine cD (sCutP ?_) | refine cD (tWords ?_ ?_)
        | with_reducible refine y_nil (hK := ?_)
        | (with_reducible refine nilTC_split (fun h => ?_) (fun h bn => ?_) <;> (try simp only [List.length_map] at h))
        | ((with_reducible first | refine grd_cases (fun h => ?_) (fun h => ?_) | refine condC_split (fun h => ?_) (fun h => ?_)) <;> (try simp only [h]) <;> (try simp only [NR_, Bool.not_true, Bool.not_false, Bool.not_eq_eq_eq_not, ne_eq] at h))
        | omega | (simp only [LN_]; omega))
      all_goals first
        | exact leafL sub_rfl (leT_eq rfl) hK
        | trace_state
  · rw [if_pos h3] at k1
    rw [if_neg (by rw [h4]; decide)] at k2
    have w1 : wordsB (s.extract 18 s.size) = false := Bool.eq_false_iff.mpr fun e => h1 ⟨h3, e⟩
    cases hv : validI (bytesI s) <;> simp only [hv, if_true, Bool.false_eq_true, if_false] at hK
    · skip
      refine ACallF.dropL (ACallF_intro Try.func28 rfl ?_)
      simp only [Try.ntmps28]
      repeat' (first
        | simp only [WL, intF, strF, WM, Int.reduceToNat, ne_eq, reduceCtorEq, not_false_eq_true, Nat.reduceAdd, Nat.reduceSub, Nat.reduceLT, Nat.reduceLeDiff, Nat.reduceEqDiff, Bool.not_true, Bool.not_false, beq_self_eq_true, true_and, and_true, reduceIte, Bool.false_eq_true, T4, T9, cok18, cok57, cok62, Try.results28, lt_y, lt_b, lt_b2, lt_l, k1, k2, w1, hv]
        | simp (disch := first | omega | (simp only [LN_]; omega)) only [wrap_id, getI, str_add]
        | with_reducible first | refine andA (hb := ?_) | refine cD (pValid ?_ ?_) | refine cD (sCutP ?_) | refine cD (tWords ?_ ?_)
        | with_reducible refine y_nil (hK := ?_)
        | (with_reducible refine nilTC_split (fun h => ?_) (fun h bn => ?_) <;> (try simp only [List.length_map] at h))
        | ((with_reducible first | refine grd_cases (fun h => ?_) (fun h => ?_) | refine condC_split (fun h => ?_) (fun h => ?_)) <;> (try simp only [h]) <;> (try simp only [NR_, Bool.not_true, Bool.not_false, Bool.not_eq_eq_eq_not, ne_eq] at h))
        | omega | (simp only [LN_]; omega))
      all_goals first
        | exact leafL sub_rfl (leT_eq rfl) hK
        | trace_state
    · skip
      refine ACallF.dropL (ACallF_intro Try.func28 rfl ?_)
      simp only [Try.ntmps28]
      repeat' (first
        | simp only [WL, intF, strF, WM, Int.reduceToNat, ne_eq, reduceCtorEq, not_false_eq_true, Nat.reduceAdd, Nat.reduceSub, Nat.reduceLT, Nat.reduceLeDiff, Nat.reduceEqDiff, Bool.not_true, Bool.not_false, beq_self_eq_true, true_and, and_true, reduceIte, Bool.false_eq_true, T4, T9, cok18, cok57, cok62, Try.results28, lt_y, lt_b, lt_b2, lt_l, k1, k2, w1, hv]
        | simp (disch := first | omega | (simp only [LN_]; omega)) only [wrap_id, getI, str_add]
        | with_reducible first | refine andA (hb := ?_) | refine cD (pValid ?_ ?_) | refine cD (sCutP ?_) | refine cD (tWords ?_ ?_)
        | with_reducible refine y_nil (hK := ?_)
        | (with_reducible refine nilTC_split (fun h => ?_) (fun h bn => ?_) <;> (try simp only [List.length_map] at h))
        | ((with_reducible first | refine grd_cases (fun h => ?_) (fun h => ?_) | refine condC_split (fun h => ?_) (fun h => ?_)) <;> (try simp only [h]) <;> (try simp only [NR_, Bool.not_true, Bool.not_false, Bool.not_eq_eq_eq_not, ne_eq] at h))
        | omega | (simp only [LN_]; omega))
      all_goals first
        | exact leafL sub_rfl (leT_eq rfl) hK
        | trace_state
  · rw [if_pos h3] at k1
    rw [if_pos h4] at k2
    have w1 : wordsB (s.extract 18 s.size) = false := Bool.eq_false_iff.mpr fun e => h1 ⟨h3, e⟩
    have w2 : wordsB (s.extract 1 s.size) = false := Bool.eq_false_iff.mpr fun e => h2 ⟨h4, e⟩
    cases hv : validI (bytesI s) <;> simp only [hv, if_true, Bool.false_eq_true, if_false] at hK
    · skip
      refine ACallF.dropL (ACallF_intro Try.func28 rfl ?_)
      simp only [Try.ntmps28]
      repeat' (first
        | simp only [WL, intF, strF, WM, Int.reduceToNat, ne_eq, reduceCtorEq, not_false_eq_true, Nat.reduceAdd, Nat.reduceSub, Nat.reduceLT, Nat.reduceLeDiff, Nat.reduceEqDiff, Bool.not_true, Bool.not_false, beq_self_eq_true, true_and, and_true, reduceIte, Bool.false_eq_true, T4, T9, cok18, cok57, cok62, Try.results28, lt_y, lt_b, lt_b2, lt_l, k1, k2, w1, w2, hv]
        | simp (disch := first | omega | (simp only [LN_]; omega)) only [wrap_id, getI, str_add]
        | with_reducible first | refine andA (hb := ?_) | refine cD (pValid ?_ ?_) | refine cD (sCutP ?_) | refine cD (tWords ?_ ?_)
        | with_reducible refine y_nil (hK := ?_)
        | (with_reducible refine nilTC_split (fun h => ?_) (fun h bn => ?_) <;> (try simp only [List.length_map] at h))
        | ((with_reducible first | refine grd_cases (fun h => ?_) (fun h => ?_) | refine condC_split (fun h => ?_) (fun h => ?_)) <;> (try simp only [h]) <;> (try simp only [NR_, Bool.not_true, Bool.not_false, Bool.not_eq_eq_eq_not, ne_eq] at h))
        | omega | (simp only [LN_]; omega))
      all_goals first
        | exact leafL sub_rfl (leT_eq rfl) hK
        | trace_state
    · skip
      refine ACallF.dropL (ACallF_intro Try.func28 rfl ?_)
      simp only [Try.ntmps28]
      repeat' (first
        | simp only [WL, intF, strF, WM, Int.reduceToNat, ne_eq, reduceCtorEq, not_false_eq_true, Nat.reduceAdd, Nat.reduceSub, Nat.reduceLT, Nat.reduceLeDiff, Nat.reduceEqDiff, Bool.not_true, Bool.not_false, beq_self_eq_true, true_and, and_true, reduceIte, Bool.false_eq_true, T4, T9, cok18, cok57, cok62, Try.results28, lt_y, lt_b, lt_b2, lt_l, k1, k2, w1, w2, hv]
        | simp (disch := first | omega | (simp only [LN_]; omega)) only [wrap_id, getI, str_add]
        | with_reducible first | refine andA (hb := ?_) | refine cD (pValid ?_ ?_) | refine cD (sCutP ?_) | refine cD (tWords ?_ ?_)
        | with_reducible refine y_nil (hK := ?_)
        | (with_reducible refine nilTC_split (fun h => ?_) (fun h bn => ?_) <;> (try simp only [List.length_map] at h))
        | ((with_reducible first | refine grd_cases (fun h => ?_) (fun h => ?_) | refine condC_split (fun h => ?_) (fun h => ?_)) <;> (try simp only [h]) <;> (try simp only [NR_, Bool.not_true, Bool.not_false, Bool.not_eq_eq_eq_not, ne_eq] at h))
        | omega | (simp only [LN_]; omega))
      all_goals first
        | exact leafL sub_rfl (leT_eq rfl) hK
        | trace_state
-- marginaliaref13.Short
set_option maxHeartbeats 8000000 in
theorem rShort {s : ByteArray} (hs : s.size ≤ 1000000) (hK : K (.ret (.tup [.raw (.string (shortB s).1), B (shortB s).2])) σ) : ACallF κ Try.prog 29 [.raw (.string s)] σ K := by
  have y1 := z_y
  have y2 := z_b
  have y3 := z_b2
  have y4 := z_l
  have e1 := z_ext (s := s) 18
  have e2 := z_ext (s := s) 1
  have l1 : hasB s yB = true → 18 ≤ s.size := fun h => by have := hasB_le h; omega
  have l2 : hasB s bangB = true → 1 ≤ s.size := fun h => by have := hasB_le h; omega
  unfold shortB at hK
  by_cases h1 : hasB s yB = true ∧ wordsB (s.extract 18 s.size) = true
  · rw [if_pos h1] at hK
    obtain ⟨h3, w1⟩ := h1
    have l1 := l1 h3
    refine ACallF.dropL (ACallF_intro Try.func29 rfl ?_)
    simp only [Try.ntmps29]
    repeat' (first
      | simp only [WL, intF, strF, WM, Int.reduceToNat, ne_eq, reduceCtorEq, not_false_eq_true, Nat.reduceAdd, Nat.reduceSub, Nat.reduceLT, Nat.reduceLeDiff, Nat.reduceEqDiff, Bool.not_true, Bool.not_false, beq_self_eq_true, true_and, and_true, reduceIte, Bool.false_eq_true, T3, T4, T9, cok13, cok63, cok64, Try.results29, lt_y, lt_b, lt_b2, lt_l, z_y, h3, w1]
      | simp (disch := first | omega | (simp only [LN_]; omega)) only [wrap_id, getI, str_add]
      | with_reducible first | refine andA (hb := ?_) | refine cD (rValid ?_ ?_) | refine cD (rBegins ?_) | refine cD (rWords ?_ ?_)
      | with_reducible refine y_nil (hK := ?_)
      | (with_reducible refine nilTC_split (fun h => ?_) (fun h bn => ?_) <;> (try simp only [List.length_map] at h))
      | ((with_reducible first | refine grd_cases (fun h => ?_) (fun h => ?_) | refine condC_split (fun h => ?_) (fun h => ?_)) <;> (try simp only [h]) <;> (try simp only [NR_, Bool.not_true, Bool.not_false, Bool.not_eq_eq_eq_not, ne_eq] at h))
      | omega | (simp only [LN_]; omega))
    all_goals first
      | exact leafL sub_rfl (leT_eq rfl) hK
      | trace_state
  rw [if_neg h1] at hK
  by_cases h2 : hasB s bangB = true ∧ wordsB (s.extract 1 s.size) = true
  · rw [if_pos h2] at hK
    obtain ⟨h4, w2⟩ := h2
    have l2 := l2 h4
    cases h3 : hasB s yB
    · skip
      refine ACallF.dropL (ACallF_intro Try.func29 rfl ?_)
      simp only [Try.ntmps29]
      repeat' (first
        | simp only [WL, intF, strF, WM, Int.reduceToNat, ne_eq, reduceCtorEq, not_false_eq_true, Nat.reduceAdd, Nat.reduceSub, Nat.reduceLT, Nat.reduceLeDiff, Nat.reduceEqDiff, Bool.not_true, Bool.not_false, beq_self_eq_true, true_and, and_true, reduceIte, Bool.false_eq_true, T3, T4, T9, cok13, cok63, cok64, Try.results29, lt_y, lt_b, lt_b2, lt_l, z_y, h3, h4, w2]
        | simp (disch := first | omega | (simp only [LN_]; omega)) only [wrap_id, getI, str_add]
        | with_reducible first | refine andA (hb := ?_) | refine cD (rValid ?_ ?_) | refine cD (rBegins ?_) | refine cD (rWords ?_ ?_)
        | with_reducible refine y_nil (hK := ?_)
        | (with_reducible refine nilTC_split (fun h => ?_) (fun h bn => ?_) <;> (try simp only [List.length_map] at h))
        | ((with_reducible first | refine grd_cases (fun h => ?_) (fun h => ?_) | refine condC_split (fun h => ?_) (fun h => ?_)) <;> (try simp only [h]) <;> (try simp only [NR_, Bool.not_true, Bool.not_false, Bool.not_eq_eq_eq_not, ne_eq] at h))
        | omega | (simp only [LN_]; omega))
      all_goals first
        | exact leafL sub_rfl (leT_eq rfl) hK
        | trace_state
    · have l1 := l1 h3
      have w1 : wordsB (s.extract 18 s.size) = false := Bool.eq_false_iff.mpr fun e => h1 ⟨h3, e⟩
      refine ACallF.dropL (ACallF_intro Try.func29 rfl ?_)
      simp only [Try.ntmps29]
      repeat' (first
        | simp only [WL, intF, strF, WM, Int.reduceToNat, ne_eq, reduceCtorEq, not_false_eq_true, Nat.reduceAdd, Nat.reduceSub, Nat.reduceLT, Nat.reduceLeDiff, Nat.reduceEqDiff, Bool.not_true, Bool.not_false, beq_self_eq_true, true_and, and_true, reduceIte, Bool.false_eq_true, T3, T4, T9, cok13, cok63, cok64, Try.results29, lt_y, lt_b, lt_b2, lt_l, z_y, h3, h4, w1, w2]
        | simp (disch := first | omega | (simp only [LN_]; omega)) only [wrap_id, getI, str_add]
        | with_reducible first | refine andA (hb := ?_) | refine cD (rValid ?_ ?_) | refine cD (rBegins ?_) | refine cD (rWords ?_ ?_)
        | with_reducible refine y_nil (hK := ?_)
        | (with_reducible refine nilTC_split (fun h => ?_) (fun h bn => ?_) <;> (try simp only [List.length_map] at h))
        | ((with_reducible first | refine grd_cases (fun h => ?_) (fun h => ?_) | refine condC_split (fun h => ?_) (fun h => ?_)) <;> (try simp only [h]) <;> (try simp only [NR_, Bool.not_true, Bool.not_false, Bool.not_eq_eq_eq_not, ne_eq] at h))
        | omega | (simp only [LN_]; omega))
      all_goals first
        | exact leafL sub_rfl (leT_eq rfl) hK
        | trace_state
  rw [if_neg h2] at hK
  cases h3 : hasB s yB <;> cases h4 : hasB s bangB
  · skip
    cases hv : validI (bytesI s) <;> simp only [hv, if_true, Bool.false_eq_true, if_false] at hK
    · skip
      refine ACallF.dropL (ACallF_intro Try.func29 rfl ?_)
      simp only [Try.ntmps29]
      repeat' (first
        | simp only [WL, intF, strF, WM, Int.reduceToNat, ne_eq, reduceCtorEq, not_false_eq_true, Nat.reduceAdd, Nat.reduceSub, Nat.reduceLT, Nat.reduceLeDiff, Nat.reduceEqDiff, Bool.not_true, Bool.not_false, beq_self_eq_true, true_and, and_true, reduceIte, Bool.false_eq_true, T3, T4, T9, cok13, cok63, cok64, Try.results29, lt_y, lt_b, lt_b2, lt_l, z_y, h3, h4, hv]
        | simp (disch := first | omega | (simp only [LN_]; omega)) only [wrap_id, getI, str_add]
        | with_reducible first | refine andA (hb := ?_) | refine cD (rValid ?_ ?_) | refine cD (rBegins ?_) | refine cD (rWords ?_ ?_)
        | with_reducible refine y_nil (hK := ?_)
        | (with_reducible refine nilTC_split (fun h => ?_) (fun h bn => ?_) <;> (try simp only [List.length_map] at h))
        | ((with_reducible first | refine grd_cases (fun h => ?_) (fun h => ?_) | refine condC_split (fun h => ?_) (fun h => ?_)) <;> (try simp only [h]) <;> (try simp only [NR_, Bool.not_true, Bool.not_false, Bool.not_eq_eq_eq_not, ne_eq] at h))
        | omega | (simp only [LN_]; omega))
      all_goals first
        | exact leafL sub_rfl (leT_eq rfl) hK
        | trace_state
    · skip
      refine ACallF.dropL (ACallF_intro Try.func29 rfl ?_)
      simp only [Try.ntmps29]
      repeat' (first
        | simp only [WL, intF, strF, WM, Int.reduceToNat, ne_eq, reduceCtorEq, not_false_eq_true, Nat.reduceAdd, Nat.reduceSub, Nat.reduceLT, Nat.reduceLeDiff, Nat.reduceEqDiff, Bool.not_true, Bool.not_false, beq_self_eq_true, true_and, and_true, reduceIte, Bool.false_eq_true, T3, T4, T9, cok13, cok63, cok64, Try.results29, lt_y, lt_b, lt_b2, lt_l, z_y, h3, h4, hv]
        | simp (disch := first | omega | (simp only [LN_]; omega)) only [wrap_id, getI, str_add]
        | with_reducible first | refine andA (hb := ?_) | refine cD (rValid ?_ ?_) | refine cD (rBegins ?_) | refine cD (rWords ?_ ?_)
        | with_reducible refine y_nil (hK := ?_)
        | (with_reducible refine nilTC_split (fun h => ?_) (fun h bn => ?_) <;> (try simp only [List.length_map] at h))
        | ((with_reducible first | refine grd_cases (fun h => ?_) (fun h => ?_) | refine condC_split (fun h => ?_) (fun h => ?_)) <;> (try simp only [h]) <;> (try simp only [NR_, Bool.not_true, Bool.not_false, Bool.not_eq_eq_eq_not, ne_eq] at h))
        | omega | (simp only [LN_]; omega))
      all_goals first
        | exact leafL sub_rfl (leT_eq rfl) hK
        | trace_state
  · skip
    have l2 := l2 h4
    have w2 : wordsB (s.extract 1 s.size) = false := Bool.eq_false_iff.mpr fun e => h2 ⟨h4, e⟩
    cases hv : validI (bytesI s) <;> simp only [hv, if_true, Bool.false_eq_true, if_false] at hK
    · skip
      refine ACallF.dropL (ACallF_intro Try.func29 rfl ?_)
      simp only [Try.ntmps29]
      repeat' (first
        | simp only [WL, intF, strF, WM, Int.reduceToNat, ne_eq, reduceCtorEq, not_false_eq_true, Nat.reduceAdd, Nat.reduceSub, Nat.reduceLT, Nat.reduceLeDiff, Nat.reduceEqDiff, Bool.not_true, Bool.not_false, beq_self_eq_true, true_and, and_true, reduceIte, Bool.false_eq_true, T3, T4, T9, cok13, cok63, cok64, Try.results29, lt_y, lt_b, lt_b2, lt_l, z_y, h3, h4, w2, hv]
        | simp (disch := first | omega | (simp only [LN_]; omega)) only [wrap_id, getI, str_add]
        | with_reducible first | refine andA (hb := ?_) | refine cD (rValid ?_ ?_) | refine cD (rBegins ?_) | refine cD (rWords ?_ ?_)
        | with_reducible refine y_nil (hK := ?_)
        | (with_reducible refine nilTC_split (fun h => ?_) (fun h bn => ?_) <;> (try simp only [List.length_map] at h))
        | ((with_reducible first | refine grd_cases (fun h => ?_) (fun h => ?_) | refine condC_split (fun h => ?_) (fun h => ?_)) <;> (try simp only [h]) <;> (try simp only [NR_, Bool.not_true, Bool.not_false, Bool.not_eq_eq_eq_not, ne_eq] at h))
        | omega | (simp only [LN_]; omega))
      all_goals first
        | exact leafL sub_rfl (leT_eq rfl) hK
        | trace_state
    · skip
      refine ACallF.dropL (ACallF_intro Try.func29 rfl ?_)
      simp only [Try.ntmps29]
      repeat' (first
        | simp only [WL, intF, strF, WM, Int.reduceToNat, ne_eq, reduceCtorEq, not_false_eq_true, Nat.reduceAdd, Nat.reduceSub, Nat.reduceLT, Nat.reduceLeDiff, Nat.reduceEqDiff, Bool.not_true, Bool.not_false, beq_self_eq_true, true_and, and_true, reduceIte, Bool.false_eq_true, T3, T4, T9, cok13, cok63, cok64, Try.results29, lt_y, lt_b, lt_b2, lt_l, z_y, h3, h4, w2, hv]
        | simp (disch := first | omega | (simp only [LN_]; omega)) only [wrap_id, getI, str_add]
        | with_reducible first | refine andA (hb := ?_) | refine cD (rValid ?_ ?_) | refine cD (rBegins ?_) | refine cD (rWords ?_ ?_)
        | with_reducible refine y_nil (hK := ?_)
        | (with_reducible refine nilTC_split (fun h => ?_) (fun h bn => ?_) <;> (try simp only [List.length_map] at h))
        | ((with_reducible first | refine grd_cases (fun h => ?_) (fun h => ?_) | refine condC_split (fun h => ?_) (fun h => ?_)) <;> (try simp only [h]) <;> (try simp only [NR_, Bool.not_true, Bool.not_false, Bool.not_eq_eq_eq_not, ne_eq] at h))
        | omega | (simp only [LN_]; omega))
      all_goals first
        | exact leafL sub_rfl (leT_eq rfl) hK
        | trace_state
  · skip
    have l1 := l1 h3
    have w1 : wordsB (s.extract 18 s.size) = false := Bool.eq_false_iff.mpr fun e => h1 ⟨h3, e⟩
    cases hv : validI (bytesI s) <;> simp only [hv, if_true, Bool.false_eq_true, if_false] at hK
    · skip
      refine ACallF.dropL (ACallF_intro Try.func29 rfl ?_)
      simp only [Try.ntmps29]
      repeat' (first
        | simp only [WL, intF, strF, WM, Int.reduceToNat, ne_eq, reduceCtorEq, not_false_eq_true, Nat.reduceAdd, Nat.reduceSub, Nat.reduceLT, Nat.reduceLeDiff, Nat.reduceEqDiff, Bool.not_true, Bool.not_false, beq_self_eq_true, true_and, and_true, reduceIte, Bool.false_eq_true, T3, T4, T9, cok13, cok63, cok64, Try.results29, lt_y, lt_b, lt_b2, lt_l, z_y, h3, h4, w1, hv]
        | simp (disch := first | omega | (simp only [LN_]; omega)) only [wrap_id, getI, str_add]
        | with_reducible first | refine andA (hb := ?_) | refine cD (rValid ?_ ?_) | refine cD (rBegins ?_) | refine cD (rWords ?_ ?_)
        | with_reducible refine y_nil (hK := ?_)
        | (with_reducible refine nilTC_split (fun h => ?_) (fun h bn => ?_) <;> (try simp only [List.length_map] at h))
        | ((with_reducible first | refine grd_cases (fun h => ?_) (fun h => ?_) | refine condC_split (fun h => ?_) (fun h => ?_)) <;> (try simp only [h]) <;> (try simp only [NR_, Bool.not_true, Bool.not_false, Bool.not_eq_eq_eq_not, ne_eq] at h))
        | omega | (simp only [LN_]; omega))
      all_goals first
        | exact leafL sub_rfl (leT_eq rfl) hK
        | trace_state
    · skip
      refine ACallF.dropL (ACallF_intro Try.func29 rfl ?_)
      simp only [Try.ntmps29]
      repeat' (first
        | simp only [WL, intF, strF, WM, Int.reduceToNat, ne_eq, reduceCtorEq, not_false_eq_true, Nat.reduceAdd, Nat.reduceSub, Nat.reduceLT, Nat.reduceLeDiff, Nat.reduceEqDiff, Bool.not_true, Bool.not_false, beq_self_eq_true, true_and, and_true, reduceIte, Bool.false_eq_true, T3, T4, T9, cok13, cok63, cok64, Try.results29, lt_y, lt_b, lt_b2, lt_l, z_y, h3, h4, w1, hv]
        | simp (disch := first | omega | (simp only [LN_]; omega)) only [wrap_id, getI, str_add]
        | with_reducible first | refine andA (hb := ?_) | refine cD (rValid ?_ ?_) | refine cD (rBegins ?_) | refine cD (rWords ?_ ?_)
        | with_reducible refine y_nil (hK := ?_)
        | (with_reducible refine nilTC_split (fun h => ?_) (fun h bn => ?_) <;> (try simp only [List.length_map] at h))
        | ((with_reducible first | refine grd_cases (fun h => ?_) (fun h => ?_) | refine condC_split (fun h => ?_) (fun h => ?_)) <;> (try simp only [h]) <;> (try simp only [NR_, Bool.not_true, Bool.not_false, Bool.not_eq_eq_eq_not, ne_eq] at h))
        | omega | (simp only [LN_]; omega))
      all_goals first
        | exact leafL sub_rfl (leT_eq rfl) hK
        | trace_state
  · skip
    have l1 := l1 h3
    have w1 : wordsB (s.extract 18 s.size) = false := Bool.eq_false_iff.mpr fun e => h1 ⟨h3, e⟩
    have l2 := l2 h4
    have w2 : wordsB (s.extract 1 s.size) = false := Bool.eq_false_iff.mpr fun e => h2 ⟨h4, e⟩
    cases hv : validI (bytesI s) <;> simp only [hv, if_true, Bool.false_eq_true, if_false] at hK
    · skip
      refine ACallF.dropL (ACallF_intro Try.func29 rfl ?_)
      simp only [Try.ntmps29]
      repeat' (first
        | simp only [WL, intF, strF, WM, Int.reduceToNat, ne_eq, reduceCtorEq, not_false_eq_true, Nat.reduceAdd, Nat.reduceSub, Nat.reduceLT, Nat.reduceLeDiff, Nat.reduceEqDiff, Bool.not_true, Bool.not_false, beq_self_eq_true, true_and, and_true, reduceIte, Bool.false_eq_true, T3, T4, T9, cok13, cok63, cok64, Try.results29, lt_y, lt_b, lt_b2, lt_l, z_y, h3, h4, w1, w2, hv]
        | simp (disch := first | omega | (simp only [LN_]; omega)) only [wrap_id, getI, str_add]
        | with_reducible first | refine andA (hb := ?_) | refine cD (rValid ?_ ?_) | refine cD (rBegins ?_) | refine cD (rWords ?_ ?_)
        | with_reducible refine y_nil (hK := ?_)
        | (with_reducible refine nilTC_split (fun h => ?_) (fun h bn => ?_) <;> (try simp only [List.length_map] at h))
        | ((with_reducible first | refine grd_cases (fun h => ?_) (fun h => ?_) | refine condC_split (fun h => ?_) (fun h => ?_)) <;> (try simp only [h]) <;> (try simp only [NR_, Bool.not_true, Bool.not_false, Bool.not_eq_eq_eq_not, ne_eq] at h))
        | omega | (simp only [LN_]; omega))
      all_goals first
        | exact leafL sub_rfl (leT_eq rfl) hK
        | trace_state
    · skip
      refine ACallF.dropL (ACallF_intro Try.func29 rfl ?_)
      simp only [Try.ntmps29]
      repeat' (first
        | simp only [WL, intF, strF, WM, Int.reduceToNat, ne_eq, reduceCtorEq, not_false_eq_true, Nat.reduceAdd, Nat.reduceSub, Nat.reduceLT, Nat.reduceLeDiff, Nat.reduceEqDiff, Bool.not_true, Bool.not_false, beq_self_eq_true, true_and, and_true, reduceIte, Bool.false_eq_true, T3, T4, T9, cok13, cok63, cok64, Try.results29, lt_y, lt_b, lt_b2, lt_l, z_y, h3, h4, w1, w2, hv]
        | simp (disch := first | omega | (simp only [LN_]; omega)) only [wrap_id, getI, str_add]
        | with_reducible first | refine andA (hb := ?_) | refine cD (rValid ?_ ?_) | refine cD (rBegins ?_) | refine cD (rWords ?_ ?_)
        | with_reducible refine y_nil (hK := ?_)
        | (with_reducible refine nilTC_split (fun h => ?_) (fun h bn => ?_) <;> (try simp only [List.length_map] at h))
        | ((with_reducible first | refine grd_cases (fun h => ?_) (fun h => ?_) | refine condC_split (fun h => ?_) (fun h => ?_)) <;> (try simp only [h]) <;> (try simp only [NR_, Bool.not_true, Bool.not_false, Bool.not_eq_eq_eq_not, ne_eq] at h))
        | omega | (simp only [LN_]; omega))
      all_goals first
        | exact leafL sub_rfl (leT_eq rfl) hK
        | trace_state
end Go.Proofs.Ytaeacialcbahnaa
