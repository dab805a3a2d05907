/-
  Texts Tb, Tc, Td, Sy, Te, Tf, one behind the other.
-/
import Derived.Test.YtaeacialcbahnaaG11
import Derived.Laws.RangeAny
import Derived.Shelf.Small.Strs
import Derived.KernelRfl
/-
  Walks: chapter 16, what is told short.
-/


namespace Go.Proofs.Ytaeacialcbahnaa
open Go.Abs
set_option linter.unusedVariables false
set_option linter.unusedSimpArgs false
-- hb: 8000000
variable {κ : Ctx} {σ : List Res} {K : Ret → List Res → Prop} {o o' : Option (Option (Nat × Nat))}
def yB : ByteArray := { data := #[116, 97, 103, 58, 121, 97, 109, 108, 46, 111, 114, 103, 44, 50, 48, 48, 50, 58] }
def bangB : ByteArray := { data := #[33] }
def bang2B : ByteArray := { data := #[33, 33] }
def lessB : ByteArray := { data := #[60] }
set_option maxHeartbeats 8000000 in
theorem lt_y : ({ data := #[116, 97, 103, 58, 121, 97, 109, 108, 46, 111, 114, 103, 44, 50, 48, 48, 50, 58] } : ByteArray) = yB := rfl
set_option maxHeartbeats 8000000 in
theorem lt_b : ({ data := #[33] } : ByteArray) = bangB := rfl
set_option maxHeartbeats 8000000 in
theorem lt_b2 : ({ data := #[33, 33] } : ByteArray) = bang2B := rfl
set_option maxHeartbeats 8000000 in
theorem lt_l : ({ data := #[60] } : ByteArray) = lessB := rfl
set_option maxHeartbeats 8000000 in
theorem z_y : yB.size = 18 := by decide +kernel
set_option maxHeartbeats 8000000 in
theorem z_b : bangB.size = 1 := by decide +kernel
set_option maxHeartbeats 8000000 in
theorem z_b2 : bang2B.size = 2 := by decide +kernel
set_option maxHeartbeats 8000000 in
theorem z_l : lessB.size = 1 := by decide +kernel
set_option maxHeartbeats 8000000 in
theorem z_ext {s : ByteArray} (a : Nat) : (s.extract a s.size).size ≤ s.size := by rw [ByteArray.size_extract]; omega
def shortB (s : ByteArray) : ByteArray × Bool :=
  if hasB s yB = true ∧ wordsB (s.extract 18 s.size) = true then (bang2B ++ s.extract 18 s.size, true)
  else if hasB s bangB = true ∧ wordsB (s.extract 1 s.size) = true then (s, true)
  else if validI (bytesI s) = true then (lessB ++ s, true) else (({ data := #[] } : ByteArray), false)

-- tags.Short
set_option maxHeartbeats 8000000 in
theorem tShort {s : ByteArray} (hs : s.size ≤ 1000000) (hK : K (.ret (.tup [.raw (.string (shortB s).1), B (shortB s).2])) σ) : ACallF κ Try.prog 28 [.raw (.string s)] σ K := by
  have y1 := z_y
  have y2 := z_b
  have y3 := z_b2
  have y4 := z_l
  have e1 := z_ext (s := s) 18
  have e2 := z_ext (s := s) 1
  have k1 : cutB s yB = if hasB s yB = true then (s.extract 18 s.size, true) else (s, false) := rfl
  have k2 : cutB s bangB = if hasB s bangB = true then (s.extract 1 s.size, true) else (s, false) := rfl
  unfold shortB at hK
  by_cases h1 : hasB s yB = true ∧ wordsB (s.extract 18 s.size) = true
  · rw [if_pos h1] at hK
    rw [if_pos h1.1] at k1
    have w1 := h1.2
    refine ACallF.dropL (ACallF_intro Try.func28 rfl ?_)
    simp only [Try.ntmps28]
    repeat' (first
      | simp only [WL, intF, strF, WM, Int.reduceToNat, ne_eq, reduceCtorEq, not_false_eq_true, Nat.reduceAdd, Nat.reduceSub, Nat.reduceLT, Nat.reduceLeDiff, Nat.reduceEqDiff, Bool.not_true, Bool.not_false, beq_self_eq_true, true_and, and_true, reduceIte, Bool.false_eq_true, T4, T9, cok18, cok57, cok62, Try.results28, lt_y, lt_b, lt_b2, lt_l, k1, w1]
      | simp (disch := first | omega | (simp only [LN_]; omega)) only [wrap_id, getI, str_add]
      | with_reducible first | refine andA (hb := ?_) | refine cD (pValid ?_ ?_) | refine cD (sCutP ?_) | refine cD (tWords ?_ ?_)
      | with_reducible refine y_nil (hK := ?_)
      | (with_reducible refine nilTC_split (fun h => ?_) (fun h bn => ?_) <;> (try simp only [List.length_map] at h))
      | ((with_reducible first | refine grd_cases (fun h => ?_) (fun h => ?_) | refine condC_split (fun h => ?_) (fun h => ?_)) <;> (try simp only [h]) <;> (try simp only [NR_, Bool.not_true, Bool.not_false, Bool.not_eq_eq_eq_not, ne_eq] at h))
      | omega | (simp only [LN_]; omega))
    all_goals first
      | exact leafL sub_rfl (leT_eq rfl) hK
      | trace_state
  rw [if_neg h1] at hK
  by_cases h2 : hasB s bangB = true ∧ wordsB (s.extract 1 s.size) = true
  · rw [if_pos h2] at hK
    rw [if_pos h2.1] at k2
    have w2 := h2.2
    cases h3 : hasB s yB
    · rw [if_neg (by rw [h3]; decide)] at k1
      refine ACallF.dropL (ACallF_intro Try.func28 rfl ?_)
      simp only [Try.ntmps28]
      repeat' (first
        | simp only [WL, intF, strF, WM, Int.reduceToNat, ne_eq, reduceCtorEq, not_false_eq_true, Nat.reduceAdd, Nat.reduceSub, Nat.reduceLT, Nat.reduceLeDiff, Nat.reduceEqDiff, Bool.not_true, Bool.not_false, beq_self_eq_true, true_and, and_true, reduceIte, Bool.false_eq_true, T4, T9, cok18, cok57, cok62, Try.results28, lt_y, lt_b, lt_b2, lt_l, k1, k2, w2]
        | simp (disch := first | omega | (simp only [LN_]; omega)) only [wrap_id, getI, str_add]
        | with_reducible first | refine andA (hb := ?_) | refine cD (pValid ?_ ?_) | refine cD (sCutP ?_) | refine cD (tWords ?_ ?_)
        | with_reducible refine y_nil (hK := ?_)
        | (with_reducible refine nilTC_split (fun h => ?_) (fun h bn => ?_) <;> (try simp only [List.length_map] at h))
        | ((with_reducible first | refine grd_cases (fun h => ?_) (fun h => ?_) | refine condC_split (fun h => ?_) (fun h => ?_)) <;> (try simp only [h]) <;> (try simp only [NR_, Bool.not_true, Bool.not_false, Bool.not_eq_eq_eq_not, ne_eq] at h))
        | omega | (simp only [LN_]; omega))
      all_goals first
        | exact leafL sub_rfl (leT_eq rfl) hK
        | trace_state
    · rw [if_pos h3] at k1
      have w1 : wordsB (s.extract 18 s.size) = false := Bool.eq_false_iff.mpr fun e => h1 ⟨h3, e⟩
      refine ACallF.dropL (ACallF_intro Try.func28 rfl ?_)
      simp only [Try.ntmps28]
      repeat' (first
        | simp only [WL, intF, strF, WM, Int.reduceToNat, ne_eq, reduceCtorEq, not_false_eq_true, Nat.reduceAdd, Nat.reduceSub, Nat.reduceLT, Nat.reduceLeDiff, Nat.reduceEqDiff, Bool.not_true, Bool.not_false, beq_self_eq_true, true_and, and_true, reduceIte, Bool.false_eq_true, T4, T9, cok18, cok57, cok62, Try.results28, lt_y, lt_b, lt_b2, lt_l, k1, k2, w1, w2]
        | simp (disch := first | omega | (simp only [LN_]; omega)) only [wrap_id, getI, str_add]
        | with_reducible first | refine andA (hb := ?_) | refine cD (pValid ?_ ?_) | refine cD (sCutP ?_) | refine cD (tWords ?_ ?_)
        | with_reducible refine y_nil (hK := ?_)
        | (with_reducible refine nilTC_split (fun h => ?_) (fun h bn => ?_) <;> (try simp only [List.length_map] at h))
        | ((with_reducible first | refine grd_cases (fun h => ?_) (fun h => ?_) | refine condC_split (fun h => ?_) (fun h => ?_)) <;> (try simp only [h]) <;> (try simp only [NR_, Bool.not_true, Bool.not_false, Bool.not_eq_eq_eq_not, ne_eq] at h))
        | omega | (simp only [LN_]; omega))
      all_goals first
        | exact leafL sub_rfl (leT_eq rfl) hK
        | trace_state
  rw [if_neg h2] at hK
  have hend : ∀ {X : Prop}, (validI (bytesI s) = true → X) → (validI (bytesI s) = false → X) → X := fun a b => by cases h : validI (bytesI s) <;> simp_all
  cases h3 : hasB s yB <;> cases h4 : hasB s bangB
  · rw [if_neg (by rw [h3]; decide)] at k1
    rw [if_neg (by rw [h4]; decide)] at k2
    cases hv : validI (bytesI s) <;> simp only [hv, if_true, Bool.false_eq_true, if_false] at hK
    · skip
      refine ACallF.dropL (ACallF_intro Try.func28 rfl ?_)
      simp only [Try.ntmps28]
      repeat' (first
        | simp only [WL, intF, strF, WM, Int.reduceToNat, ne_eq, reduceCtorEq, not_false_eq_true, Nat.reduceAdd, Nat.reduceSub, Nat.reduceLT, Nat.reduceLeDiff, Nat.reduceEqDiff, Bool.not_true, Bool.not_false, beq_self_eq_true, true_and, and_true, reduceIte, Bool.false_eq_true, T4, T9, cok18, cok57, cok62, Try.results28, lt_y, lt_b, lt_b2, lt_l, k1, k2, hv]
        | simp (disch := first | omega | (simp only [LN_]; omega)) only [wrap_id, getI, str_add]
        | with_reducible first | refine andA (hb := ?_) | refine cD (pValid ?_ ?_) | refine cD (sCutP ?_) | refine cD (tWords ?_ ?_)
        | with_reducible refine y_nil (hK := ?_)
        | (with_reducible refine nilTC_split (fun h => ?_) (fun h bn => ?_) <;> (try simp only [List.length_map] at h))
        | ((with_reducible first | refine grd_cases (fun h => ?_) (fun h => ?_) | refine condC_split (fun h => ?_) (fun h => ?_)) <;> (try simp only [h]) <;> (try simp only [NR_, Bool.not_true, Bool.not_false, Bool.not_eq_eq_eq_not, ne_eq] at h))
        | omega | (simp only [LN_]; omega))
      all_goals first
        | exact leafL sub_rfl (leT_eq rfl) hK
        | trace_state
    · skip
      refine ACallF.dropL (ACallF_intro Try.func28 rfl ?_)
      simp only [Try.ntmps28]
      repeat' (first
        | simp only [WL, intF, strF, WM, Int.reduceToNat, ne_eq, reduceCtorEq, not_false_eq_true, Nat.reduceAdd, Nat.reduceSub, Nat.reduceLT, Nat.reduceLeDiff, Nat.reduceEqDiff, Bool.not_true, Bool.not_false, beq_self_eq_true, true_and, and_true, reduceIte, Bool.false_eq_true, T4, T9, cok18, cok57, cok62, Try.results28, lt_y, lt_b, lt_b2, lt_l, k1, k2, hv]
        | simp (disch := first | omega | (simp only [LN_]; omega)) only [wrap_id, getI, str_add]
        | with_reducible first | refine andA (hb := ?_) | refine cD (pValid ?_ ?_) | refine cD (sCutP ?_) | refine cD (tWords ?_ ?_)
        | with_reducible refine y_nil (hK := ?_)
        | (with_reducible refine nilTC_split (fun h => ?_) (fun h bn => ?_) <;> (try simp only [List.length_map] at h))
        | ((with_reducible first | refine grd_cases (fun h => ?_) (fun h => ?_) | refine condC_split (fun h => ?_) (fun h => ?_)) <;> (try simp only [h]) <;> (try simp only [NR_, Bool.not_true, Bool.not_false, Bool.not_eq_eq_eq_not, ne_eq] at h))
        | omega | (simp only [LN_]; omega))
      all_goals first
        | exact leafL sub_rfl (leT_eq rfl) hK
        | trace_state
  · rw [if_neg (by rw [h3]; decide)] at k1
    rw [if_pos h4] at k2
    have w2 : wordsB (s.extract 1 s.size) = false := Bool.eq_false_iff.mpr fun e => h2 ⟨h4, e⟩
    cases hv : validI (bytesI s) <;> simp only [hv, if_true, Bool.false_eq_true, if_false] at hK
    · skip
      refine ACallF.dropL (ACallF_intro Try.func28 rfl ?_)
      simp only [Try.ntmps28]
      repeat' (first
        | simp only [WL, intF, strF, WM, Int.reduceToNat, ne_eq, reduceCtorEq, not_false_eq_true, Nat.reduceAdd, Nat.reduceSub, Nat.reduceLT, Nat.reduceLeDiff, Nat.reduceEqDiff, Bool.not_true, Bool.not_false, beq_self_eq_true, true_and, and_true, reduceIte, Bool.false_eq_true, T4, T9, cok18, cok57, cok62, Try.results28, lt_y, lt_b, lt_b2, lt_l, k1, k2, w2, hv]
        | simp (disch := first | omega | (simp only [LN_]; omega)) only [wrap_id, getI, str_add]
        | with_reducible first | refine andA (hb := ?_) | refine cD (pValid ?_ ?_) | refine cD (sCutP ?_) | refine cD (tWords ?_ ?_)
        | with_reducible refine y_nil (hK := ?_)
        | (with_reducible refine nilTC_split (fun h => ?_) (fun h bn => ?_) <;> (try simp only [List.length_map] at h))
        | ((with_reducible first | refine grd_cases (fun h => ?_) (fun h => ?_) | refine condC_split (fun h => ?_) (fun h => ?_)) <;> (try simp only [h]) <;> (try simp only [NR_, Bool.not_true, Bool.not_false, Bool.not_eq_eq_eq_not, ne_eq] at h))
        | omega | (simp only [LN_]; omega))
      all_goals first
        | exact leafL sub_rfl (leT_eq rfl) hK
        | trace_state
    · skip
      refine ACallF.dropL (ACallF_intro Try.func28 rfl ?_)
      simp only [Try.ntmps28]
      repeat' (first
        | simp only [WL, intF, strF, WM, Int.reduceToNat, ne_eq, reduceCtorEq, not_false_eq_true, Nat.reduceAdd, Nat.reduceSub, Nat.reduceLT, Nat.reduceLeDiff, Nat.reduceEqDiff, Bool.not_true, Bool.not_false, beq_self_eq_true, true_and, and_true, reduceIte, Bool.false_eq_true, T4, T9, cok18, cok57, cok62, Try.results28, lt_y, lt_b, lt_b2, lt_l, k1, k2, w2, hv]
        | simp (disch := first | omega | (simp only [LN_]; omega)) only [wrap_id, getI, str_add]
        | with_reducible first | refine andA (hb := ?_) | refine cD (pValid ?_ ?_) | refine cD (sCutP ?_) | refine cD (tWords ?_ ?_)
        | with_reducible refine y_nil (hK := ?_)
        | (with_reducible refine nilTC_split (fun h => ?_) (fun h bn => ?_) <;> (try simp only [List.length_map] at h))
        | ((with_reducible first | refine grd_cases (fun h => ?_) (fun h => ?_) | refine condC_split (fun h => ?_) (fun h => ?_)) <;> (try simp only [h]) <;> (try simp only [NR_, Bool.not_true, Bool.not_false, Bool.not_eq_eq_eq_not, ne_eq] at h))
        | omega | (simp only [LN_]; omega))
      all_goals first
        | exact leafL sub_rfl (leT_eq rfl) hK
        | trace_state
  · rw [if_pos h3] at k1
    rw [if_neg (by rw [h4]; decide)] at k2
    have w1 : wordsB (s.extract 18 s.size) = false := Bool.eq_false_iff.mpr fun e => h1 ⟨h3, e⟩
    cases hv : validI (bytesI s) <;> simp only [hv, if_true, Bool.false_eq_true, if_false] at hK
    · skip
      refine ACallF.dropL (ACallF_intro Try.func28 rfl ?_)
      simp only [Try.ntmps28]
      repeat' (first
        | simp only [WL, intF, strF, WM, Int.reduceToNat, ne_eq, reduceCtorEq, not_false_eq_true, Nat.reduceAdd, Nat.reduceSub, Nat.reduceLT, Nat.reduceLeDiff, Nat.reduceEqDiff, Bool.not_true, Bool.not_false, beq_self_eq_true, true_and, and_true, reduceIte, Bool.false_eq_true, T4, T9, cok18, cok57, cok62, Try.results28, lt_y, lt_b, lt_b2, lt_l, k1, k2, w1, hv]
        | simp (disch := first | omega | (simp only [LN_]; omega)) only [wrap_id, getI, str_add]
        | with_reducible first | refine andA (hb := ?_) | refine cD (pValid ?_ ?_) | refine cD (sCutP ?_) | refine cD (tWords ?_ ?_)
        | with_reducible refine y_nil (hK := ?_)
        | (with_reducible refine nilTC_split (fun h => ?_) (fun h bn => ?_) <;> (try simp only [List.length_map] at h))
        | ((with_reducible first | refine grd_cases (fun h => ?_) (fun h => ?_) | refine condC_split (fun h => ?_) (fun h => ?_)) <;> (try simp only [h]) <;> (try simp only [NR_, Bool.not_true, Bool.not_false, Bool.not_eq_eq_eq_not, ne_eq] at h))
        | omega | (simp only [LN_]; omega))
      all_goals first
        | exact leafL sub_rfl (leT_eq rfl) hK
        | trace_state
    · skip
      refine ACallF.dropL (ACallF_intro Try.func28 rfl ?_)
      simp only [Try.ntmps28]
      repeat' (first
        | simp only [WL, intF, strF, WM, Int.reduceToNat, ne_eq, reduceCtorEq, not_false_eq_true, Nat.reduceAdd, Nat.reduceSub, Nat.reduceLT, Nat.reduceLeDiff, Nat.reduceEqDiff, Bool.not_true, Bool.not_false, beq_self_eq_true, true_and, and_true, reduceIte, Bool.false_eq_true, T4, T9, cok18, cok57, cok62, Try.results28, lt_y, lt_b, lt_b2, lt_l, k1, k2, w1, hv]
        | simp (disch := first | omega | (simp only [LN_]; omega)) only [wrap_id, getI, str_add]
        | with_reducible first | refine andA (hb := ?_) | refine cD (pValid ?_ ?_) | refine cD (sCutP ?_) | refine cD (tWords ?_ ?_)
        | with_reducible refine y_nil (hK := ?_)
        | (with_reducible refine nilTC_split (fun h => ?_) (fun h bn => ?_) <;> (try simp only [List.length_map] at h))
        | ((with_reducible first | refine grd_cases (fun h => ?_) (fun h => ?_) | refine condC_split (fun h => ?_) (fun h => ?_)) <;> (try simp only [h]) <;> (try simp only [NR_, Bool.not_true, Bool.not_false, Bool.not_eq_eq_eq_not, ne_eq] at h))
        | omega | (simp only [LN_]; omega))
      all_goals first
        | exact leafL sub_rfl (leT_eq rfl) hK
        | trace_state
  · rw [if_pos h3] at k1
    rw [if_pos h4] at k2
    have w1 : wordsB (s.extract 18 s.size) = false := Bool.eq_false_iff.mpr fun e => h1 ⟨h3, e⟩
    have w2 : wordsB (s.extract 1 s.size) = false := Bool.eq_false_iff.mpr fun e => h2 ⟨h4, e⟩
    cases hv : validI (bytesI s) <;> simp only [hv, if_true, Bool.false_eq_true, if_false] at hK
    · skip
      refine ACallF.dropL (ACallF_intro Try.func28 rfl ?_)
      simp only [Try.ntmps28]
      repeat' (first
        | simp only [WL, intF, strF, WM, Int.reduceToNat, ne_eq, reduceCtorEq, not_false_eq_true, Nat.reduceAdd, Nat.reduceSub, Nat.reduceLT, Nat.reduceLeDiff, Nat.reduceEqDiff, Bool.not_true, Bool.not_false, beq_self_eq_true, true_and, and_true, reduceIte, Bool.false_eq_true, T4, T9, cok18, cok57, cok62, Try.results28, lt_y, lt_b, lt_b2, lt_l, k1, k2, w1, w2, hv]
        | simp (disch := first | omega | (simp only [LN_]; omega)) only [wrap_id, getI, str_add]
        | with_reducible first | refine andA (hb := ?_) | refine cD (pValid ?_ ?_) | refine cD (sCutP ?_) | refine cD (tWords ?_ ?_)
        | with_reducible refine y_nil (hK := ?_)
        | (with_reducible refine nilTC_split (fun h => ?_) (fun h bn => ?_) <;> (try simp only [List.length_map] at h))
        | ((with_reducible first | refine grd_cases (fun h => ?_) (fun h => ?_) | refine condC_split (fun h => ?_) (fun h => ?_)) <;> (try simp only [h]) <;> (try simp only [NR_, Bool.not_true, Bool.not_false, Bool.not_eq_eq_eq_not, ne_eq] at h))
        | omega | (simp only [LN_]; omega))
      all_goals first
        | exact leafL sub_rfl (leT_eq rfl) hK
        | trace_state
    · skip
      refine ACallF.dropL (ACallF_intro Try.func28 rfl ?_)
      simp only [Try.ntmps28]
      repeat' (first
        | simp only [WL, intF, strF, WM, Int.reduceToNat, ne_eq, reduceCtorEq, not_false_eq_true, Nat.reduceAdd, Nat.reduceSub, Nat.reduceLT, Nat.reduceLeDiff, Nat.reduceEqDiff, Bool.not_true, Bool.not_false, beq_self_eq_true, true_and, and_true, reduceIte, Bool.false_eq_true, T4, T9, cok18, cok57, cok62, Try.results28, lt_y, lt_b, lt_b2, lt_l, k1, k2, w1, w2, hv]
        | simp (disch := first | omega | (simp only [LN_]; omega)) only [wrap_id, getI, str_add]
        | with_reducible first | refine andA (hb := ?_) | refine cD (pValid ?_ ?_) | refine cD (sCutP ?_) | refine cD (tWords ?_ ?_)
        | with_reducible refine y_nil (hK := ?_)
        | (with_reducible refine nilTC_split (fun h => ?_) (fun h bn => ?_) <;> (try simp only [List.length_map] at h))
        | ((with_reducible first | refine grd_cases (fun h => ?_) (fun h => ?_) | refine condC_split (fun h => ?_) (fun h => ?_)) <;> (try simp only [h]) <;> (try simp only [NR_, Bool.not_true, Bool.not_false, Bool.not_eq_eq_eq_not, ne_eq] at h))
        | omega | (simp only [LN_]; omega))
      all_goals first
        | exact leafL sub_rfl (leT_eq rfl) hK
        | trace_state
-- marginaliaref13.Short
set_option maxHeartbeats 8000000 in
theorem rShort {s : ByteArray} (hs : s.size ≤ 1000000) (hK : K (.ret (.tup [.raw (.string (shortB s).1), B (shortB s).2])) σ) : ACallF κ Try.prog 29 [.raw (.string s)] σ K := by
  have y1 := z_y
  have y2 := z_b
  have y3 := z_b2
  have y4 := z_l
  have e1 := z_ext (s := s) 18
  have e2 := z_ext (s := s) 1
  have l1 : hasB s yB = true → 18 ≤ s.size := fun h => by have := hasB_le h; omega
  have l2 : hasB s bangB = true → 1 ≤ s.size := fun h => by have := hasB_le h; omega
  unfold shortB at hK
  by_cases h1 : hasB s yB = true ∧ wordsB (s.extract 18 s.size) = true
  · rw [if_pos h1] at hK
    obtain ⟨h3, w1⟩ := h1
    have l1 := l1 h3
    refine ACallF.dropL (ACallF_intro Try.func29 rfl ?_)
    simp only [Try.ntmps29]
    repeat' (first
      | simp only [WL, intF, strF, WM, Int.reduceToNat, ne_eq, reduceCtorEq, not_false_eq_true, Nat.reduceAdd, Nat.reduceSub, Nat.reduceLT, Nat.reduceLeDiff, Nat.reduceEqDiff, Bool.not_true, Bool.not_false, beq_self_eq_true, true_and, and_true, reduceIte, Bool.false_eq_true, T3, T4, T9, cok13, cok63, cok64, Try.results29, lt_y, lt_b, lt_b2, lt_l, z_y, h3, w1]
      | simp (disch := first | omega | (simp only [LN_]; omega)) only [wrap_id, getI, str_add]
      | with_reducible first | refine andA (hb := ?_) | refine cD (rValid ?_ ?_) | refine cD (rBegins ?_) | refine cD (rWords ?_ ?_)
      | with_reducible refine y_nil (hK := ?_)
      | (with_reducible refine nilTC_split (fun h => ?_) (fun h bn => ?_) <;> (try simp only [List.length_map] at h))
      | ((with_reducible first | refine grd_cases (fun h => ?_) (fun h => ?_) | refine condC_split (fun h => ?_) (fun h => ?_)) <;> (try simp only [h]) <;> (try simp only [NR_, Bool.not_true, Bool.not_false, Bool.not_eq_eq_eq_not, ne_eq] at h))
      | omega | (simp only [LN_]; omega))
    all_goals first
      | exact leafL sub_rfl (leT_eq rfl) hK
      | trace_state
  rw [if_neg h1] at hK
  by_cases h2 : hasB s bangB = true ∧ wordsB (s.extract 1 s.size) = true
  · rw [if_pos h2] at hK
    obtain ⟨h4, w2⟩ := h2
    have l2 := l2 h4
    cases h3 : hasB s yB
    · skip
      refine ACallF.dropL (ACallF_intro Try.func29 rfl ?_)
      simp only [Try.ntmps29]
      repeat' (first
        | simp only [WL, intF, strF, WM, Int.reduceToNat, ne_eq, reduceCtorEq, not_false_eq_true, Nat.reduceAdd, Nat.reduceSub, Nat.reduceLT, Nat.reduceLeDiff, Nat.reduceEqDiff, Bool.not_true, Bool.not_false, beq_self_eq_true, true_and, and_true, reduceIte, Bool.false_eq_true, T3, T4, T9, cok13, cok63, cok64, Try.results29, lt_y, lt_b, lt_b2, lt_l, z_y, h3, h4, w2]
        | simp (disch := first | omega | (simp only [LN_]; omega)) only [wrap_id, getI, str_add]
        | with_reducible first | refine andA (hb := ?_) | refine cD (rValid ?_ ?_) | refine cD (rBegins ?_) | refine cD (rWords ?_ ?_)
        | with_reducible refine y_nil (hK := ?_)
        | (with_reducible refine nilTC_split (fun h => ?_) (fun h bn => ?_) <;> (try simp only [List.length_map] at h))
        | ((with_reducible first | refine grd_cases (fun h => ?_) (fun h => ?_) | refine condC_split (fun h => ?_) (fun h => ?_)) <;> (try simp only [h]) <;> (try simp only [NR_, Bool.not_true, Bool.not_false, Bool.not_eq_eq_eq_not, ne_eq] at h))
        | omega | (simp only [LN_]; omega))
      all_goals first
        | exact leafL sub_rfl (leT_eq rfl) hK
        | trace_state
    · have l1 := l1 h3
      have w1 : wordsB (s.extract 18 s.size) = false := Bool.eq_false_iff.mpr fun e => h1 ⟨h3, e⟩
      refine ACallF.dropL (ACallF_intro Try.func29 rfl ?_)
      simp only [Try.ntmps29]
      repeat' (first
        | simp only [WL, intF, strF, WM, Int.reduceToNat, ne_eq, reduceCtorEq, not_false_eq_true, Nat.reduceAdd, Nat.reduceSub, Nat.reduceLT, Nat.reduceLeDiff, Nat.reduceEqDiff, Bool.not_true, Bool.not_false, beq_self_eq_true, true_and, and_true, reduceIte, Bool.false_eq_true, T3, T4, T9, cok13, cok63, cok64, Try.results29, lt_y, lt_b, lt_b2, lt_l, z_y, h3, h4, w1, w2]
        | simp (disch := first | omega | (simp only [LN_]; omega)) only [wrap_id, getI, str_add]
        | with_reducible first | refine andA (hb := ?_) | refine cD (rValid ?_ ?_) | refine cD (rBegins ?_) | refine cD (rWords ?_ ?_)
        | with_reducible refine y_nil (hK := ?_)
        | (with_reducible refine nilTC_split (fun h => ?_) (fun h bn => ?_) <;> (try simp only [List.length_map] at h))
        | ((with_reducible first | refine grd_cases (fun h => ?_) (fun h => ?_) | refine condC_split (fun h => ?_) (fun h => ?_)) <;> (try simp only [h]) <;> (try simp only [NR_, Bool.not_true, Bool.not_false, Bool.not_eq_eq_eq_not, ne_eq] at h))
        | omega | (simp only [LN_]; omega))
      all_goals first
        | exact leafL sub_rfl (leT_eq rfl) hK
        | trace_state
  rw [if_neg h2] at hK
  cases h3 : hasB s yB <;> cases h4 : hasB s bangB
  · skip
    cases hv : validI (bytesI s) <;> simp only [hv, if_true, Bool.false_eq_true, if_false] at hK
    · skip
      refine ACallF.dropL (ACallF_intro Try.func29 rfl ?_)
      simp only [Try.ntmps29]
      repeat' (first
        | simp only [WL, intF, strF, WM, Int.reduceToNat, ne_eq, reduceCtorEq, not_false_eq_true, Nat.reduceAdd, Nat.reduceSub, Nat.reduceLT, Nat.reduceLeDiff, Nat.reduceEqDiff, Bool.not_true, Bool.not_false, beq_self_eq_true, true_and, and_true, reduceIte, Bool.false_eq_true, T3, T4, T9, cok13, cok63, cok64, Try.results29, lt_y, lt_b, lt_b2, lt_l, z_y, h3, h4, hv]
        | simp (disch := first | omega | (simp only [LN_]; omega)) only [wrap_id, getI, str_add]
        | with_reducible first | refine andA (hb := ?_) | refine cD (rValid ?_ ?_) | refine cD (rBegins ?_) | refine cD (rWords ?_ ?_)
        | with_reducible refine y_nil (hK := ?_)
        | (with_reducible refine nilTC_split (fun h => ?_) (fun h bn => ?_) <;> (try simp only [List.length_map] at h))
        | ((with_reducible first | refine grd_cases (fun h => ?_) (fun h => ?_) | refine condC_split (fun h => ?_) (fun h => ?_)) <;> (try simp only [h]) <;> (try simp only [NR_, Bool.not_true, Bool.not_false, Bool.not_eq_eq_eq_not, ne_eq] at h))
        | omega | (simp only [LN_]; omega))
      all_goals first
        | exact leafL sub_rfl (leT_eq rfl) hK
        | trace_state
    · skip
      refine ACallF.dropL (ACallF_intro Try.func29 rfl ?_)
      simp only [Try.ntmps29]
      repeat' (first
        | simp only [WL, intF, strF, WM, Int.reduceToNat, ne_eq, reduceCtorEq, not_false_eq_true, Nat.reduceAdd, Nat.reduceSub, Nat.reduceLT, Nat.reduceLeDiff, Nat.reduceEqDiff, Bool.not_true, Bool.not_false, beq_self_eq_true, true_and, and_true, reduceIte, Bool.false_eq_true, T3, T4, T9, cok13, cok63, cok64, Try.results29, lt_y, lt_b, lt_b2, lt_l, z_y, h3, h4, hv]
        | simp (disch := first | omega | (simp only [LN_]; omega)) only [wrap_id, getI, str_add]
        | with_reducible first | refine andA (hb := ?_) | refine cD (rValid ?_ ?_) | refine cD (rBegins ?_) | refine cD (rWords ?_ ?_)
        | with_reducible refine y_nil (hK := ?_)
        | (with_reducible refine nilTC_split (fun h => ?_) (fun h bn => ?_) <;> (try simp only [List.length_map] at h))
        | ((with_reducible first | refine grd_cases (fun h => ?_) (fun h => ?_) | refine condC_split (fun h => ?_) (fun h => ?_)) <;> (try simp only [h]) <;> (try simp only [NR_, Bool.not_true, Bool.not_false, Bool.not_eq_eq_eq_not, ne_eq] at h))
        | omega | (simp only [LN_]; omega))
      all_goals first
        | exact leafL sub_rfl (leT_eq rfl) hK
        | trace_state
  · skip
    have l2 := l2 h4
    have w2 : wordsB (s.extract 1 s.size) = false := Bool.eq_false_iff.mpr fun e => h2 ⟨h4, e⟩
    cases hv : validI (bytesI s) <;> simp only [hv, if_true, Bool.false_eq_true, if_false] at hK
    · skip
      refine ACallF.dropL (ACallF_intro Try.func29 rfl ?_)
      simp only [Try.ntmps29]
      repeat' (first
        | simp only [WL, intF, strF, WM, Int.reduceToNat, ne_eq, reduceCtorEq, not_false_eq_true, Nat.reduceAdd, Nat.reduceSub, Nat.reduceLT, Nat.reduceLeDiff, Nat.reduceEqDiff, Bool.not_true, Bool.not_false, beq_self_eq_true, true_and, and_true, reduceIte, Bool.false_eq_true, T3, T4, T9, cok13, cok63, cok64, Try.results29, lt_y, lt_b, lt_b2, lt_l, z_y, h3, h4, w2, hv]
        | simp (disch := first | omega | (simp only [LN_]; omega)) only [wrap_id, getI, str_add]
        | with_reducible first | refine andA (hb := ?_) | refine cD (rValid ?_ ?_) | refine cD (rBegins ?_) | refine cD (rWords ?_ ?_)
        | with_reducible refine y_nil (hK := ?_)
        | (with_reducible refine nilTC_split (fun h => ?_) (fun h bn => ?_) <;> (try simp only [List.length_map] at h))
        | ((with_reducible first | refine grd_cases (fun h => ?_) (fun h => ?_) | refine condC_split (fun h => ?_) (fun h => ?_)) <;> (try simp only [h]) <;> (try simp only [NR_, Bool.not_true, Bool.not_false, Bool.not_eq_eq_eq_not, ne_eq] at h))
        | omega | (simp only [LN_]; omega))
      all_goals first
        | exact leafL sub_rfl (leT_eq rfl) hK
        | trace_state
    · skip
      refine ACallF.dropL (ACallF_intro Try.func29 rfl ?_)
      simp only [Try.ntmps29]
      repeat' (first
        | simp only [WL, intF, strF, WM, Int.reduceToNat, ne_eq, reduceCtorEq, not_false_eq_true, Nat.reduceAdd, Nat.reduceSub, Nat.reduceLT, Nat.reduceLeDiff, Nat.reduceEqDiff, Bool.not_true, Bool.not_false, beq_self_eq_true, true_and, and_true, reduceIte, Bool.false_eq_true, T3, T4, T9, cok13, cok63, cok64, Try.results29, lt_y, lt_b, lt_b2, lt_l, z_y, h3, h4, w2, hv]
        | simp (disch := first | omega | (simp only [LN_]; omega)) only [wrap_id, getI, str_add]
        | with_reducible first | refine andA (hb := ?_) | refine cD (rValid ?_ ?_) | refine cD (rBegins ?_) | refine cD (rWords ?_ ?_)
        | with_reducible refine y_nil (hK := ?_)
        | (with_reducible refine nilTC_split (fun h => ?_) (fun h bn => ?_) <;> (try simp only [List.length_map] at h))
        | ((with_reducible first | refine grd_cases (fun h => ?_) (fun h => ?_) | refine condC_split (fun h => ?_) (fun h => ?_)) <;> (try simp only [h]) <;> (try simp only [NR_, Bool.not_true, Bool.not_false, Bool.not_eq_eq_eq_not, ne_eq] at h))
        | omega | (simp only [LN_]; omega))
      all_goals first
        | exact leafL sub_rfl (leT_eq rfl) hK
        | trace_state
  · skip
    have l1 := l1 h3
    have w1 : wordsB (s.extract 18 s.size) = false := Bool.eq_false_iff.mpr fun e => h1 ⟨h3, e⟩
    cases hv : validI (bytesI s) <;> simp only [hv, if_true, Bool.false_eq_true, if_false] at hK
    · skip
      refine ACallF.dropL (ACallF_intro Try.func29 rfl ?_)
      simp only [Try.ntmps29]
      repeat' (first
        | simp only [WL, intF, strF, WM, Int.reduceToNat, ne_eq, reduceCtorEq, not_false_eq_true, Nat.reduceAdd, Nat.reduceSub, Nat.reduceLT, Nat.reduceLeDiff, Nat.reduceEqDiff, Bool.not_true, Bool.not_false, beq_self_eq_true, true_and, and_true, reduceIte, Bool.false_eq_true, T3, T4, T9, cok13, cok63, cok64, Try.results29, lt_y, lt_b, lt_b2, lt_l, z_y, h3, h4, w1, hv]
        | simp (disch := first | omega | (simp only [LN_]; omega)) only [wrap_id, getI, str_add]
        | with_reducible first | refine andA (hb := ?_) | refine cD (rValid ?_ ?_) | refine cD (rBegins ?_) | refine cD (rWords ?_ ?_)
        | with_reducible refine y_nil (hK := ?_)
        | (with_reducible refine nilTC_split (fun h => ?_) (fun h bn => ?_) <;> (try simp only [List.length_map] at h))
        | ((with_reducible first | refine grd_cases (fun h => ?_) (fun h => ?_) | refine condC_split (fun h => ?_) (fun h => ?_)) <;> (try simp only [h]) <;> (try simp only [NR_, Bool.not_true, Bool.not_false, Bool.not_eq_eq_eq_not, ne_eq] at h))
        | omega | (simp only [LN_]; omega))
      all_goals first
        | exact leafL sub_rfl (leT_eq rfl) hK
        | trace_state
    · skip
      refine ACallF.dropL (ACallF_intro Try.func29 rfl ?_)
      simp only [Try.ntmps29]
      repeat' (first
        | simp only [WL, intF, strF, WM, Int.reduceToNat, ne_eq, reduceCtorEq, not_false_eq_true, Nat.reduceAdd, Nat.reduceSub, Nat.reduceLT, Nat.reduceLeDiff, Nat.reduceEqDiff, Bool.not_true, Bool.not_false, beq_self_eq_true, true_and, and_true, reduceIte, Bool.false_eq_true, T3, T4, T9, cok13, cok63, cok64, Try.results29, lt_y, lt_b, lt_b2, lt_l, z_y, h3, h4, w1, hv]
        | simp (disch := first | omega | (simp only [LN_]; omega)) only [wrap_id, getI, str_add]
        | with_reducible first | refine andA (hb := ?_) | refine cD (rValid ?_ ?_) | refine cD (rBegins ?_) | refine cD (rWords ?_ ?_)
        | with_reducible refine y_nil (hK := ?_)
        | (with_reducible refine nilTC_split (fun h => ?_) (fun h bn => ?_) <;> (try simp only [List.length_map] at h))
        | ((with_reducible first | refine grd_cases (fun h => ?_) (fun h => ?_) | refine condC_split (fun h => ?_) (fun h => ?_)) <;> (try simp only [h]) <;> (try simp only [NR_, Bool.not_true, Bool.not_false, Bool.not_eq_eq_eq_not, ne_eq] at h))
        | omega | (simp only [LN_]; omega))
      all_goals first
        | exact leafL sub_rfl (leT_eq rfl) hK
        | trace_state
  · skip
    have l1 := l1 h3
    have w1 : wordsB (s.extract 18 s.size) = false := Bool.eq_false_iff.mpr fun e => h1 ⟨h3, e⟩
    have l2 := l2 h4
    have w2 : wordsB (s.extract 1 s.size) = false := Bool.eq_false_iff.mpr fun e => h2 ⟨h4, e⟩
    cases hv : validI (bytesI s) <;> simp only [hv, if_true, Bool.false_eq_true, if_false] at hK
    · skip
      refine ACallF.dropL (ACallF_intro Try.func29 rfl ?_)
      simp only [Try.ntmps29]
      repeat' (first
        | simp only [WL, intF, strF, WM, Int.reduceToNat, ne_eq, reduceCtorEq, not_false_eq_true, Nat.reduceAdd, Nat.reduceSub, Nat.reduceLT, Nat.reduceLeDiff, Nat.reduceEqDiff, Bool.not_true, Bool.not_false, beq_self_eq_true, true_and, and_true, reduceIte, Bool.false_eq_true, T3, T4, T9, cok13, cok63, cok64, Try.results29, lt_y, lt_b, lt_b2, lt_l, z_y, h3, h4, w1, w2, hv]
        | simp (disch := first | omega | (simp only [LN_]; omega)) only [wrap_id, getI, str_add]
        | with_reducible first | refine andA (hb := ?_) | refine cD (rValid ?_ ?_) | refine cD (rBegins ?_) | refine cD (rWords ?_ ?_)
        | with_reducible refine y_nil (hK := ?_)
        | (with_reducible refine nilTC_split (fun h => ?_) (fun h bn => ?_) <;> (try simp only [List.length_map] at h))
        | ((with_reducible first | refine grd_cases (fun h => ?_) (fun h => ?_) | refine condC_split (fun h => ?_) (fun h => ?_)) <;> (try simp only [h]) <;> (try simp only [NR_, Bool.not_true, Bool.not_false, Bool.not_eq_eq_eq_not, ne_eq] at h))
        | omega | (simp only [LN_]; omega))
      all_goals first
        | exact leafL sub_rfl (leT_eq rfl) hK
        | trace_state
    · skip
      refine ACallF.dropL (ACallF_intro Try.func29 rfl ?_)
      simp only [Try.ntmps29]
      repeat' (first
        | simp only [WL, intF, strF, WM, Int.reduceToNat, ne_eq, reduceCtorEq, not_false_eq_true, Nat.reduceAdd, Nat.reduceSub, Nat.reduceLT, Nat.reduceLeDiff, Nat.reduceEqDiff, Bool.not_true, Bool.not_false, beq_self_eq_true, true_and, and_true, reduceIte, Bool.false_eq_true, T3, T4, T9, cok13, cok63, cok64, Try.results29, lt_y, lt_b, lt_b2, lt_l, z_y, h3, h4, w1, w2, hv]
        | simp (disch := first | omega | (simp only [LN_]; omega)) only [wrap_id, getI, str_add]
        | with_reducible first | refine andA (hb := ?_) | refine cD (rValid ?_ ?_) | refine cD (rBegins ?_) | refine cD (rWords ?_ ?_)
        | with_reducible refine y_nil (hK := ?_)
        | (with_reducible refine nilTC_split (fun h => ?_) (fun h bn => ?_) <;> (try simp only [List.length_map] at h))
        | ((with_reducible first | refine grd_cases (fun h => ?_) (fun h => ?_) | refine condC_split (fun h => ?_) (fun h => ?_)) <;> (try simp only [h]) <;> (try simp only [NR_, Bool.not_true, Bool.not_false, Bool.not_eq_eq_eq_not, ne_eq] at h))
        | omega | (simp only [LN_]; omega))
      all_goals first
        | exact leafL sub_rfl (leT_eq rfl) hK
        | trace_state
end Go.Proofs.Ytaeacialcbahnaa
/-
  Walks: chapter 16, what is told of a tag as it is written.
-/


namespace Go.Proofs.Ytaeacialcbahnaa
open Go.Abs
set_option linter.unusedVariables false
set_option linter.unusedSimpArgs false
-- hb: 8000000
section
variable {κ : Ctx} {P : Program} {all rest : List Oper} {Q : Exit → St → Prop} {d : Option Tmp} {t : List AV} {σ : List Res} {fr : Bool} {df : List Deferred}
set_option maxHeartbeats 8000000 in
theorem y_rng {ty : TypeId} {s : ByteArray} [hs : TStr P ty] (hK : ∀ b, goK κ false P all Q d rest ⟨t, σ, fr, df⟩ (.raw (.pointer (some ⟨b, 0, none⟩))) (.blk b (.stringIter s 0) :: σ)) : actC κ false P all Q d rest ⟨t, σ, fr, df⟩ (.range ty) [.raw (.string s)] :=
  actC_mk (act_range_str hs.str hK)
set_option maxHeartbeats 8000000 in
theorem y_next {ty : TypeId} {s : ByteArray} {b p : Nat} (i : Nat) (h : σ[i]? = some (.blk b (.stringIter s p))) (hp : p < s.size)
    (hK : goK κ false P all Q d rest ⟨t, σ, fr, df⟩ (.tup [B true, I p, .raw (.int .i32 (Utf8.decode s p).1)]) (σ.set i (.blk b (.stringIter s (p + (Utf8.decode s p).2))))) : actC κ false P all Q d rest ⟨t, σ, fr, df⟩ (.next true ty) [.raw (.pointer (some ⟨b, 0, none⟩))] :=
  actC_mk (act_next_str i h hp hK)
set_option maxHeartbeats 8000000 in
theorem y_over {ty : TypeId} {s : ByteArray} {b p : Nat} (i : Nat) (h : σ[i]? = some (.blk b (.stringIter s p))) (hp : s.size ≤ p)
    (hK : goK κ false P all Q d rest ⟨t, σ, fr, df⟩ (.tup [B false]) σ) : actC κ false P all Q d rest ⟨t, σ, fr, df⟩ (.next true ty) [.raw (.pointer (some ⟨b, 0, none⟩))] :=
  actC_mk (act_next_end i h hp hK)
end
variable {κ : Ctx} {σ : List Res} {K : Ret → List Res → Prop} {o o' : Option (Option (Nat × Nat))}
/-- The code points that a range over a text tells, from a place on. -/
def runesB (s : ByteArray) (p : Nat) : List Int := if h : p < s.size then ((Utf8.decode s p).1 : Int) :: runesB s (p + max 1 (Utf8.decode s p).2) else []
termination_by s.size - p
set_option maxHeartbeats 8000000 in
theorem decode_pos {s : ByteArray} {p : Nat} (h : p < s.size) : 1 ≤ (Utf8.decode s p).2 := by
  by_cases ha : (s[p]'h).toNat < 128
  · rw [decode_ascii s p h ha]; exact Nat.le_refl _
  · exact (decode_high s p h (by omega)).2
set_option maxHeartbeats 8000000 in
theorem runes_step {s : ByteArray} {p : Nat} (h : p < s.size) : runesB s p = ((Utf8.decode s p).1 : Int) :: runesB s (p + (Utf8.decode s p).2) := by
  have := decode_pos h
  rw [runesB, dif_pos h, Nat.max_eq_right this]
set_option maxHeartbeats 8000000 in
theorem runes_end {s : ByteArray} {p : Nat} (h : s.size ≤ p) : runesB s p = [] := by rw [runesB, dif_neg (by omega)]
def less2B : ByteArray := { data := #[33, 60] }
set_option maxHeartbeats 8000000 in
theorem lt_2 : ({ data := #[33, 60] } : ByteArray) = less2B := rfl
def toldB (s : ByteArray) : Bool :=
  if hasB s lessB = true then validI (bytesI (s.extract 1 s.size))
  else (tagI (runesB s 0)).2.2 && decide ((tagI (runesB s 0)).2.1 = (runesB s 0).length) && !hasB s less2B

-- tags.told
set_option maxHeartbeats 8000000 in
theorem tTold {s : ByteArray} (hs : s.size ≤ 1000000) (hK : K (.ret (B (toldB s))) σ) : ACallF κ Try.prog 56 [.raw (.string s)] σ K := by
  have y4 := z_l
  have e2 := z_ext (s := s) 1
  have k2 : cutB s lessB = if hasB s lessB = true then (s.extract 1 s.size, true) else (s, false) := rfl
  unfold toldB at hK
  cases h1 : hasB s lessB
  · rw [if_neg (by rw [h1]; decide)] at hK
    rw [if_neg (by rw [h1]; decide)] at k2
    refine ACallF.dropL (ACallF_introA Try.func56 rfl ?_)
    simp only [Try.ntmps56]
    repeat' (first
      | with_reducible first | refine AW_seqA (AW_block ?_) | refine AW_block ?_ | refine cut_seqloop ?_ | refine cut_loop ?_ | refine AW_seqA (AW_seqA ?_) | refine AW_seq ?_ | refine AW_runReg ?_ | refine AW_runCond ?_ | refine AW_runExit ?_ | refine AW_runRet ?_ | refine AW_runSkip ?_ | refine AW_runLabel ?_
      | simp only [WL, intF, strF, WM, Int.reduceToNat, ne_eq, reduceCtorEq, not_false_eq_true, Nat.reduceAdd, Nat.reduceSub, Nat.reduceLT, Nat.reduceLeDiff, Nat.reduceEqDiff, Bool.not_true, Bool.not_false, beq_self_eq_true, true_and, and_true, reduceIte, Bool.false_eq_true, T3, T4, T9, T21, T24, cI in3, cok15, cok18, cok57, cok91, Try.results56, lt_l, k2]
      | simp (disch := first | omega | (simp only [LN_]; omega)) only [wrap_id, getI]
      | with_reducible first | refine andA (hb := ?_) | refine y_appN ?_ | refine y_appS ?_ | refine y_app (hlen := ?_) (hmax := ?_) (hK := fun tk => ?_) | refine y_bs0 ?_ | refine y_bs (hK := ?_)
      | ( refine y_rng (fun b => ?_))
      | with_reducible first | refine cD (pTag ?_ ?_) | refine cD (pValid ?_ ?_) | refine cD (sCutP ?_) | refine cD (sHasP ?_)
      | with_reducible refine y_nil (hK := ?_)
      | (with_reducible refine nilTC_split (fun h => ?_) (fun h bn => ?_) <;> (try simp only [List.length_map] at h))
      | ((with_reducible first | refine grd_cases (fun h => ?_) (fun h => ?_) | refine condC_split (fun h => ?_) (fun h => ?_)) <;> (try simp only [h]) <;> (try simp only [NR_, Bool.not_true, Bool.not_false, Bool.not_eq_eq_eq_not, ne_eq] at h))
      | omega | (simp only [LN_]; omega) | (refine maxLen_ok ?_; (first | omega | (simp only [LN_]; omega))))
    refine loopA (fun x : Nat × List Int × Option (Nat × Nat) => ⟨(.raw (.string s) :: .any :: .any :: .any :: .any :: SI (some x.2.2) x.2.1 :: .any :: .any :: .any :: .any :: .any :: .any :: .any :: .any :: .any :: .any :: .any :: .any :: .any :: .any :: .raw (.pointer (some ⟨b, 0, none⟩)) :: .any :: .any :: .any :: .any :: .any :: .any :: .any :: .any :: .any :: .any :: .any :: .any :: .any :: .any :: .any :: .any :: .any :: .any :: .any :: .any :: .any :: .any :: .any :: .any :: .any :: .any :: []), .tip x.2.2 :: .blk b (.stringIter s x.1) :: σ, true, []⟩) (fun x => x.2.1.length ≤ x.1 ∧ x.2.1.length ≤ s.size ∧ x.2.1 ++ runesB s x.1 = runesB s 0) (fun x => s.size - x.1) (0, [], none) (St_leW (by repeat (first | exact trivial | refine ⟨le_rfl, ?_⟩ | refine ⟨le_any, ?_⟩ | refine ⟨le_ro, ?_⟩ | refine ⟨le_nil (by decide), ?_⟩ | refine ⟨le_wrap (by omega) (by omega) (by omega), ?_⟩ | refine ⟨le_int (by omega), ?_⟩ | refine ⟨le_eq (by simp), ?_⟩)) ResW.void id) ⟨Nat.le_refl _, Nat.zero_le _, rfl⟩ ?_
    rintro ⟨p, l, tk⟩ ⟨hp, hp2, hl⟩
    dsimp only at hp hp2 hl ⊢
    rcases Nat.lt_or_ge p s.size with hlt | hge
    · rw [runes_step hlt] at hl
      have hd := decode_le s p
      have hw := decode_pos hlt
      repeat' (first
        | with_reducible first | refine AW_seqA (AW_block ?_) | refine AW_block ?_ | refine cut_seqloop ?_ | refine cut_loop ?_ | refine AW_seqA (AW_seqA ?_) | refine AW_seq ?_ | refine AW_runReg ?_ | refine AW_runCond ?_ | refine AW_runExit ?_ | refine AW_runRet ?_ | refine AW_runSkip ?_ | refine AW_runLabel ?_
        | simp only [WL, intF, strF, WM, Int.reduceToNat, ne_eq, reduceCtorEq, not_false_eq_true, Nat.reduceAdd, Nat.reduceSub, Nat.reduceLT, Nat.reduceLeDiff, Nat.reduceEqDiff, Bool.not_true, Bool.not_false, beq_self_eq_true, true_and, and_true, reduceIte, Bool.false_eq_true, T3, T4, T9, T21, T24, cI in3, cok15, cok18, cok57, cok91, Try.results56]
        | simp (disch := first | omega | (simp only [LN_]; omega)) only [wrap_id, getI]
        | with_reducible first | refine andA (hb := ?_) | refine y_appN ?_ | refine y_appS ?_ | refine y_app (hlen := ?_) (hmax := ?_) (hK := fun tk => ?_) | refine y_bs0 ?_ | refine y_bs (hK := ?_)
        | ( refine y_next 1 rfl hlt ?_)
        | with_reducible first | refine cD (pTag ?_ ?_) | refine cD (pValid ?_ ?_) | refine cD (sCutP ?_) | refine cD (sHasP ?_)
        | with_reducible refine y_nil (hK := ?_)
        | (with_reducible refine nilTC_split (fun h => ?_) (fun h bn => ?_) <;> (try simp only [List.length_map] at h))
        | ((with_reducible first | refine grd_cases (fun h => ?_) (fun h => ?_) | refine condC_split (fun h => ?_) (fun h => ?_)) <;> (try simp only [h]) <;> (try simp only [NR_, Bool.not_true, Bool.not_false, Bool.not_eq_eq_eq_not, ne_eq] at h))
        | omega | (simp only [LN_]; omega) | (refine maxLen_ok ?_; (first | omega | (simp only [LN_]; omega))))
      exact ⟨(p + (Utf8.decode s p).2, l ++ [((Utf8.decode s p).1 : Int)], _), St_leW (by dsimp only; simp only [SI, List.map_append, List.map_cons, List.map_nil]; repeat (first | exact trivial | refine ⟨le_rfl, ?_⟩ | refine ⟨le_any, ?_⟩ | refine ⟨le_ro, ?_⟩ | refine ⟨le_nil (by decide), ?_⟩ | refine ⟨le_wrap (by omega) (by omega) (by omega), ?_⟩ | refine ⟨le_int (by omega), ?_⟩ | refine ⟨le_eq (by simp), ?_⟩)) (ResW.refl _) id, ⟨by simp; omega, by simp; omega, by simpa using hl⟩, by dsimp only; omega⟩
    · rw [runes_end hge, List.append_nil] at hl
      subst hl
      repeat' (first
        | with_reducible first | refine AW_seqA (AW_block ?_) | refine AW_block ?_ | refine cut_seqloop ?_ | refine cut_loop ?_ | refine AW_seqA (AW_seqA ?_) | refine AW_seq ?_ | refine AW_runReg ?_ | refine AW_runCond ?_ | refine AW_runExit ?_ | refine AW_runRet ?_ | refine AW_runSkip ?_ | refine AW_runLabel ?_
        | simp only [WL, intF, strF, WM, Int.reduceToNat, ne_eq, reduceCtorEq, not_false_eq_true, Nat.reduceAdd, Nat.reduceSub, Nat.reduceLT, Nat.reduceLeDiff, Nat.reduceEqDiff, Bool.not_true, Bool.not_false, beq_self_eq_true, true_and, and_true, reduceIte, Bool.false_eq_true, T3, T4, T9, T21, T24, cI in3, cok15, cok18, cok57, cok91, Try.results56, lt_2]
        | simp (disch := first | omega | (simp only [LN_]; omega)) only [wrap_id, getI]
        | with_reducible first | refine andA (hb := ?_) | refine y_appN ?_ | refine y_appS ?_ | refine y_app (hlen := ?_) (hmax := ?_) (hK := fun tk => ?_) | refine y_bs0 ?_ | refine y_bs (hK := ?_)
        | ( refine y_over 1 rfl hge ?_)
        | with_reducible first | refine cD (pTag ?_ ?_) | refine cD (pValid ?_ ?_) | refine cD (sCutP ?_) | refine cD (sHasP ?_)
        | with_reducible refine y_nil (hK := ?_)
        | (with_reducible refine nilTC_split (fun h => ?_) (fun h bn => ?_) <;> (try simp only [List.length_map] at h))
        | ((with_reducible first | refine grd_cases (fun h => ?_) (fun h => ?_) | refine condC_split (fun h => ?_) (fun h => ?_)) <;> (try simp only [h]) <;> (try simp only [NR_, Bool.not_true, Bool.not_false, Bool.not_eq_eq_eq_not, ne_eq] at h))
        | omega | (simp only [LN_]; omega) | (refine maxLen_ok ?_; (first | omega | (simp only [LN_]; omega))))
      all_goals first
        | (have ha : (tagI (runesB s 0)).2.2 = false := by assumption
           rw [ha, Bool.false_and, Bool.false_and] at hK
           exact leafL (sub_cons (sub_cons sub_rfl)) (leT_eq rfl) hK)
        | (have ha : (tagI (runesB s 0)).2.2 = true := by assumption
           have hb : (tagI (runesB s 0)).2.1 = ((runesB s 0).length : Int) := by assumption
           rw [ha, decide_eq_true hb, Bool.true_and, Bool.true_and] at hK
           exact leafL (sub_cons (sub_cons sub_rfl)) (leT_eq rfl) hK)
        | (have ha : (tagI (runesB s 0)).2.2 = true := by assumption
           have hb : ¬ (tagI (runesB s 0)).2.1 = ((runesB s 0).length : Int) := by assumption
           rw [ha, decide_eq_false hb, Bool.true_and, Bool.false_and] at hK
           exact leafL (sub_cons (sub_cons sub_rfl)) (leT_eq rfl) hK)
        | trace_state
  · rw [if_pos h1] at hK
    rw [if_pos h1] at k2
    refine ACallF.dropL (ACallF_intro Try.func56 rfl ?_)
    simp only [Try.ntmps56]
    repeat' (first
      | simp only [WL, intF, strF, WM, Int.reduceToNat, ne_eq, reduceCtorEq, not_false_eq_true, Nat.reduceAdd, Nat.reduceSub, Nat.reduceLT, Nat.reduceLeDiff, Nat.reduceEqDiff, Bool.not_true, Bool.not_false, beq_self_eq_true, true_and, and_true, reduceIte, Bool.false_eq_true, T3, T4, T9, T21, T24, cI in3, cok15, cok18, cok57, cok91, Try.results56, lt_l, k2]
      | simp (disch := first | omega | (simp only [LN_]; omega)) only [wrap_id, getI]
      | with_reducible first | refine andA (hb := ?_) | refine y_appN ?_ | refine y_appS ?_ | refine y_app (hlen := ?_) (hmax := ?_) (hK := fun tk => ?_) | refine y_bs0 ?_ | refine y_bs (hK := ?_) | refine cD (pTag ?_ ?_) | refine cD (pValid ?_ ?_) | refine cD (sCutP ?_) | refine cD (sHasP ?_)
      | with_reducible refine y_nil (hK := ?_)
      | (with_reducible refine nilTC_split (fun h => ?_) (fun h bn => ?_) <;> (try simp only [List.length_map] at h))
      | ((with_reducible first | refine grd_cases (fun h => ?_) (fun h => ?_) | refine condC_split (fun h => ?_) (fun h => ?_)) <;> (try simp only [h]) <;> (try simp only [NR_, Bool.not_true, Bool.not_false, Bool.not_eq_eq_eq_not, ne_eq] at h))
      | omega | (simp only [LN_]; omega) | (refine maxLen_ok ?_; (first | omega | (simp only [LN_]; omega))))
    all_goals first
      | exact leafL sub_rfl (leT_eq rfl) hK
      | trace_state
end Go.Proofs.Ytaeacialcbahnaa
/-
  Walks: chapter 16, a tag made whole, without handles.
-/



namespace Go.Proofs.Ytaeacialcbahnaa
open Go.Shelf
open Go.Abs
set_option linter.unusedVariables false
set_option linter.unusedSimpArgs false
-- hb: 8000000
section
variable {κ : Ctx} {P : Program} {all rest : List Oper} {Q : Exit → St → Prop} {d : Option Tmp} {t : List AV} {σ : List Res} {fr : Bool} {df : List Deferred}
set_option maxHeartbeats 8000000 in
theorem y_look0 {ty kt et : TypeId} {k : ByteArray} (T : TMap P ty kt et) (hK : goK κ false P all Q d rest ⟨t, σ, fr, df⟩ (.tup [.raw (.string ByteArray.empty), B false]) σ) : actC κ false P all Q d rest ⟨t, σ, fr, df⟩ (.lookup ty true) [.raw (.map none), .raw (.string k)] :=
  actC_mk (act_lookup_nil T hK)
set_option maxHeartbeats 8000000 in
theorem y_look {ty kt et : TypeId} {k : ByteArray} {l : MapL} {clock b : Nat} (i : Nat) (h : σ[i]? = some (.blk b (mapO l clock))) (T : TMap P ty kt et) (hK : goK κ false P all Q d rest ⟨t, σ, fr, df⟩ (.tup [.raw (.string ((lookL l k).getD ByteArray.empty)), B (lookL l k).isSome]) σ) : actC κ false P all Q d rest ⟨t, σ, fr, df⟩ (.lookup ty true) [.raw (.map (some b)), .raw (.string k)] :=
  actC_mk (act_lookup i h T hK)
end
set_option maxHeartbeats 8000000 in
theorem tm40 : TMap Try.prog 40 9 9 := ⟨by kernel_rfl, by kernel_rfl, by kernel_rfl⟩
variable {κ : Ctx} {σ : List Res} {K : Ret → List Res → Prop} {o o' : Option (Option (Nat × Nat))}
/-- The first place of a sign in a text; -1: none. -/
def idxB (s : ByteArray) (c : Int) : Int := Go.Lib.indexByte s.data.toList c.toNat.toUInt8

-- strings.IndexByte
def renI : Go.Shelf.Ren := ⟨fun | 137 => 58 | 217 => 93 | 266 => 114 | n => n, fun | 3 => 3 | 5 => 5 | 9 => 9 | n => n, fun n => n⟩
set_option maxHeartbeats 8000000 in
theorem laysI : Lays.n137 Try.prog renI where
  mixed := by kernel_rfl
  f137 := Try.func58.trans (congrArg some (by kernel_rfl))
  f217 := Try.func93.trans (congrArg some (by kernel_rfl))
  f266 := Try.func114.trans (congrArg some (by kernel_rfl))
  t3 := Try.underlying3
  a3 := Try.isAgg3
  z3 := Try.sizeOf3
  v3 := Try.zeroValue3
  t5 := Try.underlying5
  a5 := Try.isAgg5
  z5 := Try.sizeOf5
  v5 := Try.zeroValue5
  t9 := Try.underlying9
  a9 := Try.isAgg9
  z9 := Try.sizeOf9
  v9 := Try.zeroValue9
set_option maxHeartbeats 8000000 in
theorem sIndexB {s : ByteArray} {c : Int} (hK : K (.ret (I (idxB s c))) σ) : ACallF κ Try.prog 58 [.raw (.string s), .raw (.int .u8 c)] σ K :=
  ACallF_of_calls (xs := [.string s, .int .u8 c]) (fun w => Any.strings_IndexByte laysI s c w) hK

def pre0 (h : ByteArray) : ByteArray × Bool :=
  if (h.toList == bangB.toList) = true then (bangB, true) else if (h.toList == bang2B.toList) = true then (yB, true) else (({ data := #[] } : ByteArray), false)

-- tags.Scope).prefix
set_option maxHeartbeats 8000000 in
theorem tPrefix0 {h : ByteArray} {b : Nat} (hK : K (.ret (.tup [.raw (.string (pre0 h).1), B (pre0 h).2])) (.obj b [.raw (.map none)] :: σ)) : ACallF κ Try.prog 59 [.raw (.pointer (some ⟨b, 0, none⟩)), .raw (.string h)] (.obj b [.raw (.map none)] :: σ) K := by
  unfold pre0 at hK
  cases h1 : (h.toList == bangB.toList)
  · cases h2 : (h.toList == bang2B.toList)
    · rw [if_neg (by rw [h1]; decide), if_neg (by rw [h2]; decide)] at hK
      refine ACallF.dropL (ACallF_intro Try.func59 rfl ?_)
      simp only [Try.ntmps59]
      repeat' (first
        | simp only [WL, intF, strF, WM, Int.reduceToNat, ne_eq, reduceCtorEq, not_false_eq_true, Nat.reduceAdd, Nat.reduceSub, Nat.reduceLT, Nat.reduceLeDiff, Nat.reduceEqDiff, Bool.not_true, Bool.not_false, beq_self_eq_true, true_and, and_true, reduceIte, Bool.false_eq_true, T4, T9, T40, T42, T86, fC fl42_0, fR fl42_0, Try.results59, lt_y, lt_b, lt_b2, h1, h2]
        | simp (disch := first | omega | (simp only [LN_]; omega)) only [wrap_id, getI]
        | with_reducible first | refine andA (hb := ?_) | refine y_load (hK := ?_)
        | ( refine y_look0 tm40 ?_)
        | with_reducible refine y_nil (hK := ?_)
        | (with_reducible refine nilTC_split (fun h => ?_) (fun h bn => ?_) <;> (try simp only [List.length_map] at h))
        | ((with_reducible first | refine grd_cases (fun h => ?_) (fun h => ?_) | refine condC_split (fun h => ?_) (fun h => ?_)) <;> (try simp only [h]) <;> (try simp only [NR_, Bool.not_true, Bool.not_false, Bool.not_eq_eq_eq_not, ne_eq] at h))
        | omega | (simp only [LN_]; omega))
      all_goals first
        | exact leafL sub_rfl (leT_eq rfl) hK
        | trace_state
    · rw [if_neg (by rw [h1]; decide), if_pos h2] at hK
      refine ACallF.dropL (ACallF_intro Try.func59 rfl ?_)
      simp only [Try.ntmps59]
      repeat' (first
        | simp only [WL, intF, strF, WM, Int.reduceToNat, ne_eq, reduceCtorEq, not_false_eq_true, Nat.reduceAdd, Nat.reduceSub, Nat.reduceLT, Nat.reduceLeDiff, Nat.reduceEqDiff, Bool.not_true, Bool.not_false, beq_self_eq_true, true_and, and_true, reduceIte, Bool.false_eq_true, T4, T9, T40, T42, T86, fC fl42_0, fR fl42_0, Try.results59, lt_y, lt_b, lt_b2, h1, h2]
        | simp (disch := first | omega | (simp only [LN_]; omega)) only [wrap_id, getI]
        | with_reducible first | refine andA (hb := ?_) | refine y_load (hK := ?_)
        | ( refine y_look0 tm40 ?_)
        | with_reducible refine y_nil (hK := ?_)
        | (with_reducible refine nilTC_split (fun h => ?_) (fun h bn => ?_) <;> (try simp only [List.length_map] at h))
        | ((with_reducible first | refine grd_cases (fun h => ?_) (fun h => ?_) | refine condC_split (fun h => ?_) (fun h => ?_)) <;> (try simp only [h]) <;> (try simp only [NR_, Bool.not_true, Bool.not_false, Bool.not_eq_eq_eq_not, ne_eq] at h))
        | omega | (simp only [LN_]; omega))
      all_goals first
        | exact leafL sub_rfl (leT_eq rfl) hK
        | trace_state
  · rw [if_pos h1] at hK
    refine ACallF.dropL (ACallF_intro Try.func59 rfl ?_)
    simp only [Try.ntmps59]
    repeat' (first
      | simp only [WL, intF, strF, WM, Int.reduceToNat, ne_eq, reduceCtorEq, not_false_eq_true, Nat.reduceAdd, Nat.reduceSub, Nat.reduceLT, Nat.reduceLeDiff, Nat.reduceEqDiff, Bool.not_true, Bool.not_false, beq_self_eq_true, true_and, and_true, reduceIte, Bool.false_eq_true, T4, T9, T40, T42, T86, fC fl42_0, fR fl42_0, Try.results59, lt_y, lt_b, lt_b2, h1]
      | simp (disch := first | omega | (simp only [LN_]; omega)) only [wrap_id, getI]
      | with_reducible first | refine andA (hb := ?_) | refine y_load (hK := ?_)
      | ( refine y_look0 tm40 ?_)
      | with_reducible refine y_nil (hK := ?_)
      | (with_reducible refine nilTC_split (fun h => ?_) (fun h bn => ?_) <;> (try simp only [List.length_map] at h))
      | ((with_reducible first | refine grd_cases (fun h => ?_) (fun h => ?_) | refine condC_split (fun h => ?_) (fun h => ?_)) <;> (try simp only [h]) <;> (try simp only [NR_, Bool.not_true, Bool.not_false, Bool.not_eq_eq_eq_not, ne_eq] at h))
      | omega | (simp only [LN_]; omega))
    all_goals first
      | exact leafL sub_rfl (leT_eq rfl) hK
      | trace_state
/-- Where a handle ends. -/
def cutN (s : ByteArray) : Nat := if 0 ≤ idxB (s.extract 1 s.size) 33 then (idxB (s.extract 1 s.size) 33).toNat + 2 else 1
def whole0 (s : ByteArray) : ByteArray × Int :=
  if (s.toList == ({ data := #[] } : ByteArray).toList) = true ∨ (s.toList == bangB.toList) = true then (s, 0)
  else if toldB s = false then (({ data := #[] } : ByteArray), 11)
  else if hasB s lessB = true then (s.extract 1 s.size, 0)
  else if (pre0 (s.extract 0 (cutN s))).2 = false then (({ data := #[] } : ByteArray), 11)
  else ((pre0 (s.extract 0 (cutN s))).1 ++ s.extract (cutN s) s.size, 0)
set_option maxHeartbeats 8000000 in
theorem pre0_size (h : ByteArray) : (pre0 h).1.size ≤ 18 := by
  unfold pre0
  split
  · rw [z_b]; decide
  · split
    · rw [z_y]; decide
    · decide +kernel

-- tags.Scope).Whole
set_option maxHeartbeats 8000000 in
theorem tWhole0 {s : ByteArray} {b : Nat} (hs : s.size ≤ 1000000) (hn : cutN s ≤ s.size) (hi : -1 ≤ idxB (s.extract 1 s.size) 33 ∧ idxB (s.extract 1 s.size) 33 ≤ 1000000) (hK : K (.ret (.tup [.raw (.string (whole0 s).1), I (whole0 s).2])) (.obj b [.raw (.map none)] :: σ)) : ACallF κ Try.prog 25 [.raw (.pointer (some ⟨b, 0, none⟩)), .raw (.string s)] (.obj b [.raw (.map none)] :: σ) K := by
  have y4 := z_l
  have e2 := z_ext (s := s) 1
  have e3 := z_ext (s := s) (cutN s)
  have e4 := pre0_size (s.extract 0 (cutN s))
  have k2 : cutB s lessB = if hasB s lessB = true then (s.extract 1 s.size, true) else (s, false) := rfl
  unfold whole0 at hK
  cases h0 : (s.toList == ({ data := #[] } : ByteArray).toList)
  · cases h1 : (s.toList == bangB.toList)
    · rw [if_neg (fun e => by rw [h0, h1] at e; exact e.elim (fun e => by cases e) (fun e => by cases e))] at hK
      have hpos : 1 ≤ s.size := by
        rcases Nat.eq_zero_or_pos s.size with h | h
        · have : s = ByteArray.empty := ByteArray.size_eq_zero_iff.mp h
          subst this
          revert h0; decide +kernel
        · exact h
      cases h2 : toldB s
      · rw [if_pos h2] at hK
        refine ACallF.dropL (ACallF_intro Try.func25 rfl ?_)
        simp only [Try.ntmps25]
        repeat' (first
          | simp only [WL, intF, strF, WM, Int.reduceToNat, ne_eq, reduceCtorEq, not_false_eq_true, Nat.reduceAdd, Nat.reduceSub, Nat.reduceLT, Nat.reduceLeDiff, Nat.reduceEqDiff, Bool.not_true, Bool.not_false, beq_self_eq_true, true_and, and_true, reduceIte, Bool.false_eq_true, T3, T4, T5, T9, T40, T42, T50, T86, cok56, cok57, cok58, cok59, Try.results25, lt_b, lt_l, h0, h1, h2]
          | simp (disch := first | omega | (simp only [LN_]; omega)) only [wrap_id, getI]
          | with_reducible first | refine andA (hb := ?_) | refine cD (tTold ?_ ?_) | refine cD (sCutP ?_) | refine cD (sIndexB ?_) | refine cD (tPrefix0 ?_)
          | with_reducible refine y_nil (hK := ?_)
          | (with_reducible refine nilTC_split (fun h => ?_) (fun h bn => ?_) <;> (try simp only [List.length_map] at h))
          | ((with_reducible first | refine grd_cases (fun h => ?_) (fun h => ?_) | refine condC_split (fun h => ?_) (fun h => ?_)) <;> (try simp only [h]) <;> (try simp only [NR_, Bool.not_true, Bool.not_false, Bool.not_eq_eq_eq_not, ne_eq] at h))
          | omega | (simp only [LN_]; omega))
        all_goals first
          | exact leafL sub_rfl (leT_eq rfl) hK
          | trace_state
      · rw [if_neg (by rw [h2]; decide)] at hK
        cases h3 : hasB s lessB
        · rw [if_neg (by rw [h3]; decide)] at hK
          rw [if_neg (by rw [h3]; decide)] at k2
          have hc : 0 ≤ idxB (s.extract 1 s.size) 33 → idxB (s.extract 1 s.size) 33 + 2 = (cutN s : Int) := fun h => by unfold cutN; rw [if_pos h]; omega
          have hc2 : ¬ 0 ≤ idxB (s.extract 1 s.size) 33 → (1 : Int) = (cutN s : Int) := fun h => by unfold cutN; rw [if_neg h]; rfl
          by_cases h4 : 0 ≤ idxB (s.extract 1 s.size) 33
          · have hc := hc h4
            cases h5 : (pre0 (s.extract 0 (cutN s))).2
            · rw [if_pos h5] at hK
              refine ACallF.dropL (ACallF_intro Try.func25 rfl ?_)
              simp only [Try.ntmps25]
              repeat' (first
                | simp only [WL, intF, strF, WM, Int.reduceToNat, ne_eq, reduceCtorEq, not_false_eq_true, Nat.reduceAdd, Nat.reduceSub, Nat.reduceLT, Nat.reduceLeDiff, Nat.reduceEqDiff, Bool.not_true, Bool.not_false, beq_self_eq_true, true_and, and_true, reduceIte, Bool.false_eq_true, T3, T4, T5, T9, T40, T42, T50, T86, cok56, cok57, cok58, cok59, Try.results25, lt_b, lt_l, h0, h1, h2, k2, hc, h5, Int.toNat_natCast, Int.toNat_zero]
                | simp (disch := first | omega | (simp only [LN_]; omega)) only [wrap_id, getI, str_add]
                | with_reducible first | refine andA (hb := ?_) | refine cD (tTold ?_ ?_) | refine cD (sCutP ?_) | refine cD (sIndexB ?_) | refine cD (tPrefix0 ?_)
                | with_reducible refine y_nil (hK := ?_)
                | (with_reducible refine nilTC_split (fun h => ?_) (fun h bn => ?_) <;> (try simp only [List.length_map] at h))
                | ((with_reducible first | refine grd_cases (fun h => ?_) (fun h => ?_) | refine condC_split (fun h => ?_) (fun h => ?_)) <;> (try simp only [h]) <;> (try simp only [NR_, Bool.not_true, Bool.not_false, Bool.not_eq_eq_eq_not, ne_eq] at h))
                | omega | (simp only [LN_]; omega))
              all_goals first
                | exact leafL sub_rfl (leT_eq rfl) hK
                | (exfalso; omega)
                | trace_state
            · rw [if_neg (by rw [h5]; decide)] at hK
              refine ACallF.dropL (ACallF_intro Try.func25 rfl ?_)
              simp only [Try.ntmps25]
              repeat' (first
                | simp only [WL, intF, strF, WM, Int.reduceToNat, ne_eq, reduceCtorEq, not_false_eq_true, Nat.reduceAdd, Nat.reduceSub, Nat.reduceLT, Nat.reduceLeDiff, Nat.reduceEqDiff, Bool.not_true, Bool.not_false, beq_self_eq_true, true_and, and_true, reduceIte, Bool.false_eq_true, T3, T4, T5, T9, T40, T42, T50, T86, cok56, cok57, cok58, cok59, Try.results25, lt_b, lt_l, h0, h1, h2, k2, hc, h5, Int.toNat_natCast, Int.toNat_zero]
                | simp (disch := first | omega | (simp only [LN_]; omega)) only [wrap_id, getI, str_add]
                | with_reducible first | refine andA (hb := ?_) | refine cD (tTold ?_ ?_) | refine cD (sCutP ?_) | refine cD (sIndexB ?_) | refine cD (tPrefix0 ?_)
                | with_reducible refine y_nil (hK := ?_)
                | (with_reducible refine nilTC_split (fun h => ?_) (fun h bn => ?_) <;> (try simp only [List.length_map] at h))
                | ((with_reducible first | refine grd_cases (fun h => ?_) (fun h => ?_) | refine condC_split (fun h => ?_) (fun h => ?_)) <;> (try simp only [h]) <;> (try simp only [NR_, Bool.not_true, Bool.not_false, Bool.not_eq_eq_eq_not, ne_eq] at h))
                | omega | (simp only [LN_]; omega))
              all_goals first
                | exact leafL sub_rfl (leT_eq rfl) hK
                | (exfalso; omega)
                | trace_state
          · have hc := hc2 h4
            have hc1 : cutN s = 1 := by omega
            rw [hc1] at hK e3 e4
            cases h5 : (pre0 (s.extract 0 1)).2
            · rw [if_pos h5] at hK
              refine ACallF.dropL (ACallF_intro Try.func25 rfl ?_)
              simp only [Try.ntmps25]
              repeat' (first
                | simp only [WL, intF, strF, WM, Int.reduceToNat, ne_eq, reduceCtorEq, not_false_eq_true, Nat.reduceAdd, Nat.reduceSub, Nat.reduceLT, Nat.reduceLeDiff, Nat.reduceEqDiff, Bool.not_true, Bool.not_false, beq_self_eq_true, true_and, and_true, reduceIte, Bool.false_eq_true, T3, T4, T5, T9, T40, T42, T50, T86, cok56, cok57, cok58, cok59, Try.results25, lt_b, lt_l, h0, h1, h2, k2, h5, Int.toNat_natCast, Int.toNat_zero]
                | simp (disch := first | omega | (simp only [LN_]; omega)) only [wrap_id, getI, str_add]
                | with_reducible first | refine andA (hb := ?_) | refine cD (tTold ?_ ?_) | refine cD (sCutP ?_) | refine cD (sIndexB ?_) | refine cD (tPrefix0 ?_)
                | with_reducible refine y_nil (hK := ?_)
                | (with_reducible refine nilTC_split (fun h => ?_) (fun h bn => ?_) <;> (try simp only [List.length_map] at h))
                | ((with_reducible first | refine grd_cases (fun h => ?_) (fun h => ?_) | refine condC_split (fun h => ?_) (fun h => ?_)) <;> (try simp only [h]) <;> (try simp only [NR_, Bool.not_true, Bool.not_false, Bool.not_eq_eq_eq_not, ne_eq] at h))
                | omega | (simp only [LN_]; omega))
              all_goals first
                | exact leafL sub_rfl (leT_eq rfl) hK
                | (exfalso; omega)
                | trace_state
            · rw [if_neg (by rw [h5]; decide)] at hK
              refine ACallF.dropL (ACallF_intro Try.func25 rfl ?_)
              simp only [Try.ntmps25]
              repeat' (first
                | simp only [WL, intF, strF, WM, Int.reduceToNat, ne_eq, reduceCtorEq, not_false_eq_true, Nat.reduceAdd, Nat.reduceSub, Nat.reduceLT, Nat.reduceLeDiff, Nat.reduceEqDiff, Bool.not_true, Bool.not_false, beq_self_eq_true, true_and, and_true, reduceIte, Bool.false_eq_true, T3, T4, T5, T9, T40, T42, T50, T86, cok56, cok57, cok58, cok59, Try.results25, lt_b, lt_l, h0, h1, h2, k2, h5, Int.toNat_natCast, Int.toNat_zero]
                | simp (disch := first | omega | (simp only [LN_]; omega)) only [wrap_id, getI, str_add]
                | with_reducible first | refine andA (hb := ?_) | refine cD (tTold ?_ ?_) | refine cD (sCutP ?_) | refine cD (sIndexB ?_) | refine cD (tPrefix0 ?_)
                | with_reducible refine y_nil (hK := ?_)
                | (with_reducible refine nilTC_split (fun h => ?_) (fun h bn => ?_) <;> (try simp only [List.length_map] at h))
                | ((with_reducible first | refine grd_cases (fun h => ?_) (fun h => ?_) | refine condC_split (fun h => ?_) (fun h => ?_)) <;> (try simp only [h]) <;> (try simp only [NR_, Bool.not_true, Bool.not_false, Bool.not_eq_eq_eq_not, ne_eq] at h))
                | omega | (simp only [LN_]; omega))
              all_goals first
                | exact leafL sub_rfl (leT_eq rfl) hK
                | (exfalso; omega)
                | trace_state
        · rw [if_pos h3] at hK
          rw [if_pos h3] at k2
          refine ACallF.dropL (ACallF_intro Try.func25 rfl ?_)
          simp only [Try.ntmps25]
          repeat' (first
            | simp only [WL, intF, strF, WM, Int.reduceToNat, ne_eq, reduceCtorEq, not_false_eq_true, Nat.reduceAdd, Nat.reduceSub, Nat.reduceLT, Nat.reduceLeDiff, Nat.reduceEqDiff, Bool.not_true, Bool.not_false, beq_self_eq_true, true_and, and_true, reduceIte, Bool.false_eq_true, T3, T4, T5, T9, T40, T42, T50, T86, cok56, cok57, cok58, cok59, Try.results25, lt_b, lt_l, h0, h1, h2, k2]
            | simp (disch := first | omega | (simp only [LN_]; omega)) only [wrap_id, getI]
            | with_reducible first | refine andA (hb := ?_) | refine cD (tTold ?_ ?_) | refine cD (sCutP ?_) | refine cD (sIndexB ?_) | refine cD (tPrefix0 ?_)
            | with_reducible refine y_nil (hK := ?_)
            | (with_reducible refine nilTC_split (fun h => ?_) (fun h bn => ?_) <;> (try simp only [List.length_map] at h))
            | ((with_reducible first | refine grd_cases (fun h => ?_) (fun h => ?_) | refine condC_split (fun h => ?_) (fun h => ?_)) <;> (try simp only [h]) <;> (try simp only [NR_, Bool.not_true, Bool.not_false, Bool.not_eq_eq_eq_not, ne_eq] at h))
            | omega | (simp only [LN_]; omega))
          all_goals first
            | exact leafL sub_rfl (leT_eq rfl) hK
            | trace_state
    · rw [if_pos (.inr h1)] at hK
      refine ACallF.dropL (ACallF_intro Try.func25 rfl ?_)
      simp only [Try.ntmps25]
      repeat' (first
        | simp only [WL, intF, strF, WM, Int.reduceToNat, ne_eq, reduceCtorEq, not_false_eq_true, Nat.reduceAdd, Nat.reduceSub, Nat.reduceLT, Nat.reduceLeDiff, Nat.reduceEqDiff, Bool.not_true, Bool.not_false, beq_self_eq_true, true_and, and_true, reduceIte, Bool.false_eq_true, T3, T4, T5, T9, T40, T42, T50, T86, cok56, cok57, cok58, cok59, Try.results25, lt_b, h0, h1]
        | simp (disch := first | omega | (simp only [LN_]; omega)) only [wrap_id, getI]
        | with_reducible first | refine andA (hb := ?_) | refine cD (tTold ?_ ?_) | refine cD (sCutP ?_) | refine cD (sIndexB ?_) | refine cD (tPrefix0 ?_)
        | with_reducible refine y_nil (hK := ?_)
        | (with_reducible refine nilTC_split (fun h => ?_) (fun h bn => ?_) <;> (try simp only [List.length_map] at h))
        | ((with_reducible first | refine grd_cases (fun h => ?_) (fun h => ?_) | refine condC_split (fun h => ?_) (fun h => ?_)) <;> (try simp only [h]) <;> (try simp only [NR_, Bool.not_true, Bool.not_false, Bool.not_eq_eq_eq_not, ne_eq] at h))
        | omega | (simp only [LN_]; omega))
      all_goals first
        | exact leafL sub_rfl (leT_eq rfl) hK
        | trace_state
  · rw [if_pos (.inl h0)] at hK
    refine ACallF.dropL (ACallF_intro Try.func25 rfl ?_)
    simp only [Try.ntmps25]
    repeat' (first
      | simp only [WL, intF, strF, WM, Int.reduceToNat, ne_eq, reduceCtorEq, not_false_eq_true, Nat.reduceAdd, Nat.reduceSub, Nat.reduceLT, Nat.reduceLeDiff, Nat.reduceEqDiff, Bool.not_true, Bool.not_false, beq_self_eq_true, true_and, and_true, reduceIte, Bool.false_eq_true, T3, T4, T5, T9, T40, T42, T50, T86, cok56, cok57, cok58, cok59, Try.results25, lt_b, h0]
      | simp (disch := first | omega | (simp only [LN_]; omega)) only [wrap_id, getI]
      | with_reducible first | refine andA (hb := ?_) | refine cD (tTold ?_ ?_) | refine cD (sCutP ?_) | refine cD (sIndexB ?_) | refine cD (tPrefix0 ?_)
      | with_reducible refine y_nil (hK := ?_)
      | (with_reducible refine nilTC_split (fun h => ?_) (fun h bn => ?_) <;> (try simp only [List.length_map] at h))
      | ((with_reducible first | refine grd_cases (fun h => ?_) (fun h => ?_) | refine condC_split (fun h => ?_) (fun h => ?_)) <;> (try simp only [h]) <;> (try simp only [NR_, Bool.not_true, Bool.not_false, Bool.not_eq_eq_eq_not, ne_eq] at h))
      | omega | (simp only [LN_]; omega))
    all_goals first
      | exact leafL sub_rfl (leT_eq rfl) hK
      | trace_state
end Go.Proofs.Ytaeacialcbahnaa
/-
  Plain facts for the law PropsWhole. No program in sight.
-/

namespace Go.Abs
set_option linter.unusedSimpArgs false
set_option linter.unusedVariables false
theorem signN_app {l t : List Int} (h : ¬ signN l = 0) : signN (l ++ t) = signN l := by
  cases l with
  | nil => exact absurd rfl h
  | cons c r =>
    simp only [List.cons_append, signN] at h ⊢
    by_cases h37 : c = 37
    · simp only [h37, if_true] at h ⊢
      by_cases hh : 2 ≤ r.length ∧ 0 ≤ hexI (r.getD 0 0) ∧ 0 ≤ hexI (r.getD 1 0)
      · have e0 : (r ++ t).getD 0 0 = r.getD 0 0 := by
          rw [List.getD_eq_getElem?_getD, List.getD_eq_getElem?_getD, List.getElem?_append_left (by omega)]
        have e1 : (r ++ t).getD 1 0 = r.getD 1 0 := by
          rw [List.getD_eq_getElem?_getD, List.getD_eq_getElem?_getD, List.getElem?_append_left (by omega)]
        rw [if_pos hh, e0, e1, if_pos ⟨by rw [List.length_append]; omega, hh.2⟩]
      · rw [if_neg hh] at h; exact absurd rfl h
    · simp only [h37, if_false]
theorem uri_app : ∀ (n : Nat) (l t : List Int), l.length ≤ n → uriN anyC l = l.length → signN t = 0 → uriN anyC (l ++ t) = l.length
  | _, [], t, _, _, ht => by rw [List.nil_append, uriN_no (.inl ht)]; rfl
  | 0, c :: r, _, h, _, _ => by simp at h
  | n + 1, c :: r, t, h, hu, ht => by
    by_cases hz : signN (c :: r) = 0
    · rw [uriN_no (.inl hz)] at hu; simp at hu
    · have hs := (signN_le (c :: r)).2
      rw [uriN_yes hz rfl] at hu
      rw [uriN_yes (by rw [signN_app hz]; exact hz) rfl, signN_app hz, List.drop_append_of_le_length hs]
      have := uri_app n ((c :: r).drop (signN (c :: r))) t (by simp only [List.length_drop, List.length_cons] at *; omega) (by rw [List.length_drop]; omega) ht
      rw [this, List.length_drop]; omega
theorem word_short {c : Int} (h : wordI c = true) : shortC c = true ∧ ¬ c = 37 := by
  unfold wordI at h
  have := of_decide_eq_true h
  unfold shortC flowI
  refine ⟨?_, by omega⟩
  simp only [Bool.and_eq_true, Bool.not_eq_true', beq_eq_false_iff_ne, decide_eq_false_iff_not]
  omega
theorem uri_words : ∀ (l t : List Int), (∀ c ∈ l, wordI c = true) → (signN t = 0 ∨ shortC (t.getD 0 0) = false) → uriN shortC (l ++ t) = l.length
  | [], t, _, ht => by rw [List.nil_append, uriN_no ht]; rfl
  | c :: r, t, h, ht => by
    have hc := h c (by simp)
    obtain ⟨h1, h2⟩ := word_short hc
    have e : signN (c :: (r ++ t)) = 1 := by simp only [signN]; rw [if_neg h2, hc]; rfl
    rw [List.cons_append, uriN_yes (by rw [e]; decide) (by simpa using h1), e, List.drop_succ_cons, List.drop_zero, uri_words r t (fun x hx => h x (by simp [hx])) ht]
    simp; omega
theorem cnt_words {l t : List Int} (h : ∀ c ∈ l, wordI c = true) (ht : cnt wordI t = 0) : cnt wordI (l ++ t) = l.length := by rw [cnt_all h, ht]; rfl
/-- A tag between angles. -/
theorem tag_whole {l : List Int} (h0 : 0 < l.length) (h : uriN anyC l = l.length) : tagI ([33, 60] ++ l ++ [62, 32, 120]) = (textI (60 :: l), ((l.length + 3 : Nat) : Int), true) := by
  have e1 : ([33, 60] ++ l ++ [62, 32, 120]).drop 2 = l ++ [62, 32, 120] := by simp
  have hu := uri_app l.length l [62, 32, 120] (Nat.le_refl _) h (by decide)
  have a0 : atI ([33, 60] ++ l ++ [62, 32, 120]) 0 33 = true := decide_eq_true ⟨by simp, by simp⟩
  have a1 : atI ([33, 60] ++ l ++ [62, 32, 120]) 1 60 = true := decide_eq_true ⟨by simp, by simp⟩
  have a2 : atI ([33, 60] ++ l ++ [62, 32, 120]) (l.length + 2) 62 = true := decide_eq_true ⟨by simp, by rw [getD_pre (p := [33, 60] ++ l) (by simp)]; rfl⟩
  unfold tagI wholeI
  rw [a0, a1, if_neg (by decide), if_pos rfl, e1, hu, a2, if_neg (fun h => h.elim (fun h => by omega) (fun h => by cases h))]
  have : (([33, 60] ++ l ++ [62, 32, 120]).take (l.length + 2)).drop 1 = 60 :: l := by
    rw [List.take_left' (by simp)]; simp
  rw [this]
theorem tag_one {l t : List Int} (h0 : 0 < l.length) (h : ∀ c ∈ l, wordI c = true) (ht : cnt wordI t = 0) (ht2 : t.getD 0 0 = 32) (hs : signN t = 0) : tagI ([33] ++ l ++ t) = (textI (33 :: l), ((l.length + 1 : Nat) : Int), true) := by
  obtain ⟨c, r, rfl⟩ : ∃ c r, l = c :: r := by cases l with
    | nil => simp at h0
    | cons c r => exact ⟨c, r, rfl⟩
  have hc := h c (by simp)
  have a0 : atI ([33] ++ (c :: r) ++ t) 0 33 = true := decide_eq_true ⟨by simp, by simp⟩
  have a1 : atI ([33] ++ (c :: r) ++ t) 1 60 = false := by
    refine decide_eq_false (fun e => ?_)
    have e2 : c = 60 := by simpa using e.2
    rw [e2] at hc; revert hc; decide
  have ed : ([33] ++ (c :: r) ++ t).drop 1 = (c :: r) ++ t := by simp
  have hh : handleN ([33] ++ (c :: r) ++ t) = 0 := by
    unfold handleN
    rw [ed, cnt_words h ht, if_neg]
    rw [Bool.not_eq_true]
    refine decide_eq_false (fun e => ?_)
    have := e.2
    rw [getD_pre (p := [33] ++ (c :: r)) (by simp; try omega), ht2] at this
    cases this
  have em : max (handleN ([33] ++ (c :: r) ++ t)) 1 = 1 := by rw [hh]; rfl
  unfold tagI shortI
  rw [a0, a1, if_neg (by decide), if_neg (by decide), em, ed, uri_words _ t h (.inl hs), hh, if_neg (by omega)]
  have : ([33] ++ (c :: r) ++ t).take ((c :: r).length + 1) = 33 :: c :: r := by rw [List.take_left' (by simp)]; simp
  rw [this]
theorem tag_two {l t : List Int} (h0 : 0 < l.length) (h : ∀ c ∈ l, wordI c = true) (hs : signN t = 0) : tagI ([33, 33] ++ l ++ t) = (textI (33 :: 33 :: l), ((l.length + 2 : Nat) : Int), true) := by
  have a0 : atI ([33, 33] ++ l ++ t) 0 33 = true := decide_eq_true ⟨by simp, by simp⟩
  have a1 : atI ([33, 33] ++ l ++ t) 1 60 = false := decide_eq_false (fun e => by simp at e)
  have hh : handleN ([33, 33] ++ l ++ t) = 2 := by
    unfold handleN
    have : cnt wordI (([33, 33] ++ l ++ t).drop 1) = 0 := by
      have e : List.drop 1 ([33, 33] ++ l ++ t) = 33 :: (l ++ t) := by simp
      rw [e]; exact cnt_head (by decide)
    rw [this, show atI ([33, 33] ++ l ++ t) (1 + 0) 33 = true from decide_eq_true ⟨by simp, by simp⟩]; rfl
  have em : max (handleN ([33, 33] ++ l ++ t)) 1 = 2 := by rw [hh]; rfl
  have ed : ([33, 33] ++ l ++ t).drop 2 = l ++ t := by simp
  unfold tagI shortI
  rw [a0, a1, if_neg (by decide), if_neg (by decide), em, ed, uri_words _ t h (.inl hs), if_neg (by omega)]
  have : ([33, 33] ++ l ++ t).take (l.length + 2) = 33 :: 33 :: l := by rw [List.take_left' (by simp)]; simp
  rw [this]
theorem tag_three {l : List Int} (h0 : 0 < l.length) (h : ∀ c ∈ l, wordI c = true) : tagI ([33, 104, 33] ++ l ++ [44, 120]) = (textI (33 :: 104 :: 33 :: l), ((l.length + 3 : Nat) : Int), true) := by
  have a0 : atI ([33, 104, 33] ++ l ++ [44, 120]) 0 33 = true := decide_eq_true ⟨by simp, by simp⟩
  have a1 : atI ([33, 104, 33] ++ l ++ [44, 120]) 1 60 = false := decide_eq_false (fun e => by simp at e)
  have hh : handleN ([33, 104, 33] ++ l ++ [44, 120]) = 3 := by
    unfold handleN
    have : cnt wordI (([33, 104, 33] ++ l ++ [44, 120]).drop 1) = 1 := by
      have e : List.drop 1 ([33, 104, 33] ++ l ++ [44, 120]) = [104] ++ (33 :: (l ++ [44, 120])) := by simp
      rw [e, cnt_all (by decide), cnt_head (by decide)]; rfl
    rw [this, show atI ([33, 104, 33] ++ l ++ [44, 120]) (1 + 1) 33 = true from decide_eq_true ⟨by simp, by simp⟩]; rfl
  have em : max (handleN ([33, 104, 33] ++ l ++ [44, 120])) 1 = 3 := by rw [hh]; rfl
  have ed : ([33, 104, 33] ++ l ++ [44, 120]).drop 3 = l ++ [44, 120] := by simp
  unfold tagI shortI
  rw [a0, a1, if_neg (by decide), if_neg (by decide), em, ed, uri_words _ [44, 120] h (.inr (by decide)), if_neg (by omega)]
  have : ([33, 104, 33] ++ l ++ [44, 120]).take (l.length + 3) = 33 :: 104 :: 33 :: l := by rw [List.take_left' (by simp)]; simp
  rw [this]
/-- A text that may be a tag is ASCII. -/
theorem valid_text {s : ByteArray} (h : validI (bytesI s) = true) : s = textI (bytesI s) ∧ smallI (bytesI s) = some (bytesI s) ∧ 0 < (bytesI s).length ∧ uriN anyC (bytesI s) = (bytesI s).length := by
  have ha := valid_ascii h
  have hv := of_decide_eq_true h
  exact ⟨by rw [textI, encL_ascii ha, strOfNums_bytesI], smallI_ascii ha, hv⟩
end Go.Abs
/-
  Plain facts for the law TagsBack.
-/


namespace Go.Proofs.Ytaeacialcbahnaa
open Go.Abs
set_option linter.unusedVariables false
set_option linter.unusedSimpArgs false
set_option linter.unusedSimpArgs false
set_option linter.unusedVariables false
theorem bytesI_app (a b : ByteArray) : bytesI (a ++ b) = bytesI a ++ bytesI b := by simp [bytesI, ByteArray.data_append]
theorem bytesI_ext (s : ByteArray) (i j : Nat) : bytesI (s.extract i j) = ((bytesI s).drop i).take (j - i) := by
  simp [bytesI, ByteArray.data_extract, List.map_take, List.map_drop, List.extract_eq_take_drop]
theorem bytesI_inj {a b : ByteArray} (h : bytesI a = bytesI b) : a = b := by rw [← strOfNums_bytesI a, ← strOfNums_bytesI b, h]
theorem hasB_iff {s p : ByteArray} : hasB s p = true ↔ ∃ r, bytesI s = bytesI p ++ r := by
  unfold hasB
  constructor
  · intro h
    by_cases hp : p.size ≤ s.size
    · rw [if_pos hp, toList_beq, decide_eq_true_eq] at h
      refine ⟨(bytesI s).drop p.size, ?_⟩
      have := congrArg bytesI h
      rw [bytesI_ext, Nat.sub_zero, List.drop_zero] at this
      rw [← this, List.take_append_drop]
    · rw [if_neg hp] at h; cases h
  · rintro ⟨r, h⟩
    have hl := congrArg List.length h
    rw [List.length_append, bytesI_len, bytesI_len] at hl
    rw [if_pos (by omega), toList_beq, decide_eq_true_eq]
    apply bytesI_inj
    rw [bytesI_ext, h, List.drop_zero, Nat.sub_zero, List.take_left' (bytesI_len p)]
theorem runes_ascii {s : ByteArray} (h : ∀ c ∈ bytesI s, c < 128) : ∀ (n p : Nat), s.size - p ≤ n → runesB s p = (bytesI s).drop p := by
  intro n
  induction n with
  | zero => intro p hn; rw [runes_end (by omega), List.drop_eq_nil_of_le (by rw [bytesI_len]; omega)]
  | succ n ih =>
    intro p hn
    by_cases hp : p < s.size
    · have hl : p < (bytesI s).length := by rw [bytesI_len]; exact hp
      have hb : ((s[p]'hp).toNat : Int) = (bytesI s)[p] := by simp [bytesI]; rfl
      have ha : (s[p]'hp).toNat < 128 := by have := h _ (List.getElem_mem hl); omega
      rw [runes_step hp, decode_ascii s p hp ha, ih (p + 1) (by omega), List.drop_eq_getElem_cons hl, hb]
    · rw [runes_end (by omega), List.drop_eq_nil_of_le (by rw [bytesI_len]; omega)]
theorem idx_none {l : List UInt8} (h : ∀ b ∈ l, b ≠ 33) : Go.Lib.indexByte l 33 = -1 := by
  induction l with
  | nil => rfl
  | cons b l ih => simp [Go.Lib.indexByte, h b (by simp), ih (fun x hx => h x (by simp [hx]))]
theorem idxB_none {s : ByteArray} (h : ∀ c ∈ bytesI s, c ≠ 33) : idxB s 33 = -1 :=
  idx_none (fun b hb e => h b.toNat (by rw [bytesI]; exact List.mem_map_of_mem hb) (by rw [e]; rfl))
theorem idxB_zero {s : ByteArray} {r : List Int} (h : bytesI s = 33 :: r) : idxB s 33 = 0 := by
  unfold idxB
  unfold bytesI at h
  cases hd : s.data.toList with
  | nil => rw [hd] at h; cases h
  | cons b l =>
    rw [hd, List.map_cons] at h
    have h1 : (b.toNat : Int) = 33 := (List.cons.inj h).1
    have h2 : b = 33 := by
      apply UInt8.toNat.inj
      show b.toNat = 33
      omega
    subst h2
    rfl
theorem word_lt {c : Int} (h : wordI c = true) : 0 ≤ c ∧ c < 128 ∧ ¬ c = 33 ∧ ¬ c = 60 := by
  unfold wordI at h
  have := of_decide_eq_true h
  omega
theorem uri_ok : ∀ l : List Int, (∀ c ∈ l, ¬ c = 37 ∧ (wordI c || uriC c) = true) → uriN anyC l = l.length
  | [], _ => rfl
  | c :: r, h => by
    obtain ⟨h1, h2⟩ := h c (by simp)
    have e : signN (c :: r) = 1 := by simp only [signN]; rw [if_neg h1, h2]; rfl
    rw [uriN_yes (by rw [e]; decide) rfl, e, List.drop_succ_cons, List.drop_zero, uri_ok r (fun x hx => h x (by simp [hx]))]
    simp
    omega
theorem tag_bare {l : List Int} (h0 : 0 < l.length) (h : ∀ c ∈ l, wordI c = true) : tagI (33 :: l) = (textI (33 :: l), ((l.length + 1 : Nat) : Int), true) := by
  obtain ⟨c, r, rfl⟩ : ∃ c r, l = c :: r := by cases l with
    | nil => simp at h0
    | cons c r => exact ⟨c, r, rfl⟩
  have hc := h c (by simp)
  have a0 : atI (33 :: c :: r) 0 33 = true := decide_eq_true ⟨by simp, by simp⟩
  have a1 : atI (33 :: c :: r) 1 60 = false := by
    refine decide_eq_false (fun e => ?_)
    have e2 : c = 60 := by simpa using e.2
    exact (word_lt hc).2.2.2 e2
  have ec : cnt wordI (c :: r) = (c :: r).length := by
    have := cnt_all (b := []) h
    rw [List.append_nil] at this; rw [this]; rfl
  have hh : handleN (33 :: c :: r) = 0 := by
    unfold handleN
    rw [List.drop_succ_cons, List.drop_zero, ec, if_neg]
    rw [Bool.not_eq_true]
    exact decide_eq_false (fun e => by have := e.1; simp at this; omega)
  have em : max (handleN (33 :: c :: r)) 1 = 1 := by rw [hh]; rfl
  have eu := uri_words (c :: r) [] h (.inl rfl)
  rw [List.append_nil] at eu
  unfold tagI shortI
  rw [a0, a1, if_neg (by decide), if_neg (by decide), em, List.drop_succ_cons, List.drop_zero, eu, hh, if_neg (by omega)]
  have : (33 :: c :: r).take ((c :: r).length + 1) = 33 :: c :: r := by rw [List.take_of_length_le (by simp)]
  rw [this]
theorem bytes_y : bytesI yB = [116, 97, 103, 58, 121, 97, 109, 108, 46, 111, 114, 103, 44, 50, 48, 48, 50, 58] := by decide +kernel
theorem bytes_b : bytesI bangB = [33] := by decide +kernel
theorem bytes_b2 : bytesI bang2B = [33, 33] := by decide +kernel
theorem bytes_l : bytesI lessB = [60] := by decide +kernel
theorem bytes_l2 : bytesI less2B = [33, 60] := by decide +kernel
theorem bytes_0 : bytesI ({ data := #[] } : ByteArray) = [] := by decide +kernel
theorem words_iff {s : ByteArray} (h : wordsB s = true) : (∀ c ∈ bytesI s, wordI c = true) ∧ 0 < (bytesI s).length := by
  unfold wordsB at h
  rw [Bool.and_eq_true, List.all_eq_true, Bool.not_eq_true', toList_beq, decide_eq_false_iff_not] at h
  refine ⟨h.1, ?_⟩
  rcases Nat.eq_zero_or_pos (bytesI s).length with e | e
  · exact absurd (bytesI_inj (by rw [bytes_0, List.eq_nil_of_length_eq_zero e])) h.2
  · exact e
/-- What a text that is told short is made of. -/
theorem ext_app {s p : ByteArray} {n : Nat} (hn : bytesI p = (bytesI p) ∧ p.size = n) (h : hasB s p = true) : bytesI s = bytesI p ++ bytesI (s.extract n s.size) := by
  obtain ⟨r, hr⟩ := hasB_iff.1 h
  rw [bytesI_ext, hr, List.drop_left' (by rw [bytesI_len]; exact hn.2)]
  have hl := congrArg List.length hr
  rw [List.length_append, bytesI_len, bytesI_len] at hl
  rw [List.take_of_length_le (by omega)]
theorem short_valid (s : ByteArray) : (shortB s).2 = validI (bytesI s) := by
  unfold shortB
  by_cases h1 : hasB s yB = true ∧ wordsB (s.extract 18 s.size) = true
  · rw [if_pos h1]
    obtain ⟨w, w0⟩ := words_iff h1.2
    have e := ext_app (n := 18) ⟨rfl, z_y⟩ h1.1
    refine (decide_eq_true ⟨by rw [e, List.length_append]; omega, uri_ok _ ?_⟩).symm
    intro c hc
    rw [e, List.mem_append, bytes_y] at hc
    rcases hc with hc | hc
    · revert hc; revert c; decide
    · have := w c hc
      exact ⟨(word_short this).2, by rw [this]; rfl⟩
  rw [if_neg h1]
  by_cases h2 : hasB s bangB = true ∧ wordsB (s.extract 1 s.size) = true
  · rw [if_pos h2]
    obtain ⟨w, w0⟩ := words_iff h2.2
    have e := ext_app (n := 1) ⟨rfl, z_b⟩ h2.1
    refine (decide_eq_true ⟨by rw [e, List.length_append]; omega, uri_ok _ ?_⟩).symm
    intro c hc
    rw [e, List.mem_append, bytes_b] at hc
    rcases hc with hc | hc
    · revert hc; revert c; decide
    · have := w c hc
      exact ⟨(word_short this).2, by rw [this]; rfl⟩
  rw [if_neg h2]
  cases hv : validI (bytesI s) <;> simp
theorem short_no {s : ByteArray} (h : (shortB s).2 = false) : (shortB s).1 = ({ data := #[] } : ByteArray) := by
  have hv : validI (bytesI s) = false := by rw [← short_valid]; exact h
  unfold shortB at h ⊢
  by_cases h1 : hasB s yB = true ∧ wordsB (s.extract 18 s.size) = true
  · rw [if_pos h1] at h; cases h
  rw [if_neg h1] at h ⊢
  by_cases h2 : hasB s bangB = true ∧ wordsB (s.extract 1 s.size) = true
  · rw [if_pos h2] at h; cases h
  rw [if_neg h2, if_neg (by rw [hv]; decide)]
theorem hasB_not {t p : ByteArray} (h : ∀ r, bytesI t ≠ bytesI p ++ r) : hasB t p = false := by
  rw [Bool.eq_false_iff]; intro e
  obtain ⟨r, hr⟩ := hasB_iff.1 e
  exact h r hr
theorem bytes_from (t : ByteArray) (n : Nat) : bytesI (t.extract n t.size) = (bytesI t).drop n := by
  rw [bytesI_ext, List.take_of_length_le (by rw [List.length_drop, bytesI_len]; exact Nat.le_refl _)]
theorem bytes_to (t : ByteArray) (n : Nat) : bytesI (t.extract 0 n) = (bytesI t).take n := by rw [bytesI_ext, List.drop_zero, Nat.sub_zero]
theorem beq_not {a b : ByteArray} (h : bytesI a ≠ bytesI b) : (a.toList == b.toList) = false := by
  rw [toList_beq, decide_eq_false_iff_not]
  exact fun e => h (by rw [e])
theorem idx_lt : ∀ (l : List UInt8) (c : UInt8), Go.Lib.indexByte l c < l.length
  | [], _ => by simp [Go.Lib.indexByte]
  | b :: l, c => by
    have := idx_lt l c
    simp only [Go.Lib.indexByte, List.length_cons]
    split
    · omega
    · split <;> omega
theorem idxB_lt (s : ByteArray) (c : Int) : -1 ≤ idxB s c ∧ idxB s c < s.size := by
  refine ⟨Go.Lib.indexByte_ge _ _, ?_⟩
  have := idx_lt s.data.toList c.toNat.toUInt8
  rw [Array.length_toList] at this
  exact this
theorem cutN_le {t : ByteArray} (h : 1 ≤ t.size) : cutN t ≤ t.size := by
  have h1 := (idxB_lt (t.extract 1 t.size) 33).2
  have h2 : (t.extract 1 t.size).size = t.size - 1 := by rw [ByteArray.size_extract]; omega
  unfold cutN
  split <;> omega
theorem told_ascii {t : ByteArray} (ha : ∀ c ∈ bytesI t, c < 128) (hl : hasB t lessB = false) : toldB t = ((tagI (bytesI t)).2.2 && decide ((tagI (bytesI t)).2.1 = (bytesI t).length) && !hasB t less2B) := by
  unfold toldB
  rw [if_neg (by rw [hl]; decide), runes_ascii ha _ 0 (Nat.le_refl _), List.drop_zero]
theorem whole_of {t x : ByteArray} {n : Nat} (h0 : bytesI t ≠ []) (h1 : bytesI t ≠ [33]) (h2 : toldB t = true) (h3 : hasB t lessB = false) (hn : cutN t = n) (hp : pre0 (t.extract 0 n) = (x, true)) : whole0 t = (x ++ t.extract n t.size, 0) := by
  unfold whole0
  rw [hn, hp, beq_not (by rw [bytes_0]; exact h0), beq_not (by rw [bytes_b]; exact h1), if_neg (by decide), if_neg (by rw [h2]; decide), if_neg (by rw [h3]; decide), if_neg (fun q => by cases q)]
theorem pre_b : pre0 bangB = (bangB, true) := by unfold pre0; rw [if_pos (by decide +kernel)]
theorem pre_b2 : pre0 bang2B = (yB, true) := by unfold pre0; rw [if_neg (by decide +kernel), if_pos (by decide +kernel)]
theorem whole_two {r : ByteArray} (h : wordsB r = true) : whole0 (bang2B ++ r) = (yB ++ r, 0) := by
  obtain ⟨w, w0⟩ := words_iff h
  have e : bytesI (bang2B ++ r) = 33 :: 33 :: bytesI r := by rw [bytesI_app, bytes_b2]; rfl
  have ha : ∀ c ∈ bytesI (bang2B ++ r), c < 128 := by
    intro c hc
    rw [e] at hc
    simp only [List.mem_cons] at hc
    rcases hc with rfl | rfl | hc
    · decide
    · decide
    · exact (word_lt (w c hc)).2.1
  have hl : hasB (bang2B ++ r) lessB = false := hasB_not (fun q hq => by rw [e, bytes_l] at hq; have := (List.cons.inj hq).1; omega)
  have hl2 : hasB (bang2B ++ r) less2B = false := hasB_not (fun q hq => by rw [e, bytes_l2] at hq; have := (List.cons.inj (List.cons.inj hq).2).1; omega)
  have ht := tag_two (t := []) w0 w rfl
  rw [List.append_nil] at ht
  have hc : cutN (bang2B ++ r) = 2 := by
    unfold cutN
    rw [idxB_zero (r := bytesI r) (by rw [bytes_from, e]; rfl)]; rfl
  have hx : (bang2B ++ r).extract 0 2 = bang2B := bytesI_inj (by rw [bytes_to, e, bytes_b2]; rfl)
  have hy : (bang2B ++ r).extract 2 (bang2B ++ r).size = r := bytesI_inj (by rw [bytes_from, e]; rfl)
  rw [whole_of (n := 2) (x := yB) (by rw [e]; simp) (by rw [e]; simp) ?_ hl hc (by rw [hx, pre_b2]), hy]
  rw [told_ascii ha hl, e, hl2]
  have : tagI (33 :: 33 :: bytesI r) = (textI (33 :: 33 :: bytesI r), (((bytesI r).length + 2 : Nat) : Int), true) := ht
  rw [this]
  simp
  omega
theorem whole_one {s : ByteArray} (h1 : hasB s bangB = true) (h : wordsB (s.extract 1 s.size) = true) : whole0 s = (s, 0) := by
  obtain ⟨w, w0⟩ := words_iff h
  have e : bytesI s = 33 :: bytesI (s.extract 1 s.size) := by
    have := ext_app (n := 1) ⟨rfl, z_b⟩ h1
    rw [bytes_b] at this; exact this
  generalize hr : s.extract 1 s.size = r at *
  have ha : ∀ c ∈ bytesI s, c < 128 := by
    intro c hc
    rw [e] at hc
    simp only [List.mem_cons] at hc
    rcases hc with rfl | hc
    · decide
    · exact (word_lt (w c hc)).2.1
  have hne : ∀ c q, bytesI r = c :: q → ¬ c = 60 := fun c q hq e2 => (word_lt (w c (by rw [hq]; simp))).2.2.2 e2
  have hl : hasB s lessB = false := hasB_not (fun q hq => by rw [e, bytes_l] at hq; have := (List.cons.inj hq).1; omega)
  have hl2 : hasB s less2B = false := hasB_not (fun q hq => by rw [e, bytes_l2] at hq; exact hne 60 q (List.cons.inj hq).2 rfl)
  have hc : cutN s = 1 := by
    unfold cutN
    rw [hr, idxB_none (fun c hc => (word_lt (w c hc)).2.2.1)]; rfl
  have hx : s.extract 0 1 = bangB := bytesI_inj (by rw [bytes_to, e, bytes_b]; rfl)
  have hlen : 1 < (bytesI s).length := by rw [e]; simp; omega
  rw [whole_of (n := 1) (x := bangB) (by rw [e]; simp) (fun q => by rw [q] at hlen; simp at hlen) ?_ hl hc (by rw [hx, pre_b]), hr]
  · exact congrArg (·, (0 : Int)) (bytesI_inj (by rw [bytesI_app, bytes_b, e]; rfl))
  · rw [told_ascii ha hl, e, hl2, tag_bare w0 w]
    simp
theorem whole_less {s : ByteArray} (h : validI (bytesI s) = true) : whole0 (lessB ++ s) = (s, 0) := by
  have e : bytesI (lessB ++ s) = 60 :: bytesI s := by rw [bytesI_app, bytes_l]; rfl
  have hx : (lessB ++ s).extract 1 (lessB ++ s).size = s := bytesI_inj (by rw [bytes_from, e]; rfl)
  have hl : hasB (lessB ++ s) lessB = true := hasB_iff.2 ⟨bytesI s, by rw [e, bytes_l]; rfl⟩
  have ht : toldB (lessB ++ s) = true := by unfold toldB; rw [if_pos hl, hx, h]
  unfold whole0
  rw [beq_not (by rw [bytes_0, e]; simp), beq_not (by rw [bytes_b, e]; intro q; have := (List.cons.inj q).1; omega), if_neg (by decide), if_neg (by rw [ht]; decide), if_pos hl, hx]
theorem short_whole {s : ByteArray} (h : (shortB s).2 = true) : whole0 (shortB s).1 = (s, 0) := by
  have hv : validI (bytesI s) = true := by rw [← short_valid]; exact h
  unfold shortB
  by_cases h1 : hasB s yB = true ∧ wordsB (s.extract 18 s.size) = true
  · rw [if_pos h1, whole_two h1.2]
    exact congrArg (·, (0 : Int)) (bytesI_inj (by rw [bytesI_app, ext_app (n := 18) ⟨rfl, z_y⟩ h1.1]))
  rw [if_neg h1]
  by_cases h2 : hasB s bangB = true ∧ wordsB (s.extract 1 s.size) = true
  · rw [if_pos h2]; exact whole_one h2.1 h2.2
  rw [if_neg h2, if_pos hv, whole_less hv]
theorem short_size (s : ByteArray) (h : (shortB s).2 = true) : 1 ≤ (shortB s).1.size ∧ (shortB s).1.size ≤ s.size + 2 := by
  have hv : validI (bytesI s) = true := by rw [← short_valid]; exact h
  have hp := (of_decide_eq_true hv).1
  rw [bytesI_len] at hp
  have h0 := z_ext (s := s) 18
  unfold shortB
  by_cases h1 : hasB s yB = true ∧ wordsB (s.extract 18 s.size) = true
  · rw [if_pos h1]
    show 1 ≤ (bang2B ++ s.extract 18 s.size).size ∧ (bang2B ++ s.extract 18 s.size).size ≤ s.size + 2
    rw [ByteArray.size_append, z_b2]; omega
  rw [if_neg h1]
  by_cases h2 : hasB s bangB = true ∧ wordsB (s.extract 1 s.size) = true
  · rw [if_pos h2]; show 1 ≤ s.size ∧ s.size ≤ s.size + 2; omega
  rw [if_neg h2, if_pos hv]
  show 1 ≤ (lessB ++ s).size ∧ (lessB ++ s).size ≤ s.size + 2
  rw [ByteArray.size_append, z_l]; omega
end Go.Proofs.Ytaeacialcbahnaa
/-
  The law TagsBack.
-/

namespace Go.Proofs.Ytaeacialcbahnaa
open Go.Abs
set_option linter.unusedVariables false
set_option linter.unusedSimpArgs false
-- hb: 8000000
-- rd: 20000
variable {κ : Ctx} {σ : List Res} {K : Ret → List Res → Prop} {o o' : Option (Option (Nat × Nat))}
def strB : ByteArray := { data := #[115, 116, 114] }
set_option maxHeartbeats 8000000 in
set_option maxRecDepth 20000 in
theorem ex_t : ({ data := #[33, 33, 115, 116, 114] } : ByteArray) = bang2B ++ strB := by decide +kernel
set_option maxHeartbeats 8000000 in
set_option maxRecDepth 20000 in
theorem ex_w : whole0 (bang2B ++ strB) = (yB ++ strB, 0) := whole_two (by decide +kernel)
set_option maxHeartbeats 8000000 in
set_option maxRecDepth 20000 in
theorem ex_y : ({ data := #[116, 97, 103, 58, 121, 97, 109, 108, 46, 111, 114, 103, 44, 50, 48, 48, 50, 58, 115, 116, 114] } : ByteArray) = yB ++ strB := by decide +kernel
set_option maxHeartbeats 8000000 in
set_option maxRecDepth 20000 in
theorem ex_z : (bang2B ++ strB).size = 5 := by decide +kernel

-- marginalialaw16.num
set_option maxHeartbeats 8000000 in
set_option maxRecDepth 20000 in
theorem lNum {k : IntKind} {c : Int} (hK : K (.ret (.raw (.int k c))) σ) : ACallF κ Try.prog 27 [.raw (.int k c)] σ K := by
  refine ACallF.dropL (ACallF_intro Try.func27 rfl ?_)
  simp only [Try.ntmps27]
  repeat' (first
    | simp only [WL, intF, strF, WM, Int.reduceToNat, ne_eq, reduceCtorEq, not_false_eq_true, Nat.reduceAdd, Nat.reduceSub, Nat.reduceLT, Nat.reduceLeDiff, Nat.reduceEqDiff, Bool.not_true, Bool.not_false, beq_self_eq_true, true_and, and_true, reduceIte, Bool.false_eq_true, T3, T50, Try.results27]
    | simp (disch := first | omega | (simp only [LN_]; omega)) only [wrap_id, getI]
    | with_reducible first | refine andA (hb := ?_)
    | ((with_reducible first | refine grd_cases (fun h => ?_) (fun h => ?_) | refine condC_split (fun h => ?_) (fun h => ?_)) <;> (try simp only [h]) <;> (try simp only [NR_, Bool.not_true, Bool.not_false, Bool.not_eq_eq_eq_not, ne_eq] at h))
    | omega | (simp only [LN_]; omega))
  all_goals exact leafL sub_rfl (leT_eq rfl) hK

-- tags.Scope).Whole
set_option maxHeartbeats 8000000 in
set_option maxRecDepth 20000 in
theorem whole_use {t x : ByteArray} {b : Nat} (h1 : 1 ≤ t.size) (h2 : t.size ≤ 1000000) (hw : whole0 t = (x, 0)) (hK : K (.ret (.tup [.raw (.string x), I 0])) (.obj b [.raw (.map none)] :: σ)) : ACallF κ Try.prog 25 [.raw (.pointer (some ⟨b, 0, none⟩)), .raw (.string t)] (.obj b [.raw (.map none)] :: σ) K := by
  have h3 := idxB_lt (t.extract 1 t.size) 33
  have h4 := z_ext (s := t) 1
  refine tWhole0 h2 (cutN_le h1) ⟨h3.1, by omega⟩ ?_
  rw [hw]; exact hK

-- marginalialaw16.alive
set_option maxHeartbeats 8000000 in
set_option maxRecDepth 20000 in
theorem lAlive16 (hK : K (.ret (B true)) σ) : ACallF κ Try.prog 22 [] σ K := by
  have hz := ex_z
  refine ACallF.dropL (ACallF_intro Try.func22 rfl ?_)
  simp only [Try.ntmps22]
  repeat' (first
    | simp only [WL, intF, strF, WM, Int.reduceToNat, ne_eq, reduceCtorEq, not_false_eq_true, Nat.reduceAdd, Nat.reduceSub, Nat.reduceLT, Nat.reduceLeDiff, Nat.reduceEqDiff, Bool.not_true, Bool.not_false, beq_self_eq_true, true_and, and_true, reduceIte, Bool.false_eq_true, T3, T4, T9, T40, T42, T50, cok25, cok27, Try.results22, ex_t, ex_y]
    | simp (disch := first | omega | (simp only [LN_]; omega)) only [wrap_id, getI]
    | with_reducible first | refine andA (hb := ?_) | refine y_box (hK := fun b => ?_) | refine y_new (hK := fun b => ?_) | refine callD_mk (whole_use (by omega) (by omega) ex_w ?_) | refine cD (tWhole0 ?_ ?_ ?_ ?_) | refine cD (tWhole0 ?_ ?_ ?_ ?_) | refine cD (lNum ?_)
    | with_reducible refine y_nil (hK := ?_)
    | (with_reducible refine nilTC_split (fun h => ?_) (fun h bn => ?_) <;> (try simp only [List.length_map] at h))
    | ((with_reducible first | refine grd_cases (fun h => ?_) (fun h => ?_) | refine condC_split (fun h => ?_) (fun h => ?_)) <;> (try simp only [h]) <;> (try simp only [NR_, Bool.not_true, Bool.not_false, Bool.not_eq_eq_eq_not, ne_eq] at h))
    | omega | (simp only [LN_]; omega))
  all_goals first
    | exact leafL (sub_cons sub_rfl) (leT_eq rfl) hK
    | trace_state

-- marginalialaw16.TagsBack
set_option maxHeartbeats 8000000 in
set_option maxRecDepth 20000 in
theorem law_TagsBack (κ : Ctx) (s : ByteArray) (hs : s.size ≤ maxLen) : ACallF κ Try.prog 8 [.raw (.string s)] [] (fun r _ => r = .ret (B true)) := by
  by_cases hbig : 300 < s.size
  · skip
    refine ACallF.dropL (ACallF_intro Try.func8 rfl ?_)
    simp only [Try.ntmps8]
    repeat' (first
      | simp only [WL, intF, strF, WM, Int.reduceToNat, ne_eq, reduceCtorEq, not_false_eq_true, Nat.reduceAdd, Nat.reduceSub, Nat.reduceLT, Nat.reduceLeDiff, Nat.reduceEqDiff, Bool.not_true, Bool.not_false, beq_self_eq_true, true_and, and_true, reduceIte, Bool.false_eq_true, T3, T4, T9, T40, T42, T50, cok13, cok22, cok25, cok27, cok28, cok29, Try.results8]
      | simp (disch := first | omega | (simp only [LN_]; omega)) only [wrap_id, getI]
      | with_reducible first | refine andA (hb := ?_) | refine y_box (hK := fun b => ?_) | refine y_new (hK := fun b => ?_) | refine cD (rValid ?_ ?_) | refine cD (lAlive16 ?_) | refine cD (tWhole0 ?_ ?_ ?_ ?_) | refine cD (tWhole0 ?_ ?_ ?_ ?_) | refine cD (lNum ?_) | refine cD (tShort ?_ ?_) | refine cD (rShort ?_ ?_)
      | with_reducible refine y_nil (hK := ?_)
      | (with_reducible refine nilTC_split (fun h => ?_) (fun h bn => ?_) <;> (try simp only [List.length_map] at h))
      | ((with_reducible first | refine grd_cases (fun h => ?_) (fun h => ?_) | refine condC_split (fun h => ?_) (fun h => ?_)) <;> (try simp only [h]) <;> (try simp only [NR_, Bool.not_true, Bool.not_false, Bool.not_eq_eq_eq_not, ne_eq] at h))
      | omega | (simp only [LN_]; omega))
    all_goals first
      | exact leafLaw rfl
      | (exfalso; omega)
  have hl : s.size ≤ 300 := by omega
  clear hs
  have hv := short_valid s
  cases hok : (shortB s).2
  · have h1 := short_no hok
    rw [hok] at hv
    have hv := hv.symm
    refine ACallF.dropL (ACallF_intro Try.func8 rfl ?_)
    simp only [Try.ntmps8]
    repeat' (first
      | simp only [WL, intF, strF, WM, Int.reduceToNat, ne_eq, reduceCtorEq, not_false_eq_true, Nat.reduceAdd, Nat.reduceSub, Nat.reduceLT, Nat.reduceLeDiff, Nat.reduceEqDiff, Bool.not_true, Bool.not_false, beq_self_eq_true, true_and, and_true, reduceIte, Bool.false_eq_true, T3, T4, T9, T40, T42, T50, cok13, cok22, cok25, cok27, cok28, cok29, Try.results8, hok, h1, hv]
      | simp (disch := first | omega | (simp only [LN_]; omega)) only [wrap_id, getI]
      | with_reducible first | refine andA (hb := ?_) | refine y_box (hK := fun b => ?_) | refine y_new (hK := fun b => ?_) | refine cD (rValid ?_ ?_) | refine cD (lAlive16 ?_) | refine cD (tWhole0 ?_ ?_ ?_ ?_) | refine cD (tWhole0 ?_ ?_ ?_ ?_) | refine cD (lNum ?_) | refine cD (tShort ?_ ?_) | refine cD (rShort ?_ ?_)
      | with_reducible refine y_nil (hK := ?_)
      | (with_reducible refine nilTC_split (fun h => ?_) (fun h bn => ?_) <;> (try simp only [List.length_map] at h))
      | ((with_reducible first | refine grd_cases (fun h => ?_) (fun h => ?_) | refine condC_split (fun h => ?_) (fun h => ?_)) <;> (try simp only [h]) <;> (try simp only [NR_, Bool.not_true, Bool.not_false, Bool.not_eq_eq_eq_not, ne_eq] at h))
      | omega | (simp only [LN_]; omega))
    all_goals first
      | exact leafLaw rfl
      | (exfalso; omega)
      | trace_state
  · obtain ⟨z1, z2⟩ := short_size s hok
    have hw := short_whole hok
    rw [hok] at hv
    have hv := hv.symm
    have z2 : (shortB s).1.size ≤ 1000000 := by omega
    refine ACallF.dropL (ACallF_intro Try.func8 rfl ?_)
    simp only [Try.ntmps8]
    repeat' (first
      | simp only [WL, intF, strF, WM, Int.reduceToNat, ne_eq, reduceCtorEq, not_false_eq_true, Nat.reduceAdd, Nat.reduceSub, Nat.reduceLT, Nat.reduceLeDiff, Nat.reduceEqDiff, Bool.not_true, Bool.not_false, beq_self_eq_true, true_and, and_true, reduceIte, Bool.false_eq_true, T3, T4, T9, T40, T42, T50, cok13, cok22, cok25, cok27, cok28, cok29, Try.results8, hok, hv]
      | simp (disch := first | omega | (simp only [LN_]; omega)) only [wrap_id, getI]
      | with_reducible first | refine andA (hb := ?_) | refine y_box (hK := fun b => ?_) | refine y_new (hK := fun b => ?_) | refine callD_mk (whole_use z1 z2 hw ?_) | refine cD (rValid ?_ ?_) | refine cD (lAlive16 ?_) | refine cD (tWhole0 ?_ ?_ ?_ ?_) | refine cD (tWhole0 ?_ ?_ ?_ ?_) | refine cD (lNum ?_) | refine cD (tShort ?_ ?_) | refine cD (rShort ?_ ?_)
      | with_reducible refine y_nil (hK := ?_)
      | (with_reducible refine nilTC_split (fun h => ?_) (fun h bn => ?_) <;> (try simp only [List.length_map] at h))
      | ((with_reducible first | refine grd_cases (fun h => ?_) (fun h => ?_) | refine condC_split (fun h => ?_) (fun h => ?_)) <;> (try simp only [h]) <;> (try simp only [NR_, Bool.not_true, Bool.not_false, Bool.not_eq_eq_eq_not, ne_eq] at h))
      | omega | (simp only [LN_]; omega))
    all_goals first
      | exact leafLaw rfl
      | (exfalso; omega)
      | trace_state
end Go.Proofs.Ytaeacialcbahnaa
