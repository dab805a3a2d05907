/-
  Walks: chapter 6, blanks and lines that are folded.
-/
import Derived.Test.YtaeacialcbahnaaSh
import Derived.Test.YtaeacialcbahnaaSf
namespace Go.Proofs.Ytaeacialcbahnaa
open Go.Abs
set_option linter.unusedVariables false
set_option linter.unusedSimpArgs false
-- hb: 4000000
variable {κ : Ctx} {σ : List Res} {K : Ret → List Res → Prop} {o o' : Option (Option (Nat × Nat))}

-- fold.front
-- (no function fold.front in this program)
-- fold.back
-- (no function fold.back in this program)
-- fold.between
set_option maxHeartbeats 4000000 in
theorem between1 {e : Nat} (he : e ≤ 1000000000) (hK : K (.ret (SI none (between e))) σ) : ACallF κ Try.prog 104 [I e] σ K := by
  refine ACallF.dropL (ACallF_intro Try.func104 rfl ?_)
  simp only [Try.ntmps104]
  repeat' (first
    | simp only [WL, intF, strF, WM, Int.reduceToNat, ne_eq, reduceCtorEq, not_false_eq_true, Nat.reduceAdd, Nat.reduceSub, Nat.reduceLT, Nat.reduceLeDiff, Nat.reduceEqDiff, Bool.not_true, Bool.not_false, beq_self_eq_true, true_and, and_true, reduceIte, Bool.false_eq_true, T3, T4, T24, cok102, Try.results104]
    | simp (disch := first | omega | (simp only [LN_]; omega)) only [wrap_id, getI]
    | with_reducible first | refine andA (hb := ?_) | refine y_bs0 ?_ | refine y_bs (hK := ?_)
    | ( refine callD_mk (repeat1 (c := 10) (by omega) ?_))
    | with_reducible first | refine cD (repeat1 (by omega) ?_)
    | with_reducible refine y_nil (hK := ?_)
    | (with_reducible refine nilTC_split (fun h => ?_) (fun h bn => ?_) <;> (try simp only [List.length_map] at h))
    | ((with_reducible first | refine grd_cases (fun h => ?_) (fun h => ?_) | refine condC_split (fun h => ?_) (fun h => ?_)) <;> (try simp only [h]) <;> (try simp only [NR_, Bool.not_true, Bool.not_false, Bool.not_eq_eq_eq_not, ne_eq] at h))
    | omega | (simp only [LN_]; omega))
  · obtain rfl : e = 0 := by omega
    exact leafL sub_rfl (leT_eq rfl) hK
  · exact leafL sub_rfl (leT_eq (by unfold between; rw [if_neg (by omega)])) hK

-- fold.full
set_option maxHeartbeats 4000000 in
theorem full1 {l : List (List Int)} (hl : l.length ≤ 1000000000) (hK : K (.ret (I (fullN l : Nat))) σ) : ACallF κ Try.prog 100 [SSI o l] σ K := by
  refine ACallF.dropL (ACallF_intro Try.func100 rfl ?_)
  simp only [Try.ntmps100]
  repeat' (first
    | simp only [WL, intF, strF, WM, Int.reduceToNat, ne_eq, reduceCtorEq, not_false_eq_true, Nat.reduceAdd, Nat.reduceSub, Nat.reduceLT, Nat.reduceLeDiff, Nat.reduceEqDiff, Bool.not_true, Bool.not_false, beq_self_eq_true, true_and, and_true, reduceIte, Bool.false_eq_true, T3, T4, T24, T69, Try.results100]
    | simp (disch := first | omega | (simp only [LN_]; omega)) only [wrap_id, getI]
    | with_reducible first | refine andA (hb := ?_) | refine y_load (hK := ?_)
    | with_reducible refine y_nil (hK := ?_)
    | (with_reducible refine nilTC_split (fun h => ?_) (fun h bn => ?_) <;> (try simp only [List.length_map] at h))
    | ((with_reducible first | refine grd_cases (fun h => ?_) (fun h => ?_) | refine condC_split (fun h => ?_) (fun h => ?_)) <;> (try simp only [h]) <;> (try simp only [NR_, Bool.not_true, Bool.not_false, Bool.not_eq_eq_eq_not, ne_eq] at h))
    | omega | (simp only [LN_]; omega))
  refine loop_by (fun k : Nat => ⟨(SSI o l :: .any :: .any :: I k :: .any :: .any :: .any :: .any :: .any :: .any :: .any :: .any :: .any :: .any :: .any :: .any :: .any :: .any :: .any :: .any :: []), σ, true, []⟩) (fun k => k ≤ l.length ∧ fullN l = fullN (l.take k)) (fun k => k) l.length (St_le_same (by repeat (first | exact trivial | refine ⟨le_rfl, ?_⟩ | refine ⟨le_any, ?_⟩ | refine ⟨le_ro, ?_⟩ | refine ⟨le_nil (by decide), ?_⟩ | refine ⟨le_wrap (by omega) (by omega) (by omega), ?_⟩ | refine ⟨le_int (by omega), ?_⟩ | refine ⟨le_eq (by simp), ?_⟩)) id) ⟨Nat.le_refl _, by rw [List.take_length]⟩ ?_
  rintro k ⟨h1, h2⟩
  have e1 : 0 < k → ((k : Int) - 1).toNat = k - 1 := fun _ => by omega
  repeat' (first
    | simp only [WL, intF, strF, WM, Int.reduceToNat, ne_eq, reduceCtorEq, not_false_eq_true, Nat.reduceAdd, Nat.reduceSub, Nat.reduceLT, Nat.reduceLeDiff, Nat.reduceEqDiff, Bool.not_true, Bool.not_false, beq_self_eq_true, true_and, and_true, reduceIte, Bool.false_eq_true, T3, T4, T24, T69, Try.results100]
    | simp (disch := first | omega | (simp only [LN_]; omega)) only [wrap_id, getI, getS, e1]
    | with_reducible first | refine andA (hb := ?_) | refine y_load (hK := ?_)
    | with_reducible refine y_nil (hK := ?_)
    | (with_reducible refine nilTC_split (fun h => ?_) (fun h bn => ?_) <;> (try simp only [List.length_map] at h))
    | ((with_reducible first | refine grd_cases (fun h => ?_) (fun h => ?_) | refine condC_split (fun h => ?_) (fun h => ?_)) <;> (try simp only [h]) <;> (try simp only [NR_, Bool.not_true, Bool.not_false, Bool.not_eq_eq_eq_not, ne_eq] at h))
    | omega | (simp only [LN_]; omega))
  · refine ⟨k - 1, St_le_same (by repeat (first | exact trivial | refine ⟨le_rfl, ?_⟩ | refine ⟨le_any, ?_⟩ | refine ⟨le_ro, ?_⟩ | refine ⟨le_nil (by decide), ?_⟩ | refine ⟨le_wrap (by omega) (by omega) (by omega), ?_⟩ | refine ⟨le_int (by omega), ?_⟩ | refine ⟨le_eq (by simp), ?_⟩)) id, ⟨by omega, ?_⟩, by omega⟩
    have hk : k - 1 < l.length := by omega
    exact fullN_take hk (by omega) (by rw [show k - 1 + 1 = k by omega]; exact h2)
  · have := fullN_stop (l := l) (k := k - 1) (by omega) (by omega)
    rw [show k - 1 + 1 = k by omega] at this
    exact leafL sub_rfl (leT_eq (by rw [h2, this])) hK
  · obtain rfl : k = 0 := by omega
    exact leafL sub_rfl (leT_eq (by rw [h2]; rfl)) hK

-- fold.ends
set_option maxHeartbeats 4000000 in
theorem ends1 {n f : Nat} {c : Int} (hn : n ≤ 1000000000) (hf : f ≤ n) (hK : K (.ret (SI none (endsC n f c))) σ) : ACallF κ Try.prog 101 [I n, I f, I c] σ K := by
  have nf : ((n : Int) - f + 1) = ((n - f + 1 : Nat) : Int) := by omega
  refine ACallF.dropL (ACallF_intro Try.func101 rfl ?_)
  simp only [Try.ntmps101]
  repeat' (first
    | simp only [WL, intF, strF, WM, Int.reduceToNat, ne_eq, reduceCtorEq, not_false_eq_true, Nat.reduceAdd, Nat.reduceSub, Nat.reduceLT, Nat.reduceLeDiff, Nat.reduceEqDiff, Bool.not_true, Bool.not_false, beq_self_eq_true, true_and, and_true, reduceIte, Bool.false_eq_true, T3, T4, T24, cok102, Try.results101, nf]
    | simp (disch := first | omega | (simp only [LN_]; omega)) only [wrap_id, getI]
    | with_reducible first | refine andA (hb := ?_) | refine y_bs0 ?_ | refine y_bs (hK := ?_)
    | ( refine callD_mk (repeat1 (c := 10) (by omega) ?_))
    | with_reducible first | refine cD (repeat1 (by omega) ?_)
    | with_reducible refine y_nil (hK := ?_)
    | (with_reducible refine nilTC_split (fun h => ?_) (fun h bn => ?_) <;> (try simp only [List.length_map] at h))
    | ((with_reducible first | refine grd_cases (fun h => ?_) (fun h => ?_) | refine condC_split (fun h => ?_) (fun h => ?_)) <;> (try simp only [h]) <;> (try simp only [NR_, Bool.not_true, Bool.not_false, Bool.not_eq_eq_eq_not, ne_eq] at h))
    | omega | (simp only [LN_]; omega))
  · exact leafL sub_rfl (leT_eq (by unfold endsC; rw [if_pos (by assumption), if_pos (by omega)])) hK
  · exact leafL sub_rfl (leT_eq (by unfold endsC; rw [if_pos (by assumption), if_neg (by omega), List.replicate_succ])) hK
  · exact leafL sub_rfl (leT_le (by unfold endsC; rw [if_neg (by assumption), if_pos (.inr (by omega))]; exact le_nilro (by decide))) hK
  · exact leafL sub_rfl (leT_eq (by unfold endsC; rw [if_neg (by assumption), if_neg (by omega)]; rfl)) hK
  · exact leafL sub_rfl (leT_le (by unfold endsC; rw [if_neg (by assumption), if_pos (.inl (by assumption))]; exact le_nilro (by decide))) hK

-- fold.spaced
set_option maxHeartbeats 4000000 in
theorem spaced1 {l : List Int} (hl : l.length ≤ 1000000000) (hK : K (.ret (B (spacedI l))) σ) : ACallF κ Try.prog 103 [SI o l] σ K := by
  refine ACallF.dropL (ACallF_intro Try.func103 rfl ?_)
  simp only [Try.ntmps103]
  repeat' (first
    | simp only [WL, intF, strF, WM, Int.reduceToNat, ne_eq, reduceCtorEq, not_false_eq_true, Nat.reduceAdd, Nat.reduceSub, Nat.reduceLT, Nat.reduceLeDiff, Nat.reduceEqDiff, Bool.not_true, Bool.not_false, beq_self_eq_true, true_and, and_true, reduceIte, Bool.false_eq_true, T3, T4, T24, cok76, Try.results103]
    | simp (disch := first | omega | (simp only [LN_]; omega)) only [wrap_id, getI]
    | with_reducible first | refine andA (hb := ?_) | refine y_load (hK := ?_) | refine cD (Blank ?_)
    | with_reducible refine y_nil (hK := ?_)
    | (with_reducible refine nilTC_split (fun h => ?_) (fun h bn => ?_) <;> (try simp only [List.length_map] at h))
    | ((with_reducible first | refine grd_cases (fun h => ?_) (fun h => ?_) | refine condC_split (fun h => ?_) (fun h => ?_)) <;> (try simp only [h]) <;> (try simp only [NR_, Bool.not_true, Bool.not_false, Bool.not_eq_eq_eq_not, ne_eq] at h))
    | omega | (simp only [LN_]; omega))
  · exact leafL sub_rfl (leT_eq (congrArg B (by unfold spacedI; rw [decide_eq_true (by omega), Bool.true_and]))) hK
  · exact leafL sub_rfl (leT_eq (congrArg B (by unfold spacedI; rw [decide_eq_false (by omega), Bool.false_and]))) hK

-- fold.trimmed
-- (no function fold.trimmed in this program)
-- fold.trimmed$1
-- (no function fold.trimmed$1 in this program)
-- fold.Flow
-- (no function fold.Flow in this program)
