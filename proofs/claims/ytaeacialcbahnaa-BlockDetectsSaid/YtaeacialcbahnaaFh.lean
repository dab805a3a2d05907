/-
  Walks: the reference's texts of whole lines.
-/
import Derived.Test.YtaeacialcbahnaaFg
import Derived.Test.YtaeacialcbahnaaSg
namespace Go.Proofs.Ytaeacialcbahnaa
open Go.Abs
set_option linter.unusedVariables false
set_option linter.unusedSimpArgs false
-- hb: 4000000
variable {κ : Ctx} {σ : List Res} {K : Ret → List Res → Prop} {o o' : Option (Option (Nat × Nat))}

-- marginaliaref1.whole
set_option maxHeartbeats 4000000 in
theorem whole1 {l : List (List Int)} (hl : l.length ≤ 1000000000) (hK : K (.ret (I (fullN l : Nat))) σ) : ACallF κ Try.prog 107 [SSI o l] σ K := by
  refine ACallF.dropL (ACallF_intro Try.func107 rfl ?_)
  simp only [Try.ntmps107]
  repeat' (first
    | simp only [WL, intF, strF, WM, Int.reduceToNat, ne_eq, reduceCtorEq, not_false_eq_true, Nat.reduceAdd, Nat.reduceSub, Nat.reduceLT, Nat.reduceLeDiff, Nat.reduceEqDiff, Bool.not_true, Bool.not_false, beq_self_eq_true, true_and, and_true, reduceIte, Bool.false_eq_true, T3, T4, T24, T69, Try.results107]
    | simp (disch := first | omega | (simp only [LN_]; omega)) only [wrap_id, getI]
    | with_reducible first | refine andA (hb := ?_) | refine y_load (hK := ?_)
    | with_reducible refine y_nil (hK := ?_)
    | (with_reducible refine nilTC_split (fun h => ?_) (fun h bn => ?_) <;> (try simp only [List.length_map] at h))
    | ((with_reducible first | refine grd_cases (fun h => ?_) (fun h => ?_) | refine condC_split (fun h => ?_) (fun h => ?_)) <;> (try simp only [h]) <;> (try simp only [NR_, Bool.not_true, Bool.not_false, Bool.not_eq_eq_eq_not, ne_eq] at h))
    | omega | (simp only [LN_]; omega))
  refine loop_by (fun k : Nat => ⟨(SSI o l :: .any :: .any :: I k :: .any :: .any :: .any :: .any :: .any :: .any :: .any :: .any :: .any :: .any :: .any :: .any :: .any :: .any :: .any :: .any :: []), σ, true, []⟩) (fun k => k ≤ l.length ∧ fullN l = fullN (l.take k)) (fun k => k) l.length (St_le_same (by repeat (first | exact trivial | refine ⟨le_rfl, ?_⟩ | refine ⟨le_any, ?_⟩ | refine ⟨le_ro, ?_⟩ | refine ⟨le_nil (by decide), ?_⟩ | refine ⟨le_wrap (by omega) (by omega) (by omega), ?_⟩ | refine ⟨le_int (by omega), ?_⟩ | refine ⟨le_eq (by simp), ?_⟩)) id) ⟨Nat.le_refl _, by rw [List.take_length]⟩ ?_
  rintro k ⟨h1, h2⟩
  have e1 : 0 < k → ((k : Int) - 1).toNat = k - 1 := fun _ => by omega
  repeat' (first
    | simp only [WL, intF, strF, WM, Int.reduceToNat, ne_eq, reduceCtorEq, not_false_eq_true, Nat.reduceAdd, Nat.reduceSub, Nat.reduceLT, Nat.reduceLeDiff, Nat.reduceEqDiff, Bool.not_true, Bool.not_false, beq_self_eq_true, true_and, and_true, reduceIte, Bool.false_eq_true, T3, T4, T24, T69, Try.results107]
    | simp (disch := first | omega | (simp only [LN_]; omega)) only [wrap_id, getI, getS, e1]
    | with_reducible first | refine andA (hb := ?_) | refine y_load (hK := ?_)
    | with_reducible refine y_nil (hK := ?_)
    | (with_reducible refine nilTC_split (fun h => ?_) (fun h bn => ?_) <;> (try simp only [List.length_map] at h))
    | ((with_reducible first | refine grd_cases (fun h => ?_) (fun h => ?_) | refine condC_split (fun h => ?_) (fun h => ?_)) <;> (try simp only [h]) <;> (try simp only [NR_, Bool.not_true, Bool.not_false, Bool.not_eq_eq_eq_not, ne_eq] at h))
    | omega | (simp only [LN_]; omega))
  · refine ⟨k - 1, St_le_same (by repeat (first | exact trivial | refine ⟨le_rfl, ?_⟩ | refine ⟨le_any, ?_⟩ | refine ⟨le_ro, ?_⟩ | refine ⟨le_nil (by decide), ?_⟩ | refine ⟨le_wrap (by omega) (by omega) (by omega), ?_⟩ | refine ⟨le_int (by omega), ?_⟩ | refine ⟨le_eq (by simp), ?_⟩)) id, ⟨by omega, ?_⟩, by omega⟩
    have hk : k - 1 < l.length := by omega
    exact fullN_take hk (by omega) (by rw [show k - 1 + 1 = k by omega]; exact h2)
  · have := fullN_stop (l := l) (k := k - 1) (by omega) (by omega)
    rw [show k - 1 + 1 = k by omega] at this
    exact leafL sub_rfl (leT_eq (by rw [h2, this])) hK
  · obtain rfl : k = 0 := by omega
    exact leafL sub_rfl (leT_eq (by rw [h2]; rfl)) hK

-- marginaliaref1.chomped
set_option maxHeartbeats 4000000 in
theorem chomped1 {out : List Int} {n all : Nat} {c : Int} {tk : Option (Nat × Nat)} (h1 : out.length ≤ 2000000000) (h2 : all ≤ 1000000000) (h3 : n ≤ all) (hK : K (.ret (SI none (out ++ endsC all n c))) σ) : ACallF κ Try.prog 108 [SI (some tk) out, I n, I all, I c] (.tip tk :: σ) K := by
  have e1 : ((all : Int) - n) = ((all - n : Nat) : Int) := by omega
  have e2 : (((all - n : Nat) : Int) + 1) = ((all - n + 1 : Nat) : Int) := by omega
  refine ACallF.dropL (ACallF_intro Try.func108 rfl ?_)
  simp only [Try.ntmps108]
  repeat' (first
    | simp only [WL, intF, strF, WM, Int.reduceToNat, ne_eq, reduceCtorEq, not_false_eq_true, Nat.reduceAdd, Nat.reduceSub, Nat.reduceLT, Nat.reduceLeDiff, Nat.reduceEqDiff, Bool.not_true, Bool.not_false, beq_self_eq_true, true_and, and_true, reduceIte, Bool.false_eq_true, T3, T4, T24, Try.results108, e1, e2]
    | simp (disch := first | omega | (simp only [LN_]; omega)) only [wrap_id, getI]
    | with_reducible first | refine andA (hb := ?_) | refine y_appN ?_ | refine y_appS ?_ | refine y_app (hlen := ?_) (hmax := ?_) (hK := fun tk => ?_) | refine y_bs0 ?_ | refine y_bs (hK := ?_)
    | with_reducible refine y_nil (hK := ?_)
    | (with_reducible refine nilTC_split (fun h => ?_) (fun h bn => ?_) <;> (try simp only [List.length_map] at h))
    | ((with_reducible first | refine grd_cases (fun h => ?_) (fun h => ?_) | refine condC_split (fun h => ?_) (fun h => ?_)) <;> (try simp only [h]) <;> (try simp only [NR_, Bool.not_true, Bool.not_false, Bool.not_eq_eq_eq_not, ne_eq] at h))
    | omega | (simp only [LN_]; omega) | (refine maxLen_ok ?_; (first | omega | (simp only [LN_]; omega))))
  ·
    refine loop_by (fun x : Nat × Option (Nat × Nat) => ⟨(SI (some x.2) (out ++ List.replicate x.1 10) :: I n :: I all :: I c :: .any :: .any :: .any :: .any :: .any :: I (all - n + 1 : Nat) :: I x.1 :: .any :: .any :: .any :: .any :: .any :: .any :: .any :: .any :: .any :: .any :: .any :: .any :: .any :: .any :: .any :: .any :: .any :: .any :: .any :: .any :: .any :: .any :: .any :: .any :: .any :: .any :: .any :: .any :: []), .tip x.2 :: σ, true, []⟩) (fun x => x.1 ≤ all - n + 1) (fun x => all - n + 1 - x.1) (0, _) (St_leW (by simp only [List.replicate_zero, List.append_nil]; repeat (first | exact trivial | refine ⟨le_rfl, ?_⟩ | refine ⟨le_any, ?_⟩ | refine ⟨le_ro, ?_⟩ | refine ⟨le_nil (by decide), ?_⟩ | refine ⟨le_wrap (by omega) (by omega) (by omega), ?_⟩ | refine ⟨le_int (by omega), ?_⟩ | refine ⟨le_eq (by simp), ?_⟩)) (ResW.refl _) id) (Nat.zero_le _) ?_
    rintro ⟨j, tk2⟩ h9
    dsimp only at h9 ⊢
    have hj : (out ++ List.replicate j 10).length = out.length + j := by simp only [List.length_append, List.length_replicate]
    repeat' (first
      | simp only [WL, intF, strF, WM, Int.reduceToNat, ne_eq, reduceCtorEq, not_false_eq_true, Nat.reduceAdd, Nat.reduceSub, Nat.reduceLT, Nat.reduceLeDiff, Nat.reduceEqDiff, Bool.not_true, Bool.not_false, beq_self_eq_true, true_and, and_true, reduceIte, Bool.false_eq_true, T3, T4, T24, Try.results108]
      | simp (disch := first | omega | (simp only [LN_]; omega)) only [wrap_id, getI]
      | with_reducible first | refine andA (hb := ?_) | refine y_appN ?_ | refine y_appS ?_ | refine y_app (hlen := ?_) (hmax := ?_) (hK := fun tk => ?_) | refine y_bs0 ?_ | refine y_bs (hK := ?_)
      | with_reducible refine y_nil (hK := ?_)
      | (with_reducible refine nilTC_split (fun h => ?_) (fun h bn => ?_) <;> (try simp only [List.length_map] at h))
      | ((with_reducible first | refine grd_cases (fun h => ?_) (fun h => ?_) | refine condC_split (fun h => ?_) (fun h => ?_)) <;> (try simp only [h]) <;> (try simp only [NR_, Bool.not_true, Bool.not_false, Bool.not_eq_eq_eq_not, ne_eq] at h))
      | omega | (simp only [LN_]; omega) | (refine maxLen_ok ?_; (first | omega | (simp only [LN_]; omega))))
    · exact ⟨(j + 1, _), St_leW (by simp only [List.replicate_succ', ← List.append_assoc]; repeat (first | exact trivial | refine ⟨le_rfl, ?_⟩ | refine ⟨le_any, ?_⟩ | refine ⟨le_ro, ?_⟩ | refine ⟨le_nil (by decide), ?_⟩ | refine ⟨le_wrap (by omega) (by omega) (by omega), ?_⟩ | refine ⟨le_int (by omega), ?_⟩ | refine ⟨le_eq (by simp), ?_⟩)) (ResW.refl _) id, by dsimp only; omega, by dsimp only; omega⟩
    · obtain rfl : j = all - n + 1 := by omega
      exact leafL (sub_cons sub_rfl) (leT_le (by rw [show endsC all n c = List.replicate (all - n + 1) 10 by unfold endsC; rw [if_pos (by assumption), if_neg (by omega)]]; exact le_ro)) hK
  ·
    refine loop_by (fun x : Nat × Option (Nat × Nat) => ⟨(SI (some x.2) (out ++ List.replicate x.1 10) :: I n :: I all :: I c :: .any :: .any :: .any :: .any :: .any :: I (all - n : Nat) :: I x.1 :: .any :: .any :: .any :: .any :: .any :: .any :: .any :: .any :: .any :: .any :: .any :: .any :: .any :: .any :: .any :: .any :: .any :: .any :: .any :: .any :: .any :: .any :: .any :: .any :: .any :: .any :: .any :: .any :: []), .tip x.2 :: σ, true, []⟩) (fun x => x.1 ≤ all - n) (fun x => all - n - x.1) (0, _) (St_leW (by simp only [List.replicate_zero, List.append_nil]; repeat (first | exact trivial | refine ⟨le_rfl, ?_⟩ | refine ⟨le_any, ?_⟩ | refine ⟨le_ro, ?_⟩ | refine ⟨le_nil (by decide), ?_⟩ | refine ⟨le_wrap (by omega) (by omega) (by omega), ?_⟩ | refine ⟨le_int (by omega), ?_⟩ | refine ⟨le_eq (by simp), ?_⟩)) (ResW.refl _) id) (Nat.zero_le _) ?_
    rintro ⟨j, tk2⟩ h9
    dsimp only at h9 ⊢
    have hj : (out ++ List.replicate j 10).length = out.length + j := by simp only [List.length_append, List.length_replicate]
    repeat' (first
      | simp only [WL, intF, strF, WM, Int.reduceToNat, ne_eq, reduceCtorEq, not_false_eq_true, Nat.reduceAdd, Nat.reduceSub, Nat.reduceLT, Nat.reduceLeDiff, Nat.reduceEqDiff, Bool.not_true, Bool.not_false, beq_self_eq_true, true_and, and_true, reduceIte, Bool.false_eq_true, T3, T4, T24, Try.results108]
      | simp (disch := first | omega | (simp only [LN_]; omega)) only [wrap_id, getI]
      | with_reducible first | refine andA (hb := ?_) | refine y_appN ?_ | refine y_appS ?_ | refine y_app (hlen := ?_) (hmax := ?_) (hK := fun tk => ?_) | refine y_bs0 ?_ | refine y_bs (hK := ?_)
      | with_reducible refine y_nil (hK := ?_)
      | (with_reducible refine nilTC_split (fun h => ?_) (fun h bn => ?_) <;> (try simp only [List.length_map] at h))
      | ((with_reducible first | refine grd_cases (fun h => ?_) (fun h => ?_) | refine condC_split (fun h => ?_) (fun h => ?_)) <;> (try simp only [h]) <;> (try simp only [NR_, Bool.not_true, Bool.not_false, Bool.not_eq_eq_eq_not, ne_eq] at h))
      | omega | (simp only [LN_]; omega) | (refine maxLen_ok ?_; (first | omega | (simp only [LN_]; omega))))
    · exact ⟨(j + 1, _), St_leW (by simp only [List.replicate_succ', ← List.append_assoc]; repeat (first | exact trivial | refine ⟨le_rfl, ?_⟩ | refine ⟨le_any, ?_⟩ | refine ⟨le_ro, ?_⟩ | refine ⟨le_nil (by decide), ?_⟩ | refine ⟨le_wrap (by omega) (by omega) (by omega), ?_⟩ | refine ⟨le_int (by omega), ?_⟩ | refine ⟨le_eq (by simp), ?_⟩)) (ResW.refl _) id, by dsimp only; omega, by dsimp only; omega⟩
    · obtain rfl : j = all - n := by omega
      exact leafL (sub_cons sub_rfl) (leT_le (by rw [show endsC all n c = List.replicate (all - n) 10 by unfold endsC; rw [if_pos (by assumption), if_pos (by omega)]; congr 1; omega]; exact le_ro)) hK
  · exact leafL (sub_cons sub_rfl) (leT_le (by rw [show endsC all n c = [10] by unfold endsC; rw [if_neg (by assumption), if_neg (by omega)]]; simp only [SI, List.map_append]; exact le_ro)) hK
  · exact leafL (sub_cons sub_rfl) (leT_le (by rw [show endsC all n c = [] by unfold endsC; rw [if_neg (by assumption), if_pos (.inl (by assumption))], List.append_nil]; exact le_ro)) hK
  · exact leafL (sub_cons sub_rfl) (leT_le (by rw [show endsC all n c = [] by unfold endsC; rw [if_neg (by assumption), if_pos (.inr (by omega))], List.append_nil]; exact le_ro)) hK

-- marginaliaref1.Literal
set_option maxHeartbeats 4000000 in
theorem rLiteral {l : List (List Int)} {c : Int} (hl : tot l ≤ 1000000000) (hK : K (.ret (SI none (litF l c))) σ) : ACallF κ Try.prog 74 [SSI o l, I c] σ K := by
  have hlen := tot_len l
  have hfl := fullN_le l
  refine ACallF.dropL (ACallF_intro Try.func74 rfl ?_)
  simp only [Try.ntmps74]
  repeat' (first
    | simp only [WL, intF, strF, WM, Int.reduceToNat, ne_eq, reduceCtorEq, not_false_eq_true, Nat.reduceAdd, Nat.reduceSub, Nat.reduceLT, Nat.reduceLeDiff, Nat.reduceEqDiff, Bool.not_true, Bool.not_false, beq_self_eq_true, true_and, and_true, reduceIte, Bool.false_eq_true, T3, T4, T24, T69, cok107, cok108, Try.results74]
    | simp (disch := first | omega | (simp only [LN_]; omega)) only [wrap_id, getI]
    | with_reducible first | refine andA (hb := ?_) | refine y_load (hK := ?_) | refine y_appN ?_ | refine y_appS ?_ | refine y_app (hlen := ?_) (hmax := ?_) (hK := fun tk => ?_) | refine y_bs0 ?_ | refine y_bs (hK := ?_) | refine cD (whole1 ?_ ?_) | refine cD (chomped1 ?_ ?_ ?_ ?_)
    | with_reducible refine y_nil (hK := ?_)
    | (with_reducible refine nilTC_split (fun h => ?_) (fun h bn => ?_) <;> (try simp only [List.length_map] at h))
    | ((with_reducible first | refine grd_cases (fun h => ?_) (fun h => ?_) | refine condC_split (fun h => ?_) (fun h => ?_)) <;> (try simp only [h]) <;> (try simp only [NR_, Bool.not_true, Bool.not_false, Bool.not_eq_eq_eq_not, ne_eq] at h))
    | omega | (simp only [LN_]; omega) | (refine maxLen_ok ?_; (first | omega | (simp only [LN_]; omega))))
  refine loop_by (fun x : Nat × List Int × Option (Nat × Nat) => ⟨(SSI o l :: I c :: .any :: .any :: .any :: I (fullN l : Nat) :: SI (some x.2.2) x.2.1 :: I x.1 :: .any :: .any :: .any :: .any :: .any :: .any :: .any :: .any :: .any :: .any :: .any :: .any :: .any :: .any :: .any :: .any :: .any :: .any :: .any :: .any :: .any :: .any :: .any :: .any :: []), .tip x.2.2 :: σ, true, []⟩)
    (fun x => x.1 ≤ fullN l ∧ litGo true (l.take (fullN l)) = x.2.1 ++ litGo (decide (x.1 = 0)) ((l.take (fullN l)).drop x.1) ∧ (x.1 = 0 → x.2.1 = [])) (fun x => fullN l - x.1) (0, [], none) (St_leW (by repeat (first | exact trivial | refine ⟨le_rfl, ?_⟩ | refine ⟨le_any, ?_⟩ | refine ⟨le_ro, ?_⟩ | refine ⟨le_nil (by decide), ?_⟩ | refine ⟨le_wrap (by omega) (by omega) (by omega), ?_⟩ | refine ⟨le_int (by omega), ?_⟩ | refine ⟨le_eq (by simp), ?_⟩)) ResW.void id) ⟨Nat.zero_le _, by simp, fun _ => rfl⟩ ?_
  rintro ⟨k, out, tk⟩ ⟨h1, h2, h3⟩
  dsimp only at h1 h2 h3 ⊢
  have ho := lit_out h2
  have e2 := tot_get (l := l) k
  rcases Nat.lt_or_ge k (fullN l) with hk | hk
  · rw [take_drop_cons hk hfl] at h2 ho
    rcases Nat.eq_zero_or_pos k with rfl | hk0
    · simp only [decide_true, litGo_first] at h2 ho
      simp only [List.length_append] at ho
      repeat' (first
        | simp only [WL, intF, strF, WM, Int.reduceToNat, ne_eq, reduceCtorEq, not_false_eq_true, Nat.reduceAdd, Nat.reduceSub, Nat.reduceLT, Nat.reduceLeDiff, Nat.reduceEqDiff, Bool.not_true, Bool.not_false, beq_self_eq_true, true_and, and_true, reduceIte, Bool.false_eq_true, T3, T4, T24, T69, cok107, cok108, Try.results74]
        | simp (disch := first | omega | (simp only [LN_]; omega)) only [wrap_id, getI, getS]
        | with_reducible first | refine andA (hb := ?_) | refine y_load (hK := ?_) | refine y_appN ?_ | refine y_appS ?_ | refine y_app (hlen := ?_) (hmax := ?_) (hK := fun tk => ?_) | refine y_bs0 ?_ | refine y_bs (hK := ?_) | refine cD (whole1 ?_ ?_) | refine cD (chomped1 ?_ ?_ ?_ ?_)
        | with_reducible refine y_nil (hK := ?_)
        | (with_reducible refine nilTC_split (fun h => ?_) (fun h bn => ?_) <;> (try simp only [List.length_map] at h))
        | ((with_reducible first | refine grd_cases (fun h => ?_) (fun h => ?_) | refine condC_split (fun h => ?_) (fun h => ?_)) <;> (try simp only [h]) <;> (try simp only [NR_, Bool.not_true, Bool.not_false, Bool.not_eq_eq_eq_not, ne_eq] at h))
        | omega | (simp only [LN_]; omega) | (refine maxLen_ok ?_; (first | omega | (simp only [LN_]; omega))))
      exact ⟨(1, out ++ l.getD 0 [], tk), St_leW (by repeat (first | exact trivial | refine ⟨le_rfl, ?_⟩ | refine ⟨le_any, ?_⟩ | refine ⟨le_ro, ?_⟩ | refine ⟨le_nil (by decide), ?_⟩ | refine ⟨le_wrap (by omega) (by omega) (by omega), ?_⟩ | refine ⟨le_int (by omega), ?_⟩ | refine ⟨le_eq (by simp), ?_⟩)) (ResW.refl _) id, ⟨by dsimp only; omega, by rw [h2]; simp, fun h => by omega⟩, by dsimp only; omega⟩
    · have hk1 : ¬ k = 0 := by omega
      simp only [decide_eq_false hk1, litGo_next] at h2 ho
      simp only [List.length_append, List.length_cons] at ho
      repeat' (first
        | simp only [WL, intF, strF, WM, Int.reduceToNat, ne_eq, reduceCtorEq, not_false_eq_true, Nat.reduceAdd, Nat.reduceSub, Nat.reduceLT, Nat.reduceLeDiff, Nat.reduceEqDiff, Bool.not_true, Bool.not_false, beq_self_eq_true, true_and, and_true, reduceIte, Bool.false_eq_true, T3, T4, T24, T69, cok107, cok108, Try.results74]
        | simp (disch := first | omega | (simp only [LN_]; omega)) only [wrap_id, getI, getS]
        | with_reducible first | refine andA (hb := ?_) | refine y_load (hK := ?_) | refine y_appN ?_ | refine y_appS ?_ | refine y_app (hlen := ?_) (hmax := ?_) (hK := fun tk => ?_) | refine y_bs0 ?_ | refine y_bs (hK := ?_) | refine cD (whole1 ?_ ?_) | refine cD (chomped1 ?_ ?_ ?_ ?_)
        | with_reducible refine y_nil (hK := ?_)
        | (with_reducible refine nilTC_split (fun h => ?_) (fun h bn => ?_) <;> (try simp only [List.length_map] at h))
        | ((with_reducible first | refine grd_cases (fun h => ?_) (fun h => ?_) | refine condC_split (fun h => ?_) (fun h => ?_)) <;> (try simp only [h]) <;> (try simp only [NR_, Bool.not_true, Bool.not_false, Bool.not_eq_eq_eq_not, ne_eq] at h))
        | omega | (simp only [LN_]; omega) | (refine maxLen_ok ?_; (first | omega | (simp only [LN_]; omega))))
      exact ⟨(k + 1, out ++ 10 :: l.getD k [], tk), St_leW (by repeat (first | exact trivial | refine ⟨le_rfl, ?_⟩ | refine ⟨le_any, ?_⟩ | refine ⟨le_ro, ?_⟩ | refine ⟨le_nil (by decide), ?_⟩ | refine ⟨le_wrap (by omega) (by omega) (by omega), ?_⟩ | refine ⟨le_int (by omega), ?_⟩ | refine ⟨le_eq (by simp), ?_⟩)) (ResW.refl _) id, ⟨by dsimp only; omega, by rw [h2]; simp, fun h => by omega⟩, by dsimp only; omega⟩
  · rw [List.drop_eq_nil_of_le (by simp; omega)] at h2 ho
    have e4 : ∀ b, litGo b [] = [] := fun b => rfl
    rw [e4] at ho
    rw [e4, List.append_nil] at h2
    repeat' (first
      | simp only [WL, intF, strF, WM, Int.reduceToNat, ne_eq, reduceCtorEq, not_false_eq_true, Nat.reduceAdd, Nat.reduceSub, Nat.reduceLT, Nat.reduceLeDiff, Nat.reduceEqDiff, Bool.not_true, Bool.not_false, beq_self_eq_true, true_and, and_true, reduceIte, Bool.false_eq_true, T3, T4, T24, T69, cok107, cok108, Try.results74]
      | simp (disch := first | omega | (simp only [LN_]; omega)) only [wrap_id, getI]
      | with_reducible first | refine andA (hb := ?_) | refine y_load (hK := ?_) | refine y_appN ?_ | refine y_appS ?_ | refine y_app (hlen := ?_) (hmax := ?_) (hK := fun tk => ?_) | refine y_bs0 ?_ | refine y_bs (hK := ?_) | refine cD (whole1 ?_ ?_) | refine cD (chomped1 ?_ ?_ ?_ ?_)
      | with_reducible refine y_nil (hK := ?_)
      | (with_reducible refine nilTC_split (fun h => ?_) (fun h bn => ?_) <;> (try simp only [List.length_map] at h))
      | ((with_reducible first | refine grd_cases (fun h => ?_) (fun h => ?_) | refine condC_split (fun h => ?_) (fun h => ?_)) <;> (try simp only [h]) <;> (try simp only [NR_, Bool.not_true, Bool.not_false, Bool.not_eq_eq_eq_not, ne_eq] at h))
      | omega | (simp only [LN_]; omega) | (refine maxLen_ok ?_; (first | omega | (simp only [LN_]; omega))))
    exact leafL sub_rfl (leT_eq (by rw [litF, h2])) hK

def spcd : Option (List Int) → Bool
  | none => false
  | some s => spacedI s

-- marginaliaref1.Block
set_option maxHeartbeats 4000000 in
theorem rBlock {l : List (List Int)} {c : Int} (hl : tot l ≤ 1000000000) (hK : K (.ret (SI none (blkF l c))) σ) : ACallF κ Try.prog 75 [SSI o l, I c] σ K := by
  have hlen := tot_len l
  have hfl := fullN_le l
  refine ACallF.dropL (ACallF_intro Try.func75 rfl ?_)
  simp only [Try.ntmps75]
  repeat' (first
    | simp only [WL, intF, strF, WM, Int.reduceToNat, ne_eq, reduceCtorEq, not_false_eq_true, Nat.reduceAdd, Nat.reduceSub, Nat.reduceLT, Nat.reduceLeDiff, Nat.reduceEqDiff, Bool.not_true, Bool.not_false, beq_self_eq_true, true_and, and_true, reduceIte, Bool.false_eq_true, T3, T4, T24, T69, cok55, cok107, cok108, Try.results75]
    | simp (disch := first | omega | (simp only [LN_]; omega)) only [wrap_id, getI]
    | with_reducible first | refine andA (hb := ?_) | refine y_load (hK := ?_) | refine y_appN ?_ | refine y_appS ?_ | refine y_app (hlen := ?_) (hmax := ?_) (hK := fun tk => ?_) | refine y_bs0 ?_ | refine y_bs (hK := ?_) | refine cD (rBlank ?_) | refine cD (whole1 ?_ ?_) | refine cD (chomped1 ?_ ?_ ?_ ?_)
    | with_reducible refine y_nil (hK := ?_)
    | (with_reducible refine nilTC_split (fun h => ?_) (fun h bn => ?_) <;> (try simp only [List.length_map] at h))
    | ((with_reducible first | refine grd_cases (fun h => ?_) (fun h => ?_) | refine condC_split (fun h => ?_) (fun h => ?_)) <;> (try simp only [h]) <;> (try simp only [NR_, Bool.not_true, Bool.not_false, Bool.not_eq_eq_eq_not, ne_eq] at h))
    | omega | (simp only [LN_]; omega) | (refine maxLen_ok ?_; (first | omega | (simp only [LN_]; omega))))
  refine loop_by (fun x : Nat × List Int × Option (List Int) × Nat × Option (Nat × Nat) => ⟨(SSI o l :: I c :: .any :: .any :: .any :: I (fullN l : Nat) :: SI (some x.2.2.2.2) x.2.1 :: I x.2.2.2.1 :: B x.2.2.1.isNone :: B (spcd x.2.2.1) :: I x.1 :: .any :: .any :: .any :: .any :: .any :: .any :: .any :: .any :: .any :: .any :: .any :: .any :: .any :: .any :: .any :: .any :: .any :: .any :: .any :: .any :: .any :: .any :: .any :: .any :: .any :: .any :: .any :: .any :: .any :: .any :: .any :: .any :: .any :: .any :: .any :: .any :: .any :: .any :: .any :: .any :: .any :: .any :: .any :: .any :: .any :: .any :: .any :: .any :: .any :: .any :: .any :: .any :: .any :: .any :: .any :: .any :: .any :: .any :: .any :: .any :: .any :: .any :: []), .tip x.2.2.2.2 :: σ, true, []⟩)
    (fun x => x.1 ≤ fullN l ∧ blkGo none 0 (l.take (fullN l)) = x.2.1 ++ blkGo x.2.2.1 x.2.2.2.1 ((l.take (fullN l)).drop x.1) ∧ (x.2.2.1 = none → x.2.1 = []) ∧ x.2.2.2.1 ≤ x.1) (fun x => fullN l - x.1) (0, [], none, 0, none) (St_leW (by repeat (first | exact trivial | refine ⟨le_rfl, ?_⟩ | refine ⟨le_any, ?_⟩ | refine ⟨le_ro, ?_⟩ | refine ⟨le_nil (by decide), ?_⟩ | refine ⟨le_wrap (by omega) (by omega) (by omega), ?_⟩ | refine ⟨le_int (by omega), ?_⟩ | refine ⟨le_eq (by simp), ?_⟩)) ResW.void id) ⟨Nat.zero_le _, by simp, fun _ => rfl, Nat.le_refl _⟩ ?_
  rintro ⟨k, out, s, e, tk⟩ ⟨h1, h2, h3, h6⟩
  dsimp only at h1 h2 h3 h6 ⊢
  have ho := blk_out h2
  have e2 := tot_get (l := l) k
  rcases Nat.lt_or_ge k (fullN l) with hk | hk
  · rw [take_drop_cons hk hfl] at h2 ho
    by_cases ht : l.getD k [] = []
    · rw [blkGo_empty ht] at h2
      have ht2 : (l.getD k []).length = 0 := by rw [ht]; rfl
      repeat' (first
        | simp only [WL, intF, strF, WM, Int.reduceToNat, ne_eq, reduceCtorEq, not_false_eq_true, Nat.reduceAdd, Nat.reduceSub, Nat.reduceLT, Nat.reduceLeDiff, Nat.reduceEqDiff, Bool.not_true, Bool.not_false, beq_self_eq_true, true_and, and_true, reduceIte, Bool.false_eq_true, T3, T4, T24, T69, cok55, cok107, cok108, Try.results75]
        | simp (disch := first | omega | (simp only [LN_]; omega)) only [wrap_id, getI, getS]
        | with_reducible first | refine andA (hb := ?_) | refine y_load (hK := ?_) | refine y_appN ?_ | refine y_appS ?_ | refine y_app (hlen := ?_) (hmax := ?_) (hK := fun tk => ?_) | refine y_bs0 ?_ | refine y_bs (hK := ?_) | refine cD (rBlank ?_) | refine cD (whole1 ?_ ?_) | refine cD (chomped1 ?_ ?_ ?_ ?_)
        | with_reducible refine y_nil (hK := ?_)
        | (with_reducible refine nilTC_split (fun h => ?_) (fun h bn => ?_) <;> (try simp only [List.length_map] at h))
        | ((with_reducible first | refine grd_cases (fun h => ?_) (fun h => ?_) | refine condC_split (fun h => ?_) (fun h => ?_)) <;> (try simp only [h]) <;> (try simp only [NR_, Bool.not_true, Bool.not_false, Bool.not_eq_eq_eq_not, ne_eq] at h))
        | omega | (simp only [LN_]; omega) | (refine maxLen_ok ?_; (first | omega | (simp only [LN_]; omega))))
      exact ⟨(k + 1, out, s, e + 1, tk), St_leW (by repeat (first | exact trivial | refine ⟨le_rfl, ?_⟩ | refine ⟨le_any, ?_⟩ | refine ⟨le_ro, ?_⟩ | refine ⟨le_nil (by decide), ?_⟩ | refine ⟨le_wrap (by omega) (by omega) (by omega), ?_⟩ | refine ⟨le_int (by omega), ?_⟩ | refine ⟨le_eq (by simp), ?_⟩)) (ResW.refl _) id, ⟨by dsimp only; omega, h2, h3, by dsimp only; omega⟩, by dsimp only; omega⟩
    · rw [blkGo_cons ht] at h2 ho
      have ht2 : 0 < (l.getD k []).length := by
        rcases Nat.eq_zero_or_pos (l.getD k []).length with h | h
        · exact (ht (List.eq_nil_of_length_eq_zero h)).elim
        · exact h
      have hsp : spacedI (l.getD k []) = blankI ((l.getD k []).getD 0 0) := by unfold spacedI; rw [decide_eq_true ht2, Bool.true_and]
      have hs := sep_len s e (l.getD k [])
      have ne1 : ((e : Int) + 1) = ((e + 1 : Nat) : Int) := by omega
      simp only [List.length_append] at ho
      cases s with
      | none =>
        simp only [sep, hsp] at h2 ho hs
        simp only [spcd, Option.isNone_none]
        repeat' (first
          | simp only [WL, intF, strF, WM, Int.reduceToNat, ne_eq, reduceCtorEq, not_false_eq_true, Nat.reduceAdd, Nat.reduceSub, Nat.reduceLT, Nat.reduceLeDiff, Nat.reduceEqDiff, Bool.not_true, Bool.not_false, beq_self_eq_true, true_and, and_true, reduceIte, Bool.false_eq_true, T3, T4, T24, T69, cok55, cok107, cok108, Try.results75]
          | simp (disch := first | omega | (simp only [LN_]; omega)) only [wrap_id, getI, getS]
          | with_reducible first | refine andA (hb := ?_) | refine y_load (hK := ?_) | refine y_appN ?_ | refine y_appS ?_ | refine y_app (hlen := ?_) (hmax := ?_) (hK := fun tk => ?_) | refine y_bs0 ?_ | refine y_bs (hK := ?_) | refine cD (rBlank ?_) | refine cD (whole1 ?_ ?_) | refine cD (chomped1 ?_ ?_ ?_ ?_)
          | with_reducible refine y_nil (hK := ?_)
          | (with_reducible refine nilTC_split (fun h => ?_) (fun h bn => ?_) <;> (try simp only [List.length_map] at h))
          | ((with_reducible first | refine grd_cases (fun h => ?_) (fun h => ?_) | refine condC_split (fun h => ?_) (fun h => ?_)) <;> (try simp only [h]) <;> (try simp only [NR_, Bool.not_true, Bool.not_false, Bool.not_eq_eq_eq_not, ne_eq] at h))
          | omega | (simp only [LN_]; omega) | (refine maxLen_ok ?_; (first | omega | (simp only [LN_]; omega))))
        · refine loop_by (fun x : Nat × Option (Nat × Nat) => ⟨(SSI o l :: I c :: .any :: .any :: .any :: I (fullN l : Nat) :: SI (some x.2) (out ++ List.replicate x.1 10) :: I e :: B true :: B false :: I k :: B (blankI ((l.getD k []).getD 0 0)) :: I (e : Nat) :: I x.1 :: .any :: .any :: .any :: .any :: .any :: .any :: .any :: .any :: .any :: .any :: .any :: .any :: .any :: .any :: .any :: .any :: .any :: .any :: .any :: .any :: .any :: .any :: .any :: .any :: .any :: .any :: .any :: .any :: .any :: .any :: .any :: .any :: .any :: .any :: .any :: .any :: .any :: .any :: .any :: .any :: .any :: .any :: .any :: .any :: .any :: .any :: .any :: .any :: .any :: .any :: .any :: .any :: .any :: .any :: .any :: .any :: .any :: .any :: .any :: []), .tip x.2 :: σ, true, []⟩) (fun x => x.1 ≤ e) (fun x => e - x.1) (0, _) (St_leW (by simp only [List.replicate_zero, List.append_nil]; (try simp only [*]); repeat (first | exact trivial | refine ⟨le_rfl, ?_⟩ | refine ⟨le_any, ?_⟩ | refine ⟨le_ro, ?_⟩ | refine ⟨le_nil (by decide), ?_⟩ | refine ⟨le_wrap (by omega) (by omega) (by omega), ?_⟩ | refine ⟨le_int (by omega), ?_⟩ | refine ⟨le_eq (by simp), ?_⟩)) (ResW.refl _) id) (Nat.zero_le _) ?_
          rintro ⟨j, tk2⟩ h9
          dsimp only at h9 ⊢
          have hj : (out ++ List.replicate j 10).length = (out).length + j := by simp only [List.length_append, List.length_replicate]
          have hj2 : (out).length ≤ out.length + 1 := by simp
          repeat' (first
            | simp only [WL, intF, strF, WM, Int.reduceToNat, ne_eq, reduceCtorEq, not_false_eq_true, Nat.reduceAdd, Nat.reduceSub, Nat.reduceLT, Nat.reduceLeDiff, Nat.reduceEqDiff, Bool.not_true, Bool.not_false, beq_self_eq_true, true_and, and_true, reduceIte, Bool.false_eq_true, T3, T4, T24, T69, cok55, cok107, cok108, Try.results75]
            | simp (disch := first | omega | (simp only [LN_]; omega)) only [wrap_id, getI, getS]
            | with_reducible first | refine andA (hb := ?_) | refine y_load (hK := ?_) | refine y_appN ?_ | refine y_appS ?_ | refine y_app (hlen := ?_) (hmax := ?_) (hK := fun tk => ?_) | refine y_bs0 ?_ | refine y_bs (hK := ?_) | refine cD (rBlank ?_) | refine cD (whole1 ?_ ?_) | refine cD (chomped1 ?_ ?_ ?_ ?_)
            | with_reducible refine y_nil (hK := ?_)
            | (with_reducible refine nilTC_split (fun h => ?_) (fun h bn => ?_) <;> (try simp only [List.length_map] at h))
            | ((with_reducible first | refine grd_cases (fun h => ?_) (fun h => ?_) | refine condC_split (fun h => ?_) (fun h => ?_)) <;> (try simp only [h]) <;> (try simp only [NR_, Bool.not_true, Bool.not_false, Bool.not_eq_eq_eq_not, ne_eq] at h))
            | omega | (simp only [LN_]; omega) | (refine maxLen_ok ?_; (first | omega | (simp only [LN_]; omega))))
          · exact ⟨(j + 1, _), St_leW (by simp only [List.replicate_succ', ← List.append_assoc]; repeat (first | exact trivial | refine ⟨le_rfl, ?_⟩ | refine ⟨le_any, ?_⟩ | refine ⟨le_ro, ?_⟩ | refine ⟨le_nil (by decide), ?_⟩ | refine ⟨le_wrap (by omega) (by omega) (by omega), ?_⟩ | refine ⟨le_int (by omega), ?_⟩ | refine ⟨le_eq (by simp), ?_⟩)) (ResW.refl _) id, by dsimp only; omega, by dsimp only; omega⟩
          · rw [show j = e by omega]
            exact ⟨(k + 1, out ++ (List.replicate e 10 ++ l.getD k []), some (l.getD k []), 0, _), St_leW (by simp only [spcd, Option.isNone_some, hsp, List.append_assoc]; repeat (first | exact trivial | refine ⟨le_rfl, ?_⟩ | refine ⟨le_any, ?_⟩ | refine ⟨le_ro, ?_⟩ | refine ⟨le_nil (by decide), ?_⟩ | refine ⟨le_wrap (by omega) (by omega) (by omega), ?_⟩ | refine ⟨le_int (by omega), ?_⟩ | refine ⟨le_eq (by simp), ?_⟩)) (ResW.refl _) id, ⟨by dsimp only; omega, by rw [h2]; simp only [List.append_assoc], fun h => (by cases h), by dsimp only; omega⟩, by dsimp only; omega⟩
      | some t =>
        simp only [sep, hsp] at h2 ho hs
        simp only [spcd, Option.isNone_some]
        repeat' (first
          | simp only [WL, intF, strF, WM, Int.reduceToNat, ne_eq, reduceCtorEq, not_false_eq_true, Nat.reduceAdd, Nat.reduceSub, Nat.reduceLT, Nat.reduceLeDiff, Nat.reduceEqDiff, Bool.not_true, Bool.not_false, beq_self_eq_true, true_and, and_true, reduceIte, Bool.false_eq_true, T3, T4, T24, T69, cok55, cok107, cok108, Try.results75, ne1]
          | simp (disch := first | omega | (simp only [LN_]; omega)) only [wrap_id, getI, getS]
          | with_reducible first | refine andA (hb := ?_) | refine y_load (hK := ?_) | refine y_appN ?_ | refine y_appS ?_ | refine y_app (hlen := ?_) (hmax := ?_) (hK := fun tk => ?_) | refine y_bs0 ?_ | refine y_bs (hK := ?_) | refine cD (rBlank ?_) | refine cD (whole1 ?_ ?_) | refine cD (chomped1 ?_ ?_ ?_ ?_)
          | with_reducible refine y_nil (hK := ?_)
          | (with_reducible refine nilTC_split (fun h => ?_) (fun h bn => ?_) <;> (try simp only [List.length_map] at h))
          | ((with_reducible first | refine grd_cases (fun h => ?_) (fun h => ?_) | refine condC_split (fun h => ?_) (fun h => ?_)) <;> (try simp only [h]) <;> (try simp only [NR_, Bool.not_true, Bool.not_false, Bool.not_eq_eq_eq_not, ne_eq] at h))
          | omega | (simp only [LN_]; omega) | (refine maxLen_ok ?_; (first | omega | (simp only [LN_]; omega))))
        · rw [if_pos (by simp only [*, Bool.or_true, Bool.true_or]), show between (e + 1) = List.replicate (e + 1) 10 by unfold between; rw [if_neg (by omega)]] at h2
          refine loop_by (fun x : Nat × Option (Nat × Nat) => ⟨(SSI o l :: I c :: .any :: .any :: .any :: I (fullN l : Nat) :: SI (some x.2) (out ++ List.replicate x.1 10) :: I e :: B false :: B (spacedI t) :: I k :: B (blankI ((l.getD k []).getD 0 0)) :: I (e + 1 : Nat) :: I x.1 :: .any :: .any :: .any :: .any :: .any :: .any :: .any :: .any :: .any :: .any :: .any :: .any :: .any :: .any :: .any :: .any :: .any :: .any :: .any :: .any :: .any :: .any :: .any :: .any :: .any :: .any :: .any :: .any :: .any :: .any :: .any :: .any :: .any :: .any :: .any :: .any :: .any :: .any :: .any :: .any :: .any :: .any :: .any :: .any :: .any :: .any :: .any :: .any :: .any :: .any :: .any :: .any :: .any :: .any :: .any :: .any :: .any :: .any :: .any :: []), .tip x.2 :: σ, true, []⟩) (fun x => x.1 ≤ e + 1) (fun x => e + 1 - x.1) (0, _) (St_leW (by simp only [List.replicate_zero, List.append_nil]; (try simp only [*]); repeat (first | exact trivial | refine ⟨le_rfl, ?_⟩ | refine ⟨le_any, ?_⟩ | refine ⟨le_ro, ?_⟩ | refine ⟨le_nil (by decide), ?_⟩ | refine ⟨le_wrap (by omega) (by omega) (by omega), ?_⟩ | refine ⟨le_int (by omega), ?_⟩ | refine ⟨le_eq (by simp), ?_⟩)) (ResW.refl _) id) (Nat.zero_le _) ?_
          rintro ⟨j, tk2⟩ h9
          dsimp only at h9 ⊢
          have hj : (out ++ List.replicate j 10).length = (out).length + j := by simp only [List.length_append, List.length_replicate]
          have hj2 : (out).length ≤ out.length + 1 := by simp
          repeat' (first
            | simp only [WL, intF, strF, WM, Int.reduceToNat, ne_eq, reduceCtorEq, not_false_eq_true, Nat.reduceAdd, Nat.reduceSub, Nat.reduceLT, Nat.reduceLeDiff, Nat.reduceEqDiff, Bool.not_true, Bool.not_false, beq_self_eq_true, true_and, and_true, reduceIte, Bool.false_eq_true, T3, T4, T24, T69, cok55, cok107, cok108, Try.results75]
            | simp (disch := first | omega | (simp only [LN_]; omega)) only [wrap_id, getI, getS]
            | with_reducible first | refine andA (hb := ?_) | refine y_load (hK := ?_) | refine y_appN ?_ | refine y_appS ?_ | refine y_app (hlen := ?_) (hmax := ?_) (hK := fun tk => ?_) | refine y_bs0 ?_ | refine y_bs (hK := ?_) | refine cD (rBlank ?_) | refine cD (whole1 ?_ ?_) | refine cD (chomped1 ?_ ?_ ?_ ?_)
            | with_reducible refine y_nil (hK := ?_)
            | (with_reducible refine nilTC_split (fun h => ?_) (fun h bn => ?_) <;> (try simp only [List.length_map] at h))
            | ((with_reducible first | refine grd_cases (fun h => ?_) (fun h => ?_) | refine condC_split (fun h => ?_) (fun h => ?_)) <;> (try simp only [h]) <;> (try simp only [NR_, Bool.not_true, Bool.not_false, Bool.not_eq_eq_eq_not, ne_eq] at h))
            | omega | (simp only [LN_]; omega) | (refine maxLen_ok ?_; (first | omega | (simp only [LN_]; omega))))
          · exact ⟨(j + 1, _), St_leW (by simp only [List.replicate_succ', ← List.append_assoc]; repeat (first | exact trivial | refine ⟨le_rfl, ?_⟩ | refine ⟨le_any, ?_⟩ | refine ⟨le_ro, ?_⟩ | refine ⟨le_nil (by decide), ?_⟩ | refine ⟨le_wrap (by omega) (by omega) (by omega), ?_⟩ | refine ⟨le_int (by omega), ?_⟩ | refine ⟨le_eq (by simp), ?_⟩)) (ResW.refl _) id, by dsimp only; omega, by dsimp only; omega⟩
          · rw [show j = e + 1 by omega]
            exact ⟨(k + 1, out ++ (List.replicate (e + 1) 10 ++ l.getD k []), some (l.getD k []), 0, _), St_leW (by simp only [spcd, Option.isNone_some, hsp, List.append_assoc]; repeat (first | exact trivial | refine ⟨le_rfl, ?_⟩ | refine ⟨le_any, ?_⟩ | refine ⟨le_ro, ?_⟩ | refine ⟨le_nil (by decide), ?_⟩ | refine ⟨le_wrap (by omega) (by omega) (by omega), ?_⟩ | refine ⟨le_int (by omega), ?_⟩ | refine ⟨le_eq (by simp), ?_⟩)) (ResW.refl _) id, ⟨by dsimp only; omega, by rw [h2]; simp only [List.append_assoc], fun h => (by cases h), by dsimp only; omega⟩, by dsimp only; omega⟩
        · rw [if_neg (by simp only [*, Bool.or_self]; decide), show between e = [32] ++ List.replicate e 10 by unfold between; rw [if_pos (by omega), show e = 0 by omega]; rfl] at h2
          refine loop_by (fun x : Nat × Option (Nat × Nat) => ⟨(SSI o l :: I c :: .any :: .any :: .any :: I (fullN l : Nat) :: SI (some x.2) ((out ++ [32]) ++ List.replicate x.1 10) :: I e :: B false :: B (spacedI t) :: I k :: B (blankI ((l.getD k []).getD 0 0)) :: I (e : Nat) :: I x.1 :: .any :: .any :: .any :: .any :: .any :: .any :: .any :: .any :: .any :: .any :: .any :: .any :: .any :: .any :: .any :: .any :: .any :: .any :: .any :: .any :: .any :: .any :: .any :: .any :: .any :: .any :: .any :: .any :: .any :: .any :: .any :: .any :: .any :: .any :: .any :: .any :: .any :: .any :: .any :: .any :: .any :: .any :: .any :: .any :: .any :: .any :: .any :: .any :: .any :: .any :: .any :: .any :: .any :: .any :: .any :: .any :: .any :: .any :: .any :: []), .tip x.2 :: σ, true, []⟩) (fun x => x.1 ≤ e) (fun x => e - x.1) (0, _) (St_leW (by simp only [List.replicate_zero, List.append_nil]; (try simp only [*]); repeat (first | exact trivial | refine ⟨le_rfl, ?_⟩ | refine ⟨le_any, ?_⟩ | refine ⟨le_ro, ?_⟩ | refine ⟨le_nil (by decide), ?_⟩ | refine ⟨le_wrap (by omega) (by omega) (by omega), ?_⟩ | refine ⟨le_int (by omega), ?_⟩ | refine ⟨le_eq (by simp), ?_⟩)) (ResW.refl _) id) (Nat.zero_le _) ?_
          rintro ⟨j, tk2⟩ h9
          dsimp only at h9 ⊢
          have hj : ((out ++ [32]) ++ List.replicate j 10).length = ((out ++ [32])).length + j := by simp only [List.length_append, List.length_replicate]
          have hj2 : ((out ++ [32])).length ≤ out.length + 1 := by simp
          repeat' (first
            | simp only [WL, intF, strF, WM, Int.reduceToNat, ne_eq, reduceCtorEq, not_false_eq_true, Nat.reduceAdd, Nat.reduceSub, Nat.reduceLT, Nat.reduceLeDiff, Nat.reduceEqDiff, Bool.not_true, Bool.not_false, beq_self_eq_true, true_and, and_true, reduceIte, Bool.false_eq_true, T3, T4, T24, T69, cok55, cok107, cok108, Try.results75]
            | simp (disch := first | omega | (simp only [LN_]; omega)) only [wrap_id, getI, getS]
            | with_reducible first | refine andA (hb := ?_) | refine y_load (hK := ?_) | refine y_appN ?_ | refine y_appS ?_ | refine y_app (hlen := ?_) (hmax := ?_) (hK := fun tk => ?_) | refine y_bs0 ?_ | refine y_bs (hK := ?_) | refine cD (rBlank ?_) | refine cD (whole1 ?_ ?_) | refine cD (chomped1 ?_ ?_ ?_ ?_)
            | with_reducible refine y_nil (hK := ?_)
            | (with_reducible refine nilTC_split (fun h => ?_) (fun h bn => ?_) <;> (try simp only [List.length_map] at h))
            | ((with_reducible first | refine grd_cases (fun h => ?_) (fun h => ?_) | refine condC_split (fun h => ?_) (fun h => ?_)) <;> (try simp only [h]) <;> (try simp only [NR_, Bool.not_true, Bool.not_false, Bool.not_eq_eq_eq_not, ne_eq] at h))
            | omega | (simp only [LN_]; omega) | (refine maxLen_ok ?_; (first | omega | (simp only [LN_]; omega))))
          · rw [show j = e by omega]
            exact ⟨(k + 1, out ++ (([32] ++ List.replicate e 10) ++ l.getD k []), some (l.getD k []), 0, _), St_leW (by simp only [spcd, Option.isNone_some, hsp, List.append_assoc]; repeat (first | exact trivial | refine ⟨le_rfl, ?_⟩ | refine ⟨le_any, ?_⟩ | refine ⟨le_ro, ?_⟩ | refine ⟨le_nil (by decide), ?_⟩ | refine ⟨le_wrap (by omega) (by omega) (by omega), ?_⟩ | refine ⟨le_int (by omega), ?_⟩ | refine ⟨le_eq (by simp), ?_⟩)) (ResW.refl _) id, ⟨by dsimp only; omega, by rw [h2]; simp only [List.append_assoc], fun h => (by cases h), by dsimp only; omega⟩, by dsimp only; omega⟩
        · rw [if_neg (by simp only [*, Bool.or_self]; decide), show between e = List.replicate e 10 by unfold between; rw [if_neg (by omega)]] at h2
          refine loop_by (fun x : Nat × Option (Nat × Nat) => ⟨(SSI o l :: I c :: .any :: .any :: .any :: I (fullN l : Nat) :: SI (some x.2) (out ++ List.replicate x.1 10) :: I e :: B false :: B (spacedI t) :: I k :: B (blankI ((l.getD k []).getD 0 0)) :: I (e : Nat) :: I x.1 :: .any :: .any :: .any :: .any :: .any :: .any :: .any :: .any :: .any :: .any :: .any :: .any :: .any :: .any :: .any :: .any :: .any :: .any :: .any :: .any :: .any :: .any :: .any :: .any :: .any :: .any :: .any :: .any :: .any :: .any :: .any :: .any :: .any :: .any :: .any :: .any :: .any :: .any :: .any :: .any :: .any :: .any :: .any :: .any :: .any :: .any :: .any :: .any :: .any :: .any :: .any :: .any :: .any :: .any :: .any :: .any :: .any :: .any :: .any :: []), .tip x.2 :: σ, true, []⟩) (fun x => x.1 ≤ e) (fun x => e - x.1) (0, _) (St_leW (by simp only [List.replicate_zero, List.append_nil]; (try simp only [*]); repeat (first | exact trivial | refine ⟨le_rfl, ?_⟩ | refine ⟨le_any, ?_⟩ | refine ⟨le_ro, ?_⟩ | refine ⟨le_nil (by decide), ?_⟩ | refine ⟨le_wrap (by omega) (by omega) (by omega), ?_⟩ | refine ⟨le_int (by omega), ?_⟩ | refine ⟨le_eq (by simp), ?_⟩)) (ResW.refl _) id) (Nat.zero_le _) ?_
          rintro ⟨j, tk2⟩ h9
          dsimp only at h9 ⊢
          have hj : (out ++ List.replicate j 10).length = (out).length + j := by simp only [List.length_append, List.length_replicate]
          have hj2 : (out).length ≤ out.length + 1 := by simp
          repeat' (first
            | simp only [WL, intF, strF, WM, Int.reduceToNat, ne_eq, reduceCtorEq, not_false_eq_true, Nat.reduceAdd, Nat.reduceSub, Nat.reduceLT, Nat.reduceLeDiff, Nat.reduceEqDiff, Bool.not_true, Bool.not_false, beq_self_eq_true, true_and, and_true, reduceIte, Bool.false_eq_true, T3, T4, T24, T69, cok55, cok107, cok108, Try.results75]
            | simp (disch := first | omega | (simp only [LN_]; omega)) only [wrap_id, getI, getS]
            | with_reducible first | refine andA (hb := ?_) | refine y_load (hK := ?_) | refine y_appN ?_ | refine y_appS ?_ | refine y_app (hlen := ?_) (hmax := ?_) (hK := fun tk => ?_) | refine y_bs0 ?_ | refine y_bs (hK := ?_) | refine cD (rBlank ?_) | refine cD (whole1 ?_ ?_) | refine cD (chomped1 ?_ ?_ ?_ ?_)
            | with_reducible refine y_nil (hK := ?_)
            | (with_reducible refine nilTC_split (fun h => ?_) (fun h bn => ?_) <;> (try simp only [List.length_map] at h))
            | ((with_reducible first | refine grd_cases (fun h => ?_) (fun h => ?_) | refine condC_split (fun h => ?_) (fun h => ?_)) <;> (try simp only [h]) <;> (try simp only [NR_, Bool.not_true, Bool.not_false, Bool.not_eq_eq_eq_not, ne_eq] at h))
            | omega | (simp only [LN_]; omega) | (refine maxLen_ok ?_; (first | omega | (simp only [LN_]; omega))))
          · exact ⟨(j + 1, _), St_leW (by simp only [List.replicate_succ', ← List.append_assoc]; repeat (first | exact trivial | refine ⟨le_rfl, ?_⟩ | refine ⟨le_any, ?_⟩ | refine ⟨le_ro, ?_⟩ | refine ⟨le_nil (by decide), ?_⟩ | refine ⟨le_wrap (by omega) (by omega) (by omega), ?_⟩ | refine ⟨le_int (by omega), ?_⟩ | refine ⟨le_eq (by simp), ?_⟩)) (ResW.refl _) id, by dsimp only; omega, by dsimp only; omega⟩
          · rw [show j = e by omega]
            exact ⟨(k + 1, out ++ (List.replicate e 10 ++ l.getD k []), some (l.getD k []), 0, _), St_leW (by simp only [spcd, Option.isNone_some, hsp, List.append_assoc]; repeat (first | exact trivial | refine ⟨le_rfl, ?_⟩ | refine ⟨le_any, ?_⟩ | refine ⟨le_ro, ?_⟩ | refine ⟨le_nil (by decide), ?_⟩ | refine ⟨le_wrap (by omega) (by omega) (by omega), ?_⟩ | refine ⟨le_int (by omega), ?_⟩ | refine ⟨le_eq (by simp), ?_⟩)) (ResW.refl _) id, ⟨by dsimp only; omega, by rw [h2]; simp only [List.append_assoc], fun h => (by cases h), by dsimp only; omega⟩, by dsimp only; omega⟩
        · rw [if_pos (by simp only [*, Bool.or_true, Bool.true_or]), show between (e + 1) = List.replicate (e + 1) 10 by unfold between; rw [if_neg (by omega)]] at h2
          refine loop_by (fun x : Nat × Option (Nat × Nat) => ⟨(SSI o l :: I c :: .any :: .any :: .any :: I (fullN l : Nat) :: SI (some x.2) (out ++ List.replicate x.1 10) :: I e :: B false :: B (spacedI t) :: I k :: B (blankI ((l.getD k []).getD 0 0)) :: I (e + 1 : Nat) :: I x.1 :: .any :: .any :: .any :: .any :: .any :: .any :: .any :: .any :: .any :: .any :: .any :: .any :: .any :: .any :: .any :: .any :: .any :: .any :: .any :: .any :: .any :: .any :: .any :: .any :: .any :: .any :: .any :: .any :: .any :: .any :: .any :: .any :: .any :: .any :: .any :: .any :: .any :: .any :: .any :: .any :: .any :: .any :: .any :: .any :: .any :: .any :: .any :: .any :: .any :: .any :: .any :: .any :: .any :: .any :: .any :: .any :: .any :: .any :: .any :: []), .tip x.2 :: σ, true, []⟩) (fun x => x.1 ≤ e + 1) (fun x => e + 1 - x.1) (0, _) (St_leW (by simp only [List.replicate_zero, List.append_nil]; (try simp only [*]); repeat (first | exact trivial | refine ⟨le_rfl, ?_⟩ | refine ⟨le_any, ?_⟩ | refine ⟨le_ro, ?_⟩ | refine ⟨le_nil (by decide), ?_⟩ | refine ⟨le_wrap (by omega) (by omega) (by omega), ?_⟩ | refine ⟨le_int (by omega), ?_⟩ | refine ⟨le_eq (by simp), ?_⟩)) (ResW.refl _) id) (Nat.zero_le _) ?_
          rintro ⟨j, tk2⟩ h9
          dsimp only at h9 ⊢
          have hj : (out ++ List.replicate j 10).length = (out).length + j := by simp only [List.length_append, List.length_replicate]
          have hj2 : (out).length ≤ out.length + 1 := by simp
          repeat' (first
            | simp only [WL, intF, strF, WM, Int.reduceToNat, ne_eq, reduceCtorEq, not_false_eq_true, Nat.reduceAdd, Nat.reduceSub, Nat.reduceLT, Nat.reduceLeDiff, Nat.reduceEqDiff, Bool.not_true, Bool.not_false, beq_self_eq_true, true_and, and_true, reduceIte, Bool.false_eq_true, T3, T4, T24, T69, cok55, cok107, cok108, Try.results75]
            | simp (disch := first | omega | (simp only [LN_]; omega)) only [wrap_id, getI, getS]
            | with_reducible first | refine andA (hb := ?_) | refine y_load (hK := ?_) | refine y_appN ?_ | refine y_appS ?_ | refine y_app (hlen := ?_) (hmax := ?_) (hK := fun tk => ?_) | refine y_bs0 ?_ | refine y_bs (hK := ?_) | refine cD (rBlank ?_) | refine cD (whole1 ?_ ?_) | refine cD (chomped1 ?_ ?_ ?_ ?_)
            | with_reducible refine y_nil (hK := ?_)
            | (with_reducible refine nilTC_split (fun h => ?_) (fun h bn => ?_) <;> (try simp only [List.length_map] at h))
            | ((with_reducible first | refine grd_cases (fun h => ?_) (fun h => ?_) | refine condC_split (fun h => ?_) (fun h => ?_)) <;> (try simp only [h]) <;> (try simp only [NR_, Bool.not_true, Bool.not_false, Bool.not_eq_eq_eq_not, ne_eq] at h))
            | omega | (simp only [LN_]; omega) | (refine maxLen_ok ?_; (first | omega | (simp only [LN_]; omega))))
          · exact ⟨(j + 1, _), St_leW (by simp only [List.replicate_succ', ← List.append_assoc]; repeat (first | exact trivial | refine ⟨le_rfl, ?_⟩ | refine ⟨le_any, ?_⟩ | refine ⟨le_ro, ?_⟩ | refine ⟨le_nil (by decide), ?_⟩ | refine ⟨le_wrap (by omega) (by omega) (by omega), ?_⟩ | refine ⟨le_int (by omega), ?_⟩ | refine ⟨le_eq (by simp), ?_⟩)) (ResW.refl _) id, by dsimp only; omega, by dsimp only; omega⟩
          · rw [show j = e + 1 by omega]
            exact ⟨(k + 1, out ++ (List.replicate (e + 1) 10 ++ l.getD k []), some (l.getD k []), 0, _), St_leW (by simp only [spcd, Option.isNone_some, hsp, List.append_assoc]; repeat (first | exact trivial | refine ⟨le_rfl, ?_⟩ | refine ⟨le_any, ?_⟩ | refine ⟨le_ro, ?_⟩ | refine ⟨le_nil (by decide), ?_⟩ | refine ⟨le_wrap (by omega) (by omega) (by omega), ?_⟩ | refine ⟨le_int (by omega), ?_⟩ | refine ⟨le_eq (by simp), ?_⟩)) (ResW.refl _) id, ⟨by dsimp only; omega, by rw [h2]; simp only [List.append_assoc], fun h => (by cases h), by dsimp only; omega⟩, by dsimp only; omega⟩
  · rw [List.drop_eq_nil_of_le (by simp; omega)] at h2 ho
    have e4 : ∀ s e, blkGo s e [] = [] := fun s e => rfl
    rw [e4] at ho
    rw [e4, List.append_nil] at h2
    repeat' (first
      | simp only [WL, intF, strF, WM, Int.reduceToNat, ne_eq, reduceCtorEq, not_false_eq_true, Nat.reduceAdd, Nat.reduceSub, Nat.reduceLT, Nat.reduceLeDiff, Nat.reduceEqDiff, Bool.not_true, Bool.not_false, beq_self_eq_true, true_and, and_true, reduceIte, Bool.false_eq_true, T3, T4, T24, T69, cok55, cok107, cok108, Try.results75]
      | simp (disch := first | omega | (simp only [LN_]; omega)) only [wrap_id, getI]
      | with_reducible first | refine andA (hb := ?_) | refine y_load (hK := ?_) | refine y_appN ?_ | refine y_appS ?_ | refine y_app (hlen := ?_) (hmax := ?_) (hK := fun tk => ?_) | refine y_bs0 ?_ | refine y_bs (hK := ?_) | refine cD (rBlank ?_) | refine cD (whole1 ?_ ?_) | refine cD (chomped1 ?_ ?_ ?_ ?_)
      | with_reducible refine y_nil (hK := ?_)
      | (with_reducible refine nilTC_split (fun h => ?_) (fun h bn => ?_) <;> (try simp only [List.length_map] at h))
      | ((with_reducible first | refine grd_cases (fun h => ?_) (fun h => ?_) | refine condC_split (fun h => ?_) (fun h => ?_)) <;> (try simp only [h]) <;> (try simp only [NR_, Bool.not_true, Bool.not_false, Bool.not_eq_eq_eq_not, ne_eq] at h))
      | omega | (simp only [LN_]; omega) | (refine maxLen_ok ?_; (first | omega | (simp only [LN_]; omega))))
    exact leafL sub_rfl (leT_eq (by rw [blkF, h2])) hK

end Go.Proofs.Ytaeacialcbahnaa
