/-
  Walks: chapter 3's markers, and the reference's.
-/
import Derived.Test.YtaeacialcbahnaaCh
namespace Go.Proofs.Ytaeacialcbahnaa
open Go.Abs
set_option linter.unusedVariables false
set_option linter.unusedSimpArgs false
-- hb: 4000000
variable {κ : Ctx} {σ : List Res} {K : Ret → List Res → Prop} {o o' : Option (Option (Nat × Nat))}

-- marginaliaref1.Marker
set_option maxHeartbeats 4000000 in
theorem rMarker {n : Int} {l : List Int} (hl : l.length ≤ 1000000000) (hK : K (.ret (I (markerI n l))) σ) : ACallF κ Try.prog 72 [.agg [I n, SI o l]] σ K := by
  refine ACallF.dropL (ACallF_intro Try.func72 rfl ?_)
  simp only [Try.ntmps72]
  repeat' (first
    | simp only [WL, intF, strF, WM, Int.reduceToNat, ne_eq, reduceCtorEq, not_false_eq_true, Nat.reduceAdd, Nat.reduceSub, Nat.reduceLT, Nat.reduceLeDiff, Nat.reduceEqDiff, Bool.not_true, Bool.not_false, beq_self_eq_true, true_and, and_true, reduceIte, Bool.false_eq_true, T3, T4, T24, T71, fC fl71_0, fR fl71_0, fC fl71_1, fR fl71_1, cok55, Try.results72]
    | simp (disch := first | omega | (simp only [LN_]; omega)) only [wrap_id, getI]
    | with_reducible first | refine andA (hb := ?_) | refine y_load (hK := ?_) | refine y_box (hK := fun b => ?_) | refine y_new (hK := fun b => ?_) | refine cQ (rBlank isR_mk) ?_ | refine cD (rBlank ?_)
    | ((with_reducible refine AW_drawM (id := 2) 38 mixed ?_ ?_); kernel_rfl)
    | (with_reducible refine dmQ_mk ?_)
    | with_reducible refine y_nil (hK := ?_)
    | (with_reducible refine nilTC_split (fun h => ?_) (fun h bn => ?_) <;> (try simp only [List.length_map] at h))
    | ((with_reducible first | refine grd_cases (fun h => ?_) (fun h => ?_) | refine condC_split (fun h => ?_) (fun h => ?_)) <;> (try simp only [h]) <;> (try simp only [NR_, Bool.not_true, Bool.not_false, Bool.not_eq_eq_eq_not, ne_eq] at h))
    | omega | (simp only [LN_]; omega))
  all_goals
    refine leafL (sub_cons sub_rfl) (leT_eq (congrArg I ?_)) hK
    first
      | exact (markerI_bad (by assumption) (by omega)).symm
      | (unfold markerI
         first
           | (rw [if_neg (by rintro ⟨h1, h2, h3, h4, h5⟩; omega)])
           | (rw [if_pos ⟨by omega, by omega, by omega, by omega, fun _ => by first | assumption | omega⟩]
              first
                | (rw [if_pos (by omega)]; done)
                | (rw [if_neg (by omega), if_pos (by omega)]; done)
                | (rw [if_neg (by omega), if_neg (by omega)])))

-- lines.Marker
set_option maxHeartbeats 4000000 in
theorem lMarker {n : Int} {l : List Int} (hl : l.length ≤ 1000000000) (hK : K (.ret (I (markerI n l))) σ) : ACallF κ Try.prog 97 [.agg [I n, SI o l]] σ K := by
  refine ACallF.dropL (ACallF_intro Try.func97 rfl ?_)
  simp only [Try.ntmps97]
  repeat' (first
    | simp only [WL, intF, strF, WM, Int.reduceToNat, ne_eq, reduceCtorEq, not_false_eq_true, Nat.reduceAdd, Nat.reduceSub, Nat.reduceLT, Nat.reduceLeDiff, Nat.reduceEqDiff, Bool.not_true, Bool.not_false, beq_self_eq_true, true_and, and_true, reduceIte, Bool.false_eq_true, T3, T4, T24, T71, fC fl71_0, fR fl71_0, fC fl71_1, fR fl71_1, cok76, Try.results97]
    | simp (disch := first | omega | (simp only [LN_]; omega)) only [wrap_id, getI]
    | with_reducible first | refine andA (hb := ?_) | refine y_load (hK := ?_) | refine y_box (hK := fun b => ?_) | refine y_new (hK := fun b => ?_) | refine y_bs0 ?_ | refine y_bs (hK := ?_) | refine cD (Blank ?_)
    | with_reducible refine y_nil (hK := ?_)
    | (with_reducible refine nilTC_split (fun h => ?_) (fun h bn => ?_) <;> (try simp only [List.length_map] at h))
    | ((with_reducible first | refine grd_cases (fun h => ?_) (fun h => ?_) | refine condC_split (fun h => ?_) (fun h => ?_)) <;> (try simp only [h]) <;> (try simp only [NR_, Bool.not_true, Bool.not_false, Bool.not_eq_eq_eq_not, ne_eq] at h))
    | omega | (simp only [LN_]; omega))
  all_goals first
    | exact leafL (sub_cons sub_rfl) (leT_eq (congrArg I (markerI_bad (by assumption) (by omega)).symm)) hK
    | (refine leafL (sub_cons sub_rfl) (leT_eq (congrArg I ?_)) hK
       unfold markerI
       repeat' split
       all_goals first | rfl | omega)
    | skip
  all_goals
    refine loop_by (fun k : Nat => ⟨(.agg [I n, SI o l] :: .raw (.pointer (some ⟨b, 0, none⟩)) :: .any :: .any :: .any :: .any :: .any :: .any :: .any :: .any :: .any :: .any :: .any :: .any :: .any :: .any :: .any :: .any :: .any :: .any :: .any :: .any :: .any :: .any :: .any :: .any :: .any :: .any :: .sl 1 none [I 45, I 46] :: I 2 :: I k :: .any :: .any :: .any :: .any :: .any :: .any :: .any :: .any :: .any :: .any :: .any :: .any :: .any :: .any :: .any :: .any :: .any :: .any :: .any :: .any :: .any :: .any :: .any :: .any :: .any :: .any :: .any :: .any :: .any :: []), .obj b [I n, SI o l] :: σ, true, []⟩) (fun k => k ≤ 2 ∧ (1 ≤ k → ¬ (l.getD 0 0 = 45 ∧ l.getD 1 0 = 45 ∧ l.getD 2 0 = 45)) ∧ (2 ≤ k → ¬ (l.getD 0 0 = 46 ∧ l.getD 1 0 = 46 ∧ l.getD 2 0 = 46))) (fun k => 2 - k) 0 (St_le_same (by repeat (first | exact trivial | refine ⟨le_rfl, ?_⟩ | refine ⟨le_any, ?_⟩ | refine ⟨le_ro, ?_⟩ | refine ⟨le_nil (by decide), ?_⟩ | refine ⟨le_wrap (by omega) (by omega) (by omega), ?_⟩ | refine ⟨le_int (by omega), ?_⟩ | refine ⟨le_eq (by simp), ?_⟩)) id) ⟨by decide, fun h => absurd h (by decide), fun h => absurd h (by decide)⟩ ?_
    rintro k ⟨h1, h2, h3⟩
    obtain rfl | rfl | rfl : k = 0 ∨ k = 1 ∨ k = 2 := by omega
  repeat' (first
    | simp only [WL, intF, strF, WM, Int.reduceToNat, ne_eq, reduceCtorEq, not_false_eq_true, Nat.reduceAdd, Nat.reduceSub, Nat.reduceLT, Nat.reduceLeDiff, Nat.reduceEqDiff, Bool.not_true, Bool.not_false, beq_self_eq_true, true_and, and_true, reduceIte, Bool.false_eq_true, T3, T4, T24, T71, fC fl71_0, fR fl71_0, fC fl71_1, fR fl71_1, cok76, Try.results97]
    | simp (disch := first | omega | (simp only [LN_]; omega)) only [wrap_id, getI]
    | with_reducible first | refine andA (hb := ?_) | refine y_load (hK := ?_) | refine y_box (hK := fun b => ?_) | refine y_new (hK := fun b => ?_) | refine y_bs0 ?_ | refine y_bs (hK := ?_) | refine cD (Blank ?_)
    | with_reducible refine y_nil (hK := ?_)
    | (with_reducible refine nilTC_split (fun h => ?_) (fun h bn => ?_) <;> (try simp only [List.length_map] at h))
    | ((with_reducible first | refine grd_cases (fun h => ?_) (fun h => ?_) | refine condC_split (fun h => ?_) (fun h => ?_)) <;> (try simp only [h]) <;> (try simp only [NR_, Bool.not_true, Bool.not_false, Bool.not_eq_eq_eq_not, ne_eq] at h))
    | omega | (simp only [LN_]; omega))
  all_goals first
    | exact ⟨1, St_le_same (by repeat (first | exact trivial | refine ⟨le_rfl, ?_⟩ | refine ⟨le_any, ?_⟩ | refine ⟨le_ro, ?_⟩ | refine ⟨le_nil (by decide), ?_⟩ | refine ⟨le_wrap (by omega) (by omega) (by omega), ?_⟩ | refine ⟨le_int (by omega), ?_⟩ | refine ⟨le_eq (by simp), ?_⟩)) id, ⟨by decide, fun _ => by omega, fun h => by omega⟩, by decide⟩
    | exact ⟨2, St_le_same (by repeat (first | exact trivial | refine ⟨le_rfl, ?_⟩ | refine ⟨le_any, ?_⟩ | refine ⟨le_ro, ?_⟩ | refine ⟨le_nil (by decide), ?_⟩ | refine ⟨le_wrap (by omega) (by omega) (by omega), ?_⟩ | refine ⟨le_int (by omega), ?_⟩ | refine ⟨le_eq (by simp), ?_⟩)) id, ⟨by decide, fun _ => by omega, fun h => by omega⟩, by decide⟩
    | (refine leafL (sub_cons sub_rfl) (leT_eq (congrArg I ?_)) hK
       unfold markerI
       repeat' split
       all_goals first | rfl | omega)
    | (refine leafL (sub_cons sub_rfl) (leT_eq (congrArg I ?_)) hK
       unfold markerI
       rw [if_pos ⟨by omega, by omega, by omega, by omega, fun _ => by first | assumption | omega⟩]
       first
         | (rw [if_pos (by omega)]; rfl)
         | (rw [if_neg (by omega), if_pos (by omega)]; rfl))

end Go.Proofs.Ytaeacialcbahnaa
