/-
  The laws of chapter 10: BlockHeads.
-/
import Derived.Test.YtaeacialcbahnaaBn
namespace Go.Proofs.Ytaeacialcbahnaa
open Go.Abs
set_option linter.unusedVariables false
set_option linter.unusedSimpArgs false
-- hb: 8000000
variable {κ : Ctx} {σ : List Res} {K : Ret → List Res → Prop} {o o' : Option (Option (Nat × Nat))}

-- marginalialaw10.num
set_option maxHeartbeats 8000000 in
theorem num10 {c : Int} (hK : K (.ret (I c)) σ) : ACallF κ Try.prog 34 [I c] σ K := by
  refine ACallF.dropL (ACallF_intro Try.func34 rfl ?_)
  simp only [Try.ntmps34]
  repeat' (first
    | simp only [WL, intF, strF, WM, Int.reduceToNat, ne_eq, reduceCtorEq, not_false_eq_true, Nat.reduceAdd, Nat.reduceSub, Nat.reduceLT, Nat.reduceLeDiff, Nat.reduceEqDiff, Bool.not_true, Bool.not_false, beq_self_eq_true, true_and, and_true, reduceIte, Bool.false_eq_true, T3, T50, Try.results34]
    | simp (disch := first | omega | (simp only [LN_]; omega)) only [wrap_id, getI]
    | with_reducible first | refine andA (hb := ?_)
    | ((with_reducible first | refine grd_cases (fun h => ?_) (fun h => ?_) | refine condC_split (fun h => ?_) (fun h => ?_)) <;> (try simp only [h]) <;> (try simp only [NR_, Bool.not_true, Bool.not_false, Bool.not_eq_eq_eq_not, ne_eq] at h))
    | omega | (simp only [LN_]; omega))
  exact leafL sub_rfl (leT_eq rfl) hK

set_option maxHeartbeats 8000000 in
theorem alive10_a : headI [124, 45] = ((false, 1, 0), 2, 0) := by decide
set_option maxHeartbeats 8000000 in
theorem alive10_b : blockB [(2, [97])] (false, 1, 0) (-1) = (strOfNums [97], 1, 0) := by decide +kernel

-- marginalialaw10.alive
set_option maxHeartbeats 8000000 in
theorem alive10 (hK : K (.ret (B true)) σ) : ACallF κ Try.prog 30 [] σ K := by
  refine ACallF.dropL (ACallF_intro Try.func30 rfl ?_)
  simp only [Try.ntmps30]
  repeat' (first
    | simp only [WL, intF, strF, WM, Int.reduceToNat, ne_eq, reduceCtorEq, not_false_eq_true, Nat.reduceAdd, Nat.reduceSub, Nat.reduceLT, Nat.reduceLeDiff, Nat.reduceEqDiff, Bool.not_true, Bool.not_false, beq_self_eq_true, true_and, and_true, reduceIte, Bool.false_eq_true, T3, T4, T9, T24, T50, T59, T64, T71, fC fl64_1, fR fl64_1, cok32, cok34, cok36, Try.results30, alive10_a, alive10_b]
    | simp (disch := first | omega | (simp only [LN_]; omega)) only [wrap_id, getI]
    | with_reducible first | refine andA (hb := ?_) | refine y_load (hK := ?_) | refine y_loadA (hK := ?_) | refine y_storeA (hK := ?_) | refine y_box (hK := fun b => ?_) | refine y_new (hK := fun b => ?_) | refine y_bs0 ?_ | refine y_bs (hK := ?_) | refine y_build (hK := ?_)
    | ( refine callD_mk (ACallF.argsS (ys := [SI none [124, 45]]) ⟨leS_le le_rfl, trivial⟩ (bHead (by decide) ?_)))
    | ( refine callD_mk (ACallF.argsS (ys := [SL none [(2, [97])], HDA (false, 1, 0), I (-1)]) ⟨leS_le le_rfl, leS_le le_rfl, leS_le le_rfl, trivial⟩ (bRead (by decide) (by decide) ?_)))
    | with_reducible first | refine cD (bRead ?_ ?_ ?_) | refine cD (num10 ?_) | refine cD (bHead ?_ ?_)
    | with_reducible refine y_nil (hK := ?_)
    | (with_reducible refine nilTC_split (fun h => ?_) (fun h bn => ?_) <;> (try simp only [List.length_map] at h))
    | ((with_reducible first | refine grd_cases (fun h => ?_) (fun h => ?_) | refine condC_split (fun h => ?_) (fun h => ?_)) <;> (try simp only [h]) <;> (try simp only [NR_, Bool.not_true, Bool.not_false, Bool.not_eq_eq_eq_not, ne_eq] at h))
    | omega | (simp only [LN_]; omega))
  · exact leafL (sub_cons sub_rfl) (leT_eq rfl) hK
  · exact absurd (show (strOfNums [97]).toList = (⟨#[97]⟩ : ByteArray).toList by decide +kernel) (by assumption)

-- marginalialaw10.BlockHeads
-- (no function marginalialaw10.BlockHeads in this program)
