/-
  The laws of chapter 11: PropsValid, PropsDirects.
-/
import Derived.Test.YtaeacialcbahnaaPf
import Derived.Test.YtaeacialcbahnaaPa
namespace Go.Proofs.Ytaeacialcbahnaa
open Go.Abs
set_option linter.unusedVariables false
set_option linter.unusedSimpArgs false
-- hb: 8000000
-- rd: 20000
variable {κ : Ctx} {σ : List Res} {K : Ret → List Res → Prop} {o o' : Option (Option (Nat × Nat))}

set_option maxHeartbeats 8000000 in
set_option maxRecDepth 20000 in
theorem alive11_ex : tagI [33, 33, 115, 116, 114, 32, 120] = (({ data := #[33, 33, 115, 116, 114] } : ByteArray), 5, true) := by decide +kernel
-- marginalialaw11.alive
set_option maxHeartbeats 8000000 in
set_option maxRecDepth 20000 in
theorem alive11 (hK : K (.ret (B true)) σ) : ACallF κ Try.prog 12 [] σ K := by
  refine ACallF.dropL (ACallF_intro Try.func12 rfl ?_)
  simp only [Try.ntmps12]
  repeat' (first
    | simp only [WL, intF, strF, WM, Int.reduceToNat, ne_eq, reduceCtorEq, not_false_eq_true, Nat.reduceAdd, Nat.reduceSub, Nat.reduceLT, Nat.reduceLeDiff, Nat.reduceEqDiff, Bool.not_true, Bool.not_false, beq_self_eq_true, true_and, and_true, reduceIte, Bool.false_eq_true, T3, T4, T9, T24, cok15, Try.results12, alive11_ex]
    | simp (disch := first | omega | (simp only [LN_]; omega)) only [wrap_id, getI]
    | with_reducible first | refine andA (hb := ?_) | refine y_bs0 ?_ | refine y_bs (hK := ?_)
    | ( refine callD_mk (ACallF.argsS (ys := [SI none [33, 33, 115, 116, 114, 32, 120]]) ⟨leS_le le_rfl, trivial⟩ (pTag (by decide) ?_)))
    | with_reducible first | refine cD (pTag ?_ ?_)
    | with_reducible refine y_nil (hK := ?_)
    | (with_reducible refine nilTC_split (fun h => ?_) (fun h bn => ?_) <;> (try simp only [List.length_map] at h))
    | ((with_reducible first | refine grd_cases (fun h => ?_) (fun h => ?_) | refine condC_split (fun h => ?_) (fun h => ?_)) <;> (try simp only [h]) <;> (try simp only [NR_, Bool.not_true, Bool.not_false, Bool.not_eq_eq_eq_not, ne_eq] at h))
    | omega | (simp only [LN_]; omega))
  all_goals exact leafL sub_rfl (leT_eq rfl) hK

-- marginalialaw11.PropsValid
set_option maxHeartbeats 8000000 in
set_option maxRecDepth 20000 in
theorem law_PropsValid (κ : Ctx) (s : ByteArray) (hs : s.size ≤ maxLen) : ACallF κ Try.prog 4 [.raw (.string s)] [] (fun r _ => r = .ret (B true)) := by
  refine ACallF.dropL (ACallF_intro Try.func4 rfl ?_)
  simp only [Try.ntmps4]
  repeat' (first
    | simp only [WL, intF, strF, WM, Int.reduceToNat, ne_eq, reduceCtorEq, not_false_eq_true, Nat.reduceAdd, Nat.reduceSub, Nat.reduceLT, Nat.reduceLeDiff, Nat.reduceEqDiff, Bool.not_true, Bool.not_false, beq_self_eq_true, true_and, and_true, reduceIte, Bool.false_eq_true, T3, T4, T9, cok12, cok13, cok18, Try.results4]
    | simp (disch := first | omega | (simp only [LN_]; omega)) only [wrap_id, getI]
    | with_reducible first | refine andA (hb := ?_) | refine cD (alive11 ?_) | refine cD (rValid ?_ ?_) | refine cD (pValid ?_ ?_)
    | with_reducible refine y_nil (hK := ?_)
    | (with_reducible refine nilTC_split (fun h => ?_) (fun h bn => ?_) <;> (try simp only [List.length_map] at h))
    | ((with_reducible first | refine grd_cases (fun h => ?_) (fun h => ?_) | refine condC_split (fun h => ?_) (fun h => ?_)) <;> (try simp only [h]) <;> (try simp only [NR_, Bool.not_true, Bool.not_false, Bool.not_eq_eq_eq_not, ne_eq] at h))
    | omega | (simp only [LN_]; omega))
  all_goals exact leafLaw (by simp)

-- marginalialaw11.PropsDirects
set_option maxHeartbeats 8000000 in
set_option maxRecDepth 20000 in
theorem law_PropsDirects (κ : Ctx) (l : List Int) (hl : l.length ≤ maxLen ∧ ∀ a ∈ l, IntKind.i64.min ≤ a ∧ a ≤ IntKind.i64.max) : ACallF κ Try.prog 5 [.sl 1 none (l.map fun n => I n)] [] (fun r _ => r = .ret (B true)) := by
  refine ACallF.dropL (ACallF_intro Try.func5 rfl ?_)
  simp only [Try.ntmps5]
  repeat' (first
    | simp only [WL, intF, strF, WM, Int.reduceToNat, ne_eq, reduceCtorEq, not_false_eq_true, Nat.reduceAdd, Nat.reduceSub, Nat.reduceLT, Nat.reduceLeDiff, Nat.reduceEqDiff, Bool.not_true, Bool.not_false, beq_self_eq_true, true_and, and_true, reduceIte, Bool.false_eq_true, T3, T4, T9, T24, cok12, cok19, cok20, Try.results5]
    | simp (disch := first | omega | (simp only [LN_]; omega)) only [wrap_id, getI]
    | with_reducible first | refine andA (hb := ?_) | refine cD (alive11 ?_) | refine cD (pDirective ?_ ?_) | refine cD (rDirective ?_ ?_)
    | with_reducible refine y_nil (hK := ?_)
    | (with_reducible refine nilTC_split (fun h => ?_) (fun h bn => ?_) <;> (try simp only [List.length_map] at h))
    | ((with_reducible first | refine grd_cases (fun h => ?_) (fun h => ?_) | refine condC_split (fun h => ?_) (fun h => ?_)) <;> (try simp only [h]) <;> (try simp only [NR_, Bool.not_true, Bool.not_false, Bool.not_eq_eq_eq_not, ne_eq] at h))
    | omega | (simp only [LN_]; omega))
  all_goals exact leafLaw (by simp)
end Go.Proofs.Ytaeacialcbahnaa
