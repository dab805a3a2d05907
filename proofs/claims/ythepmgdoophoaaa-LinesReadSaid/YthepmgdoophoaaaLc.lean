/-
  Walks: the laws LinesRead, LinesParts, LinesEnds.
-/
import Derived.Test.YthepmgdoophoaaaLb
import Derived.Test.YthepmgdoophoaaaLa
namespace Go.Proofs.Ythepmgdoophoaaa
open Go.Abs
set_option linter.unusedVariables false
set_option linter.unusedSimpArgs false
-- hb: 4000000
variable {κ : Ctx} {σ : List Res} {K : Ret → List Res → Prop} {o o' : Option (Option (Nat × Nat))}

-- marginalialaw3.LinesRead
set_option maxHeartbeats 4000000 in
theorem law_LinesRead (κ : Ctx) (l : List Int) (hl : l.length ≤ maxLen ∧ ∀ a ∈ l, IntKind.i64.min ≤ a ∧ a ≤ IntKind.i64.max) : ACallF κ Try.prog 3 [.sl 1 none (l.map fun n => I n)] [] (fun r _ => r = .ret (B true)) := by
  refine ACallF.dropL (ACallF_intro Try.func3 rfl ?_)
  simp only [Try.ntmps3]
  repeat' (first
    | simp only [WL, intF, shF, strF, List.toList_toArray, List.set_cons_succ, List.set_cons_zero, List.getD_cons_succ, List.getD_cons_zero, List.getElem?_cons_succ, List.getElem?_cons_zero, List.length_cons, List.length_nil, List.replicate_succ, List.replicate_zero, List.cons_append, List.nil_append, List.append_nil, List.map_cons, List.map_nil, Option.bind_some, Option.map_some, Option.map_none, List.drop_succ_cons, List.drop_zero, List.take_succ_cons, List.take_zero, ← List.map_take, ← List.map_drop, List.take_length, Int.reduceToNat, ne_eq, reduceCtorEq, not_false_eq_true, Nat.reduceAdd, Nat.reduceSub, Nat.reduceLT, Nat.reduceLeDiff, Nat.reduceEqDiff, Nat.zero_lt_succ, Bool.not_true, Bool.not_false, beq_self_eq_true, true_and, and_true, Option.isSome_some, Option.isSome_none, reduceIte, Int.toNat_natCast, Bool.false_eq_true, List.length_map, Nat.le_refl, Option.some.injEq, exists_eq_left', Nat.add_right_cancel_iff, List.take_nil, List.drop_nil, T3, T4, T22, T24, T25, T36, cok16, cok17, cok18, cok19, cok20, Try.results3]
    | (simp (disch := first | omega | (simp only [List.length_append, List.length_cons, List.length_take, List.length_drop]; omega)) only [wrap_id, getI])
    | (with_reducible refine And.intro (by first | omega | exact ⟨_, rfl⟩ | (focus (simp; done)) | (simp; omega)) ?_)
    | ((with_reducible refine actC_mk (act_append_nil (sz := 1) (by decide) ?_)))
    | ((with_reducible refine actC_mk (act_append_src_nil (sz := 1) (by decide) ?_)))
    | ((with_reducible refine actC_mk (act_append 0 rfl sl22 sz3 by3 zr3 rfl ?_ ?_ ?_ (fun tk => ?_))); (first | exact goodI _ | rfl | exact goodSL _ | exact goodLL _ | (focus (simp [goodL, oneA, AV.cells]; done)) | skip))
    | ((with_reducible refine (act_append 0 rfl sl22 sz3 by3 zr3 rfl ?_ ?_ ?_ (fun tk => ?_))); (first | exact goodI _ | rfl | exact goodSL _ | exact goodLL _ | (focus (simp [goodL, oneA, AV.cells]; done)) | skip))
    | ((with_reducible refine actC_mk (act_append 1 rfl sl22 sz3 by3 zr3 rfl ?_ ?_ ?_ (fun tk => ?_))); (first | exact goodI _ | rfl | exact goodSL _ | exact goodLL _ | (focus (simp [goodL, oneA, AV.cells]; done)) | skip))
    | ((with_reducible refine (act_append 1 rfl sl22 sz3 by3 zr3 rfl ?_ ?_ ?_ (fun tk => ?_))); (first | exact goodI _ | rfl | exact goodSL _ | exact goodLL _ | (focus (simp [goodL, oneA, AV.cells]; done)) | skip))
    | ((with_reducible refine actC_mk (act_append 2 rfl sl22 sz3 by3 zr3 rfl ?_ ?_ ?_ (fun tk => ?_))); (first | exact goodI _ | rfl | exact goodSL _ | exact goodLL _ | (focus (simp [goodL, oneA, AV.cells]; done)) | skip))
    | ((with_reducible refine (act_append 2 rfl sl22 sz3 by3 zr3 rfl ?_ ?_ ?_ (fun tk => ?_))); (first | exact goodI _ | rfl | exact goodSL _ | exact goodLL _ | (focus (simp [goodL, oneA, AV.cells]; done)) | skip))
    | (with_reducible refine callD_mk (alive3 ?_))
    | (with_reducible refine callD_mk (lRead ?_ ?_))
    | (with_reducible refine callD_mk (rLines ?_ ?_))
    | (with_reducible refine callD_mk (num3 ?_))
    | (with_reducible refine callD_mk (sameLines ?_ ?_ ?_))
    | (with_reducible refine nilTC_pos (by simp; omega) ?_)
    | (with_reducible refine nilTC_split (fun h => ?_) (fun h bn => ?_) <;> (try simp only [List.length_map] at h))
    | (with_reducible refine grd_cases (fun h => ?_) (fun h => ?_) <;> (try simp only [h]) <;> (try simp only [beq_iff_eq, beq_eq_false_iff_ne, bne_iff_ne, bne_eq_false_iff_eq, decide_eq_true_eq, decide_eq_false_iff_not, Bool.not_eq_true', Bool.not_eq_false', Bool.not_true, Bool.not_false, Bool.not_eq_eq_eq_not, ne_eq, Int.not_lt, Int.not_le, gt_iff_lt, ge_iff_le, Decidable.not_not] at h))
    | (with_reducible refine condC_split (fun h => ?_) (fun h => ?_) <;> (try simp only [h]) <;> (try simp only [beq_iff_eq, beq_eq_false_iff_ne, bne_iff_ne, bne_eq_false_iff_eq, decide_eq_true_eq, decide_eq_false_iff_not, Bool.not_eq_true', Bool.not_eq_false', Bool.not_true, Bool.not_false, Bool.not_eq_eq_eq_not, ne_eq, Int.not_lt, Int.not_le, gt_iff_lt, ge_iff_le, Decidable.not_not] at h))
    | omega | (simp only [List.length_append, List.length_cons, List.length_drop, List.length_take, List.length_map]; omega) | (refine maxLen_ok ?_; (first | omega | (simp only [List.length_append, List.length_map, List.length_cons, List.length_nil, List.length_drop, List.length_take]; omega))))
  all_goals first
    | exact leafLaw rfl
    | (have := readR_len l; omega)
    | (intro x hx; have := readR_each l x hx; omega)

end Go.Proofs.Ythepmgdoophoaaa
