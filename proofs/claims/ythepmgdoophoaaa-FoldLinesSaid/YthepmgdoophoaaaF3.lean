/-
  The law FoldLines.
-/
import Derived.Test.YthepmgdoophoaaaF0
import Derived.Test.YthepmgdoophoaaaFg
import Derived.Test.YthepmgdoophoaaaLi
import Derived.Test.YthepmgdoophoaaaSq
namespace Go.Proofs.Ythepmgdoophoaaa
open Go.Abs
set_option linter.unusedVariables false
set_option linter.unusedSimpArgs false
-- hb: 4000000

-- marginalialaw6.FoldLines
set_option maxHeartbeats 4000000 in
theorem law_FoldLines (κ : Ctx) (l : List (List Int)) (hl : l.length ≤ maxLen ∧ ∀ t ∈ l, t.length ≤ maxLen ∧ ∀ a ∈ t, IntKind.i64.min ≤ a ∧ a ≤ IntKind.i64.max) : ACallF κ Try.prog 9 [.sl 1 none (l.map fun t => .sl 1 none (t.map fun n => I n))] [] (fun r _ => r = .ret (B true)) := by
  have hb : bigI 200 60 l = false → tot l ≤ 60 * 201 := bigI_tot
  have hlen := tot_len l
  refine ACallF.dropL (ACallF_intro Try.func9 rfl ?_)
  simp only [Try.ntmps9]
  repeat' (first
    | simp only [WL, intF, strF, List.toList_toArray, List.set_cons_succ, List.set_cons_zero, List.getD_cons_succ, List.getD_cons_zero, List.getElem?_cons_succ, List.getElem?_cons_zero, List.length_cons, List.length_nil, List.replicate_succ, List.replicate_zero, List.cons_append, List.nil_append, List.append_nil, List.map_cons, List.map_nil, Option.bind_some, Option.map_some, Option.map_none, List.drop_succ_cons, List.drop_zero, List.take_succ_cons, List.take_zero, ← List.map_take, ← List.map_drop, List.take_length, Int.reduceToNat, ne_eq, reduceCtorEq, not_false_eq_true, Nat.reduceAdd, Nat.reduceSub, Nat.reduceLT, Nat.reduceLeDiff, Nat.reduceEqDiff, Nat.zero_lt_succ, Bool.not_true, Bool.not_false, beq_self_eq_true, true_and, and_true, Option.isSome_some, Option.isSome_none, reduceIte, Int.toNat_natCast, Bool.false_eq_true, List.length_map, Nat.le_refl, Option.some.injEq, exists_eq_left', Nat.add_right_cancel_iff, List.take_nil, List.drop_nil, T3, T4, T22, T33, cok27, cok28, cok29, cok34, Try.results9]
    | (simp (disch := first | omega | (simp only [List.length_append, List.length_map, List.length_cons, List.length_nil, List.length_drop, List.length_take, List.length_replicate]; omega)) only [wrap_id, getI])
    | (with_reducible refine And.intro (by first | omega | exact ⟨_, rfl⟩ | (focus (simp; done)) | (simp; omega)) ?_)
    | ((with_reducible apply wk_load (ty := 3) (ha := ag3) 0); rfl; rfl)
    | ((with_reducible apply wk_load (ty := 3) (ha := ag3) 1); rfl; rfl)
    | ((with_reducible apply wk_load (ty := 22) (ha := ag22) 0); rfl; rfl)
    | ((with_reducible apply wk_load (ty := 22) (ha := ag22) 1); rfl; rfl)
    | ((with_reducible refine actC_mk (act_append_nil (sz := 1) (by decide) ?_)))
    | ((with_reducible refine actC_mk (act_append_src_nil (sz := 1) (by decide) ?_)))
    | ((with_reducible refine actC_mk (act_append 0 rfl sl22 sz3 by3 zr3 rfl ?_ ?_ ?_ (fun tk => ?_))); (first | exact goodI _ | rfl | exact goodSL _ | exact goodLL _ | (focus (simp [goodL, oneA, AV.cells]; done)) | skip))
    | ((with_reducible refine (act_append 0 rfl sl22 sz3 by3 zr3 rfl ?_ ?_ ?_ (fun tk => ?_))); (first | exact goodI _ | rfl | exact goodSL _ | exact goodLL _ | (focus (simp [goodL, oneA, AV.cells]; done)) | skip))
    | ((with_reducible refine actC_mk (act_append 1 rfl sl22 sz3 by3 zr3 rfl ?_ ?_ ?_ (fun tk => ?_))); (first | exact goodI _ | rfl | exact goodSL _ | exact goodLL _ | (focus (simp [goodL, oneA, AV.cells]; done)) | skip))
    | ((with_reducible refine (act_append 1 rfl sl22 sz3 by3 zr3 rfl ?_ ?_ ?_ (fun tk => ?_))); (first | exact goodI _ | rfl | exact goodSL _ | exact goodLL _ | (focus (simp [goodL, oneA, AV.cells]; done)) | skip))
    | ((with_reducible refine actC_mk (act_append 2 rfl sl22 sz3 by3 zr3 rfl ?_ ?_ ?_ (fun tk => ?_))); (first | exact goodI _ | rfl | exact goodSL _ | exact goodLL _ | (focus (simp [goodL, oneA, AV.cells]; done)) | skip))
    | ((with_reducible refine (act_append 2 rfl sl22 sz3 by3 zr3 rfl ?_ ?_ ?_ (fun tk => ?_))); (first | exact goodI _ | rfl | exact goodSL _ | exact goodLL _ | (focus (simp [goodL, oneA, AV.cells]; done)) | skip))
    | ((with_reducible refine wk_bslice sl22 sz3 zr3 (by decide) (by decide) (by decide) (by decide) rfl ?_ ?_ ?_); (first | exact goodI _ | rfl | exact goodSL _ | exact goodLL _ | (focus (simp [goodL, oneA, AV.cells]; done))); (all_goals first | (intro x hx; simp at hx; first | (subst hx; rfl) | (rcases hx with rfl | rfl <;> rfl) | (rcases hx with rfl | rfl | rfl <;> rfl) | (repeat (rcases hx with rfl | hx <;> try rfl))) | skip))
    | (with_reducible refine callD_mk (alive6 ?_))
    | (with_reducible refine callD_mk (big6 ?_ ?_))
    | (with_reducible refine callD_mk (sameInts ?_ ?_))
    | (with_reducible refine callD_mk (literal1 ?_ ?_))
    | (with_reducible refine nilTC_pos (by simp; omega) ?_)
    | (with_reducible refine nilTC_split (fun h => ?_) (fun h bn => ?_) <;> (try simp only [List.length_map] at h))
    | (with_reducible refine grd_cases (fun h => ?_) (fun h => ?_) <;> (try simp only [h]) <;> (try simp only [beq_iff_eq, beq_eq_false_iff_ne, bne_iff_ne, bne_eq_false_iff_eq, decide_eq_true_eq, decide_eq_false_iff_not, Bool.not_eq_true', Bool.not_eq_false', Bool.not_true, Bool.not_false, Bool.not_eq_eq_eq_not, ne_eq, Int.not_lt, Int.not_le, gt_iff_lt, ge_iff_le, Decidable.not_not] at h))
    | (with_reducible refine condC_split (fun h => ?_) (fun h => ?_) <;> (try simp only [h]) <;> (try simp only [beq_iff_eq, beq_eq_false_iff_ne, bne_iff_ne, bne_eq_false_iff_eq, decide_eq_true_eq, decide_eq_false_iff_not, Bool.not_eq_true', Bool.not_eq_false', Bool.not_true, Bool.not_false, Bool.not_eq_eq_eq_not, ne_eq, Int.not_lt, Int.not_le, gt_iff_lt, ge_iff_le, Decidable.not_not] at h))
    | omega | (simp only [List.length_append, List.length_map, List.length_cons, List.length_nil, List.length_drop, List.length_take, List.length_replicate]; omega) | (refine maxLen_ok ?_; (first | omega | (simp only [List.length_append, List.length_map, List.length_cons, List.length_nil, List.length_drop, List.length_take, List.length_replicate]; omega))))
  · exact leafLaw rfl
  have hb2 : tot l ≤ 60 * 201 := hb (by assumption)
  refine loop_by (fun x : Nat × Option (Nat × Nat) => ⟨(SSI none l :: .any :: .any :: B true :: B false :: SI (some x.2) (linesF (l.take x.1)) :: I x.1 :: .any :: .any :: .any :: .any :: .any :: .any :: .any :: .any :: .any :: .any :: .any :: .any :: .any :: .any :: .any :: .any :: .any :: .any :: .any :: .any :: .any :: .any :: .any :: .any :: .any :: .any :: .any :: .any :: .any :: .any :: .any :: .any :: .any :: .any :: .any :: .any :: .any :: .any :: .any :: .any :: .any :: .any :: .any :: .any :: .any :: []), [.tip x.2], true, []⟩) (fun x => x.1 ≤ l.length) (fun x => l.length - x.1) (0, none) (St_leW (by repeat (first | exact trivial | refine ⟨le_rfl, ?_⟩ | refine ⟨le_any, ?_⟩ | refine ⟨le_ro, ?_⟩ | refine ⟨le_nil (by decide), ?_⟩ | refine ⟨le_wrap (by omega) (by omega) (by omega), ?_⟩ | refine ⟨le_int (by omega), ?_⟩ | refine ⟨le_eq (by simp), ?_⟩)) ResW.void id) (Nat.zero_le _) ?_
  rintro ⟨i, tk⟩ h1
  dsimp only at h1 ⊢
  have h2 := tot_get (l := l) i
  have h3 : (linesF (l.take i)).length ≤ tot l := by rw [linesF_len]; exact tot_take l i
  have h4 : i < l.length → linesF (l.take (i + 1)) = linesF (l.take i) ++ l.getD i [] ++ [10] := fun h => by
    rw [List.take_succ_eq_append_getElem h, linesF_snoc]; simp [List.getD_eq_getElem?_getD, h]
  repeat' (first
    | simp only [WL, intF, strF, List.toList_toArray, List.set_cons_succ, List.set_cons_zero, List.getD_cons_succ, List.getD_cons_zero, List.getElem?_cons_succ, List.getElem?_cons_zero, List.length_cons, List.length_nil, List.replicate_succ, List.replicate_zero, List.cons_append, List.nil_append, List.append_nil, List.map_cons, List.map_nil, Option.bind_some, Option.map_some, Option.map_none, List.drop_succ_cons, List.drop_zero, List.take_succ_cons, List.take_zero, ← List.map_take, ← List.map_drop, List.take_length, Int.reduceToNat, ne_eq, reduceCtorEq, not_false_eq_true, Nat.reduceAdd, Nat.reduceSub, Nat.reduceLT, Nat.reduceLeDiff, Nat.reduceEqDiff, Nat.zero_lt_succ, Bool.not_true, Bool.not_false, beq_self_eq_true, true_and, and_true, Option.isSome_some, Option.isSome_none, reduceIte, Int.toNat_natCast, Bool.false_eq_true, List.length_map, Nat.le_refl, Option.some.injEq, exists_eq_left', Nat.add_right_cancel_iff, List.take_nil, List.drop_nil, T3, T4, T22, T33, cok27, cok28, cok29, cok34, Try.results9]
    | (simp (disch := first | omega | (simp only [List.length_append, List.length_map, List.length_cons, List.length_nil, List.length_drop, List.length_take, List.length_replicate]; omega)) only [wrap_id, getI])
    | (with_reducible refine And.intro (by first | omega | exact ⟨_, rfl⟩ | (focus (simp; done)) | (simp; omega)) ?_)
    | ((with_reducible apply wk_load (ty := 3) (ha := ag3) 0); rfl; rfl)
    | ((with_reducible apply wk_load (ty := 3) (ha := ag3) 1); rfl; rfl)
    | ((with_reducible apply wk_load (ty := 22) (ha := ag22) 0); rfl; rfl)
    | ((with_reducible apply wk_load (ty := 22) (ha := ag22) 1); rfl; rfl)
    | ((with_reducible refine actC_mk (act_append_nil (sz := 1) (by decide) ?_)))
    | ((with_reducible refine actC_mk (act_append_src_nil (sz := 1) (by decide) ?_)))
    | ((with_reducible refine actC_mk (act_append 0 rfl sl22 sz3 by3 zr3 rfl ?_ ?_ ?_ (fun tk => ?_))); (first | exact goodI _ | rfl | exact goodSL _ | exact goodLL _ | (focus (simp [goodL, oneA, AV.cells]; done)) | skip))
    | ((with_reducible refine (act_append 0 rfl sl22 sz3 by3 zr3 rfl ?_ ?_ ?_ (fun tk => ?_))); (first | exact goodI _ | rfl | exact goodSL _ | exact goodLL _ | (focus (simp [goodL, oneA, AV.cells]; done)) | skip))
    | ((with_reducible refine actC_mk (act_append 1 rfl sl22 sz3 by3 zr3 rfl ?_ ?_ ?_ (fun tk => ?_))); (first | exact goodI _ | rfl | exact goodSL _ | exact goodLL _ | (focus (simp [goodL, oneA, AV.cells]; done)) | skip))
    | ((with_reducible refine (act_append 1 rfl sl22 sz3 by3 zr3 rfl ?_ ?_ ?_ (fun tk => ?_))); (first | exact goodI _ | rfl | exact goodSL _ | exact goodLL _ | (focus (simp [goodL, oneA, AV.cells]; done)) | skip))
    | ((with_reducible refine actC_mk (act_append 2 rfl sl22 sz3 by3 zr3 rfl ?_ ?_ ?_ (fun tk => ?_))); (first | exact goodI _ | rfl | exact goodSL _ | exact goodLL _ | (focus (simp [goodL, oneA, AV.cells]; done)) | skip))
    | ((with_reducible refine (act_append 2 rfl sl22 sz3 by3 zr3 rfl ?_ ?_ ?_ (fun tk => ?_))); (first | exact goodI _ | rfl | exact goodSL _ | exact goodLL _ | (focus (simp [goodL, oneA, AV.cells]; done)) | skip))
    | ((with_reducible refine wk_bslice sl22 sz3 zr3 (by decide) (by decide) (by decide) (by decide) rfl ?_ ?_ ?_); (first | exact goodI _ | rfl | exact goodSL _ | exact goodLL _ | (focus (simp [goodL, oneA, AV.cells]; done))); (all_goals first | (intro x hx; simp at hx; first | (subst hx; rfl) | (rcases hx with rfl | rfl <;> rfl) | (rcases hx with rfl | rfl | rfl <;> rfl) | (repeat (rcases hx with rfl | hx <;> try rfl))) | skip))
    | (with_reducible refine callD_mk (alive6 ?_))
    | (with_reducible refine callD_mk (big6 ?_ ?_))
    | (with_reducible refine callD_mk (sameInts ?_ ?_))
    | (with_reducible refine callD_mk (literal1 ?_ ?_))
    | (with_reducible refine nilTC_pos (by simp; omega) ?_)
    | (with_reducible refine nilTC_split (fun h => ?_) (fun h bn => ?_) <;> (try simp only [List.length_map] at h))
    | (with_reducible refine grd_cases (fun h => ?_) (fun h => ?_) <;> (try simp only [h]) <;> (try simp only [beq_iff_eq, beq_eq_false_iff_ne, bne_iff_ne, bne_eq_false_iff_eq, decide_eq_true_eq, decide_eq_false_iff_not, Bool.not_eq_true', Bool.not_eq_false', Bool.not_true, Bool.not_false, Bool.not_eq_eq_eq_not, ne_eq, Int.not_lt, Int.not_le, gt_iff_lt, ge_iff_le, Decidable.not_not] at h))
    | (with_reducible refine condC_split (fun h => ?_) (fun h => ?_) <;> (try simp only [h]) <;> (try simp only [beq_iff_eq, beq_eq_false_iff_ne, bne_iff_ne, bne_eq_false_iff_eq, decide_eq_true_eq, decide_eq_false_iff_not, Bool.not_eq_true', Bool.not_eq_false', Bool.not_true, Bool.not_false, Bool.not_eq_eq_eq_not, ne_eq, Int.not_lt, Int.not_le, gt_iff_lt, ge_iff_le, Decidable.not_not] at h))
    | omega | (simp only [List.length_append, List.length_map, List.length_cons, List.length_nil, List.length_drop, List.length_take, List.length_replicate]; omega) | (refine maxLen_ok ?_; (first | omega | (simp only [List.length_append, List.length_map, List.length_cons, List.length_nil, List.length_drop, List.length_take, List.length_replicate]; omega))))
  · refine loop_by (fun k : Nat => ⟨(SSI none l :: .any :: .any :: B true :: B false :: SI (some tk) (linesF (l.take i)) :: I i :: I k :: .any :: .any :: .any :: .any :: .any :: .any :: .any :: .any :: .any :: .any :: .any :: .any :: .any :: .any :: .any :: .any :: .any :: .any :: .any :: .any :: .any :: .any :: .any :: .any :: .any :: .any :: .any :: .any :: .any :: .any :: .any :: .any :: .any :: .any :: .any :: .any :: .any :: .any :: .any :: .any :: .any :: .any :: .any :: .any :: []), [.tip tk], true, []⟩) (fun k => k ≤ (l.getD i []).length) (fun k => (l.getD i []).length - k) 0 (St_leW (by repeat (first | exact trivial | refine ⟨le_rfl, ?_⟩ | refine ⟨le_any, ?_⟩ | refine ⟨le_ro, ?_⟩ | refine ⟨le_nil (by decide), ?_⟩ | refine ⟨le_wrap (by omega) (by omega) (by omega), ?_⟩ | refine ⟨le_int (by omega), ?_⟩ | refine ⟨le_eq (by simp), ?_⟩)) (ResW.refl _) id) (Nat.zero_le _) ?_
    rintro k h5
    repeat' (first
      | simp only [WL, intF, strF, List.toList_toArray, List.set_cons_succ, List.set_cons_zero, List.getD_cons_succ, List.getD_cons_zero, List.getElem?_cons_succ, List.getElem?_cons_zero, List.length_cons, List.length_nil, List.replicate_succ, List.replicate_zero, List.cons_append, List.nil_append, List.append_nil, List.map_cons, List.map_nil, Option.bind_some, Option.map_some, Option.map_none, List.drop_succ_cons, List.drop_zero, List.take_succ_cons, List.take_zero, ← List.map_take, ← List.map_drop, List.take_length, Int.reduceToNat, ne_eq, reduceCtorEq, not_false_eq_true, Nat.reduceAdd, Nat.reduceSub, Nat.reduceLT, Nat.reduceLeDiff, Nat.reduceEqDiff, Nat.zero_lt_succ, Bool.not_true, Bool.not_false, beq_self_eq_true, true_and, and_true, Option.isSome_some, Option.isSome_none, reduceIte, Int.toNat_natCast, Bool.false_eq_true, List.length_map, Nat.le_refl, Option.some.injEq, exists_eq_left', Nat.add_right_cancel_iff, List.take_nil, List.drop_nil, T3, T4, T22, T33, cok27, cok28, cok29, cok34, Try.results9]
      | (simp (disch := first | omega | (simp only [List.length_append, List.length_map, List.length_cons, List.length_nil, List.length_drop, List.length_take, List.length_replicate]; omega)) only [wrap_id, getI, getS])
      | (with_reducible refine And.intro (by first | omega | exact ⟨_, rfl⟩ | (focus (simp; done)) | (simp; omega)) ?_)
      | ((with_reducible apply wk_load (ty := 3) (ha := ag3) 0); rfl; rfl)
      | ((with_reducible apply wk_load (ty := 3) (ha := ag3) 1); rfl; rfl)
      | ((with_reducible apply wk_load (ty := 22) (ha := ag22) 0); rfl; rfl)
      | ((with_reducible apply wk_load (ty := 22) (ha := ag22) 1); rfl; rfl)
      | ((with_reducible refine actC_mk (act_append_nil (sz := 1) (by decide) ?_)))
      | ((with_reducible refine actC_mk (act_append_src_nil (sz := 1) (by decide) ?_)))
      | ((with_reducible refine actC_mk (act_append 0 rfl sl22 sz3 by3 zr3 rfl ?_ ?_ ?_ (fun tk => ?_))); (first | exact goodI _ | rfl | exact goodSL _ | exact goodLL _ | (focus (simp [goodL, oneA, AV.cells]; done)) | skip))
      | ((with_reducible refine (act_append 0 rfl sl22 sz3 by3 zr3 rfl ?_ ?_ ?_ (fun tk => ?_))); (first | exact goodI _ | rfl | exact goodSL _ | exact goodLL _ | (focus (simp [goodL, oneA, AV.cells]; done)) | skip))
      | ((with_reducible refine actC_mk (act_append 1 rfl sl22 sz3 by3 zr3 rfl ?_ ?_ ?_ (fun tk => ?_))); (first | exact goodI _ | rfl | exact goodSL _ | exact goodLL _ | (focus (simp [goodL, oneA, AV.cells]; done)) | skip))
      | ((with_reducible refine (act_append 1 rfl sl22 sz3 by3 zr3 rfl ?_ ?_ ?_ (fun tk => ?_))); (first | exact goodI _ | rfl | exact goodSL _ | exact goodLL _ | (focus (simp [goodL, oneA, AV.cells]; done)) | skip))
      | ((with_reducible refine actC_mk (act_append 2 rfl sl22 sz3 by3 zr3 rfl ?_ ?_ ?_ (fun tk => ?_))); (first | exact goodI _ | rfl | exact goodSL _ | exact goodLL _ | (focus (simp [goodL, oneA, AV.cells]; done)) | skip))
      | ((with_reducible refine (act_append 2 rfl sl22 sz3 by3 zr3 rfl ?_ ?_ ?_ (fun tk => ?_))); (first | exact goodI _ | rfl | exact goodSL _ | exact goodLL _ | (focus (simp [goodL, oneA, AV.cells]; done)) | skip))
      | ((with_reducible refine wk_bslice sl22 sz3 zr3 (by decide) (by decide) (by decide) (by decide) rfl ?_ ?_ ?_); (first | exact goodI _ | rfl | exact goodSL _ | exact goodLL _ | (focus (simp [goodL, oneA, AV.cells]; done))); (all_goals first | (intro x hx; simp at hx; first | (subst hx; rfl) | (rcases hx with rfl | rfl <;> rfl) | (rcases hx with rfl | rfl | rfl <;> rfl) | (repeat (rcases hx with rfl | hx <;> try rfl))) | skip))
      | (with_reducible refine callD_mk (alive6 ?_))
      | (with_reducible refine callD_mk (big6 ?_ ?_))
      | (with_reducible refine callD_mk (sameInts ?_ ?_))
      | (with_reducible refine callD_mk (literal1 ?_ ?_))
      | (with_reducible refine nilTC_pos (by simp; omega) ?_)
      | (with_reducible refine nilTC_split (fun h => ?_) (fun h bn => ?_) <;> (try simp only [List.length_map] at h))
      | (with_reducible refine grd_cases (fun h => ?_) (fun h => ?_) <;> (try simp only [h]) <;> (try simp only [beq_iff_eq, beq_eq_false_iff_ne, bne_iff_ne, bne_eq_false_iff_eq, decide_eq_true_eq, decide_eq_false_iff_not, Bool.not_eq_true', Bool.not_eq_false', Bool.not_true, Bool.not_false, Bool.not_eq_eq_eq_not, ne_eq, Int.not_lt, Int.not_le, gt_iff_lt, ge_iff_le, Decidable.not_not] at h))
      | (with_reducible refine condC_split (fun h => ?_) (fun h => ?_) <;> (try simp only [h]) <;> (try simp only [beq_iff_eq, beq_eq_false_iff_ne, bne_iff_ne, bne_eq_false_iff_eq, decide_eq_true_eq, decide_eq_false_iff_not, Bool.not_eq_true', Bool.not_eq_false', Bool.not_true, Bool.not_false, Bool.not_eq_eq_eq_not, ne_eq, Int.not_lt, Int.not_le, gt_iff_lt, ge_iff_le, Decidable.not_not] at h))
      | omega | (simp only [List.length_append, List.length_map, List.length_cons, List.length_nil, List.length_drop, List.length_take, List.length_replicate]; omega) | (refine maxLen_ok ?_; (first | omega | (simp only [List.length_append, List.length_map, List.length_cons, List.length_nil, List.length_drop, List.length_take, List.length_replicate]; omega))))
    · exact leafLaw rfl
    · exact ⟨k + 1, St_leW (by repeat (first | exact trivial | refine ⟨le_rfl, ?_⟩ | refine ⟨le_any, ?_⟩ | refine ⟨le_ro, ?_⟩ | refine ⟨le_nil (by decide), ?_⟩ | refine ⟨le_wrap (by omega) (by omega) (by omega), ?_⟩ | refine ⟨le_int (by omega), ?_⟩ | refine ⟨le_eq (by simp), ?_⟩)) (ResW.refl _) id, by omega, by omega⟩
    · exact ⟨(i + 1, _), St_leW (by dsimp only; rw [h4 (by omega)]; repeat (first | exact trivial | refine ⟨le_rfl, ?_⟩ | refine ⟨le_any, ?_⟩ | refine ⟨le_ro, ?_⟩ | refine ⟨le_nil (by decide), ?_⟩ | refine ⟨le_wrap (by omega) (by omega) (by omega), ?_⟩ | refine ⟨le_int (by omega), ?_⟩ | refine ⟨le_eq (by simp), ?_⟩)) (ResW.refl _) id, by dsimp only; omega, by dsimp only; omega⟩
  · have := litF_len l 2; omega
  · exact leafLaw (decide_eq_true (by rw [litF_lines, List.take_of_length_le (by omega)]))
end Go.Proofs.Ythepmgdoophoaaa
