/-
  The law FoldBlocks.
-/
import Derived.Test.YthepmgdoophoaaaF0
import Derived.Test.YthepmgdoophoaaaFh
import Derived.Test.YthepmgdoophoaaaLi
namespace Go.Proofs.Ythepmgdoophoaaa
open Go.Abs
set_option linter.unusedVariables false
set_option linter.unusedSimpArgs false
-- hb: 4000000

-- marginalialaw6.FoldBlocks
set_option maxHeartbeats 4000000 in
theorem law_FoldBlocks (κ : Ctx) (l : List (List Int)) (hl : l.length ≤ maxLen ∧ ∀ t ∈ l, t.length ≤ maxLen ∧ ∀ a ∈ t, IntKind.i64.min ≤ a ∧ a ≤ IntKind.i64.max) (c : Int) (hc : IntKind.i64.min ≤ c ∧ c ≤ IntKind.i64.max) : ACallF κ Try.prog 13 [.sl 1 none (l.map fun t => .sl 1 none (t.map fun n => I n)), I c] [] (fun r _ => r = .ret (B true)) := by
  have hb : bigI 200 60 l = false → tot l ≤ 60 * 201 := bigI_tot
  have hf := litF_len l c
  have hg := blkF_len l c
  have hlen := tot_len l
  refine ACallF.dropL (ACallF_intro Try.func13 rfl ?_)
  simp only [Try.ntmps13]
  repeat' (first
    | simp only [WL, intF, strF, List.toList_toArray, List.set_cons_succ, List.set_cons_zero, List.getD_cons_succ, List.getD_cons_zero, List.getElem?_cons_succ, List.getElem?_cons_zero, List.length_cons, List.length_nil, List.replicate_succ, List.replicate_zero, List.cons_append, List.nil_append, List.append_nil, List.map_cons, List.map_nil, Option.bind_some, Option.map_some, Option.map_none, List.drop_succ_cons, List.drop_zero, List.take_succ_cons, List.take_zero, ← List.map_take, ← List.map_drop, List.take_length, Int.reduceToNat, ne_eq, reduceCtorEq, not_false_eq_true, Nat.reduceAdd, Nat.reduceSub, Nat.reduceLT, Nat.reduceLeDiff, Nat.reduceEqDiff, Nat.zero_lt_succ, Bool.not_true, Bool.not_false, beq_self_eq_true, true_and, and_true, Option.isSome_some, Option.isSome_none, reduceIte, Int.toNat_natCast, Bool.false_eq_true, List.length_map, Nat.le_refl, Option.some.injEq, exists_eq_left', Nat.add_right_cancel_iff, List.take_nil, List.drop_nil, T3, T4, T22, T33, cok27, cok28, cok29, cok34, cok38, cok39, cok40, Try.results13]
    | (simp (disch := first | omega | (simp only [List.length_append, List.length_map, List.length_cons, List.length_nil, List.length_drop, List.length_take, List.length_replicate]; omega)) only [wrap_id, getI])
    | (with_reducible refine And.intro (by first | omega | exact ⟨_, rfl⟩ | (focus (simp; done)) | (simp; omega)) ?_)
    | (with_reducible refine callD_mk (alive6 ?_))
    | (with_reducible refine callD_mk (big6 ?_ ?_))
    | (with_reducible refine callD_mk (sameInts ?_ ?_))
    | (with_reducible refine callD_mk (literal1 ?_ ?_))
    | (with_reducible refine callD_mk (block1 ?_ ?_))
    | (with_reducible refine callD_mk (rLiteral ?_ ?_))
    | (with_reducible refine callD_mk (rBlock ?_ ?_))
    | (with_reducible refine grd_cases (fun h => ?_) (fun h => ?_) <;> (try simp only [h]) <;> (try simp only [beq_iff_eq, beq_eq_false_iff_ne, bne_iff_ne, bne_eq_false_iff_eq, decide_eq_true_eq, decide_eq_false_iff_not, Bool.not_eq_true', Bool.not_eq_false', Bool.not_true, Bool.not_false, Bool.not_eq_eq_eq_not, ne_eq, Int.not_lt, Int.not_le, gt_iff_lt, ge_iff_le, Decidable.not_not] at h))
    | (with_reducible refine condC_split (fun h => ?_) (fun h => ?_) <;> (try simp only [h]) <;> (try simp only [beq_iff_eq, beq_eq_false_iff_ne, bne_iff_ne, bne_eq_false_iff_eq, decide_eq_true_eq, decide_eq_false_iff_not, Bool.not_eq_true', Bool.not_eq_false', Bool.not_true, Bool.not_false, Bool.not_eq_eq_eq_not, ne_eq, Int.not_lt, Int.not_le, gt_iff_lt, ge_iff_le, Decidable.not_not] at h))
    | omega | (simp only [List.length_append, List.length_map, List.length_cons, List.length_nil, List.length_drop, List.length_take, List.length_replicate]; omega))
  all_goals first
    | exact leafLaw rfl
    | exact absurd trivial (by assumption)
    | (have := hb (by assumption); omega)
end Go.Proofs.Ythepmgdoophoaaa
