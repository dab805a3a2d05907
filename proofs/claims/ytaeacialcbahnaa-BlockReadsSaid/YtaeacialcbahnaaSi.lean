/-
  Walks: chapter 8, single quotes.
-/
import Derived.Test.YtaeacialcbahnaaFe
import Derived.Test.YtaeacialcbahnaaFd
import Derived.Test.YtaeacialcbahnaaCh
import Derived.Test.YtaeacialcbahnaaSv
namespace Go.Proofs.Ytaeacialcbahnaa
open Go.Abs
set_option linter.unusedVariables false
set_option linter.unusedSimpArgs false
-- hb: 4000000
variable {κ : Ctx} {σ : List Res} {K : Ret → List Res → Prop} {o o' : Option (Option (Nat × Nat))}

-- single.End
-- (no function single.End in this program)
-- marginaliaref1.SingleEnd
-- (no function marginaliaref1.SingleEnd in this program)
-- single.undoubled
-- (no function single.undoubled in this program)
-- single.Read
-- (no function single.Read in this program)
-- single.May
-- (no function single.May in this program)
-- marginaliaref1.SingleMay
set_option maxHeartbeats 4000000 in
theorem rMay {l : List Int} (hl : l.length ≤ 1000000000) (hK : K (.ret (B (mayI l))) σ) : ACallF κ Try.prog 65 [SI o l] σ K := by
  refine ACallF.dropL (ACallF_intro Try.func65 rfl ?_)
  simp only [Try.ntmps65]
  repeat' (first
    | simp only [WL, intF, strF, List.toList_toArray, List.set_cons_succ, List.set_cons_zero, List.getD_cons_succ, List.getD_cons_zero, List.getElem?_cons_succ, List.getElem?_cons_zero, List.length_cons, List.length_nil, List.replicate_succ, List.replicate_zero, List.cons_append, List.nil_append, List.append_nil, List.map_cons, List.map_nil, Option.bind_some, Option.map_some, Option.map_none, List.drop_succ_cons, List.drop_zero, List.take_succ_cons, List.take_zero, ← List.map_take, ← List.map_drop, List.take_length, Int.reduceToNat, ne_eq, reduceCtorEq, not_false_eq_true, Nat.reduceAdd, Nat.reduceSub, Nat.reduceLT, Nat.reduceLeDiff, Nat.reduceEqDiff, Nat.zero_lt_succ, Bool.not_true, Bool.not_false, beq_self_eq_true, true_and, and_true, Option.isSome_some, Option.isSome_none, reduceIte, Int.toNat_natCast, Bool.false_eq_true, List.length_map, Nat.le_refl, Option.some.injEq, exists_eq_left', Nat.add_right_cancel_iff, List.take_nil, List.drop_nil, T3, T4, T24, cok35, Try.results65]
    | (simp (disch := first | omega | (simp only [List.length_append, List.length_map, List.length_cons, List.length_nil, List.length_drop, List.length_take, List.length_replicate]; omega)) only [wrap_id, getI])
    | (with_reducible refine And.intro (by first | omega | exact ⟨_, rfl⟩ | (focus (simp; done)) | (simp; omega)) ?_)
    | ((with_reducible apply wk_load (ty := 3) (ha := ag3) 0); rfl; rfl)
    | ((with_reducible apply wk_load (ty := 3) (ha := ag3) 1); rfl; rfl)
    | (with_reducible refine callD_mk (rPrint ?_))
    | (with_reducible refine nilTC_pos (by simp; omega) ?_)
    | (with_reducible refine nilTC_split (fun h => ?_) (fun h bn => ?_) <;> (try simp only [List.length_map] at h))
    | (with_reducible refine grd_cases (fun h => ?_) (fun h => ?_) <;> (try simp only [h]) <;> (try simp only [beq_iff_eq, beq_eq_false_iff_ne, bne_iff_ne, bne_eq_false_iff_eq, decide_eq_true_eq, decide_eq_false_iff_not, Bool.not_eq_true', Bool.not_eq_false', Bool.not_true, Bool.not_false, Bool.not_eq_eq_eq_not, ne_eq, Int.not_lt, Int.not_le, gt_iff_lt, ge_iff_le, Decidable.not_not] at h))
    | (with_reducible refine condC_split (fun h => ?_) (fun h => ?_) <;> (try simp only [h]) <;> (try simp only [beq_iff_eq, beq_eq_false_iff_ne, bne_iff_ne, bne_eq_false_iff_eq, decide_eq_true_eq, decide_eq_false_iff_not, Bool.not_eq_true', Bool.not_eq_false', Bool.not_true, Bool.not_false, Bool.not_eq_eq_eq_not, ne_eq, Int.not_lt, Int.not_le, gt_iff_lt, ge_iff_le, Decidable.not_not] at h))
    | omega | (simp only [List.length_append, List.length_map, List.length_cons, List.length_nil, List.length_drop, List.length_take, List.length_replicate]; omega))
  refine loop_by (fun k : Nat => ⟨(SI o l :: .any :: .any :: I k :: .any :: .any :: .any :: .any :: .any :: .any :: .any :: .any :: .any :: .any :: .any :: .any :: .any :: .any :: .any :: .any :: .any :: .any :: .any :: .any :: .any :: .any :: .any :: .any :: .any :: .any :: .any :: .any :: .any :: .any :: .any :: .any :: .any :: []), σ, true, []⟩) (fun k => k ≤ l.length ∧ ∀ j, j < k → mayC (l.getD j 0) = true) (fun k => l.length - k) 0 (St_le_same (by repeat (first | exact trivial | refine ⟨le_rfl, ?_⟩ | refine ⟨le_any, ?_⟩ | refine ⟨le_ro, ?_⟩ | refine ⟨le_nil (by decide), ?_⟩ | refine ⟨le_wrap (by omega) (by omega) (by omega), ?_⟩ | refine ⟨le_int (by omega), ?_⟩ | refine ⟨le_eq (by simp), ?_⟩)) id) ⟨Nat.zero_le _, fun j h => by omega⟩ ?_
  rintro k ⟨hk, hb⟩
  repeat' (first
    | simp only [WL, intF, strF, List.toList_toArray, List.set_cons_succ, List.set_cons_zero, List.getD_cons_succ, List.getD_cons_zero, List.getElem?_cons_succ, List.getElem?_cons_zero, List.length_cons, List.length_nil, List.replicate_succ, List.replicate_zero, List.cons_append, List.nil_append, List.append_nil, List.map_cons, List.map_nil, Option.bind_some, Option.map_some, Option.map_none, List.drop_succ_cons, List.drop_zero, List.take_succ_cons, List.take_zero, ← List.map_take, ← List.map_drop, List.take_length, Int.reduceToNat, ne_eq, reduceCtorEq, not_false_eq_true, Nat.reduceAdd, Nat.reduceSub, Nat.reduceLT, Nat.reduceLeDiff, Nat.reduceEqDiff, Nat.zero_lt_succ, Bool.not_true, Bool.not_false, beq_self_eq_true, true_and, and_true, Option.isSome_some, Option.isSome_none, reduceIte, Int.toNat_natCast, Bool.false_eq_true, List.length_map, Nat.le_refl, Option.some.injEq, exists_eq_left', Nat.add_right_cancel_iff, List.take_nil, List.drop_nil, T3, T4, T24, cok35, Try.results65]
    | (simp (disch := first | omega | (simp only [List.length_append, List.length_map, List.length_cons, List.length_nil, List.length_drop, List.length_take, List.length_replicate]; omega)) only [wrap_id, getI])
    | (with_reducible refine And.intro (by first | omega | exact ⟨_, rfl⟩ | (focus (simp; done)) | (simp; omega)) ?_)
    | ((with_reducible apply wk_load (ty := 3) (ha := ag3) 0); rfl; rfl)
    | ((with_reducible apply wk_load (ty := 3) (ha := ag3) 1); rfl; rfl)
    | (with_reducible refine callD_mk (rPrint ?_))
    | (with_reducible refine nilTC_pos (by simp; omega) ?_)
    | (with_reducible refine nilTC_split (fun h => ?_) (fun h bn => ?_) <;> (try simp only [List.length_map] at h))
    | (with_reducible refine grd_cases (fun h => ?_) (fun h => ?_) <;> (try simp only [h]) <;> (try simp only [beq_iff_eq, beq_eq_false_iff_ne, bne_iff_ne, bne_eq_false_iff_eq, decide_eq_true_eq, decide_eq_false_iff_not, Bool.not_eq_true', Bool.not_eq_false', Bool.not_true, Bool.not_false, Bool.not_eq_eq_eq_not, ne_eq, Int.not_lt, Int.not_le, gt_iff_lt, ge_iff_le, Decidable.not_not] at h))
    | (with_reducible refine condC_split (fun h => ?_) (fun h => ?_) <;> (try simp only [h]) <;> (try simp only [beq_iff_eq, beq_eq_false_iff_ne, bne_iff_ne, bne_eq_false_iff_eq, decide_eq_true_eq, decide_eq_false_iff_not, Bool.not_eq_true', Bool.not_eq_false', Bool.not_true, Bool.not_false, Bool.not_eq_eq_eq_not, ne_eq, Int.not_lt, Int.not_le, gt_iff_lt, ge_iff_le, Decidable.not_not] at h))
    | omega | (simp only [List.length_append, List.length_map, List.length_cons, List.length_nil, List.length_drop, List.length_take, List.length_replicate]; omega))
  all_goals first
    | exact leafL sub_rfl (leT_eq (by rw [may_no (k := k) (by omega) (mayC_no (by first | exact .inl (by assumption) | exact .inr (.inl (by assumption)) | exact .inr (.inr (.inl (by assumption))) | exact .inr (.inr (.inr (by assumption)))))])) hK
    | exact leafL sub_rfl (leT_eq (by rw [may_yes (fun j hj => hb j (by omega))])) hK
    | exact ⟨k + 1, St_le_same (by repeat (first | exact trivial | refine ⟨le_rfl, ?_⟩ | refine ⟨le_any, ?_⟩ | refine ⟨le_ro, ?_⟩ | refine ⟨le_nil (by decide), ?_⟩ | refine ⟨le_wrap (by omega) (by omega) (by omega), ?_⟩ | refine ⟨le_int (by omega), ?_⟩ | refine ⟨le_eq (by simp), ?_⟩)) id, ⟨by omega, may_take (by omega) hb (mayC_yes (by assumption) (by assumption) (by assumption) (by assumption))⟩, by omega⟩

-- single.Write
-- (no function single.Write in this program)
-- marginaliaref1.SingleWrite
-- (no function marginaliaref1.SingleWrite in this program)
-- marginaliaref1.SingleRead
-- (no function marginaliaref1.SingleRead in this program)
