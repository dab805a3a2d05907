/-
  Walks: chapter 6, blanks and lines that are folded.
-/
import Derived.Test.YthepmgdoophoaaaSh
import Derived.Test.YthepmgdoophoaaaSf
namespace Go.Proofs.Ythepmgdoophoaaa
open Go.Abs
set_option linter.unusedVariables false
set_option linter.unusedSimpArgs false
-- hb: 4000000
variable {κ : Ctx} {σ : List Res} {K : Ret → List Res → Prop} {o o' : Option (Option (Nat × Nat))}

-- fold.front
set_option maxHeartbeats 4000000 in
theorem front {l : List Int} (hl : l.length ≤ 1000000000) (hK : K (.ret (SI none (l.dropWhile blankI))) σ) : ACallF κ Try.prog 70 [SI o l] σ K := by
  refine ACallF.dropL (ACallF_intro Try.func70 rfl ?_)
  simp only [Try.ntmps70]
  repeat' (first
    | simp only [WL, intF, strF, List.toList_toArray, List.set_cons_succ, List.set_cons_zero, List.getD_cons_succ, List.getD_cons_zero, List.getElem?_cons_succ, List.getElem?_cons_zero, List.length_cons, List.length_nil, List.replicate_succ, List.replicate_zero, List.cons_append, List.nil_append, List.append_nil, List.map_cons, List.map_nil, Option.bind_some, Option.map_some, Option.map_none, List.drop_succ_cons, List.drop_zero, List.take_succ_cons, List.take_zero, ← List.map_take, ← List.map_drop, List.take_length, Int.reduceToNat, ne_eq, reduceCtorEq, not_false_eq_true, Nat.reduceAdd, Nat.reduceSub, Nat.reduceLT, Nat.reduceLeDiff, Nat.reduceEqDiff, Nat.zero_lt_succ, Bool.not_true, Bool.not_false, beq_self_eq_true, true_and, and_true, Option.isSome_some, Option.isSome_none, reduceIte, Int.toNat_natCast, Bool.false_eq_true, List.length_map, Nat.le_refl, Option.some.injEq, exists_eq_left', Nat.add_right_cancel_iff, List.take_nil, List.drop_nil, T3, T4, T22, cok50, Try.results70]
    | (simp (disch := first | omega | (simp only [List.length_append, List.length_map, List.length_cons, List.length_nil, List.length_drop, List.length_take, List.length_replicate]; omega)) only [wrap_id, getI])
    | (with_reducible refine And.intro (by first | omega | exact ⟨_, rfl⟩ | (focus (simp; done)) | (simp; omega)) ?_)
    | ((with_reducible apply wk_load (ty := 3) (ha := ag3) 0); rfl; rfl)
    | ((with_reducible apply wk_load (ty := 3) (ha := ag3) 1); rfl; rfl)
    | (with_reducible refine callD_mk (Blank ?_))
    | (with_reducible refine nilTC_pos (by simp; omega) ?_)
    | (with_reducible refine nilTC_split (fun h => ?_) (fun h bn => ?_) <;> (try simp only [List.length_map] at h))
    | (with_reducible refine grd_cases (fun h => ?_) (fun h => ?_) <;> (try simp only [h]) <;> (try simp only [beq_iff_eq, beq_eq_false_iff_ne, bne_iff_ne, bne_eq_false_iff_eq, decide_eq_true_eq, decide_eq_false_iff_not, Bool.not_eq_true', Bool.not_eq_false', Bool.not_true, Bool.not_false, Bool.not_eq_eq_eq_not, ne_eq, Int.not_lt, Int.not_le, gt_iff_lt, ge_iff_le, Decidable.not_not] at h))
    | (with_reducible refine condC_split (fun h => ?_) (fun h => ?_) <;> (try simp only [h]) <;> (try simp only [beq_iff_eq, beq_eq_false_iff_ne, bne_iff_ne, bne_eq_false_iff_eq, decide_eq_true_eq, decide_eq_false_iff_not, Bool.not_eq_true', Bool.not_eq_false', Bool.not_true, Bool.not_false, Bool.not_eq_eq_eq_not, ne_eq, Int.not_lt, Int.not_le, gt_iff_lt, ge_iff_le, Decidable.not_not] at h))
    | omega | (simp only [List.length_append, List.length_map, List.length_cons, List.length_nil, List.length_drop, List.length_take, List.length_replicate]; omega))
  refine loop_by (fun x : Option (Option (Nat × Nat)) × List Int => ⟨(SI x.1 x.2 :: .any :: .any :: .any :: .any :: .any :: .any :: .any :: .any :: .any :: .any :: .any :: .any :: .any :: .any :: []), σ, true, []⟩) (fun x => x.2.dropWhile blankI = l.dropWhile blankI ∧ x.2.length ≤ l.length) (fun x => x.2.length) (o, l) (St_le_same (by repeat (first | exact trivial | refine ⟨le_rfl, ?_⟩ | refine ⟨le_any, ?_⟩ | refine ⟨le_ro, ?_⟩ | refine ⟨le_nil (by decide), ?_⟩ | refine ⟨le_wrap (by omega) (by omega) (by omega), ?_⟩ | refine ⟨le_int (by omega), ?_⟩ | refine ⟨le_eq (by simp), ?_⟩)) id) ⟨rfl, Nat.le_refl _⟩ ?_
  rintro ⟨o', l'⟩ ⟨h1, h2⟩
  dsimp only at h1 h2 ⊢
  repeat' (first
    | simp only [WL, intF, strF, List.toList_toArray, List.set_cons_succ, List.set_cons_zero, List.getD_cons_succ, List.getD_cons_zero, List.getElem?_cons_succ, List.getElem?_cons_zero, List.length_cons, List.length_nil, List.replicate_succ, List.replicate_zero, List.cons_append, List.nil_append, List.append_nil, List.map_cons, List.map_nil, Option.bind_some, Option.map_some, Option.map_none, List.drop_succ_cons, List.drop_zero, List.take_succ_cons, List.take_zero, ← List.map_take, ← List.map_drop, List.take_length, Int.reduceToNat, ne_eq, reduceCtorEq, not_false_eq_true, Nat.reduceAdd, Nat.reduceSub, Nat.reduceLT, Nat.reduceLeDiff, Nat.reduceEqDiff, Nat.zero_lt_succ, Bool.not_true, Bool.not_false, beq_self_eq_true, true_and, and_true, Option.isSome_some, Option.isSome_none, reduceIte, Int.toNat_natCast, Bool.false_eq_true, List.length_map, Nat.le_refl, Option.some.injEq, exists_eq_left', Nat.add_right_cancel_iff, List.take_nil, List.drop_nil, T3, T4, T22, cok50, Try.results70]
    | (simp (disch := first | omega | (simp only [List.length_append, List.length_map, List.length_cons, List.length_nil, List.length_drop, List.length_take, List.length_replicate]; omega)) only [wrap_id, getI])
    | (with_reducible refine And.intro (by first | omega | exact ⟨_, rfl⟩ | (focus (simp; done)) | (simp; omega)) ?_)
    | ((with_reducible apply wk_load (ty := 3) (ha := ag3) 0); rfl; rfl)
    | ((with_reducible apply wk_load (ty := 3) (ha := ag3) 1); rfl; rfl)
    | (with_reducible refine callD_mk (Blank ?_))
    | (with_reducible refine nilTC_pos (by simp; omega) ?_)
    | (with_reducible refine nilTC_split (fun h => ?_) (fun h bn => ?_) <;> (try simp only [List.length_map] at h))
    | (with_reducible refine grd_cases (fun h => ?_) (fun h => ?_) <;> (try simp only [h]) <;> (try simp only [beq_iff_eq, beq_eq_false_iff_ne, bne_iff_ne, bne_eq_false_iff_eq, decide_eq_true_eq, decide_eq_false_iff_not, Bool.not_eq_true', Bool.not_eq_false', Bool.not_true, Bool.not_false, Bool.not_eq_eq_eq_not, ne_eq, Int.not_lt, Int.not_le, gt_iff_lt, ge_iff_le, Decidable.not_not] at h))
    | (with_reducible refine condC_split (fun h => ?_) (fun h => ?_) <;> (try simp only [h]) <;> (try simp only [beq_iff_eq, beq_eq_false_iff_ne, bne_iff_ne, bne_eq_false_iff_eq, decide_eq_true_eq, decide_eq_false_iff_not, Bool.not_eq_true', Bool.not_eq_false', Bool.not_true, Bool.not_false, Bool.not_eq_eq_eq_not, ne_eq, Int.not_lt, Int.not_le, gt_iff_lt, ge_iff_le, Decidable.not_not] at h))
    | omega | (simp only [List.length_append, List.length_map, List.length_cons, List.length_nil, List.length_drop, List.length_take, List.length_replicate]; omega))
  · refine ⟨(none, l'.drop 1), St_le_same (by repeat (first | exact trivial | refine ⟨le_rfl, ?_⟩ | refine ⟨le_any, ?_⟩ | refine ⟨le_ro, ?_⟩ | refine ⟨le_nil (by decide), ?_⟩ | refine ⟨le_wrap (by omega) (by omega) (by omega), ?_⟩ | refine ⟨le_int (by omega), ?_⟩ | refine ⟨le_eq (by simp), ?_⟩)) id, ⟨?_, ?_⟩, ?_⟩
    · rw [← h1]; exact (dw_step (by omega) h).symm
    · simp; omega
    · simp; omega
  · exact leafL sub_rfl (leT_le (by rw [← h1, dw_stop (by omega) h]; exact le_ro)) hK
  · exact leafL sub_rfl (leT_le (by rw [← h1, List.eq_nil_of_length_eq_zero (l := l') (by omega)]; exact le_ro)) hK

-- fold.back
set_option maxHeartbeats 4000000 in
theorem back {l : List Int} (hl : l.length ≤ 1000000000) (hK : K (.ret (SI none (backI l))) σ) : ACallF κ Try.prog 71 [SI o l] σ K := by
  refine ACallF.dropL (ACallF_intro Try.func71 rfl ?_)
  simp only [Try.ntmps71]
  repeat' (first
    | simp only [WL, intF, strF, List.toList_toArray, List.set_cons_succ, List.set_cons_zero, List.getD_cons_succ, List.getD_cons_zero, List.getElem?_cons_succ, List.getElem?_cons_zero, List.length_cons, List.length_nil, List.replicate_succ, List.replicate_zero, List.cons_append, List.nil_append, List.append_nil, List.map_cons, List.map_nil, Option.bind_some, Option.map_some, Option.map_none, List.drop_succ_cons, List.drop_zero, List.take_succ_cons, List.take_zero, ← List.map_take, ← List.map_drop, List.take_length, Int.reduceToNat, ne_eq, reduceCtorEq, not_false_eq_true, Nat.reduceAdd, Nat.reduceSub, Nat.reduceLT, Nat.reduceLeDiff, Nat.reduceEqDiff, Nat.zero_lt_succ, Bool.not_true, Bool.not_false, beq_self_eq_true, true_and, and_true, Option.isSome_some, Option.isSome_none, reduceIte, Int.toNat_natCast, Bool.false_eq_true, List.length_map, Nat.le_refl, Option.some.injEq, exists_eq_left', Nat.add_right_cancel_iff, List.take_nil, List.drop_nil, T3, T4, T22, cok50, Try.results71]
    | (simp (disch := first | omega | (simp only [List.length_append, List.length_map, List.length_cons, List.length_nil, List.length_drop, List.length_take, List.length_replicate]; omega)) only [wrap_id, getI])
    | (with_reducible refine And.intro (by first | omega | exact ⟨_, rfl⟩ | (focus (simp; done)) | (simp; omega)) ?_)
    | ((with_reducible apply wk_load (ty := 3) (ha := ag3) 0); rfl; rfl)
    | ((with_reducible apply wk_load (ty := 3) (ha := ag3) 1); rfl; rfl)
    | (with_reducible refine callD_mk (Blank ?_))
    | (with_reducible refine nilTC_pos (by simp; omega) ?_)
    | (with_reducible refine nilTC_split (fun h => ?_) (fun h bn => ?_) <;> (try simp only [List.length_map] at h))
    | (with_reducible refine grd_cases (fun h => ?_) (fun h => ?_) <;> (try simp only [h]) <;> (try simp only [beq_iff_eq, beq_eq_false_iff_ne, bne_iff_ne, bne_eq_false_iff_eq, decide_eq_true_eq, decide_eq_false_iff_not, Bool.not_eq_true', Bool.not_eq_false', Bool.not_true, Bool.not_false, Bool.not_eq_eq_eq_not, ne_eq, Int.not_lt, Int.not_le, gt_iff_lt, ge_iff_le, Decidable.not_not] at h))
    | (with_reducible refine condC_split (fun h => ?_) (fun h => ?_) <;> (try simp only [h]) <;> (try simp only [beq_iff_eq, beq_eq_false_iff_ne, bne_iff_ne, bne_eq_false_iff_eq, decide_eq_true_eq, decide_eq_false_iff_not, Bool.not_eq_true', Bool.not_eq_false', Bool.not_true, Bool.not_false, Bool.not_eq_eq_eq_not, ne_eq, Int.not_lt, Int.not_le, gt_iff_lt, ge_iff_le, Decidable.not_not] at h))
    | omega | (simp only [List.length_append, List.length_map, List.length_cons, List.length_nil, List.length_drop, List.length_take, List.length_replicate]; omega))
  refine loop_by (fun x : Option (Option (Nat × Nat)) × List Int => ⟨(SI x.1 x.2 :: .any :: .any :: .any :: .any :: .any :: .any :: .any :: .any :: .any :: .any :: .any :: .any :: .any :: .any :: .any :: .any :: .any :: .any :: .any :: .any :: []), σ, true, []⟩) (fun x => backI x.2 = backI l ∧ x.2.length ≤ l.length) (fun x => x.2.length) (o, l) (St_le_same (by repeat (first | exact trivial | refine ⟨le_rfl, ?_⟩ | refine ⟨le_any, ?_⟩ | refine ⟨le_ro, ?_⟩ | refine ⟨le_nil (by decide), ?_⟩ | refine ⟨le_wrap (by omega) (by omega) (by omega), ?_⟩ | refine ⟨le_int (by omega), ?_⟩ | refine ⟨le_eq (by simp), ?_⟩)) id) ⟨rfl, Nat.le_refl _⟩ ?_
  rintro ⟨o', l'⟩ ⟨h1, h2⟩
  dsimp only at h1 h2 ⊢
  have e1 : 0 < l'.length → ((l'.length : Int) - 1).toNat = l'.length - 1 := fun _ => by omega
  repeat' (first
    | simp only [WL, intF, strF, List.toList_toArray, List.set_cons_succ, List.set_cons_zero, List.getD_cons_succ, List.getD_cons_zero, List.getElem?_cons_succ, List.getElem?_cons_zero, List.length_cons, List.length_nil, List.replicate_succ, List.replicate_zero, List.cons_append, List.nil_append, List.append_nil, List.map_cons, List.map_nil, Option.bind_some, Option.map_some, Option.map_none, List.drop_succ_cons, List.drop_zero, List.take_succ_cons, List.take_zero, ← List.map_take, ← List.map_drop, List.take_length, Int.reduceToNat, ne_eq, reduceCtorEq, not_false_eq_true, Nat.reduceAdd, Nat.reduceSub, Nat.reduceLT, Nat.reduceLeDiff, Nat.reduceEqDiff, Nat.zero_lt_succ, Bool.not_true, Bool.not_false, beq_self_eq_true, true_and, and_true, Option.isSome_some, Option.isSome_none, reduceIte, Int.toNat_natCast, Bool.false_eq_true, List.length_map, Nat.le_refl, Option.some.injEq, exists_eq_left', Nat.add_right_cancel_iff, List.take_nil, List.drop_nil, T3, T4, T22, cok50, Try.results71]
    | (simp (disch := first | omega | (simp only [List.length_append, List.length_map, List.length_cons, List.length_nil, List.length_drop, List.length_take, List.length_replicate]; omega)) only [wrap_id, getI])
    | (with_reducible refine And.intro (by first | omega | exact ⟨_, rfl⟩ | (focus (simp; done)) | (simp; omega)) ?_)
    | ((with_reducible apply wk_load (ty := 3) (ha := ag3) 0); rfl; rfl)
    | ((with_reducible apply wk_load (ty := 3) (ha := ag3) 1); rfl; rfl)
    | (with_reducible refine callD_mk (Blank ?_))
    | (with_reducible refine nilTC_pos (by simp; omega) ?_)
    | (with_reducible refine nilTC_split (fun h => ?_) (fun h bn => ?_) <;> (try simp only [List.length_map] at h))
    | (with_reducible refine grd_cases (fun h => ?_) (fun h => ?_) <;> (try simp only [h]) <;> (try simp only [beq_iff_eq, beq_eq_false_iff_ne, bne_iff_ne, bne_eq_false_iff_eq, decide_eq_true_eq, decide_eq_false_iff_not, Bool.not_eq_true', Bool.not_eq_false', Bool.not_true, Bool.not_false, Bool.not_eq_eq_eq_not, ne_eq, Int.not_lt, Int.not_le, gt_iff_lt, ge_iff_le, Decidable.not_not] at h))
    | (with_reducible refine condC_split (fun h => ?_) (fun h => ?_) <;> (try simp only [h]) <;> (try simp only [beq_iff_eq, beq_eq_false_iff_ne, bne_iff_ne, bne_eq_false_iff_eq, decide_eq_true_eq, decide_eq_false_iff_not, Bool.not_eq_true', Bool.not_eq_false', Bool.not_true, Bool.not_false, Bool.not_eq_eq_eq_not, ne_eq, Int.not_lt, Int.not_le, gt_iff_lt, ge_iff_le, Decidable.not_not] at h))
    | omega | (simp only [List.length_append, List.length_map, List.length_cons, List.length_nil, List.length_drop, List.length_take, List.length_replicate]; omega))
  · exact ⟨(none, l'.take (l'.length - 1)), St_le_same (by simp only [e1 (by omega)]; repeat (first | exact trivial | refine ⟨le_rfl, ?_⟩ | refine ⟨le_any, ?_⟩ | refine ⟨le_ro, ?_⟩ | refine ⟨le_nil (by decide), ?_⟩ | refine ⟨le_wrap (by omega) (by omega) (by omega), ?_⟩ | refine ⟨le_int (by omega), ?_⟩ | refine ⟨le_eq (by simp), ?_⟩)) id, ⟨by rw [← h1]; exact (backI_step (by omega) (by rw [← e1 (by omega)]; exact h)).symm, by simp; omega⟩, by simp; omega⟩
  · exact leafL sub_rfl (leT_le (by rw [← h1, backI_stop (by omega) (by rw [← e1 (by omega)]; exact h)]; exact le_ro)) hK
  · obtain rfl : l' = [] := List.eq_nil_of_length_eq_zero (by omega)
    exact leafL sub_rfl (leT_le (by rw [← h1]; exact le_ro)) hK

-- fold.between
set_option maxHeartbeats 4000000 in
theorem between1 {e : Nat} (he : e ≤ 1000000000) (hK : K (.ret (SI none (between e))) σ) : ACallF κ Try.prog 55 [I e] σ K := by
  refine ACallF.dropL (ACallF_intro Try.func55 rfl ?_)
  simp only [Try.ntmps55]
  repeat' (first
    | simp only [WL, intF, strF, List.toList_toArray, List.set_cons_succ, List.set_cons_zero, List.getD_cons_succ, List.getD_cons_zero, List.getElem?_cons_succ, List.getElem?_cons_zero, List.length_cons, List.length_nil, List.replicate_succ, List.replicate_zero, List.cons_append, List.nil_append, List.append_nil, List.map_cons, List.map_nil, Option.bind_some, Option.map_some, Option.map_none, List.drop_succ_cons, List.drop_zero, List.take_succ_cons, List.take_zero, ← List.map_take, ← List.map_drop, List.take_length, Int.reduceToNat, ne_eq, reduceCtorEq, not_false_eq_true, Nat.reduceAdd, Nat.reduceSub, Nat.reduceLT, Nat.reduceLeDiff, Nat.reduceEqDiff, Nat.zero_lt_succ, Bool.not_true, Bool.not_false, beq_self_eq_true, true_and, and_true, Option.isSome_some, Option.isSome_none, reduceIte, Int.toNat_natCast, Bool.false_eq_true, List.length_map, Nat.le_refl, Option.some.injEq, exists_eq_left', Nat.add_right_cancel_iff, List.take_nil, List.drop_nil, T3, T4, T22, cok61, Try.results55]
    | (simp (disch := first | omega | (simp only [List.length_append, List.length_map, List.length_cons, List.length_nil, List.length_drop, List.length_take, List.length_replicate]; omega)) only [wrap_id, getI])
    | (with_reducible refine And.intro (by first | omega | exact ⟨_, rfl⟩ | (focus (simp; done)) | (simp; omega)) ?_)
    | ((with_reducible refine wk_bslice sl22 sz3 zr3 (by decide) (by decide) (by decide) (by decide) rfl ?_ ?_ ?_); (first | exact goodI _ | exact goodU _ | rfl | exact goodSL _ | exact goodLL _ | (focus (simp [goodL, oneA, AV.cells]; done))); (all_goals first | (intro x hx; simp at hx; first | (subst hx; rfl) | (rcases hx with rfl | rfl <;> rfl) | (rcases hx with rfl | rfl | rfl <;> rfl) | (repeat (rcases hx with rfl | hx <;> try rfl))) | skip))
    | ( refine callD_mk (repeat1 (c := 10) (by omega) ?_))
    | (with_reducible refine callD_mk (repeat1 (by omega) ?_))
    | (with_reducible refine nilTC_pos (by simp; omega) ?_)
    | (with_reducible refine nilTC_split (fun h => ?_) (fun h bn => ?_) <;> (try simp only [List.length_map] at h))
    | (with_reducible refine grd_cases (fun h => ?_) (fun h => ?_) <;> (try simp only [h]) <;> (try simp only [beq_iff_eq, beq_eq_false_iff_ne, bne_iff_ne, bne_eq_false_iff_eq, decide_eq_true_eq, decide_eq_false_iff_not, Bool.not_eq_true', Bool.not_eq_false', Bool.not_true, Bool.not_false, Bool.not_eq_eq_eq_not, ne_eq, Int.not_lt, Int.not_le, gt_iff_lt, ge_iff_le, Decidable.not_not] at h))
    | (with_reducible refine condC_split (fun h => ?_) (fun h => ?_) <;> (try simp only [h]) <;> (try simp only [beq_iff_eq, beq_eq_false_iff_ne, bne_iff_ne, bne_eq_false_iff_eq, decide_eq_true_eq, decide_eq_false_iff_not, Bool.not_eq_true', Bool.not_eq_false', Bool.not_true, Bool.not_false, Bool.not_eq_eq_eq_not, ne_eq, Int.not_lt, Int.not_le, gt_iff_lt, ge_iff_le, Decidable.not_not] at h))
    | omega | (simp only [List.length_append, List.length_map, List.length_cons, List.length_nil, List.length_drop, List.length_take, List.length_replicate]; omega))
  · obtain rfl : e = 0 := by omega
    exact leafL sub_rfl (leT_eq rfl) hK
  · exact leafL sub_rfl (leT_eq (by unfold between; rw [if_neg (by omega)])) hK

-- fold.full
set_option maxHeartbeats 4000000 in
theorem full1 {l : List (List Int)} (hl : l.length ≤ 1000000000) (hK : K (.ret (I (fullN l : Nat))) σ) : ACallF κ Try.prog 59 [SSI o l] σ K := by
  refine ACallF.dropL (ACallF_intro Try.func59 rfl ?_)
  simp only [Try.ntmps59]
  repeat' (first
    | simp only [WL, intF, strF, List.toList_toArray, List.set_cons_succ, List.set_cons_zero, List.getD_cons_succ, List.getD_cons_zero, List.getElem?_cons_succ, List.getElem?_cons_zero, List.length_cons, List.length_nil, List.replicate_succ, List.replicate_zero, List.cons_append, List.nil_append, List.append_nil, List.map_cons, List.map_nil, Option.bind_some, Option.map_some, Option.map_none, List.drop_succ_cons, List.drop_zero, List.take_succ_cons, List.take_zero, ← List.map_take, ← List.map_drop, List.take_length, Int.reduceToNat, ne_eq, reduceCtorEq, not_false_eq_true, Nat.reduceAdd, Nat.reduceSub, Nat.reduceLT, Nat.reduceLeDiff, Nat.reduceEqDiff, Nat.zero_lt_succ, Bool.not_true, Bool.not_false, beq_self_eq_true, true_and, and_true, Option.isSome_some, Option.isSome_none, reduceIte, Int.toNat_natCast, Bool.false_eq_true, List.length_map, Nat.le_refl, Option.some.injEq, exists_eq_left', Nat.add_right_cancel_iff, List.take_nil, List.drop_nil, T3, T4, T22, T33, Try.results59]
    | (simp (disch := first | omega | (simp only [List.length_append, List.length_map, List.length_cons, List.length_nil, List.length_drop, List.length_take, List.length_replicate]; omega)) only [wrap_id, getI])
    | (with_reducible refine And.intro (by first | omega | exact ⟨_, rfl⟩ | (focus (simp; done)) | (simp; omega)) ?_)
    | ((with_reducible apply wk_load (ty := 22) (ha := ag22) 0); rfl; rfl)
    | ((with_reducible apply wk_load (ty := 22) (ha := ag22) 1); rfl; rfl)
    | (with_reducible refine nilTC_pos (by simp; omega) ?_)
    | (with_reducible refine nilTC_split (fun h => ?_) (fun h bn => ?_) <;> (try simp only [List.length_map] at h))
    | (with_reducible refine grd_cases (fun h => ?_) (fun h => ?_) <;> (try simp only [h]) <;> (try simp only [beq_iff_eq, beq_eq_false_iff_ne, bne_iff_ne, bne_eq_false_iff_eq, decide_eq_true_eq, decide_eq_false_iff_not, Bool.not_eq_true', Bool.not_eq_false', Bool.not_true, Bool.not_false, Bool.not_eq_eq_eq_not, ne_eq, Int.not_lt, Int.not_le, gt_iff_lt, ge_iff_le, Decidable.not_not] at h))
    | (with_reducible refine condC_split (fun h => ?_) (fun h => ?_) <;> (try simp only [h]) <;> (try simp only [beq_iff_eq, beq_eq_false_iff_ne, bne_iff_ne, bne_eq_false_iff_eq, decide_eq_true_eq, decide_eq_false_iff_not, Bool.not_eq_true', Bool.not_eq_false', Bool.not_true, Bool.not_false, Bool.not_eq_eq_eq_not, ne_eq, Int.not_lt, Int.not_le, gt_iff_lt, ge_iff_le, Decidable.not_not] at h))
    | omega | (simp only [List.length_append, List.length_map, List.length_cons, List.length_nil, List.length_drop, List.length_take, List.length_replicate]; omega))
  refine loop_by (fun k : Nat => ⟨(SSI o l :: .any :: .any :: I k :: .any :: .any :: .any :: .any :: .any :: .any :: .any :: .any :: .any :: .any :: .any :: .any :: .any :: .any :: .any :: .any :: []), σ, true, []⟩) (fun k => k ≤ l.length ∧ fullN l = fullN (l.take k)) (fun k => k) l.length (St_le_same (by repeat (first | exact trivial | refine ⟨le_rfl, ?_⟩ | refine ⟨le_any, ?_⟩ | refine ⟨le_ro, ?_⟩ | refine ⟨le_nil (by decide), ?_⟩ | refine ⟨le_wrap (by omega) (by omega) (by omega), ?_⟩ | refine ⟨le_int (by omega), ?_⟩ | refine ⟨le_eq (by simp), ?_⟩)) id) ⟨Nat.le_refl _, by rw [List.take_length]⟩ ?_
  rintro k ⟨h1, h2⟩
  have e1 : 0 < k → ((k : Int) - 1).toNat = k - 1 := fun _ => by omega
  repeat' (first
    | simp only [WL, intF, strF, List.toList_toArray, List.set_cons_succ, List.set_cons_zero, List.getD_cons_succ, List.getD_cons_zero, List.getElem?_cons_succ, List.getElem?_cons_zero, List.length_cons, List.length_nil, List.replicate_succ, List.replicate_zero, List.cons_append, List.nil_append, List.append_nil, List.map_cons, List.map_nil, Option.bind_some, Option.map_some, Option.map_none, List.drop_succ_cons, List.drop_zero, List.take_succ_cons, List.take_zero, ← List.map_take, ← List.map_drop, List.take_length, Int.reduceToNat, ne_eq, reduceCtorEq, not_false_eq_true, Nat.reduceAdd, Nat.reduceSub, Nat.reduceLT, Nat.reduceLeDiff, Nat.reduceEqDiff, Nat.zero_lt_succ, Bool.not_true, Bool.not_false, beq_self_eq_true, true_and, and_true, Option.isSome_some, Option.isSome_none, reduceIte, Int.toNat_natCast, Bool.false_eq_true, List.length_map, Nat.le_refl, Option.some.injEq, exists_eq_left', Nat.add_right_cancel_iff, List.take_nil, List.drop_nil, T3, T4, T22, T33, Try.results59]
    | (simp (disch := first | omega | (simp only [List.length_append, List.length_map, List.length_cons, List.length_nil, List.length_drop, List.length_take, List.length_replicate]; omega)) only [wrap_id, getI, getS, e1])
    | (with_reducible refine And.intro (by first | omega | exact ⟨_, rfl⟩ | (focus (simp; done)) | (simp; omega)) ?_)
    | ((with_reducible apply wk_load (ty := 22) (ha := ag22) 0); rfl; rfl)
    | ((with_reducible apply wk_load (ty := 22) (ha := ag22) 1); rfl; rfl)
    | (with_reducible refine nilTC_pos (by simp; omega) ?_)
    | (with_reducible refine nilTC_split (fun h => ?_) (fun h bn => ?_) <;> (try simp only [List.length_map] at h))
    | (with_reducible refine grd_cases (fun h => ?_) (fun h => ?_) <;> (try simp only [h]) <;> (try simp only [beq_iff_eq, beq_eq_false_iff_ne, bne_iff_ne, bne_eq_false_iff_eq, decide_eq_true_eq, decide_eq_false_iff_not, Bool.not_eq_true', Bool.not_eq_false', Bool.not_true, Bool.not_false, Bool.not_eq_eq_eq_not, ne_eq, Int.not_lt, Int.not_le, gt_iff_lt, ge_iff_le, Decidable.not_not] at h))
    | (with_reducible refine condC_split (fun h => ?_) (fun h => ?_) <;> (try simp only [h]) <;> (try simp only [beq_iff_eq, beq_eq_false_iff_ne, bne_iff_ne, bne_eq_false_iff_eq, decide_eq_true_eq, decide_eq_false_iff_not, Bool.not_eq_true', Bool.not_eq_false', Bool.not_true, Bool.not_false, Bool.not_eq_eq_eq_not, ne_eq, Int.not_lt, Int.not_le, gt_iff_lt, ge_iff_le, Decidable.not_not] at h))
    | omega | (simp only [List.length_append, List.length_map, List.length_cons, List.length_nil, List.length_drop, List.length_take, List.length_replicate]; omega))
  · refine ⟨k - 1, St_le_same (by repeat (first | exact trivial | refine ⟨le_rfl, ?_⟩ | refine ⟨le_any, ?_⟩ | refine ⟨le_ro, ?_⟩ | refine ⟨le_nil (by decide), ?_⟩ | refine ⟨le_wrap (by omega) (by omega) (by omega), ?_⟩ | refine ⟨le_int (by omega), ?_⟩ | refine ⟨le_eq (by simp), ?_⟩)) id, ⟨by omega, ?_⟩, by omega⟩
    have hk : k - 1 < l.length := by omega
    exact fullN_take hk (by omega) (by rw [show k - 1 + 1 = k by omega]; exact h2)
  · have := fullN_stop (l := l) (k := k - 1) (by omega) (by omega)
    rw [show k - 1 + 1 = k by omega] at this
    exact leafL sub_rfl (leT_eq (by rw [h2, this])) hK
  · obtain rfl : k = 0 := by omega
    exact leafL sub_rfl (leT_eq (by rw [h2]; rfl)) hK

-- fold.ends
set_option maxHeartbeats 4000000 in
theorem ends1 {n f : Nat} {c : Int} (hn : n ≤ 1000000000) (hf : f ≤ n) (hK : K (.ret (SI none (endsC n f c))) σ) : ACallF κ Try.prog 60 [I n, I f, I c] σ K := by
  have nf : ((n : Int) - f + 1) = ((n - f + 1 : Nat) : Int) := by omega
  refine ACallF.dropL (ACallF_intro Try.func60 rfl ?_)
  simp only [Try.ntmps60]
  repeat' (first
    | simp only [WL, intF, strF, List.toList_toArray, List.set_cons_succ, List.set_cons_zero, List.getD_cons_succ, List.getD_cons_zero, List.getElem?_cons_succ, List.getElem?_cons_zero, List.length_cons, List.length_nil, List.replicate_succ, List.replicate_zero, List.cons_append, List.nil_append, List.append_nil, List.map_cons, List.map_nil, Option.bind_some, Option.map_some, Option.map_none, List.drop_succ_cons, List.drop_zero, List.take_succ_cons, List.take_zero, ← List.map_take, ← List.map_drop, List.take_length, Int.reduceToNat, ne_eq, reduceCtorEq, not_false_eq_true, Nat.reduceAdd, Nat.reduceSub, Nat.reduceLT, Nat.reduceLeDiff, Nat.reduceEqDiff, Nat.zero_lt_succ, Bool.not_true, Bool.not_false, beq_self_eq_true, true_and, and_true, Option.isSome_some, Option.isSome_none, reduceIte, Int.toNat_natCast, Bool.false_eq_true, List.length_map, Nat.le_refl, Option.some.injEq, exists_eq_left', Nat.add_right_cancel_iff, List.take_nil, List.drop_nil, T3, T4, T22, cok61, Try.results60, nf]
    | (simp (disch := first | omega | (simp only [List.length_append, List.length_map, List.length_cons, List.length_nil, List.length_drop, List.length_take, List.length_replicate]; omega)) only [wrap_id, getI])
    | (with_reducible refine And.intro (by first | omega | exact ⟨_, rfl⟩ | (focus (simp; done)) | (simp; omega)) ?_)
    | ((with_reducible refine wk_bslice sl22 sz3 zr3 (by decide) (by decide) (by decide) (by decide) rfl ?_ ?_ ?_); (first | exact goodI _ | exact goodU _ | rfl | exact goodSL _ | exact goodLL _ | (focus (simp [goodL, oneA, AV.cells]; done))); (all_goals first | (intro x hx; simp at hx; first | (subst hx; rfl) | (rcases hx with rfl | rfl <;> rfl) | (rcases hx with rfl | rfl | rfl <;> rfl) | (repeat (rcases hx with rfl | hx <;> try rfl))) | skip))
    | ( refine callD_mk (repeat1 (c := 10) (by omega) ?_))
    | (with_reducible refine callD_mk (repeat1 (by omega) ?_))
    | (with_reducible refine nilTC_pos (by simp; omega) ?_)
    | (with_reducible refine nilTC_split (fun h => ?_) (fun h bn => ?_) <;> (try simp only [List.length_map] at h))
    | (with_reducible refine grd_cases (fun h => ?_) (fun h => ?_) <;> (try simp only [h]) <;> (try simp only [beq_iff_eq, beq_eq_false_iff_ne, bne_iff_ne, bne_eq_false_iff_eq, decide_eq_true_eq, decide_eq_false_iff_not, Bool.not_eq_true', Bool.not_eq_false', Bool.not_true, Bool.not_false, Bool.not_eq_eq_eq_not, ne_eq, Int.not_lt, Int.not_le, gt_iff_lt, ge_iff_le, Decidable.not_not] at h))
    | (with_reducible refine condC_split (fun h => ?_) (fun h => ?_) <;> (try simp only [h]) <;> (try simp only [beq_iff_eq, beq_eq_false_iff_ne, bne_iff_ne, bne_eq_false_iff_eq, decide_eq_true_eq, decide_eq_false_iff_not, Bool.not_eq_true', Bool.not_eq_false', Bool.not_true, Bool.not_false, Bool.not_eq_eq_eq_not, ne_eq, Int.not_lt, Int.not_le, gt_iff_lt, ge_iff_le, Decidable.not_not] at h))
    | omega | (simp only [List.length_append, List.length_map, List.length_cons, List.length_nil, List.length_drop, List.length_take, List.length_replicate]; omega))
  · exact leafL sub_rfl (leT_eq (by unfold endsC; rw [if_pos (by assumption), if_pos (by omega)])) hK
  · exact leafL sub_rfl (leT_eq (by unfold endsC; rw [if_pos (by assumption), if_neg (by omega), List.replicate_succ])) hK
  · exact leafL sub_rfl (leT_le (by unfold endsC; rw [if_neg (by assumption), if_pos (.inr (by omega))]; exact le_nilro (by decide))) hK
  · exact leafL sub_rfl (leT_eq (by unfold endsC; rw [if_neg (by assumption), if_neg (by omega)]; rfl)) hK
  · exact leafL sub_rfl (leT_le (by unfold endsC; rw [if_neg (by assumption), if_pos (.inl (by assumption))]; exact le_nilro (by decide))) hK

-- fold.spaced
set_option maxHeartbeats 4000000 in
theorem spaced1 {l : List Int} (hl : l.length ≤ 1000000000) (hK : K (.ret (B (spacedI l))) σ) : ACallF κ Try.prog 62 [SI o l] σ K := by
  refine ACallF.dropL (ACallF_intro Try.func62 rfl ?_)
  simp only [Try.ntmps62]
  repeat' (first
    | simp only [WL, intF, strF, List.toList_toArray, List.set_cons_succ, List.set_cons_zero, List.getD_cons_succ, List.getD_cons_zero, List.getElem?_cons_succ, List.getElem?_cons_zero, List.length_cons, List.length_nil, List.replicate_succ, List.replicate_zero, List.cons_append, List.nil_append, List.append_nil, List.map_cons, List.map_nil, Option.bind_some, Option.map_some, Option.map_none, List.drop_succ_cons, List.drop_zero, List.take_succ_cons, List.take_zero, ← List.map_take, ← List.map_drop, List.take_length, Int.reduceToNat, ne_eq, reduceCtorEq, not_false_eq_true, Nat.reduceAdd, Nat.reduceSub, Nat.reduceLT, Nat.reduceLeDiff, Nat.reduceEqDiff, Nat.zero_lt_succ, Bool.not_true, Bool.not_false, beq_self_eq_true, true_and, and_true, Option.isSome_some, Option.isSome_none, reduceIte, Int.toNat_natCast, Bool.false_eq_true, List.length_map, Nat.le_refl, Option.some.injEq, exists_eq_left', Nat.add_right_cancel_iff, List.take_nil, List.drop_nil, T3, T4, T22, cok50, Try.results62]
    | (simp (disch := first | omega | (simp only [List.length_append, List.length_map, List.length_cons, List.length_nil, List.length_drop, List.length_take, List.length_replicate]; omega)) only [wrap_id, getI])
    | (with_reducible refine And.intro (by first | omega | exact ⟨_, rfl⟩ | (focus (simp; done)) | (simp; omega)) ?_)
    | ((with_reducible apply wk_load (ty := 3) (ha := ag3) 0); rfl; rfl)
    | ((with_reducible apply wk_load (ty := 3) (ha := ag3) 1); rfl; rfl)
    | (with_reducible refine callD_mk (Blank ?_))
    | (with_reducible refine nilTC_pos (by simp; omega) ?_)
    | (with_reducible refine nilTC_split (fun h => ?_) (fun h bn => ?_) <;> (try simp only [List.length_map] at h))
    | (with_reducible refine grd_cases (fun h => ?_) (fun h => ?_) <;> (try simp only [h]) <;> (try simp only [beq_iff_eq, beq_eq_false_iff_ne, bne_iff_ne, bne_eq_false_iff_eq, decide_eq_true_eq, decide_eq_false_iff_not, Bool.not_eq_true', Bool.not_eq_false', Bool.not_true, Bool.not_false, Bool.not_eq_eq_eq_not, ne_eq, Int.not_lt, Int.not_le, gt_iff_lt, ge_iff_le, Decidable.not_not] at h))
    | (with_reducible refine condC_split (fun h => ?_) (fun h => ?_) <;> (try simp only [h]) <;> (try simp only [beq_iff_eq, beq_eq_false_iff_ne, bne_iff_ne, bne_eq_false_iff_eq, decide_eq_true_eq, decide_eq_false_iff_not, Bool.not_eq_true', Bool.not_eq_false', Bool.not_true, Bool.not_false, Bool.not_eq_eq_eq_not, ne_eq, Int.not_lt, Int.not_le, gt_iff_lt, ge_iff_le, Decidable.not_not] at h))
    | omega | (simp only [List.length_append, List.length_map, List.length_cons, List.length_nil, List.length_drop, List.length_take, List.length_replicate]; omega))
  · exact leafL sub_rfl (leT_eq (congrArg B (by unfold spacedI; rw [decide_eq_true (by omega), Bool.true_and]))) hK
  · exact leafL sub_rfl (leT_eq (congrArg B (by unfold spacedI; rw [decide_eq_false (by omega), Bool.false_and]))) hK

-- fold.trimmed
set_option maxHeartbeats 4000000 in
theorem trimmed {l : List (List Int)} (hK : ∀ b, K (.ret (.raw (.func (.func 69) #[] #[.pointer (some ⟨b, 0, none⟩)]))) (.obj b [SSI o l] :: σ)) : ACallF κ Try.prog 54 [SSI o l] σ K := by
  refine ACallF.dropL (ACallF_intro Try.func54 rfl ?_)
  simp only [Try.ntmps54]
  repeat' (first
    | simp only [WL, intF, strF, List.toList_toArray, List.set_cons_succ, List.set_cons_zero, List.getD_cons_succ, List.getD_cons_zero, List.getElem?_cons_succ, List.getElem?_cons_zero, List.length_cons, List.length_nil, List.replicate_succ, List.replicate_zero, List.cons_append, List.nil_append, List.append_nil, List.map_cons, List.map_nil, Option.bind_some, Option.map_some, Option.map_none, List.drop_succ_cons, List.drop_zero, List.take_succ_cons, List.take_zero, ← List.map_take, ← List.map_drop, List.take_length, Int.reduceToNat, ne_eq, reduceCtorEq, not_false_eq_true, Nat.reduceAdd, Nat.reduceSub, Nat.reduceLT, Nat.reduceLeDiff, Nat.reduceEqDiff, Nat.zero_lt_succ, Bool.not_true, Bool.not_false, beq_self_eq_true, true_and, and_true, Option.isSome_some, Option.isSome_none, reduceIte, Int.toNat_natCast, Bool.false_eq_true, List.length_map, Nat.le_refl, Option.some.injEq, exists_eq_left', Nat.add_right_cancel_iff, List.take_nil, List.drop_nil, T3, T22, T33, T52, cok69, Try.results54]
    | (simp (disch := first | omega | (simp only [List.length_append, List.length_map, List.length_cons, List.length_nil, List.length_drop, List.length_take, List.length_replicate]; omega)) only [wrap_id, getI])
    | (with_reducible refine And.intro (by first | omega | exact ⟨_, rfl⟩ | (focus (simp; done)) | (simp; omega)) ?_)
    | ((with_reducible refine actC_mk ?_); (with_reducible refine act_box ?_ (fun b => ?_)); rfl)
    | ((with_reducible refine actC_mk ?_); (with_reducible refine act_new zr33 ?_ (fun b => ?_)); rfl)
    | (with_reducible refine grd_cases (fun h => ?_) (fun h => ?_) <;> (try simp only [h]) <;> (try simp only [beq_iff_eq, beq_eq_false_iff_ne, bne_iff_ne, bne_eq_false_iff_eq, decide_eq_true_eq, decide_eq_false_iff_not, Bool.not_eq_true', Bool.not_eq_false', Bool.not_true, Bool.not_false, Bool.not_eq_eq_eq_not, ne_eq, Int.not_lt, Int.not_le, gt_iff_lt, ge_iff_le, Decidable.not_not] at h))
    | (with_reducible refine condC_split (fun h => ?_) (fun h => ?_) <;> (try simp only [h]) <;> (try simp only [beq_iff_eq, beq_eq_false_iff_ne, bne_iff_ne, bne_eq_false_iff_eq, decide_eq_true_eq, decide_eq_false_iff_not, Bool.not_eq_true', Bool.not_eq_false', Bool.not_true, Bool.not_false, Bool.not_eq_eq_eq_not, ne_eq, Int.not_lt, Int.not_le, gt_iff_lt, ge_iff_le, Decidable.not_not] at h))
    | omega | (simp only [List.length_append, List.length_map, List.length_cons, List.length_nil, List.length_drop, List.length_take, List.length_replicate]; omega))
  exact leafL sub_rfl (leT_eq rfl) (hK _)

-- fold.trimmed$1
set_option maxHeartbeats 4000000 in
theorem trimmedIt {b L : Nat} {l : List (List Int)} (hl : tot l ≤ 1000000000) (hI : Iter κ Try.prog L K ((trims l.length 0 l).map fun t => [SI none t]) σ) :
    ACallF κ Try.prog 69 [.raw (.func (.yield L) #[] #[]), .raw (.pointer (some ⟨b, 0, none⟩))] (.obj b [SSI o l] :: σ) K := by
  have hlen := tot_len l
  refine ACallF.dropL (ACallF_intro Try.func69 rfl ?_)
  simp only [Try.ntmps69]
  repeat' (first
    | simp only [WL, intF, strF, List.toList_toArray, List.set_cons_succ, List.set_cons_zero, List.getD_cons_succ, List.getD_cons_zero, List.getElem?_cons_succ, List.getElem?_cons_zero, List.length_cons, List.length_nil, List.replicate_succ, List.replicate_zero, List.cons_append, List.nil_append, List.append_nil, List.map_cons, List.map_nil, Option.bind_some, Option.map_some, Option.map_none, List.drop_succ_cons, List.drop_zero, List.take_succ_cons, List.take_zero, ← List.map_take, ← List.map_drop, List.take_length, Int.reduceToNat, ne_eq, reduceCtorEq, not_false_eq_true, Nat.reduceAdd, Nat.reduceSub, Nat.reduceLT, Nat.reduceLeDiff, Nat.reduceEqDiff, Nat.zero_lt_succ, Bool.not_true, Bool.not_false, beq_self_eq_true, true_and, and_true, Option.isSome_some, Option.isSome_none, reduceIte, Int.toNat_natCast, Bool.false_eq_true, List.length_map, Nat.le_refl, Option.some.injEq, exists_eq_left', Nat.add_right_cancel_iff, List.take_nil, List.drop_nil, T3, T4, T22, T32, T33, cok70, cok71, Try.results69]
    | (simp (disch := first | omega | (simp only [List.length_append, List.length_map, List.length_cons, List.length_nil, List.length_drop, List.length_take, List.length_replicate]; omega)) only [wrap_id, getI])
    | (with_reducible refine And.intro (by first | omega | exact ⟨_, rfl⟩ | (focus (simp; done)) | (simp; omega)) ?_)
    | ((with_reducible apply wk_load (ty := 22) (ha := ag22) 0); rfl; rfl)
    | ((with_reducible apply wk_load (ty := 22) (ha := ag22) 1); rfl; rfl)
    | ((with_reducible apply wk_load (ty := 33) (ha := ag33) 0); rfl; rfl)
    | ((with_reducible apply wk_load (ty := 33) (ha := ag33) 1); rfl; rfl)
    | (with_reducible refine callD_mk (front ?_ ?_))
    | (with_reducible refine callD_mk (back ?_ ?_))
    | (with_reducible refine nilTC_pos (by simp; omega) ?_)
    | (with_reducible refine nilTC_split (fun h => ?_) (fun h bn => ?_) <;> (try simp only [List.length_map] at h))
    | (with_reducible refine grd_cases (fun h => ?_) (fun h => ?_) <;> (try simp only [h]) <;> (try simp only [beq_iff_eq, beq_eq_false_iff_ne, bne_iff_ne, bne_eq_false_iff_eq, decide_eq_true_eq, decide_eq_false_iff_not, Bool.not_eq_true', Bool.not_eq_false', Bool.not_true, Bool.not_false, Bool.not_eq_eq_eq_not, ne_eq, Int.not_lt, Int.not_le, gt_iff_lt, ge_iff_le, Decidable.not_not] at h))
    | (with_reducible refine condC_split (fun h => ?_) (fun h => ?_) <;> (try simp only [h]) <;> (try simp only [beq_iff_eq, beq_eq_false_iff_ne, bne_iff_ne, bne_eq_false_iff_eq, decide_eq_true_eq, decide_eq_false_iff_not, Bool.not_eq_true', Bool.not_eq_false', Bool.not_true, Bool.not_false, Bool.not_eq_eq_eq_not, ne_eq, Int.not_lt, Int.not_le, gt_iff_lt, ge_iff_le, Decidable.not_not] at h))
    | omega | (simp only [List.length_append, List.length_map, List.length_cons, List.length_nil, List.length_drop, List.length_take, List.length_replicate]; omega))
  refine loop_by (fun x : Nat × List Res => ⟨(.raw (.func (.yield L) #[] #[]) :: .raw (.pointer (some ⟨b, 0, none⟩)) :: .any :: .any :: .any :: SSI o l :: I l.length :: I x.1 :: .any :: .any :: .any :: .any :: .any :: .any :: .any :: .any :: .any :: .any :: .any :: .any :: .any :: .any :: .any :: .any :: .any :: .any :: .any :: .any :: []), .obj b [SSI o l] :: x.2, true, []⟩) (fun x => x.1 ≤ l.length ∧ Iter κ Try.prog L K ((trims l.length x.1 (l.drop x.1)).map fun t => [SI none t]) x.2) (fun x => l.length - x.1) (0, σ) (St_le_same (by repeat (first | exact trivial | refine ⟨le_rfl, ?_⟩ | refine ⟨le_any, ?_⟩ | refine ⟨le_ro, ?_⟩ | refine ⟨le_nil (by decide), ?_⟩ | refine ⟨le_wrap (by omega) (by omega) (by omega), ?_⟩ | refine ⟨le_int (by omega), ?_⟩ | refine ⟨le_eq (by simp), ?_⟩)) id) ⟨Nat.zero_le _, by simpa using hI⟩ ?_
  rintro ⟨k, σ'⟩ ⟨h1, h2⟩
  dsimp only at h1 h2 ⊢
  have h3 := tot_get (l := l) k
  have h4 := frontI_le (l.getD k [])
  repeat' (first
    | simp only [WL, intF, strF, List.toList_toArray, List.set_cons_succ, List.set_cons_zero, List.getD_cons_succ, List.getD_cons_zero, List.getElem?_cons_succ, List.getElem?_cons_zero, List.length_cons, List.length_nil, List.replicate_succ, List.replicate_zero, List.cons_append, List.nil_append, List.append_nil, List.map_cons, List.map_nil, Option.bind_some, Option.map_some, Option.map_none, List.drop_succ_cons, List.drop_zero, List.take_succ_cons, List.take_zero, ← List.map_take, ← List.map_drop, List.take_length, Int.reduceToNat, ne_eq, reduceCtorEq, not_false_eq_true, Nat.reduceAdd, Nat.reduceSub, Nat.reduceLT, Nat.reduceLeDiff, Nat.reduceEqDiff, Nat.zero_lt_succ, Bool.not_true, Bool.not_false, beq_self_eq_true, true_and, and_true, Option.isSome_some, Option.isSome_none, reduceIte, Int.toNat_natCast, Bool.false_eq_true, List.length_map, Nat.le_refl, Option.some.injEq, exists_eq_left', Nat.add_right_cancel_iff, List.take_nil, List.drop_nil, T3, T4, T22, T32, T33, cok70, cok71, Try.results69]
    | (simp (disch := first | omega | (simp only [List.length_append, List.length_map, List.length_cons, List.length_nil, List.length_drop, List.length_take, List.length_replicate]; omega)) only [wrap_id, getI, getS])
    | (with_reducible refine And.intro (by first | omega | exact ⟨_, rfl⟩ | (focus (simp; done)) | (simp; omega)) ?_)
    | ((with_reducible apply wk_load (ty := 22) (ha := ag22) 0); rfl; rfl)
    | ((with_reducible apply wk_load (ty := 22) (ha := ag22) 1); rfl; rfl)
    | ((with_reducible apply wk_load (ty := 33) (ha := ag33) 0); rfl; rfl)
    | ((with_reducible apply wk_load (ty := 33) (ha := ag33) 1); rfl; rfl)
    | (with_reducible refine callD_mk (front ?_ ?_))
    | (with_reducible refine callD_mk (back ?_ ?_))
    | (with_reducible refine nilTC_pos (by simp; omega) ?_)
    | (with_reducible refine nilTC_split (fun h => ?_) (fun h bn => ?_) <;> (try simp only [List.length_map] at h))
    | (with_reducible refine grd_cases (fun h => ?_) (fun h => ?_) <;> (try simp only [h]) <;> (try simp only [beq_iff_eq, beq_eq_false_iff_ne, bne_iff_ne, bne_eq_false_iff_eq, decide_eq_true_eq, decide_eq_false_iff_not, Bool.not_eq_true', Bool.not_eq_false', Bool.not_true, Bool.not_false, Bool.not_eq_eq_eq_not, ne_eq, Int.not_lt, Int.not_le, gt_iff_lt, ge_iff_le, Decidable.not_not] at h))
    | (with_reducible refine condC_split (fun h => ?_) (fun h => ?_) <;> (try simp only [h]) <;> (try simp only [beq_iff_eq, beq_eq_false_iff_ne, bne_iff_ne, bne_eq_false_iff_eq, decide_eq_true_eq, decide_eq_false_iff_not, Bool.not_eq_true', Bool.not_eq_false', Bool.not_true, Bool.not_false, Bool.not_eq_eq_eq_not, ne_eq, Int.not_lt, Int.not_le, gt_iff_lt, ge_iff_le, Decidable.not_not] at h))
    | omega | (simp only [List.length_append, List.length_map, List.length_cons, List.length_nil, List.length_drop, List.length_take, List.length_replicate]; omega))
  ·
    rw [drop_getDL (by omega), trims] at h2
    unfold trimAt at h2
    rw [if_pos (by omega), if_pos (by omega)] at h2
    refine callYD_iter [.obj b [SSI o l]] (leL_one le_rfl) h2 (fun σ3 h => ?_) (fun σ3 h => ?_) (fun c σ3 h => ?_)
    · repeat' (first
      | simp only [WL, intF, strF, List.toList_toArray, List.set_cons_succ, List.set_cons_zero, List.getD_cons_succ, List.getD_cons_zero, List.getElem?_cons_succ, List.getElem?_cons_zero, List.length_cons, List.length_nil, List.replicate_succ, List.replicate_zero, List.cons_append, List.nil_append, List.append_nil, List.map_cons, List.map_nil, Option.bind_some, Option.map_some, Option.map_none, List.drop_succ_cons, List.drop_zero, List.take_succ_cons, List.take_zero, ← List.map_take, ← List.map_drop, List.take_length, Int.reduceToNat, ne_eq, reduceCtorEq, not_false_eq_true, Nat.reduceAdd, Nat.reduceSub, Nat.reduceLT, Nat.reduceLeDiff, Nat.reduceEqDiff, Nat.zero_lt_succ, Bool.not_true, Bool.not_false, beq_self_eq_true, true_and, and_true, Option.isSome_some, Option.isSome_none, reduceIte, Int.toNat_natCast, Bool.false_eq_true, List.length_map, Nat.le_refl, Option.some.injEq, exists_eq_left', Nat.add_right_cancel_iff, List.take_nil, List.drop_nil, T3, T4, T22, T32, T33, cok70, cok71, Try.results69]
      | (simp (disch := first | omega | (simp only [List.length_append, List.length_map, List.length_cons, List.length_nil, List.length_drop, List.length_take, List.length_replicate]; omega)) only [wrap_id, getI])
      | (with_reducible refine And.intro (by first | omega | exact ⟨_, rfl⟩ | (focus (simp; done)) | (simp; omega)) ?_)
      | ((with_reducible apply wk_load (ty := 22) (ha := ag22) 0); rfl; rfl)
      | ((with_reducible apply wk_load (ty := 22) (ha := ag22) 1); rfl; rfl)
      | ((with_reducible apply wk_load (ty := 33) (ha := ag33) 0); rfl; rfl)
      | ((with_reducible apply wk_load (ty := 33) (ha := ag33) 1); rfl; rfl)
      | (with_reducible refine callD_mk (front ?_ ?_))
      | (with_reducible refine callD_mk (back ?_ ?_))
      | (with_reducible refine nilTC_pos (by simp; omega) ?_)
      | (with_reducible refine nilTC_split (fun h => ?_) (fun h bn => ?_) <;> (try simp only [List.length_map] at h))
      | (with_reducible refine grd_cases (fun h => ?_) (fun h => ?_) <;> (try simp only [h]) <;> (try simp only [beq_iff_eq, beq_eq_false_iff_ne, bne_iff_ne, bne_eq_false_iff_eq, decide_eq_true_eq, decide_eq_false_iff_not, Bool.not_eq_true', Bool.not_eq_false', Bool.not_true, Bool.not_false, Bool.not_eq_eq_eq_not, ne_eq, Int.not_lt, Int.not_le, gt_iff_lt, ge_iff_le, Decidable.not_not] at h))
      | (with_reducible refine condC_split (fun h => ?_) (fun h => ?_) <;> (try simp only [h]) <;> (try simp only [beq_iff_eq, beq_eq_false_iff_ne, bne_iff_ne, bne_eq_false_iff_eq, decide_eq_true_eq, decide_eq_false_iff_not, Bool.not_eq_true', Bool.not_eq_false', Bool.not_true, Bool.not_false, Bool.not_eq_eq_eq_not, ne_eq, Int.not_lt, Int.not_le, gt_iff_lt, ge_iff_le, Decidable.not_not] at h))
      | omega | (simp only [List.length_append, List.length_map, List.length_cons, List.length_nil, List.length_drop, List.length_take, List.length_replicate]; omega))
      exact ⟨(k + 1, σ3), St_le_same (by repeat (first | exact trivial | refine ⟨le_rfl, ?_⟩ | refine ⟨le_any, ?_⟩ | refine ⟨le_ro, ?_⟩ | refine ⟨le_nil (by decide), ?_⟩ | refine ⟨le_wrap (by omega) (by omega) (by omega), ?_⟩ | refine ⟨le_int (by omega), ?_⟩ | refine ⟨le_eq (by simp), ?_⟩)) id, ⟨by dsimp only; omega, h⟩, by dsimp only; omega⟩
    · repeat' (first
      | simp only [WL, intF, strF, List.toList_toArray, List.set_cons_succ, List.set_cons_zero, List.getD_cons_succ, List.getD_cons_zero, List.getElem?_cons_succ, List.getElem?_cons_zero, List.length_cons, List.length_nil, List.replicate_succ, List.replicate_zero, List.cons_append, List.nil_append, List.append_nil, List.map_cons, List.map_nil, Option.bind_some, Option.map_some, Option.map_none, List.drop_succ_cons, List.drop_zero, List.take_succ_cons, List.take_zero, ← List.map_take, ← List.map_drop, List.take_length, Int.reduceToNat, ne_eq, reduceCtorEq, not_false_eq_true, Nat.reduceAdd, Nat.reduceSub, Nat.reduceLT, Nat.reduceLeDiff, Nat.reduceEqDiff, Nat.zero_lt_succ, Bool.not_true, Bool.not_false, beq_self_eq_true, true_and, and_true, Option.isSome_some, Option.isSome_none, reduceIte, Int.toNat_natCast, Bool.false_eq_true, List.length_map, Nat.le_refl, Option.some.injEq, exists_eq_left', Nat.add_right_cancel_iff, List.take_nil, List.drop_nil, T3, T4, T22, T32, T33, cok70, cok71, Try.results69]
      | (simp (disch := first | omega | (simp only [List.length_append, List.length_map, List.length_cons, List.length_nil, List.length_drop, List.length_take, List.length_replicate]; omega)) only [wrap_id, getI])
      | (with_reducible refine And.intro (by first | omega | exact ⟨_, rfl⟩ | (focus (simp; done)) | (simp; omega)) ?_)
      | ((with_reducible apply wk_load (ty := 22) (ha := ag22) 0); rfl; rfl)
      | ((with_reducible apply wk_load (ty := 22) (ha := ag22) 1); rfl; rfl)
      | ((with_reducible apply wk_load (ty := 33) (ha := ag33) 0); rfl; rfl)
      | ((with_reducible apply wk_load (ty := 33) (ha := ag33) 1); rfl; rfl)
      | (with_reducible refine callD_mk (front ?_ ?_))
      | (with_reducible refine callD_mk (back ?_ ?_))
      | (with_reducible refine nilTC_pos (by simp; omega) ?_)
      | (with_reducible refine nilTC_split (fun h => ?_) (fun h bn => ?_) <;> (try simp only [List.length_map] at h))
      | (with_reducible refine grd_cases (fun h => ?_) (fun h => ?_) <;> (try simp only [h]) <;> (try simp only [beq_iff_eq, beq_eq_false_iff_ne, bne_iff_ne, bne_eq_false_iff_eq, decide_eq_true_eq, decide_eq_false_iff_not, Bool.not_eq_true', Bool.not_eq_false', Bool.not_true, Bool.not_false, Bool.not_eq_eq_eq_not, ne_eq, Int.not_lt, Int.not_le, gt_iff_lt, ge_iff_le, Decidable.not_not] at h))
      | (with_reducible refine condC_split (fun h => ?_) (fun h => ?_) <;> (try simp only [h]) <;> (try simp only [beq_iff_eq, beq_eq_false_iff_ne, bne_iff_ne, bne_eq_false_iff_eq, decide_eq_true_eq, decide_eq_false_iff_not, Bool.not_eq_true', Bool.not_eq_false', Bool.not_true, Bool.not_false, Bool.not_eq_eq_eq_not, ne_eq, Int.not_lt, Int.not_le, gt_iff_lt, ge_iff_le, Decidable.not_not] at h))
      | omega | (simp only [List.length_append, List.length_map, List.length_cons, List.length_nil, List.length_drop, List.length_take, List.length_replicate]; omega))
      exact leafL (sub_cons sub_rfl) (leT_eq rfl) h
    · repeat' (first
      | simp only [WL, intF, strF, List.toList_toArray, List.set_cons_succ, List.set_cons_zero, List.getD_cons_succ, List.getD_cons_zero, List.getElem?_cons_succ, List.getElem?_cons_zero, List.length_cons, List.length_nil, List.replicate_succ, List.replicate_zero, List.cons_append, List.nil_append, List.append_nil, List.map_cons, List.map_nil, Option.bind_some, Option.map_some, Option.map_none, List.drop_succ_cons, List.drop_zero, List.take_succ_cons, List.take_zero, ← List.map_take, ← List.map_drop, List.take_length, Int.reduceToNat, ne_eq, reduceCtorEq, not_false_eq_true, Nat.reduceAdd, Nat.reduceSub, Nat.reduceLT, Nat.reduceLeDiff, Nat.reduceEqDiff, Nat.zero_lt_succ, Bool.not_true, Bool.not_false, beq_self_eq_true, true_and, and_true, Option.isSome_some, Option.isSome_none, reduceIte, Int.toNat_natCast, Bool.false_eq_true, List.length_map, Nat.le_refl, Option.some.injEq, exists_eq_left', Nat.add_right_cancel_iff, List.take_nil, List.drop_nil, T3, T4, T22, T32, T33, cok70, cok71, Try.results69]
      | (simp (disch := first | omega | (simp only [List.length_append, List.length_map, List.length_cons, List.length_nil, List.length_drop, List.length_take, List.length_replicate]; omega)) only [wrap_id, getI])
      | (with_reducible refine And.intro (by first | omega | exact ⟨_, rfl⟩ | (focus (simp; done)) | (simp; omega)) ?_)
      | ((with_reducible apply wk_load (ty := 22) (ha := ag22) 0); rfl; rfl)
      | ((with_reducible apply wk_load (ty := 22) (ha := ag22) 1); rfl; rfl)
      | ((with_reducible apply wk_load (ty := 33) (ha := ag33) 0); rfl; rfl)
      | ((with_reducible apply wk_load (ty := 33) (ha := ag33) 1); rfl; rfl)
      | (with_reducible refine callD_mk (front ?_ ?_))
      | (with_reducible refine callD_mk (back ?_ ?_))
      | (with_reducible refine nilTC_pos (by simp; omega) ?_)
      | (with_reducible refine nilTC_split (fun h => ?_) (fun h bn => ?_) <;> (try simp only [List.length_map] at h))
      | (with_reducible refine grd_cases (fun h => ?_) (fun h => ?_) <;> (try simp only [h]) <;> (try simp only [beq_iff_eq, beq_eq_false_iff_ne, bne_iff_ne, bne_eq_false_iff_eq, decide_eq_true_eq, decide_eq_false_iff_not, Bool.not_eq_true', Bool.not_eq_false', Bool.not_true, Bool.not_false, Bool.not_eq_eq_eq_not, ne_eq, Int.not_lt, Int.not_le, gt_iff_lt, ge_iff_le, Decidable.not_not] at h))
      | (with_reducible refine condC_split (fun h => ?_) (fun h => ?_) <;> (try simp only [h]) <;> (try simp only [beq_iff_eq, beq_eq_false_iff_ne, bne_iff_ne, bne_eq_false_iff_eq, decide_eq_true_eq, decide_eq_false_iff_not, Bool.not_eq_true', Bool.not_eq_false', Bool.not_true, Bool.not_false, Bool.not_eq_eq_eq_not, ne_eq, Int.not_lt, Int.not_le, gt_iff_lt, ge_iff_le, Decidable.not_not] at h))
      | omega | (simp only [List.length_append, List.length_map, List.length_cons, List.length_nil, List.length_drop, List.length_take, List.length_replicate]; omega))
      exact leafP (sub_cons sub_rfl) rfl h
  ·
    rw [drop_getDL (by omega), trims] at h2
    unfold trimAt at h2
    rw [if_neg (by omega), if_pos (by omega)] at h2
    refine callYD_iter [.obj b [SSI o l]] (leL_one le_rfl) h2 (fun σ3 h => ?_) (fun σ3 h => ?_) (fun c σ3 h => ?_)
    · repeat' (first
      | simp only [WL, intF, strF, List.toList_toArray, List.set_cons_succ, List.set_cons_zero, List.getD_cons_succ, List.getD_cons_zero, List.getElem?_cons_succ, List.getElem?_cons_zero, List.length_cons, List.length_nil, List.replicate_succ, List.replicate_zero, List.cons_append, List.nil_append, List.append_nil, List.map_cons, List.map_nil, Option.bind_some, Option.map_some, Option.map_none, List.drop_succ_cons, List.drop_zero, List.take_succ_cons, List.take_zero, ← List.map_take, ← List.map_drop, List.take_length, Int.reduceToNat, ne_eq, reduceCtorEq, not_false_eq_true, Nat.reduceAdd, Nat.reduceSub, Nat.reduceLT, Nat.reduceLeDiff, Nat.reduceEqDiff, Nat.zero_lt_succ, Bool.not_true, Bool.not_false, beq_self_eq_true, true_and, and_true, Option.isSome_some, Option.isSome_none, reduceIte, Int.toNat_natCast, Bool.false_eq_true, List.length_map, Nat.le_refl, Option.some.injEq, exists_eq_left', Nat.add_right_cancel_iff, List.take_nil, List.drop_nil, T3, T4, T22, T32, T33, cok70, cok71, Try.results69]
      | (simp (disch := first | omega | (simp only [List.length_append, List.length_map, List.length_cons, List.length_nil, List.length_drop, List.length_take, List.length_replicate]; omega)) only [wrap_id, getI])
      | (with_reducible refine And.intro (by first | omega | exact ⟨_, rfl⟩ | (focus (simp; done)) | (simp; omega)) ?_)
      | ((with_reducible apply wk_load (ty := 22) (ha := ag22) 0); rfl; rfl)
      | ((with_reducible apply wk_load (ty := 22) (ha := ag22) 1); rfl; rfl)
      | ((with_reducible apply wk_load (ty := 33) (ha := ag33) 0); rfl; rfl)
      | ((with_reducible apply wk_load (ty := 33) (ha := ag33) 1); rfl; rfl)
      | (with_reducible refine callD_mk (front ?_ ?_))
      | (with_reducible refine callD_mk (back ?_ ?_))
      | (with_reducible refine nilTC_pos (by simp; omega) ?_)
      | (with_reducible refine nilTC_split (fun h => ?_) (fun h bn => ?_) <;> (try simp only [List.length_map] at h))
      | (with_reducible refine grd_cases (fun h => ?_) (fun h => ?_) <;> (try simp only [h]) <;> (try simp only [beq_iff_eq, beq_eq_false_iff_ne, bne_iff_ne, bne_eq_false_iff_eq, decide_eq_true_eq, decide_eq_false_iff_not, Bool.not_eq_true', Bool.not_eq_false', Bool.not_true, Bool.not_false, Bool.not_eq_eq_eq_not, ne_eq, Int.not_lt, Int.not_le, gt_iff_lt, ge_iff_le, Decidable.not_not] at h))
      | (with_reducible refine condC_split (fun h => ?_) (fun h => ?_) <;> (try simp only [h]) <;> (try simp only [beq_iff_eq, beq_eq_false_iff_ne, bne_iff_ne, bne_eq_false_iff_eq, decide_eq_true_eq, decide_eq_false_iff_not, Bool.not_eq_true', Bool.not_eq_false', Bool.not_true, Bool.not_false, Bool.not_eq_eq_eq_not, ne_eq, Int.not_lt, Int.not_le, gt_iff_lt, ge_iff_le, Decidable.not_not] at h))
      | omega | (simp only [List.length_append, List.length_map, List.length_cons, List.length_nil, List.length_drop, List.length_take, List.length_replicate]; omega))
      exact ⟨(k + 1, σ3), St_le_same (by repeat (first | exact trivial | refine ⟨le_rfl, ?_⟩ | refine ⟨le_any, ?_⟩ | refine ⟨le_ro, ?_⟩ | refine ⟨le_nil (by decide), ?_⟩ | refine ⟨le_wrap (by omega) (by omega) (by omega), ?_⟩ | refine ⟨le_int (by omega), ?_⟩ | refine ⟨le_eq (by simp), ?_⟩)) id, ⟨by dsimp only; omega, h⟩, by dsimp only; omega⟩
    · repeat' (first
      | simp only [WL, intF, strF, List.toList_toArray, List.set_cons_succ, List.set_cons_zero, List.getD_cons_succ, List.getD_cons_zero, List.getElem?_cons_succ, List.getElem?_cons_zero, List.length_cons, List.length_nil, List.replicate_succ, List.replicate_zero, List.cons_append, List.nil_append, List.append_nil, List.map_cons, List.map_nil, Option.bind_some, Option.map_some, Option.map_none, List.drop_succ_cons, List.drop_zero, List.take_succ_cons, List.take_zero, ← List.map_take, ← List.map_drop, List.take_length, Int.reduceToNat, ne_eq, reduceCtorEq, not_false_eq_true, Nat.reduceAdd, Nat.reduceSub, Nat.reduceLT, Nat.reduceLeDiff, Nat.reduceEqDiff, Nat.zero_lt_succ, Bool.not_true, Bool.not_false, beq_self_eq_true, true_and, and_true, Option.isSome_some, Option.isSome_none, reduceIte, Int.toNat_natCast, Bool.false_eq_true, List.length_map, Nat.le_refl, Option.some.injEq, exists_eq_left', Nat.add_right_cancel_iff, List.take_nil, List.drop_nil, T3, T4, T22, T32, T33, cok70, cok71, Try.results69]
      | (simp (disch := first | omega | (simp only [List.length_append, List.length_map, List.length_cons, List.length_nil, List.length_drop, List.length_take, List.length_replicate]; omega)) only [wrap_id, getI])
      | (with_reducible refine And.intro (by first | omega | exact ⟨_, rfl⟩ | (focus (simp; done)) | (simp; omega)) ?_)
      | ((with_reducible apply wk_load (ty := 22) (ha := ag22) 0); rfl; rfl)
      | ((with_reducible apply wk_load (ty := 22) (ha := ag22) 1); rfl; rfl)
      | ((with_reducible apply wk_load (ty := 33) (ha := ag33) 0); rfl; rfl)
      | ((with_reducible apply wk_load (ty := 33) (ha := ag33) 1); rfl; rfl)
      | (with_reducible refine callD_mk (front ?_ ?_))
      | (with_reducible refine callD_mk (back ?_ ?_))
      | (with_reducible refine nilTC_pos (by simp; omega) ?_)
      | (with_reducible refine nilTC_split (fun h => ?_) (fun h bn => ?_) <;> (try simp only [List.length_map] at h))
      | (with_reducible refine grd_cases (fun h => ?_) (fun h => ?_) <;> (try simp only [h]) <;> (try simp only [beq_iff_eq, beq_eq_false_iff_ne, bne_iff_ne, bne_eq_false_iff_eq, decide_eq_true_eq, decide_eq_false_iff_not, Bool.not_eq_true', Bool.not_eq_false', Bool.not_true, Bool.not_false, Bool.not_eq_eq_eq_not, ne_eq, Int.not_lt, Int.not_le, gt_iff_lt, ge_iff_le, Decidable.not_not] at h))
      | (with_reducible refine condC_split (fun h => ?_) (fun h => ?_) <;> (try simp only [h]) <;> (try simp only [beq_iff_eq, beq_eq_false_iff_ne, bne_iff_ne, bne_eq_false_iff_eq, decide_eq_true_eq, decide_eq_false_iff_not, Bool.not_eq_true', Bool.not_eq_false', Bool.not_true, Bool.not_false, Bool.not_eq_eq_eq_not, ne_eq, Int.not_lt, Int.not_le, gt_iff_lt, ge_iff_le, Decidable.not_not] at h))
      | omega | (simp only [List.length_append, List.length_map, List.length_cons, List.length_nil, List.length_drop, List.length_take, List.length_replicate]; omega))
      exact leafL (sub_cons sub_rfl) (leT_eq rfl) h
    · repeat' (first
      | simp only [WL, intF, strF, List.toList_toArray, List.set_cons_succ, List.set_cons_zero, List.getD_cons_succ, List.getD_cons_zero, List.getElem?_cons_succ, List.getElem?_cons_zero, List.length_cons, List.length_nil, List.replicate_succ, List.replicate_zero, List.cons_append, List.nil_append, List.append_nil, List.map_cons, List.map_nil, Option.bind_some, Option.map_some, Option.map_none, List.drop_succ_cons, List.drop_zero, List.take_succ_cons, List.take_zero, ← List.map_take, ← List.map_drop, List.take_length, Int.reduceToNat, ne_eq, reduceCtorEq, not_false_eq_true, Nat.reduceAdd, Nat.reduceSub, Nat.reduceLT, Nat.reduceLeDiff, Nat.reduceEqDiff, Nat.zero_lt_succ, Bool.not_true, Bool.not_false, beq_self_eq_true, true_and, and_true, Option.isSome_some, Option.isSome_none, reduceIte, Int.toNat_natCast, Bool.false_eq_true, List.length_map, Nat.le_refl, Option.some.injEq, exists_eq_left', Nat.add_right_cancel_iff, List.take_nil, List.drop_nil, T3, T4, T22, T32, T33, cok70, cok71, Try.results69]
      | (simp (disch := first | omega | (simp only [List.length_append, List.length_map, List.length_cons, List.length_nil, List.length_drop, List.length_take, List.length_replicate]; omega)) only [wrap_id, getI])
      | (with_reducible refine And.intro (by first | omega | exact ⟨_, rfl⟩ | (focus (simp; done)) | (simp; omega)) ?_)
      | ((with_reducible apply wk_load (ty := 22) (ha := ag22) 0); rfl; rfl)
      | ((with_reducible apply wk_load (ty := 22) (ha := ag22) 1); rfl; rfl)
      | ((with_reducible apply wk_load (ty := 33) (ha := ag33) 0); rfl; rfl)
      | ((with_reducible apply wk_load (ty := 33) (ha := ag33) 1); rfl; rfl)
      | (with_reducible refine callD_mk (front ?_ ?_))
      | (with_reducible refine callD_mk (back ?_ ?_))
      | (with_reducible refine nilTC_pos (by simp; omega) ?_)
      | (with_reducible refine nilTC_split (fun h => ?_) (fun h bn => ?_) <;> (try simp only [List.length_map] at h))
      | (with_reducible refine grd_cases (fun h => ?_) (fun h => ?_) <;> (try simp only [h]) <;> (try simp only [beq_iff_eq, beq_eq_false_iff_ne, bne_iff_ne, bne_eq_false_iff_eq, decide_eq_true_eq, decide_eq_false_iff_not, Bool.not_eq_true', Bool.not_eq_false', Bool.not_true, Bool.not_false, Bool.not_eq_eq_eq_not, ne_eq, Int.not_lt, Int.not_le, gt_iff_lt, ge_iff_le, Decidable.not_not] at h))
      | (with_reducible refine condC_split (fun h => ?_) (fun h => ?_) <;> (try simp only [h]) <;> (try simp only [beq_iff_eq, beq_eq_false_iff_ne, bne_iff_ne, bne_eq_false_iff_eq, decide_eq_true_eq, decide_eq_false_iff_not, Bool.not_eq_true', Bool.not_eq_false', Bool.not_true, Bool.not_false, Bool.not_eq_eq_eq_not, ne_eq, Int.not_lt, Int.not_le, gt_iff_lt, ge_iff_le, Decidable.not_not] at h))
      | omega | (simp only [List.length_append, List.length_map, List.length_cons, List.length_nil, List.length_drop, List.length_take, List.length_replicate]; omega))
      exact leafP (sub_cons sub_rfl) rfl h
  ·
    rw [drop_getDL (by omega), trims] at h2
    unfold trimAt at h2
    rw [if_pos (by omega), if_neg (by omega)] at h2
    refine callYD_iter [.obj b [SSI o l]] (leL_one le_rfl) h2 (fun σ3 h => ?_) (fun σ3 h => ?_) (fun c σ3 h => ?_)
    · repeat' (first
      | simp only [WL, intF, strF, List.toList_toArray, List.set_cons_succ, List.set_cons_zero, List.getD_cons_succ, List.getD_cons_zero, List.getElem?_cons_succ, List.getElem?_cons_zero, List.length_cons, List.length_nil, List.replicate_succ, List.replicate_zero, List.cons_append, List.nil_append, List.append_nil, List.map_cons, List.map_nil, Option.bind_some, Option.map_some, Option.map_none, List.drop_succ_cons, List.drop_zero, List.take_succ_cons, List.take_zero, ← List.map_take, ← List.map_drop, List.take_length, Int.reduceToNat, ne_eq, reduceCtorEq, not_false_eq_true, Nat.reduceAdd, Nat.reduceSub, Nat.reduceLT, Nat.reduceLeDiff, Nat.reduceEqDiff, Nat.zero_lt_succ, Bool.not_true, Bool.not_false, beq_self_eq_true, true_and, and_true, Option.isSome_some, Option.isSome_none, reduceIte, Int.toNat_natCast, Bool.false_eq_true, List.length_map, Nat.le_refl, Option.some.injEq, exists_eq_left', Nat.add_right_cancel_iff, List.take_nil, List.drop_nil, T3, T4, T22, T32, T33, cok70, cok71, Try.results69]
      | (simp (disch := first | omega | (simp only [List.length_append, List.length_map, List.length_cons, List.length_nil, List.length_drop, List.length_take, List.length_replicate]; omega)) only [wrap_id, getI])
      | (with_reducible refine And.intro (by first | omega | exact ⟨_, rfl⟩ | (focus (simp; done)) | (simp; omega)) ?_)
      | ((with_reducible apply wk_load (ty := 22) (ha := ag22) 0); rfl; rfl)
      | ((with_reducible apply wk_load (ty := 22) (ha := ag22) 1); rfl; rfl)
      | ((with_reducible apply wk_load (ty := 33) (ha := ag33) 0); rfl; rfl)
      | ((with_reducible apply wk_load (ty := 33) (ha := ag33) 1); rfl; rfl)
      | (with_reducible refine callD_mk (front ?_ ?_))
      | (with_reducible refine callD_mk (back ?_ ?_))
      | (with_reducible refine nilTC_pos (by simp; omega) ?_)
      | (with_reducible refine nilTC_split (fun h => ?_) (fun h bn => ?_) <;> (try simp only [List.length_map] at h))
      | (with_reducible refine grd_cases (fun h => ?_) (fun h => ?_) <;> (try simp only [h]) <;> (try simp only [beq_iff_eq, beq_eq_false_iff_ne, bne_iff_ne, bne_eq_false_iff_eq, decide_eq_true_eq, decide_eq_false_iff_not, Bool.not_eq_true', Bool.not_eq_false', Bool.not_true, Bool.not_false, Bool.not_eq_eq_eq_not, ne_eq, Int.not_lt, Int.not_le, gt_iff_lt, ge_iff_le, Decidable.not_not] at h))
      | (with_reducible refine condC_split (fun h => ?_) (fun h => ?_) <;> (try simp only [h]) <;> (try simp only [beq_iff_eq, beq_eq_false_iff_ne, bne_iff_ne, bne_eq_false_iff_eq, decide_eq_true_eq, decide_eq_false_iff_not, Bool.not_eq_true', Bool.not_eq_false', Bool.not_true, Bool.not_false, Bool.not_eq_eq_eq_not, ne_eq, Int.not_lt, Int.not_le, gt_iff_lt, ge_iff_le, Decidable.not_not] at h))
      | omega | (simp only [List.length_append, List.length_map, List.length_cons, List.length_nil, List.length_drop, List.length_take, List.length_replicate]; omega))
      exact ⟨(k + 1, σ3), St_le_same (by repeat (first | exact trivial | refine ⟨le_rfl, ?_⟩ | refine ⟨le_any, ?_⟩ | refine ⟨le_ro, ?_⟩ | refine ⟨le_nil (by decide), ?_⟩ | refine ⟨le_wrap (by omega) (by omega) (by omega), ?_⟩ | refine ⟨le_int (by omega), ?_⟩ | refine ⟨le_eq (by simp), ?_⟩)) id, ⟨by dsimp only; omega, h⟩, by dsimp only; omega⟩
    · repeat' (first
      | simp only [WL, intF, strF, List.toList_toArray, List.set_cons_succ, List.set_cons_zero, List.getD_cons_succ, List.getD_cons_zero, List.getElem?_cons_succ, List.getElem?_cons_zero, List.length_cons, List.length_nil, List.replicate_succ, List.replicate_zero, List.cons_append, List.nil_append, List.append_nil, List.map_cons, List.map_nil, Option.bind_some, Option.map_some, Option.map_none, List.drop_succ_cons, List.drop_zero, List.take_succ_cons, List.take_zero, ← List.map_take, ← List.map_drop, List.take_length, Int.reduceToNat, ne_eq, reduceCtorEq, not_false_eq_true, Nat.reduceAdd, Nat.reduceSub, Nat.reduceLT, Nat.reduceLeDiff, Nat.reduceEqDiff, Nat.zero_lt_succ, Bool.not_true, Bool.not_false, beq_self_eq_true, true_and, and_true, Option.isSome_some, Option.isSome_none, reduceIte, Int.toNat_natCast, Bool.false_eq_true, List.length_map, Nat.le_refl, Option.some.injEq, exists_eq_left', Nat.add_right_cancel_iff, List.take_nil, List.drop_nil, T3, T4, T22, T32, T33, cok70, cok71, Try.results69]
      | (simp (disch := first | omega | (simp only [List.length_append, List.length_map, List.length_cons, List.length_nil, List.length_drop, List.length_take, List.length_replicate]; omega)) only [wrap_id, getI])
      | (with_reducible refine And.intro (by first | omega | exact ⟨_, rfl⟩ | (focus (simp; done)) | (simp; omega)) ?_)
      | ((with_reducible apply wk_load (ty := 22) (ha := ag22) 0); rfl; rfl)
      | ((with_reducible apply wk_load (ty := 22) (ha := ag22) 1); rfl; rfl)
      | ((with_reducible apply wk_load (ty := 33) (ha := ag33) 0); rfl; rfl)
      | ((with_reducible apply wk_load (ty := 33) (ha := ag33) 1); rfl; rfl)
      | (with_reducible refine callD_mk (front ?_ ?_))
      | (with_reducible refine callD_mk (back ?_ ?_))
      | (with_reducible refine nilTC_pos (by simp; omega) ?_)
      | (with_reducible refine nilTC_split (fun h => ?_) (fun h bn => ?_) <;> (try simp only [List.length_map] at h))
      | (with_reducible refine grd_cases (fun h => ?_) (fun h => ?_) <;> (try simp only [h]) <;> (try simp only [beq_iff_eq, beq_eq_false_iff_ne, bne_iff_ne, bne_eq_false_iff_eq, decide_eq_true_eq, decide_eq_false_iff_not, Bool.not_eq_true', Bool.not_eq_false', Bool.not_true, Bool.not_false, Bool.not_eq_eq_eq_not, ne_eq, Int.not_lt, Int.not_le, gt_iff_lt, ge_iff_le, Decidable.not_not] at h))
      | (with_reducible refine condC_split (fun h => ?_) (fun h => ?_) <;> (try simp only [h]) <;> (try simp only [beq_iff_eq, beq_eq_false_iff_ne, bne_iff_ne, bne_eq_false_iff_eq, decide_eq_true_eq, decide_eq_false_iff_not, Bool.not_eq_true', Bool.not_eq_false', Bool.not_true, Bool.not_false, Bool.not_eq_eq_eq_not, ne_eq, Int.not_lt, Int.not_le, gt_iff_lt, ge_iff_le, Decidable.not_not] at h))
      | omega | (simp only [List.length_append, List.length_map, List.length_cons, List.length_nil, List.length_drop, List.length_take, List.length_replicate]; omega))
      exact leafL (sub_cons sub_rfl) (leT_eq rfl) h
    · repeat' (first
      | simp only [WL, intF, strF, List.toList_toArray, List.set_cons_succ, List.set_cons_zero, List.getD_cons_succ, List.getD_cons_zero, List.getElem?_cons_succ, List.getElem?_cons_zero, List.length_cons, List.length_nil, List.replicate_succ, List.replicate_zero, List.cons_append, List.nil_append, List.append_nil, List.map_cons, List.map_nil, Option.bind_some, Option.map_some, Option.map_none, List.drop_succ_cons, List.drop_zero, List.take_succ_cons, List.take_zero, ← List.map_take, ← List.map_drop, List.take_length, Int.reduceToNat, ne_eq, reduceCtorEq, not_false_eq_true, Nat.reduceAdd, Nat.reduceSub, Nat.reduceLT, Nat.reduceLeDiff, Nat.reduceEqDiff, Nat.zero_lt_succ, Bool.not_true, Bool.not_false, beq_self_eq_true, true_and, and_true, Option.isSome_some, Option.isSome_none, reduceIte, Int.toNat_natCast, Bool.false_eq_true, List.length_map, Nat.le_refl, Option.some.injEq, exists_eq_left', Nat.add_right_cancel_iff, List.take_nil, List.drop_nil, T3, T4, T22, T32, T33, cok70, cok71, Try.results69]
      | (simp (disch := first | omega | (simp only [List.length_append, List.length_map, List.length_cons, List.length_nil, List.length_drop, List.length_take, List.length_replicate]; omega)) only [wrap_id, getI])
      | (with_reducible refine And.intro (by first | omega | exact ⟨_, rfl⟩ | (focus (simp; done)) | (simp; omega)) ?_)
      | ((with_reducible apply wk_load (ty := 22) (ha := ag22) 0); rfl; rfl)
      | ((with_reducible apply wk_load (ty := 22) (ha := ag22) 1); rfl; rfl)
      | ((with_reducible apply wk_load (ty := 33) (ha := ag33) 0); rfl; rfl)
      | ((with_reducible apply wk_load (ty := 33) (ha := ag33) 1); rfl; rfl)
      | (with_reducible refine callD_mk (front ?_ ?_))
      | (with_reducible refine callD_mk (back ?_ ?_))
      | (with_reducible refine nilTC_pos (by simp; omega) ?_)
      | (with_reducible refine nilTC_split (fun h => ?_) (fun h bn => ?_) <;> (try simp only [List.length_map] at h))
      | (with_reducible refine grd_cases (fun h => ?_) (fun h => ?_) <;> (try simp only [h]) <;> (try simp only [beq_iff_eq, beq_eq_false_iff_ne, bne_iff_ne, bne_eq_false_iff_eq, decide_eq_true_eq, decide_eq_false_iff_not, Bool.not_eq_true', Bool.not_eq_false', Bool.not_true, Bool.not_false, Bool.not_eq_eq_eq_not, ne_eq, Int.not_lt, Int.not_le, gt_iff_lt, ge_iff_le, Decidable.not_not] at h))
      | (with_reducible refine condC_split (fun h => ?_) (fun h => ?_) <;> (try simp only [h]) <;> (try simp only [beq_iff_eq, beq_eq_false_iff_ne, bne_iff_ne, bne_eq_false_iff_eq, decide_eq_true_eq, decide_eq_false_iff_not, Bool.not_eq_true', Bool.not_eq_false', Bool.not_true, Bool.not_false, Bool.not_eq_eq_eq_not, ne_eq, Int.not_lt, Int.not_le, gt_iff_lt, ge_iff_le, Decidable.not_not] at h))
      | omega | (simp only [List.length_append, List.length_map, List.length_cons, List.length_nil, List.length_drop, List.length_take, List.length_replicate]; omega))
      exact leafP (sub_cons sub_rfl) rfl h
  ·
    rw [drop_getDL (by omega), trims] at h2
    unfold trimAt at h2
    rw [if_neg (by omega), if_neg (by omega)] at h2
    refine callYD_iter [.obj b [SSI o l]] (leL_one le_rfl) h2 (fun σ3 h => ?_) (fun σ3 h => ?_) (fun c σ3 h => ?_)
    · repeat' (first
      | simp only [WL, intF, strF, List.toList_toArray, List.set_cons_succ, List.set_cons_zero, List.getD_cons_succ, List.getD_cons_zero, List.getElem?_cons_succ, List.getElem?_cons_zero, List.length_cons, List.length_nil, List.replicate_succ, List.replicate_zero, List.cons_append, List.nil_append, List.append_nil, List.map_cons, List.map_nil, Option.bind_some, Option.map_some, Option.map_none, List.drop_succ_cons, List.drop_zero, List.take_succ_cons, List.take_zero, ← List.map_take, ← List.map_drop, List.take_length, Int.reduceToNat, ne_eq, reduceCtorEq, not_false_eq_true, Nat.reduceAdd, Nat.reduceSub, Nat.reduceLT, Nat.reduceLeDiff, Nat.reduceEqDiff, Nat.zero_lt_succ, Bool.not_true, Bool.not_false, beq_self_eq_true, true_and, and_true, Option.isSome_some, Option.isSome_none, reduceIte, Int.toNat_natCast, Bool.false_eq_true, List.length_map, Nat.le_refl, Option.some.injEq, exists_eq_left', Nat.add_right_cancel_iff, List.take_nil, List.drop_nil, T3, T4, T22, T32, T33, cok70, cok71, Try.results69]
      | (simp (disch := first | omega | (simp only [List.length_append, List.length_map, List.length_cons, List.length_nil, List.length_drop, List.length_take, List.length_replicate]; omega)) only [wrap_id, getI])
      | (with_reducible refine And.intro (by first | omega | exact ⟨_, rfl⟩ | (focus (simp; done)) | (simp; omega)) ?_)
      | ((with_reducible apply wk_load (ty := 22) (ha := ag22) 0); rfl; rfl)
      | ((with_reducible apply wk_load (ty := 22) (ha := ag22) 1); rfl; rfl)
      | ((with_reducible apply wk_load (ty := 33) (ha := ag33) 0); rfl; rfl)
      | ((with_reducible apply wk_load (ty := 33) (ha := ag33) 1); rfl; rfl)
      | (with_reducible refine callD_mk (front ?_ ?_))
      | (with_reducible refine callD_mk (back ?_ ?_))
      | (with_reducible refine nilTC_pos (by simp; omega) ?_)
      | (with_reducible refine nilTC_split (fun h => ?_) (fun h bn => ?_) <;> (try simp only [List.length_map] at h))
      | (with_reducible refine grd_cases (fun h => ?_) (fun h => ?_) <;> (try simp only [h]) <;> (try simp only [beq_iff_eq, beq_eq_false_iff_ne, bne_iff_ne, bne_eq_false_iff_eq, decide_eq_true_eq, decide_eq_false_iff_not, Bool.not_eq_true', Bool.not_eq_false', Bool.not_true, Bool.not_false, Bool.not_eq_eq_eq_not, ne_eq, Int.not_lt, Int.not_le, gt_iff_lt, ge_iff_le, Decidable.not_not] at h))
      | (with_reducible refine condC_split (fun h => ?_) (fun h => ?_) <;> (try simp only [h]) <;> (try simp only [beq_iff_eq, beq_eq_false_iff_ne, bne_iff_ne, bne_eq_false_iff_eq, decide_eq_true_eq, decide_eq_false_iff_not, Bool.not_eq_true', Bool.not_eq_false', Bool.not_true, Bool.not_false, Bool.not_eq_eq_eq_not, ne_eq, Int.not_lt, Int.not_le, gt_iff_lt, ge_iff_le, Decidable.not_not] at h))
      | omega | (simp only [List.length_append, List.length_map, List.length_cons, List.length_nil, List.length_drop, List.length_take, List.length_replicate]; omega))
      exact ⟨(k + 1, σ3), St_le_same (by repeat (first | exact trivial | refine ⟨le_rfl, ?_⟩ | refine ⟨le_any, ?_⟩ | refine ⟨le_ro, ?_⟩ | refine ⟨le_nil (by decide), ?_⟩ | refine ⟨le_wrap (by omega) (by omega) (by omega), ?_⟩ | refine ⟨le_int (by omega), ?_⟩ | refine ⟨le_eq (by simp), ?_⟩)) id, ⟨by dsimp only; omega, h⟩, by dsimp only; omega⟩
    · repeat' (first
      | simp only [WL, intF, strF, List.toList_toArray, List.set_cons_succ, List.set_cons_zero, List.getD_cons_succ, List.getD_cons_zero, List.getElem?_cons_succ, List.getElem?_cons_zero, List.length_cons, List.length_nil, List.replicate_succ, List.replicate_zero, List.cons_append, List.nil_append, List.append_nil, List.map_cons, List.map_nil, Option.bind_some, Option.map_some, Option.map_none, List.drop_succ_cons, List.drop_zero, List.take_succ_cons, List.take_zero, ← List.map_take, ← List.map_drop, List.take_length, Int.reduceToNat, ne_eq, reduceCtorEq, not_false_eq_true, Nat.reduceAdd, Nat.reduceSub, Nat.reduceLT, Nat.reduceLeDiff, Nat.reduceEqDiff, Nat.zero_lt_succ, Bool.not_true, Bool.not_false, beq_self_eq_true, true_and, and_true, Option.isSome_some, Option.isSome_none, reduceIte, Int.toNat_natCast, Bool.false_eq_true, List.length_map, Nat.le_refl, Option.some.injEq, exists_eq_left', Nat.add_right_cancel_iff, List.take_nil, List.drop_nil, T3, T4, T22, T32, T33, cok70, cok71, Try.results69]
      | (simp (disch := first | omega | (simp only [List.length_append, List.length_map, List.length_cons, List.length_nil, List.length_drop, List.length_take, List.length_replicate]; omega)) only [wrap_id, getI])
      | (with_reducible refine And.intro (by first | omega | exact ⟨_, rfl⟩ | (focus (simp; done)) | (simp; omega)) ?_)
      | ((with_reducible apply wk_load (ty := 22) (ha := ag22) 0); rfl; rfl)
      | ((with_reducible apply wk_load (ty := 22) (ha := ag22) 1); rfl; rfl)
      | ((with_reducible apply wk_load (ty := 33) (ha := ag33) 0); rfl; rfl)
      | ((with_reducible apply wk_load (ty := 33) (ha := ag33) 1); rfl; rfl)
      | (with_reducible refine callD_mk (front ?_ ?_))
      | (with_reducible refine callD_mk (back ?_ ?_))
      | (with_reducible refine nilTC_pos (by simp; omega) ?_)
      | (with_reducible refine nilTC_split (fun h => ?_) (fun h bn => ?_) <;> (try simp only [List.length_map] at h))
      | (with_reducible refine grd_cases (fun h => ?_) (fun h => ?_) <;> (try simp only [h]) <;> (try simp only [beq_iff_eq, beq_eq_false_iff_ne, bne_iff_ne, bne_eq_false_iff_eq, decide_eq_true_eq, decide_eq_false_iff_not, Bool.not_eq_true', Bool.not_eq_false', Bool.not_true, Bool.not_false, Bool.not_eq_eq_eq_not, ne_eq, Int.not_lt, Int.not_le, gt_iff_lt, ge_iff_le, Decidable.not_not] at h))
      | (with_reducible refine condC_split (fun h => ?_) (fun h => ?_) <;> (try simp only [h]) <;> (try simp only [beq_iff_eq, beq_eq_false_iff_ne, bne_iff_ne, bne_eq_false_iff_eq, decide_eq_true_eq, decide_eq_false_iff_not, Bool.not_eq_true', Bool.not_eq_false', Bool.not_true, Bool.not_false, Bool.not_eq_eq_eq_not, ne_eq, Int.not_lt, Int.not_le, gt_iff_lt, ge_iff_le, Decidable.not_not] at h))
      | omega | (simp only [List.length_append, List.length_map, List.length_cons, List.length_nil, List.length_drop, List.length_take, List.length_replicate]; omega))
      exact leafL (sub_cons sub_rfl) (leT_eq rfl) h
    · repeat' (first
      | simp only [WL, intF, strF, List.toList_toArray, List.set_cons_succ, List.set_cons_zero, List.getD_cons_succ, List.getD_cons_zero, List.getElem?_cons_succ, List.getElem?_cons_zero, List.length_cons, List.length_nil, List.replicate_succ, List.replicate_zero, List.cons_append, List.nil_append, List.append_nil, List.map_cons, List.map_nil, Option.bind_some, Option.map_some, Option.map_none, List.drop_succ_cons, List.drop_zero, List.take_succ_cons, List.take_zero, ← List.map_take, ← List.map_drop, List.take_length, Int.reduceToNat, ne_eq, reduceCtorEq, not_false_eq_true, Nat.reduceAdd, Nat.reduceSub, Nat.reduceLT, Nat.reduceLeDiff, Nat.reduceEqDiff, Nat.zero_lt_succ, Bool.not_true, Bool.not_false, beq_self_eq_true, true_and, and_true, Option.isSome_some, Option.isSome_none, reduceIte, Int.toNat_natCast, Bool.false_eq_true, List.length_map, Nat.le_refl, Option.some.injEq, exists_eq_left', Nat.add_right_cancel_iff, List.take_nil, List.drop_nil, T3, T4, T22, T32, T33, cok70, cok71, Try.results69]
      | (simp (disch := first | omega | (simp only [List.length_append, List.length_map, List.length_cons, List.length_nil, List.length_drop, List.length_take, List.length_replicate]; omega)) only [wrap_id, getI])
      | (with_reducible refine And.intro (by first | omega | exact ⟨_, rfl⟩ | (focus (simp; done)) | (simp; omega)) ?_)
      | ((with_reducible apply wk_load (ty := 22) (ha := ag22) 0); rfl; rfl)
      | ((with_reducible apply wk_load (ty := 22) (ha := ag22) 1); rfl; rfl)
      | ((with_reducible apply wk_load (ty := 33) (ha := ag33) 0); rfl; rfl)
      | ((with_reducible apply wk_load (ty := 33) (ha := ag33) 1); rfl; rfl)
      | (with_reducible refine callD_mk (front ?_ ?_))
      | (with_reducible refine callD_mk (back ?_ ?_))
      | (with_reducible refine nilTC_pos (by simp; omega) ?_)
      | (with_reducible refine nilTC_split (fun h => ?_) (fun h bn => ?_) <;> (try simp only [List.length_map] at h))
      | (with_reducible refine grd_cases (fun h => ?_) (fun h => ?_) <;> (try simp only [h]) <;> (try simp only [beq_iff_eq, beq_eq_false_iff_ne, bne_iff_ne, bne_eq_false_iff_eq, decide_eq_true_eq, decide_eq_false_iff_not, Bool.not_eq_true', Bool.not_eq_false', Bool.not_true, Bool.not_false, Bool.not_eq_eq_eq_not, ne_eq, Int.not_lt, Int.not_le, gt_iff_lt, ge_iff_le, Decidable.not_not] at h))
      | (with_reducible refine condC_split (fun h => ?_) (fun h => ?_) <;> (try simp only [h]) <;> (try simp only [beq_iff_eq, beq_eq_false_iff_ne, bne_iff_ne, bne_eq_false_iff_eq, decide_eq_true_eq, decide_eq_false_iff_not, Bool.not_eq_true', Bool.not_eq_false', Bool.not_true, Bool.not_false, Bool.not_eq_eq_eq_not, ne_eq, Int.not_lt, Int.not_le, gt_iff_lt, ge_iff_le, Decidable.not_not] at h))
      | omega | (simp only [List.length_append, List.length_map, List.length_cons, List.length_nil, List.length_drop, List.length_take, List.length_replicate]; omega))
      exact leafP (sub_cons sub_rfl) rfl h
  · rw [List.drop_eq_nil_of_le (by omega)] at h2
    exact leafL (sub_cons sub_rfl) (leT_eq rfl) h2

-- fold.Flow
set_option maxHeartbeats 4000000 in
theorem flow {l : List (List Int)} (hl : tot l ≤ 1000000000) (hK : K (.ret (SI none (flowF l))) σ) : ACallF κ Try.prog 30 [SSI o l] σ K := by
  have hlen := tot_len l
  refine ACallF.dropL (ACallF_intro Try.func30 rfl ?_)
  simp only [Try.ntmps30]
  repeat' (first
    | simp only [WL, intF, strF, List.toList_toArray, List.set_cons_succ, List.set_cons_zero, List.getD_cons_succ, List.getD_cons_zero, List.getElem?_cons_succ, List.getElem?_cons_zero, List.length_cons, List.length_nil, List.replicate_succ, List.replicate_zero, List.cons_append, List.nil_append, List.append_nil, List.map_cons, List.map_nil, Option.bind_some, Option.map_some, Option.map_none, List.drop_succ_cons, List.drop_zero, List.take_succ_cons, List.take_zero, ← List.map_take, ← List.map_drop, List.take_length, Int.reduceToNat, ne_eq, reduceCtorEq, not_false_eq_true, Nat.reduceAdd, Nat.reduceSub, Nat.reduceLT, Nat.reduceLeDiff, Nat.reduceEqDiff, Nat.zero_lt_succ, Bool.not_true, Bool.not_false, beq_self_eq_true, true_and, and_true, Option.isSome_some, Option.isSome_none, reduceIte, Int.toNat_natCast, Bool.false_eq_true, List.length_map, Nat.le_refl, Option.some.injEq, exists_eq_left', Nat.add_right_cancel_iff, List.take_nil, List.drop_nil, T3, T4, T22, T33, T52, cok54, cok55, Try.results30]
    | (simp (disch := first | omega | (simp only [List.length_append, List.length_map, List.length_cons, List.length_nil, List.length_drop, List.length_take, List.length_replicate]; omega)) only [wrap_id, getI])
    | (with_reducible refine And.intro (by first | omega | exact ⟨_, rfl⟩ | (focus (simp; done)) | (simp; omega)) ?_)
    | ((with_reducible apply wk_load (ty := 3) (ha := ag3) 0); rfl; rfl)
    | ((with_reducible apply wk_load (ty := 3) (ha := ag3) 1); rfl; rfl)
    | ((with_reducible apply wk_load (ty := 3) (ha := ag3) 2); rfl; rfl)
    | ((with_reducible apply wk_load (ty := 3) (ha := ag3) 3); rfl; rfl)
    | ((with_reducible apply wk_load (ty := 22) (ha := ag22) 0); rfl; rfl)
    | ((with_reducible apply wk_load (ty := 22) (ha := ag22) 1); rfl; rfl)
    | ((with_reducible apply wk_load (ty := 22) (ha := ag22) 2); rfl; rfl)
    | ((with_reducible apply wk_load (ty := 22) (ha := ag22) 3); rfl; rfl)
    | ((with_reducible apply wk_load (ty := 33) (ha := ag33) 0); rfl; rfl)
    | ((with_reducible apply wk_load (ty := 33) (ha := ag33) 1); rfl; rfl)
    | ((with_reducible apply wk_load (ty := 33) (ha := ag33) 2); rfl; rfl)
    | ((with_reducible apply wk_load (ty := 33) (ha := ag33) 3); rfl; rfl)
    | ((with_reducible refine storeC_mk ?_); first | ((with_reducible apply act_store (t := 3) (hs := sz3) 0); rfl; (first | decide | (focus (simp; done)) | omega); rfl) | ((with_reducible apply act_store (t := 3) (hs := sz3) 1); rfl; (first | decide | (focus (simp; done)) | omega); rfl) | ((with_reducible apply act_store (t := 3) (hs := sz3) 2); rfl; (first | decide | (focus (simp; done)) | omega); rfl) | ((with_reducible apply act_store (t := 3) (hs := sz3) 3); rfl; (first | decide | (focus (simp; done)) | omega); rfl) | ((with_reducible apply act_store (t := 22) (hs := sz22) 0); rfl; (first | decide | (focus (simp; done)) | omega); rfl) | ((with_reducible apply act_store (t := 22) (hs := sz22) 1); rfl; (first | decide | (focus (simp; done)) | omega); rfl) | ((with_reducible apply act_store (t := 22) (hs := sz22) 2); rfl; (first | decide | (focus (simp; done)) | omega); rfl) | ((with_reducible apply act_store (t := 22) (hs := sz22) 3); rfl; (first | decide | (focus (simp; done)) | omega); rfl))
    | ((with_reducible refine actC_mk ?_); (with_reducible refine act_box ?_ (fun b => ?_)); rfl)
    | ((with_reducible refine actC_mk ?_); (with_reducible refine act_new zr3 ?_ (fun b => ?_)); rfl)
    | ((with_reducible refine actC_mk ?_); (with_reducible refine act_new zr22 ?_ (fun b => ?_)); rfl)
    | ((with_reducible refine actC_mk ?_); (with_reducible refine act_new zr33 ?_ (fun b => ?_)); rfl)
    | ((with_reducible refine actC_mk (act_append_nil (sz := 1) (by decide) ?_)))
    | ((with_reducible refine actC_mk (act_append_src_nil (sz := 1) (by decide) ?_)))
    | ((with_reducible refine actC_mk (act_append 0 rfl sl22 sz3 by3 zr3 rfl ?_ ?_ ?_ (fun tk => ?_))); (first | exact goodI _ | exact goodU _ | rfl | exact goodSL _ | exact goodLL _ | (focus (simp [goodL, oneA, AV.cells]; done)) | skip))
    | ((with_reducible refine (act_append 0 rfl sl22 sz3 by3 zr3 rfl ?_ ?_ ?_ (fun tk => ?_))); (first | exact goodI _ | exact goodU _ | rfl | exact goodSL _ | exact goodLL _ | (focus (simp [goodL, oneA, AV.cells]; done)) | skip))
    | ((with_reducible refine actC_mk (act_append 1 rfl sl22 sz3 by3 zr3 rfl ?_ ?_ ?_ (fun tk => ?_))); (first | exact goodI _ | exact goodU _ | rfl | exact goodSL _ | exact goodLL _ | (focus (simp [goodL, oneA, AV.cells]; done)) | skip))
    | ((with_reducible refine (act_append 1 rfl sl22 sz3 by3 zr3 rfl ?_ ?_ ?_ (fun tk => ?_))); (first | exact goodI _ | exact goodU _ | rfl | exact goodSL _ | exact goodLL _ | (focus (simp [goodL, oneA, AV.cells]; done)) | skip))
    | ((with_reducible refine actC_mk (act_append 2 rfl sl22 sz3 by3 zr3 rfl ?_ ?_ ?_ (fun tk => ?_))); (first | exact goodI _ | exact goodU _ | rfl | exact goodSL _ | exact goodLL _ | (focus (simp [goodL, oneA, AV.cells]; done)) | skip))
    | ((with_reducible refine (act_append 2 rfl sl22 sz3 by3 zr3 rfl ?_ ?_ ?_ (fun tk => ?_))); (first | exact goodI _ | exact goodU _ | rfl | exact goodSL _ | exact goodLL _ | (focus (simp [goodL, oneA, AV.cells]; done)) | skip))
    | ((with_reducible refine actC_mk (act_append 3 rfl sl22 sz3 by3 zr3 rfl ?_ ?_ ?_ (fun tk => ?_))); (first | exact goodI _ | exact goodU _ | rfl | exact goodSL _ | exact goodLL _ | (focus (simp [goodL, oneA, AV.cells]; done)) | skip))
    | ((with_reducible refine (act_append 3 rfl sl22 sz3 by3 zr3 rfl ?_ ?_ ?_ (fun tk => ?_))); (first | exact goodI _ | exact goodU _ | rfl | exact goodSL _ | exact goodLL _ | (focus (simp [goodL, oneA, AV.cells]; done)) | skip))
    | ((with_reducible refine actC_mk (act_append 4 rfl sl22 sz3 by3 zr3 rfl ?_ ?_ ?_ (fun tk => ?_))); (first | exact goodI _ | exact goodU _ | rfl | exact goodSL _ | exact goodLL _ | (focus (simp [goodL, oneA, AV.cells]; done)) | skip))
    | ((with_reducible refine (act_append 4 rfl sl22 sz3 by3 zr3 rfl ?_ ?_ ?_ (fun tk => ?_))); (first | exact goodI _ | exact goodU _ | rfl | exact goodSL _ | exact goodLL _ | (focus (simp [goodL, oneA, AV.cells]; done)) | skip))
    | (with_reducible refine callD_mk (trimmed (fun btr => ?_)))
    | (with_reducible refine callD_q (between1 (by omega) isR_mk) ?_)
    | (with_reducible refine callD_mk (between1 (by omega) ?_))
    | ((with_reducible refine AW_drawM (id := 6) 3 mixed ?_ ?_); kernel_rfl)
    | (with_reducible refine dmQ_mk ?_)
    | (with_reducible refine nilTC_pos (by simp; omega) ?_)
    | (with_reducible refine nilTC_split (fun h => ?_) (fun h bn => ?_) <;> (try simp only [List.length_map] at h))
    | (with_reducible refine grd_cases (fun h => ?_) (fun h => ?_) <;> (try simp only [h]) <;> (try simp only [beq_iff_eq, beq_eq_false_iff_ne, bne_iff_ne, bne_eq_false_iff_eq, decide_eq_true_eq, decide_eq_false_iff_not, Bool.not_eq_true', Bool.not_eq_false', Bool.not_true, Bool.not_false, Bool.not_eq_eq_eq_not, ne_eq, Int.not_lt, Int.not_le, gt_iff_lt, ge_iff_le, Decidable.not_not] at h))
    | (with_reducible refine condC_split (fun h => ?_) (fun h => ?_) <;> (try simp only [h]) <;> (try simp only [beq_iff_eq, beq_eq_false_iff_ne, bne_iff_ne, bne_eq_false_iff_eq, decide_eq_true_eq, decide_eq_false_iff_not, Bool.not_eq_true', Bool.not_eq_false', Bool.not_true, Bool.not_false, Bool.not_eq_eq_eq_not, ne_eq, Int.not_lt, Int.not_le, gt_iff_lt, ge_iff_le, Decidable.not_not] at h))
    | omega | (simp only [List.length_append, List.length_map, List.length_cons, List.length_nil, List.length_drop, List.length_take, List.length_replicate]; omega) | (refine maxLen_ok ?_; (first | omega | (simp only [List.length_append, List.length_map, List.length_cons, List.length_nil, List.length_drop, List.length_take, List.length_replicate]; omega))))
  rename_i bl bo bi
  refine range_by 69 [] [.pointer (some ⟨btr, 0, none⟩)] ((trims l.length 0 l).map fun t => [SI none t]) [.obj btr [SSI o l]] (.obj b [I 0] :: .obj bi [I 0] :: .obj bo [SI (some none) []] :: .obj bl [SSI o l] :: .tip none :: σ)
    (fun xs τ => ∃ (out : List Int) (e i : Nat) (tk : Option (Nat × Nat)), xs = ((trims l.length i (l.drop i)).map fun t => [SI none t]) ∧ flowF l = out ++ flowGo (decide (i = 0)) e (trims l.length i (l.drop i)) ∧ i ≤ l.length ∧ e ≤ i ∧ (i = 0 → e = 0) ∧
      τ = .obj b [I e] :: .obj bi [I i] :: .obj bo [SI (some tk) out] :: .obj bl [SSI o l] :: .tip tk :: σ)
    rfl cok69 ?_ (fun L K σ' h => trimmedIt (by omega) h) ⟨[], 0, 0, none, by simp, by simp [flowF], Nat.zero_le _, Nat.le_refl _, fun _ => rfl, rfl⟩ ?_ ?_
  · exact ResW.cons _ (ResW.cons _ (ResW.cons _ ((ResW.void.cons _ |>.cons _).trans (ResW.obj (leL_one (le_nil (by decide)))))))
  · rintro τ ⟨out, e, i, tk, h1, h2, h3, h4, h5, rfl⟩
    have hn : l.drop i = [] := by
      cases hd : l.drop i with
      | nil => rfl
      | cons => rw [hd] at h1; simp [trims] at h1
    rw [hn] at h2
    simp only [trims, flowGo, List.append_nil] at h2
    repeat' (first
      | simp only [WL, intF, strF, List.toList_toArray, List.set_cons_succ, List.set_cons_zero, List.getD_cons_succ, List.getD_cons_zero, List.getElem?_cons_succ, List.getElem?_cons_zero, List.length_cons, List.length_nil, List.replicate_succ, List.replicate_zero, List.cons_append, List.nil_append, List.append_nil, List.map_cons, List.map_nil, Option.bind_some, Option.map_some, Option.map_none, List.drop_succ_cons, List.drop_zero, List.take_succ_cons, List.take_zero, ← List.map_take, ← List.map_drop, List.take_length, Int.reduceToNat, ne_eq, reduceCtorEq, not_false_eq_true, Nat.reduceAdd, Nat.reduceSub, Nat.reduceLT, Nat.reduceLeDiff, Nat.reduceEqDiff, Nat.zero_lt_succ, Bool.not_true, Bool.not_false, beq_self_eq_true, true_and, and_true, Option.isSome_some, Option.isSome_none, reduceIte, Int.toNat_natCast, Bool.false_eq_true, List.length_map, Nat.le_refl, Option.some.injEq, exists_eq_left', Nat.add_right_cancel_iff, List.take_nil, List.drop_nil, T3, T4, T22, T33, T52, cok54, cok55, Try.results30]
      | (simp (disch := first | omega | (simp only [List.length_append, List.length_map, List.length_cons, List.length_nil, List.length_drop, List.length_take, List.length_replicate]; omega)) only [wrap_id, getI])
      | (with_reducible refine And.intro (by first | omega | exact ⟨_, rfl⟩ | (focus (simp; done)) | (simp; omega)) ?_)
      | ((with_reducible apply wk_load (ty := 3) (ha := ag3) 0); rfl; rfl)
      | ((with_reducible apply wk_load (ty := 3) (ha := ag3) 1); rfl; rfl)
      | ((with_reducible apply wk_load (ty := 3) (ha := ag3) 2); rfl; rfl)
      | ((with_reducible apply wk_load (ty := 3) (ha := ag3) 3); rfl; rfl)
      | ((with_reducible apply wk_load (ty := 3) (ha := ag3) 4); rfl; rfl)
      | ((with_reducible apply wk_load (ty := 22) (ha := ag22) 0); rfl; rfl)
      | ((with_reducible apply wk_load (ty := 22) (ha := ag22) 1); rfl; rfl)
      | ((with_reducible apply wk_load (ty := 22) (ha := ag22) 2); rfl; rfl)
      | ((with_reducible apply wk_load (ty := 22) (ha := ag22) 3); rfl; rfl)
      | ((with_reducible apply wk_load (ty := 22) (ha := ag22) 4); rfl; rfl)
      | ((with_reducible apply wk_load (ty := 33) (ha := ag33) 0); rfl; rfl)
      | ((with_reducible apply wk_load (ty := 33) (ha := ag33) 1); rfl; rfl)
      | ((with_reducible apply wk_load (ty := 33) (ha := ag33) 2); rfl; rfl)
      | ((with_reducible apply wk_load (ty := 33) (ha := ag33) 3); rfl; rfl)
      | ((with_reducible apply wk_load (ty := 33) (ha := ag33) 4); rfl; rfl)
      | ((with_reducible refine storeC_mk ?_); first | ((with_reducible apply act_store (t := 3) (hs := sz3) 0); rfl; (first | decide | (focus (simp; done)) | omega); rfl) | ((with_reducible apply act_store (t := 3) (hs := sz3) 1); rfl; (first | decide | (focus (simp; done)) | omega); rfl) | ((with_reducible apply act_store (t := 3) (hs := sz3) 2); rfl; (first | decide | (focus (simp; done)) | omega); rfl) | ((with_reducible apply act_store (t := 3) (hs := sz3) 3); rfl; (first | decide | (focus (simp; done)) | omega); rfl) | ((with_reducible apply act_store (t := 3) (hs := sz3) 4); rfl; (first | decide | (focus (simp; done)) | omega); rfl) | ((with_reducible apply act_store (t := 22) (hs := sz22) 0); rfl; (first | decide | (focus (simp; done)) | omega); rfl) | ((with_reducible apply act_store (t := 22) (hs := sz22) 1); rfl; (first | decide | (focus (simp; done)) | omega); rfl) | ((with_reducible apply act_store (t := 22) (hs := sz22) 2); rfl; (first | decide | (focus (simp; done)) | omega); rfl) | ((with_reducible apply act_store (t := 22) (hs := sz22) 3); rfl; (first | decide | (focus (simp; done)) | omega); rfl) | ((with_reducible apply act_store (t := 22) (hs := sz22) 4); rfl; (first | decide | (focus (simp; done)) | omega); rfl))
      | ((with_reducible refine actC_mk ?_); (with_reducible refine act_box ?_ (fun b => ?_)); rfl)
      | ((with_reducible refine actC_mk ?_); (with_reducible refine act_new zr3 ?_ (fun b => ?_)); rfl)
      | ((with_reducible refine actC_mk ?_); (with_reducible refine act_new zr22 ?_ (fun b => ?_)); rfl)
      | ((with_reducible refine actC_mk ?_); (with_reducible refine act_new zr33 ?_ (fun b => ?_)); rfl)
      | ((with_reducible refine actC_mk (act_append_nil (sz := 1) (by decide) ?_)))
      | ((with_reducible refine actC_mk (act_append_src_nil (sz := 1) (by decide) ?_)))
      | ((with_reducible refine actC_mk (act_append 0 rfl sl22 sz3 by3 zr3 rfl ?_ ?_ ?_ (fun tk => ?_))); (first | exact goodI _ | exact goodU _ | rfl | exact goodSL _ | exact goodLL _ | (focus (simp [goodL, oneA, AV.cells]; done)) | skip))
      | ((with_reducible refine (act_append 0 rfl sl22 sz3 by3 zr3 rfl ?_ ?_ ?_ (fun tk => ?_))); (first | exact goodI _ | exact goodU _ | rfl | exact goodSL _ | exact goodLL _ | (focus (simp [goodL, oneA, AV.cells]; done)) | skip))
      | ((with_reducible refine actC_mk (act_append 1 rfl sl22 sz3 by3 zr3 rfl ?_ ?_ ?_ (fun tk => ?_))); (first | exact goodI _ | exact goodU _ | rfl | exact goodSL _ | exact goodLL _ | (focus (simp [goodL, oneA, AV.cells]; done)) | skip))
      | ((with_reducible refine (act_append 1 rfl sl22 sz3 by3 zr3 rfl ?_ ?_ ?_ (fun tk => ?_))); (first | exact goodI _ | exact goodU _ | rfl | exact goodSL _ | exact goodLL _ | (focus (simp [goodL, oneA, AV.cells]; done)) | skip))
      | ((with_reducible refine actC_mk (act_append 2 rfl sl22 sz3 by3 zr3 rfl ?_ ?_ ?_ (fun tk => ?_))); (first | exact goodI _ | exact goodU _ | rfl | exact goodSL _ | exact goodLL _ | (focus (simp [goodL, oneA, AV.cells]; done)) | skip))
      | ((with_reducible refine (act_append 2 rfl sl22 sz3 by3 zr3 rfl ?_ ?_ ?_ (fun tk => ?_))); (first | exact goodI _ | exact goodU _ | rfl | exact goodSL _ | exact goodLL _ | (focus (simp [goodL, oneA, AV.cells]; done)) | skip))
      | ((with_reducible refine actC_mk (act_append 3 rfl sl22 sz3 by3 zr3 rfl ?_ ?_ ?_ (fun tk => ?_))); (first | exact goodI _ | exact goodU _ | rfl | exact goodSL _ | exact goodLL _ | (focus (simp [goodL, oneA, AV.cells]; done)) | skip))
      | ((with_reducible refine (act_append 3 rfl sl22 sz3 by3 zr3 rfl ?_ ?_ ?_ (fun tk => ?_))); (first | exact goodI _ | exact goodU _ | rfl | exact goodSL _ | exact goodLL _ | (focus (simp [goodL, oneA, AV.cells]; done)) | skip))
      | ((with_reducible refine actC_mk (act_append 4 rfl sl22 sz3 by3 zr3 rfl ?_ ?_ ?_ (fun tk => ?_))); (first | exact goodI _ | exact goodU _ | rfl | exact goodSL _ | exact goodLL _ | (focus (simp [goodL, oneA, AV.cells]; done)) | skip))
      | ((with_reducible refine (act_append 4 rfl sl22 sz3 by3 zr3 rfl ?_ ?_ ?_ (fun tk => ?_))); (first | exact goodI _ | exact goodU _ | rfl | exact goodSL _ | exact goodLL _ | (focus (simp [goodL, oneA, AV.cells]; done)) | skip))
      | ((with_reducible refine actC_mk (act_append 5 rfl sl22 sz3 by3 zr3 rfl ?_ ?_ ?_ (fun tk => ?_))); (first | exact goodI _ | exact goodU _ | rfl | exact goodSL _ | exact goodLL _ | (focus (simp [goodL, oneA, AV.cells]; done)) | skip))
      | ((with_reducible refine (act_append 5 rfl sl22 sz3 by3 zr3 rfl ?_ ?_ ?_ (fun tk => ?_))); (first | exact goodI _ | exact goodU _ | rfl | exact goodSL _ | exact goodLL _ | (focus (simp [goodL, oneA, AV.cells]; done)) | skip))
      | (with_reducible refine callD_mk (trimmed (fun btr => ?_)))
      | (with_reducible refine callD_q (between1 (by omega) isR_mk) ?_)
      | (with_reducible refine callD_mk (between1 (by omega) ?_))
      | ((with_reducible refine AW_drawM (id := 6) 3 mixed ?_ ?_); kernel_rfl)
      | (with_reducible refine dmQ_mk ?_)
      | (with_reducible refine nilTC_pos (by simp; omega) ?_)
      | (with_reducible refine nilTC_split (fun h => ?_) (fun h bn => ?_) <;> (try simp only [List.length_map] at h))
      | (with_reducible refine grd_cases (fun h => ?_) (fun h => ?_) <;> (try simp only [h]) <;> (try simp only [beq_iff_eq, beq_eq_false_iff_ne, bne_iff_ne, bne_eq_false_iff_eq, decide_eq_true_eq, decide_eq_false_iff_not, Bool.not_eq_true', Bool.not_eq_false', Bool.not_true, Bool.not_false, Bool.not_eq_eq_eq_not, ne_eq, Int.not_lt, Int.not_le, gt_iff_lt, ge_iff_le, Decidable.not_not] at h))
      | (with_reducible refine condC_split (fun h => ?_) (fun h => ?_) <;> (try simp only [h]) <;> (try simp only [beq_iff_eq, beq_eq_false_iff_ne, bne_iff_ne, bne_eq_false_iff_eq, decide_eq_true_eq, decide_eq_false_iff_not, Bool.not_eq_true', Bool.not_eq_false', Bool.not_true, Bool.not_false, Bool.not_eq_eq_eq_not, ne_eq, Int.not_lt, Int.not_le, gt_iff_lt, ge_iff_le, Decidable.not_not] at h))
      | omega | (simp only [List.length_append, List.length_map, List.length_cons, List.length_nil, List.length_drop, List.length_take, List.length_replicate]; omega) | (refine maxLen_ok ?_; (first | omega | (simp only [List.length_append, List.length_map, List.length_cons, List.length_nil, List.length_drop, List.length_take, List.length_replicate]; omega))))
    exact leafL (sub_cons (sub_cons (sub_cons (sub_cons (sub_cons sub_rfl))))) (leT_le (by rw [h2]; exact le_ro)) hK
  · rintro d L Rr Rb hR x xs τ ⟨out, e, i, tk, h1, h2, h3, h4, h5, rfl⟩
    have hi : i < l.length := by
      rcases Nat.lt_or_ge i l.length with h | h
      · exact h
      · rw [List.drop_eq_nil_of_le h] at h1; simp [trims] at h1
    rw [drop_getDL hi, trims] at h1 h2
    simp only [List.map_cons, List.cons.injEq] at h1
    obtain ⟨rfl, rfl⟩ := h1
    generalize hu : trimAt l.length i (l.getD i []) = u at *
    have hlast : trims l.length (i + 1) (l.drop (i + 1)) = [] ↔ i + 1 = l.length := by
      constructor
      · intro h
        have := List.drop_eq_nil_iff.1 (trims_nil h)
        omega
      · intro h
        rw [List.drop_eq_nil_of_le (by omega)]; rfl
    refine ⟨rfl, ?_⟩
    repeat' (first
      | simp only [WL, intF, strF, List.toList_toArray, List.set_cons_succ, List.set_cons_zero, List.getD_cons_succ, List.getD_cons_zero, List.getElem?_cons_succ, List.getElem?_cons_zero, List.length_cons, List.length_nil, List.replicate_succ, List.replicate_zero, List.cons_append, List.nil_append, List.append_nil, List.map_cons, List.map_nil, Option.bind_some, Option.map_some, Option.map_none, List.drop_succ_cons, List.drop_zero, List.take_succ_cons, List.take_zero, ← List.map_take, ← List.map_drop, List.take_length, Int.reduceToNat, ne_eq, reduceCtorEq, not_false_eq_true, Nat.reduceAdd, Nat.reduceSub, Nat.reduceLT, Nat.reduceLeDiff, Nat.reduceEqDiff, Nat.zero_lt_succ, Bool.not_true, Bool.not_false, beq_self_eq_true, true_and, and_true, Option.isSome_some, Option.isSome_none, reduceIte, Int.toNat_natCast, Bool.false_eq_true, List.length_map, Nat.le_refl, Option.some.injEq, exists_eq_left', Nat.add_right_cancel_iff, List.take_nil, List.drop_nil, T3, T4, T22, T33, T52, cok54, cok55, Try.results30]
      | (simp (disch := first | omega | (simp only [List.length_append, List.length_map, List.length_cons, List.length_nil, List.length_drop, List.length_take, List.length_replicate]; omega)) only [wrap_id, getI])
      | (with_reducible refine And.intro (by first | omega | exact ⟨_, rfl⟩ | (focus (simp; done)) | (simp; omega)) ?_)
      | ((with_reducible apply wk_load (ty := 3) (ha := ag3) 0); rfl; rfl)
      | ((with_reducible apply wk_load (ty := 3) (ha := ag3) 1); rfl; rfl)
      | ((with_reducible apply wk_load (ty := 22) (ha := ag22) 0); rfl; rfl)
      | ((with_reducible apply wk_load (ty := 22) (ha := ag22) 1); rfl; rfl)
      | ((with_reducible apply wk_load (ty := 33) (ha := ag33) 0); rfl; rfl)
      | ((with_reducible apply wk_load (ty := 33) (ha := ag33) 1); rfl; rfl)
      | ((with_reducible refine storeC_mk ?_); first | ((with_reducible apply act_store (t := 3) (hs := sz3) 0); rfl; (first | decide | (focus (simp; done)) | omega); rfl) | ((with_reducible apply act_store (t := 3) (hs := sz3) 1); rfl; (first | decide | (focus (simp; done)) | omega); rfl) | ((with_reducible apply act_store (t := 22) (hs := sz22) 0); rfl; (first | decide | (focus (simp; done)) | omega); rfl) | ((with_reducible apply act_store (t := 22) (hs := sz22) 1); rfl; (first | decide | (focus (simp; done)) | omega); rfl))
      | ((with_reducible refine actC_mk ?_); (with_reducible refine act_box ?_ (fun b => ?_)); rfl)
      | ((with_reducible refine actC_mk ?_); (with_reducible refine act_new zr3 ?_ (fun b => ?_)); rfl)
      | ((with_reducible refine actC_mk ?_); (with_reducible refine act_new zr22 ?_ (fun b => ?_)); rfl)
      | ((with_reducible refine actC_mk ?_); (with_reducible refine act_new zr33 ?_ (fun b => ?_)); rfl)
      | ((with_reducible refine actC_mk (act_append_nil (sz := 1) (by decide) ?_)))
      | ((with_reducible refine actC_mk (act_append_src_nil (sz := 1) (by decide) ?_)))
      | ((with_reducible refine actC_mk (act_append 0 rfl sl22 sz3 by3 zr3 rfl ?_ ?_ ?_ (fun tk => ?_))); (first | exact goodI _ | exact goodU _ | rfl | exact goodSL _ | exact goodLL _ | (focus (simp [goodL, oneA, AV.cells]; done)) | skip))
      | ((with_reducible refine (act_append 0 rfl sl22 sz3 by3 zr3 rfl ?_ ?_ ?_ (fun tk => ?_))); (first | exact goodI _ | exact goodU _ | rfl | exact goodSL _ | exact goodLL _ | (focus (simp [goodL, oneA, AV.cells]; done)) | skip))
      | ((with_reducible refine actC_mk (act_append 1 rfl sl22 sz3 by3 zr3 rfl ?_ ?_ ?_ (fun tk => ?_))); (first | exact goodI _ | exact goodU _ | rfl | exact goodSL _ | exact goodLL _ | (focus (simp [goodL, oneA, AV.cells]; done)) | skip))
      | ((with_reducible refine (act_append 1 rfl sl22 sz3 by3 zr3 rfl ?_ ?_ ?_ (fun tk => ?_))); (first | exact goodI _ | exact goodU _ | rfl | exact goodSL _ | exact goodLL _ | (focus (simp [goodL, oneA, AV.cells]; done)) | skip))
      | ((with_reducible refine actC_mk (act_append 2 rfl sl22 sz3 by3 zr3 rfl ?_ ?_ ?_ (fun tk => ?_))); (first | exact goodI _ | exact goodU _ | rfl | exact goodSL _ | exact goodLL _ | (focus (simp [goodL, oneA, AV.cells]; done)) | skip))
      | ((with_reducible refine (act_append 2 rfl sl22 sz3 by3 zr3 rfl ?_ ?_ ?_ (fun tk => ?_))); (first | exact goodI _ | exact goodU _ | rfl | exact goodSL _ | exact goodLL _ | (focus (simp [goodL, oneA, AV.cells]; done)) | skip))
      | (with_reducible refine callD_mk (trimmed (fun btr => ?_)))
      | (with_reducible refine callD_q (between1 (by omega) isR_mk) ?_)
      | (with_reducible refine callD_mk (between1 (by omega) ?_))
      | ((with_reducible refine AW_drawM (id := 6) 3 mixed ?_ ?_); kernel_rfl)
      | (with_reducible refine dmQ_mk ?_)
      | (with_reducible refine nilTC_pos (by simp; omega) ?_)
      | (with_reducible refine nilTC_split (fun h => ?_) (fun h bn => ?_) <;> (try simp only [List.length_map] at h))
      | (with_reducible refine grd_cases (fun h => ?_) (fun h => ?_) <;> (try simp only [h]) <;> (try simp only [beq_iff_eq, beq_eq_false_iff_ne, bne_iff_ne, bne_eq_false_iff_eq, decide_eq_true_eq, decide_eq_false_iff_not, Bool.not_eq_true', Bool.not_eq_false', Bool.not_true, Bool.not_false, Bool.not_eq_eq_eq_not, ne_eq, Int.not_lt, Int.not_le, gt_iff_lt, ge_iff_le, Decidable.not_not] at h))
      | (with_reducible refine condC_split (fun h => ?_) (fun h => ?_) <;> (try simp only [h]) <;> (try simp only [beq_iff_eq, beq_eq_false_iff_ne, bne_iff_ne, bne_eq_false_iff_eq, decide_eq_true_eq, decide_eq_false_iff_not, Bool.not_eq_true', Bool.not_eq_false', Bool.not_true, Bool.not_false, Bool.not_eq_eq_eq_not, ne_eq, Int.not_lt, Int.not_le, gt_iff_lt, ge_iff_le, Decidable.not_not] at h))
      | omega | (simp only [List.length_append, List.length_map, List.length_cons, List.length_nil, List.length_drop, List.length_take, List.length_replicate]; omega) | (refine maxLen_ok ?_; (first | omega | (simp only [List.length_append, List.length_map, List.length_cons, List.length_nil, List.length_drop, List.length_take, List.length_replicate]; omega))))
    refine rngA_mk ?_
    have ho := flow_out h2
    have hb := between_len e
    rcases Nat.eq_zero_or_pos i with rfl | hi0
    · obtain rfl : e = 0 := h5 rfl
      simp only [decide_true, flowGo_first] at h2 ho
      simp only [List.length_append] at ho
      repeat' (first
        | simp only [WL, intF, strF, List.toList_toArray, List.set_cons_succ, List.set_cons_zero, List.getD_cons_succ, List.getD_cons_zero, List.getElem?_cons_succ, List.getElem?_cons_zero, List.length_cons, List.length_nil, List.replicate_succ, List.replicate_zero, List.cons_append, List.nil_append, List.append_nil, List.map_cons, List.map_nil, Option.bind_some, Option.map_some, Option.map_none, List.drop_succ_cons, List.drop_zero, List.take_succ_cons, List.take_zero, ← List.map_take, ← List.map_drop, List.take_length, Int.reduceToNat, ne_eq, reduceCtorEq, not_false_eq_true, Nat.reduceAdd, Nat.reduceSub, Nat.reduceLT, Nat.reduceLeDiff, Nat.reduceEqDiff, Nat.zero_lt_succ, Bool.not_true, Bool.not_false, beq_self_eq_true, true_and, and_true, Option.isSome_some, Option.isSome_none, reduceIte, Int.toNat_natCast, Bool.false_eq_true, List.length_map, Nat.le_refl, Option.some.injEq, exists_eq_left', Nat.add_right_cancel_iff, List.take_nil, List.drop_nil, T3, T4, T22, T33, T52, cok54, cok55, Try.results30]
        | (simp (disch := first | omega | (simp only [List.length_append, List.length_map, List.length_cons, List.length_nil, List.length_drop, List.length_take, List.length_replicate]; omega)) only [wrap_id, getI])
        | (with_reducible refine And.intro (by first | omega | exact ⟨_, rfl⟩ | (focus (simp; done)) | (simp; omega)) ?_)
        | ((with_reducible apply wk_load (ty := 3) (ha := ag3) 0); rfl; rfl)
        | ((with_reducible apply wk_load (ty := 3) (ha := ag3) 1); rfl; rfl)
        | ((with_reducible apply wk_load (ty := 3) (ha := ag3) 2); rfl; rfl)
        | ((with_reducible apply wk_load (ty := 3) (ha := ag3) 3); rfl; rfl)
        | ((with_reducible apply wk_load (ty := 3) (ha := ag3) 4); rfl; rfl)
        | ((with_reducible apply wk_load (ty := 3) (ha := ag3) 5); rfl; rfl)
        | ((with_reducible apply wk_load (ty := 22) (ha := ag22) 0); rfl; rfl)
        | ((with_reducible apply wk_load (ty := 22) (ha := ag22) 1); rfl; rfl)
        | ((with_reducible apply wk_load (ty := 22) (ha := ag22) 2); rfl; rfl)
        | ((with_reducible apply wk_load (ty := 22) (ha := ag22) 3); rfl; rfl)
        | ((with_reducible apply wk_load (ty := 22) (ha := ag22) 4); rfl; rfl)
        | ((with_reducible apply wk_load (ty := 22) (ha := ag22) 5); rfl; rfl)
        | ((with_reducible apply wk_load (ty := 33) (ha := ag33) 0); rfl; rfl)
        | ((with_reducible apply wk_load (ty := 33) (ha := ag33) 1); rfl; rfl)
        | ((with_reducible apply wk_load (ty := 33) (ha := ag33) 2); rfl; rfl)
        | ((with_reducible apply wk_load (ty := 33) (ha := ag33) 3); rfl; rfl)
        | ((with_reducible apply wk_load (ty := 33) (ha := ag33) 4); rfl; rfl)
        | ((with_reducible apply wk_load (ty := 33) (ha := ag33) 5); rfl; rfl)
        | ((with_reducible refine storeC_mk ?_); first | ((with_reducible apply act_store (t := 3) (hs := sz3) 0); rfl; (first | decide | (focus (simp; done)) | omega); rfl) | ((with_reducible apply act_store (t := 3) (hs := sz3) 1); rfl; (first | decide | (focus (simp; done)) | omega); rfl) | ((with_reducible apply act_store (t := 3) (hs := sz3) 2); rfl; (first | decide | (focus (simp; done)) | omega); rfl) | ((with_reducible apply act_store (t := 3) (hs := sz3) 3); rfl; (first | decide | (focus (simp; done)) | omega); rfl) | ((with_reducible apply act_store (t := 3) (hs := sz3) 4); rfl; (first | decide | (focus (simp; done)) | omega); rfl) | ((with_reducible apply act_store (t := 3) (hs := sz3) 5); rfl; (first | decide | (focus (simp; done)) | omega); rfl) | ((with_reducible apply act_store (t := 22) (hs := sz22) 0); rfl; (first | decide | (focus (simp; done)) | omega); rfl) | ((with_reducible apply act_store (t := 22) (hs := sz22) 1); rfl; (first | decide | (focus (simp; done)) | omega); rfl) | ((with_reducible apply act_store (t := 22) (hs := sz22) 2); rfl; (first | decide | (focus (simp; done)) | omega); rfl) | ((with_reducible apply act_store (t := 22) (hs := sz22) 3); rfl; (first | decide | (focus (simp; done)) | omega); rfl) | ((with_reducible apply act_store (t := 22) (hs := sz22) 4); rfl; (first | decide | (focus (simp; done)) | omega); rfl) | ((with_reducible apply act_store (t := 22) (hs := sz22) 5); rfl; (first | decide | (focus (simp; done)) | omega); rfl))
        | ((with_reducible refine actC_mk ?_); (with_reducible refine act_box ?_ (fun b => ?_)); rfl)
        | ((with_reducible refine actC_mk ?_); (with_reducible refine act_new zr3 ?_ (fun b => ?_)); rfl)
        | ((with_reducible refine actC_mk ?_); (with_reducible refine act_new zr22 ?_ (fun b => ?_)); rfl)
        | ((with_reducible refine actC_mk ?_); (with_reducible refine act_new zr33 ?_ (fun b => ?_)); rfl)
        | ((with_reducible refine actC_mk (act_append_nil (sz := 1) (by decide) ?_)))
        | ((with_reducible refine actC_mk (act_append_src_nil (sz := 1) (by decide) ?_)))
        | ((with_reducible refine actC_mk (act_append 0 rfl sl22 sz3 by3 zr3 rfl ?_ ?_ ?_ (fun tk => ?_))); (first | exact goodI _ | exact goodU _ | rfl | exact goodSL _ | exact goodLL _ | (focus (simp [goodL, oneA, AV.cells]; done)) | skip))
        | ((with_reducible refine (act_append 0 rfl sl22 sz3 by3 zr3 rfl ?_ ?_ ?_ (fun tk => ?_))); (first | exact goodI _ | exact goodU _ | rfl | exact goodSL _ | exact goodLL _ | (focus (simp [goodL, oneA, AV.cells]; done)) | skip))
        | ((with_reducible refine actC_mk (act_append 1 rfl sl22 sz3 by3 zr3 rfl ?_ ?_ ?_ (fun tk => ?_))); (first | exact goodI _ | exact goodU _ | rfl | exact goodSL _ | exact goodLL _ | (focus (simp [goodL, oneA, AV.cells]; done)) | skip))
        | ((with_reducible refine (act_append 1 rfl sl22 sz3 by3 zr3 rfl ?_ ?_ ?_ (fun tk => ?_))); (first | exact goodI _ | exact goodU _ | rfl | exact goodSL _ | exact goodLL _ | (focus (simp [goodL, oneA, AV.cells]; done)) | skip))
        | ((with_reducible refine actC_mk (act_append 2 rfl sl22 sz3 by3 zr3 rfl ?_ ?_ ?_ (fun tk => ?_))); (first | exact goodI _ | exact goodU _ | rfl | exact goodSL _ | exact goodLL _ | (focus (simp [goodL, oneA, AV.cells]; done)) | skip))
        | ((with_reducible refine (act_append 2 rfl sl22 sz3 by3 zr3 rfl ?_ ?_ ?_ (fun tk => ?_))); (first | exact goodI _ | exact goodU _ | rfl | exact goodSL _ | exact goodLL _ | (focus (simp [goodL, oneA, AV.cells]; done)) | skip))
        | ((with_reducible refine actC_mk (act_append 3 rfl sl22 sz3 by3 zr3 rfl ?_ ?_ ?_ (fun tk => ?_))); (first | exact goodI _ | exact goodU _ | rfl | exact goodSL _ | exact goodLL _ | (focus (simp [goodL, oneA, AV.cells]; done)) | skip))
        | ((with_reducible refine (act_append 3 rfl sl22 sz3 by3 zr3 rfl ?_ ?_ ?_ (fun tk => ?_))); (first | exact goodI _ | exact goodU _ | rfl | exact goodSL _ | exact goodLL _ | (focus (simp [goodL, oneA, AV.cells]; done)) | skip))
        | ((with_reducible refine actC_mk (act_append 4 rfl sl22 sz3 by3 zr3 rfl ?_ ?_ ?_ (fun tk => ?_))); (first | exact goodI _ | exact goodU _ | rfl | exact goodSL _ | exact goodLL _ | (focus (simp [goodL, oneA, AV.cells]; done)) | skip))
        | ((with_reducible refine (act_append 4 rfl sl22 sz3 by3 zr3 rfl ?_ ?_ ?_ (fun tk => ?_))); (first | exact goodI _ | exact goodU _ | rfl | exact goodSL _ | exact goodLL _ | (focus (simp [goodL, oneA, AV.cells]; done)) | skip))
        | ((with_reducible refine actC_mk (act_append 5 rfl sl22 sz3 by3 zr3 rfl ?_ ?_ ?_ (fun tk => ?_))); (first | exact goodI _ | exact goodU _ | rfl | exact goodSL _ | exact goodLL _ | (focus (simp [goodL, oneA, AV.cells]; done)) | skip))
        | ((with_reducible refine (act_append 5 rfl sl22 sz3 by3 zr3 rfl ?_ ?_ ?_ (fun tk => ?_))); (first | exact goodI _ | exact goodU _ | rfl | exact goodSL _ | exact goodLL _ | (focus (simp [goodL, oneA, AV.cells]; done)) | skip))
        | ((with_reducible refine actC_mk (act_append 6 rfl sl22 sz3 by3 zr3 rfl ?_ ?_ ?_ (fun tk => ?_))); (first | exact goodI _ | exact goodU _ | rfl | exact goodSL _ | exact goodLL _ | (focus (simp [goodL, oneA, AV.cells]; done)) | skip))
        | ((with_reducible refine (act_append 6 rfl sl22 sz3 by3 zr3 rfl ?_ ?_ ?_ (fun tk => ?_))); (first | exact goodI _ | exact goodU _ | rfl | exact goodSL _ | exact goodLL _ | (focus (simp [goodL, oneA, AV.cells]; done)) | skip))
        | (with_reducible refine callD_mk (trimmed (fun btr => ?_)))
        | (with_reducible refine callD_q (between1 (by omega) isR_mk) ?_)
        | (with_reducible refine callD_mk (between1 (by omega) ?_))
        | ((with_reducible refine AW_drawM (id := 6) 3 mixed ?_ ?_); kernel_rfl)
        | (with_reducible refine dmQ_mk ?_)
        | (with_reducible refine nilTC_pos (by simp; omega) ?_)
        | (with_reducible refine nilTC_split (fun h => ?_) (fun h bn => ?_) <;> (try simp only [List.length_map] at h))
        | (with_reducible refine grd_cases (fun h => ?_) (fun h => ?_) <;> (try simp only [h]) <;> (try simp only [beq_iff_eq, beq_eq_false_iff_ne, bne_iff_ne, bne_eq_false_iff_eq, decide_eq_true_eq, decide_eq_false_iff_not, Bool.not_eq_true', Bool.not_eq_false', Bool.not_true, Bool.not_false, Bool.not_eq_eq_eq_not, ne_eq, Int.not_lt, Int.not_le, gt_iff_lt, ge_iff_le, Decidable.not_not] at h))
        | (with_reducible refine condC_split (fun h => ?_) (fun h => ?_) <;> (try simp only [h]) <;> (try simp only [beq_iff_eq, beq_eq_false_iff_ne, bne_iff_ne, bne_eq_false_iff_eq, decide_eq_true_eq, decide_eq_false_iff_not, Bool.not_eq_true', Bool.not_eq_false', Bool.not_true, Bool.not_false, Bool.not_eq_eq_eq_not, ne_eq, Int.not_lt, Int.not_le, gt_iff_lt, ge_iff_le, Decidable.not_not] at h))
        | omega | (simp only [List.length_append, List.length_map, List.length_cons, List.length_nil, List.length_drop, List.length_take, List.length_replicate]; omega) | (refine maxLen_ok ?_; (first | omega | (simp only [List.length_append, List.length_map, List.length_cons, List.length_nil, List.length_drop, List.length_take, List.length_replicate]; omega))))
      exact ⟨_, resS_rfl, out ++ u, 0, 1, tk, rfl, by rw [h2]; simp, by omega, by omega, by omega, by simp⟩
    · simp only [decide_eq_false (show ¬ i = 0 by omega)] at h2 ho
      by_cases hc : u = [] ∧ trims l.length (i + 1) (l.drop (i + 1)) ≠ []
      · obtain ⟨rfl, hc⟩ := hc
        rw [flowGo_empty rfl hc] at h2
        have hne : ¬ i + 1 = l.length := fun h => hc (hlast.2 h)
        repeat' (first
          | simp only [WL, intF, strF, List.toList_toArray, List.set_cons_succ, List.set_cons_zero, List.getD_cons_succ, List.getD_cons_zero, List.getElem?_cons_succ, List.getElem?_cons_zero, List.length_cons, List.length_nil, List.replicate_succ, List.replicate_zero, List.cons_append, List.nil_append, List.append_nil, List.map_cons, List.map_nil, Option.bind_some, Option.map_some, Option.map_none, List.drop_succ_cons, List.drop_zero, List.take_succ_cons, List.take_zero, ← List.map_take, ← List.map_drop, List.take_length, Int.reduceToNat, ne_eq, reduceCtorEq, not_false_eq_true, Nat.reduceAdd, Nat.reduceSub, Nat.reduceLT, Nat.reduceLeDiff, Nat.reduceEqDiff, Nat.zero_lt_succ, Bool.not_true, Bool.not_false, beq_self_eq_true, true_and, and_true, Option.isSome_some, Option.isSome_none, reduceIte, Int.toNat_natCast, Bool.false_eq_true, List.length_map, Nat.le_refl, Option.some.injEq, exists_eq_left', Nat.add_right_cancel_iff, List.take_nil, List.drop_nil, T3, T4, T22, T33, T52, cok54, cok55, Try.results30]
          | (simp (disch := first | omega | (simp only [List.length_append, List.length_map, List.length_cons, List.length_nil, List.length_drop, List.length_take, List.length_replicate]; omega)) only [wrap_id, getI])
          | (with_reducible refine And.intro (by first | omega | exact ⟨_, rfl⟩ | (focus (simp; done)) | (simp; omega)) ?_)
          | ((with_reducible apply wk_load (ty := 3) (ha := ag3) 0); rfl; rfl)
          | ((with_reducible apply wk_load (ty := 3) (ha := ag3) 1); rfl; rfl)
          | ((with_reducible apply wk_load (ty := 3) (ha := ag3) 2); rfl; rfl)
          | ((with_reducible apply wk_load (ty := 3) (ha := ag3) 3); rfl; rfl)
          | ((with_reducible apply wk_load (ty := 3) (ha := ag3) 4); rfl; rfl)
          | ((with_reducible apply wk_load (ty := 3) (ha := ag3) 5); rfl; rfl)
          | ((with_reducible apply wk_load (ty := 22) (ha := ag22) 0); rfl; rfl)
          | ((with_reducible apply wk_load (ty := 22) (ha := ag22) 1); rfl; rfl)
          | ((with_reducible apply wk_load (ty := 22) (ha := ag22) 2); rfl; rfl)
          | ((with_reducible apply wk_load (ty := 22) (ha := ag22) 3); rfl; rfl)
          | ((with_reducible apply wk_load (ty := 22) (ha := ag22) 4); rfl; rfl)
          | ((with_reducible apply wk_load (ty := 22) (ha := ag22) 5); rfl; rfl)
          | ((with_reducible apply wk_load (ty := 33) (ha := ag33) 0); rfl; rfl)
          | ((with_reducible apply wk_load (ty := 33) (ha := ag33) 1); rfl; rfl)
          | ((with_reducible apply wk_load (ty := 33) (ha := ag33) 2); rfl; rfl)
          | ((with_reducible apply wk_load (ty := 33) (ha := ag33) 3); rfl; rfl)
          | ((with_reducible apply wk_load (ty := 33) (ha := ag33) 4); rfl; rfl)
          | ((with_reducible apply wk_load (ty := 33) (ha := ag33) 5); rfl; rfl)
          | ((with_reducible refine storeC_mk ?_); first | ((with_reducible apply act_store (t := 3) (hs := sz3) 0); rfl; (first | decide | (focus (simp; done)) | omega); rfl) | ((with_reducible apply act_store (t := 3) (hs := sz3) 1); rfl; (first | decide | (focus (simp; done)) | omega); rfl) | ((with_reducible apply act_store (t := 3) (hs := sz3) 2); rfl; (first | decide | (focus (simp; done)) | omega); rfl) | ((with_reducible apply act_store (t := 3) (hs := sz3) 3); rfl; (first | decide | (focus (simp; done)) | omega); rfl) | ((with_reducible apply act_store (t := 3) (hs := sz3) 4); rfl; (first | decide | (focus (simp; done)) | omega); rfl) | ((with_reducible apply act_store (t := 3) (hs := sz3) 5); rfl; (first | decide | (focus (simp; done)) | omega); rfl) | ((with_reducible apply act_store (t := 22) (hs := sz22) 0); rfl; (first | decide | (focus (simp; done)) | omega); rfl) | ((with_reducible apply act_store (t := 22) (hs := sz22) 1); rfl; (first | decide | (focus (simp; done)) | omega); rfl) | ((with_reducible apply act_store (t := 22) (hs := sz22) 2); rfl; (first | decide | (focus (simp; done)) | omega); rfl) | ((with_reducible apply act_store (t := 22) (hs := sz22) 3); rfl; (first | decide | (focus (simp; done)) | omega); rfl) | ((with_reducible apply act_store (t := 22) (hs := sz22) 4); rfl; (first | decide | (focus (simp; done)) | omega); rfl) | ((with_reducible apply act_store (t := 22) (hs := sz22) 5); rfl; (first | decide | (focus (simp; done)) | omega); rfl))
          | ((with_reducible refine actC_mk ?_); (with_reducible refine act_box ?_ (fun b => ?_)); rfl)
          | ((with_reducible refine actC_mk ?_); (with_reducible refine act_new zr3 ?_ (fun b => ?_)); rfl)
          | ((with_reducible refine actC_mk ?_); (with_reducible refine act_new zr22 ?_ (fun b => ?_)); rfl)
          | ((with_reducible refine actC_mk ?_); (with_reducible refine act_new zr33 ?_ (fun b => ?_)); rfl)
          | ((with_reducible refine actC_mk (act_append_nil (sz := 1) (by decide) ?_)))
          | ((with_reducible refine actC_mk (act_append_src_nil (sz := 1) (by decide) ?_)))
          | ((with_reducible refine actC_mk (act_append 0 rfl sl22 sz3 by3 zr3 rfl ?_ ?_ ?_ (fun tk => ?_))); (first | exact goodI _ | exact goodU _ | rfl | exact goodSL _ | exact goodLL _ | (focus (simp [goodL, oneA, AV.cells]; done)) | skip))
          | ((with_reducible refine (act_append 0 rfl sl22 sz3 by3 zr3 rfl ?_ ?_ ?_ (fun tk => ?_))); (first | exact goodI _ | exact goodU _ | rfl | exact goodSL _ | exact goodLL _ | (focus (simp [goodL, oneA, AV.cells]; done)) | skip))
          | ((with_reducible refine actC_mk (act_append 1 rfl sl22 sz3 by3 zr3 rfl ?_ ?_ ?_ (fun tk => ?_))); (first | exact goodI _ | exact goodU _ | rfl | exact goodSL _ | exact goodLL _ | (focus (simp [goodL, oneA, AV.cells]; done)) | skip))
          | ((with_reducible refine (act_append 1 rfl sl22 sz3 by3 zr3 rfl ?_ ?_ ?_ (fun tk => ?_))); (first | exact goodI _ | exact goodU _ | rfl | exact goodSL _ | exact goodLL _ | (focus (simp [goodL, oneA, AV.cells]; done)) | skip))
          | ((with_reducible refine actC_mk (act_append 2 rfl sl22 sz3 by3 zr3 rfl ?_ ?_ ?_ (fun tk => ?_))); (first | exact goodI _ | exact goodU _ | rfl | exact goodSL _ | exact goodLL _ | (focus (simp [goodL, oneA, AV.cells]; done)) | skip))
          | ((with_reducible refine (act_append 2 rfl sl22 sz3 by3 zr3 rfl ?_ ?_ ?_ (fun tk => ?_))); (first | exact goodI _ | exact goodU _ | rfl | exact goodSL _ | exact goodLL _ | (focus (simp [goodL, oneA, AV.cells]; done)) | skip))
          | ((with_reducible refine actC_mk (act_append 3 rfl sl22 sz3 by3 zr3 rfl ?_ ?_ ?_ (fun tk => ?_))); (first | exact goodI _ | exact goodU _ | rfl | exact goodSL _ | exact goodLL _ | (focus (simp [goodL, oneA, AV.cells]; done)) | skip))
          | ((with_reducible refine (act_append 3 rfl sl22 sz3 by3 zr3 rfl ?_ ?_ ?_ (fun tk => ?_))); (first | exact goodI _ | exact goodU _ | rfl | exact goodSL _ | exact goodLL _ | (focus (simp [goodL, oneA, AV.cells]; done)) | skip))
          | ((with_reducible refine actC_mk (act_append 4 rfl sl22 sz3 by3 zr3 rfl ?_ ?_ ?_ (fun tk => ?_))); (first | exact goodI _ | exact goodU _ | rfl | exact goodSL _ | exact goodLL _ | (focus (simp [goodL, oneA, AV.cells]; done)) | skip))
          | ((with_reducible refine (act_append 4 rfl sl22 sz3 by3 zr3 rfl ?_ ?_ ?_ (fun tk => ?_))); (first | exact goodI _ | exact goodU _ | rfl | exact goodSL _ | exact goodLL _ | (focus (simp [goodL, oneA, AV.cells]; done)) | skip))
          | ((with_reducible refine actC_mk (act_append 5 rfl sl22 sz3 by3 zr3 rfl ?_ ?_ ?_ (fun tk => ?_))); (first | exact goodI _ | exact goodU _ | rfl | exact goodSL _ | exact goodLL _ | (focus (simp [goodL, oneA, AV.cells]; done)) | skip))
          | ((with_reducible refine (act_append 5 rfl sl22 sz3 by3 zr3 rfl ?_ ?_ ?_ (fun tk => ?_))); (first | exact goodI _ | exact goodU _ | rfl | exact goodSL _ | exact goodLL _ | (focus (simp [goodL, oneA, AV.cells]; done)) | skip))
          | ((with_reducible refine actC_mk (act_append 6 rfl sl22 sz3 by3 zr3 rfl ?_ ?_ ?_ (fun tk => ?_))); (first | exact goodI _ | exact goodU _ | rfl | exact goodSL _ | exact goodLL _ | (focus (simp [goodL, oneA, AV.cells]; done)) | skip))
          | ((with_reducible refine (act_append 6 rfl sl22 sz3 by3 zr3 rfl ?_ ?_ ?_ (fun tk => ?_))); (first | exact goodI _ | exact goodU _ | rfl | exact goodSL _ | exact goodLL _ | (focus (simp [goodL, oneA, AV.cells]; done)) | skip))
          | (with_reducible refine callD_mk (trimmed (fun btr => ?_)))
          | (with_reducible refine callD_q (between1 (by omega) isR_mk) ?_)
          | (with_reducible refine callD_mk (between1 (by omega) ?_))
          | ((with_reducible refine AW_drawM (id := 6) 3 mixed ?_ ?_); kernel_rfl)
          | (with_reducible refine dmQ_mk ?_)
          | (with_reducible refine nilTC_pos (by simp; omega) ?_)
          | (with_reducible refine nilTC_split (fun h => ?_) (fun h bn => ?_) <;> (try simp only [List.length_map] at h))
          | (with_reducible refine grd_cases (fun h => ?_) (fun h => ?_) <;> (try simp only [h]) <;> (try simp only [beq_iff_eq, beq_eq_false_iff_ne, bne_iff_ne, bne_eq_false_iff_eq, decide_eq_true_eq, decide_eq_false_iff_not, Bool.not_eq_true', Bool.not_eq_false', Bool.not_true, Bool.not_false, Bool.not_eq_eq_eq_not, ne_eq, Int.not_lt, Int.not_le, gt_iff_lt, ge_iff_le, Decidable.not_not] at h))
          | (with_reducible refine condC_split (fun h => ?_) (fun h => ?_) <;> (try simp only [h]) <;> (try simp only [beq_iff_eq, beq_eq_false_iff_ne, bne_iff_ne, bne_eq_false_iff_eq, decide_eq_true_eq, decide_eq_false_iff_not, Bool.not_eq_true', Bool.not_eq_false', Bool.not_true, Bool.not_false, Bool.not_eq_eq_eq_not, ne_eq, Int.not_lt, Int.not_le, gt_iff_lt, ge_iff_le, Decidable.not_not] at h))
          | omega | (simp only [List.length_append, List.length_map, List.length_cons, List.length_nil, List.length_drop, List.length_take, List.length_replicate]; omega) | (refine maxLen_ok ?_; (first | omega | (simp only [List.length_append, List.length_map, List.length_cons, List.length_nil, List.length_drop, List.length_take, List.length_replicate]; omega))))
        exact ⟨_, resS_rfl, out, e + 1, i + 1, tk, rfl, by rw [h2]; simp, by omega, by omega, by omega, by simp⟩
      · rw [flowGo_cons hc] at h2 ho
        simp only [List.length_append] at ho
        have hne : u.length = 0 → i + 1 = l.length := fun h => by
          refine Classical.byContradiction fun hh => hc ⟨List.eq_nil_of_length_eq_zero h, fun hh2 => hh (hlast.1 hh2)⟩
        repeat' (first
          | simp only [WL, intF, strF, List.toList_toArray, List.set_cons_succ, List.set_cons_zero, List.getD_cons_succ, List.getD_cons_zero, List.getElem?_cons_succ, List.getElem?_cons_zero, List.length_cons, List.length_nil, List.replicate_succ, List.replicate_zero, List.cons_append, List.nil_append, List.append_nil, List.map_cons, List.map_nil, Option.bind_some, Option.map_some, Option.map_none, List.drop_succ_cons, List.drop_zero, List.take_succ_cons, List.take_zero, ← List.map_take, ← List.map_drop, List.take_length, Int.reduceToNat, ne_eq, reduceCtorEq, not_false_eq_true, Nat.reduceAdd, Nat.reduceSub, Nat.reduceLT, Nat.reduceLeDiff, Nat.reduceEqDiff, Nat.zero_lt_succ, Bool.not_true, Bool.not_false, beq_self_eq_true, true_and, and_true, Option.isSome_some, Option.isSome_none, reduceIte, Int.toNat_natCast, Bool.false_eq_true, List.length_map, Nat.le_refl, Option.some.injEq, exists_eq_left', Nat.add_right_cancel_iff, List.take_nil, List.drop_nil, T3, T4, T22, T33, T52, cok54, cok55, Try.results30]
          | (simp (disch := first | omega | (simp only [List.length_append, List.length_map, List.length_cons, List.length_nil, List.length_drop, List.length_take, List.length_replicate]; omega)) only [wrap_id, getI])
          | (with_reducible refine And.intro (by first | omega | exact ⟨_, rfl⟩ | (focus (simp; done)) | (simp; omega)) ?_)
          | ((with_reducible apply wk_load (ty := 3) (ha := ag3) 0); rfl; rfl)
          | ((with_reducible apply wk_load (ty := 3) (ha := ag3) 1); rfl; rfl)
          | ((with_reducible apply wk_load (ty := 3) (ha := ag3) 2); rfl; rfl)
          | ((with_reducible apply wk_load (ty := 3) (ha := ag3) 3); rfl; rfl)
          | ((with_reducible apply wk_load (ty := 3) (ha := ag3) 4); rfl; rfl)
          | ((with_reducible apply wk_load (ty := 3) (ha := ag3) 5); rfl; rfl)
          | ((with_reducible apply wk_load (ty := 22) (ha := ag22) 0); rfl; rfl)
          | ((with_reducible apply wk_load (ty := 22) (ha := ag22) 1); rfl; rfl)
          | ((with_reducible apply wk_load (ty := 22) (ha := ag22) 2); rfl; rfl)
          | ((with_reducible apply wk_load (ty := 22) (ha := ag22) 3); rfl; rfl)
          | ((with_reducible apply wk_load (ty := 22) (ha := ag22) 4); rfl; rfl)
          | ((with_reducible apply wk_load (ty := 22) (ha := ag22) 5); rfl; rfl)
          | ((with_reducible apply wk_load (ty := 33) (ha := ag33) 0); rfl; rfl)
          | ((with_reducible apply wk_load (ty := 33) (ha := ag33) 1); rfl; rfl)
          | ((with_reducible apply wk_load (ty := 33) (ha := ag33) 2); rfl; rfl)
          | ((with_reducible apply wk_load (ty := 33) (ha := ag33) 3); rfl; rfl)
          | ((with_reducible apply wk_load (ty := 33) (ha := ag33) 4); rfl; rfl)
          | ((with_reducible apply wk_load (ty := 33) (ha := ag33) 5); rfl; rfl)
          | ((with_reducible refine storeC_mk ?_); first | ((with_reducible apply act_store (t := 3) (hs := sz3) 0); rfl; (first | decide | (focus (simp; done)) | omega); rfl) | ((with_reducible apply act_store (t := 3) (hs := sz3) 1); rfl; (first | decide | (focus (simp; done)) | omega); rfl) | ((with_reducible apply act_store (t := 3) (hs := sz3) 2); rfl; (first | decide | (focus (simp; done)) | omega); rfl) | ((with_reducible apply act_store (t := 3) (hs := sz3) 3); rfl; (first | decide | (focus (simp; done)) | omega); rfl) | ((with_reducible apply act_store (t := 3) (hs := sz3) 4); rfl; (first | decide | (focus (simp; done)) | omega); rfl) | ((with_reducible apply act_store (t := 3) (hs := sz3) 5); rfl; (first | decide | (focus (simp; done)) | omega); rfl) | ((with_reducible apply act_store (t := 22) (hs := sz22) 0); rfl; (first | decide | (focus (simp; done)) | omega); rfl) | ((with_reducible apply act_store (t := 22) (hs := sz22) 1); rfl; (first | decide | (focus (simp; done)) | omega); rfl) | ((with_reducible apply act_store (t := 22) (hs := sz22) 2); rfl; (first | decide | (focus (simp; done)) | omega); rfl) | ((with_reducible apply act_store (t := 22) (hs := sz22) 3); rfl; (first | decide | (focus (simp; done)) | omega); rfl) | ((with_reducible apply act_store (t := 22) (hs := sz22) 4); rfl; (first | decide | (focus (simp; done)) | omega); rfl) | ((with_reducible apply act_store (t := 22) (hs := sz22) 5); rfl; (first | decide | (focus (simp; done)) | omega); rfl))
          | ((with_reducible refine actC_mk ?_); (with_reducible refine act_box ?_ (fun b => ?_)); rfl)
          | ((with_reducible refine actC_mk ?_); (with_reducible refine act_new zr3 ?_ (fun b => ?_)); rfl)
          | ((with_reducible refine actC_mk ?_); (with_reducible refine act_new zr22 ?_ (fun b => ?_)); rfl)
          | ((with_reducible refine actC_mk ?_); (with_reducible refine act_new zr33 ?_ (fun b => ?_)); rfl)
          | ((with_reducible refine actC_mk (act_append_nil (sz := 1) (by decide) ?_)))
          | ((with_reducible refine actC_mk (act_append_src_nil (sz := 1) (by decide) ?_)))
          | ((with_reducible refine actC_mk (act_append 0 rfl sl22 sz3 by3 zr3 rfl ?_ ?_ ?_ (fun tk => ?_))); (first | exact goodI _ | exact goodU _ | rfl | exact goodSL _ | exact goodLL _ | (focus (simp [goodL, oneA, AV.cells]; done)) | skip))
          | ((with_reducible refine (act_append 0 rfl sl22 sz3 by3 zr3 rfl ?_ ?_ ?_ (fun tk => ?_))); (first | exact goodI _ | exact goodU _ | rfl | exact goodSL _ | exact goodLL _ | (focus (simp [goodL, oneA, AV.cells]; done)) | skip))
          | ((with_reducible refine actC_mk (act_append 1 rfl sl22 sz3 by3 zr3 rfl ?_ ?_ ?_ (fun tk => ?_))); (first | exact goodI _ | exact goodU _ | rfl | exact goodSL _ | exact goodLL _ | (focus (simp [goodL, oneA, AV.cells]; done)) | skip))
          | ((with_reducible refine (act_append 1 rfl sl22 sz3 by3 zr3 rfl ?_ ?_ ?_ (fun tk => ?_))); (first | exact goodI _ | exact goodU _ | rfl | exact goodSL _ | exact goodLL _ | (focus (simp [goodL, oneA, AV.cells]; done)) | skip))
          | ((with_reducible refine actC_mk (act_append 2 rfl sl22 sz3 by3 zr3 rfl ?_ ?_ ?_ (fun tk => ?_))); (first | exact goodI _ | exact goodU _ | rfl | exact goodSL _ | exact goodLL _ | (focus (simp [goodL, oneA, AV.cells]; done)) | skip))
          | ((with_reducible refine (act_append 2 rfl sl22 sz3 by3 zr3 rfl ?_ ?_ ?_ (fun tk => ?_))); (first | exact goodI _ | exact goodU _ | rfl | exact goodSL _ | exact goodLL _ | (focus (simp [goodL, oneA, AV.cells]; done)) | skip))
          | ((with_reducible refine actC_mk (act_append 3 rfl sl22 sz3 by3 zr3 rfl ?_ ?_ ?_ (fun tk => ?_))); (first | exact goodI _ | exact goodU _ | rfl | exact goodSL _ | exact goodLL _ | (focus (simp [goodL, oneA, AV.cells]; done)) | skip))
          | ((with_reducible refine (act_append 3 rfl sl22 sz3 by3 zr3 rfl ?_ ?_ ?_ (fun tk => ?_))); (first | exact goodI _ | exact goodU _ | rfl | exact goodSL _ | exact goodLL _ | (focus (simp [goodL, oneA, AV.cells]; done)) | skip))
          | ((with_reducible refine actC_mk (act_append 4 rfl sl22 sz3 by3 zr3 rfl ?_ ?_ ?_ (fun tk => ?_))); (first | exact goodI _ | exact goodU _ | rfl | exact goodSL _ | exact goodLL _ | (focus (simp [goodL, oneA, AV.cells]; done)) | skip))
          | ((with_reducible refine (act_append 4 rfl sl22 sz3 by3 zr3 rfl ?_ ?_ ?_ (fun tk => ?_))); (first | exact goodI _ | exact goodU _ | rfl | exact goodSL _ | exact goodLL _ | (focus (simp [goodL, oneA, AV.cells]; done)) | skip))
          | ((with_reducible refine actC_mk (act_append 5 rfl sl22 sz3 by3 zr3 rfl ?_ ?_ ?_ (fun tk => ?_))); (first | exact goodI _ | exact goodU _ | rfl | exact goodSL _ | exact goodLL _ | (focus (simp [goodL, oneA, AV.cells]; done)) | skip))
          | ((with_reducible refine (act_append 5 rfl sl22 sz3 by3 zr3 rfl ?_ ?_ ?_ (fun tk => ?_))); (first | exact goodI _ | exact goodU _ | rfl | exact goodSL _ | exact goodLL _ | (focus (simp [goodL, oneA, AV.cells]; done)) | skip))
          | ((with_reducible refine actC_mk (act_append 6 rfl sl22 sz3 by3 zr3 rfl ?_ ?_ ?_ (fun tk => ?_))); (first | exact goodI _ | exact goodU _ | rfl | exact goodSL _ | exact goodLL _ | (focus (simp [goodL, oneA, AV.cells]; done)) | skip))
          | ((with_reducible refine (act_append 6 rfl sl22 sz3 by3 zr3 rfl ?_ ?_ ?_ (fun tk => ?_))); (first | exact goodI _ | exact goodU _ | rfl | exact goodSL _ | exact goodLL _ | (focus (simp [goodL, oneA, AV.cells]; done)) | skip))
          | (with_reducible refine callD_mk (trimmed (fun btr => ?_)))
          | (with_reducible refine callD_q (between1 (by omega) isR_mk) ?_)
          | (with_reducible refine callD_mk (between1 (by omega) ?_))
          | ((with_reducible refine AW_drawM (id := 6) 3 mixed ?_ ?_); kernel_rfl)
          | (with_reducible refine dmQ_mk ?_)
          | (with_reducible refine nilTC_pos (by simp; omega) ?_)
          | (with_reducible refine nilTC_split (fun h => ?_) (fun h bn => ?_) <;> (try simp only [List.length_map] at h))
          | (with_reducible refine grd_cases (fun h => ?_) (fun h => ?_) <;> (try simp only [h]) <;> (try simp only [beq_iff_eq, beq_eq_false_iff_ne, bne_iff_ne, bne_eq_false_iff_eq, decide_eq_true_eq, decide_eq_false_iff_not, Bool.not_eq_true', Bool.not_eq_false', Bool.not_true, Bool.not_false, Bool.not_eq_eq_eq_not, ne_eq, Int.not_lt, Int.not_le, gt_iff_lt, ge_iff_le, Decidable.not_not] at h))
          | (with_reducible refine condC_split (fun h => ?_) (fun h => ?_) <;> (try simp only [h]) <;> (try simp only [beq_iff_eq, beq_eq_false_iff_ne, bne_iff_ne, bne_eq_false_iff_eq, decide_eq_true_eq, decide_eq_false_iff_not, Bool.not_eq_true', Bool.not_eq_false', Bool.not_true, Bool.not_false, Bool.not_eq_eq_eq_not, ne_eq, Int.not_lt, Int.not_le, gt_iff_lt, ge_iff_le, Decidable.not_not] at h))
          | omega | (simp only [List.length_append, List.length_map, List.length_cons, List.length_nil, List.length_drop, List.length_take, List.length_replicate]; omega) | (refine maxLen_ok ?_; (first | omega | (simp only [List.length_append, List.length_map, List.length_cons, List.length_nil, List.length_drop, List.length_take, List.length_replicate]; omega))))
        all_goals exact ⟨_, resS_rfl, out ++ between e ++ u, 0, i + 1, tk, rfl, by rw [h2]; simp, by omega, by omega, by omega, by simp⟩

end Go.Proofs.Ythepmgdoophoaaa
