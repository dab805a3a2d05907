/-
  Walks: the reference's folding.
-/
import Derived.Test.YthnlcdcfbgfncaaSg
import Derived.Test.YthnlcdcfbgfncaaSf
namespace Go.Proofs.Ythnlcdcfbgfncaa
open Go.Abs
set_option linter.unusedVariables false
set_option linter.unusedSimpArgs false
-- hb: 4000000
variable {κ : Ctx} {σ : List Res} {K : Ret → List Res → Prop} {o o' : Option (Option (Nat × Nat))}

def trimB (f b : Bool) (l : List Int) : List Int := if b then backI (if f then l.dropWhile blankI else l) else if f then l.dropWhile blankI else l
set_option maxHeartbeats 4000000 in
theorem trimAt_B {n i : Nat} {t : List Int} : trimAt n i t = trimB (decide (0 < i)) (decide (i + 1 < n)) t := by
  unfold trimAt trimB
  by_cases h1 : i + 1 < n <;> by_cases h2 : 0 < i <;> simp [h1, h2]

-- marginaliaref1.trim
set_option maxHeartbeats 4000000 in
theorem rtrim {l : List Int} {f b : Bool} (hl : l.length ≤ 1000000000) (hK : K (.ret (SI none (trimB f b l))) σ) : ACallF κ Try.prog 66 [SI o l, B f, B b] σ K := by
  have h0 := frontI_le l
  have htw := (List.takeWhile_prefix blankI (l := l)).length_le
  cases f
  ·
    refine ACallF.dropL (ACallF_intro Try.func66 rfl ?_)
    simp only [Try.ntmps66]
    repeat' (first
      | simp only [WL, intF, strF, List.toList_toArray, List.set_cons_succ, List.set_cons_zero, List.getD_cons_succ, List.getD_cons_zero, List.getElem?_cons_succ, List.getElem?_cons_zero, List.length_cons, List.length_nil, List.replicate_succ, List.replicate_zero, List.cons_append, List.nil_append, List.append_nil, List.map_cons, List.map_nil, Option.bind_some, Option.map_some, Option.map_none, List.drop_succ_cons, List.drop_zero, List.take_succ_cons, List.take_zero, ← List.map_take, ← List.map_drop, List.take_length, Int.reduceToNat, ne_eq, reduceCtorEq, not_false_eq_true, Nat.reduceAdd, Nat.reduceSub, Nat.reduceLT, Nat.reduceLeDiff, Nat.reduceEqDiff, Nat.zero_lt_succ, Bool.not_true, Bool.not_false, beq_self_eq_true, true_and, and_true, Option.isSome_some, Option.isSome_none, reduceIte, Int.toNat_natCast, Bool.false_eq_true, List.length_map, Nat.le_refl, Option.some.injEq, exists_eq_left', Nat.add_right_cancel_iff, List.take_nil, List.drop_nil, T3, T4, T24, cok75, cok87, Try.results66]
      | (simp (disch := first | omega | (simp only [List.length_append, List.length_map, List.length_cons, List.length_nil, List.length_drop, List.length_take, List.length_replicate]; omega)) only [wrap_id, getI])
      | (with_reducible refine And.intro (by first | omega | exact ⟨_, rfl⟩ | (focus (simp; done)) | (simp; omega)) ?_)
      | ((with_reducible apply wk_load (ty := 3) (ha := ag3) 0); rfl; rfl)
      | ((with_reducible apply wk_load (ty := 3) (ha := ag3) 1); rfl; rfl)
      | (with_reducible refine callD_mk (rBlank ?_))
      | (with_reducible refine callD_mk (rPast ?_ ?_))
      | (with_reducible refine nilTC_pos (by simp; omega) ?_)
      | (with_reducible refine nilTC_split (fun h => ?_) (fun h bn => ?_) <;> (try simp only [List.length_map] at h))
      | (with_reducible refine grd_cases (fun h => ?_) (fun h => ?_) <;> (try simp only [h]) <;> (try simp only [beq_iff_eq, beq_eq_false_iff_ne, bne_iff_ne, bne_eq_false_iff_eq, decide_eq_true_eq, decide_eq_false_iff_not, Bool.not_eq_true', Bool.not_eq_false', Bool.not_true, Bool.not_false, Bool.not_eq_eq_eq_not, ne_eq, Int.not_lt, Int.not_le, gt_iff_lt, ge_iff_le, Decidable.not_not] at h))
      | (with_reducible refine condC_split (fun h => ?_) (fun h => ?_) <;> (try simp only [h]) <;> (try simp only [beq_iff_eq, beq_eq_false_iff_ne, bne_iff_ne, bne_eq_false_iff_eq, decide_eq_true_eq, decide_eq_false_iff_not, Bool.not_eq_true', Bool.not_eq_false', Bool.not_true, Bool.not_false, Bool.not_eq_eq_eq_not, ne_eq, Int.not_lt, Int.not_le, gt_iff_lt, ge_iff_le, Decidable.not_not] at h))
      | omega | (simp only [List.length_append, List.length_map, List.length_cons, List.length_nil, List.length_drop, List.length_take, List.length_replicate]; omega))
    refine loop_by (fun x : Option (Option (Nat × Nat)) × List Int => ⟨(SI x.1 x.2 :: .any :: B b :: .any :: .any :: .any :: .any :: .any :: .any :: .any :: .any :: .any :: .any :: .any :: .any :: .any :: .any :: .any :: .any :: .any :: .any :: .any :: .any :: .any :: .any :: .any :: .any :: .any :: .any :: .any :: .any :: .any :: .any :: []), σ, true, []⟩) (fun x => trimB false b x.2 = trimB false b l ∧ x.2.length ≤ l.length) (fun x => x.2.length) (o, l) (St_le_same (by repeat (first | exact trivial | refine ⟨le_rfl, ?_⟩ | refine ⟨le_any, ?_⟩ | refine ⟨le_ro, ?_⟩ | refine ⟨le_nil (by decide), ?_⟩ | refine ⟨le_wrap (by omega) (by omega) (by omega), ?_⟩ | refine ⟨le_int (by omega), ?_⟩ | refine ⟨le_eq (by simp), ?_⟩)) id) ⟨rfl, Nat.le_refl _⟩ ?_
    rintro ⟨o', l'⟩ ⟨h1, h2⟩
    dsimp only at h1 h2 ⊢
    have e1 : 0 < l'.length → ((l'.length : Int) - 1).toNat = l'.length - 1 := fun _ => by omega
    repeat' (first
      | simp only [WL, intF, strF, List.toList_toArray, List.set_cons_succ, List.set_cons_zero, List.getD_cons_succ, List.getD_cons_zero, List.getElem?_cons_succ, List.getElem?_cons_zero, List.length_cons, List.length_nil, List.replicate_succ, List.replicate_zero, List.cons_append, List.nil_append, List.append_nil, List.map_cons, List.map_nil, Option.bind_some, Option.map_some, Option.map_none, List.drop_succ_cons, List.drop_zero, List.take_succ_cons, List.take_zero, ← List.map_take, ← List.map_drop, List.take_length, Int.reduceToNat, ne_eq, reduceCtorEq, not_false_eq_true, Nat.reduceAdd, Nat.reduceSub, Nat.reduceLT, Nat.reduceLeDiff, Nat.reduceEqDiff, Nat.zero_lt_succ, Bool.not_true, Bool.not_false, beq_self_eq_true, true_and, and_true, Option.isSome_some, Option.isSome_none, reduceIte, Int.toNat_natCast, Bool.false_eq_true, List.length_map, Nat.le_refl, Option.some.injEq, exists_eq_left', Nat.add_right_cancel_iff, List.take_nil, List.drop_nil, T3, T4, T24, cok75, cok87, Try.results66]
      | (simp (disch := first | omega | (simp only [List.length_append, List.length_map, List.length_cons, List.length_nil, List.length_drop, List.length_take, List.length_replicate]; omega)) only [wrap_id, getI])
      | (with_reducible refine And.intro (by first | omega | exact ⟨_, rfl⟩ | (focus (simp; done)) | (simp; omega)) ?_)
      | ((with_reducible apply wk_load (ty := 3) (ha := ag3) 0); rfl; rfl)
      | ((with_reducible apply wk_load (ty := 3) (ha := ag3) 1); rfl; rfl)
      | (with_reducible refine callD_mk (rBlank ?_))
      | (with_reducible refine callD_mk (rPast ?_ ?_))
      | (with_reducible refine nilTC_pos (by simp; omega) ?_)
      | (with_reducible refine nilTC_split (fun h => ?_) (fun h bn => ?_) <;> (try simp only [List.length_map] at h))
      | (with_reducible refine grd_cases (fun h => ?_) (fun h => ?_) <;> (try simp only [h]) <;> (try simp only [beq_iff_eq, beq_eq_false_iff_ne, bne_iff_ne, bne_eq_false_iff_eq, decide_eq_true_eq, decide_eq_false_iff_not, Bool.not_eq_true', Bool.not_eq_false', Bool.not_true, Bool.not_false, Bool.not_eq_eq_eq_not, ne_eq, Int.not_lt, Int.not_le, gt_iff_lt, ge_iff_le, Decidable.not_not] at h))
      | (with_reducible refine condC_split (fun h => ?_) (fun h => ?_) <;> (try simp only [h]) <;> (try simp only [beq_iff_eq, beq_eq_false_iff_ne, bne_iff_ne, bne_eq_false_iff_eq, decide_eq_true_eq, decide_eq_false_iff_not, Bool.not_eq_true', Bool.not_eq_false', Bool.not_true, Bool.not_false, Bool.not_eq_eq_eq_not, ne_eq, Int.not_lt, Int.not_le, gt_iff_lt, ge_iff_le, Decidable.not_not] at h))
      | omega | (simp only [List.length_append, List.length_map, List.length_cons, List.length_nil, List.length_drop, List.length_take, List.length_replicate]; omega))
    · simp only [*, trimB, if_true, Bool.false_eq_true, if_false] at h1
      exact ⟨(none, l'.take (l'.length - 1)), St_le_same (by simp only [e1 (by omega)]; repeat (first | exact trivial | refine ⟨le_rfl, ?_⟩ | refine ⟨le_any, ?_⟩ | refine ⟨le_ro, ?_⟩ | refine ⟨le_nil (by decide), ?_⟩ | refine ⟨le_wrap (by omega) (by omega) (by omega), ?_⟩ | refine ⟨le_int (by omega), ?_⟩ | refine ⟨le_eq (by simp), ?_⟩)) id, ⟨by simp only [*, trimB, if_true, Bool.false_eq_true, if_false]; rw [← h1]; exact (backI_step (by omega) (by rw [← e1 (by omega)]; assumption)).symm, by simp; omega⟩, by simp; omega⟩
    · exact leafL sub_rfl (leT_le (by rw [← h1]; simp only [*, trimB, if_true, Bool.false_eq_true, if_false]; rw [backI_stop (by omega) (by rw [← e1 (by omega)]; assumption)]; exact le_ro)) hK
    · obtain rfl : l' = [] := List.eq_nil_of_length_eq_zero (by omega)
      exact leafL sub_rfl (leT_le (by rw [← h1]; simp only [*, trimB]; exact le_ro)) hK
    · exact leafL sub_rfl (leT_le (by rw [← h1]; simp only [*, trimB, if_true, Bool.false_eq_true, if_false]; exact le_ro)) hK
  ·
    refine ACallF.dropL (ACallF_intro Try.func66 rfl ?_)
    simp only [Try.ntmps66]
    repeat' (first
      | simp only [WL, intF, strF, List.toList_toArray, List.set_cons_succ, List.set_cons_zero, List.getD_cons_succ, List.getD_cons_zero, List.getElem?_cons_succ, List.getElem?_cons_zero, List.length_cons, List.length_nil, List.replicate_succ, List.replicate_zero, List.cons_append, List.nil_append, List.append_nil, List.map_cons, List.map_nil, Option.bind_some, Option.map_some, Option.map_none, List.drop_succ_cons, List.drop_zero, List.take_succ_cons, List.take_zero, ← List.map_take, ← List.map_drop, List.take_length, Int.reduceToNat, ne_eq, reduceCtorEq, not_false_eq_true, Nat.reduceAdd, Nat.reduceSub, Nat.reduceLT, Nat.reduceLeDiff, Nat.reduceEqDiff, Nat.zero_lt_succ, Bool.not_true, Bool.not_false, beq_self_eq_true, true_and, and_true, Option.isSome_some, Option.isSome_none, reduceIte, Int.toNat_natCast, Bool.false_eq_true, List.length_map, Nat.le_refl, Option.some.injEq, exists_eq_left', Nat.add_right_cancel_iff, List.take_nil, List.drop_nil, T3, T4, T24, cok75, cok87, Try.results66, tw_dw]
      | (simp (disch := first | omega | (simp only [List.length_append, List.length_map, List.length_cons, List.length_nil, List.length_drop, List.length_take, List.length_replicate]; omega)) only [wrap_id, getI])
      | (with_reducible refine And.intro (by first | omega | exact ⟨_, rfl⟩ | (focus (simp; done)) | (simp; omega)) ?_)
      | ((with_reducible apply wk_load (ty := 3) (ha := ag3) 0); rfl; rfl)
      | ((with_reducible apply wk_load (ty := 3) (ha := ag3) 1); rfl; rfl)
      | (with_reducible refine callD_mk (rBlank ?_))
      | (with_reducible refine callD_mk (rPast ?_ ?_))
      | (with_reducible refine nilTC_pos (by simp; omega) ?_)
      | (with_reducible refine nilTC_split (fun h => ?_) (fun h bn => ?_) <;> (try simp only [List.length_map] at h))
      | (with_reducible refine grd_cases (fun h => ?_) (fun h => ?_) <;> (try simp only [h]) <;> (try simp only [beq_iff_eq, beq_eq_false_iff_ne, bne_iff_ne, bne_eq_false_iff_eq, decide_eq_true_eq, decide_eq_false_iff_not, Bool.not_eq_true', Bool.not_eq_false', Bool.not_true, Bool.not_false, Bool.not_eq_eq_eq_not, ne_eq, Int.not_lt, Int.not_le, gt_iff_lt, ge_iff_le, Decidable.not_not] at h))
      | (with_reducible refine condC_split (fun h => ?_) (fun h => ?_) <;> (try simp only [h]) <;> (try simp only [beq_iff_eq, beq_eq_false_iff_ne, bne_iff_ne, bne_eq_false_iff_eq, decide_eq_true_eq, decide_eq_false_iff_not, Bool.not_eq_true', Bool.not_eq_false', Bool.not_true, Bool.not_false, Bool.not_eq_eq_eq_not, ne_eq, Int.not_lt, Int.not_le, gt_iff_lt, ge_iff_le, Decidable.not_not] at h))
      | omega | (simp only [List.length_append, List.length_map, List.length_cons, List.length_nil, List.length_drop, List.length_take, List.length_replicate]; omega))
    refine loop_by (fun x : Option (Option (Nat × Nat)) × List Int => ⟨(SI x.1 x.2 :: .any :: B b :: .any :: .any :: .any :: .any :: .any :: .any :: .any :: .any :: .any :: .any :: .any :: .any :: .any :: .any :: .any :: .any :: .any :: .any :: .any :: .any :: .any :: .any :: .any :: .any :: .any :: .any :: .any :: .any :: .any :: .any :: []), σ, true, []⟩) (fun x => trimB false b x.2 = trimB true b l ∧ x.2.length ≤ l.length) (fun x => x.2.length) (none, l.dropWhile blankI) (St_le_same (by repeat (first | exact trivial | refine ⟨le_rfl, ?_⟩ | refine ⟨le_any, ?_⟩ | refine ⟨le_ro, ?_⟩ | refine ⟨le_nil (by decide), ?_⟩ | refine ⟨le_wrap (by omega) (by omega) (by omega), ?_⟩ | refine ⟨le_int (by omega), ?_⟩ | refine ⟨le_eq (by simp), ?_⟩)) id) ⟨by cases b <;> rfl, h0⟩ ?_
    rintro ⟨o', l'⟩ ⟨h1, h2⟩
    dsimp only at h1 h2 ⊢
    have e1 : 0 < l'.length → ((l'.length : Int) - 1).toNat = l'.length - 1 := fun _ => by omega
    repeat' (first
      | simp only [WL, intF, strF, List.toList_toArray, List.set_cons_succ, List.set_cons_zero, List.getD_cons_succ, List.getD_cons_zero, List.getElem?_cons_succ, List.getElem?_cons_zero, List.length_cons, List.length_nil, List.replicate_succ, List.replicate_zero, List.cons_append, List.nil_append, List.append_nil, List.map_cons, List.map_nil, Option.bind_some, Option.map_some, Option.map_none, List.drop_succ_cons, List.drop_zero, List.take_succ_cons, List.take_zero, ← List.map_take, ← List.map_drop, List.take_length, Int.reduceToNat, ne_eq, reduceCtorEq, not_false_eq_true, Nat.reduceAdd, Nat.reduceSub, Nat.reduceLT, Nat.reduceLeDiff, Nat.reduceEqDiff, Nat.zero_lt_succ, Bool.not_true, Bool.not_false, beq_self_eq_true, true_and, and_true, Option.isSome_some, Option.isSome_none, reduceIte, Int.toNat_natCast, Bool.false_eq_true, List.length_map, Nat.le_refl, Option.some.injEq, exists_eq_left', Nat.add_right_cancel_iff, List.take_nil, List.drop_nil, T3, T4, T24, cok75, cok87, Try.results66]
      | (simp (disch := first | omega | (simp only [List.length_append, List.length_map, List.length_cons, List.length_nil, List.length_drop, List.length_take, List.length_replicate]; omega)) only [wrap_id, getI])
      | (with_reducible refine And.intro (by first | omega | exact ⟨_, rfl⟩ | (focus (simp; done)) | (simp; omega)) ?_)
      | ((with_reducible apply wk_load (ty := 3) (ha := ag3) 0); rfl; rfl)
      | ((with_reducible apply wk_load (ty := 3) (ha := ag3) 1); rfl; rfl)
      | (with_reducible refine callD_mk (rBlank ?_))
      | (with_reducible refine callD_mk (rPast ?_ ?_))
      | (with_reducible refine nilTC_pos (by simp; omega) ?_)
      | (with_reducible refine nilTC_split (fun h => ?_) (fun h bn => ?_) <;> (try simp only [List.length_map] at h))
      | (with_reducible refine grd_cases (fun h => ?_) (fun h => ?_) <;> (try simp only [h]) <;> (try simp only [beq_iff_eq, beq_eq_false_iff_ne, bne_iff_ne, bne_eq_false_iff_eq, decide_eq_true_eq, decide_eq_false_iff_not, Bool.not_eq_true', Bool.not_eq_false', Bool.not_true, Bool.not_false, Bool.not_eq_eq_eq_not, ne_eq, Int.not_lt, Int.not_le, gt_iff_lt, ge_iff_le, Decidable.not_not] at h))
      | (with_reducible refine condC_split (fun h => ?_) (fun h => ?_) <;> (try simp only [h]) <;> (try simp only [beq_iff_eq, beq_eq_false_iff_ne, bne_iff_ne, bne_eq_false_iff_eq, decide_eq_true_eq, decide_eq_false_iff_not, Bool.not_eq_true', Bool.not_eq_false', Bool.not_true, Bool.not_false, Bool.not_eq_eq_eq_not, ne_eq, Int.not_lt, Int.not_le, gt_iff_lt, ge_iff_le, Decidable.not_not] at h))
      | omega | (simp only [List.length_append, List.length_map, List.length_cons, List.length_nil, List.length_drop, List.length_take, List.length_replicate]; omega))
    · simp only [*, trimB, if_true, Bool.false_eq_true, if_false] at h1
      exact ⟨(none, l'.take (l'.length - 1)), St_le_same (by simp only [e1 (by omega)]; repeat (first | exact trivial | refine ⟨le_rfl, ?_⟩ | refine ⟨le_any, ?_⟩ | refine ⟨le_ro, ?_⟩ | refine ⟨le_nil (by decide), ?_⟩ | refine ⟨le_wrap (by omega) (by omega) (by omega), ?_⟩ | refine ⟨le_int (by omega), ?_⟩ | refine ⟨le_eq (by simp), ?_⟩)) id, ⟨by simp only [*, trimB, if_true, Bool.false_eq_true, if_false]; rw [← h1]; exact (backI_step (by omega) (by rw [← e1 (by omega)]; assumption)).symm, by simp; omega⟩, by simp; omega⟩
    · exact leafL sub_rfl (leT_le (by rw [← h1]; simp only [*, trimB, if_true, Bool.false_eq_true, if_false]; rw [backI_stop (by omega) (by rw [← e1 (by omega)]; assumption)]; exact le_ro)) hK
    · obtain rfl : l' = [] := List.eq_nil_of_length_eq_zero (by omega)
      exact leafL sub_rfl (leT_le (by rw [← h1]; simp only [*, trimB]; exact le_ro)) hK
    · exact leafL sub_rfl (leT_le (by rw [← h1]; simp only [*, trimB, if_true, Bool.false_eq_true, if_false]; exact le_ro)) hK

-- marginaliaref1.FoldFlow
set_option maxHeartbeats 4000000 in
theorem rFoldFlow {l : List (List Int)} (hl : tot l ≤ 1000000000) (hK : K (.ret (SI none (flowF l))) σ) : ACallF κ Try.prog 31 [SSI o l] σ K := by
  have hlen := tot_len l
  refine ACallF.dropL (ACallF_intro Try.func31 rfl ?_)
  simp only [Try.ntmps31]
  repeat' (first
    | simp only [WL, intF, strF, List.toList_toArray, List.set_cons_succ, List.set_cons_zero, List.getD_cons_succ, List.getD_cons_zero, List.getElem?_cons_succ, List.getElem?_cons_zero, List.length_cons, List.length_nil, List.replicate_succ, List.replicate_zero, List.cons_append, List.nil_append, List.append_nil, List.map_cons, List.map_nil, Option.bind_some, Option.map_some, Option.map_none, List.drop_succ_cons, List.drop_zero, List.take_succ_cons, List.take_zero, ← List.map_take, ← List.map_drop, List.take_length, Int.reduceToNat, ne_eq, reduceCtorEq, not_false_eq_true, Nat.reduceAdd, Nat.reduceSub, Nat.reduceLT, Nat.reduceLeDiff, Nat.reduceEqDiff, Nat.zero_lt_succ, Bool.not_true, Bool.not_false, beq_self_eq_true, true_and, and_true, Option.isSome_some, Option.isSome_none, reduceIte, Int.toNat_natCast, Bool.false_eq_true, List.length_map, Nat.le_refl, Option.some.injEq, exists_eq_left', Nat.add_right_cancel_iff, List.take_nil, List.drop_nil, T3, T4, T24, T37, cok66, Try.results31]
    | (simp (disch := first | omega | (simp only [List.length_append, List.length_map, List.length_cons, List.length_nil, List.length_drop, List.length_take, List.length_replicate]; omega)) only [wrap_id, getI])
    | (with_reducible refine And.intro (by first | omega | exact ⟨_, rfl⟩ | (focus (simp; done)) | (simp; omega)) ?_)
    | ((with_reducible apply wk_load (ty := 24) (ha := ag24) 0); rfl; rfl)
    | ((with_reducible apply wk_load (ty := 24) (ha := ag24) 1); rfl; rfl)
    | ((with_reducible refine actC_mk (act_append_nil (sz := 1) (by decide) ?_)))
    | ((with_reducible refine actC_mk (act_append_src_nil (sz := 1) (by decide) ?_)))
    | ((with_reducible refine actC_mk (act_append 0 rfl sl24 sz3 by3 zr3 rfl ?_ ?_ ?_ (fun tk => ?_))); (first | exact goodI _ | exact goodU _ | rfl | exact goodSL _ | exact goodLL _ | (focus (simp [goodL, oneA, AV.cells]; done)) | skip))
    | ((with_reducible refine (act_append 0 rfl sl24 sz3 by3 zr3 rfl ?_ ?_ ?_ (fun tk => ?_))); (first | exact goodI _ | exact goodU _ | rfl | exact goodSL _ | exact goodLL _ | (focus (simp [goodL, oneA, AV.cells]; done)) | skip))
    | ((with_reducible refine actC_mk (act_append 1 rfl sl24 sz3 by3 zr3 rfl ?_ ?_ ?_ (fun tk => ?_))); (first | exact goodI _ | exact goodU _ | rfl | exact goodSL _ | exact goodLL _ | (focus (simp [goodL, oneA, AV.cells]; done)) | skip))
    | ((with_reducible refine (act_append 1 rfl sl24 sz3 by3 zr3 rfl ?_ ?_ ?_ (fun tk => ?_))); (first | exact goodI _ | exact goodU _ | rfl | exact goodSL _ | exact goodLL _ | (focus (simp [goodL, oneA, AV.cells]; done)) | skip))
    | ((with_reducible refine actC_mk (act_append 2 rfl sl24 sz3 by3 zr3 rfl ?_ ?_ ?_ (fun tk => ?_))); (first | exact goodI _ | exact goodU _ | rfl | exact goodSL _ | exact goodLL _ | (focus (simp [goodL, oneA, AV.cells]; done)) | skip))
    | ((with_reducible refine (act_append 2 rfl sl24 sz3 by3 zr3 rfl ?_ ?_ ?_ (fun tk => ?_))); (first | exact goodI _ | exact goodU _ | rfl | exact goodSL _ | exact goodLL _ | (focus (simp [goodL, oneA, AV.cells]; done)) | skip))
    | ((with_reducible refine wk_bslice sl24 sz3 zr3 (by decide) (by decide) (by decide) (by decide) rfl ?_ ?_ ?_); (first | exact goodI _ | exact goodU _ | rfl | exact goodSL _ | exact goodLL _ | (focus (simp [goodL, oneA, AV.cells]; done))); (all_goals first | (intro x hx; simp at hx; first | (subst hx; rfl) | (rcases hx with rfl | rfl <;> rfl) | (rcases hx with rfl | rfl | rfl <;> rfl) | (repeat (rcases hx with rfl | hx <;> try rfl))) | skip))
    | (with_reducible refine callD_mk (rtrim ?_ ?_))
    | (with_reducible refine nilTC_pos (by simp; omega) ?_)
    | (with_reducible refine nilTC_split (fun h => ?_) (fun h bn => ?_) <;> (try simp only [List.length_map] at h))
    | (with_reducible refine grd_cases (fun h => ?_) (fun h => ?_) <;> (try simp only [h]) <;> (try simp only [beq_iff_eq, beq_eq_false_iff_ne, bne_iff_ne, bne_eq_false_iff_eq, decide_eq_true_eq, decide_eq_false_iff_not, Bool.not_eq_true', Bool.not_eq_false', Bool.not_true, Bool.not_false, Bool.not_eq_eq_eq_not, ne_eq, Int.not_lt, Int.not_le, gt_iff_lt, ge_iff_le, Decidable.not_not] at h))
    | (with_reducible refine condC_split (fun h => ?_) (fun h => ?_) <;> (try simp only [h]) <;> (try simp only [beq_iff_eq, beq_eq_false_iff_ne, bne_iff_ne, bne_eq_false_iff_eq, decide_eq_true_eq, decide_eq_false_iff_not, Bool.not_eq_true', Bool.not_eq_false', Bool.not_true, Bool.not_false, Bool.not_eq_eq_eq_not, ne_eq, Int.not_lt, Int.not_le, gt_iff_lt, ge_iff_le, Decidable.not_not] at h))
    | omega | (simp only [List.length_append, List.length_map, List.length_cons, List.length_nil, List.length_drop, List.length_take, List.length_replicate]; omega) | (refine maxLen_ok ?_; (first | omega | (simp only [List.length_append, List.length_map, List.length_cons, List.length_nil, List.length_drop, List.length_take, List.length_replicate]; omega))))
  refine loop_by (fun x : Nat × List Int × Nat × Option (Nat × Nat) => ⟨(SSI o l :: .any :: .any :: SI (some x.2.2.2) x.2.1 :: I x.2.2.1 :: I ((l.length : Int) - 1) :: I x.1 :: .any :: .any :: .any :: .any :: .any :: .any :: .any :: .any :: .any :: .any :: .any :: .any :: .any :: .any :: .any :: .any :: .any :: .any :: .any :: .any :: .any :: .any :: .any :: .any :: .any :: .any :: .any :: .any :: .any :: .any :: .any :: .any :: .any :: .any :: .any :: .any :: .any :: .any :: .any :: .any :: .any :: .any :: .any :: .any :: .any :: .any :: .any :: .any :: .any :: .any :: .any :: .any :: .any :: .any :: .any :: []), .tip x.2.2.2 :: σ, true, []⟩)
    (fun x => flowF l = x.2.1 ++ flowGo (decide (x.1 = 0)) x.2.2.1 (trims l.length x.1 (l.drop x.1)) ∧ x.1 ≤ l.length ∧ x.2.2.1 ≤ x.1) (fun x => l.length - x.1) (0, [], 0, none) (St_leW (by repeat (first | exact trivial | refine ⟨le_rfl, ?_⟩ | refine ⟨le_any, ?_⟩ | refine ⟨le_ro, ?_⟩ | refine ⟨le_nil (by decide), ?_⟩ | refine ⟨le_wrap (by omega) (by omega) (by omega), ?_⟩ | refine ⟨le_int (by omega), ?_⟩ | refine ⟨le_eq (by simp), ?_⟩)) ResW.void id) ⟨by simp [flowF], Nat.zero_le _, Nat.le_refl _⟩ ?_
  rintro ⟨i, out, e, tk⟩ ⟨h2, h3, h4⟩
  dsimp only at h2 h3 h4 ⊢
  rcases Nat.lt_or_ge i l.length with hi | hi
  · rw [drop_getDL hi, trims, trimAt_B] at h2
    have h5 := tot_get (l := l) i
    have h6 := trimAt_le l.length i (l.getD i [])
    rw [trimAt_B] at h6
    generalize hu : trimB (decide (0 < i)) (decide (i + 1 < l.length)) (l.getD i []) = u at *
    have hu2 : trimB (decide ((i : Int) > 0)) (decide ((i : Int) < (l.length : Int) - 1)) (l.getD i []) = u := by
      rw [← hu]; congr 1
      · simp
      · simp; omega
    have hlast : trims l.length (i + 1) (l.drop (i + 1)) = [] ↔ i + 1 = l.length := by
      constructor
      · intro h
        have := List.drop_eq_nil_iff.1 (trims_nil h)
        omega
      · intro h
        rw [List.drop_eq_nil_of_le (by omega)]; rfl
    have ho := flow_out h2
    have hb := between_len e
    repeat' (first
      | simp only [WL, intF, strF, List.toList_toArray, List.set_cons_succ, List.set_cons_zero, List.getD_cons_succ, List.getD_cons_zero, List.getElem?_cons_succ, List.getElem?_cons_zero, List.length_cons, List.length_nil, List.replicate_succ, List.replicate_zero, List.cons_append, List.nil_append, List.append_nil, List.map_cons, List.map_nil, Option.bind_some, Option.map_some, Option.map_none, List.drop_succ_cons, List.drop_zero, List.take_succ_cons, List.take_zero, ← List.map_take, ← List.map_drop, List.take_length, Int.reduceToNat, ne_eq, reduceCtorEq, not_false_eq_true, Nat.reduceAdd, Nat.reduceSub, Nat.reduceLT, Nat.reduceLeDiff, Nat.reduceEqDiff, Nat.zero_lt_succ, Bool.not_true, Bool.not_false, beq_self_eq_true, true_and, and_true, Option.isSome_some, Option.isSome_none, reduceIte, Int.toNat_natCast, Bool.false_eq_true, List.length_map, Nat.le_refl, Option.some.injEq, exists_eq_left', Nat.add_right_cancel_iff, List.take_nil, List.drop_nil, T3, T4, T24, T37, cok66, Try.results31, hu2]
      | (simp (disch := first | omega | (simp only [List.length_append, List.length_map, List.length_cons, List.length_nil, List.length_drop, List.length_take, List.length_replicate]; omega)) only [wrap_id, getI, getS])
      | (with_reducible refine And.intro (by first | omega | exact ⟨_, rfl⟩ | (focus (simp; done)) | (simp; omega)) ?_)
      | ((with_reducible apply wk_load (ty := 24) (ha := ag24) 0); rfl; rfl)
      | ((with_reducible apply wk_load (ty := 24) (ha := ag24) 1); rfl; rfl)
      | ((with_reducible refine actC_mk (act_append_nil (sz := 1) (by decide) ?_)))
      | ((with_reducible refine actC_mk (act_append_src_nil (sz := 1) (by decide) ?_)))
      | ((with_reducible refine actC_mk (act_append 0 rfl sl24 sz3 by3 zr3 rfl ?_ ?_ ?_ (fun tk => ?_))); (first | exact goodI _ | exact goodU _ | rfl | exact goodSL _ | exact goodLL _ | (focus (simp [goodL, oneA, AV.cells]; done)) | skip))
      | ((with_reducible refine (act_append 0 rfl sl24 sz3 by3 zr3 rfl ?_ ?_ ?_ (fun tk => ?_))); (first | exact goodI _ | exact goodU _ | rfl | exact goodSL _ | exact goodLL _ | (focus (simp [goodL, oneA, AV.cells]; done)) | skip))
      | ((with_reducible refine actC_mk (act_append 1 rfl sl24 sz3 by3 zr3 rfl ?_ ?_ ?_ (fun tk => ?_))); (first | exact goodI _ | exact goodU _ | rfl | exact goodSL _ | exact goodLL _ | (focus (simp [goodL, oneA, AV.cells]; done)) | skip))
      | ((with_reducible refine (act_append 1 rfl sl24 sz3 by3 zr3 rfl ?_ ?_ ?_ (fun tk => ?_))); (first | exact goodI _ | exact goodU _ | rfl | exact goodSL _ | exact goodLL _ | (focus (simp [goodL, oneA, AV.cells]; done)) | skip))
      | ((with_reducible refine actC_mk (act_append 2 rfl sl24 sz3 by3 zr3 rfl ?_ ?_ ?_ (fun tk => ?_))); (first | exact goodI _ | exact goodU _ | rfl | exact goodSL _ | exact goodLL _ | (focus (simp [goodL, oneA, AV.cells]; done)) | skip))
      | ((with_reducible refine (act_append 2 rfl sl24 sz3 by3 zr3 rfl ?_ ?_ ?_ (fun tk => ?_))); (first | exact goodI _ | exact goodU _ | rfl | exact goodSL _ | exact goodLL _ | (focus (simp [goodL, oneA, AV.cells]; done)) | skip))
      | ((with_reducible refine wk_bslice sl24 sz3 zr3 (by decide) (by decide) (by decide) (by decide) rfl ?_ ?_ ?_); (first | exact goodI _ | exact goodU _ | rfl | exact goodSL _ | exact goodLL _ | (focus (simp [goodL, oneA, AV.cells]; done))); (all_goals first | (intro x hx; simp at hx; first | (subst hx; rfl) | (rcases hx with rfl | rfl <;> rfl) | (rcases hx with rfl | rfl | rfl <;> rfl) | (repeat (rcases hx with rfl | hx <;> try rfl))) | skip))
      | (with_reducible refine callD_mk (rtrim ?_ ?_))
      | (with_reducible refine nilTC_pos (by simp; omega) ?_)
      | (with_reducible refine nilTC_split (fun h => ?_) (fun h bn => ?_) <;> (try simp only [List.length_map] at h))
      | (with_reducible refine grd_cases (fun h => ?_) (fun h => ?_) <;> (try simp only [h]) <;> (try simp only [beq_iff_eq, beq_eq_false_iff_ne, bne_iff_ne, bne_eq_false_iff_eq, decide_eq_true_eq, decide_eq_false_iff_not, Bool.not_eq_true', Bool.not_eq_false', Bool.not_true, Bool.not_false, Bool.not_eq_eq_eq_not, ne_eq, Int.not_lt, Int.not_le, gt_iff_lt, ge_iff_le, Decidable.not_not] at h))
      | (with_reducible refine condC_split (fun h => ?_) (fun h => ?_) <;> (try simp only [h]) <;> (try simp only [beq_iff_eq, beq_eq_false_iff_ne, bne_iff_ne, bne_eq_false_iff_eq, decide_eq_true_eq, decide_eq_false_iff_not, Bool.not_eq_true', Bool.not_eq_false', Bool.not_true, Bool.not_false, Bool.not_eq_eq_eq_not, ne_eq, Int.not_lt, Int.not_le, gt_iff_lt, ge_iff_le, Decidable.not_not] at h))
      | omega | (simp only [List.length_append, List.length_map, List.length_cons, List.length_nil, List.length_drop, List.length_take, List.length_replicate]; omega) | (refine maxLen_ok ?_; (first | omega | (simp only [List.length_append, List.length_map, List.length_cons, List.length_nil, List.length_drop, List.length_take, List.length_replicate]; omega))))
    ·
      obtain rfl : u = [] := List.eq_nil_of_length_eq_zero (by omega)
      have hne : ¬ trims l.length (i + 1) (l.drop (i + 1)) = [] := fun h => by have := hlast.1 h; omega
      simp only [decide_eq_false (show ¬ i = 0 by omega)] at h2
      rw [flowGo_empty rfl hne] at h2
      exact ⟨(i + 1, out, e + 1, tk), St_leW (by repeat (first | exact trivial | refine ⟨le_rfl, ?_⟩ | refine ⟨le_any, ?_⟩ | refine ⟨le_ro, ?_⟩ | refine ⟨le_nil (by decide), ?_⟩ | refine ⟨le_wrap (by omega) (by omega) (by omega), ?_⟩ | refine ⟨le_int (by omega), ?_⟩ | refine ⟨le_eq (by simp), ?_⟩)) (ResW.refl _) id, ⟨by rw [h2]; simp, by dsimp only; omega, by dsimp only; omega⟩, by dsimp only; omega⟩
    ·
      have hc : ¬ (u = [] ∧ trims l.length (i + 1) (l.drop (i + 1)) ≠ []) := by
        rintro ⟨ha, hc⟩
        have hl1 : ¬ i + 1 = l.length := fun h => hc (hlast.2 h)
        have : u.length = 0 := by rw [ha]; rfl
        omega
      have hi0 : ¬ i = 0 := by omega
      simp only [decide_eq_false hi0] at h2 ho
      rw [flowGo_cons hc] at h2 ho
      simp only [List.length_append] at ho
      have hen : e = 0 := by omega
      refine loop_by (fun x : Nat × Option (Nat × Nat) => ⟨(SSI o l :: .any :: .any :: SI (some x.2) (out ++ [32] ++ List.replicate x.1 10) :: I e :: I ((l.length : Int) - 1) :: I i :: SI none u :: I x.1 :: .any :: .any :: .any :: .any :: .any :: .any :: .any :: .any :: .any :: .any :: .any :: .any :: .any :: .any :: .any :: .any :: .any :: .any :: .any :: .any :: .any :: .any :: .any :: .any :: .any :: .any :: .any :: .any :: .any :: .any :: .any :: .any :: .any :: .any :: .any :: .any :: .any :: .any :: .any :: .any :: .any :: .any :: .any :: .any :: .any :: .any :: .any :: .any :: .any :: .any :: .any :: .any :: .any :: []), .tip x.2 :: σ, true, []⟩)
        (fun x => x.1 ≤ e) (fun x => e - x.1) (0, tk) (St_leW (by simp only [List.replicate_zero, List.append_nil]; repeat (first | exact trivial | refine ⟨le_rfl, ?_⟩ | refine ⟨le_any, ?_⟩ | refine ⟨le_ro, ?_⟩ | refine ⟨le_nil (by decide), ?_⟩ | refine ⟨le_wrap (by omega) (by omega) (by omega), ?_⟩ | refine ⟨le_int (by omega), ?_⟩ | refine ⟨le_eq (by simp), ?_⟩)) (ResW.refl _) id) (Nat.zero_le _) ?_
      rintro ⟨j, tk2⟩ hj
      dsimp only at hj ⊢
      repeat' (first
        | simp only [WL, intF, strF, List.toList_toArray, List.set_cons_succ, List.set_cons_zero, List.getD_cons_succ, List.getD_cons_zero, List.getElem?_cons_succ, List.getElem?_cons_zero, List.length_cons, List.length_nil, List.replicate_succ, List.replicate_zero, List.cons_append, List.nil_append, List.append_nil, List.map_cons, List.map_nil, Option.bind_some, Option.map_some, Option.map_none, List.drop_succ_cons, List.drop_zero, List.take_succ_cons, List.take_zero, ← List.map_take, ← List.map_drop, List.take_length, Int.reduceToNat, ne_eq, reduceCtorEq, not_false_eq_true, Nat.reduceAdd, Nat.reduceSub, Nat.reduceLT, Nat.reduceLeDiff, Nat.reduceEqDiff, Nat.zero_lt_succ, Bool.not_true, Bool.not_false, beq_self_eq_true, true_and, and_true, Option.isSome_some, Option.isSome_none, reduceIte, Int.toNat_natCast, Bool.false_eq_true, List.length_map, Nat.le_refl, Option.some.injEq, exists_eq_left', Nat.add_right_cancel_iff, List.take_nil, List.drop_nil, T3, T4, T24, T37, cok66, Try.results31]
        | (simp (disch := first | omega | (simp only [List.length_append, List.length_map, List.length_cons, List.length_nil, List.length_drop, List.length_take, List.length_replicate]; omega)) only [wrap_id, getI])
        | (with_reducible refine And.intro (by first | omega | exact ⟨_, rfl⟩ | (focus (simp; done)) | (simp; omega)) ?_)
        | ((with_reducible apply wk_load (ty := 24) (ha := ag24) 0); rfl; rfl)
        | ((with_reducible apply wk_load (ty := 24) (ha := ag24) 1); rfl; rfl)
        | ((with_reducible refine actC_mk (act_append_nil (sz := 1) (by decide) ?_)))
        | ((with_reducible refine actC_mk (act_append_src_nil (sz := 1) (by decide) ?_)))
        | ((with_reducible refine actC_mk (act_append 0 rfl sl24 sz3 by3 zr3 rfl ?_ ?_ ?_ (fun tk => ?_))); (first | exact goodI _ | exact goodU _ | rfl | exact goodSL _ | exact goodLL _ | (focus (simp [goodL, oneA, AV.cells]; done)) | skip))
        | ((with_reducible refine (act_append 0 rfl sl24 sz3 by3 zr3 rfl ?_ ?_ ?_ (fun tk => ?_))); (first | exact goodI _ | exact goodU _ | rfl | exact goodSL _ | exact goodLL _ | (focus (simp [goodL, oneA, AV.cells]; done)) | skip))
        | ((with_reducible refine actC_mk (act_append 1 rfl sl24 sz3 by3 zr3 rfl ?_ ?_ ?_ (fun tk => ?_))); (first | exact goodI _ | exact goodU _ | rfl | exact goodSL _ | exact goodLL _ | (focus (simp [goodL, oneA, AV.cells]; done)) | skip))
        | ((with_reducible refine (act_append 1 rfl sl24 sz3 by3 zr3 rfl ?_ ?_ ?_ (fun tk => ?_))); (first | exact goodI _ | exact goodU _ | rfl | exact goodSL _ | exact goodLL _ | (focus (simp [goodL, oneA, AV.cells]; done)) | skip))
        | ((with_reducible refine actC_mk (act_append 2 rfl sl24 sz3 by3 zr3 rfl ?_ ?_ ?_ (fun tk => ?_))); (first | exact goodI _ | exact goodU _ | rfl | exact goodSL _ | exact goodLL _ | (focus (simp [goodL, oneA, AV.cells]; done)) | skip))
        | ((with_reducible refine (act_append 2 rfl sl24 sz3 by3 zr3 rfl ?_ ?_ ?_ (fun tk => ?_))); (first | exact goodI _ | exact goodU _ | rfl | exact goodSL _ | exact goodLL _ | (focus (simp [goodL, oneA, AV.cells]; done)) | skip))
        | ((with_reducible refine wk_bslice sl24 sz3 zr3 (by decide) (by decide) (by decide) (by decide) rfl ?_ ?_ ?_); (first | exact goodI _ | exact goodU _ | rfl | exact goodSL _ | exact goodLL _ | (focus (simp [goodL, oneA, AV.cells]; done))); (all_goals first | (intro x hx; simp at hx; first | (subst hx; rfl) | (rcases hx with rfl | rfl <;> rfl) | (rcases hx with rfl | rfl | rfl <;> rfl) | (repeat (rcases hx with rfl | hx <;> try rfl))) | skip))
        | (with_reducible refine callD_mk (rtrim ?_ ?_))
        | (with_reducible refine nilTC_pos (by simp; omega) ?_)
        | (with_reducible refine nilTC_split (fun h => ?_) (fun h bn => ?_) <;> (try simp only [List.length_map] at h))
        | (with_reducible refine grd_cases (fun h => ?_) (fun h => ?_) <;> (try simp only [h]) <;> (try simp only [beq_iff_eq, beq_eq_false_iff_ne, bne_iff_ne, bne_eq_false_iff_eq, decide_eq_true_eq, decide_eq_false_iff_not, Bool.not_eq_true', Bool.not_eq_false', Bool.not_true, Bool.not_false, Bool.not_eq_eq_eq_not, ne_eq, Int.not_lt, Int.not_le, gt_iff_lt, ge_iff_le, Decidable.not_not] at h))
        | (with_reducible refine condC_split (fun h => ?_) (fun h => ?_) <;> (try simp only [h]) <;> (try simp only [beq_iff_eq, beq_eq_false_iff_ne, bne_iff_ne, bne_eq_false_iff_eq, decide_eq_true_eq, decide_eq_false_iff_not, Bool.not_eq_true', Bool.not_eq_false', Bool.not_true, Bool.not_false, Bool.not_eq_eq_eq_not, ne_eq, Int.not_lt, Int.not_le, gt_iff_lt, ge_iff_le, Decidable.not_not] at h))
        | omega | (simp only [List.length_append, List.length_map, List.length_cons, List.length_nil, List.length_drop, List.length_take, List.length_replicate]; omega) | (refine maxLen_ok ?_; (first | omega | (simp only [List.length_append, List.length_map, List.length_cons, List.length_nil, List.length_drop, List.length_take, List.length_replicate]; omega))))
      all_goals first
        | exact ⟨(j + 1, tk), St_leW (by simp only [List.replicate_succ', ← List.append_assoc]; repeat (first | exact trivial | refine ⟨le_rfl, ?_⟩ | refine ⟨le_any, ?_⟩ | refine ⟨le_ro, ?_⟩ | refine ⟨le_nil (by decide), ?_⟩ | refine ⟨le_wrap (by omega) (by omega) (by omega), ?_⟩ | refine ⟨le_int (by omega), ?_⟩ | refine ⟨le_eq (by simp), ?_⟩)) (ResW.refl _) id, by dsimp only; omega, by dsimp only; omega⟩
        | (obtain rfl : j = e := by omega
           exact ⟨(i + 1, out ++ [32] ++ List.replicate j 10 ++ u, 0, tk), St_leW (by repeat (first | exact trivial | refine ⟨le_rfl, ?_⟩ | refine ⟨le_any, ?_⟩ | refine ⟨le_ro, ?_⟩ | refine ⟨le_nil (by decide), ?_⟩ | refine ⟨le_wrap (by omega) (by omega) (by omega), ?_⟩ | refine ⟨le_int (by omega), ?_⟩ | refine ⟨le_eq (by simp), ?_⟩)) (ResW.refl _) id, ⟨by rw [h2]; simp [between, *], by dsimp only; omega, by dsimp only; omega⟩, by dsimp only; omega⟩)
    ·
      have hc : ¬ (u = [] ∧ trims l.length (i + 1) (l.drop (i + 1)) ≠ []) := by
        rintro ⟨ha, hc⟩
        have hl1 : ¬ i + 1 = l.length := fun h => hc (hlast.2 h)
        have : u.length = 0 := by rw [ha]; rfl
        omega
      have hi0 : ¬ i = 0 := by omega
      simp only [decide_eq_false hi0] at h2 ho
      rw [flowGo_cons hc] at h2 ho
      simp only [List.length_append] at ho
      have hen : ¬ e = 0 := by omega
      refine loop_by (fun x : Nat × Option (Nat × Nat) => ⟨(SSI o l :: .any :: .any :: SI (some x.2) (out ++ List.replicate x.1 10) :: I e :: I ((l.length : Int) - 1) :: I i :: SI none u :: I x.1 :: .any :: .any :: .any :: .any :: .any :: .any :: .any :: .any :: .any :: .any :: .any :: .any :: .any :: .any :: .any :: .any :: .any :: .any :: .any :: .any :: .any :: .any :: .any :: .any :: .any :: .any :: .any :: .any :: .any :: .any :: .any :: .any :: .any :: .any :: .any :: .any :: .any :: .any :: .any :: .any :: .any :: .any :: .any :: .any :: .any :: .any :: .any :: .any :: .any :: .any :: .any :: .any :: .any :: []), .tip x.2 :: σ, true, []⟩)
        (fun x => x.1 ≤ e) (fun x => e - x.1) (0, tk) (St_leW (by simp only [List.replicate_zero, List.append_nil]; repeat (first | exact trivial | refine ⟨le_rfl, ?_⟩ | refine ⟨le_any, ?_⟩ | refine ⟨le_ro, ?_⟩ | refine ⟨le_nil (by decide), ?_⟩ | refine ⟨le_wrap (by omega) (by omega) (by omega), ?_⟩ | refine ⟨le_int (by omega), ?_⟩ | refine ⟨le_eq (by simp), ?_⟩)) (ResW.refl _) id) (Nat.zero_le _) ?_
      rintro ⟨j, tk2⟩ hj
      dsimp only at hj ⊢
      repeat' (first
        | simp only [WL, intF, strF, List.toList_toArray, List.set_cons_succ, List.set_cons_zero, List.getD_cons_succ, List.getD_cons_zero, List.getElem?_cons_succ, List.getElem?_cons_zero, List.length_cons, List.length_nil, List.replicate_succ, List.replicate_zero, List.cons_append, List.nil_append, List.append_nil, List.map_cons, List.map_nil, Option.bind_some, Option.map_some, Option.map_none, List.drop_succ_cons, List.drop_zero, List.take_succ_cons, List.take_zero, ← List.map_take, ← List.map_drop, List.take_length, Int.reduceToNat, ne_eq, reduceCtorEq, not_false_eq_true, Nat.reduceAdd, Nat.reduceSub, Nat.reduceLT, Nat.reduceLeDiff, Nat.reduceEqDiff, Nat.zero_lt_succ, Bool.not_true, Bool.not_false, beq_self_eq_true, true_and, and_true, Option.isSome_some, Option.isSome_none, reduceIte, Int.toNat_natCast, Bool.false_eq_true, List.length_map, Nat.le_refl, Option.some.injEq, exists_eq_left', Nat.add_right_cancel_iff, List.take_nil, List.drop_nil, T3, T4, T24, T37, cok66, Try.results31]
        | (simp (disch := first | omega | (simp only [List.length_append, List.length_map, List.length_cons, List.length_nil, List.length_drop, List.length_take, List.length_replicate]; omega)) only [wrap_id, getI])
        | (with_reducible refine And.intro (by first | omega | exact ⟨_, rfl⟩ | (focus (simp; done)) | (simp; omega)) ?_)
        | ((with_reducible apply wk_load (ty := 24) (ha := ag24) 0); rfl; rfl)
        | ((with_reducible apply wk_load (ty := 24) (ha := ag24) 1); rfl; rfl)
        | ((with_reducible refine actC_mk (act_append_nil (sz := 1) (by decide) ?_)))
        | ((with_reducible refine actC_mk (act_append_src_nil (sz := 1) (by decide) ?_)))
        | ((with_reducible refine actC_mk (act_append 0 rfl sl24 sz3 by3 zr3 rfl ?_ ?_ ?_ (fun tk => ?_))); (first | exact goodI _ | exact goodU _ | rfl | exact goodSL _ | exact goodLL _ | (focus (simp [goodL, oneA, AV.cells]; done)) | skip))
        | ((with_reducible refine (act_append 0 rfl sl24 sz3 by3 zr3 rfl ?_ ?_ ?_ (fun tk => ?_))); (first | exact goodI _ | exact goodU _ | rfl | exact goodSL _ | exact goodLL _ | (focus (simp [goodL, oneA, AV.cells]; done)) | skip))
        | ((with_reducible refine actC_mk (act_append 1 rfl sl24 sz3 by3 zr3 rfl ?_ ?_ ?_ (fun tk => ?_))); (first | exact goodI _ | exact goodU _ | rfl | exact goodSL _ | exact goodLL _ | (focus (simp [goodL, oneA, AV.cells]; done)) | skip))
        | ((with_reducible refine (act_append 1 rfl sl24 sz3 by3 zr3 rfl ?_ ?_ ?_ (fun tk => ?_))); (first | exact goodI _ | exact goodU _ | rfl | exact goodSL _ | exact goodLL _ | (focus (simp [goodL, oneA, AV.cells]; done)) | skip))
        | ((with_reducible refine actC_mk (act_append 2 rfl sl24 sz3 by3 zr3 rfl ?_ ?_ ?_ (fun tk => ?_))); (first | exact goodI _ | exact goodU _ | rfl | exact goodSL _ | exact goodLL _ | (focus (simp [goodL, oneA, AV.cells]; done)) | skip))
        | ((with_reducible refine (act_append 2 rfl sl24 sz3 by3 zr3 rfl ?_ ?_ ?_ (fun tk => ?_))); (first | exact goodI _ | exact goodU _ | rfl | exact goodSL _ | exact goodLL _ | (focus (simp [goodL, oneA, AV.cells]; done)) | skip))
        | ((with_reducible refine wk_bslice sl24 sz3 zr3 (by decide) (by decide) (by decide) (by decide) rfl ?_ ?_ ?_); (first | exact goodI _ | exact goodU _ | rfl | exact goodSL _ | exact goodLL _ | (focus (simp [goodL, oneA, AV.cells]; done))); (all_goals first | (intro x hx; simp at hx; first | (subst hx; rfl) | (rcases hx with rfl | rfl <;> rfl) | (rcases hx with rfl | rfl | rfl <;> rfl) | (repeat (rcases hx with rfl | hx <;> try rfl))) | skip))
        | (with_reducible refine callD_mk (rtrim ?_ ?_))
        | (with_reducible refine nilTC_pos (by simp; omega) ?_)
        | (with_reducible refine nilTC_split (fun h => ?_) (fun h bn => ?_) <;> (try simp only [List.length_map] at h))
        | (with_reducible refine grd_cases (fun h => ?_) (fun h => ?_) <;> (try simp only [h]) <;> (try simp only [beq_iff_eq, beq_eq_false_iff_ne, bne_iff_ne, bne_eq_false_iff_eq, decide_eq_true_eq, decide_eq_false_iff_not, Bool.not_eq_true', Bool.not_eq_false', Bool.not_true, Bool.not_false, Bool.not_eq_eq_eq_not, ne_eq, Int.not_lt, Int.not_le, gt_iff_lt, ge_iff_le, Decidable.not_not] at h))
        | (with_reducible refine condC_split (fun h => ?_) (fun h => ?_) <;> (try simp only [h]) <;> (try simp only [beq_iff_eq, beq_eq_false_iff_ne, bne_iff_ne, bne_eq_false_iff_eq, decide_eq_true_eq, decide_eq_false_iff_not, Bool.not_eq_true', Bool.not_eq_false', Bool.not_true, Bool.not_false, Bool.not_eq_eq_eq_not, ne_eq, Int.not_lt, Int.not_le, gt_iff_lt, ge_iff_le, Decidable.not_not] at h))
        | omega | (simp only [List.length_append, List.length_map, List.length_cons, List.length_nil, List.length_drop, List.length_take, List.length_replicate]; omega) | (refine maxLen_ok ?_; (first | omega | (simp only [List.length_append, List.length_map, List.length_cons, List.length_nil, List.length_drop, List.length_take, List.length_replicate]; omega))))
      all_goals first
        | exact ⟨(j + 1, tk), St_leW (by simp only [List.replicate_succ', ← List.append_assoc]; repeat (first | exact trivial | refine ⟨le_rfl, ?_⟩ | refine ⟨le_any, ?_⟩ | refine ⟨le_ro, ?_⟩ | refine ⟨le_nil (by decide), ?_⟩ | refine ⟨le_wrap (by omega) (by omega) (by omega), ?_⟩ | refine ⟨le_int (by omega), ?_⟩ | refine ⟨le_eq (by simp), ?_⟩)) (ResW.refl _) id, by dsimp only; omega, by dsimp only; omega⟩
        | (obtain rfl : j = e := by omega
           exact ⟨(i + 1, out ++ List.replicate j 10 ++ u, 0, tk), St_leW (by repeat (first | exact trivial | refine ⟨le_rfl, ?_⟩ | refine ⟨le_any, ?_⟩ | refine ⟨le_ro, ?_⟩ | refine ⟨le_nil (by decide), ?_⟩ | refine ⟨le_wrap (by omega) (by omega) (by omega), ?_⟩ | refine ⟨le_int (by omega), ?_⟩ | refine ⟨le_eq (by simp), ?_⟩)) (ResW.refl _) id, ⟨by rw [h2]; simp [between, *], by dsimp only; omega, by dsimp only; omega⟩, by dsimp only; omega⟩)
    ·
      have hc : ¬ (u = [] ∧ trims l.length (i + 1) (l.drop (i + 1)) ≠ []) := by
        rintro ⟨ha, hc⟩
        have hl1 : ¬ i + 1 = l.length := fun h => hc (hlast.2 h)
        have : u.length = 0 := by rw [ha]; rfl
        omega
      have hi0 : ¬ i = 0 := by omega
      simp only [decide_eq_false hi0] at h2 ho
      rw [flowGo_cons hc] at h2 ho
      simp only [List.length_append] at ho
      have hen : e = 0 := by omega
      refine loop_by (fun x : Nat × Option (Nat × Nat) => ⟨(SSI o l :: .any :: .any :: SI (some x.2) (out ++ [32] ++ List.replicate x.1 10) :: I e :: I ((l.length : Int) - 1) :: I i :: SI none u :: I x.1 :: .any :: .any :: .any :: .any :: .any :: .any :: .any :: .any :: .any :: .any :: .any :: .any :: .any :: .any :: .any :: .any :: .any :: .any :: .any :: .any :: .any :: .any :: .any :: .any :: .any :: .any :: .any :: .any :: .any :: .any :: .any :: .any :: .any :: .any :: .any :: .any :: .any :: .any :: .any :: .any :: .any :: .any :: .any :: .any :: .any :: .any :: .any :: .any :: .any :: .any :: .any :: .any :: .any :: []), .tip x.2 :: σ, true, []⟩)
        (fun x => x.1 ≤ e) (fun x => e - x.1) (0, tk) (St_leW (by simp only [List.replicate_zero, List.append_nil]; repeat (first | exact trivial | refine ⟨le_rfl, ?_⟩ | refine ⟨le_any, ?_⟩ | refine ⟨le_ro, ?_⟩ | refine ⟨le_nil (by decide), ?_⟩ | refine ⟨le_wrap (by omega) (by omega) (by omega), ?_⟩ | refine ⟨le_int (by omega), ?_⟩ | refine ⟨le_eq (by simp), ?_⟩)) (ResW.refl _) id) (Nat.zero_le _) ?_
      rintro ⟨j, tk2⟩ hj
      dsimp only at hj ⊢
      repeat' (first
        | simp only [WL, intF, strF, List.toList_toArray, List.set_cons_succ, List.set_cons_zero, List.getD_cons_succ, List.getD_cons_zero, List.getElem?_cons_succ, List.getElem?_cons_zero, List.length_cons, List.length_nil, List.replicate_succ, List.replicate_zero, List.cons_append, List.nil_append, List.append_nil, List.map_cons, List.map_nil, Option.bind_some, Option.map_some, Option.map_none, List.drop_succ_cons, List.drop_zero, List.take_succ_cons, List.take_zero, ← List.map_take, ← List.map_drop, List.take_length, Int.reduceToNat, ne_eq, reduceCtorEq, not_false_eq_true, Nat.reduceAdd, Nat.reduceSub, Nat.reduceLT, Nat.reduceLeDiff, Nat.reduceEqDiff, Nat.zero_lt_succ, Bool.not_true, Bool.not_false, beq_self_eq_true, true_and, and_true, Option.isSome_some, Option.isSome_none, reduceIte, Int.toNat_natCast, Bool.false_eq_true, List.length_map, Nat.le_refl, Option.some.injEq, exists_eq_left', Nat.add_right_cancel_iff, List.take_nil, List.drop_nil, T3, T4, T24, T37, cok66, Try.results31]
        | (simp (disch := first | omega | (simp only [List.length_append, List.length_map, List.length_cons, List.length_nil, List.length_drop, List.length_take, List.length_replicate]; omega)) only [wrap_id, getI])
        | (with_reducible refine And.intro (by first | omega | exact ⟨_, rfl⟩ | (focus (simp; done)) | (simp; omega)) ?_)
        | ((with_reducible apply wk_load (ty := 24) (ha := ag24) 0); rfl; rfl)
        | ((with_reducible apply wk_load (ty := 24) (ha := ag24) 1); rfl; rfl)
        | ((with_reducible refine actC_mk (act_append_nil (sz := 1) (by decide) ?_)))
        | ((with_reducible refine actC_mk (act_append_src_nil (sz := 1) (by decide) ?_)))
        | ((with_reducible refine actC_mk (act_append 0 rfl sl24 sz3 by3 zr3 rfl ?_ ?_ ?_ (fun tk => ?_))); (first | exact goodI _ | exact goodU _ | rfl | exact goodSL _ | exact goodLL _ | (focus (simp [goodL, oneA, AV.cells]; done)) | skip))
        | ((with_reducible refine (act_append 0 rfl sl24 sz3 by3 zr3 rfl ?_ ?_ ?_ (fun tk => ?_))); (first | exact goodI _ | exact goodU _ | rfl | exact goodSL _ | exact goodLL _ | (focus (simp [goodL, oneA, AV.cells]; done)) | skip))
        | ((with_reducible refine actC_mk (act_append 1 rfl sl24 sz3 by3 zr3 rfl ?_ ?_ ?_ (fun tk => ?_))); (first | exact goodI _ | exact goodU _ | rfl | exact goodSL _ | exact goodLL _ | (focus (simp [goodL, oneA, AV.cells]; done)) | skip))
        | ((with_reducible refine (act_append 1 rfl sl24 sz3 by3 zr3 rfl ?_ ?_ ?_ (fun tk => ?_))); (first | exact goodI _ | exact goodU _ | rfl | exact goodSL _ | exact goodLL _ | (focus (simp [goodL, oneA, AV.cells]; done)) | skip))
        | ((with_reducible refine actC_mk (act_append 2 rfl sl24 sz3 by3 zr3 rfl ?_ ?_ ?_ (fun tk => ?_))); (first | exact goodI _ | exact goodU _ | rfl | exact goodSL _ | exact goodLL _ | (focus (simp [goodL, oneA, AV.cells]; done)) | skip))
        | ((with_reducible refine (act_append 2 rfl sl24 sz3 by3 zr3 rfl ?_ ?_ ?_ (fun tk => ?_))); (first | exact goodI _ | exact goodU _ | rfl | exact goodSL _ | exact goodLL _ | (focus (simp [goodL, oneA, AV.cells]; done)) | skip))
        | ((with_reducible refine wk_bslice sl24 sz3 zr3 (by decide) (by decide) (by decide) (by decide) rfl ?_ ?_ ?_); (first | exact goodI _ | exact goodU _ | rfl | exact goodSL _ | exact goodLL _ | (focus (simp [goodL, oneA, AV.cells]; done))); (all_goals first | (intro x hx; simp at hx; first | (subst hx; rfl) | (rcases hx with rfl | rfl <;> rfl) | (rcases hx with rfl | rfl | rfl <;> rfl) | (repeat (rcases hx with rfl | hx <;> try rfl))) | skip))
        | (with_reducible refine callD_mk (rtrim ?_ ?_))
        | (with_reducible refine nilTC_pos (by simp; omega) ?_)
        | (with_reducible refine nilTC_split (fun h => ?_) (fun h bn => ?_) <;> (try simp only [List.length_map] at h))
        | (with_reducible refine grd_cases (fun h => ?_) (fun h => ?_) <;> (try simp only [h]) <;> (try simp only [beq_iff_eq, beq_eq_false_iff_ne, bne_iff_ne, bne_eq_false_iff_eq, decide_eq_true_eq, decide_eq_false_iff_not, Bool.not_eq_true', Bool.not_eq_false', Bool.not_true, Bool.not_false, Bool.not_eq_eq_eq_not, ne_eq, Int.not_lt, Int.not_le, gt_iff_lt, ge_iff_le, Decidable.not_not] at h))
        | (with_reducible refine condC_split (fun h => ?_) (fun h => ?_) <;> (try simp only [h]) <;> (try simp only [beq_iff_eq, beq_eq_false_iff_ne, bne_iff_ne, bne_eq_false_iff_eq, decide_eq_true_eq, decide_eq_false_iff_not, Bool.not_eq_true', Bool.not_eq_false', Bool.not_true, Bool.not_false, Bool.not_eq_eq_eq_not, ne_eq, Int.not_lt, Int.not_le, gt_iff_lt, ge_iff_le, Decidable.not_not] at h))
        | omega | (simp only [List.length_append, List.length_map, List.length_cons, List.length_nil, List.length_drop, List.length_take, List.length_replicate]; omega) | (refine maxLen_ok ?_; (first | omega | (simp only [List.length_append, List.length_map, List.length_cons, List.length_nil, List.length_drop, List.length_take, List.length_replicate]; omega))))
      all_goals first
        | exact ⟨(j + 1, tk), St_leW (by simp only [List.replicate_succ', ← List.append_assoc]; repeat (first | exact trivial | refine ⟨le_rfl, ?_⟩ | refine ⟨le_any, ?_⟩ | refine ⟨le_ro, ?_⟩ | refine ⟨le_nil (by decide), ?_⟩ | refine ⟨le_wrap (by omega) (by omega) (by omega), ?_⟩ | refine ⟨le_int (by omega), ?_⟩ | refine ⟨le_eq (by simp), ?_⟩)) (ResW.refl _) id, by dsimp only; omega, by dsimp only; omega⟩
        | (obtain rfl : j = e := by omega
           exact ⟨(i + 1, out ++ [32] ++ List.replicate j 10 ++ u, 0, tk), St_leW (by repeat (first | exact trivial | refine ⟨le_rfl, ?_⟩ | refine ⟨le_any, ?_⟩ | refine ⟨le_ro, ?_⟩ | refine ⟨le_nil (by decide), ?_⟩ | refine ⟨le_wrap (by omega) (by omega) (by omega), ?_⟩ | refine ⟨le_int (by omega), ?_⟩ | refine ⟨le_eq (by simp), ?_⟩)) (ResW.refl _) id, ⟨by rw [h2]; simp [between, *], by dsimp only; omega, by dsimp only; omega⟩, by dsimp only; omega⟩)
    ·
      have hc : ¬ (u = [] ∧ trims l.length (i + 1) (l.drop (i + 1)) ≠ []) := by
        rintro ⟨ha, hc⟩
        have hl1 : ¬ i + 1 = l.length := fun h => hc (hlast.2 h)
        have : u.length = 0 := by rw [ha]; rfl
        omega
      have hi0 : ¬ i = 0 := by omega
      simp only [decide_eq_false hi0] at h2 ho
      rw [flowGo_cons hc] at h2 ho
      simp only [List.length_append] at ho
      have hen : ¬ e = 0 := by omega
      refine loop_by (fun x : Nat × Option (Nat × Nat) => ⟨(SSI o l :: .any :: .any :: SI (some x.2) (out ++ List.replicate x.1 10) :: I e :: I ((l.length : Int) - 1) :: I i :: SI none u :: I x.1 :: .any :: .any :: .any :: .any :: .any :: .any :: .any :: .any :: .any :: .any :: .any :: .any :: .any :: .any :: .any :: .any :: .any :: .any :: .any :: .any :: .any :: .any :: .any :: .any :: .any :: .any :: .any :: .any :: .any :: .any :: .any :: .any :: .any :: .any :: .any :: .any :: .any :: .any :: .any :: .any :: .any :: .any :: .any :: .any :: .any :: .any :: .any :: .any :: .any :: .any :: .any :: .any :: .any :: []), .tip x.2 :: σ, true, []⟩)
        (fun x => x.1 ≤ e) (fun x => e - x.1) (0, tk) (St_leW (by simp only [List.replicate_zero, List.append_nil]; repeat (first | exact trivial | refine ⟨le_rfl, ?_⟩ | refine ⟨le_any, ?_⟩ | refine ⟨le_ro, ?_⟩ | refine ⟨le_nil (by decide), ?_⟩ | refine ⟨le_wrap (by omega) (by omega) (by omega), ?_⟩ | refine ⟨le_int (by omega), ?_⟩ | refine ⟨le_eq (by simp), ?_⟩)) (ResW.refl _) id) (Nat.zero_le _) ?_
      rintro ⟨j, tk2⟩ hj
      dsimp only at hj ⊢
      repeat' (first
        | simp only [WL, intF, strF, List.toList_toArray, List.set_cons_succ, List.set_cons_zero, List.getD_cons_succ, List.getD_cons_zero, List.getElem?_cons_succ, List.getElem?_cons_zero, List.length_cons, List.length_nil, List.replicate_succ, List.replicate_zero, List.cons_append, List.nil_append, List.append_nil, List.map_cons, List.map_nil, Option.bind_some, Option.map_some, Option.map_none, List.drop_succ_cons, List.drop_zero, List.take_succ_cons, List.take_zero, ← List.map_take, ← List.map_drop, List.take_length, Int.reduceToNat, ne_eq, reduceCtorEq, not_false_eq_true, Nat.reduceAdd, Nat.reduceSub, Nat.reduceLT, Nat.reduceLeDiff, Nat.reduceEqDiff, Nat.zero_lt_succ, Bool.not_true, Bool.not_false, beq_self_eq_true, true_and, and_true, Option.isSome_some, Option.isSome_none, reduceIte, Int.toNat_natCast, Bool.false_eq_true, List.length_map, Nat.le_refl, Option.some.injEq, exists_eq_left', Nat.add_right_cancel_iff, List.take_nil, List.drop_nil, T3, T4, T24, T37, cok66, Try.results31]
        | (simp (disch := first | omega | (simp only [List.length_append, List.length_map, List.length_cons, List.length_nil, List.length_drop, List.length_take, List.length_replicate]; omega)) only [wrap_id, getI])
        | (with_reducible refine And.intro (by first | omega | exact ⟨_, rfl⟩ | (focus (simp; done)) | (simp; omega)) ?_)
        | ((with_reducible apply wk_load (ty := 24) (ha := ag24) 0); rfl; rfl)
        | ((with_reducible apply wk_load (ty := 24) (ha := ag24) 1); rfl; rfl)
        | ((with_reducible refine actC_mk (act_append_nil (sz := 1) (by decide) ?_)))
        | ((with_reducible refine actC_mk (act_append_src_nil (sz := 1) (by decide) ?_)))
        | ((with_reducible refine actC_mk (act_append 0 rfl sl24 sz3 by3 zr3 rfl ?_ ?_ ?_ (fun tk => ?_))); (first | exact goodI _ | exact goodU _ | rfl | exact goodSL _ | exact goodLL _ | (focus (simp [goodL, oneA, AV.cells]; done)) | skip))
        | ((with_reducible refine (act_append 0 rfl sl24 sz3 by3 zr3 rfl ?_ ?_ ?_ (fun tk => ?_))); (first | exact goodI _ | exact goodU _ | rfl | exact goodSL _ | exact goodLL _ | (focus (simp [goodL, oneA, AV.cells]; done)) | skip))
        | ((with_reducible refine actC_mk (act_append 1 rfl sl24 sz3 by3 zr3 rfl ?_ ?_ ?_ (fun tk => ?_))); (first | exact goodI _ | exact goodU _ | rfl | exact goodSL _ | exact goodLL _ | (focus (simp [goodL, oneA, AV.cells]; done)) | skip))
        | ((with_reducible refine (act_append 1 rfl sl24 sz3 by3 zr3 rfl ?_ ?_ ?_ (fun tk => ?_))); (first | exact goodI _ | exact goodU _ | rfl | exact goodSL _ | exact goodLL _ | (focus (simp [goodL, oneA, AV.cells]; done)) | skip))
        | ((with_reducible refine actC_mk (act_append 2 rfl sl24 sz3 by3 zr3 rfl ?_ ?_ ?_ (fun tk => ?_))); (first | exact goodI _ | exact goodU _ | rfl | exact goodSL _ | exact goodLL _ | (focus (simp [goodL, oneA, AV.cells]; done)) | skip))
        | ((with_reducible refine (act_append 2 rfl sl24 sz3 by3 zr3 rfl ?_ ?_ ?_ (fun tk => ?_))); (first | exact goodI _ | exact goodU _ | rfl | exact goodSL _ | exact goodLL _ | (focus (simp [goodL, oneA, AV.cells]; done)) | skip))
        | ((with_reducible refine wk_bslice sl24 sz3 zr3 (by decide) (by decide) (by decide) (by decide) rfl ?_ ?_ ?_); (first | exact goodI _ | exact goodU _ | rfl | exact goodSL _ | exact goodLL _ | (focus (simp [goodL, oneA, AV.cells]; done))); (all_goals first | (intro x hx; simp at hx; first | (subst hx; rfl) | (rcases hx with rfl | rfl <;> rfl) | (rcases hx with rfl | rfl | rfl <;> rfl) | (repeat (rcases hx with rfl | hx <;> try rfl))) | skip))
        | (with_reducible refine callD_mk (rtrim ?_ ?_))
        | (with_reducible refine nilTC_pos (by simp; omega) ?_)
        | (with_reducible refine nilTC_split (fun h => ?_) (fun h bn => ?_) <;> (try simp only [List.length_map] at h))
        | (with_reducible refine grd_cases (fun h => ?_) (fun h => ?_) <;> (try simp only [h]) <;> (try simp only [beq_iff_eq, beq_eq_false_iff_ne, bne_iff_ne, bne_eq_false_iff_eq, decide_eq_true_eq, decide_eq_false_iff_not, Bool.not_eq_true', Bool.not_eq_false', Bool.not_true, Bool.not_false, Bool.not_eq_eq_eq_not, ne_eq, Int.not_lt, Int.not_le, gt_iff_lt, ge_iff_le, Decidable.not_not] at h))
        | (with_reducible refine condC_split (fun h => ?_) (fun h => ?_) <;> (try simp only [h]) <;> (try simp only [beq_iff_eq, beq_eq_false_iff_ne, bne_iff_ne, bne_eq_false_iff_eq, decide_eq_true_eq, decide_eq_false_iff_not, Bool.not_eq_true', Bool.not_eq_false', Bool.not_true, Bool.not_false, Bool.not_eq_eq_eq_not, ne_eq, Int.not_lt, Int.not_le, gt_iff_lt, ge_iff_le, Decidable.not_not] at h))
        | omega | (simp only [List.length_append, List.length_map, List.length_cons, List.length_nil, List.length_drop, List.length_take, List.length_replicate]; omega) | (refine maxLen_ok ?_; (first | omega | (simp only [List.length_append, List.length_map, List.length_cons, List.length_nil, List.length_drop, List.length_take, List.length_replicate]; omega))))
      all_goals first
        | exact ⟨(j + 1, tk), St_leW (by simp only [List.replicate_succ', ← List.append_assoc]; repeat (first | exact trivial | refine ⟨le_rfl, ?_⟩ | refine ⟨le_any, ?_⟩ | refine ⟨le_ro, ?_⟩ | refine ⟨le_nil (by decide), ?_⟩ | refine ⟨le_wrap (by omega) (by omega) (by omega), ?_⟩ | refine ⟨le_int (by omega), ?_⟩ | refine ⟨le_eq (by simp), ?_⟩)) (ResW.refl _) id, by dsimp only; omega, by dsimp only; omega⟩
        | (obtain rfl : j = e := by omega
           exact ⟨(i + 1, out ++ List.replicate j 10 ++ u, 0, tk), St_leW (by repeat (first | exact trivial | refine ⟨le_rfl, ?_⟩ | refine ⟨le_any, ?_⟩ | refine ⟨le_ro, ?_⟩ | refine ⟨le_nil (by decide), ?_⟩ | refine ⟨le_wrap (by omega) (by omega) (by omega), ?_⟩ | refine ⟨le_int (by omega), ?_⟩ | refine ⟨le_eq (by simp), ?_⟩)) (ResW.refl _) id, ⟨by rw [h2]; simp [between, *], by dsimp only; omega, by dsimp only; omega⟩, by dsimp only; omega⟩)
    ·
      have hi0 : i = 0 := by omega
      have hen : e = 0 := by omega
      simp only [decide_eq_true hi0, flowGo_first] at h2 ho
      simp only [List.length_append] at ho
      refine loop_by (fun x : Nat × Option (Nat × Nat) => ⟨(SSI o l :: .any :: .any :: SI (some x.2) (out ++ List.replicate x.1 10) :: I e :: I ((l.length : Int) - 1) :: I i :: SI none u :: I x.1 :: .any :: .any :: .any :: .any :: .any :: .any :: .any :: .any :: .any :: .any :: .any :: .any :: .any :: .any :: .any :: .any :: .any :: .any :: .any :: .any :: .any :: .any :: .any :: .any :: .any :: .any :: .any :: .any :: .any :: .any :: .any :: .any :: .any :: .any :: .any :: .any :: .any :: .any :: .any :: .any :: .any :: .any :: .any :: .any :: .any :: .any :: .any :: .any :: .any :: .any :: .any :: .any :: .any :: []), .tip x.2 :: σ, true, []⟩)
        (fun x => x.1 ≤ e) (fun x => e - x.1) (0, tk) (St_leW (by simp only [List.replicate_zero, List.append_nil]; repeat (first | exact trivial | refine ⟨le_rfl, ?_⟩ | refine ⟨le_any, ?_⟩ | refine ⟨le_ro, ?_⟩ | refine ⟨le_nil (by decide), ?_⟩ | refine ⟨le_wrap (by omega) (by omega) (by omega), ?_⟩ | refine ⟨le_int (by omega), ?_⟩ | refine ⟨le_eq (by simp), ?_⟩)) (ResW.refl _) id) (Nat.zero_le _) ?_
      rintro ⟨j, tk2⟩ hj
      dsimp only at hj ⊢
      repeat' (first
        | simp only [WL, intF, strF, List.toList_toArray, List.set_cons_succ, List.set_cons_zero, List.getD_cons_succ, List.getD_cons_zero, List.getElem?_cons_succ, List.getElem?_cons_zero, List.length_cons, List.length_nil, List.replicate_succ, List.replicate_zero, List.cons_append, List.nil_append, List.append_nil, List.map_cons, List.map_nil, Option.bind_some, Option.map_some, Option.map_none, List.drop_succ_cons, List.drop_zero, List.take_succ_cons, List.take_zero, ← List.map_take, ← List.map_drop, List.take_length, Int.reduceToNat, ne_eq, reduceCtorEq, not_false_eq_true, Nat.reduceAdd, Nat.reduceSub, Nat.reduceLT, Nat.reduceLeDiff, Nat.reduceEqDiff, Nat.zero_lt_succ, Bool.not_true, Bool.not_false, beq_self_eq_true, true_and, and_true, Option.isSome_some, Option.isSome_none, reduceIte, Int.toNat_natCast, Bool.false_eq_true, List.length_map, Nat.le_refl, Option.some.injEq, exists_eq_left', Nat.add_right_cancel_iff, List.take_nil, List.drop_nil, T3, T4, T24, T37, cok66, Try.results31]
        | (simp (disch := first | omega | (simp only [List.length_append, List.length_map, List.length_cons, List.length_nil, List.length_drop, List.length_take, List.length_replicate]; omega)) only [wrap_id, getI])
        | (with_reducible refine And.intro (by first | omega | exact ⟨_, rfl⟩ | (focus (simp; done)) | (simp; omega)) ?_)
        | ((with_reducible apply wk_load (ty := 24) (ha := ag24) 0); rfl; rfl)
        | ((with_reducible apply wk_load (ty := 24) (ha := ag24) 1); rfl; rfl)
        | ((with_reducible refine actC_mk (act_append_nil (sz := 1) (by decide) ?_)))
        | ((with_reducible refine actC_mk (act_append_src_nil (sz := 1) (by decide) ?_)))
        | ((with_reducible refine actC_mk (act_append 0 rfl sl24 sz3 by3 zr3 rfl ?_ ?_ ?_ (fun tk => ?_))); (first | exact goodI _ | exact goodU _ | rfl | exact goodSL _ | exact goodLL _ | (focus (simp [goodL, oneA, AV.cells]; done)) | skip))
        | ((with_reducible refine (act_append 0 rfl sl24 sz3 by3 zr3 rfl ?_ ?_ ?_ (fun tk => ?_))); (first | exact goodI _ | exact goodU _ | rfl | exact goodSL _ | exact goodLL _ | (focus (simp [goodL, oneA, AV.cells]; done)) | skip))
        | ((with_reducible refine actC_mk (act_append 1 rfl sl24 sz3 by3 zr3 rfl ?_ ?_ ?_ (fun tk => ?_))); (first | exact goodI _ | exact goodU _ | rfl | exact goodSL _ | exact goodLL _ | (focus (simp [goodL, oneA, AV.cells]; done)) | skip))
        | ((with_reducible refine (act_append 1 rfl sl24 sz3 by3 zr3 rfl ?_ ?_ ?_ (fun tk => ?_))); (first | exact goodI _ | exact goodU _ | rfl | exact goodSL _ | exact goodLL _ | (focus (simp [goodL, oneA, AV.cells]; done)) | skip))
        | ((with_reducible refine actC_mk (act_append 2 rfl sl24 sz3 by3 zr3 rfl ?_ ?_ ?_ (fun tk => ?_))); (first | exact goodI _ | exact goodU _ | rfl | exact goodSL _ | exact goodLL _ | (focus (simp [goodL, oneA, AV.cells]; done)) | skip))
        | ((with_reducible refine (act_append 2 rfl sl24 sz3 by3 zr3 rfl ?_ ?_ ?_ (fun tk => ?_))); (first | exact goodI _ | exact goodU _ | rfl | exact goodSL _ | exact goodLL _ | (focus (simp [goodL, oneA, AV.cells]; done)) | skip))
        | ((with_reducible refine wk_bslice sl24 sz3 zr3 (by decide) (by decide) (by decide) (by decide) rfl ?_ ?_ ?_); (first | exact goodI _ | exact goodU _ | rfl | exact goodSL _ | exact goodLL _ | (focus (simp [goodL, oneA, AV.cells]; done))); (all_goals first | (intro x hx; simp at hx; first | (subst hx; rfl) | (rcases hx with rfl | rfl <;> rfl) | (rcases hx with rfl | rfl | rfl <;> rfl) | (repeat (rcases hx with rfl | hx <;> try rfl))) | skip))
        | (with_reducible refine callD_mk (rtrim ?_ ?_))
        | (with_reducible refine nilTC_pos (by simp; omega) ?_)
        | (with_reducible refine nilTC_split (fun h => ?_) (fun h bn => ?_) <;> (try simp only [List.length_map] at h))
        | (with_reducible refine grd_cases (fun h => ?_) (fun h => ?_) <;> (try simp only [h]) <;> (try simp only [beq_iff_eq, beq_eq_false_iff_ne, bne_iff_ne, bne_eq_false_iff_eq, decide_eq_true_eq, decide_eq_false_iff_not, Bool.not_eq_true', Bool.not_eq_false', Bool.not_true, Bool.not_false, Bool.not_eq_eq_eq_not, ne_eq, Int.not_lt, Int.not_le, gt_iff_lt, ge_iff_le, Decidable.not_not] at h))
        | (with_reducible refine condC_split (fun h => ?_) (fun h => ?_) <;> (try simp only [h]) <;> (try simp only [beq_iff_eq, beq_eq_false_iff_ne, bne_iff_ne, bne_eq_false_iff_eq, decide_eq_true_eq, decide_eq_false_iff_not, Bool.not_eq_true', Bool.not_eq_false', Bool.not_true, Bool.not_false, Bool.not_eq_eq_eq_not, ne_eq, Int.not_lt, Int.not_le, gt_iff_lt, ge_iff_le, Decidable.not_not] at h))
        | omega | (simp only [List.length_append, List.length_map, List.length_cons, List.length_nil, List.length_drop, List.length_take, List.length_replicate]; omega) | (refine maxLen_ok ?_; (first | omega | (simp only [List.length_append, List.length_map, List.length_cons, List.length_nil, List.length_drop, List.length_take, List.length_replicate]; omega))))
      all_goals first
        | exact ⟨(j + 1, tk), St_leW (by simp only [List.replicate_succ', ← List.append_assoc]; repeat (first | exact trivial | refine ⟨le_rfl, ?_⟩ | refine ⟨le_any, ?_⟩ | refine ⟨le_ro, ?_⟩ | refine ⟨le_nil (by decide), ?_⟩ | refine ⟨le_wrap (by omega) (by omega) (by omega), ?_⟩ | refine ⟨le_int (by omega), ?_⟩ | refine ⟨le_eq (by simp), ?_⟩)) (ResW.refl _) id, by dsimp only; omega, by dsimp only; omega⟩
        | (obtain rfl : j = e := by omega
           exact ⟨(i + 1, out ++ List.replicate j 10 ++ u, 0, tk), St_leW (by repeat (first | exact trivial | refine ⟨le_rfl, ?_⟩ | refine ⟨le_any, ?_⟩ | refine ⟨le_ro, ?_⟩ | refine ⟨le_nil (by decide), ?_⟩ | refine ⟨le_wrap (by omega) (by omega) (by omega), ?_⟩ | refine ⟨le_int (by omega), ?_⟩ | refine ⟨le_eq (by simp), ?_⟩)) (ResW.refl _) id, ⟨by rw [h2]; simp [between, *], by dsimp only; omega, by dsimp only; omega⟩, by dsimp only; omega⟩)
  · rw [List.drop_eq_nil_of_le hi] at h2
    simp only [trims, flowGo, List.append_nil] at h2
    repeat' (first
      | simp only [WL, intF, strF, List.toList_toArray, List.set_cons_succ, List.set_cons_zero, List.getD_cons_succ, List.getD_cons_zero, List.getElem?_cons_succ, List.getElem?_cons_zero, List.length_cons, List.length_nil, List.replicate_succ, List.replicate_zero, List.cons_append, List.nil_append, List.append_nil, List.map_cons, List.map_nil, Option.bind_some, Option.map_some, Option.map_none, List.drop_succ_cons, List.drop_zero, List.take_succ_cons, List.take_zero, ← List.map_take, ← List.map_drop, List.take_length, Int.reduceToNat, ne_eq, reduceCtorEq, not_false_eq_true, Nat.reduceAdd, Nat.reduceSub, Nat.reduceLT, Nat.reduceLeDiff, Nat.reduceEqDiff, Nat.zero_lt_succ, Bool.not_true, Bool.not_false, beq_self_eq_true, true_and, and_true, Option.isSome_some, Option.isSome_none, reduceIte, Int.toNat_natCast, Bool.false_eq_true, List.length_map, Nat.le_refl, Option.some.injEq, exists_eq_left', Nat.add_right_cancel_iff, List.take_nil, List.drop_nil, T3, T4, T24, T37, cok66, Try.results31]
      | (simp (disch := first | omega | (simp only [List.length_append, List.length_map, List.length_cons, List.length_nil, List.length_drop, List.length_take, List.length_replicate]; omega)) only [wrap_id, getI])
      | (with_reducible refine And.intro (by first | omega | exact ⟨_, rfl⟩ | (focus (simp; done)) | (simp; omega)) ?_)
      | ((with_reducible apply wk_load (ty := 24) (ha := ag24) 0); rfl; rfl)
      | ((with_reducible apply wk_load (ty := 24) (ha := ag24) 1); rfl; rfl)
      | ((with_reducible refine actC_mk (act_append_nil (sz := 1) (by decide) ?_)))
      | ((with_reducible refine actC_mk (act_append_src_nil (sz := 1) (by decide) ?_)))
      | ((with_reducible refine actC_mk (act_append 0 rfl sl24 sz3 by3 zr3 rfl ?_ ?_ ?_ (fun tk => ?_))); (first | exact goodI _ | exact goodU _ | rfl | exact goodSL _ | exact goodLL _ | (focus (simp [goodL, oneA, AV.cells]; done)) | skip))
      | ((with_reducible refine (act_append 0 rfl sl24 sz3 by3 zr3 rfl ?_ ?_ ?_ (fun tk => ?_))); (first | exact goodI _ | exact goodU _ | rfl | exact goodSL _ | exact goodLL _ | (focus (simp [goodL, oneA, AV.cells]; done)) | skip))
      | ((with_reducible refine actC_mk (act_append 1 rfl sl24 sz3 by3 zr3 rfl ?_ ?_ ?_ (fun tk => ?_))); (first | exact goodI _ | exact goodU _ | rfl | exact goodSL _ | exact goodLL _ | (focus (simp [goodL, oneA, AV.cells]; done)) | skip))
      | ((with_reducible refine (act_append 1 rfl sl24 sz3 by3 zr3 rfl ?_ ?_ ?_ (fun tk => ?_))); (first | exact goodI _ | exact goodU _ | rfl | exact goodSL _ | exact goodLL _ | (focus (simp [goodL, oneA, AV.cells]; done)) | skip))
      | ((with_reducible refine actC_mk (act_append 2 rfl sl24 sz3 by3 zr3 rfl ?_ ?_ ?_ (fun tk => ?_))); (first | exact goodI _ | exact goodU _ | rfl | exact goodSL _ | exact goodLL _ | (focus (simp [goodL, oneA, AV.cells]; done)) | skip))
      | ((with_reducible refine (act_append 2 rfl sl24 sz3 by3 zr3 rfl ?_ ?_ ?_ (fun tk => ?_))); (first | exact goodI _ | exact goodU _ | rfl | exact goodSL _ | exact goodLL _ | (focus (simp [goodL, oneA, AV.cells]; done)) | skip))
      | ((with_reducible refine wk_bslice sl24 sz3 zr3 (by decide) (by decide) (by decide) (by decide) rfl ?_ ?_ ?_); (first | exact goodI _ | exact goodU _ | rfl | exact goodSL _ | exact goodLL _ | (focus (simp [goodL, oneA, AV.cells]; done))); (all_goals first | (intro x hx; simp at hx; first | (subst hx; rfl) | (rcases hx with rfl | rfl <;> rfl) | (rcases hx with rfl | rfl | rfl <;> rfl) | (repeat (rcases hx with rfl | hx <;> try rfl))) | skip))
      | (with_reducible refine callD_mk (rtrim ?_ ?_))
      | (with_reducible refine nilTC_pos (by simp; omega) ?_)
      | (with_reducible refine nilTC_split (fun h => ?_) (fun h bn => ?_) <;> (try simp only [List.length_map] at h))
      | (with_reducible refine grd_cases (fun h => ?_) (fun h => ?_) <;> (try simp only [h]) <;> (try simp only [beq_iff_eq, beq_eq_false_iff_ne, bne_iff_ne, bne_eq_false_iff_eq, decide_eq_true_eq, decide_eq_false_iff_not, Bool.not_eq_true', Bool.not_eq_false', Bool.not_true, Bool.not_false, Bool.not_eq_eq_eq_not, ne_eq, Int.not_lt, Int.not_le, gt_iff_lt, ge_iff_le, Decidable.not_not] at h))
      | (with_reducible refine condC_split (fun h => ?_) (fun h => ?_) <;> (try simp only [h]) <;> (try simp only [beq_iff_eq, beq_eq_false_iff_ne, bne_iff_ne, bne_eq_false_iff_eq, decide_eq_true_eq, decide_eq_false_iff_not, Bool.not_eq_true', Bool.not_eq_false', Bool.not_true, Bool.not_false, Bool.not_eq_eq_eq_not, ne_eq, Int.not_lt, Int.not_le, gt_iff_lt, ge_iff_le, Decidable.not_not] at h))
      | omega | (simp only [List.length_append, List.length_map, List.length_cons, List.length_nil, List.length_drop, List.length_take, List.length_replicate]; omega) | (refine maxLen_ok ?_; (first | omega | (simp only [List.length_append, List.length_map, List.length_cons, List.length_nil, List.length_drop, List.length_take, List.length_replicate]; omega))))
    exact leafL (sub_cons sub_rfl) (leT_le (by rw [h2]; exact le_ro)) hK

end Go.Proofs.Ythnlcdcfbgfncaa
