/-
  The law FoldChomps.
-/
import Derived.Test.YthepmgdoophoaaaF0
import Derived.Test.YthepmgdoophoaaaFg
import Derived.Test.YthepmgdoophoaaaLi
import Derived.Test.YthepmgdoophoaaaSq
namespace Go.Proofs.Ythepmgdoophoaaa
open Go.Abs
set_option linter.unusedVariables false
set_option linter.unusedSimpArgs false
-- hb: 4000000

set_option maxHeartbeats 4000000 in
theorem chomp_all (pre : List Int) (n f : Nat) : ∃ m0 m : Nat, m0 ≤ 1 ∧ m0 ≤ m ∧ pre ++ endsC n f 0 = pre ++ List.replicate m0 10 ∧ pre ++ endsC n f 1 = pre ∧ pre ++ endsC n f 2 = pre ++ List.replicate m 10 := by
  by_cases hf : f = 0
  · subst hf
    exact ⟨0, n, by omega, by omega, by simp [endsC], by simp [endsC], by simp [endsC]⟩
  · exact ⟨1, n - f + 1, by omega, by omega, by simp [endsC, hf], by simp [endsC], by simp [endsC, hf]⟩
set_option maxHeartbeats 4000000 in
theorem rep_at {pre : List Int} {m i : Nat} (h : pre.length ≤ i) (h2 : i < pre.length + m) : (pre ++ List.replicate m 10).getD i 0 = 10 := by
  rw [List.getD_eq_getElem?_getD, List.getElem?_append_right h, List.getElem?_replicate]
  rw [if_pos (by omega)]; rfl
set_option maxHeartbeats 4000000 in
theorem rep_take {pre : List Int} {m0 m : Nat} (h : m0 ≤ m) : (pre ++ List.replicate m 10).take (pre.length + m0) = pre ++ List.replicate m0 10 := by
  rw [List.take_append, List.take_of_length_le (by omega), List.take_replicate]
  congr 2; omega
def cellsAt (a b c : List Int) : Nat → List AV
  | 0 => [nilS, nilS, nilS]
  | 1 => [SI none a, nilS, nilS]
  | 2 => [SI none a, SI none b, nilS]
  | _ => [SI none a, SI none b, SI none c]

-- marginalialaw6.FoldChomps
set_option maxHeartbeats 4000000 in
theorem law_FoldChomps (κ : Ctx) (l : List (List Int)) (hl : l.length ≤ maxLen ∧ ∀ t ∈ l, t.length ≤ maxLen ∧ ∀ a ∈ t, IntKind.i64.min ≤ a ∧ a ≤ IntKind.i64.max) (fo : Bool) (hfo : True) : ACallF κ Try.prog 14 [.sl 1 none (l.map fun t => .sl 1 none (t.map fun n => I n)), B fo] [] (fun r _ => r = .ret (B true)) := by
  have hb : bigI 200 60 l = false → tot l ≤ 60 * 201 := bigI_tot
  have hlen := tot_len l
  cases fo
  ·
    obtain ⟨m0, m, c1, c2, e0, e1, e2⟩ := chomp_all (litGo true (l.take (fullN l))) l.length (fullN l)
    have q0 : litF l 0 = litGo true (l.take (fullN l)) ++ List.replicate m0 10 := e0
    have q1 : litF l 1 = litGo true (l.take (fullN l)) := e1
    have q2 : litF l 2 = litGo true (l.take (fullN l)) ++ List.replicate m 10 := e2
    clear e0 e1 e2
    have l0 := litF_len l 0
    have l1 := litF_len l 1
    have l2 := litF_len l 2
    have g0 := congrArg List.length q0
    have g1 := congrArg List.length q1
    have g2 := congrArg List.length q2
    simp only [List.length_append, List.length_replicate] at g0 g1 g2
    refine ACallF.dropL (ACallF_intro Try.func14 rfl ?_)
    simp only [Try.ntmps14]
    repeat' (first
      | simp only [WL, intF, strF, List.toList_toArray, List.set_cons_succ, List.set_cons_zero, List.getD_cons_succ, List.getD_cons_zero, List.getElem?_cons_succ, List.getElem?_cons_zero, List.length_cons, List.length_nil, List.replicate_succ, List.replicate_zero, List.cons_append, List.nil_append, List.append_nil, List.map_cons, List.map_nil, Option.bind_some, Option.map_some, Option.map_none, List.drop_succ_cons, List.drop_zero, List.take_succ_cons, List.take_zero, ← List.map_take, ← List.map_drop, List.take_length, Int.reduceToNat, ne_eq, reduceCtorEq, not_false_eq_true, Nat.reduceAdd, Nat.reduceSub, Nat.reduceLT, Nat.reduceLeDiff, Nat.reduceEqDiff, Nat.zero_lt_succ, Bool.not_true, Bool.not_false, beq_self_eq_true, true_and, and_true, Option.isSome_some, Option.isSome_none, reduceIte, Int.toNat_natCast, Bool.false_eq_true, List.length_map, Nat.le_refl, Option.some.injEq, exists_eq_left', Nat.add_right_cancel_iff, List.take_nil, List.drop_nil, idxC_ptr, Nat.reduceMul, T3, T4, T22, T33, T48, cok27, cok28, cok29, cok34, cok38, Try.results14]
      | (simp (disch := first | omega | (simp only [List.length_append, List.length_map, List.length_cons, List.length_nil, List.length_drop, List.length_take, List.length_replicate]; omega)) only [wrap_id, getI])
      | (with_reducible refine And.intro (by first | omega | exact ⟨_, rfl⟩ | (focus (simp; done)) | (simp; omega)) ?_)
      | ((with_reducible apply wk_load (ty := 3) (ha := ag3) 0); rfl; rfl)
      | ((with_reducible apply wk_load (ty := 3) (ha := ag3) 1); rfl; rfl)
      | ((with_reducible apply wk_load (ty := 22) (ha := ag22) 0); rfl; rfl)
      | ((with_reducible apply wk_load (ty := 22) (ha := ag22) 1); rfl; rfl)
      | ((with_reducible refine storeC_mk ?_); first | ((with_reducible apply act_store (t := 22) (hs := sz22) 0); rfl; (first | decide | (focus (simp; done)) | omega); rfl) | ((with_reducible apply act_store (t := 22) (hs := sz22) 1); rfl; (first | decide | (focus (simp; done)) | omega); rfl))
      | ((with_reducible refine actC_mk ?_); (with_reducible refine act_box ?_ (fun b => ?_)); rfl)
      | ((with_reducible refine actC_mk ?_); (with_reducible refine act_new zr48 ?_ (fun b => ?_)); rfl)
      | (with_reducible refine actC_q (act_idx_arr ar48 sz22 (by first | decide | omega) (by first | decide | omega) isA_mk) ?_)
      | (with_reducible refine callD_q (alive6 isR_mk) ?_)
      | (with_reducible refine callD_mk (alive6 ?_))
      | (with_reducible refine callD_q (big6 ?_ isR_mk) ?_)
      | (with_reducible refine callD_mk (big6 ?_ ?_))
      | (with_reducible refine callD_q (sameInts ?_ isR_mk) ?_)
      | (with_reducible refine callD_mk (sameInts ?_ ?_))
      | (with_reducible refine callD_q (literal1 ?_ isR_mk) ?_)
      | (with_reducible refine callD_mk (literal1 ?_ ?_))
      | (with_reducible refine callD_q (block1 ?_ isR_mk) ?_)
      | (with_reducible refine callD_mk (block1 ?_ ?_))
      | ((with_reducible refine AW_drawM (id := 19) 21 mixed ?_ ?_); kernel_rfl)
      | (with_reducible refine dmQ_mk ?_)
      | (with_reducible refine nilTC_pos (by simp; omega) ?_)
      | (with_reducible refine nilTC_split (fun h => ?_) (fun h bn => ?_) <;> (try simp only [List.length_map] at h))
      | (with_reducible refine grd_cases (fun h => ?_) (fun h => ?_) <;> (try simp only [h]) <;> (try simp only [beq_iff_eq, beq_eq_false_iff_ne, bne_iff_ne, bne_eq_false_iff_eq, decide_eq_true_eq, decide_eq_false_iff_not, Bool.not_eq_true', Bool.not_eq_false', Bool.not_true, Bool.not_false, Bool.not_eq_eq_eq_not, ne_eq, Int.not_lt, Int.not_le, gt_iff_lt, ge_iff_le, Decidable.not_not] at h))
      | (with_reducible refine condC_split (fun h => ?_) (fun h => ?_) <;> (try simp only [h]) <;> (try simp only [beq_iff_eq, beq_eq_false_iff_ne, bne_iff_ne, bne_eq_false_iff_eq, decide_eq_true_eq, decide_eq_false_iff_not, Bool.not_eq_true', Bool.not_eq_false', Bool.not_true, Bool.not_false, Bool.not_eq_eq_eq_not, ne_eq, Int.not_lt, Int.not_le, gt_iff_lt, ge_iff_le, Decidable.not_not] at h))
      | omega | (simp only [List.length_append, List.length_map, List.length_cons, List.length_nil, List.length_drop, List.length_take, List.length_replicate]; omega))
    · exact leafLaw rfl
    have hb2 : tot l ≤ 60 * 201 := hb (by assumption)
    refine loop_by (fun c : Nat => ⟨(SSI none l :: B false :: .any :: .any :: .any :: .any :: .any :: .raw (.pointer (some ⟨b, 0, none⟩)) :: I c :: .any :: .any :: .any :: .any :: .any :: .any :: .any :: .any :: .any :: .any :: .any :: .any :: .any :: .any :: .any :: .any :: .any :: .any :: .any :: .any :: .any :: .any :: .any :: .any :: .any :: .any :: .any :: .any :: .any :: .any :: .any :: .any :: .any :: .any :: .any :: .any :: .any :: .any :: .any :: .any :: .any :: .any :: .any :: .any :: .any :: .any :: .any :: .any :: .any :: .any :: .any :: .any :: .any :: .any :: .any :: .any :: .any :: .any :: .any :: .any :: .any :: .any :: .any :: .any :: .any :: .any :: .any :: .any :: .any :: .any :: .any :: .any :: .any :: .any :: .any :: .any :: .any :: .any :: .any :: .any :: .any :: .any :: .any :: .any :: .any :: .any :: .any :: []), [.obj b (cellsAt (litF l 0) (litF l 1) (litF l 2) c)], true, []⟩) (fun c => c ≤ 3) (fun c => 3 - c) 0 (St_leW (by repeat (first | exact trivial | refine ⟨le_rfl, ?_⟩ | refine ⟨le_any, ?_⟩ | refine ⟨le_ro, ?_⟩ | refine ⟨le_nil (by decide), ?_⟩ | refine ⟨le_wrap (by omega) (by omega) (by omega), ?_⟩ | refine ⟨le_int (by omega), ?_⟩ | refine ⟨le_eq (by simp), ?_⟩)) (ResW.refl _) id) (by decide) ?_
    intro c hc
    obtain rfl | rfl | rfl | rfl : c = 0 ∨ c = 1 ∨ c = 2 ∨ c = 3 := by omega
    all_goals simp only [cellsAt]
    repeat' (first
      | simp only [WL, intF, strF, List.toList_toArray, List.set_cons_succ, List.set_cons_zero, List.getD_cons_succ, List.getD_cons_zero, List.getElem?_cons_succ, List.getElem?_cons_zero, List.length_cons, List.length_nil, List.replicate_succ, List.replicate_zero, List.cons_append, List.nil_append, List.append_nil, List.map_cons, List.map_nil, Option.bind_some, Option.map_some, Option.map_none, List.drop_succ_cons, List.drop_zero, List.take_succ_cons, List.take_zero, ← List.map_take, ← List.map_drop, List.take_length, Int.reduceToNat, ne_eq, reduceCtorEq, not_false_eq_true, Nat.reduceAdd, Nat.reduceSub, Nat.reduceLT, Nat.reduceLeDiff, Nat.reduceEqDiff, Nat.zero_lt_succ, Bool.not_true, Bool.not_false, beq_self_eq_true, true_and, and_true, Option.isSome_some, Option.isSome_none, reduceIte, Int.toNat_natCast, Bool.false_eq_true, List.length_map, Nat.le_refl, Option.some.injEq, exists_eq_left', Nat.add_right_cancel_iff, List.take_nil, List.drop_nil, idxC_ptr, Nat.reduceMul, T3, T4, T22, T33, T48, cok27, cok28, cok29, cok34, cok38, Try.results14]
      | (simp (disch := first | omega | (simp only [List.length_append, List.length_map, List.length_cons, List.length_nil, List.length_drop, List.length_take, List.length_replicate]; omega)) only [wrap_id, getI])
      | (with_reducible refine And.intro (by first | omega | exact ⟨_, rfl⟩ | (focus (simp; done)) | (simp; omega)) ?_)
      | ((with_reducible apply wk_load (ty := 3) (ha := ag3) 0); rfl; rfl)
      | ((with_reducible apply wk_load (ty := 3) (ha := ag3) 1); rfl; rfl)
      | ((with_reducible apply wk_load (ty := 22) (ha := ag22) 0); rfl; rfl)
      | ((with_reducible apply wk_load (ty := 22) (ha := ag22) 1); rfl; rfl)
      | ((with_reducible refine storeC_mk ?_); first | ((with_reducible apply act_store (t := 22) (hs := sz22) 0); rfl; (first | decide | (focus (simp; done)) | omega); rfl) | ((with_reducible apply act_store (t := 22) (hs := sz22) 1); rfl; (first | decide | (focus (simp; done)) | omega); rfl))
      | ((with_reducible refine actC_mk ?_); (with_reducible refine act_box ?_ (fun b => ?_)); rfl)
      | ((with_reducible refine actC_mk ?_); (with_reducible refine act_new zr48 ?_ (fun b => ?_)); rfl)
      | (with_reducible refine actC_q (act_idx_arr ar48 sz22 (by first | decide | omega) (by first | decide | omega) isA_mk) ?_)
      | (with_reducible refine callD_q (alive6 isR_mk) ?_)
      | (with_reducible refine callD_mk (alive6 ?_))
      | (with_reducible refine callD_q (big6 ?_ isR_mk) ?_)
      | (with_reducible refine callD_mk (big6 ?_ ?_))
      | (with_reducible refine callD_q (sameInts ?_ isR_mk) ?_)
      | (with_reducible refine callD_mk (sameInts ?_ ?_))
      | (with_reducible refine callD_q (literal1 ?_ isR_mk) ?_)
      | (with_reducible refine callD_mk (literal1 ?_ ?_))
      | (with_reducible refine callD_q (block1 ?_ isR_mk) ?_)
      | (with_reducible refine callD_mk (block1 ?_ ?_))
      | ((with_reducible refine AW_drawM (id := 19) 21 mixed ?_ ?_); kernel_rfl)
      | (with_reducible refine dmQ_mk ?_)
      | (with_reducible refine nilTC_pos (by simp; omega) ?_)
      | (with_reducible refine nilTC_split (fun h => ?_) (fun h bn => ?_) <;> (try simp only [List.length_map] at h))
      | (with_reducible refine grd_cases (fun h => ?_) (fun h => ?_) <;> (try simp only [h]) <;> (try simp only [beq_iff_eq, beq_eq_false_iff_ne, bne_iff_ne, bne_eq_false_iff_eq, decide_eq_true_eq, decide_eq_false_iff_not, Bool.not_eq_true', Bool.not_eq_false', Bool.not_true, Bool.not_false, Bool.not_eq_eq_eq_not, ne_eq, Int.not_lt, Int.not_le, gt_iff_lt, ge_iff_le, Decidable.not_not] at h))
      | (with_reducible refine condC_split (fun h => ?_) (fun h => ?_) <;> (try simp only [h]) <;> (try simp only [beq_iff_eq, beq_eq_false_iff_ne, bne_iff_ne, bne_eq_false_iff_eq, decide_eq_true_eq, decide_eq_false_iff_not, Bool.not_eq_true', Bool.not_eq_false', Bool.not_true, Bool.not_false, Bool.not_eq_eq_eq_not, ne_eq, Int.not_lt, Int.not_le, gt_iff_lt, ge_iff_le, Decidable.not_not] at h))
      | omega | (simp only [List.length_append, List.length_map, List.length_cons, List.length_nil, List.length_drop, List.length_take, List.length_replicate]; omega))
    · exact ⟨1, St_leW (by repeat (first | exact trivial | refine ⟨le_rfl, ?_⟩ | refine ⟨le_any, ?_⟩ | refine ⟨le_ro, ?_⟩ | refine ⟨le_nil (by decide), ?_⟩ | refine ⟨le_wrap (by omega) (by omega) (by omega), ?_⟩ | refine ⟨le_int (by omega), ?_⟩ | refine ⟨le_eq (by simp), ?_⟩)) (ResW.refl _) id, by decide, by decide⟩
    · exact ⟨2, St_leW (by repeat (first | exact trivial | refine ⟨le_rfl, ?_⟩ | refine ⟨le_any, ?_⟩ | refine ⟨le_ro, ?_⟩ | refine ⟨le_nil (by decide), ?_⟩ | refine ⟨le_wrap (by omega) (by omega) (by omega), ?_⟩ | refine ⟨le_int (by omega), ?_⟩ | refine ⟨le_eq (by simp), ?_⟩)) (ResW.refl _) id, by decide, by decide⟩
    · exact ⟨3, St_leW (by repeat (first | exact trivial | refine ⟨le_rfl, ?_⟩ | refine ⟨le_any, ?_⟩ | refine ⟨le_ro, ?_⟩ | refine ⟨le_nil (by decide), ?_⟩ | refine ⟨le_wrap (by omega) (by omega) (by omega), ?_⟩ | refine ⟨le_int (by omega), ?_⟩ | refine ⟨le_eq (by simp), ?_⟩)) (ResW.refl _) id, by decide, by decide⟩
    all_goals try (exfalso; omega)
    have ht : List.take (litF l 0).length (litF l 2) = litF l 0 := by rw [q2, g0, rep_take c2, q0]
    have ht1 : List.take (litF l 1).length (litF l 2) = litF l 1 := by rw [q2, q1, List.take_left']; rfl
    refine loop_by (fun i : Nat => ⟨(SSI none l :: B false :: .any :: .any :: .any :: .any :: .any :: .raw (.pointer (some ⟨b, 0, none⟩)) :: .any :: I i :: .any :: .any :: .any :: .any :: .any :: .any :: .any :: .any :: .any :: .any :: .any :: .any :: .any :: .any :: .any :: .any :: .any :: .any :: .any :: .any :: .any :: .any :: .any :: .any :: .any :: .any :: .any :: .any :: .any :: .any :: .any :: .any :: .any :: .any :: .any :: .any :: .any :: .any :: .any :: .any :: .any :: .any :: .any :: .any :: .any :: .any :: .any :: .any :: .any :: .any :: .any :: .any :: .any :: .any :: .any :: .any :: .any :: .any :: .any :: .any :: .any :: .any :: .any :: .any :: .any :: .any :: .any :: .any :: .any :: .any :: .any :: .any :: .any :: .any :: .any :: .any :: .any :: .any :: .any :: .any :: .any :: .any :: .any :: .any :: .any :: .any :: []), [.obj b [SI none (litF l 0), SI none (litF l 1), SI none (litF l 2)]], true, []⟩) (fun i => (litF l 1).length ≤ i ∧ i ≤ (litF l 2).length) (fun i => (litF l 2).length - i) (litF l 1).length (St_leW (by repeat (first | exact trivial | refine ⟨le_rfl, ?_⟩ | refine ⟨le_any, ?_⟩ | refine ⟨le_ro, ?_⟩ | refine ⟨le_nil (by decide), ?_⟩ | refine ⟨le_wrap (by omega) (by omega) (by omega), ?_⟩ | refine ⟨le_int (by omega), ?_⟩ | refine ⟨le_eq (by simp), ?_⟩)) (ResW.refl _) id) ⟨Nat.le_refl _, by omega⟩ ?_
    rintro i ⟨h3, h4⟩
    have ha : i < (litF l 2).length → (litF l 2).getD i 0 = 10 := fun h => by rw [q2]; exact rep_at (by omega) (by omega)
    repeat' (first
      | simp only [WL, intF, strF, List.toList_toArray, List.set_cons_succ, List.set_cons_zero, List.getD_cons_succ, List.getD_cons_zero, List.getElem?_cons_succ, List.getElem?_cons_zero, List.length_cons, List.length_nil, List.replicate_succ, List.replicate_zero, List.cons_append, List.nil_append, List.append_nil, List.map_cons, List.map_nil, Option.bind_some, Option.map_some, Option.map_none, List.drop_succ_cons, List.drop_zero, List.take_succ_cons, List.take_zero, ← List.map_take, ← List.map_drop, List.take_length, Int.reduceToNat, ne_eq, reduceCtorEq, not_false_eq_true, Nat.reduceAdd, Nat.reduceSub, Nat.reduceLT, Nat.reduceLeDiff, Nat.reduceEqDiff, Nat.zero_lt_succ, Bool.not_true, Bool.not_false, beq_self_eq_true, true_and, and_true, Option.isSome_some, Option.isSome_none, reduceIte, Int.toNat_natCast, Bool.false_eq_true, List.length_map, Nat.le_refl, Option.some.injEq, exists_eq_left', Nat.add_right_cancel_iff, List.take_nil, List.drop_nil, idxC_ptr, Nat.reduceMul, T3, T4, T22, T33, T48, cok27, cok28, cok29, cok34, cok38, Try.results14, ht, ht1]
      | (simp (disch := first | omega | (simp only [List.length_append, List.length_map, List.length_cons, List.length_nil, List.length_drop, List.length_take, List.length_replicate]; omega)) only [wrap_id, getI])
      | (with_reducible refine And.intro (by first | omega | exact ⟨_, rfl⟩ | (focus (simp; done)) | (simp; omega)) ?_)
      | ((with_reducible apply wk_load (ty := 3) (ha := ag3) 0); rfl; rfl)
      | ((with_reducible apply wk_load (ty := 3) (ha := ag3) 1); rfl; rfl)
      | ((with_reducible apply wk_load (ty := 22) (ha := ag22) 0); rfl; rfl)
      | ((with_reducible apply wk_load (ty := 22) (ha := ag22) 1); rfl; rfl)
      | ((with_reducible refine storeC_mk ?_); first | ((with_reducible apply act_store (t := 22) (hs := sz22) 0); rfl; (first | decide | (focus (simp; done)) | omega); rfl) | ((with_reducible apply act_store (t := 22) (hs := sz22) 1); rfl; (first | decide | (focus (simp; done)) | omega); rfl))
      | ((with_reducible refine actC_mk ?_); (with_reducible refine act_box ?_ (fun b => ?_)); rfl)
      | ((with_reducible refine actC_mk ?_); (with_reducible refine act_new zr48 ?_ (fun b => ?_)); rfl)
      | (with_reducible refine actC_q (act_idx_arr ar48 sz22 (by first | decide | omega) (by first | decide | omega) isA_mk) ?_)
      | (with_reducible refine callD_q (alive6 isR_mk) ?_)
      | (with_reducible refine callD_mk (alive6 ?_))
      | (with_reducible refine callD_q (big6 ?_ isR_mk) ?_)
      | (with_reducible refine callD_mk (big6 ?_ ?_))
      | (with_reducible refine callD_q (sameInts ?_ isR_mk) ?_)
      | (with_reducible refine callD_mk (sameInts ?_ ?_))
      | (with_reducible refine callD_q (literal1 ?_ isR_mk) ?_)
      | (with_reducible refine callD_mk (literal1 ?_ ?_))
      | (with_reducible refine callD_q (block1 ?_ isR_mk) ?_)
      | (with_reducible refine callD_mk (block1 ?_ ?_))
      | ((with_reducible refine AW_drawM (id := 19) 21 mixed ?_ ?_); kernel_rfl)
      | (with_reducible refine dmQ_mk ?_)
      | (with_reducible refine nilTC_pos (by simp; omega) ?_)
      | (with_reducible refine nilTC_split (fun h => ?_) (fun h bn => ?_) <;> (try simp only [List.length_map] at h))
      | (with_reducible refine grd_cases (fun h => ?_) (fun h => ?_) <;> (try simp only [h]) <;> (try simp only [beq_iff_eq, beq_eq_false_iff_ne, bne_iff_ne, bne_eq_false_iff_eq, decide_eq_true_eq, decide_eq_false_iff_not, Bool.not_eq_true', Bool.not_eq_false', Bool.not_true, Bool.not_false, Bool.not_eq_eq_eq_not, ne_eq, Int.not_lt, Int.not_le, gt_iff_lt, ge_iff_le, Decidable.not_not] at h))
      | (with_reducible refine condC_split (fun h => ?_) (fun h => ?_) <;> (try simp only [h]) <;> (try simp only [beq_iff_eq, beq_eq_false_iff_ne, bne_iff_ne, bne_eq_false_iff_eq, decide_eq_true_eq, decide_eq_false_iff_not, Bool.not_eq_true', Bool.not_eq_false', Bool.not_true, Bool.not_false, Bool.not_eq_eq_eq_not, ne_eq, Int.not_lt, Int.not_le, gt_iff_lt, ge_iff_le, Decidable.not_not] at h))
      | omega | (simp only [List.length_append, List.length_map, List.length_cons, List.length_nil, List.length_drop, List.length_take, List.length_replicate]; omega))
    all_goals first
      | exact ⟨i + 1, St_leW (by repeat (first | exact trivial | refine ⟨le_rfl, ?_⟩ | refine ⟨le_any, ?_⟩ | refine ⟨le_ro, ?_⟩ | refine ⟨le_nil (by decide), ?_⟩ | refine ⟨le_wrap (by omega) (by omega) (by omega), ?_⟩ | refine ⟨le_int (by omega), ?_⟩ | refine ⟨le_eq (by simp), ?_⟩)) (ResW.refl _) id, ⟨by omega, by omega⟩, by omega⟩
      | exact leafLaw (decide_eq_true trivial)
      | (rename_i h; exact absurd trivial h)
  ·
    obtain ⟨m0, m, c1, c2, e0, e1, e2⟩ := chomp_all (blkGo none 0 (l.take (fullN l))) l.length (fullN l)
    have q0 : blkF l 0 = blkGo none 0 (l.take (fullN l)) ++ List.replicate m0 10 := e0
    have q1 : blkF l 1 = blkGo none 0 (l.take (fullN l)) := e1
    have q2 : blkF l 2 = blkGo none 0 (l.take (fullN l)) ++ List.replicate m 10 := e2
    clear e0 e1 e2
    have l0 := blkF_len l 0
    have l1 := blkF_len l 1
    have l2 := blkF_len l 2
    have g0 := congrArg List.length q0
    have g1 := congrArg List.length q1
    have g2 := congrArg List.length q2
    simp only [List.length_append, List.length_replicate] at g0 g1 g2
    refine ACallF.dropL (ACallF_intro Try.func14 rfl ?_)
    simp only [Try.ntmps14]
    repeat' (first
      | simp only [WL, intF, strF, List.toList_toArray, List.set_cons_succ, List.set_cons_zero, List.getD_cons_succ, List.getD_cons_zero, List.getElem?_cons_succ, List.getElem?_cons_zero, List.length_cons, List.length_nil, List.replicate_succ, List.replicate_zero, List.cons_append, List.nil_append, List.append_nil, List.map_cons, List.map_nil, Option.bind_some, Option.map_some, Option.map_none, List.drop_succ_cons, List.drop_zero, List.take_succ_cons, List.take_zero, ← List.map_take, ← List.map_drop, List.take_length, Int.reduceToNat, ne_eq, reduceCtorEq, not_false_eq_true, Nat.reduceAdd, Nat.reduceSub, Nat.reduceLT, Nat.reduceLeDiff, Nat.reduceEqDiff, Nat.zero_lt_succ, Bool.not_true, Bool.not_false, beq_self_eq_true, true_and, and_true, Option.isSome_some, Option.isSome_none, reduceIte, Int.toNat_natCast, Bool.false_eq_true, List.length_map, Nat.le_refl, Option.some.injEq, exists_eq_left', Nat.add_right_cancel_iff, List.take_nil, List.drop_nil, idxC_ptr, Nat.reduceMul, T3, T4, T22, T33, T48, cok27, cok28, cok29, cok34, cok38, Try.results14]
      | (simp (disch := first | omega | (simp only [List.length_append, List.length_map, List.length_cons, List.length_nil, List.length_drop, List.length_take, List.length_replicate]; omega)) only [wrap_id, getI])
      | (with_reducible refine And.intro (by first | omega | exact ⟨_, rfl⟩ | (focus (simp; done)) | (simp; omega)) ?_)
      | ((with_reducible apply wk_load (ty := 3) (ha := ag3) 0); rfl; rfl)
      | ((with_reducible apply wk_load (ty := 3) (ha := ag3) 1); rfl; rfl)
      | ((with_reducible apply wk_load (ty := 22) (ha := ag22) 0); rfl; rfl)
      | ((with_reducible apply wk_load (ty := 22) (ha := ag22) 1); rfl; rfl)
      | ((with_reducible refine storeC_mk ?_); first | ((with_reducible apply act_store (t := 22) (hs := sz22) 0); rfl; (first | decide | (focus (simp; done)) | omega); rfl) | ((with_reducible apply act_store (t := 22) (hs := sz22) 1); rfl; (first | decide | (focus (simp; done)) | omega); rfl))
      | ((with_reducible refine actC_mk ?_); (with_reducible refine act_box ?_ (fun b => ?_)); rfl)
      | ((with_reducible refine actC_mk ?_); (with_reducible refine act_new zr48 ?_ (fun b => ?_)); rfl)
      | (with_reducible refine actC_q (act_idx_arr ar48 sz22 (by first | decide | omega) (by first | decide | omega) isA_mk) ?_)
      | (with_reducible refine callD_q (alive6 isR_mk) ?_)
      | (with_reducible refine callD_mk (alive6 ?_))
      | (with_reducible refine callD_q (big6 ?_ isR_mk) ?_)
      | (with_reducible refine callD_mk (big6 ?_ ?_))
      | (with_reducible refine callD_q (sameInts ?_ isR_mk) ?_)
      | (with_reducible refine callD_mk (sameInts ?_ ?_))
      | (with_reducible refine callD_q (literal1 ?_ isR_mk) ?_)
      | (with_reducible refine callD_mk (literal1 ?_ ?_))
      | (with_reducible refine callD_q (block1 ?_ isR_mk) ?_)
      | (with_reducible refine callD_mk (block1 ?_ ?_))
      | ((with_reducible refine AW_drawM (id := 19) 21 mixed ?_ ?_); kernel_rfl)
      | (with_reducible refine dmQ_mk ?_)
      | (with_reducible refine nilTC_pos (by simp; omega) ?_)
      | (with_reducible refine nilTC_split (fun h => ?_) (fun h bn => ?_) <;> (try simp only [List.length_map] at h))
      | (with_reducible refine grd_cases (fun h => ?_) (fun h => ?_) <;> (try simp only [h]) <;> (try simp only [beq_iff_eq, beq_eq_false_iff_ne, bne_iff_ne, bne_eq_false_iff_eq, decide_eq_true_eq, decide_eq_false_iff_not, Bool.not_eq_true', Bool.not_eq_false', Bool.not_true, Bool.not_false, Bool.not_eq_eq_eq_not, ne_eq, Int.not_lt, Int.not_le, gt_iff_lt, ge_iff_le, Decidable.not_not] at h))
      | (with_reducible refine condC_split (fun h => ?_) (fun h => ?_) <;> (try simp only [h]) <;> (try simp only [beq_iff_eq, beq_eq_false_iff_ne, bne_iff_ne, bne_eq_false_iff_eq, decide_eq_true_eq, decide_eq_false_iff_not, Bool.not_eq_true', Bool.not_eq_false', Bool.not_true, Bool.not_false, Bool.not_eq_eq_eq_not, ne_eq, Int.not_lt, Int.not_le, gt_iff_lt, ge_iff_le, Decidable.not_not] at h))
      | omega | (simp only [List.length_append, List.length_map, List.length_cons, List.length_nil, List.length_drop, List.length_take, List.length_replicate]; omega))
    · exact leafLaw rfl
    have hb2 : tot l ≤ 60 * 201 := hb (by assumption)
    refine loop_by (fun c : Nat => ⟨(SSI none l :: B true :: .any :: .any :: .any :: .any :: .any :: .raw (.pointer (some ⟨b, 0, none⟩)) :: I c :: .any :: .any :: .any :: .any :: .any :: .any :: .any :: .any :: .any :: .any :: .any :: .any :: .any :: .any :: .any :: .any :: .any :: .any :: .any :: .any :: .any :: .any :: .any :: .any :: .any :: .any :: .any :: .any :: .any :: .any :: .any :: .any :: .any :: .any :: .any :: .any :: .any :: .any :: .any :: .any :: .any :: .any :: .any :: .any :: .any :: .any :: .any :: .any :: .any :: .any :: .any :: .any :: .any :: .any :: .any :: .any :: .any :: .any :: .any :: .any :: .any :: .any :: .any :: .any :: .any :: .any :: .any :: .any :: .any :: .any :: .any :: .any :: .any :: .any :: .any :: .any :: .any :: .any :: .any :: .any :: .any :: .any :: .any :: .any :: .any :: .any :: .any :: []), [.obj b (cellsAt (blkF l 0) (blkF l 1) (blkF l 2) c)], true, []⟩) (fun c => c ≤ 3) (fun c => 3 - c) 0 (St_leW (by repeat (first | exact trivial | refine ⟨le_rfl, ?_⟩ | refine ⟨le_any, ?_⟩ | refine ⟨le_ro, ?_⟩ | refine ⟨le_nil (by decide), ?_⟩ | refine ⟨le_wrap (by omega) (by omega) (by omega), ?_⟩ | refine ⟨le_int (by omega), ?_⟩ | refine ⟨le_eq (by simp), ?_⟩)) (ResW.refl _) id) (by decide) ?_
    intro c hc
    obtain rfl | rfl | rfl | rfl : c = 0 ∨ c = 1 ∨ c = 2 ∨ c = 3 := by omega
    all_goals simp only [cellsAt]
    repeat' (first
      | simp only [WL, intF, strF, List.toList_toArray, List.set_cons_succ, List.set_cons_zero, List.getD_cons_succ, List.getD_cons_zero, List.getElem?_cons_succ, List.getElem?_cons_zero, List.length_cons, List.length_nil, List.replicate_succ, List.replicate_zero, List.cons_append, List.nil_append, List.append_nil, List.map_cons, List.map_nil, Option.bind_some, Option.map_some, Option.map_none, List.drop_succ_cons, List.drop_zero, List.take_succ_cons, List.take_zero, ← List.map_take, ← List.map_drop, List.take_length, Int.reduceToNat, ne_eq, reduceCtorEq, not_false_eq_true, Nat.reduceAdd, Nat.reduceSub, Nat.reduceLT, Nat.reduceLeDiff, Nat.reduceEqDiff, Nat.zero_lt_succ, Bool.not_true, Bool.not_false, beq_self_eq_true, true_and, and_true, Option.isSome_some, Option.isSome_none, reduceIte, Int.toNat_natCast, Bool.false_eq_true, List.length_map, Nat.le_refl, Option.some.injEq, exists_eq_left', Nat.add_right_cancel_iff, List.take_nil, List.drop_nil, idxC_ptr, Nat.reduceMul, T3, T4, T22, T33, T48, cok27, cok28, cok29, cok34, cok38, Try.results14]
      | (simp (disch := first | omega | (simp only [List.length_append, List.length_map, List.length_cons, List.length_nil, List.length_drop, List.length_take, List.length_replicate]; omega)) only [wrap_id, getI])
      | (with_reducible refine And.intro (by first | omega | exact ⟨_, rfl⟩ | (focus (simp; done)) | (simp; omega)) ?_)
      | ((with_reducible apply wk_load (ty := 3) (ha := ag3) 0); rfl; rfl)
      | ((with_reducible apply wk_load (ty := 3) (ha := ag3) 1); rfl; rfl)
      | ((with_reducible apply wk_load (ty := 22) (ha := ag22) 0); rfl; rfl)
      | ((with_reducible apply wk_load (ty := 22) (ha := ag22) 1); rfl; rfl)
      | ((with_reducible refine storeC_mk ?_); first | ((with_reducible apply act_store (t := 22) (hs := sz22) 0); rfl; (first | decide | (focus (simp; done)) | omega); rfl) | ((with_reducible apply act_store (t := 22) (hs := sz22) 1); rfl; (first | decide | (focus (simp; done)) | omega); rfl))
      | ((with_reducible refine actC_mk ?_); (with_reducible refine act_box ?_ (fun b => ?_)); rfl)
      | ((with_reducible refine actC_mk ?_); (with_reducible refine act_new zr48 ?_ (fun b => ?_)); rfl)
      | (with_reducible refine actC_q (act_idx_arr ar48 sz22 (by first | decide | omega) (by first | decide | omega) isA_mk) ?_)
      | (with_reducible refine callD_q (alive6 isR_mk) ?_)
      | (with_reducible refine callD_mk (alive6 ?_))
      | (with_reducible refine callD_q (big6 ?_ isR_mk) ?_)
      | (with_reducible refine callD_mk (big6 ?_ ?_))
      | (with_reducible refine callD_q (sameInts ?_ isR_mk) ?_)
      | (with_reducible refine callD_mk (sameInts ?_ ?_))
      | (with_reducible refine callD_q (literal1 ?_ isR_mk) ?_)
      | (with_reducible refine callD_mk (literal1 ?_ ?_))
      | (with_reducible refine callD_q (block1 ?_ isR_mk) ?_)
      | (with_reducible refine callD_mk (block1 ?_ ?_))
      | ((with_reducible refine AW_drawM (id := 19) 21 mixed ?_ ?_); kernel_rfl)
      | (with_reducible refine dmQ_mk ?_)
      | (with_reducible refine nilTC_pos (by simp; omega) ?_)
      | (with_reducible refine nilTC_split (fun h => ?_) (fun h bn => ?_) <;> (try simp only [List.length_map] at h))
      | (with_reducible refine grd_cases (fun h => ?_) (fun h => ?_) <;> (try simp only [h]) <;> (try simp only [beq_iff_eq, beq_eq_false_iff_ne, bne_iff_ne, bne_eq_false_iff_eq, decide_eq_true_eq, decide_eq_false_iff_not, Bool.not_eq_true', Bool.not_eq_false', Bool.not_true, Bool.not_false, Bool.not_eq_eq_eq_not, ne_eq, Int.not_lt, Int.not_le, gt_iff_lt, ge_iff_le, Decidable.not_not] at h))
      | (with_reducible refine condC_split (fun h => ?_) (fun h => ?_) <;> (try simp only [h]) <;> (try simp only [beq_iff_eq, beq_eq_false_iff_ne, bne_iff_ne, bne_eq_false_iff_eq, decide_eq_true_eq, decide_eq_false_iff_not, Bool.not_eq_true', Bool.not_eq_false', Bool.not_true, Bool.not_false, Bool.not_eq_eq_eq_not, ne_eq, Int.not_lt, Int.not_le, gt_iff_lt, ge_iff_le, Decidable.not_not] at h))
      | omega | (simp only [List.length_append, List.length_map, List.length_cons, List.length_nil, List.length_drop, List.length_take, List.length_replicate]; omega))
    · exact ⟨1, St_leW (by repeat (first | exact trivial | refine ⟨le_rfl, ?_⟩ | refine ⟨le_any, ?_⟩ | refine ⟨le_ro, ?_⟩ | refine ⟨le_nil (by decide), ?_⟩ | refine ⟨le_wrap (by omega) (by omega) (by omega), ?_⟩ | refine ⟨le_int (by omega), ?_⟩ | refine ⟨le_eq (by simp), ?_⟩)) (ResW.refl _) id, by decide, by decide⟩
    · exact ⟨2, St_leW (by repeat (first | exact trivial | refine ⟨le_rfl, ?_⟩ | refine ⟨le_any, ?_⟩ | refine ⟨le_ro, ?_⟩ | refine ⟨le_nil (by decide), ?_⟩ | refine ⟨le_wrap (by omega) (by omega) (by omega), ?_⟩ | refine ⟨le_int (by omega), ?_⟩ | refine ⟨le_eq (by simp), ?_⟩)) (ResW.refl _) id, by decide, by decide⟩
    · exact ⟨3, St_leW (by repeat (first | exact trivial | refine ⟨le_rfl, ?_⟩ | refine ⟨le_any, ?_⟩ | refine ⟨le_ro, ?_⟩ | refine ⟨le_nil (by decide), ?_⟩ | refine ⟨le_wrap (by omega) (by omega) (by omega), ?_⟩ | refine ⟨le_int (by omega), ?_⟩ | refine ⟨le_eq (by simp), ?_⟩)) (ResW.refl _) id, by decide, by decide⟩
    all_goals try (exfalso; omega)
    have ht : List.take (blkF l 0).length (blkF l 2) = blkF l 0 := by rw [q2, g0, rep_take c2, q0]
    have ht1 : List.take (blkF l 1).length (blkF l 2) = blkF l 1 := by rw [q2, q1, List.take_left']; rfl
    refine loop_by (fun i : Nat => ⟨(SSI none l :: B true :: .any :: .any :: .any :: .any :: .any :: .raw (.pointer (some ⟨b, 0, none⟩)) :: .any :: I i :: .any :: .any :: .any :: .any :: .any :: .any :: .any :: .any :: .any :: .any :: .any :: .any :: .any :: .any :: .any :: .any :: .any :: .any :: .any :: .any :: .any :: .any :: .any :: .any :: .any :: .any :: .any :: .any :: .any :: .any :: .any :: .any :: .any :: .any :: .any :: .any :: .any :: .any :: .any :: .any :: .any :: .any :: .any :: .any :: .any :: .any :: .any :: .any :: .any :: .any :: .any :: .any :: .any :: .any :: .any :: .any :: .any :: .any :: .any :: .any :: .any :: .any :: .any :: .any :: .any :: .any :: .any :: .any :: .any :: .any :: .any :: .any :: .any :: .any :: .any :: .any :: .any :: .any :: .any :: .any :: .any :: .any :: .any :: .any :: .any :: .any :: []), [.obj b [SI none (blkF l 0), SI none (blkF l 1), SI none (blkF l 2)]], true, []⟩) (fun i => (blkF l 1).length ≤ i ∧ i ≤ (blkF l 2).length) (fun i => (blkF l 2).length - i) (blkF l 1).length (St_leW (by repeat (first | exact trivial | refine ⟨le_rfl, ?_⟩ | refine ⟨le_any, ?_⟩ | refine ⟨le_ro, ?_⟩ | refine ⟨le_nil (by decide), ?_⟩ | refine ⟨le_wrap (by omega) (by omega) (by omega), ?_⟩ | refine ⟨le_int (by omega), ?_⟩ | refine ⟨le_eq (by simp), ?_⟩)) (ResW.refl _) id) ⟨Nat.le_refl _, by omega⟩ ?_
    rintro i ⟨h3, h4⟩
    have ha : i < (blkF l 2).length → (blkF l 2).getD i 0 = 10 := fun h => by rw [q2]; exact rep_at (by omega) (by omega)
    repeat' (first
      | simp only [WL, intF, strF, List.toList_toArray, List.set_cons_succ, List.set_cons_zero, List.getD_cons_succ, List.getD_cons_zero, List.getElem?_cons_succ, List.getElem?_cons_zero, List.length_cons, List.length_nil, List.replicate_succ, List.replicate_zero, List.cons_append, List.nil_append, List.append_nil, List.map_cons, List.map_nil, Option.bind_some, Option.map_some, Option.map_none, List.drop_succ_cons, List.drop_zero, List.take_succ_cons, List.take_zero, ← List.map_take, ← List.map_drop, List.take_length, Int.reduceToNat, ne_eq, reduceCtorEq, not_false_eq_true, Nat.reduceAdd, Nat.reduceSub, Nat.reduceLT, Nat.reduceLeDiff, Nat.reduceEqDiff, Nat.zero_lt_succ, Bool.not_true, Bool.not_false, beq_self_eq_true, true_and, and_true, Option.isSome_some, Option.isSome_none, reduceIte, Int.toNat_natCast, Bool.false_eq_true, List.length_map, Nat.le_refl, Option.some.injEq, exists_eq_left', Nat.add_right_cancel_iff, List.take_nil, List.drop_nil, idxC_ptr, Nat.reduceMul, T3, T4, T22, T33, T48, cok27, cok28, cok29, cok34, cok38, Try.results14, ht, ht1]
      | (simp (disch := first | omega | (simp only [List.length_append, List.length_map, List.length_cons, List.length_nil, List.length_drop, List.length_take, List.length_replicate]; omega)) only [wrap_id, getI])
      | (with_reducible refine And.intro (by first | omega | exact ⟨_, rfl⟩ | (focus (simp; done)) | (simp; omega)) ?_)
      | ((with_reducible apply wk_load (ty := 3) (ha := ag3) 0); rfl; rfl)
      | ((with_reducible apply wk_load (ty := 3) (ha := ag3) 1); rfl; rfl)
      | ((with_reducible apply wk_load (ty := 22) (ha := ag22) 0); rfl; rfl)
      | ((with_reducible apply wk_load (ty := 22) (ha := ag22) 1); rfl; rfl)
      | ((with_reducible refine storeC_mk ?_); first | ((with_reducible apply act_store (t := 22) (hs := sz22) 0); rfl; (first | decide | (focus (simp; done)) | omega); rfl) | ((with_reducible apply act_store (t := 22) (hs := sz22) 1); rfl; (first | decide | (focus (simp; done)) | omega); rfl))
      | ((with_reducible refine actC_mk ?_); (with_reducible refine act_box ?_ (fun b => ?_)); rfl)
      | ((with_reducible refine actC_mk ?_); (with_reducible refine act_new zr48 ?_ (fun b => ?_)); rfl)
      | (with_reducible refine actC_q (act_idx_arr ar48 sz22 (by first | decide | omega) (by first | decide | omega) isA_mk) ?_)
      | (with_reducible refine callD_q (alive6 isR_mk) ?_)
      | (with_reducible refine callD_mk (alive6 ?_))
      | (with_reducible refine callD_q (big6 ?_ isR_mk) ?_)
      | (with_reducible refine callD_mk (big6 ?_ ?_))
      | (with_reducible refine callD_q (sameInts ?_ isR_mk) ?_)
      | (with_reducible refine callD_mk (sameInts ?_ ?_))
      | (with_reducible refine callD_q (literal1 ?_ isR_mk) ?_)
      | (with_reducible refine callD_mk (literal1 ?_ ?_))
      | (with_reducible refine callD_q (block1 ?_ isR_mk) ?_)
      | (with_reducible refine callD_mk (block1 ?_ ?_))
      | ((with_reducible refine AW_drawM (id := 19) 21 mixed ?_ ?_); kernel_rfl)
      | (with_reducible refine dmQ_mk ?_)
      | (with_reducible refine nilTC_pos (by simp; omega) ?_)
      | (with_reducible refine nilTC_split (fun h => ?_) (fun h bn => ?_) <;> (try simp only [List.length_map] at h))
      | (with_reducible refine grd_cases (fun h => ?_) (fun h => ?_) <;> (try simp only [h]) <;> (try simp only [beq_iff_eq, beq_eq_false_iff_ne, bne_iff_ne, bne_eq_false_iff_eq, decide_eq_true_eq, decide_eq_false_iff_not, Bool.not_eq_true', Bool.not_eq_false', Bool.not_true, Bool.not_false, Bool.not_eq_eq_eq_not, ne_eq, Int.not_lt, Int.not_le, gt_iff_lt, ge_iff_le, Decidable.not_not] at h))
      | (with_reducible refine condC_split (fun h => ?_) (fun h => ?_) <;> (try simp only [h]) <;> (try simp only [beq_iff_eq, beq_eq_false_iff_ne, bne_iff_ne, bne_eq_false_iff_eq, decide_eq_true_eq, decide_eq_false_iff_not, Bool.not_eq_true', Bool.not_eq_false', Bool.not_true, Bool.not_false, Bool.not_eq_eq_eq_not, ne_eq, Int.not_lt, Int.not_le, gt_iff_lt, ge_iff_le, Decidable.not_not] at h))
      | omega | (simp only [List.length_append, List.length_map, List.length_cons, List.length_nil, List.length_drop, List.length_take, List.length_replicate]; omega))
    all_goals first
      | exact ⟨i + 1, St_leW (by repeat (first | exact trivial | refine ⟨le_rfl, ?_⟩ | refine ⟨le_any, ?_⟩ | refine ⟨le_ro, ?_⟩ | refine ⟨le_nil (by decide), ?_⟩ | refine ⟨le_wrap (by omega) (by omega) (by omega), ?_⟩ | refine ⟨le_int (by omega), ?_⟩ | refine ⟨le_eq (by simp), ?_⟩)) (ResW.refl _) id, ⟨by omega, by omega⟩, by omega⟩
      | exact leafLaw (decide_eq_true trivial)
      | (rename_i h; exact absurd trivial h)
end Go.Proofs.Ythepmgdoophoaaa
