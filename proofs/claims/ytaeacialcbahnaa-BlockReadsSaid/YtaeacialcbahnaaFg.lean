/-
  Walks: chapter 6, texts of whole lines.
-/
import Derived.Test.YtaeacialcbahnaaFd
namespace Go.Proofs.Ytaeacialcbahnaa
open Go.Abs
set_option linter.unusedVariables false
set_option linter.unusedSimpArgs false
-- hb: 4000000
variable {κ : Ctx} {σ : List Res} {K : Ret → List Res → Prop} {o o' : Option (Option (Nat × Nat))}

-- fold.Literal
set_option maxHeartbeats 4000000 in
theorem literal1 {l : List (List Int)} {c : Int} (hl : tot l ≤ 1000000000) (hK : K (.ret (SI none (litF l c))) σ) : ACallF κ Try.prog 68 [SSI o l, I c] σ K := by
  have hlen := tot_len l
  have hfl := fullN_le l
  have hel := endsC_len l.length (fullN l) c hfl
  have hmin : (l.take (fullN l)).length = fullN l := by simp; omega
  refine ACallF.dropL (ACallF_intro Try.func68 rfl ?_)
  simp only [Try.ntmps68]
  repeat' (first
    | simp only [WL, intF, strF, List.toList_toArray, List.set_cons_succ, List.set_cons_zero, List.getD_cons_succ, List.getD_cons_zero, List.getElem?_cons_succ, List.getElem?_cons_zero, List.length_cons, List.length_nil, List.replicate_succ, List.replicate_zero, List.cons_append, List.nil_append, List.append_nil, List.map_cons, List.map_nil, Option.bind_some, Option.map_some, Option.map_none, List.drop_succ_cons, List.drop_zero, List.take_succ_cons, List.take_zero, ← List.map_take, ← List.map_drop, List.take_length, Int.reduceToNat, ne_eq, reduceCtorEq, not_false_eq_true, Nat.reduceAdd, Nat.reduceSub, Nat.reduceLT, Nat.reduceLeDiff, Nat.reduceEqDiff, Nat.zero_lt_succ, Bool.not_true, Bool.not_false, beq_self_eq_true, true_and, and_true, Option.isSome_some, Option.isSome_none, reduceIte, Int.toNat_natCast, Bool.false_eq_true, List.length_map, Nat.le_refl, Option.some.injEq, exists_eq_left', Nat.add_right_cancel_iff, List.take_nil, List.drop_nil, T3, T4, T24, T69, cok100, cok101, Try.results68, hmin]
    | (simp (disch := first | omega | (simp only [List.length_append, List.length_map, List.length_cons, List.length_nil, List.length_drop, List.length_take, List.length_replicate]; omega)) only [wrap_id, getI])
    | (with_reducible refine And.intro (by first | omega | exact ⟨_, rfl⟩ | (focus (simp; done)) | (simp; omega)) ?_)
    | ((with_reducible apply wk_load (ty := 24) (ha := ag24) 0); rfl; rfl)
    | ((with_reducible apply wk_load (ty := 24) (ha := ag24) 1); rfl; rfl)
    | ((with_reducible refine actC_mk (act_append_nil (sz := 1) (by decide) ?_)))
    | ((with_reducible refine actC_mk (act_append_src_nil (sz := 1) (by decide) ?_)))
    | ((with_reducible refine actC_mk (act_append 0 rfl sl24 sz3 by3 zr3 rfl ?_ ?_ ?_ (fun tk => ?_))); (first | exact goodI _ | exact goodU _ | rfl | exact goodSL _ | exact goodLL _ | (focus (simp [goodL, oneA, AV.cells]; done)) | skip))
    | ((with_reducible refine (act_append 0 rfl sl24 sz3 by3 zr3 rfl ?_ ?_ ?_ (fun tk => ?_))); (first | exact goodI _ | exact goodU _ | rfl | exact goodSL _ | exact goodLL _ | (focus (simp [goodL, oneA, AV.cells]; done)) | skip))
    | ((with_reducible refine actC_mk (act_append 1 rfl sl24 sz3 by3 zr3 rfl ?_ ?_ ?_ (fun tk => ?_))); (first | exact goodI _ | exact goodU _ | rfl | exact goodSL _ | exact goodLL _ | (focus (simp [goodL, oneA, AV.cells]; done)) | skip))
    | ((with_reducible refine (act_append 1 rfl sl24 sz3 by3 zr3 rfl ?_ ?_ ?_ (fun tk => ?_))); (first | exact goodI _ | exact goodU _ | rfl | exact goodSL _ | exact goodLL _ | (focus (simp [goodL, oneA, AV.cells]; done)) | skip))
    | ((with_reducible refine actC_mk (act_append 2 rfl sl24 sz3 by3 zr3 rfl ?_ ?_ ?_ (fun tk => ?_))); (first | exact goodI _ | exact goodU _ | rfl | exact goodSL _ | exact goodLL _ | (focus (simp [goodL, oneA, AV.cells]; done)) | skip))
    | ((with_reducible refine (act_append 2 rfl sl24 sz3 by3 zr3 rfl ?_ ?_ ?_ (fun tk => ?_))); (first | exact goodI _ | exact goodU _ | rfl | exact goodSL _ | exact goodLL _ | (focus (simp [goodL, oneA, AV.cells]; done)) | skip))
    | ((with_reducible refine wk_bslice sl24 sz3 zr3 (by decide) (by decide) (by decide) (by decide) rfl ?_ ?_ ?_); (first | exact goodI _ | exact goodU _ | rfl | exact goodSL _ | exact goodLL _ | (focus (simp [goodL, oneA, AV.cells]; done))); (all_goals first | (intro x hx; simp at hx; first | (subst hx; rfl) | (rcases hx with rfl | rfl <;> rfl) | (rcases hx with rfl | rfl | rfl <;> rfl) | (repeat (rcases hx with rfl | hx <;> try rfl))) | skip))
    | (with_reducible refine callD_mk (full1 ?_ ?_))
    | (with_reducible refine callD_mk (ends1 (by omega) (by omega) ?_))
    | (with_reducible refine nilTC_pos (by simp; omega) ?_)
    | (with_reducible refine nilTC_split (fun h => ?_) (fun h bn => ?_) <;> (try simp only [List.length_map] at h))
    | (with_reducible refine grd_cases (fun h => ?_) (fun h => ?_) <;> (try simp only [h]) <;> (try simp only [beq_iff_eq, beq_eq_false_iff_ne, bne_iff_ne, bne_eq_false_iff_eq, decide_eq_true_eq, decide_eq_false_iff_not, Bool.not_eq_true', Bool.not_eq_false', Bool.not_true, Bool.not_false, Bool.not_eq_eq_eq_not, ne_eq, Int.not_lt, Int.not_le, gt_iff_lt, ge_iff_le, Decidable.not_not] at h))
    | (with_reducible refine condC_split (fun h => ?_) (fun h => ?_) <;> (try simp only [h]) <;> (try simp only [beq_iff_eq, beq_eq_false_iff_ne, bne_iff_ne, bne_eq_false_iff_eq, decide_eq_true_eq, decide_eq_false_iff_not, Bool.not_eq_true', Bool.not_eq_false', Bool.not_true, Bool.not_false, Bool.not_eq_eq_eq_not, ne_eq, Int.not_lt, Int.not_le, gt_iff_lt, ge_iff_le, Decidable.not_not] at h))
    | omega | (simp only [List.length_append, List.length_map, List.length_cons, List.length_nil, List.length_drop, List.length_take, List.length_replicate]; omega) | (refine maxLen_ok ?_; (first | omega | (simp only [List.length_append, List.length_map, List.length_cons, List.length_nil, List.length_drop, List.length_take, List.length_replicate]; omega))))
  refine loop_by (fun x : Nat × List Int × Option (Nat × Nat) => ⟨(SSI o l :: I c :: .any :: .any :: .any :: I (fullN l : Nat) :: SI (some x.2.2) x.2.1 :: .any :: .any :: .any :: .any :: .any :: .any :: SSI none (l.take (fullN l)) :: I (fullN l : Nat) :: I x.1 :: .any :: .any :: .any :: .any :: .any :: .any :: .any :: .any :: .any :: .any :: .any :: .any :: .any :: .any :: .any :: .any :: .any :: .any :: .any :: .any :: []), .tip x.2.2 :: σ, true, []⟩)
    (fun x => x.1 ≤ fullN l ∧ litGo true (l.take (fullN l)) = x.2.1 ++ litGo (decide (x.1 = 0)) ((l.take (fullN l)).drop x.1) ∧ (x.1 = 0 → x.2.1 = [])) (fun x => fullN l - x.1) (0, [], none) (St_leW (by repeat (first | exact trivial | refine ⟨le_rfl, ?_⟩ | refine ⟨le_any, ?_⟩ | refine ⟨le_ro, ?_⟩ | refine ⟨le_nil (by decide), ?_⟩ | refine ⟨le_wrap (by omega) (by omega) (by omega), ?_⟩ | refine ⟨le_int (by omega), ?_⟩ | refine ⟨le_eq (by simp), ?_⟩)) ResW.void id) ⟨Nat.zero_le _, by simp, fun _ => rfl⟩ ?_
  rintro ⟨k, out, tk⟩ ⟨h1, h2, h3⟩
  dsimp only at h1 h2 h3 ⊢
  have ho := lit_out h2
  have e1 : k < fullN l → k < (l.take (fullN l)).length := fun h => by simp; omega
  have e2 := tot_get (l := l) k
  rcases Nat.lt_or_ge k (fullN l) with hk | hk
  · rw [take_drop_cons hk hfl] at h2 ho
    have e3 := getD_take (l := l) hk
    rcases Nat.eq_zero_or_pos k with rfl | hk0
    · simp only [decide_true, litGo_first] at h2 ho
      simp only [List.length_append] at ho
      repeat' (first
        | simp only [WL, intF, strF, List.toList_toArray, List.set_cons_succ, List.set_cons_zero, List.getD_cons_succ, List.getD_cons_zero, List.getElem?_cons_succ, List.getElem?_cons_zero, List.length_cons, List.length_nil, List.replicate_succ, List.replicate_zero, List.cons_append, List.nil_append, List.append_nil, List.map_cons, List.map_nil, Option.bind_some, Option.map_some, Option.map_none, List.drop_succ_cons, List.drop_zero, List.take_succ_cons, List.take_zero, ← List.map_take, ← List.map_drop, List.take_length, Int.reduceToNat, ne_eq, reduceCtorEq, not_false_eq_true, Nat.reduceAdd, Nat.reduceSub, Nat.reduceLT, Nat.reduceLeDiff, Nat.reduceEqDiff, Nat.zero_lt_succ, Bool.not_true, Bool.not_false, beq_self_eq_true, true_and, and_true, Option.isSome_some, Option.isSome_none, reduceIte, Int.toNat_natCast, Bool.false_eq_true, List.length_map, Nat.le_refl, Option.some.injEq, exists_eq_left', Nat.add_right_cancel_iff, List.take_nil, List.drop_nil, T3, T4, T24, T69, cok100, cok101, Try.results68, e3]
        | (simp (disch := first | omega | (simp only [List.length_append, List.length_map, List.length_cons, List.length_nil, List.length_drop, List.length_take, List.length_replicate]; omega)) only [wrap_id, getI, getS])
        | (with_reducible refine And.intro (by first | omega | exact ⟨_, rfl⟩ | (focus (simp; done)) | (simp; omega)) ?_)
        | ((with_reducible apply wk_load (ty := 24) (ha := ag24) 0); rfl; rfl)
        | ((with_reducible apply wk_load (ty := 24) (ha := ag24) 1); rfl; rfl)
        | ((with_reducible refine actC_mk (act_append_nil (sz := 1) (by decide) ?_)))
        | ((with_reducible refine actC_mk (act_append_src_nil (sz := 1) (by decide) ?_)))
        | ((with_reducible refine actC_mk (act_append 0 rfl sl24 sz3 by3 zr3 rfl ?_ ?_ ?_ (fun tk => ?_))); (first | exact goodI _ | exact goodU _ | rfl | exact goodSL _ | exact goodLL _ | (focus (simp [goodL, oneA, AV.cells]; done)) | skip))
        | ((with_reducible refine (act_append 0 rfl sl24 sz3 by3 zr3 rfl ?_ ?_ ?_ (fun tk => ?_))); (first | exact goodI _ | exact goodU _ | rfl | exact goodSL _ | exact goodLL _ | (focus (simp [goodL, oneA, AV.cells]; done)) | skip))
        | ((with_reducible refine actC_mk (act_append 1 rfl sl24 sz3 by3 zr3 rfl ?_ ?_ ?_ (fun tk => ?_))); (first | exact goodI _ | exact goodU _ | rfl | exact goodSL _ | exact goodLL _ | (focus (simp [goodL, oneA, AV.cells]; done)) | skip))
        | ((with_reducible refine (act_append 1 rfl sl24 sz3 by3 zr3 rfl ?_ ?_ ?_ (fun tk => ?_))); (first | exact goodI _ | exact goodU _ | rfl | exact goodSL _ | exact goodLL _ | (focus (simp [goodL, oneA, AV.cells]; done)) | skip))
        | ((with_reducible refine actC_mk (act_append 2 rfl sl24 sz3 by3 zr3 rfl ?_ ?_ ?_ (fun tk => ?_))); (first | exact goodI _ | exact goodU _ | rfl | exact goodSL _ | exact goodLL _ | (focus (simp [goodL, oneA, AV.cells]; done)) | skip))
        | ((with_reducible refine (act_append 2 rfl sl24 sz3 by3 zr3 rfl ?_ ?_ ?_ (fun tk => ?_))); (first | exact goodI _ | exact goodU _ | rfl | exact goodSL _ | exact goodLL _ | (focus (simp [goodL, oneA, AV.cells]; done)) | skip))
        | ((with_reducible refine wk_bslice sl24 sz3 zr3 (by decide) (by decide) (by decide) (by decide) rfl ?_ ?_ ?_); (first | exact goodI _ | exact goodU _ | rfl | exact goodSL _ | exact goodLL _ | (focus (simp [goodL, oneA, AV.cells]; done))); (all_goals first | (intro x hx; simp at hx; first | (subst hx; rfl) | (rcases hx with rfl | rfl <;> rfl) | (rcases hx with rfl | rfl | rfl <;> rfl) | (repeat (rcases hx with rfl | hx <;> try rfl))) | skip))
        | (with_reducible refine callD_mk (full1 ?_ ?_))
        | (with_reducible refine callD_mk (ends1 (by omega) (by omega) ?_))
        | (with_reducible refine nilTC_pos (by simp; omega) ?_)
        | (with_reducible refine nilTC_split (fun h => ?_) (fun h bn => ?_) <;> (try simp only [List.length_map] at h))
        | (with_reducible refine grd_cases (fun h => ?_) (fun h => ?_) <;> (try simp only [h]) <;> (try simp only [beq_iff_eq, beq_eq_false_iff_ne, bne_iff_ne, bne_eq_false_iff_eq, decide_eq_true_eq, decide_eq_false_iff_not, Bool.not_eq_true', Bool.not_eq_false', Bool.not_true, Bool.not_false, Bool.not_eq_eq_eq_not, ne_eq, Int.not_lt, Int.not_le, gt_iff_lt, ge_iff_le, Decidable.not_not] at h))
        | (with_reducible refine condC_split (fun h => ?_) (fun h => ?_) <;> (try simp only [h]) <;> (try simp only [beq_iff_eq, beq_eq_false_iff_ne, bne_iff_ne, bne_eq_false_iff_eq, decide_eq_true_eq, decide_eq_false_iff_not, Bool.not_eq_true', Bool.not_eq_false', Bool.not_true, Bool.not_false, Bool.not_eq_eq_eq_not, ne_eq, Int.not_lt, Int.not_le, gt_iff_lt, ge_iff_le, Decidable.not_not] at h))
        | omega | (simp only [List.length_append, List.length_map, List.length_cons, List.length_nil, List.length_drop, List.length_take, List.length_replicate]; omega) | (refine maxLen_ok ?_; (first | omega | (simp only [List.length_append, List.length_map, List.length_cons, List.length_nil, List.length_drop, List.length_take, List.length_replicate]; omega))))
      exact ⟨(1, out ++ l.getD 0 [], tk), St_leW (by repeat (first | exact trivial | refine ⟨le_rfl, ?_⟩ | refine ⟨le_any, ?_⟩ | refine ⟨le_ro, ?_⟩ | refine ⟨le_nil (by decide), ?_⟩ | refine ⟨le_wrap (by omega) (by omega) (by omega), ?_⟩ | refine ⟨le_int (by omega), ?_⟩ | refine ⟨le_eq (by simp), ?_⟩)) (ResW.refl _) id, ⟨by dsimp only; omega, by rw [h2]; simp, fun h => by omega⟩, by dsimp only; omega⟩
    · have hk1 : ¬ k = 0 := by omega
      simp only [decide_eq_false hk1, litGo_next] at h2 ho
      simp only [List.length_append, List.length_cons] at ho
      repeat' (first
        | simp only [WL, intF, strF, List.toList_toArray, List.set_cons_succ, List.set_cons_zero, List.getD_cons_succ, List.getD_cons_zero, List.getElem?_cons_succ, List.getElem?_cons_zero, List.length_cons, List.length_nil, List.replicate_succ, List.replicate_zero, List.cons_append, List.nil_append, List.append_nil, List.map_cons, List.map_nil, Option.bind_some, Option.map_some, Option.map_none, List.drop_succ_cons, List.drop_zero, List.take_succ_cons, List.take_zero, ← List.map_take, ← List.map_drop, List.take_length, Int.reduceToNat, ne_eq, reduceCtorEq, not_false_eq_true, Nat.reduceAdd, Nat.reduceSub, Nat.reduceLT, Nat.reduceLeDiff, Nat.reduceEqDiff, Nat.zero_lt_succ, Bool.not_true, Bool.not_false, beq_self_eq_true, true_and, and_true, Option.isSome_some, Option.isSome_none, reduceIte, Int.toNat_natCast, Bool.false_eq_true, List.length_map, Nat.le_refl, Option.some.injEq, exists_eq_left', Nat.add_right_cancel_iff, List.take_nil, List.drop_nil, T3, T4, T24, T69, cok100, cok101, Try.results68, e3]
        | (simp (disch := first | omega | (simp only [List.length_append, List.length_map, List.length_cons, List.length_nil, List.length_drop, List.length_take, List.length_replicate]; omega)) only [wrap_id, getI, getS])
        | (with_reducible refine And.intro (by first | omega | exact ⟨_, rfl⟩ | (focus (simp; done)) | (simp; omega)) ?_)
        | ((with_reducible apply wk_load (ty := 24) (ha := ag24) 0); rfl; rfl)
        | ((with_reducible apply wk_load (ty := 24) (ha := ag24) 1); rfl; rfl)
        | ((with_reducible refine actC_mk (act_append_nil (sz := 1) (by decide) ?_)))
        | ((with_reducible refine actC_mk (act_append_src_nil (sz := 1) (by decide) ?_)))
        | ((with_reducible refine actC_mk (act_append 0 rfl sl24 sz3 by3 zr3 rfl ?_ ?_ ?_ (fun tk => ?_))); (first | exact goodI _ | exact goodU _ | rfl | exact goodSL _ | exact goodLL _ | (focus (simp [goodL, oneA, AV.cells]; done)) | skip))
        | ((with_reducible refine (act_append 0 rfl sl24 sz3 by3 zr3 rfl ?_ ?_ ?_ (fun tk => ?_))); (first | exact goodI _ | exact goodU _ | rfl | exact goodSL _ | exact goodLL _ | (focus (simp [goodL, oneA, AV.cells]; done)) | skip))
        | ((with_reducible refine actC_mk (act_append 1 rfl sl24 sz3 by3 zr3 rfl ?_ ?_ ?_ (fun tk => ?_))); (first | exact goodI _ | exact goodU _ | rfl | exact goodSL _ | exact goodLL _ | (focus (simp [goodL, oneA, AV.cells]; done)) | skip))
        | ((with_reducible refine (act_append 1 rfl sl24 sz3 by3 zr3 rfl ?_ ?_ ?_ (fun tk => ?_))); (first | exact goodI _ | exact goodU _ | rfl | exact goodSL _ | exact goodLL _ | (focus (simp [goodL, oneA, AV.cells]; done)) | skip))
        | ((with_reducible refine actC_mk (act_append 2 rfl sl24 sz3 by3 zr3 rfl ?_ ?_ ?_ (fun tk => ?_))); (first | exact goodI _ | exact goodU _ | rfl | exact goodSL _ | exact goodLL _ | (focus (simp [goodL, oneA, AV.cells]; done)) | skip))
        | ((with_reducible refine (act_append 2 rfl sl24 sz3 by3 zr3 rfl ?_ ?_ ?_ (fun tk => ?_))); (first | exact goodI _ | exact goodU _ | rfl | exact goodSL _ | exact goodLL _ | (focus (simp [goodL, oneA, AV.cells]; done)) | skip))
        | ((with_reducible refine wk_bslice sl24 sz3 zr3 (by decide) (by decide) (by decide) (by decide) rfl ?_ ?_ ?_); (first | exact goodI _ | exact goodU _ | rfl | exact goodSL _ | exact goodLL _ | (focus (simp [goodL, oneA, AV.cells]; done))); (all_goals first | (intro x hx; simp at hx; first | (subst hx; rfl) | (rcases hx with rfl | rfl <;> rfl) | (rcases hx with rfl | rfl | rfl <;> rfl) | (repeat (rcases hx with rfl | hx <;> try rfl))) | skip))
        | (with_reducible refine callD_mk (full1 ?_ ?_))
        | (with_reducible refine callD_mk (ends1 (by omega) (by omega) ?_))
        | (with_reducible refine nilTC_pos (by simp; omega) ?_)
        | (with_reducible refine nilTC_split (fun h => ?_) (fun h bn => ?_) <;> (try simp only [List.length_map] at h))
        | (with_reducible refine grd_cases (fun h => ?_) (fun h => ?_) <;> (try simp only [h]) <;> (try simp only [beq_iff_eq, beq_eq_false_iff_ne, bne_iff_ne, bne_eq_false_iff_eq, decide_eq_true_eq, decide_eq_false_iff_not, Bool.not_eq_true', Bool.not_eq_false', Bool.not_true, Bool.not_false, Bool.not_eq_eq_eq_not, ne_eq, Int.not_lt, Int.not_le, gt_iff_lt, ge_iff_le, Decidable.not_not] at h))
        | (with_reducible refine condC_split (fun h => ?_) (fun h => ?_) <;> (try simp only [h]) <;> (try simp only [beq_iff_eq, beq_eq_false_iff_ne, bne_iff_ne, bne_eq_false_iff_eq, decide_eq_true_eq, decide_eq_false_iff_not, Bool.not_eq_true', Bool.not_eq_false', Bool.not_true, Bool.not_false, Bool.not_eq_eq_eq_not, ne_eq, Int.not_lt, Int.not_le, gt_iff_lt, ge_iff_le, Decidable.not_not] at h))
        | omega | (simp only [List.length_append, List.length_map, List.length_cons, List.length_nil, List.length_drop, List.length_take, List.length_replicate]; omega) | (refine maxLen_ok ?_; (first | omega | (simp only [List.length_append, List.length_map, List.length_cons, List.length_nil, List.length_drop, List.length_take, List.length_replicate]; omega))))
      exact ⟨(k + 1, out ++ 10 :: l.getD k [], tk), St_leW (by repeat (first | exact trivial | refine ⟨le_rfl, ?_⟩ | refine ⟨le_any, ?_⟩ | refine ⟨le_ro, ?_⟩ | refine ⟨le_nil (by decide), ?_⟩ | refine ⟨le_wrap (by omega) (by omega) (by omega), ?_⟩ | refine ⟨le_int (by omega), ?_⟩ | refine ⟨le_eq (by simp), ?_⟩)) (ResW.refl _) id, ⟨by dsimp only; omega, by rw [h2]; simp, fun h => by omega⟩, by dsimp only; omega⟩
  · rw [List.drop_eq_nil_of_le (by simp; omega)] at h2
    have e4 : ∀ b, litGo b [] = [] := fun b => rfl
    rw [e4, List.append_nil] at h2
    repeat' (first
      | simp only [WL, intF, strF, List.toList_toArray, List.set_cons_succ, List.set_cons_zero, List.getD_cons_succ, List.getD_cons_zero, List.getElem?_cons_succ, List.getElem?_cons_zero, List.length_cons, List.length_nil, List.replicate_succ, List.replicate_zero, List.cons_append, List.nil_append, List.append_nil, List.map_cons, List.map_nil, Option.bind_some, Option.map_some, Option.map_none, List.drop_succ_cons, List.drop_zero, List.take_succ_cons, List.take_zero, ← List.map_take, ← List.map_drop, List.take_length, Int.reduceToNat, ne_eq, reduceCtorEq, not_false_eq_true, Nat.reduceAdd, Nat.reduceSub, Nat.reduceLT, Nat.reduceLeDiff, Nat.reduceEqDiff, Nat.zero_lt_succ, Bool.not_true, Bool.not_false, beq_self_eq_true, true_and, and_true, Option.isSome_some, Option.isSome_none, reduceIte, Int.toNat_natCast, Bool.false_eq_true, List.length_map, Nat.le_refl, Option.some.injEq, exists_eq_left', Nat.add_right_cancel_iff, List.take_nil, List.drop_nil, T3, T4, T24, T69, cok100, cok101, Try.results68]
      | (simp (disch := first | omega | (simp only [List.length_append, List.length_map, List.length_cons, List.length_nil, List.length_drop, List.length_take, List.length_replicate]; omega)) only [wrap_id, getI])
      | (with_reducible refine And.intro (by first | omega | exact ⟨_, rfl⟩ | (focus (simp; done)) | (simp; omega)) ?_)
      | ((with_reducible apply wk_load (ty := 24) (ha := ag24) 0); rfl; rfl)
      | ((with_reducible apply wk_load (ty := 24) (ha := ag24) 1); rfl; rfl)
      | ((with_reducible refine actC_mk (act_append_nil (sz := 1) (by decide) ?_)))
      | ((with_reducible refine actC_mk (act_append_src_nil (sz := 1) (by decide) ?_)))
      | ((with_reducible refine actC_mk (act_append 0 rfl sl24 sz3 by3 zr3 rfl ?_ ?_ ?_ (fun tk => ?_))); (first | exact goodI _ | exact goodU _ | rfl | exact goodSL _ | exact goodLL _ | (focus (simp [goodL, oneA, AV.cells]; done)) | skip))
      | ((with_reducible refine (act_append 0 rfl sl24 sz3 by3 zr3 rfl ?_ ?_ ?_ (fun tk => ?_))); (first | exact goodI _ | exact goodU _ | rfl | exact goodSL _ | exact goodLL _ | (focus (simp [goodL, oneA, AV.cells]; done)) | skip))
      | ((with_reducible refine actC_mk (act_append 1 rfl sl24 sz3 by3 zr3 rfl ?_ ?_ ?_ (fun tk => ?_))); (first | exact goodI _ | exact goodU _ | rfl | exact goodSL _ | exact goodLL _ | (focus (simp [goodL, oneA, AV.cells]; done)) | skip))
      | ((with_reducible refine (act_append 1 rfl sl24 sz3 by3 zr3 rfl ?_ ?_ ?_ (fun tk => ?_))); (first | exact goodI _ | exact goodU _ | rfl | exact goodSL _ | exact goodLL _ | (focus (simp [goodL, oneA, AV.cells]; done)) | skip))
      | ((with_reducible refine actC_mk (act_append 2 rfl sl24 sz3 by3 zr3 rfl ?_ ?_ ?_ (fun tk => ?_))); (first | exact goodI _ | exact goodU _ | rfl | exact goodSL _ | exact goodLL _ | (focus (simp [goodL, oneA, AV.cells]; done)) | skip))
      | ((with_reducible refine (act_append 2 rfl sl24 sz3 by3 zr3 rfl ?_ ?_ ?_ (fun tk => ?_))); (first | exact goodI _ | exact goodU _ | rfl | exact goodSL _ | exact goodLL _ | (focus (simp [goodL, oneA, AV.cells]; done)) | skip))
      | ((with_reducible refine wk_bslice sl24 sz3 zr3 (by decide) (by decide) (by decide) (by decide) rfl ?_ ?_ ?_); (first | exact goodI _ | exact goodU _ | rfl | exact goodSL _ | exact goodLL _ | (focus (simp [goodL, oneA, AV.cells]; done))); (all_goals first | (intro x hx; simp at hx; first | (subst hx; rfl) | (rcases hx with rfl | rfl <;> rfl) | (rcases hx with rfl | rfl | rfl <;> rfl) | (repeat (rcases hx with rfl | hx <;> try rfl))) | skip))
      | (with_reducible refine callD_mk (full1 ?_ ?_))
      | (with_reducible refine callD_mk (ends1 (by omega) (by omega) ?_))
      | (with_reducible refine nilTC_pos (by simp; omega) ?_)
      | (with_reducible refine nilTC_split (fun h => ?_) (fun h bn => ?_) <;> (try simp only [List.length_map] at h))
      | (with_reducible refine grd_cases (fun h => ?_) (fun h => ?_) <;> (try simp only [h]) <;> (try simp only [beq_iff_eq, beq_eq_false_iff_ne, bne_iff_ne, bne_eq_false_iff_eq, decide_eq_true_eq, decide_eq_false_iff_not, Bool.not_eq_true', Bool.not_eq_false', Bool.not_true, Bool.not_false, Bool.not_eq_eq_eq_not, ne_eq, Int.not_lt, Int.not_le, gt_iff_lt, ge_iff_le, Decidable.not_not] at h))
      | (with_reducible refine condC_split (fun h => ?_) (fun h => ?_) <;> (try simp only [h]) <;> (try simp only [beq_iff_eq, beq_eq_false_iff_ne, bne_iff_ne, bne_eq_false_iff_eq, decide_eq_true_eq, decide_eq_false_iff_not, Bool.not_eq_true', Bool.not_eq_false', Bool.not_true, Bool.not_false, Bool.not_eq_eq_eq_not, ne_eq, Int.not_lt, Int.not_le, gt_iff_lt, ge_iff_le, Decidable.not_not] at h))
      | omega | (simp only [List.length_append, List.length_map, List.length_cons, List.length_nil, List.length_drop, List.length_take, List.length_replicate]; omega) | (refine maxLen_ok ?_; (first | omega | (simp only [List.length_append, List.length_map, List.length_cons, List.length_nil, List.length_drop, List.length_take, List.length_replicate]; omega))))
    exact leafL (sub_cons sub_rfl) (leT_le (by rw [litF, h2]; simp only [SI, List.map_append]; exact le_ro)) hK

def lastV : Option (List Int) → AV
  | none => nilS
  | some t => SI none t

-- fold.Block
set_option maxHeartbeats 4000000 in
theorem block1 {l : List (List Int)} {c : Int} (hl : tot l ≤ 1000000000) (hK : K (.ret (SI none (blkF l c))) σ) : ACallF κ Try.prog 69 [SSI o l, I c] σ K := by
  have hlen := tot_len l
  have hfl := fullN_le l
  have hel := endsC_len l.length (fullN l) c hfl
  have hmin : (l.take (fullN l)).length = fullN l := by simp; omega
  refine ACallF.dropL (ACallF_intro Try.func69 rfl ?_)
  simp only [Try.ntmps69]
  repeat' (first
    | simp only [WL, intF, strF, List.toList_toArray, List.set_cons_succ, List.set_cons_zero, List.getD_cons_succ, List.getD_cons_zero, List.getElem?_cons_succ, List.getElem?_cons_zero, List.length_cons, List.length_nil, List.replicate_succ, List.replicate_zero, List.cons_append, List.nil_append, List.append_nil, List.map_cons, List.map_nil, Option.bind_some, Option.map_some, Option.map_none, List.drop_succ_cons, List.drop_zero, List.take_succ_cons, List.take_zero, ← List.map_take, ← List.map_drop, List.take_length, Int.reduceToNat, ne_eq, reduceCtorEq, not_false_eq_true, Nat.reduceAdd, Nat.reduceSub, Nat.reduceLT, Nat.reduceLeDiff, Nat.reduceEqDiff, Nat.zero_lt_succ, Bool.not_true, Bool.not_false, beq_self_eq_true, true_and, and_true, Option.isSome_some, Option.isSome_none, reduceIte, Int.toNat_natCast, Bool.false_eq_true, List.length_map, Nat.le_refl, Option.some.injEq, exists_eq_left', Nat.add_right_cancel_iff, List.take_nil, List.drop_nil, T3, T4, T24, T69, cok100, cok101, cok102, cok103, cok104, Try.results69, hmin]
    | (simp (disch := first | omega | (simp only [List.length_append, List.length_map, List.length_cons, List.length_nil, List.length_drop, List.length_take, List.length_replicate]; omega)) only [wrap_id, getI])
    | (with_reducible refine And.intro (by first | omega | exact ⟨_, rfl⟩ | (focus (simp; done)) | (simp; omega)) ?_)
    | ((with_reducible apply wk_load (ty := 24) (ha := ag24) 0); rfl; rfl)
    | ((with_reducible apply wk_load (ty := 24) (ha := ag24) 1); rfl; rfl)
    | ((with_reducible refine actC_mk (act_append_nil (sz := 1) (by decide) ?_)))
    | ((with_reducible refine actC_mk (act_append_src_nil (sz := 1) (by decide) ?_)))
    | ((with_reducible refine actC_mk (act_append 0 rfl sl24 sz3 by3 zr3 rfl ?_ ?_ ?_ (fun tk => ?_))); (first | exact goodI _ | exact goodU _ | rfl | exact goodSL _ | exact goodLL _ | (focus (simp [goodL, oneA, AV.cells]; done)) | skip))
    | ((with_reducible refine (act_append 0 rfl sl24 sz3 by3 zr3 rfl ?_ ?_ ?_ (fun tk => ?_))); (first | exact goodI _ | exact goodU _ | rfl | exact goodSL _ | exact goodLL _ | (focus (simp [goodL, oneA, AV.cells]; done)) | skip))
    | ((with_reducible refine actC_mk (act_append 1 rfl sl24 sz3 by3 zr3 rfl ?_ ?_ ?_ (fun tk => ?_))); (first | exact goodI _ | exact goodU _ | rfl | exact goodSL _ | exact goodLL _ | (focus (simp [goodL, oneA, AV.cells]; done)) | skip))
    | ((with_reducible refine (act_append 1 rfl sl24 sz3 by3 zr3 rfl ?_ ?_ ?_ (fun tk => ?_))); (first | exact goodI _ | exact goodU _ | rfl | exact goodSL _ | exact goodLL _ | (focus (simp [goodL, oneA, AV.cells]; done)) | skip))
    | ((with_reducible refine actC_mk (act_append 2 rfl sl24 sz3 by3 zr3 rfl ?_ ?_ ?_ (fun tk => ?_))); (first | exact goodI _ | exact goodU _ | rfl | exact goodSL _ | exact goodLL _ | (focus (simp [goodL, oneA, AV.cells]; done)) | skip))
    | ((with_reducible refine (act_append 2 rfl sl24 sz3 by3 zr3 rfl ?_ ?_ ?_ (fun tk => ?_))); (first | exact goodI _ | exact goodU _ | rfl | exact goodSL _ | exact goodLL _ | (focus (simp [goodL, oneA, AV.cells]; done)) | skip))
    | ((with_reducible refine wk_bslice sl24 sz3 zr3 (by decide) (by decide) (by decide) (by decide) rfl ?_ ?_ ?_); (first | exact goodI _ | exact goodU _ | rfl | exact goodSL _ | exact goodLL _ | (focus (simp [goodL, oneA, AV.cells]; done))); (all_goals first | (intro x hx; simp at hx; first | (subst hx; rfl) | (rcases hx with rfl | rfl <;> rfl) | (rcases hx with rfl | rfl | rfl <;> rfl) | (repeat (rcases hx with rfl | hx <;> try rfl))) | skip))
    | (with_reducible refine callD_mk (full1 ?_ ?_))
    | (with_reducible refine callD_mk (ends1 (by omega) (by omega) ?_))
    | (with_reducible refine callD_mk (repeat1 (by omega) ?_))
    | (with_reducible refine callD_mk (spaced1 ?_ ?_))
    | (with_reducible refine callD_mk (between1 (by omega) ?_))
    | (with_reducible refine nilTC_pos (by simp; omega) ?_)
    | (with_reducible refine nilTC_split (fun h => ?_) (fun h bn => ?_) <;> (try simp only [List.length_map] at h))
    | (with_reducible refine grd_cases (fun h => ?_) (fun h => ?_) <;> (try simp only [h]) <;> (try simp only [beq_iff_eq, beq_eq_false_iff_ne, bne_iff_ne, bne_eq_false_iff_eq, decide_eq_true_eq, decide_eq_false_iff_not, Bool.not_eq_true', Bool.not_eq_false', Bool.not_true, Bool.not_false, Bool.not_eq_eq_eq_not, ne_eq, Int.not_lt, Int.not_le, gt_iff_lt, ge_iff_le, Decidable.not_not] at h))
    | (with_reducible refine condC_split (fun h => ?_) (fun h => ?_) <;> (try simp only [h]) <;> (try simp only [beq_iff_eq, beq_eq_false_iff_ne, bne_iff_ne, bne_eq_false_iff_eq, decide_eq_true_eq, decide_eq_false_iff_not, Bool.not_eq_true', Bool.not_eq_false', Bool.not_true, Bool.not_false, Bool.not_eq_eq_eq_not, ne_eq, Int.not_lt, Int.not_le, gt_iff_lt, ge_iff_le, Decidable.not_not] at h))
    | omega | (simp only [List.length_append, List.length_map, List.length_cons, List.length_nil, List.length_drop, List.length_take, List.length_replicate]; omega) | (refine maxLen_ok ?_; (first | omega | (simp only [List.length_append, List.length_map, List.length_cons, List.length_nil, List.length_drop, List.length_take, List.length_replicate]; omega))))
  refine loop_by (fun x : Nat × List Int × Option (List Int) × Nat × Option (Nat × Nat) => ⟨(SSI o l :: I c :: .any :: .any :: .any :: I (fullN l : Nat) :: SI (some x.2.2.2.2) x.2.1 :: lastV x.2.2.1 :: I x.2.2.2.1 :: .any :: .any :: .any :: .any :: .any :: .any :: SSI none (l.take (fullN l)) :: I (fullN l : Nat) :: I x.1 :: .any :: .any :: .any :: .any :: .any :: .any :: .any :: .any :: .any :: .any :: .any :: .any :: .any :: .any :: .any :: .any :: .any :: .any :: .any :: .any :: .any :: .any :: .any :: .any :: .any :: .any :: .any :: .any :: .any :: .any :: .any :: .any :: .any :: .any :: .any :: .any :: .any :: .any :: .any :: .any :: .any :: .any :: .any :: []), .tip x.2.2.2.2 :: σ, true, []⟩)
    (fun x => x.1 ≤ fullN l ∧ blkGo none 0 (l.take (fullN l)) = x.2.1 ++ blkGo x.2.2.1 x.2.2.2.1 ((l.take (fullN l)).drop x.1) ∧ (x.2.2.1 = none → x.2.1 = []) ∧ (∀ t, x.2.2.1 = some t → 0 < t.length ∧ t.length ≤ tot l) ∧ x.2.2.2.1 ≤ x.1) (fun x => fullN l - x.1) (0, [], none, 0, none) (St_leW (by repeat (first | exact trivial | refine ⟨le_rfl, ?_⟩ | refine ⟨le_any, ?_⟩ | refine ⟨le_ro, ?_⟩ | refine ⟨le_nil (by decide), ?_⟩ | refine ⟨le_wrap (by omega) (by omega) (by omega), ?_⟩ | refine ⟨le_int (by omega), ?_⟩ | refine ⟨le_eq (by simp), ?_⟩)) ResW.void id) ⟨Nat.zero_le _, by simp, fun _ => rfl, fun t h => (by cases h), Nat.le_refl _⟩ ?_
  rintro ⟨k, out, s, e, tk⟩ ⟨h1, h2, h3, h5, h6⟩
  dsimp only at h1 h2 h3 h5 h6 ⊢
  have ho := blk_out h2
  have e1 : k < fullN l → k < (l.take (fullN l)).length := fun h => by simp; omega
  have e2 := tot_get (l := l) k
  have hb0 := between_len e
  have hb1 := between_len (e + 1)
  rcases Nat.lt_or_ge k (fullN l) with hk | hk
  · rw [take_drop_cons hk hfl] at h2 ho
    have e3 := getD_take (l := l) hk
    by_cases ht : l.getD k [] = []
    · rw [blkGo_empty ht] at h2
      have ht2 : (l.getD k []).length = 0 := by rw [ht]; rfl
      repeat' (first
        | simp only [WL, intF, strF, List.toList_toArray, List.set_cons_succ, List.set_cons_zero, List.getD_cons_succ, List.getD_cons_zero, List.getElem?_cons_succ, List.getElem?_cons_zero, List.length_cons, List.length_nil, List.replicate_succ, List.replicate_zero, List.cons_append, List.nil_append, List.append_nil, List.map_cons, List.map_nil, Option.bind_some, Option.map_some, Option.map_none, List.drop_succ_cons, List.drop_zero, List.take_succ_cons, List.take_zero, ← List.map_take, ← List.map_drop, List.take_length, Int.reduceToNat, ne_eq, reduceCtorEq, not_false_eq_true, Nat.reduceAdd, Nat.reduceSub, Nat.reduceLT, Nat.reduceLeDiff, Nat.reduceEqDiff, Nat.zero_lt_succ, Bool.not_true, Bool.not_false, beq_self_eq_true, true_and, and_true, Option.isSome_some, Option.isSome_none, reduceIte, Int.toNat_natCast, Bool.false_eq_true, List.length_map, Nat.le_refl, Option.some.injEq, exists_eq_left', Nat.add_right_cancel_iff, List.take_nil, List.drop_nil, T3, T4, T24, T69, cok100, cok101, cok102, cok103, cok104, Try.results69, e3]
        | (simp (disch := first | omega | (simp only [List.length_append, List.length_map, List.length_cons, List.length_nil, List.length_drop, List.length_take, List.length_replicate]; omega)) only [wrap_id, getI, getS])
        | (with_reducible refine And.intro (by first | omega | exact ⟨_, rfl⟩ | (focus (simp; done)) | (simp; omega)) ?_)
        | ((with_reducible apply wk_load (ty := 24) (ha := ag24) 0); rfl; rfl)
        | ((with_reducible apply wk_load (ty := 24) (ha := ag24) 1); rfl; rfl)
        | ((with_reducible refine actC_mk (act_append_nil (sz := 1) (by decide) ?_)))
        | ((with_reducible refine actC_mk (act_append_src_nil (sz := 1) (by decide) ?_)))
        | ((with_reducible refine actC_mk (act_append 0 rfl sl24 sz3 by3 zr3 rfl ?_ ?_ ?_ (fun tk => ?_))); (first | exact goodI _ | exact goodU _ | rfl | exact goodSL _ | exact goodLL _ | (focus (simp [goodL, oneA, AV.cells]; done)) | skip))
        | ((with_reducible refine (act_append 0 rfl sl24 sz3 by3 zr3 rfl ?_ ?_ ?_ (fun tk => ?_))); (first | exact goodI _ | exact goodU _ | rfl | exact goodSL _ | exact goodLL _ | (focus (simp [goodL, oneA, AV.cells]; done)) | skip))
        | ((with_reducible refine actC_mk (act_append 1 rfl sl24 sz3 by3 zr3 rfl ?_ ?_ ?_ (fun tk => ?_))); (first | exact goodI _ | exact goodU _ | rfl | exact goodSL _ | exact goodLL _ | (focus (simp [goodL, oneA, AV.cells]; done)) | skip))
        | ((with_reducible refine (act_append 1 rfl sl24 sz3 by3 zr3 rfl ?_ ?_ ?_ (fun tk => ?_))); (first | exact goodI _ | exact goodU _ | rfl | exact goodSL _ | exact goodLL _ | (focus (simp [goodL, oneA, AV.cells]; done)) | skip))
        | ((with_reducible refine actC_mk (act_append 2 rfl sl24 sz3 by3 zr3 rfl ?_ ?_ ?_ (fun tk => ?_))); (first | exact goodI _ | exact goodU _ | rfl | exact goodSL _ | exact goodLL _ | (focus (simp [goodL, oneA, AV.cells]; done)) | skip))
        | ((with_reducible refine (act_append 2 rfl sl24 sz3 by3 zr3 rfl ?_ ?_ ?_ (fun tk => ?_))); (first | exact goodI _ | exact goodU _ | rfl | exact goodSL _ | exact goodLL _ | (focus (simp [goodL, oneA, AV.cells]; done)) | skip))
        | ((with_reducible refine wk_bslice sl24 sz3 zr3 (by decide) (by decide) (by decide) (by decide) rfl ?_ ?_ ?_); (first | exact goodI _ | exact goodU _ | rfl | exact goodSL _ | exact goodLL _ | (focus (simp [goodL, oneA, AV.cells]; done))); (all_goals first | (intro x hx; simp at hx; first | (subst hx; rfl) | (rcases hx with rfl | rfl <;> rfl) | (rcases hx with rfl | rfl | rfl <;> rfl) | (repeat (rcases hx with rfl | hx <;> try rfl))) | skip))
        | (with_reducible refine callD_mk (full1 ?_ ?_))
        | (with_reducible refine callD_mk (ends1 (by omega) (by omega) ?_))
        | (with_reducible refine callD_mk (repeat1 (by omega) ?_))
        | (with_reducible refine callD_mk (spaced1 ?_ ?_))
        | (with_reducible refine callD_mk (between1 (by omega) ?_))
        | (with_reducible refine nilTC_pos (by simp; omega) ?_)
        | (with_reducible refine nilTC_split (fun h => ?_) (fun h bn => ?_) <;> (try simp only [List.length_map] at h))
        | (with_reducible refine grd_cases (fun h => ?_) (fun h => ?_) <;> (try simp only [h]) <;> (try simp only [beq_iff_eq, beq_eq_false_iff_ne, bne_iff_ne, bne_eq_false_iff_eq, decide_eq_true_eq, decide_eq_false_iff_not, Bool.not_eq_true', Bool.not_eq_false', Bool.not_true, Bool.not_false, Bool.not_eq_eq_eq_not, ne_eq, Int.not_lt, Int.not_le, gt_iff_lt, ge_iff_le, Decidable.not_not] at h))
        | (with_reducible refine condC_split (fun h => ?_) (fun h => ?_) <;> (try simp only [h]) <;> (try simp only [beq_iff_eq, beq_eq_false_iff_ne, bne_iff_ne, bne_eq_false_iff_eq, decide_eq_true_eq, decide_eq_false_iff_not, Bool.not_eq_true', Bool.not_eq_false', Bool.not_true, Bool.not_false, Bool.not_eq_eq_eq_not, ne_eq, Int.not_lt, Int.not_le, gt_iff_lt, ge_iff_le, Decidable.not_not] at h))
        | omega | (simp only [List.length_append, List.length_map, List.length_cons, List.length_nil, List.length_drop, List.length_take, List.length_replicate]; omega) | (refine maxLen_ok ?_; (first | omega | (simp only [List.length_append, List.length_map, List.length_cons, List.length_nil, List.length_drop, List.length_take, List.length_replicate]; omega))))
      exact ⟨(k + 1, out, s, e + 1, tk), St_leW (by repeat (first | exact trivial | refine ⟨le_rfl, ?_⟩ | refine ⟨le_any, ?_⟩ | refine ⟨le_ro, ?_⟩ | refine ⟨le_nil (by decide), ?_⟩ | refine ⟨le_wrap (by omega) (by omega) (by omega), ?_⟩ | refine ⟨le_int (by omega), ?_⟩ | refine ⟨le_eq (by simp), ?_⟩)) (ResW.refl _) id, ⟨by dsimp only; omega, h2, h3, h5, by dsimp only; omega⟩, by dsimp only; omega⟩
    · rw [blkGo_cons ht] at h2 ho
      have ht2 : 0 < (l.getD k []).length := by
        rcases Nat.eq_zero_or_pos (l.getD k []).length with h | h
        · exact (ht (List.eq_nil_of_length_eq_zero h)).elim
        · exact h
      simp only [List.length_append] at ho
      cases s with
      | none =>
        obtain rfl := h3 rfl
        simp only [sep, lastV] at h2 ho ⊢
        have hc : (k + 1 : Int).toNat = k + 1 := by omega
        repeat' (first
          | simp only [WL, intF, strF, List.toList_toArray, List.set_cons_succ, List.set_cons_zero, List.getD_cons_succ, List.getD_cons_zero, List.getElem?_cons_succ, List.getElem?_cons_zero, List.length_cons, List.length_nil, List.replicate_succ, List.replicate_zero, List.cons_append, List.nil_append, List.append_nil, List.map_cons, List.map_nil, Option.bind_some, Option.map_some, Option.map_none, List.drop_succ_cons, List.drop_zero, List.take_succ_cons, List.take_zero, ← List.map_take, ← List.map_drop, List.take_length, Int.reduceToNat, ne_eq, reduceCtorEq, not_false_eq_true, Nat.reduceAdd, Nat.reduceSub, Nat.reduceLT, Nat.reduceLeDiff, Nat.reduceEqDiff, Nat.zero_lt_succ, Bool.not_true, Bool.not_false, beq_self_eq_true, true_and, and_true, Option.isSome_some, Option.isSome_none, reduceIte, Int.toNat_natCast, Bool.false_eq_true, List.length_map, Nat.le_refl, Option.some.injEq, exists_eq_left', Nat.add_right_cancel_iff, List.take_nil, List.drop_nil, T3, T4, T24, T69, cok100, cok101, cok102, cok103, cok104, Try.results69, e3]
          | (simp (disch := first | omega | (simp only [List.length_append, List.length_map, List.length_cons, List.length_nil, List.length_drop, List.length_take, List.length_replicate]; omega)) only [wrap_id, getI, getS])
          | (with_reducible refine And.intro (by first | omega | exact ⟨_, rfl⟩ | (focus (simp; done)) | (simp; omega)) ?_)
          | ((with_reducible apply wk_load (ty := 24) (ha := ag24) 0); rfl; rfl)
          | ((with_reducible apply wk_load (ty := 24) (ha := ag24) 1); rfl; rfl)
          | ((with_reducible refine actC_mk (act_append_nil (sz := 1) (by decide) ?_)))
          | ((with_reducible refine actC_mk (act_append_src_nil (sz := 1) (by decide) ?_)))
          | ((with_reducible refine actC_mk (act_append 0 rfl sl24 sz3 by3 zr3 rfl ?_ ?_ ?_ (fun tk => ?_))); (first | exact goodI _ | exact goodU _ | rfl | exact goodSL _ | exact goodLL _ | (focus (simp [goodL, oneA, AV.cells]; done)) | skip))
          | ((with_reducible refine (act_append 0 rfl sl24 sz3 by3 zr3 rfl ?_ ?_ ?_ (fun tk => ?_))); (first | exact goodI _ | exact goodU _ | rfl | exact goodSL _ | exact goodLL _ | (focus (simp [goodL, oneA, AV.cells]; done)) | skip))
          | ((with_reducible refine actC_mk (act_append 1 rfl sl24 sz3 by3 zr3 rfl ?_ ?_ ?_ (fun tk => ?_))); (first | exact goodI _ | exact goodU _ | rfl | exact goodSL _ | exact goodLL _ | (focus (simp [goodL, oneA, AV.cells]; done)) | skip))
          | ((with_reducible refine (act_append 1 rfl sl24 sz3 by3 zr3 rfl ?_ ?_ ?_ (fun tk => ?_))); (first | exact goodI _ | exact goodU _ | rfl | exact goodSL _ | exact goodLL _ | (focus (simp [goodL, oneA, AV.cells]; done)) | skip))
          | ((with_reducible refine actC_mk (act_append 2 rfl sl24 sz3 by3 zr3 rfl ?_ ?_ ?_ (fun tk => ?_))); (first | exact goodI _ | exact goodU _ | rfl | exact goodSL _ | exact goodLL _ | (focus (simp [goodL, oneA, AV.cells]; done)) | skip))
          | ((with_reducible refine (act_append 2 rfl sl24 sz3 by3 zr3 rfl ?_ ?_ ?_ (fun tk => ?_))); (first | exact goodI _ | exact goodU _ | rfl | exact goodSL _ | exact goodLL _ | (focus (simp [goodL, oneA, AV.cells]; done)) | skip))
          | ((with_reducible refine wk_bslice sl24 sz3 zr3 (by decide) (by decide) (by decide) (by decide) rfl ?_ ?_ ?_); (first | exact goodI _ | exact goodU _ | rfl | exact goodSL _ | exact goodLL _ | (focus (simp [goodL, oneA, AV.cells]; done))); (all_goals first | (intro x hx; simp at hx; first | (subst hx; rfl) | (rcases hx with rfl | rfl <;> rfl) | (rcases hx with rfl | rfl | rfl <;> rfl) | (repeat (rcases hx with rfl | hx <;> try rfl))) | skip))
          | ( refine callD_mk (repeat1o (c := 10) (by omega) (fun tk => ?_)))
          | (with_reducible refine callD_mk (full1 ?_ ?_))
          | (with_reducible refine callD_mk (ends1 (by omega) (by omega) ?_))
          | (with_reducible refine callD_mk (repeat1 (by omega) ?_))
          | (with_reducible refine callD_mk (spaced1 ?_ ?_))
          | (with_reducible refine callD_mk (between1 (by omega) ?_))
          | (with_reducible refine nilTC_pos (by simp; omega) ?_)
          | (with_reducible refine nilTC_split (fun h => ?_) (fun h bn => ?_) <;> (try simp only [List.length_map] at h))
          | (with_reducible refine grd_cases (fun h => ?_) (fun h => ?_) <;> (try simp only [h]) <;> (try simp only [beq_iff_eq, beq_eq_false_iff_ne, bne_iff_ne, bne_eq_false_iff_eq, decide_eq_true_eq, decide_eq_false_iff_not, Bool.not_eq_true', Bool.not_eq_false', Bool.not_true, Bool.not_false, Bool.not_eq_eq_eq_not, ne_eq, Int.not_lt, Int.not_le, gt_iff_lt, ge_iff_le, Decidable.not_not] at h))
          | (with_reducible refine condC_split (fun h => ?_) (fun h => ?_) <;> (try simp only [h]) <;> (try simp only [beq_iff_eq, beq_eq_false_iff_ne, bne_iff_ne, bne_eq_false_iff_eq, decide_eq_true_eq, decide_eq_false_iff_not, Bool.not_eq_true', Bool.not_eq_false', Bool.not_true, Bool.not_false, Bool.not_eq_eq_eq_not, ne_eq, Int.not_lt, Int.not_le, gt_iff_lt, ge_iff_le, Decidable.not_not] at h))
          | omega | (simp only [List.length_append, List.length_map, List.length_cons, List.length_nil, List.length_drop, List.length_take, List.length_replicate]; omega) | (refine maxLen_ok ?_; (first | omega | (simp only [List.length_append, List.length_map, List.length_cons, List.length_nil, List.length_drop, List.length_take, List.length_replicate]; omega))))
        exact ⟨(k + 1, List.replicate e 10 ++ l.getD k [], some (l.getD k []), 0, _), St_leW (by simp only [lastV]; repeat (first | exact trivial | refine ⟨le_rfl, ?_⟩ | refine ⟨le_any, ?_⟩ | refine ⟨le_ro, ?_⟩ | refine ⟨le_nil (by decide), ?_⟩ | refine ⟨le_wrap (by omega) (by omega) (by omega), ?_⟩ | refine ⟨le_int (by omega), ?_⟩ | refine ⟨le_eq (by simp), ?_⟩)) (ResW.cons _ (ResW.sub (List.sublist_cons_self _ _))) id, ⟨by dsimp only; omega, by rw [h2]; simp, fun h => (by cases h), fun t h => (by cases h; exact ⟨ht2, e2⟩), by dsimp only; omega⟩, by dsimp only; omega⟩
      | some t =>
        obtain ⟨h7, h8⟩ := h5 t rfl
        have ne1 : ((e : Int) + 1) = ((e + 1 : Nat) : Int) := by omega
        have hs := sep_len (some t) e (l.getD k [])
        simp only [sep] at h2 ho hs
        simp only [lastV]
        repeat' (first
          | simp only [WL, intF, strF, List.toList_toArray, List.set_cons_succ, List.set_cons_zero, List.getD_cons_succ, List.getD_cons_zero, List.getElem?_cons_succ, List.getElem?_cons_zero, List.length_cons, List.length_nil, List.replicate_succ, List.replicate_zero, List.cons_append, List.nil_append, List.append_nil, List.map_cons, List.map_nil, Option.bind_some, Option.map_some, Option.map_none, List.drop_succ_cons, List.drop_zero, List.take_succ_cons, List.take_zero, ← List.map_take, ← List.map_drop, List.take_length, Int.reduceToNat, ne_eq, reduceCtorEq, not_false_eq_true, Nat.reduceAdd, Nat.reduceSub, Nat.reduceLT, Nat.reduceLeDiff, Nat.reduceEqDiff, Nat.zero_lt_succ, Bool.not_true, Bool.not_false, beq_self_eq_true, true_and, and_true, Option.isSome_some, Option.isSome_none, reduceIte, Int.toNat_natCast, Bool.false_eq_true, List.length_map, Nat.le_refl, Option.some.injEq, exists_eq_left', Nat.add_right_cancel_iff, List.take_nil, List.drop_nil, T3, T4, T24, T69, cok100, cok101, cok102, cok103, cok104, Try.results69, e3, ne1]
          | (simp (disch := first | omega | (simp only [List.length_append, List.length_map, List.length_cons, List.length_nil, List.length_drop, List.length_take, List.length_replicate]; omega)) only [wrap_id, getI, getS])
          | (with_reducible refine And.intro (by first | omega | exact ⟨_, rfl⟩ | (focus (simp; done)) | (simp; omega)) ?_)
          | ((with_reducible apply wk_load (ty := 24) (ha := ag24) 0); rfl; rfl)
          | ((with_reducible apply wk_load (ty := 24) (ha := ag24) 1); rfl; rfl)
          | ((with_reducible refine actC_mk (act_append_nil (sz := 1) (by decide) ?_)))
          | ((with_reducible refine actC_mk (act_append_src_nil (sz := 1) (by decide) ?_)))
          | ((with_reducible refine actC_mk (act_append 0 rfl sl24 sz3 by3 zr3 rfl ?_ ?_ ?_ (fun tk => ?_))); (first | exact goodI _ | exact goodU _ | rfl | exact goodSL _ | exact goodLL _ | (focus (simp [goodL, oneA, AV.cells]; done)) | skip))
          | ((with_reducible refine (act_append 0 rfl sl24 sz3 by3 zr3 rfl ?_ ?_ ?_ (fun tk => ?_))); (first | exact goodI _ | exact goodU _ | rfl | exact goodSL _ | exact goodLL _ | (focus (simp [goodL, oneA, AV.cells]; done)) | skip))
          | ((with_reducible refine actC_mk (act_append 1 rfl sl24 sz3 by3 zr3 rfl ?_ ?_ ?_ (fun tk => ?_))); (first | exact goodI _ | exact goodU _ | rfl | exact goodSL _ | exact goodLL _ | (focus (simp [goodL, oneA, AV.cells]; done)) | skip))
          | ((with_reducible refine (act_append 1 rfl sl24 sz3 by3 zr3 rfl ?_ ?_ ?_ (fun tk => ?_))); (first | exact goodI _ | exact goodU _ | rfl | exact goodSL _ | exact goodLL _ | (focus (simp [goodL, oneA, AV.cells]; done)) | skip))
          | ((with_reducible refine actC_mk (act_append 2 rfl sl24 sz3 by3 zr3 rfl ?_ ?_ ?_ (fun tk => ?_))); (first | exact goodI _ | exact goodU _ | rfl | exact goodSL _ | exact goodLL _ | (focus (simp [goodL, oneA, AV.cells]; done)) | skip))
          | ((with_reducible refine (act_append 2 rfl sl24 sz3 by3 zr3 rfl ?_ ?_ ?_ (fun tk => ?_))); (first | exact goodI _ | exact goodU _ | rfl | exact goodSL _ | exact goodLL _ | (focus (simp [goodL, oneA, AV.cells]; done)) | skip))
          | ((with_reducible refine wk_bslice sl24 sz3 zr3 (by decide) (by decide) (by decide) (by decide) rfl ?_ ?_ ?_); (first | exact goodI _ | exact goodU _ | rfl | exact goodSL _ | exact goodLL _ | (focus (simp [goodL, oneA, AV.cells]; done))); (all_goals first | (intro x hx; simp at hx; first | (subst hx; rfl) | (rcases hx with rfl | rfl <;> rfl) | (rcases hx with rfl | rfl | rfl <;> rfl) | (repeat (rcases hx with rfl | hx <;> try rfl))) | skip))
          | (with_reducible refine callD_mk (full1 ?_ ?_))
          | (with_reducible refine callD_mk (ends1 (by omega) (by omega) ?_))
          | (with_reducible refine callD_mk (repeat1 (by omega) ?_))
          | (with_reducible refine callD_mk (spaced1 ?_ ?_))
          | (with_reducible refine callD_mk (between1 (by omega) ?_))
          | (with_reducible refine nilTC_pos (by simp; omega) ?_)
          | (with_reducible refine nilTC_split (fun h => ?_) (fun h bn => ?_) <;> (try simp only [List.length_map] at h))
          | (with_reducible refine grd_cases (fun h => ?_) (fun h => ?_) <;> (try simp only [h]) <;> (try simp only [beq_iff_eq, beq_eq_false_iff_ne, bne_iff_ne, bne_eq_false_iff_eq, decide_eq_true_eq, decide_eq_false_iff_not, Bool.not_eq_true', Bool.not_eq_false', Bool.not_true, Bool.not_false, Bool.not_eq_eq_eq_not, ne_eq, Int.not_lt, Int.not_le, gt_iff_lt, ge_iff_le, Decidable.not_not] at h))
          | (with_reducible refine condC_split (fun h => ?_) (fun h => ?_) <;> (try simp only [h]) <;> (try simp only [beq_iff_eq, beq_eq_false_iff_ne, bne_iff_ne, bne_eq_false_iff_eq, decide_eq_true_eq, decide_eq_false_iff_not, Bool.not_eq_true', Bool.not_eq_false', Bool.not_true, Bool.not_false, Bool.not_eq_eq_eq_not, ne_eq, Int.not_lt, Int.not_le, gt_iff_lt, ge_iff_le, Decidable.not_not] at h))
          | omega | (simp only [List.length_append, List.length_map, List.length_cons, List.length_nil, List.length_drop, List.length_take, List.length_replicate]; omega) | (refine maxLen_ok ?_; (first | omega | (simp only [List.length_append, List.length_map, List.length_cons, List.length_nil, List.length_drop, List.length_take, List.length_replicate]; omega))))
        · rw [if_pos (by simp only [*, Bool.or_true, Bool.true_or])] at h2
          exact ⟨(k + 1, out ++ (between (e + 1) ++ l.getD k []), some (l.getD k []), 0, _), St_leW (by simp only [lastV]; repeat (first | exact trivial | refine ⟨le_rfl, ?_⟩ | refine ⟨le_any, ?_⟩ | refine ⟨le_ro, ?_⟩ | refine ⟨le_nil (by decide), ?_⟩ | refine ⟨le_wrap (by omega) (by omega) (by omega), ?_⟩ | refine ⟨le_int (by omega), ?_⟩ | refine ⟨le_eq (by simp), ?_⟩)) (ResW.refl _) id, ⟨by dsimp only; omega, by rw [h2]; simp only [List.append_assoc], fun h => (by cases h), fun t h => (by cases h; exact ⟨ht2, e2⟩), by dsimp only; omega⟩, by dsimp only; omega⟩
        · rw [if_neg (by simp only [*, Bool.or_self]; decide)] at h2
          exact ⟨(k + 1, out ++ (between e ++ l.getD k []), some (l.getD k []), 0, _), St_leW (by simp only [lastV]; repeat (first | exact trivial | refine ⟨le_rfl, ?_⟩ | refine ⟨le_any, ?_⟩ | refine ⟨le_ro, ?_⟩ | refine ⟨le_nil (by decide), ?_⟩ | refine ⟨le_wrap (by omega) (by omega) (by omega), ?_⟩ | refine ⟨le_int (by omega), ?_⟩ | refine ⟨le_eq (by simp), ?_⟩)) (ResW.refl _) id, ⟨by dsimp only; omega, by rw [h2]; simp only [List.append_assoc], fun h => (by cases h), fun t h => (by cases h; exact ⟨ht2, e2⟩), by dsimp only; omega⟩, by dsimp only; omega⟩
        · rw [if_pos (by simp only [*, Bool.or_true, Bool.true_or])] at h2
          exact ⟨(k + 1, out ++ (between (e + 1) ++ l.getD k []), some (l.getD k []), 0, _), St_leW (by simp only [lastV]; repeat (first | exact trivial | refine ⟨le_rfl, ?_⟩ | refine ⟨le_any, ?_⟩ | refine ⟨le_ro, ?_⟩ | refine ⟨le_nil (by decide), ?_⟩ | refine ⟨le_wrap (by omega) (by omega) (by omega), ?_⟩ | refine ⟨le_int (by omega), ?_⟩ | refine ⟨le_eq (by simp), ?_⟩)) (ResW.refl _) id, ⟨by dsimp only; omega, by rw [h2]; simp only [List.append_assoc], fun h => (by cases h), fun t h => (by cases h; exact ⟨ht2, e2⟩), by dsimp only; omega⟩, by dsimp only; omega⟩
  · rw [List.drop_eq_nil_of_le (by simp; omega)] at h2
    have e4 : ∀ s e, blkGo s e [] = [] := fun s e => rfl
    rw [e4, List.append_nil] at h2
    repeat' (first
      | simp only [WL, intF, strF, List.toList_toArray, List.set_cons_succ, List.set_cons_zero, List.getD_cons_succ, List.getD_cons_zero, List.getElem?_cons_succ, List.getElem?_cons_zero, List.length_cons, List.length_nil, List.replicate_succ, List.replicate_zero, List.cons_append, List.nil_append, List.append_nil, List.map_cons, List.map_nil, Option.bind_some, Option.map_some, Option.map_none, List.drop_succ_cons, List.drop_zero, List.take_succ_cons, List.take_zero, ← List.map_take, ← List.map_drop, List.take_length, Int.reduceToNat, ne_eq, reduceCtorEq, not_false_eq_true, Nat.reduceAdd, Nat.reduceSub, Nat.reduceLT, Nat.reduceLeDiff, Nat.reduceEqDiff, Nat.zero_lt_succ, Bool.not_true, Bool.not_false, beq_self_eq_true, true_and, and_true, Option.isSome_some, Option.isSome_none, reduceIte, Int.toNat_natCast, Bool.false_eq_true, List.length_map, Nat.le_refl, Option.some.injEq, exists_eq_left', Nat.add_right_cancel_iff, List.take_nil, List.drop_nil, T3, T4, T24, T69, cok100, cok101, cok102, cok103, cok104, Try.results69]
      | (simp (disch := first | omega | (simp only [List.length_append, List.length_map, List.length_cons, List.length_nil, List.length_drop, List.length_take, List.length_replicate]; omega)) only [wrap_id, getI])
      | (with_reducible refine And.intro (by first | omega | exact ⟨_, rfl⟩ | (focus (simp; done)) | (simp; omega)) ?_)
      | ((with_reducible apply wk_load (ty := 24) (ha := ag24) 0); rfl; rfl)
      | ((with_reducible apply wk_load (ty := 24) (ha := ag24) 1); rfl; rfl)
      | ((with_reducible refine actC_mk (act_append_nil (sz := 1) (by decide) ?_)))
      | ((with_reducible refine actC_mk (act_append_src_nil (sz := 1) (by decide) ?_)))
      | ((with_reducible refine actC_mk (act_append 0 rfl sl24 sz3 by3 zr3 rfl ?_ ?_ ?_ (fun tk => ?_))); (first | exact goodI _ | exact goodU _ | rfl | exact goodSL _ | exact goodLL _ | (focus (simp [goodL, oneA, AV.cells]; done)) | skip))
      | ((with_reducible refine (act_append 0 rfl sl24 sz3 by3 zr3 rfl ?_ ?_ ?_ (fun tk => ?_))); (first | exact goodI _ | exact goodU _ | rfl | exact goodSL _ | exact goodLL _ | (focus (simp [goodL, oneA, AV.cells]; done)) | skip))
      | ((with_reducible refine actC_mk (act_append 1 rfl sl24 sz3 by3 zr3 rfl ?_ ?_ ?_ (fun tk => ?_))); (first | exact goodI _ | exact goodU _ | rfl | exact goodSL _ | exact goodLL _ | (focus (simp [goodL, oneA, AV.cells]; done)) | skip))
      | ((with_reducible refine (act_append 1 rfl sl24 sz3 by3 zr3 rfl ?_ ?_ ?_ (fun tk => ?_))); (first | exact goodI _ | exact goodU _ | rfl | exact goodSL _ | exact goodLL _ | (focus (simp [goodL, oneA, AV.cells]; done)) | skip))
      | ((with_reducible refine actC_mk (act_append 2 rfl sl24 sz3 by3 zr3 rfl ?_ ?_ ?_ (fun tk => ?_))); (first | exact goodI _ | exact goodU _ | rfl | exact goodSL _ | exact goodLL _ | (focus (simp [goodL, oneA, AV.cells]; done)) | skip))
      | ((with_reducible refine (act_append 2 rfl sl24 sz3 by3 zr3 rfl ?_ ?_ ?_ (fun tk => ?_))); (first | exact goodI _ | exact goodU _ | rfl | exact goodSL _ | exact goodLL _ | (focus (simp [goodL, oneA, AV.cells]; done)) | skip))
      | ((with_reducible refine wk_bslice sl24 sz3 zr3 (by decide) (by decide) (by decide) (by decide) rfl ?_ ?_ ?_); (first | exact goodI _ | exact goodU _ | rfl | exact goodSL _ | exact goodLL _ | (focus (simp [goodL, oneA, AV.cells]; done))); (all_goals first | (intro x hx; simp at hx; first | (subst hx; rfl) | (rcases hx with rfl | rfl <;> rfl) | (rcases hx with rfl | rfl | rfl <;> rfl) | (repeat (rcases hx with rfl | hx <;> try rfl))) | skip))
      | (with_reducible refine callD_mk (full1 ?_ ?_))
      | (with_reducible refine callD_mk (ends1 (by omega) (by omega) ?_))
      | (with_reducible refine callD_mk (repeat1 (by omega) ?_))
      | (with_reducible refine callD_mk (spaced1 ?_ ?_))
      | (with_reducible refine callD_mk (between1 (by omega) ?_))
      | (with_reducible refine nilTC_pos (by simp; omega) ?_)
      | (with_reducible refine nilTC_split (fun h => ?_) (fun h bn => ?_) <;> (try simp only [List.length_map] at h))
      | (with_reducible refine grd_cases (fun h => ?_) (fun h => ?_) <;> (try simp only [h]) <;> (try simp only [beq_iff_eq, beq_eq_false_iff_ne, bne_iff_ne, bne_eq_false_iff_eq, decide_eq_true_eq, decide_eq_false_iff_not, Bool.not_eq_true', Bool.not_eq_false', Bool.not_true, Bool.not_false, Bool.not_eq_eq_eq_not, ne_eq, Int.not_lt, Int.not_le, gt_iff_lt, ge_iff_le, Decidable.not_not] at h))
      | (with_reducible refine condC_split (fun h => ?_) (fun h => ?_) <;> (try simp only [h]) <;> (try simp only [beq_iff_eq, beq_eq_false_iff_ne, bne_iff_ne, bne_eq_false_iff_eq, decide_eq_true_eq, decide_eq_false_iff_not, Bool.not_eq_true', Bool.not_eq_false', Bool.not_true, Bool.not_false, Bool.not_eq_eq_eq_not, ne_eq, Int.not_lt, Int.not_le, gt_iff_lt, ge_iff_le, Decidable.not_not] at h))
      | omega | (simp only [List.length_append, List.length_map, List.length_cons, List.length_nil, List.length_drop, List.length_take, List.length_replicate]; omega) | (refine maxLen_ok ?_; (first | omega | (simp only [List.length_append, List.length_map, List.length_cons, List.length_nil, List.length_drop, List.length_take, List.length_replicate]; omega))))
    exact leafL (sub_cons sub_rfl) (leT_le (by rw [blkF, h2]; simp only [SI, List.map_append]; exact le_ro)) hK

end Go.Proofs.Ytaeacialcbahnaa
