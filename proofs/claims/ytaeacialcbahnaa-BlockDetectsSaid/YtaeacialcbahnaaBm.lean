/-
  Walks: chapter 10, the text of lines.
-/
import Derived.Test.YtaeacialcbahnaaBl
namespace Go.Proofs.Ytaeacialcbahnaa
open Go.Abs
set_option linter.unusedVariables false
set_option linter.unusedSimpArgs false
-- hb: 8000000
variable {κ : Ctx} {σ : List Res} {K : Ret → List Res → Prop} {o o' : Option (Option (Nat × Nat))}

set_option maxHeartbeats 8000000 in
theorem markerI_ge (n : Int) (t : List Int) : 0 ≤ markerI n t := by unfold markerI; (repeat' split) <;> omega

-- block.rows
set_option maxHeartbeats 8000000 in
theorem bRows {l : List Ln} {d : Int} (hK : ∀ b1 b2, K (.ret (.raw (.func (.func 98) #[] #[.pointer (some ⟨b1, 0, none⟩), .pointer (some ⟨b2, 0, none⟩)]))) (.obj b2 [I d] :: .obj b1 [SL o l] :: σ)) : ACallF κ Try.prog 67 [SL o l, I d] σ K := by
  refine ACallF.dropL (ACallF_intro Try.func67 rfl ?_)
  simp only [Try.ntmps67]
  repeat' (first
    | simp only [WL, intF, strF, WM, Int.reduceToNat, ne_eq, reduceCtorEq, not_false_eq_true, Nat.reduceAdd, Nat.reduceSub, Nat.reduceLT, Nat.reduceLeDiff, Nat.reduceEqDiff, Bool.not_true, Bool.not_false, beq_self_eq_true, true_and, and_true, reduceIte, Bool.false_eq_true, T3, T24, T59, T71, T93, cok98, Try.results67]
    | simp (disch := first | omega | (simp only [LN_]; omega)) only [wrap_id, getI]
    | with_reducible first | refine andA (hb := ?_) | refine y_box (hK := fun b => ?_) | refine y_new (hK := fun b => ?_)
    | ((with_reducible first | refine grd_cases (fun h => ?_) (fun h => ?_) | refine condC_split (fun h => ?_) (fun h => ?_)) <;> (try simp only [h]) <;> (try simp only [NR_, Bool.not_true, Bool.not_false, Bool.not_eq_eq_eq_not, ne_eq] at h))
    | omega | (simp only [LN_]; omega))
  exact leafL sub_rfl (leT_eq rfl) (hK _ _)

-- block.rows$1
set_option maxHeartbeats 8000000 in
theorem bRowsIt {b1 b2 L : Nat} {l : List Ln} {d : Int} (hl : l.length ≤ 1000000000) (ht : ∀ x ∈ l, x.2.length ≤ 1000000000 ∧ -1000000000000000 ≤ x.1 - d ∧ x.1 - d ≤ 1000000) (hI : Iter κ Try.prog L K ((rowsB d l).map fun t => [SI none t]) σ) :
    ACallF κ Try.prog 98 [.raw (.func (.yield L) #[] #[]), .raw (.pointer (some ⟨b1, 0, none⟩)), .raw (.pointer (some ⟨b2, 0, none⟩))] (.obj b2 [I d] :: .obj b1 [SL o l] :: σ) K := by
  refine ACallF.dropL (ACallF_intro Try.func98 rfl ?_)
  simp only [Try.ntmps98]
  repeat' (first
    | simp only [WL, intF, strF, WM, Int.reduceToNat, ne_eq, reduceCtorEq, not_false_eq_true, Nat.reduceAdd, Nat.reduceSub, Nat.reduceLT, Nat.reduceLeDiff, Nat.reduceEqDiff, Bool.not_true, Bool.not_false, beq_self_eq_true, true_and, and_true, reduceIte, Bool.false_eq_true, T3, T4, T24, T35, T59, T71, fC fl71_0, fR fl71_0, cok96, cok97, cok99, Try.results98]
    | simp (disch := first | omega | (simp only [LN_]; omega)) only [wrap_id, getI]
    | with_reducible first | refine andA (hb := ?_) | refine y_load (hK := ?_) | refine y_loadA (hK := ?_) | refine y_storeA (hK := ?_) | refine y_box (hK := fun b => ?_) | refine y_new (hK := fun b => ?_) | refine cD (bVoid ?_) | refine cD (lMarker ?_ ?_) | refine cD (bContent ?_ ?_ ?_)
    | with_reducible refine y_nil (hK := ?_)
    | (with_reducible refine nilTC_split (fun h => ?_) (fun h bn => ?_) <;> (try simp only [List.length_map] at h))
    | ((with_reducible first | refine grd_cases (fun h => ?_) (fun h => ?_) | refine condC_split (fun h => ?_) (fun h => ?_)) <;> (try simp only [h]) <;> (try simp only [NR_, Bool.not_true, Bool.not_false, Bool.not_eq_eq_eq_not, ne_eq] at h))
    | omega | (simp only [LN_]; omega))
  refine loop_by (fun x : Nat × List Res => ⟨(.raw (.func (.yield L) #[] #[]) :: .raw (.pointer (some ⟨b1, 0, none⟩)) :: .raw (.pointer (some ⟨b2, 0, none⟩)) :: .any :: .any :: .any :: SL o l :: I l.length :: I x.1 :: .any :: .any :: .any :: .any :: .any :: .any :: .any :: .any :: .any :: .any :: .any :: .any :: .any :: .any :: .any :: .any :: .any :: .any :: .any :: .any :: .any :: .any :: .any :: .any :: .any :: .any :: []), .obj b2 [I d] :: .obj b1 [SL o l] :: x.2, true, []⟩) (fun x => x.1 ≤ l.length ∧ Iter κ Try.prog L K ((rowsB d (l.drop x.1)).map fun t => [SI none t]) x.2) (fun x => l.length - x.1) (0, σ) (St_le_same (by repeat (first | exact trivial | refine ⟨le_rfl, ?_⟩ | refine ⟨le_any, ?_⟩ | refine ⟨le_ro, ?_⟩ | refine ⟨le_nil (by decide), ?_⟩ | refine ⟨le_wrap (by omega) (by omega) (by omega), ?_⟩ | refine ⟨le_int (by omega), ?_⟩ | refine ⟨le_eq (by simp), ?_⟩)) id) ⟨Nat.zero_le _, hI⟩ ?_
  rintro ⟨k, σ'⟩ hx
  dsimp only at hx ⊢
  have h1 := hx.1
  have h2 := hx.2
  rcases Nat.lt_or_ge k l.length with hk | hk
  · have hmem : l.getD k (0, []) ∈ l := by rw [List.getD_eq_getElem?_getD, List.getElem?_eq_getElem hk]; exact List.getElem_mem hk
    have htk := ht _ hmem
    cases ho : overB d (l.getD k (0, []))
    · have hnm : markerI (l.getD k (0, [])).1 (l.getD k (0, [])).2 = 0 := by
        unfold overB at ho
        have := of_decide_eq_false ho
        omega
      have hnv : (l.getD k (0, [])).2.length = 0 ∨ d ≤ (l.getD k (0, [])).1 := by
        unfold overB at ho
        have h9 := of_decide_eq_false ho
        by_cases he : (l.getD k (0, [])).2 = []
        · exact .inl (by rw [he]; rfl)
        · refine .inr ?_
          rcases Int.lt_or_le (l.getD k (0, [])).1 d with h8 | h8
          · exact absurd (.inl ⟨he, h8⟩) h9
          · exact h8
      rw [rows_take hk ho] at h2
      repeat' (first
        | simp only [WL, intF, strF, WM, Int.reduceToNat, ne_eq, reduceCtorEq, not_false_eq_true, Nat.reduceAdd, Nat.reduceSub, Nat.reduceLT, Nat.reduceLeDiff, Nat.reduceEqDiff, Bool.not_true, Bool.not_false, beq_self_eq_true, true_and, and_true, reduceIte, Bool.false_eq_true, T3, T4, T24, T35, T59, T71, fC fl71_0, fR fl71_0, cok96, cok97, cok99, Try.results98, hnm]
        | simp (disch := first | omega | (simp only [LN_]; omega)) only [wrap_id, getI, getL]
        | with_reducible first | refine andA (hb := ?_) | refine y_load (hK := ?_) | refine y_loadA (hK := ?_) | refine y_storeA (hK := ?_) | refine y_box (hK := fun b => ?_) | refine y_new (hK := fun b => ?_) | refine cD (bVoid ?_) | refine cD (lMarker ?_ ?_) | refine cD (bContent ?_ ?_ ?_)
        | with_reducible refine y_nil (hK := ?_)
        | (with_reducible refine nilTC_split (fun h => ?_) (fun h bn => ?_) <;> (try simp only [List.length_map] at h))
        | ((with_reducible first | refine grd_cases (fun h => ?_) (fun h => ?_) | refine condC_split (fun h => ?_) (fun h => ?_)) <;> (try simp only [h]) <;> (try simp only [NR_, Bool.not_true, Bool.not_false, Bool.not_eq_eq_eq_not, ne_eq] at h))
        | omega | (simp only [LN_]; omega))
      all_goals first
        | (rename_i h; exact absurd trivial h)
        | skip
      all_goals
        refine callYD_iter [.obj b [I (l.getD k (0, [])).1, SI none (l.getD k (0, [])).2], .obj b2 [I d], .obj b1 [SL o l]] (leL_one le_rfl) h2 (fun σ3 h => ?_) (fun σ3 h => ?_) (fun c σ3 h => ?_)
        · skip
          repeat' (first
            | simp only [WL, intF, strF, WM, Int.reduceToNat, ne_eq, reduceCtorEq, not_false_eq_true, Nat.reduceAdd, Nat.reduceSub, Nat.reduceLT, Nat.reduceLeDiff, Nat.reduceEqDiff, Bool.not_true, Bool.not_false, beq_self_eq_true, true_and, and_true, reduceIte, Bool.false_eq_true, T3, T4, T24, T35, T59, T71, fC fl71_0, fR fl71_0, cok96, cok97, cok99, Try.results98]
            | simp (disch := first | omega | (simp only [LN_]; omega)) only [wrap_id, getI]
            | with_reducible first | refine andA (hb := ?_) | refine y_load (hK := ?_) | refine y_loadA (hK := ?_) | refine y_storeA (hK := ?_) | refine y_box (hK := fun b => ?_) | refine y_new (hK := fun b => ?_) | refine cD (bVoid ?_) | refine cD (lMarker ?_ ?_) | refine cD (bContent ?_ ?_ ?_)
            | with_reducible refine y_nil (hK := ?_)
            | (with_reducible refine nilTC_split (fun h => ?_) (fun h bn => ?_) <;> (try simp only [List.length_map] at h))
            | ((with_reducible first | refine grd_cases (fun h => ?_) (fun h => ?_) | refine condC_split (fun h => ?_) (fun h => ?_)) <;> (try simp only [h]) <;> (try simp only [NR_, Bool.not_true, Bool.not_false, Bool.not_eq_eq_eq_not, ne_eq] at h))
            | omega | (simp only [LN_]; omega))
          exact ⟨(k + 1, σ3), St_leW (by repeat (first | exact trivial | refine ⟨le_rfl, ?_⟩ | refine ⟨le_any, ?_⟩ | refine ⟨le_ro, ?_⟩ | refine ⟨le_nil (by decide), ?_⟩ | refine ⟨le_wrap (by omega) (by omega) (by omega), ?_⟩ | refine ⟨le_int (by omega), ?_⟩ | refine ⟨le_eq (by simp), ?_⟩)) (ResW.sub (List.sublist_cons_self _ _)) id, ⟨by dsimp only; omega, h⟩, by dsimp only; omega⟩
        · skip
          repeat' (first
            | simp only [WL, intF, strF, WM, Int.reduceToNat, ne_eq, reduceCtorEq, not_false_eq_true, Nat.reduceAdd, Nat.reduceSub, Nat.reduceLT, Nat.reduceLeDiff, Nat.reduceEqDiff, Bool.not_true, Bool.not_false, beq_self_eq_true, true_and, and_true, reduceIte, Bool.false_eq_true, T3, T4, T24, T35, T59, T71, fC fl71_0, fR fl71_0, cok96, cok97, cok99, Try.results98]
            | simp (disch := first | omega | (simp only [LN_]; omega)) only [wrap_id, getI]
            | with_reducible first | refine andA (hb := ?_) | refine y_load (hK := ?_) | refine y_loadA (hK := ?_) | refine y_storeA (hK := ?_) | refine y_box (hK := fun b => ?_) | refine y_new (hK := fun b => ?_) | refine cD (bVoid ?_) | refine cD (lMarker ?_ ?_) | refine cD (bContent ?_ ?_ ?_)
            | with_reducible refine y_nil (hK := ?_)
            | (with_reducible refine nilTC_split (fun h => ?_) (fun h bn => ?_) <;> (try simp only [List.length_map] at h))
            | ((with_reducible first | refine grd_cases (fun h => ?_) (fun h => ?_) | refine condC_split (fun h => ?_) (fun h => ?_)) <;> (try simp only [h]) <;> (try simp only [NR_, Bool.not_true, Bool.not_false, Bool.not_eq_eq_eq_not, ne_eq] at h))
            | omega | (simp only [LN_]; omega))
          exact leafL (sub_cons (sub_cons (sub_cons sub_rfl))) (leT_eq rfl) h
        · skip
          repeat' (first
            | simp only [WL, intF, strF, WM, Int.reduceToNat, ne_eq, reduceCtorEq, not_false_eq_true, Nat.reduceAdd, Nat.reduceSub, Nat.reduceLT, Nat.reduceLeDiff, Nat.reduceEqDiff, Bool.not_true, Bool.not_false, beq_self_eq_true, true_and, and_true, reduceIte, Bool.false_eq_true, T3, T4, T24, T35, T59, T71, fC fl71_0, fR fl71_0, cok96, cok97, cok99, Try.results98]
            | simp (disch := first | omega | (simp only [LN_]; omega)) only [wrap_id, getI]
            | with_reducible first | refine andA (hb := ?_) | refine y_load (hK := ?_) | refine y_loadA (hK := ?_) | refine y_storeA (hK := ?_) | refine y_box (hK := fun b => ?_) | refine y_new (hK := fun b => ?_) | refine cD (bVoid ?_) | refine cD (lMarker ?_ ?_) | refine cD (bContent ?_ ?_ ?_)
            | with_reducible refine y_nil (hK := ?_)
            | (with_reducible refine nilTC_split (fun h => ?_) (fun h bn => ?_) <;> (try simp only [List.length_map] at h))
            | ((with_reducible first | refine grd_cases (fun h => ?_) (fun h => ?_) | refine condC_split (fun h => ?_) (fun h => ?_)) <;> (try simp only [h]) <;> (try simp only [NR_, Bool.not_true, Bool.not_false, Bool.not_eq_eq_eq_not, ne_eq] at h))
            | omega | (simp only [LN_]; omega))
          exact leafP (sub_cons (sub_cons (sub_cons sub_rfl))) rfl h
    · rw [rows_over hk ho] at h2
      repeat' (first
        | simp only [WL, intF, strF, WM, Int.reduceToNat, ne_eq, reduceCtorEq, not_false_eq_true, Nat.reduceAdd, Nat.reduceSub, Nat.reduceLT, Nat.reduceLeDiff, Nat.reduceEqDiff, Bool.not_true, Bool.not_false, beq_self_eq_true, true_and, and_true, reduceIte, Bool.false_eq_true, T3, T4, T24, T35, T59, T71, fC fl71_0, fR fl71_0, cok96, cok97, cok99, Try.results98]
        | simp (disch := first | omega | (simp only [LN_]; omega)) only [wrap_id, getI, getL]
        | with_reducible first | refine andA (hb := ?_) | refine y_load (hK := ?_) | refine y_loadA (hK := ?_) | refine y_storeA (hK := ?_) | refine y_box (hK := fun b => ?_) | refine y_new (hK := fun b => ?_) | refine cD (bVoid ?_) | refine cD (lMarker ?_ ?_) | refine cD (bContent ?_ ?_ ?_)
        | with_reducible refine y_nil (hK := ?_)
        | (with_reducible refine nilTC_split (fun h => ?_) (fun h bn => ?_) <;> (try simp only [List.length_map] at h))
        | ((with_reducible first | refine grd_cases (fun h => ?_) (fun h => ?_) | refine condC_split (fun h => ?_) (fun h => ?_)) <;> (try simp only [h]) <;> (try simp only [NR_, Bool.not_true, Bool.not_false, Bool.not_eq_eq_eq_not, ne_eq] at h))
        | omega | (simp only [LN_]; omega))
      all_goals first
        | exact leafL (sub_cons (sub_cons (sub_cons sub_rfl))) (leT_eq rfl) h2
        | exact absurd ho (by rw [over_no (by first | exact .inl (by omega) | exact .inr (by omega)) (by assumption)]; decide)
  · rw [rows_end hk] at h2
    repeat' (first
      | simp only [WL, intF, strF, WM, Int.reduceToNat, ne_eq, reduceCtorEq, not_false_eq_true, Nat.reduceAdd, Nat.reduceSub, Nat.reduceLT, Nat.reduceLeDiff, Nat.reduceEqDiff, Bool.not_true, Bool.not_false, beq_self_eq_true, true_and, and_true, reduceIte, Bool.false_eq_true, T3, T4, T24, T35, T59, T71, fC fl71_0, fR fl71_0, cok96, cok97, cok99, Try.results98]
      | simp (disch := first | omega | (simp only [LN_]; omega)) only [wrap_id, getI]
      | with_reducible first | refine andA (hb := ?_) | refine y_load (hK := ?_) | refine y_loadA (hK := ?_) | refine y_storeA (hK := ?_) | refine y_box (hK := fun b => ?_) | refine y_new (hK := fun b => ?_) | refine cD (bVoid ?_) | refine cD (lMarker ?_ ?_) | refine cD (bContent ?_ ?_ ?_)
      | with_reducible refine y_nil (hK := ?_)
      | (with_reducible refine nilTC_split (fun h => ?_) (fun h bn => ?_) <;> (try simp only [List.length_map] at h))
      | ((with_reducible first | refine grd_cases (fun h => ?_) (fun h => ?_) | refine condC_split (fun h => ?_) (fun h => ?_)) <;> (try simp only [h]) <;> (try simp only [NR_, Bool.not_true, Bool.not_false, Bool.not_eq_eq_eq_not, ne_eq] at h))
      | omega | (simp only [LN_]; omega))
    exact leafL (sub_cons (sub_cons sub_rfl)) (leT_eq rfl) h2

-- marginaliaref1.detect
set_option maxHeartbeats 8000000 in
theorem rDetect {l : List Ln} {n : Int} (hl : l.length ≤ 1000000000) (ht : ∀ x ∈ l, x.2.length ≤ 1000000000) (hn : -1 ≤ n ∧ n ≤ 1099511627776) (hK : K (.ret (.tup [I (indI l 0 n).1, I (indI l 0 n).2])) σ) : ACallF κ Try.prog 71 [SL o l, I n] σ K := by
  refine ACallF.dropL (ACallF_introA Try.func71 rfl ?_)
  simp only [Try.ntmps71]
  repeat' (first
    | with_reducible first | refine AW_seqA (AW_block ?_) | refine AW_block ?_ | refine cut_seqloop ?_ | refine cut_loop ?_ | refine AW_seqA (AW_seqA ?_) | refine AW_seq ?_ | refine AW_runReg ?_ | refine AW_runCond ?_ | refine AW_runExit ?_ | refine AW_runRet ?_ | refine AW_runSkip ?_ | refine AW_runLabel ?_
    | simp only [WL, intF, strF, WM, Int.reduceToNat, ne_eq, reduceCtorEq, not_false_eq_true, Nat.reduceAdd, Nat.reduceSub, Nat.reduceLT, Nat.reduceLeDiff, Nat.reduceEqDiff, Bool.not_true, Bool.not_false, beq_self_eq_true, true_and, and_true, reduceIte, Bool.false_eq_true, T3, T4, T24, T59, T71, fC fl71_0, fR fl71_0, cok72, cok73, Try.results71]
    | simp (disch := first | omega | (simp only [LN_]; omega)) only [wrap_id, getI]
    | with_reducible first | refine andA (hb := ?_) | refine y_load (hK := ?_) | refine y_loadA (hK := ?_) | refine cD (rMarker ?_ ?_) | refine cD (rVoid ?_)
    | with_reducible refine y_nil (hK := ?_)
    | (with_reducible refine nilTC_split (fun h => ?_) (fun h bn => ?_) <;> (try simp only [List.length_map] at h))
    | ((with_reducible first | refine grd_cases (fun h => ?_) (fun h => ?_) | refine condC_split (fun h => ?_) (fun h => ?_)) <;> (try simp only [h]) <;> (try simp only [NR_, Bool.not_true, Bool.not_false, Bool.not_eq_eq_eq_not, ne_eq] at h))
    | omega | (simp only [LN_]; omega))
  refine loopA (fun x : Nat × Int => ⟨(SL o l :: I n :: .any :: .any :: .any :: .any :: I (n + 1) :: I x.2 :: I x.1 :: .any :: .any :: .any :: .any :: .any :: .any :: .any :: .any :: .any :: .any :: .any :: .any :: .any :: .any :: .any :: .any :: .any :: .any :: .any :: .any :: .any :: .any :: .any :: .any :: .any :: .any :: .any :: .any :: .any :: .any :: .any :: .any :: .any :: .any :: .any :: .any :: .any :: .any :: .any :: .any :: .any :: .any :: .any :: .any :: .any :: .any :: .any :: .any :: .any :: .any :: .any :: .any :: .any :: .any :: .any :: .any :: .any :: []), σ, true, []⟩) (fun x => x.1 ≤ l.length ∧ scanI 0 l = scanI x.2 (l.drop x.1)) (fun x => l.length - x.1) (0, 0) (St_leW (by repeat (first | exact trivial | refine ⟨le_rfl, ?_⟩ | refine ⟨le_any, ?_⟩ | refine ⟨le_ro, ?_⟩ | refine ⟨le_nil (by decide), ?_⟩ | refine ⟨le_wrap (by omega) (by omega) (by omega), ?_⟩ | refine ⟨le_int (by omega), ?_⟩ | refine ⟨le_eq (by simp), ?_⟩)) (ResW.refl _) id) ⟨Nat.zero_le _, rfl⟩ ?_
  rintro ⟨k, w⟩ hx
  dsimp only at hx ⊢
  have h1 := hx.1
  have h2 := hx.2
  have hu : ∀ w f, scanI 0 l = (w, f) → indI l 0 n = if f.getD n ≤ n then (max w (n + 1), 0) else if f.getD n < w then (0, 7) else (f.getD n, 0) := fun w f h => by unfold indI; rw [if_neg (by decide), h]
  rcases Nat.lt_or_ge k l.length with hk | hk
  · have hmem : l.getD k (0, []) ∈ l := by rw [List.getD_eq_getElem?_getD, List.getElem?_eq_getElem hk]; exact List.getElem_mem hk
    have htk := ht _ hmem
    have hm0 := markerI_ge (l.getD k (0, [])).1 (l.getD k (0, [])).2
    repeat' (first
      | with_reducible first | refine AW_seqA (AW_block ?_) | refine AW_block ?_ | refine cut_seqloop ?_ | refine cut_loop ?_ | refine AW_seqA (AW_seqA ?_) | refine AW_seq ?_ | refine AW_runReg ?_ | refine AW_runCond ?_ | refine AW_runExit ?_ | refine AW_runRet ?_ | refine AW_runSkip ?_ | refine AW_runLabel ?_
      | simp only [WL, intF, strF, WM, Int.reduceToNat, ne_eq, reduceCtorEq, not_false_eq_true, Nat.reduceAdd, Nat.reduceSub, Nat.reduceLT, Nat.reduceLeDiff, Nat.reduceEqDiff, Bool.not_true, Bool.not_false, beq_self_eq_true, true_and, and_true, reduceIte, Bool.false_eq_true, T3, T4, T24, T59, T71, fC fl71_0, fR fl71_0, cok72, cok73, Try.results71]
      | simp (disch := first | omega | (simp only [LN_]; omega)) only [wrap_id, getI, getL]
      | with_reducible first | refine andA (hb := ?_) | refine y_load (hK := ?_) | refine y_loadA (hK := ?_) | refine cD (rMarker ?_ ?_) | refine cD (rVoid ?_)
      | with_reducible refine y_nil (hK := ?_)
      | (with_reducible refine nilTC_split (fun h => ?_) (fun h bn => ?_) <;> (try simp only [List.length_map] at h))
      | ((with_reducible first | refine grd_cases (fun h => ?_) (fun h => ?_) | refine condC_split (fun h => ?_) (fun h => ?_)) <;> (try simp only [h]) <;> (try simp only [NR_, Bool.not_true, Bool.not_false, Bool.not_eq_eq_eq_not, ne_eq] at h))
      | omega | (simp only [LN_]; omega))
    all_goals first
      | exact ⟨(k + 1, max w (l.getD k (0, [])).1), St_leW (by repeat (first | exact trivial | refine ⟨le_rfl, ?_⟩ | refine ⟨le_any, ?_⟩ | refine ⟨le_ro, ?_⟩ | refine ⟨le_nil (by decide), ?_⟩ | refine ⟨le_wrap (by omega) (by omega) (by omega), ?_⟩ | refine ⟨le_int (by omega), ?_⟩ | refine ⟨le_eq (by simp), ?_⟩)) (ResW.refl _) id, ⟨by dsimp only; omega, h2.trans (scan_void hk (len_nil (by assumption)))⟩, by dsimp only; omega⟩
      | skip
    all_goals
      rcases Int.lt_or_le 0 (markerI (l.getD k (0, [])).1 (l.getD k (0, [])).2) with hp | hp
      · first
          | omega
          | (have hr := hu w none (h2.trans (scan_mark hk (len_cons (by assumption)) (by omega)))
             simp only [Option.getD_none, Int.le_refl, if_true] at hr
             exact leafL sub_rfl (leT_eq (by rw [hr]; simp only [AV.tup.injEq, List.cons.injEq, AV.raw.injEq, Value.int.injEq, and_true, true_and]; omega)) hK)
      · first
          | omega
          | (have hr := hu w (some (l.getD k (0, [])).1) (h2.trans (scan_text hk (len_cons (by assumption)) (by omega)))
             simp only [Option.getD_some] at hr
             first
               | (rw [if_pos (by omega)] at hr; exact leafL sub_rfl (leT_eq (by rw [hr]; simp only [AV.tup.injEq, List.cons.injEq, AV.raw.injEq, Value.int.injEq, and_true, true_and]; omega)) hK)
               | (rw [if_neg (by omega), if_pos (by omega)] at hr; exact leafL sub_rfl (leT_eq (by rw [hr])) hK)
               | (rw [if_neg (by omega), if_neg (by omega)] at hr; exact leafL sub_rfl (leT_eq (by rw [hr])) hK))
  · have hr := hu w none (h2.trans (scan_end hk))
    simp only [Option.getD_none, Int.le_refl, if_true] at hr
    repeat' (first
      | with_reducible first | refine AW_seqA (AW_block ?_) | refine AW_block ?_ | refine cut_seqloop ?_ | refine cut_loop ?_ | refine AW_seqA (AW_seqA ?_) | refine AW_seq ?_ | refine AW_runReg ?_ | refine AW_runCond ?_ | refine AW_runExit ?_ | refine AW_runRet ?_ | refine AW_runSkip ?_ | refine AW_runLabel ?_
      | simp only [WL, intF, strF, WM, Int.reduceToNat, ne_eq, reduceCtorEq, not_false_eq_true, Nat.reduceAdd, Nat.reduceSub, Nat.reduceLT, Nat.reduceLeDiff, Nat.reduceEqDiff, Bool.not_true, Bool.not_false, beq_self_eq_true, true_and, and_true, reduceIte, Bool.false_eq_true, T3, T4, T24, T59, T71, fC fl71_0, fR fl71_0, cok72, cok73, Try.results71]
      | simp (disch := first | omega | (simp only [LN_]; omega)) only [wrap_id, getI]
      | with_reducible first | refine andA (hb := ?_) | refine y_load (hK := ?_) | refine y_loadA (hK := ?_) | refine cD (rMarker ?_ ?_) | refine cD (rVoid ?_)
      | with_reducible refine y_nil (hK := ?_)
      | (with_reducible refine nilTC_split (fun h => ?_) (fun h bn => ?_) <;> (try simp only [List.length_map] at h))
      | ((with_reducible first | refine grd_cases (fun h => ?_) (fun h => ?_) | refine condC_split (fun h => ?_) (fun h => ?_)) <;> (try simp only [h]) <;> (try simp only [NR_, Bool.not_true, Bool.not_false, Bool.not_eq_eq_eq_not, ne_eq] at h))
      | omega | (simp only [LN_]; omega))
    all_goals exact leafL sub_rfl (leT_eq (by rw [hr]; simp only [AV.tup.injEq, List.cons.injEq, AV.raw.injEq, Value.int.injEq, and_true, true_and]; omega)) hK

end Go.Proofs.Ytaeacialcbahnaa
