/-
  Walks: chapter 10, what stands behind a head.
-/
import Derived.Test.YtaeacialcbahnaaSk
import Derived.Test.YtaeacialcbahnaaCk
import Derived.Test.YtaeacialcbahnaaL
import Derived.Test.YtaeacialcbahnaaUb
import Derived.Test.YtaeacialcbahnaaFd
import Derived.Test.YtaeacialcbahnaaFg
import Derived.Test.YtaeacialcbahnaaFh
namespace Go.Proofs.Ytaeacialcbahnaa
open Go.Abs
set_option linter.unusedVariables false
set_option linter.unusedSimpArgs false
-- hb: 8000000
variable {κ : Ctx} {σ : List Res} {K : Ret → List Res → Prop} {o o' : Option (Option (Nat × Nat))}

abbrev HDA (h : HD) : AV := .agg [B h.1, I h.2.1, I h.2.2]

-- block.Head
set_option maxHeartbeats 8000000 in
theorem bHead {l : List Int} (hl : l.length ≤ 1000000000) (hK : K (.ret (.tup [HDA (headI l).1, I (headI l).2.1, I (headI l).2.2])) σ) : ACallF κ Try.prog 36 [SI o l] σ K := by
  refine ACallF.dropL (ACallF_introA Try.func36 rfl ?_)
  simp only [Try.ntmps36]
  repeat' (first
    | with_reducible first | refine AW_scope ?_ | refine cut_blk (id := 0) ?_ | refine AW_seqA (AW_block ?_) | refine AW_block ?_ | refine cut_seqloop ?_ | refine cut_loop ?_ | refine AW_seqA (AW_seqA ?_) | refine AW_seq ?_ | refine AW_runReg ?_ | refine AW_runCond ?_ | refine AW_runExit ?_ | refine AW_runRet ?_ | refine AW_runSkip ?_ | refine AW_runLabel ?_
    | simp only [WL, intF, strF, WM, Int.reduceToNat, ne_eq, reduceCtorEq, not_false_eq_true, Nat.reduceAdd, Nat.reduceSub, Nat.reduceLT, Nat.reduceLeDiff, Nat.reduceEqDiff, Bool.not_true, Bool.not_false, beq_self_eq_true, true_and, and_true, reduceIte, Bool.false_eq_true, run_scope, scope_normal, scope_ret, scope_exit, scope_panic, T3, T4, T24, T50, T64, fC fl64_1, fR fl64_1, fC fl64_2, fR fl64_2, cok76, Try.results36]
    | simp (disch := first | omega | (simp only [LN_]; omega)) only [wrap_id, getI]
    | with_reducible first | refine andA (hb := ?_) | refine y_load (hK := ?_) | refine y_loadA (hK := ?_) | refine y_store (hK := ?_) | refine y_storeA (hK := ?_) | refine y_box (hK := fun b => ?_) | refine y_new (hK := fun b => ?_) | refine y_build (hK := ?_) | refine cD (Blank ?_)
    | ((with_reducible refine resL_id ?_); apply res_ctt (hf := Try.results36); exact y_load2)
    | with_reducible refine y_nil (hK := ?_)
    | (with_reducible refine nilTC_split (fun h => ?_) (fun h bn => ?_) <;> (try simp only [List.length_map] at h))
    | ((with_reducible first | refine grd_cases (fun h => ?_) (fun h => ?_) | refine condC_split (fun h => ?_) (fun h => ?_)) <;> (try simp only [h]) <;> (try simp only [NR_, Bool.not_true, Bool.not_false, Bool.not_eq_eq_eq_not, ne_eq] at h))
    | omega | (simp only [LN_]; omega))
  all_goals try exact leafL (sub_cons (sub_cons sub_rfl)) (leT_eq (by rw [headI_none (by omega)])) hK
  all_goals try exact leafL (sub_cons sub_rfl) (leT_eq (by rw [headI_none (by omega)])) hK
  · rename_i b0 _ _
    have h62 : l.getD 0 0 = 124 ∨ l.getD 0 0 = 62 := by omega
    have hpos : 0 < l.length := by omega
    refine midA (fun x : Nat × Int × Int => ⟨(SI o l :: .any :: .raw (.pointer (some ⟨b0, 0, none⟩)) :: .any :: .any :: .raw (.pointer (some ⟨b, 0, none⟩)) :: I x.1 :: .any :: .any :: .any :: .any :: .any :: .any :: .any :: .any :: .any :: .any :: .any :: .any :: .any :: .any :: .any :: .any :: .any :: .any :: .any :: .any :: .any :: .any :: .any :: .any :: .any :: .any :: .any :: .any :: .any :: .any :: .any :: .any :: .any :: .any :: .any :: .any :: .any :: .any :: .any :: .any :: .any :: .any :: .any :: .any :: .any :: .any :: .any :: .any :: .any :: .any :: .any :: .any :: .any :: .any :: .any :: .any :: .any :: .any :: .any :: .any :: .any :: .any :: .any :: .any :: .any :: .any :: .any :: .any :: .any :: .any :: .any :: .any :: .any :: .any :: .any :: .any :: .any :: .any :: .any :: .any :: .any :: .any :: .any :: .any :: .any :: .any :: .any :: .any :: .any :: .any :: .any :: .any :: .any :: .any :: .any :: .any :: .any :: .any :: .any :: .any :: []), .obj b [B (l.getD 0 0 == 62), I x.2.1, I x.2.2] :: .obj b0 [B false, I 0, I 0] :: σ, true, []⟩)
      (fun x => 1 ≤ x.1 ∧ x.1 ≤ l.length ∧ signsGo 0 0 (l.drop 1) = (x.2.1, x.2.2, l.drop x.1)) ?_ ?_
    · skip
      repeat' (first
        | with_reducible first | refine AW_scope ?_ | refine AW_seqA (AW_block ?_) | refine AW_block ?_ | refine cut_seqloop ?_ | refine cut_loop ?_ | refine AW_seqA (AW_seqA ?_) | refine AW_seq ?_ | refine AW_runReg ?_ | refine AW_runCond ?_ | refine AW_runExit ?_ | refine AW_runRet ?_ | refine AW_runSkip ?_ | refine AW_runLabel ?_
        | simp only [WL, intF, strF, WM, Int.reduceToNat, ne_eq, reduceCtorEq, not_false_eq_true, Nat.reduceAdd, Nat.reduceSub, Nat.reduceLT, Nat.reduceLeDiff, Nat.reduceEqDiff, Bool.not_true, Bool.not_false, beq_self_eq_true, true_and, and_true, reduceIte, Bool.false_eq_true, run_scope, scope_normal, scope_ret, scope_exit, scope_panic, T3, T4, T24, T50, T64, fC fl64_1, fR fl64_1, fC fl64_2, fR fl64_2, cok76, Try.results36]
        | simp (disch := first | omega | (simp only [LN_]; omega)) only [wrap_id, getI]
        | with_reducible first | refine andA (hb := ?_) | refine y_load (hK := ?_) | refine y_loadA (hK := ?_) | refine y_store (hK := ?_) | refine y_storeA (hK := ?_) | refine y_box (hK := fun b => ?_) | refine y_new (hK := fun b => ?_) | refine y_build (hK := ?_) | refine cD (Blank ?_)
        | ((with_reducible refine resL_id ?_); apply res_ctt (hf := Try.results36); exact y_load2)
        | with_reducible refine y_nil (hK := ?_)
        | (with_reducible refine nilTC_split (fun h => ?_) (fun h bn => ?_) <;> (try simp only [List.length_map] at h))
        | ((with_reducible first | refine grd_cases (fun h => ?_) (fun h => ?_) | refine condC_split (fun h => ?_) (fun h => ?_)) <;> (try simp only [h]) <;> (try simp only [NR_, Bool.not_true, Bool.not_false, Bool.not_eq_eq_eq_not, ne_eq] at h))
        | omega | (simp only [LN_]; omega))
      refine loopA (fun x : Nat × Int × Int => ⟨(SI o l :: .any :: .raw (.pointer (some ⟨b0, 0, none⟩)) :: .any :: .any :: .raw (.pointer (some ⟨b, 0, none⟩)) :: I x.1 :: .any :: .any :: .any :: .any :: .any :: .any :: .any :: .any :: .any :: .any :: .any :: .any :: .any :: .any :: .any :: .any :: .any :: .any :: .any :: .any :: .any :: .any :: .any :: .any :: .any :: .any :: .any :: .any :: .any :: .any :: .any :: .any :: .any :: .any :: .any :: .any :: .any :: .any :: .any :: .any :: .any :: .any :: .any :: .any :: .any :: .any :: .any :: .any :: .any :: .any :: .any :: .any :: .any :: .any :: .any :: .any :: .any :: .any :: .any :: .any :: .any :: .any :: .any :: .any :: .any :: .any :: .any :: .any :: .any :: .any :: .any :: .any :: .any :: .any :: .any :: .any :: .any :: .any :: .any :: .any :: .any :: .any :: .any :: .any :: .any :: .any :: .any :: .any :: .any :: .any :: .any :: .any :: .any :: .any :: .any :: .any :: .any :: .any :: .any :: .any :: []), .obj b [B (l.getD 0 0 == 62), I x.2.1, I x.2.2] :: .obj b0 [B false, I 0, I 0] :: σ, true, []⟩)
        (fun x => 1 ≤ x.1 ∧ x.1 ≤ l.length ∧ signsGo 0 0 (l.drop 1) = signsGo x.2.1 x.2.2 (l.drop x.1)) (fun x => l.length - x.1) (1, 0, 0) (St_leW (by repeat (first | exact trivial | refine ⟨le_rfl, ?_⟩ | refine ⟨le_any, ?_⟩ | refine ⟨le_ro, ?_⟩ | refine ⟨le_nil (by decide), ?_⟩ | refine ⟨le_wrap (by omega) (by omega) (by omega), ?_⟩ | refine ⟨le_int (by omega), ?_⟩ | refine ⟨le_eq (by simp), ?_⟩)) (ResW.refl _) id) ⟨Nat.le_refl _, hpos, rfl⟩ ?_
      rintro ⟨i, ch, ind⟩ hx
      dsimp only at hx ⊢
      have h1 := hx.1
      have h2 := hx.2.1
      have h3 := hx.2.2
      repeat' (first
        | with_reducible first | refine AW_scope ?_ | refine AW_seqA (AW_block ?_) | refine AW_block ?_ | refine cut_seqloop ?_ | refine cut_loop ?_ | refine AW_seqA (AW_seqA ?_) | refine AW_seq ?_ | refine AW_runReg ?_ | refine AW_runCond ?_ | refine AW_runExit ?_ | refine AW_runRet ?_ | refine AW_runSkip ?_ | refine AW_runLabel ?_
        | simp only [WL, intF, strF, WM, Int.reduceToNat, ne_eq, reduceCtorEq, not_false_eq_true, Nat.reduceAdd, Nat.reduceSub, Nat.reduceLT, Nat.reduceLeDiff, Nat.reduceEqDiff, Bool.not_true, Bool.not_false, beq_self_eq_true, true_and, and_true, reduceIte, Bool.false_eq_true, run_scope, scope_normal, scope_ret, scope_exit, scope_panic, T3, T4, T24, T50, T64, fC fl64_1, fR fl64_1, fC fl64_2, fR fl64_2, cok76, Try.results36]
        | simp (disch := first | omega | (simp only [LN_]; omega)) only [wrap_id, getI]
        | with_reducible first | refine andA (hb := ?_) | refine y_load (hK := ?_) | refine y_loadA (hK := ?_) | refine y_store (hK := ?_) | refine y_storeA (hK := ?_) | refine y_box (hK := fun b => ?_) | refine y_new (hK := fun b => ?_) | refine y_build (hK := ?_) | refine cD (Blank ?_)
        | ((with_reducible refine resL_id ?_); apply res_ctt (hf := Try.results36); exact y_load2)
        | with_reducible refine y_nil (hK := ?_)
        | (with_reducible refine nilTC_split (fun h => ?_) (fun h bn => ?_) <;> (try simp only [List.length_map] at h))
        | ((with_reducible first | refine grd_cases (fun h => ?_) (fun h => ?_) | refine condC_split (fun h => ?_) (fun h => ?_)) <;> (try simp only [h]) <;> (try simp only [NR_, Bool.not_true, Bool.not_false, Bool.not_eq_eq_eq_not, ne_eq] at h))
        | omega | (simp only [LN_]; omega))
      all_goals first
        | exact ⟨(i + 1, ch, l.getD i 0 - 48), St_leW (by repeat (first | exact trivial | refine ⟨le_rfl, ?_⟩ | refine ⟨le_any, ?_⟩ | refine ⟨le_ro, ?_⟩ | refine ⟨le_nil (by decide), ?_⟩ | refine ⟨le_wrap (by omega) (by omega) (by omega), ?_⟩ | refine ⟨le_int (by omega), ?_⟩ | refine ⟨le_eq (by simp), ?_⟩)) (ResW.refl _) id, ⟨by dsimp only; omega, by dsimp only; omega, h3.trans (signs_num (by omega) (by omega) (by omega) (by omega))⟩, by dsimp only; omega⟩
        | exact ⟨(i + 1, 1, ind), St_leW (by repeat (first | exact trivial | refine ⟨le_rfl, ?_⟩ | refine ⟨le_any, ?_⟩ | refine ⟨le_ro, ?_⟩ | refine ⟨le_nil (by decide), ?_⟩ | refine ⟨le_wrap (by omega) (by omega) (by omega), ?_⟩ | refine ⟨le_int (by omega), ?_⟩ | refine ⟨le_eq (by simp), ?_⟩)) (ResW.refl _) id, ⟨by dsimp only; omega, by dsimp only; omega, h3.trans (signs_min (by omega) (by omega) (by omega))⟩, by dsimp only; omega⟩
        | exact ⟨(i + 1, 2, ind), St_leW (by repeat (first | exact trivial | refine ⟨le_rfl, ?_⟩ | refine ⟨le_any, ?_⟩ | refine ⟨le_ro, ?_⟩ | refine ⟨le_nil (by decide), ?_⟩ | refine ⟨le_wrap (by omega) (by omega) (by omega), ?_⟩ | refine ⟨le_int (by omega), ?_⟩ | refine ⟨le_eq (by simp), ?_⟩)) (ResW.refl _) id, ⟨by dsimp only; omega, by dsimp only; omega, h3.trans (signs_plus (by omega) (by omega) (by omega))⟩, by dsimp only; omega⟩
        | exact ⟨(i, ch, ind), St_leW (by repeat (first | exact trivial | refine ⟨le_rfl, ?_⟩ | refine ⟨le_any, ?_⟩ | refine ⟨le_ro, ?_⟩ | refine ⟨le_nil (by decide), ?_⟩ | refine ⟨le_wrap (by omega) (by omega) (by omega), ?_⟩ | refine ⟨le_int (by omega), ?_⟩ | refine ⟨le_eq (by simp), ?_⟩)) (ResW.refl _) id, by dsimp only; omega, by dsimp only; omega, h3.trans (signs_end (by omega))⟩
        | exact ⟨(i, ch, ind), St_leW (by repeat (first | exact trivial | refine ⟨le_rfl, ?_⟩ | refine ⟨le_any, ?_⟩ | refine ⟨le_ro, ?_⟩ | refine ⟨le_nil (by decide), ?_⟩ | refine ⟨le_wrap (by omega) (by omega) (by omega), ?_⟩ | refine ⟨le_int (by omega), ?_⟩ | refine ⟨le_eq (by simp), ?_⟩)) (ResW.refl _) id, by dsimp only; omega, by dsimp only; omega, h3.trans (signs_stop (by omega) (by omega) (by omega) (by omega))⟩
    · rintro ⟨i, ch, ind⟩ hx
      dsimp only at hx ⊢
      have h1 := hx.1
      have h2 := hx.2.1
      have h3 := hx.2.2
      repeat' (first
        | with_reducible first | refine AW_scope ?_ | refine AW_seqA (AW_block ?_) | refine AW_block ?_ | refine cut_seqloop ?_ | refine cut_loop ?_ | refine AW_seqA (AW_seqA ?_) | refine AW_seq ?_ | refine AW_runReg ?_ | refine AW_runCond ?_ | refine AW_runExit ?_ | refine AW_runRet ?_ | refine AW_runSkip ?_ | refine AW_runLabel ?_
        | simp only [WL, intF, strF, WM, Int.reduceToNat, ne_eq, reduceCtorEq, not_false_eq_true, Nat.reduceAdd, Nat.reduceSub, Nat.reduceLT, Nat.reduceLeDiff, Nat.reduceEqDiff, Bool.not_true, Bool.not_false, beq_self_eq_true, true_and, and_true, reduceIte, Bool.false_eq_true, run_scope, scope_normal, scope_ret, scope_exit, scope_panic, T3, T4, T24, T50, T64, fC fl64_1, fR fl64_1, fC fl64_2, fR fl64_2, cok76, Try.results36]
        | simp (disch := first | omega | (simp only [LN_]; omega)) only [wrap_id, getI]
        | with_reducible first | refine andA (hb := ?_) | refine y_load (hK := ?_) | refine y_loadA (hK := ?_) | refine y_store (hK := ?_) | refine y_storeA (hK := ?_) | refine y_box (hK := fun b => ?_) | refine y_new (hK := fun b => ?_) | refine y_build (hK := ?_) | refine cD (Blank ?_)
        | ((with_reducible refine resL_id ?_); apply res_ctt (hf := Try.results36); exact y_load2)
        | with_reducible refine y_nil (hK := ?_)
        | (with_reducible refine nilTC_split (fun h => ?_) (fun h bn => ?_) <;> (try simp only [List.length_map] at h))
        | ((with_reducible first | refine grd_cases (fun h => ?_) (fun h => ?_) | refine condC_split (fun h => ?_) (fun h => ?_)) <;> (try simp only [h]) <;> (try simp only [NR_, Bool.not_true, Bool.not_false, Bool.not_eq_eq_eq_not, ne_eq] at h))
        | omega | (simp only [LN_]; omega))
      refine loopA (fun j : Nat => ⟨(SI o l :: .any :: .raw (.pointer (some ⟨b0, 0, none⟩)) :: .any :: .any :: .raw (.pointer (some ⟨b, 0, none⟩)) :: I j :: .any :: I i :: .any :: .any :: .any :: .any :: .any :: .any :: .any :: .any :: .any :: .any :: .any :: .any :: .any :: .any :: .any :: .any :: .any :: .any :: .any :: .any :: .any :: .any :: .any :: .any :: .any :: .any :: .any :: .any :: .any :: .any :: .any :: .any :: .any :: .any :: .any :: .any :: .any :: .any :: .any :: .any :: .any :: .any :: .any :: .any :: .any :: .any :: .any :: .any :: .any :: .any :: .any :: .any :: .any :: .any :: .any :: .any :: .any :: .any :: .any :: .any :: .any :: .any :: .any :: .any :: .any :: .any :: .any :: .any :: .any :: .any :: .any :: .any :: .any :: .any :: .any :: .any :: .any :: .any :: .any :: .any :: .any :: .any :: .any :: .any :: .any :: .any :: .any :: .any :: .any :: .any :: .any :: .any :: .any :: .any :: .any :: .any :: .any :: .any :: []), .obj b [B (l.getD 0 0 == 62), I ch, I ind] :: .obj b0 [B false, I 0, I 0] :: σ, true, []⟩)
        (fun j => i ≤ j ∧ j ≤ l.length ∧ (l.drop i).dropWhile blankI = (l.drop j).dropWhile blankI) (fun j => l.length - j) i (St_leW (by repeat (first | exact trivial | refine ⟨le_rfl, ?_⟩ | refine ⟨le_any, ?_⟩ | refine ⟨le_ro, ?_⟩ | refine ⟨le_nil (by decide), ?_⟩ | refine ⟨le_wrap (by omega) (by omega) (by omega), ?_⟩ | refine ⟨le_int (by omega), ?_⟩ | refine ⟨le_eq (by simp), ?_⟩)) (ResW.refl _) id) ⟨Nat.le_refl _, h2, rfl⟩ ?_
      rintro j hj
      have k1 := hj.1
      have k2 := hj.2.1
      have k3 := hj.2.2
      repeat' (first
        | with_reducible first | refine AW_scope ?_ | refine AW_seqA (AW_block ?_) | refine AW_block ?_ | refine cut_seqloop ?_ | refine cut_loop ?_ | refine AW_seqA (AW_seqA ?_) | refine AW_seq ?_ | refine AW_runReg ?_ | refine AW_runCond ?_ | refine AW_runExit ?_ | refine AW_runRet ?_ | refine AW_runSkip ?_ | refine AW_runLabel ?_
        | simp only [WL, intF, strF, WM, Int.reduceToNat, ne_eq, reduceCtorEq, not_false_eq_true, Nat.reduceAdd, Nat.reduceSub, Nat.reduceLT, Nat.reduceLeDiff, Nat.reduceEqDiff, Bool.not_true, Bool.not_false, beq_self_eq_true, true_and, and_true, reduceIte, Bool.false_eq_true, run_scope, scope_normal, scope_ret, scope_exit, scope_panic, T3, T4, T24, T50, T64, fC fl64_1, fR fl64_1, fC fl64_2, fR fl64_2, cok76, Try.results36]
        | simp (disch := first | omega | (simp only [LN_]; omega)) only [wrap_id, getI]
        | with_reducible first | refine andA (hb := ?_) | refine y_load (hK := ?_) | refine y_loadA (hK := ?_) | refine y_store (hK := ?_) | refine y_storeA (hK := ?_) | refine y_box (hK := fun b => ?_) | refine y_new (hK := fun b => ?_) | refine y_build (hK := ?_) | refine cD (Blank ?_)
        | ((with_reducible refine resL_id ?_); apply res_ctt (hf := Try.results36); exact y_load2)
        | with_reducible refine y_nil (hK := ?_)
        | (with_reducible refine nilTC_split (fun h => ?_) (fun h bn => ?_) <;> (try simp only [List.length_map] at h))
        | ((with_reducible first | refine grd_cases (fun h => ?_) (fun h => ?_) | refine condC_split (fun h => ?_) (fun h => ?_)) <;> (try simp only [h]) <;> (try simp only [NR_, Bool.not_true, Bool.not_false, Bool.not_eq_eq_eq_not, ne_eq] at h))
        | omega | (simp only [LN_]; omega))
      all_goals try exact ⟨j + 1, St_leW (by repeat (first | exact trivial | refine ⟨le_rfl, ?_⟩ | refine ⟨le_any, ?_⟩ | refine ⟨le_ro, ?_⟩ | refine ⟨le_nil (by decide), ?_⟩ | refine ⟨le_wrap (by omega) (by omega) (by omega), ?_⟩ | refine ⟨le_int (by omega), ?_⟩ | refine ⟨le_eq (by simp), ?_⟩)) (ResW.refl _) id, ⟨by omega, by omega, k3.trans (blank_at (by omega) (by assumption))⟩, by omega⟩
      all_goals
        have hd : (l.drop i).dropWhile blankI = l.drop j := by
          first
            | exact k3.trans (blank_stop (by omega) (by assumption))
            | (rw [k3, List.drop_eq_nil_of_le (show l.length ≤ j by omega)]; rfl)
        have hh := headI_at hpos h62 h3 h2 k1 k2 hd
        first
          | (rw [if_pos (by omega)] at hh; exact leafL (sub_cons (sub_cons sub_rfl)) (leT_eq (by rw [hh])) hK)
          | (rw [if_neg (by omega)] at hh; exact leafL (sub_cons (sub_cons sub_rfl)) (leT_eq (by rw [hh])) hK)
          | trace_state
  · rename_i b0 _
    have h62 : l.getD 0 0 = 124 ∨ l.getD 0 0 = 62 := by omega
    have hpos : 0 < l.length := by omega
    refine midA (fun x : Nat × Int × Int => ⟨(SI o l :: .any :: .raw (.pointer (some ⟨b0, 0, none⟩)) :: .any :: .any :: .raw (.pointer (some ⟨b, 0, none⟩)) :: I x.1 :: .any :: .any :: .any :: .any :: .any :: .any :: .any :: .any :: .any :: .any :: .any :: .any :: .any :: .any :: .any :: .any :: .any :: .any :: .any :: .any :: .any :: .any :: .any :: .any :: .any :: .any :: .any :: .any :: .any :: .any :: .any :: .any :: .any :: .any :: .any :: .any :: .any :: .any :: .any :: .any :: .any :: .any :: .any :: .any :: .any :: .any :: .any :: .any :: .any :: .any :: .any :: .any :: .any :: .any :: .any :: .any :: .any :: .any :: .any :: .any :: .any :: .any :: .any :: .any :: .any :: .any :: .any :: .any :: .any :: .any :: .any :: .any :: .any :: .any :: .any :: .any :: .any :: .any :: .any :: .any :: .any :: .any :: .any :: .any :: .any :: .any :: .any :: .any :: .any :: .any :: .any :: .any :: .any :: .any :: .any :: .any :: .any :: .any :: .any :: .any :: []), .obj b [B (l.getD 0 0 == 62), I x.2.1, I x.2.2] :: .obj b0 [B false, I 0, I 0] :: σ, true, []⟩)
      (fun x => 1 ≤ x.1 ∧ x.1 ≤ l.length ∧ signsGo 0 0 (l.drop 1) = (x.2.1, x.2.2, l.drop x.1)) ?_ ?_
    · skip
      repeat' (first
        | with_reducible first | refine AW_scope ?_ | refine AW_seqA (AW_block ?_) | refine AW_block ?_ | refine cut_seqloop ?_ | refine cut_loop ?_ | refine AW_seqA (AW_seqA ?_) | refine AW_seq ?_ | refine AW_runReg ?_ | refine AW_runCond ?_ | refine AW_runExit ?_ | refine AW_runRet ?_ | refine AW_runSkip ?_ | refine AW_runLabel ?_
        | simp only [WL, intF, strF, WM, Int.reduceToNat, ne_eq, reduceCtorEq, not_false_eq_true, Nat.reduceAdd, Nat.reduceSub, Nat.reduceLT, Nat.reduceLeDiff, Nat.reduceEqDiff, Bool.not_true, Bool.not_false, beq_self_eq_true, true_and, and_true, reduceIte, Bool.false_eq_true, run_scope, scope_normal, scope_ret, scope_exit, scope_panic, T3, T4, T24, T50, T64, fC fl64_1, fR fl64_1, fC fl64_2, fR fl64_2, cok76, Try.results36]
        | simp (disch := first | omega | (simp only [LN_]; omega)) only [wrap_id, getI]
        | with_reducible first | refine andA (hb := ?_) | refine y_load (hK := ?_) | refine y_loadA (hK := ?_) | refine y_store (hK := ?_) | refine y_storeA (hK := ?_) | refine y_box (hK := fun b => ?_) | refine y_new (hK := fun b => ?_) | refine y_build (hK := ?_) | refine cD (Blank ?_)
        | ((with_reducible refine resL_id ?_); apply res_ctt (hf := Try.results36); exact y_load2)
        | with_reducible refine y_nil (hK := ?_)
        | (with_reducible refine nilTC_split (fun h => ?_) (fun h bn => ?_) <;> (try simp only [List.length_map] at h))
        | ((with_reducible first | refine grd_cases (fun h => ?_) (fun h => ?_) | refine condC_split (fun h => ?_) (fun h => ?_)) <;> (try simp only [h]) <;> (try simp only [NR_, Bool.not_true, Bool.not_false, Bool.not_eq_eq_eq_not, ne_eq] at h))
        | omega | (simp only [LN_]; omega))
      refine loopA (fun x : Nat × Int × Int => ⟨(SI o l :: .any :: .raw (.pointer (some ⟨b0, 0, none⟩)) :: .any :: .any :: .raw (.pointer (some ⟨b, 0, none⟩)) :: I x.1 :: .any :: .any :: .any :: .any :: .any :: .any :: .any :: .any :: .any :: .any :: .any :: .any :: .any :: .any :: .any :: .any :: .any :: .any :: .any :: .any :: .any :: .any :: .any :: .any :: .any :: .any :: .any :: .any :: .any :: .any :: .any :: .any :: .any :: .any :: .any :: .any :: .any :: .any :: .any :: .any :: .any :: .any :: .any :: .any :: .any :: .any :: .any :: .any :: .any :: .any :: .any :: .any :: .any :: .any :: .any :: .any :: .any :: .any :: .any :: .any :: .any :: .any :: .any :: .any :: .any :: .any :: .any :: .any :: .any :: .any :: .any :: .any :: .any :: .any :: .any :: .any :: .any :: .any :: .any :: .any :: .any :: .any :: .any :: .any :: .any :: .any :: .any :: .any :: .any :: .any :: .any :: .any :: .any :: .any :: .any :: .any :: .any :: .any :: .any :: .any :: []), .obj b [B (l.getD 0 0 == 62), I x.2.1, I x.2.2] :: .obj b0 [B false, I 0, I 0] :: σ, true, []⟩)
        (fun x => 1 ≤ x.1 ∧ x.1 ≤ l.length ∧ signsGo 0 0 (l.drop 1) = signsGo x.2.1 x.2.2 (l.drop x.1)) (fun x => l.length - x.1) (1, 0, 0) (St_leW (by repeat (first | exact trivial | refine ⟨le_rfl, ?_⟩ | refine ⟨le_any, ?_⟩ | refine ⟨le_ro, ?_⟩ | refine ⟨le_nil (by decide), ?_⟩ | refine ⟨le_wrap (by omega) (by omega) (by omega), ?_⟩ | refine ⟨le_int (by omega), ?_⟩ | refine ⟨le_eq (by simp), ?_⟩)) (ResW.refl _) id) ⟨Nat.le_refl _, hpos, rfl⟩ ?_
      rintro ⟨i, ch, ind⟩ hx
      dsimp only at hx ⊢
      have h1 := hx.1
      have h2 := hx.2.1
      have h3 := hx.2.2
      repeat' (first
        | with_reducible first | refine AW_scope ?_ | refine AW_seqA (AW_block ?_) | refine AW_block ?_ | refine cut_seqloop ?_ | refine cut_loop ?_ | refine AW_seqA (AW_seqA ?_) | refine AW_seq ?_ | refine AW_runReg ?_ | refine AW_runCond ?_ | refine AW_runExit ?_ | refine AW_runRet ?_ | refine AW_runSkip ?_ | refine AW_runLabel ?_
        | simp only [WL, intF, strF, WM, Int.reduceToNat, ne_eq, reduceCtorEq, not_false_eq_true, Nat.reduceAdd, Nat.reduceSub, Nat.reduceLT, Nat.reduceLeDiff, Nat.reduceEqDiff, Bool.not_true, Bool.not_false, beq_self_eq_true, true_and, and_true, reduceIte, Bool.false_eq_true, run_scope, scope_normal, scope_ret, scope_exit, scope_panic, T3, T4, T24, T50, T64, fC fl64_1, fR fl64_1, fC fl64_2, fR fl64_2, cok76, Try.results36]
        | simp (disch := first | omega | (simp only [LN_]; omega)) only [wrap_id, getI]
        | with_reducible first | refine andA (hb := ?_) | refine y_load (hK := ?_) | refine y_loadA (hK := ?_) | refine y_store (hK := ?_) | refine y_storeA (hK := ?_) | refine y_box (hK := fun b => ?_) | refine y_new (hK := fun b => ?_) | refine y_build (hK := ?_) | refine cD (Blank ?_)
        | ((with_reducible refine resL_id ?_); apply res_ctt (hf := Try.results36); exact y_load2)
        | with_reducible refine y_nil (hK := ?_)
        | (with_reducible refine nilTC_split (fun h => ?_) (fun h bn => ?_) <;> (try simp only [List.length_map] at h))
        | ((with_reducible first | refine grd_cases (fun h => ?_) (fun h => ?_) | refine condC_split (fun h => ?_) (fun h => ?_)) <;> (try simp only [h]) <;> (try simp only [NR_, Bool.not_true, Bool.not_false, Bool.not_eq_eq_eq_not, ne_eq] at h))
        | omega | (simp only [LN_]; omega))
      all_goals first
        | exact ⟨(i + 1, ch, l.getD i 0 - 48), St_leW (by repeat (first | exact trivial | refine ⟨le_rfl, ?_⟩ | refine ⟨le_any, ?_⟩ | refine ⟨le_ro, ?_⟩ | refine ⟨le_nil (by decide), ?_⟩ | refine ⟨le_wrap (by omega) (by omega) (by omega), ?_⟩ | refine ⟨le_int (by omega), ?_⟩ | refine ⟨le_eq (by simp), ?_⟩)) (ResW.refl _) id, ⟨by dsimp only; omega, by dsimp only; omega, h3.trans (signs_num (by omega) (by omega) (by omega) (by omega))⟩, by dsimp only; omega⟩
        | exact ⟨(i + 1, 1, ind), St_leW (by repeat (first | exact trivial | refine ⟨le_rfl, ?_⟩ | refine ⟨le_any, ?_⟩ | refine ⟨le_ro, ?_⟩ | refine ⟨le_nil (by decide), ?_⟩ | refine ⟨le_wrap (by omega) (by omega) (by omega), ?_⟩ | refine ⟨le_int (by omega), ?_⟩ | refine ⟨le_eq (by simp), ?_⟩)) (ResW.refl _) id, ⟨by dsimp only; omega, by dsimp only; omega, h3.trans (signs_min (by omega) (by omega) (by omega))⟩, by dsimp only; omega⟩
        | exact ⟨(i + 1, 2, ind), St_leW (by repeat (first | exact trivial | refine ⟨le_rfl, ?_⟩ | refine ⟨le_any, ?_⟩ | refine ⟨le_ro, ?_⟩ | refine ⟨le_nil (by decide), ?_⟩ | refine ⟨le_wrap (by omega) (by omega) (by omega), ?_⟩ | refine ⟨le_int (by omega), ?_⟩ | refine ⟨le_eq (by simp), ?_⟩)) (ResW.refl _) id, ⟨by dsimp only; omega, by dsimp only; omega, h3.trans (signs_plus (by omega) (by omega) (by omega))⟩, by dsimp only; omega⟩
        | exact ⟨(i, ch, ind), St_leW (by repeat (first | exact trivial | refine ⟨le_rfl, ?_⟩ | refine ⟨le_any, ?_⟩ | refine ⟨le_ro, ?_⟩ | refine ⟨le_nil (by decide), ?_⟩ | refine ⟨le_wrap (by omega) (by omega) (by omega), ?_⟩ | refine ⟨le_int (by omega), ?_⟩ | refine ⟨le_eq (by simp), ?_⟩)) (ResW.refl _) id, by dsimp only; omega, by dsimp only; omega, h3.trans (signs_end (by omega))⟩
        | exact ⟨(i, ch, ind), St_leW (by repeat (first | exact trivial | refine ⟨le_rfl, ?_⟩ | refine ⟨le_any, ?_⟩ | refine ⟨le_ro, ?_⟩ | refine ⟨le_nil (by decide), ?_⟩ | refine ⟨le_wrap (by omega) (by omega) (by omega), ?_⟩ | refine ⟨le_int (by omega), ?_⟩ | refine ⟨le_eq (by simp), ?_⟩)) (ResW.refl _) id, by dsimp only; omega, by dsimp only; omega, h3.trans (signs_stop (by omega) (by omega) (by omega) (by omega))⟩
    · rintro ⟨i, ch, ind⟩ hx
      dsimp only at hx ⊢
      have h1 := hx.1
      have h2 := hx.2.1
      have h3 := hx.2.2
      repeat' (first
        | with_reducible first | refine AW_scope ?_ | refine AW_seqA (AW_block ?_) | refine AW_block ?_ | refine cut_seqloop ?_ | refine cut_loop ?_ | refine AW_seqA (AW_seqA ?_) | refine AW_seq ?_ | refine AW_runReg ?_ | refine AW_runCond ?_ | refine AW_runExit ?_ | refine AW_runRet ?_ | refine AW_runSkip ?_ | refine AW_runLabel ?_
        | simp only [WL, intF, strF, WM, Int.reduceToNat, ne_eq, reduceCtorEq, not_false_eq_true, Nat.reduceAdd, Nat.reduceSub, Nat.reduceLT, Nat.reduceLeDiff, Nat.reduceEqDiff, Bool.not_true, Bool.not_false, beq_self_eq_true, true_and, and_true, reduceIte, Bool.false_eq_true, run_scope, scope_normal, scope_ret, scope_exit, scope_panic, T3, T4, T24, T50, T64, fC fl64_1, fR fl64_1, fC fl64_2, fR fl64_2, cok76, Try.results36]
        | simp (disch := first | omega | (simp only [LN_]; omega)) only [wrap_id, getI]
        | with_reducible first | refine andA (hb := ?_) | refine y_load (hK := ?_) | refine y_loadA (hK := ?_) | refine y_store (hK := ?_) | refine y_storeA (hK := ?_) | refine y_box (hK := fun b => ?_) | refine y_new (hK := fun b => ?_) | refine y_build (hK := ?_) | refine cD (Blank ?_)
        | ((with_reducible refine resL_id ?_); apply res_ctt (hf := Try.results36); exact y_load2)
        | with_reducible refine y_nil (hK := ?_)
        | (with_reducible refine nilTC_split (fun h => ?_) (fun h bn => ?_) <;> (try simp only [List.length_map] at h))
        | ((with_reducible first | refine grd_cases (fun h => ?_) (fun h => ?_) | refine condC_split (fun h => ?_) (fun h => ?_)) <;> (try simp only [h]) <;> (try simp only [NR_, Bool.not_true, Bool.not_false, Bool.not_eq_eq_eq_not, ne_eq] at h))
        | omega | (simp only [LN_]; omega))
      refine loopA (fun j : Nat => ⟨(SI o l :: .any :: .raw (.pointer (some ⟨b0, 0, none⟩)) :: .any :: .any :: .raw (.pointer (some ⟨b, 0, none⟩)) :: I j :: .any :: I i :: .any :: .any :: .any :: .any :: .any :: .any :: .any :: .any :: .any :: .any :: .any :: .any :: .any :: .any :: .any :: .any :: .any :: .any :: .any :: .any :: .any :: .any :: .any :: .any :: .any :: .any :: .any :: .any :: .any :: .any :: .any :: .any :: .any :: .any :: .any :: .any :: .any :: .any :: .any :: .any :: .any :: .any :: .any :: .any :: .any :: .any :: .any :: .any :: .any :: .any :: .any :: .any :: .any :: .any :: .any :: .any :: .any :: .any :: .any :: .any :: .any :: .any :: .any :: .any :: .any :: .any :: .any :: .any :: .any :: .any :: .any :: .any :: .any :: .any :: .any :: .any :: .any :: .any :: .any :: .any :: .any :: .any :: .any :: .any :: .any :: .any :: .any :: .any :: .any :: .any :: .any :: .any :: .any :: .any :: .any :: .any :: .any :: .any :: []), .obj b [B (l.getD 0 0 == 62), I ch, I ind] :: .obj b0 [B false, I 0, I 0] :: σ, true, []⟩)
        (fun j => i ≤ j ∧ j ≤ l.length ∧ (l.drop i).dropWhile blankI = (l.drop j).dropWhile blankI) (fun j => l.length - j) i (St_leW (by repeat (first | exact trivial | refine ⟨le_rfl, ?_⟩ | refine ⟨le_any, ?_⟩ | refine ⟨le_ro, ?_⟩ | refine ⟨le_nil (by decide), ?_⟩ | refine ⟨le_wrap (by omega) (by omega) (by omega), ?_⟩ | refine ⟨le_int (by omega), ?_⟩ | refine ⟨le_eq (by simp), ?_⟩)) (ResW.refl _) id) ⟨Nat.le_refl _, h2, rfl⟩ ?_
      rintro j hj
      have k1 := hj.1
      have k2 := hj.2.1
      have k3 := hj.2.2
      repeat' (first
        | with_reducible first | refine AW_scope ?_ | refine AW_seqA (AW_block ?_) | refine AW_block ?_ | refine cut_seqloop ?_ | refine cut_loop ?_ | refine AW_seqA (AW_seqA ?_) | refine AW_seq ?_ | refine AW_runReg ?_ | refine AW_runCond ?_ | refine AW_runExit ?_ | refine AW_runRet ?_ | refine AW_runSkip ?_ | refine AW_runLabel ?_
        | simp only [WL, intF, strF, WM, Int.reduceToNat, ne_eq, reduceCtorEq, not_false_eq_true, Nat.reduceAdd, Nat.reduceSub, Nat.reduceLT, Nat.reduceLeDiff, Nat.reduceEqDiff, Bool.not_true, Bool.not_false, beq_self_eq_true, true_and, and_true, reduceIte, Bool.false_eq_true, run_scope, scope_normal, scope_ret, scope_exit, scope_panic, T3, T4, T24, T50, T64, fC fl64_1, fR fl64_1, fC fl64_2, fR fl64_2, cok76, Try.results36]
        | simp (disch := first | omega | (simp only [LN_]; omega)) only [wrap_id, getI]
        | with_reducible first | refine andA (hb := ?_) | refine y_load (hK := ?_) | refine y_loadA (hK := ?_) | refine y_store (hK := ?_) | refine y_storeA (hK := ?_) | refine y_box (hK := fun b => ?_) | refine y_new (hK := fun b => ?_) | refine y_build (hK := ?_) | refine cD (Blank ?_)
        | ((with_reducible refine resL_id ?_); apply res_ctt (hf := Try.results36); exact y_load2)
        | with_reducible refine y_nil (hK := ?_)
        | (with_reducible refine nilTC_split (fun h => ?_) (fun h bn => ?_) <;> (try simp only [List.length_map] at h))
        | ((with_reducible first | refine grd_cases (fun h => ?_) (fun h => ?_) | refine condC_split (fun h => ?_) (fun h => ?_)) <;> (try simp only [h]) <;> (try simp only [NR_, Bool.not_true, Bool.not_false, Bool.not_eq_eq_eq_not, ne_eq] at h))
        | omega | (simp only [LN_]; omega))
      all_goals try exact ⟨j + 1, St_leW (by repeat (first | exact trivial | refine ⟨le_rfl, ?_⟩ | refine ⟨le_any, ?_⟩ | refine ⟨le_ro, ?_⟩ | refine ⟨le_nil (by decide), ?_⟩ | refine ⟨le_wrap (by omega) (by omega) (by omega), ?_⟩ | refine ⟨le_int (by omega), ?_⟩ | refine ⟨le_eq (by simp), ?_⟩)) (ResW.refl _) id, ⟨by omega, by omega, k3.trans (blank_at (by omega) (by assumption))⟩, by omega⟩
      all_goals
        have hd : (l.drop i).dropWhile blankI = l.drop j := by
          first
            | exact k3.trans (blank_stop (by omega) (by assumption))
            | (rw [k3, List.drop_eq_nil_of_le (show l.length ≤ j by omega)]; rfl)
        have hh := headI_at hpos h62 h3 h2 k1 k2 hd
        first
          | (rw [if_pos (by omega)] at hh; exact leafL (sub_cons (sub_cons sub_rfl)) (leT_eq (by rw [hh])) hK)
          | (rw [if_neg (by omega)] at hh; exact leafL (sub_cons (sub_cons sub_rfl)) (leT_eq (by rw [hh])) hK)
          | trace_state

-- marginaliaref1.Head
-- (no function marginaliaref1.Head in this program)
