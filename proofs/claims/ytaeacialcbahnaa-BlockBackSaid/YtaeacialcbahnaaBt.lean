/-
  The law BlockBack.
-/
import Derived.Test.YtaeacialcbahnaaBq
import Derived.Test.YtaeacialcbahnaaSz
namespace Go.Proofs.Ytaeacialcbahnaa
open Go.Abs
set_option linter.unusedVariables false
set_option linter.unusedSimpArgs false
-- hb: 8000000
-- rd: 20000
variable {κ : Ctx} {σ : List Res} {K : Ret → List Res → Prop} {o o' : Option (Option (Nat × Nat))}

set_option maxHeartbeats 8000000 in
set_option maxRecDepth 20000 in
theorem head_back {m : Int} (h1 : 1 ≤ m) (h2 : m ≤ 9) : headI [124, 48 + m, 43] = ((false, 2, m), 3, 0) := by
  rcases (show m = 1 ∨ m = 2 ∨ m = 3 ∨ m = 4 ∨ m = 5 ∨ m = 6 ∨ m = 7 ∨ m = 8 ∨ m = 9 by omega) with rfl | rfl | rfl | rfl | rfl | rfl | rfl | rfl | rfl <;> decide
abbrev twl (t : List Int) : Nat := (t.takeWhile (· == 32)).length
set_option maxHeartbeats 8000000 in
set_option maxRecDepth 20000 in
theorem twl_le (t : List Int) : twl t ≤ t.length := (List.takeWhile_prefix _).length_le
set_option maxHeartbeats 8000000 in
set_option maxRecDepth 20000 in
theorem dw_drop (t : List Int) : t.dropWhile (· == 32) = t.drop (twl t) := by
  have h := List.takeWhile_append_dropWhile (p := (· == (32 : Int))) (l := t)
  have h2 := congrArg (List.drop (twl t)) h
  rw [List.drop_left' rfl] at h2
  exact h2
set_option maxHeartbeats 8000000 in
set_option maxRecDepth 20000 in
theorem take_snoc {l : List (List Int)} {k : Nat} (h : k < l.length) : l.take (k + 1) = l.take k ++ [l.getD k []] := by
  rw [List.take_succ_eq_append_getElem h]; simp [List.getD_eq_getElem?_getD, h]
abbrev inA (d : Int) (t : List Int) : AV := .agg [I (d + (twl t : Nat)), SI none (t.drop (twl t))]
set_option maxHeartbeats 8000000 in
set_option maxRecDepth 20000 in
theorem inA_le (d : Int) (t : List Int) : inA d t = LN (inLine d t) := by
  unfold inLine LN; rw [dw_drop]
set_option maxHeartbeats 8000000 in
set_option maxRecDepth 20000 in
theorem twB_step {t : List Int} {j : Nat} (h : j ≤ twl t) (h1 : j < t.length) (h2 : t.getD j 0 = 32) : j + 1 ≤ twl t := tw_step (d := 0) h h1 (by rw [h2]; rfl)
set_option maxHeartbeats 8000000 in
set_option maxRecDepth 20000 in
theorem twB_stop {t : List Int} {j : Nat} (h : j ≤ twl t) (h1 : t.length ≤ j ∨ ¬ t.getD j 0 = 32) : j = twl t := by
  rcases Nat.lt_or_ge j t.length with hj | hj
  · exact tw_stop (d := 0) h hj (by rcases h1 with h1 | h1; · omega
                                    · simpa using h1)
  · have := twl_le t; omega

set_option maxHeartbeats 8000000 in
set_option maxRecDepth 20000 in
theorem RD_le {o : Option (Option (Nat × Nat))} {l : List Ln} : leS (.sl 2 o (l.map LN ++ [.agg [I 0, .sl 1 none [I 120]]])) (SL none (l ++ [(0, [120])])) := by
  rw [SL, List.map_append]
  exact leS_le le_ro
set_option maxHeartbeats 8000000 in
set_option maxRecDepth 20000 in
theorem linesF_100 {l : List (List Int)} : ∀ (k : Nat), k ≤ l.length → (∀ j, j < k → (l.getD j []).length ≤ 100) → (linesF (l.take k)).length ≤ 101 * k
  | 0, _, _ => by simp [linesF]
  | k + 1, hk, h => by
    have ih := linesF_100 k (by omega) (fun j hj => h j (by omega))
    have := h k (by omega)
    rw [take_snoc (by omega), linesF_snoc]
    simp only [List.length_append, List.length_cons, List.length_nil]
    omega

-- marginalialaw10.BlockBack
set_option maxHeartbeats 8000000 in
set_option maxRecDepth 20000 in
theorem blockBack {l : List (List Int)} {n m : Int} : ACallF κ Try.prog 10 [SSI none l, I n, I m] [] (fun r _ => r = .ret (B true)) := by
  refine ACallF.dropL (ACallF_introA Try.func10 rfl ?_)
  simp only [Try.ntmps10]
  repeat' (first
    | with_reducible first | refine cut_at (id := 5) ?_ | refine cut_unit (id := 5) ?_ | refine cut_one (id := 5) ?_ | refine AW_seqA (AW_block ?_) | refine AW_block ?_ | refine cut_seqloop ?_ | refine cut_loop ?_ | refine AW_seqA (AW_seqA ?_) | refine AW_seq ?_ | refine AW_runReg ?_ | refine AW_runCond ?_ | refine AW_runExit ?_ | refine AW_runRet ?_ | refine AW_runSkip ?_ | refine AW_runLabel ?_
    | simp only [WL, intF, strF, WM, Int.reduceToNat, ne_eq, reduceCtorEq, not_false_eq_true, Nat.reduceAdd, Nat.reduceSub, Nat.reduceLT, Nat.reduceLeDiff, Nat.reduceEqDiff, Bool.not_true, Bool.not_false, beq_self_eq_true, true_and, and_true, reduceIte, Bool.false_eq_true, convC_sl, convC_str, T3, T4, T5, T9, T24, T30, T50, T59, T64, T69, T71, cok17, cok30, cok32, cok34, cok35, cok36, Try.results10]
    | simp (disch := first | omega | (simp only [LN_]; omega)) only [wrap_id, getI]
    | with_reducible first | refine andA (hb := ?_) | refine y_load (hK := ?_) | refine y_loadA (hK := ?_) | refine y_storeA (hK := ?_) | refine y_box (hK := fun b => ?_) | refine y_new (hK := fun b => ?_) | refine y_appN ?_ | refine y_appS ?_ | refine y_app (hlen := ?_) (hmax := ?_) (hK := fun tk => ?_) | refine y_bs0 ?_ | refine y_bs (hK := ?_) | refine y_build (hK := ?_) | refine y_bytes ?_ | refine cQ (rBytes ?_ isR_mk) ?_ | refine cD (rBytes ?_ ?_) | refine cQ (alive10 isR_mk) ?_ | refine cD (alive10 ?_) | refine cQ (bRead ?_ ?_ isR_mk) ?_ | refine cD (bRead ?_ ?_ ?_) | refine cQ (num10 isR_mk) ?_ | refine cD (num10 ?_) | refine cQ (rPrint isR_mk) ?_ | refine cD (rPrint ?_) | refine cQ (bHead ?_ isR_mk) ?_ | refine cD (bHead ?_ ?_)
    | ((with_reducible refine AW_phE (id := 25) [0, 1, 2, 3, 5, 6] (some 4) [([7, 8, 9, 10, 11, 12, 13, 14], none)] (fun _ => True) trivial mixed ?_ ?_); kernel_rfl)
    | ((with_reducible apply phE_intro); intro σq hq)
    | (with_reducible exact isT_mk)
    | ((with_reducible apply phC_ops); rfl; rfl)
    | (with_reducible refine phQ_mk trivial ?_)
    | (with_reducible refine dmQ_mk ?_)
    | with_reducible refine y_nil (hK := ?_)
    | (with_reducible refine nilTC_split (fun h => ?_) (fun h bn => ?_) <;> (try simp only [List.length_map] at h))
    | ((with_reducible first | refine grd_cases (fun h => ?_) (fun h => ?_) | refine condC_split (fun h => ?_) (fun h => ?_)) <;> (try simp only [h]) <;> (try simp only [NR_, Bool.not_true, Bool.not_false, Bool.not_eq_eq_eq_not, ne_eq] at h))
    | omega | (simp only [LN_]; omega) | (refine maxLen_ok ?_; (first | omega | (simp only [LN_]; omega))))
  all_goals try exact leafLaw rfl
  refine midA (fun d : Int => ⟨(SSI none l :: I n :: I m :: .any :: .any :: .any :: .any :: .any :: I d :: .any :: .any :: .any :: .any :: .any :: .any :: .any :: .any :: .any :: .any :: .any :: .any :: .any :: .any :: .any :: .any :: .any :: .any :: .any :: .any :: .any :: .any :: .any :: .any :: .any :: .any :: .any :: .any :: .any :: .any :: .any :: .any :: .any :: .any :: .any :: .any :: .any :: .any :: .any :: .any :: .any :: .any :: .any :: .any :: .any :: .any :: .any :: .any :: .any :: .any :: .any :: .any :: .any :: .any :: .any :: .any :: .any :: .any :: .any :: .any :: .any :: .any :: .any :: .any :: .any :: .any :: .any :: .any :: .any :: .any :: .any :: .any :: .any :: .any :: .any :: .any :: .any :: .any :: .any :: .any :: .any :: .any :: .any :: .any :: .any :: .any :: .any :: .any :: .any :: .any :: .any :: .any :: .any :: .any :: .any :: .any :: .any :: .any :: .any :: .any :: .any :: .any :: .any :: .any :: .any :: .any :: .any :: .any :: .any :: .any :: .any :: .any :: .any :: .any :: .any :: .any :: .any :: .any :: .any :: .any :: .any :: .any :: .any :: .any :: .any :: .any :: .any :: .any :: .any :: .any :: .any :: .any :: .any :: .any :: .any :: .any :: .any :: .any :: .any :: .any :: .any :: .any :: .any :: .any :: .any :: .any :: .any :: .any :: .any :: .any :: .any :: .any :: .any :: .any :: .any :: .any :: .any :: .any :: .any :: .any :: .any :: .any :: .any :: .any :: .any :: .any :: .any :: .any :: .any :: .any :: .any :: .any :: .any :: .any :: .any :: .any :: .any :: .any :: []), [], true, []⟩) (fun d => d = max 0 n + m) ?_ ?_
  · skip
    repeat' (first
      | with_reducible first | refine AW_seqA (AW_block ?_) | refine AW_block ?_ | refine cut_seqloop ?_ | refine cut_loop ?_ | refine AW_seqA (AW_seqA ?_) | refine AW_seq ?_ | refine AW_runReg ?_ | refine AW_runCond ?_ | refine AW_runExit ?_ | refine AW_runRet ?_ | refine AW_runSkip ?_ | refine AW_runLabel ?_
      | simp only [WL, intF, strF, WM, Int.reduceToNat, ne_eq, reduceCtorEq, not_false_eq_true, Nat.reduceAdd, Nat.reduceSub, Nat.reduceLT, Nat.reduceLeDiff, Nat.reduceEqDiff, Bool.not_true, Bool.not_false, beq_self_eq_true, true_and, and_true, reduceIte, Bool.false_eq_true, convC_sl, convC_str, T3, T4, T5, T9, T24, T30, T50, T59, T64, T69, T71, cok17, cok30, cok32, cok34, cok35, cok36, Try.results10]
      | simp (disch := first | omega | (simp only [LN_]; omega)) only [wrap_id, getI]
      | with_reducible first | refine andA (hb := ?_) | refine y_load (hK := ?_) | refine y_loadA (hK := ?_) | refine y_storeA (hK := ?_) | refine y_box (hK := fun b => ?_) | refine y_new (hK := fun b => ?_) | refine y_appN ?_ | refine y_appS ?_ | refine y_app (hlen := ?_) (hmax := ?_) (hK := fun tk => ?_) | refine y_bs0 ?_ | refine y_bs (hK := ?_) | refine y_build (hK := ?_) | refine y_bytes ?_ | refine cQ (rBytes ?_ isR_mk) ?_ | refine cD (rBytes ?_ ?_) | refine cQ (alive10 isR_mk) ?_ | refine cD (alive10 ?_) | refine cQ (bRead ?_ ?_ isR_mk) ?_ | refine cD (bRead ?_ ?_ ?_) | refine cQ (num10 isR_mk) ?_ | refine cD (num10 ?_) | refine cQ (rPrint isR_mk) ?_ | refine cD (rPrint ?_) | refine cQ (bHead ?_ isR_mk) ?_ | refine cD (bHead ?_ ?_)
      | ((with_reducible refine AW_phE (id := 25) [0, 1, 2, 3, 5, 6] (some 4) [([7, 8, 9, 10, 11, 12, 13, 14], none)] (fun _ => True) trivial mixed ?_ ?_); kernel_rfl)
      | ((with_reducible apply phE_intro); intro σq hq)
      | (with_reducible exact isT_mk)
      | ((with_reducible apply phC_ops); rfl; rfl)
      | (with_reducible refine phQ_mk trivial ?_)
      | (with_reducible refine dmQ_mk ?_)
      | with_reducible refine y_nil (hK := ?_)
      | (with_reducible refine nilTC_split (fun h => ?_) (fun h bn => ?_) <;> (try simp only [List.length_map] at h))
      | ((with_reducible first | refine grd_cases (fun h => ?_) (fun h => ?_) | refine condC_split (fun h => ?_) (fun h => ?_)) <;> (try simp only [h]) <;> (try simp only [NR_, Bool.not_true, Bool.not_false, Bool.not_eq_eq_eq_not, ne_eq] at h))
      | omega | (simp only [LN_]; omega) | (refine maxLen_ok ?_; (first | omega | (simp only [LN_]; omega))))
    all_goals exact ⟨max 0 n + m, St_leW (by repeat (first | exact trivial | refine ⟨le_rfl, ?_⟩ | refine ⟨le_any, ?_⟩ | refine ⟨le_ro, ?_⟩ | refine ⟨le_nil (by decide), ?_⟩ | refine ⟨le_wrap (by omega) (by omega) (by omega), ?_⟩ | refine ⟨le_int (by omega), ?_⟩ | refine ⟨le_eq (by simp), ?_⟩)) (ResW.refl _) id, rfl⟩
  intro d hd
  repeat' (first
    | with_reducible first | refine AW_seqA (AW_block ?_) | refine AW_block ?_ | refine cut_seqloop ?_ | refine cut_loop ?_ | refine AW_seqA (AW_seqA ?_) | refine AW_seq ?_ | refine AW_runReg ?_ | refine AW_runCond ?_ | refine AW_runExit ?_ | refine AW_runRet ?_ | refine AW_runSkip ?_ | refine AW_runLabel ?_
    | simp only [WL, intF, strF, WM, Int.reduceToNat, ne_eq, reduceCtorEq, not_false_eq_true, Nat.reduceAdd, Nat.reduceSub, Nat.reduceLT, Nat.reduceLeDiff, Nat.reduceEqDiff, Bool.not_true, Bool.not_false, beq_self_eq_true, true_and, and_true, reduceIte, Bool.false_eq_true, convC_sl, convC_str, T3, T4, T5, T9, T24, T30, T50, T59, T64, T69, T71, cok17, cok30, cok32, cok34, cok35, cok36, Try.results10]
    | simp (disch := first | omega | (simp only [LN_]; omega)) only [wrap_id, getI]
    | with_reducible first | refine andA (hb := ?_) | refine y_load (hK := ?_) | refine y_loadA (hK := ?_) | refine y_storeA (hK := ?_) | refine y_box (hK := fun b => ?_) | refine y_new (hK := fun b => ?_) | refine y_appN ?_ | refine y_appS ?_ | refine y_app (hlen := ?_) (hmax := ?_) (hK := fun tk => ?_) | refine y_bs0 ?_ | refine y_bs (hK := ?_) | refine y_build (hK := ?_) | refine y_bytes ?_ | refine cQ (rBytes ?_ isR_mk) ?_ | refine cD (rBytes ?_ ?_) | refine cQ (alive10 isR_mk) ?_ | refine cD (alive10 ?_) | refine cQ (bRead ?_ ?_ isR_mk) ?_ | refine cD (bRead ?_ ?_ ?_) | refine cQ (num10 isR_mk) ?_ | refine cD (num10 ?_) | refine cQ (rPrint isR_mk) ?_ | refine cD (rPrint ?_) | refine cQ (bHead ?_ isR_mk) ?_ | refine cD (bHead ?_ ?_)
    | ((with_reducible refine AW_phE (id := 25) [0, 1, 2, 3, 5, 6] (some 4) [([7, 8, 9, 10, 11, 12, 13, 14], none)] (fun _ => True) trivial mixed ?_ ?_); kernel_rfl)
    | ((with_reducible apply phE_intro); intro σq hq)
    | (with_reducible exact isT_mk)
    | ((with_reducible apply phC_ops); rfl; rfl)
    | (with_reducible refine phQ_mk trivial ?_)
    | (with_reducible refine dmQ_mk ?_)
    | with_reducible refine y_nil (hK := ?_)
    | (with_reducible refine nilTC_split (fun h => ?_) (fun h bn => ?_) <;> (try simp only [List.length_map] at h))
    | ((with_reducible first | refine grd_cases (fun h => ?_) (fun h => ?_) | refine condC_split (fun h => ?_) (fun h => ?_)) <;> (try simp only [h]) <;> (try simp only [NR_, Bool.not_true, Bool.not_false, Bool.not_eq_eq_eq_not, ne_eq] at h))
    | omega | (simp only [LN_]; omega) | (refine maxLen_ok ?_; (first | omega | (simp only [LN_]; omega))))
  refine loopA (fun x : Nat × Option (Nat × Nat) × Option (Nat × Nat) => ⟨(SSI none l :: I n :: I m :: .any :: .any :: .any :: .any :: .any :: I d :: .sl 2 (some x.2.1) ((l.take x.1).map (inA d)) :: SI (some x.2.2) (linesF (l.take x.1)) :: I x.1 :: .any :: .any :: .any :: .any :: .any :: .any :: .any :: .any :: .any :: .any :: .any :: .any :: .any :: .any :: .any :: .any :: .any :: .any :: .any :: .any :: .any :: .any :: .any :: .any :: .any :: .any :: .any :: .any :: .any :: .any :: .any :: .any :: .any :: .any :: .any :: .any :: .any :: .any :: .any :: .any :: .any :: .any :: .any :: .any :: .any :: .any :: .any :: .any :: .any :: .any :: .any :: .any :: .any :: .any :: .any :: .any :: .any :: .any :: .any :: .any :: .any :: .any :: .any :: .any :: .any :: .any :: .any :: .any :: .any :: .any :: .any :: .any :: .any :: .any :: .any :: .any :: .any :: .any :: .any :: .any :: .any :: .any :: .any :: .any :: .any :: .any :: .any :: .any :: .any :: .any :: .any :: .any :: .any :: .any :: .any :: .any :: .any :: .any :: .any :: .any :: .any :: .any :: .any :: .any :: .any :: .any :: .any :: .any :: .any :: .any :: .any :: .any :: .any :: .any :: .any :: .any :: .any :: .any :: .any :: .any :: .any :: .any :: .any :: .any :: .any :: .any :: .any :: .any :: .any :: .any :: .any :: .any :: .any :: .any :: .any :: .any :: .any :: .any :: .any :: .any :: .any :: .any :: .any :: .any :: .any :: .any :: .any :: .any :: .any :: .any :: .any :: .any :: .any :: .any :: .any :: .any :: .any :: .any :: .any :: .any :: .any :: .any :: .any :: .any :: .any :: .any :: .any :: .any :: .any :: .any :: .any :: .any :: .any :: .any :: .any :: []), [.tip x.2.1, .tip x.2.2], true, []⟩)
    (fun x => x.1 ≤ l.length ∧ ∀ j, j < x.1 → (l.getD j []).length ≤ 100) (fun x => l.length - x.1) (0, none, none) (St_leW (by repeat (first | exact trivial | refine ⟨le_rfl, ?_⟩ | refine ⟨le_any, ?_⟩ | refine ⟨le_ro, ?_⟩ | refine ⟨le_nil (by decide), ?_⟩ | refine ⟨le_wrap (by omega) (by omega) (by omega), ?_⟩ | refine ⟨le_int (by omega), ?_⟩ | refine ⟨le_eq (by simp), ?_⟩)) (ResW.void.trans ResW.void) id) ⟨Nat.zero_le _, fun j h => by omega⟩ ?_
  rintro ⟨k, t1, t2⟩ hx
  dsimp only at hx ⊢
  have hk := hx.1
  have hall := hx.2
  rcases Nat.lt_or_ge k l.length with hkl | hkl
  · have w1 := twl_le (l.getD k [])
    have w2 : (linesF (l.take k)).length ≤ 101 * k := linesF_100 k hk hall
    repeat' (first
      | with_reducible first | refine cut_blk (id := 2) ?_ | refine AW_seqA (AW_block ?_) | refine AW_block ?_ | refine cut_seqloop ?_ | refine cut_loop ?_ | refine AW_seqA (AW_seqA ?_) | refine AW_seq ?_ | refine AW_runReg ?_ | refine AW_runCond ?_ | refine AW_runExit ?_ | refine AW_runRet ?_ | refine AW_runSkip ?_ | refine AW_runLabel ?_
      | simp only [WL, intF, strF, WM, Int.reduceToNat, ne_eq, reduceCtorEq, not_false_eq_true, Nat.reduceAdd, Nat.reduceSub, Nat.reduceLT, Nat.reduceLeDiff, Nat.reduceEqDiff, Bool.not_true, Bool.not_false, beq_self_eq_true, true_and, and_true, reduceIte, Bool.false_eq_true, convC_sl, convC_str, T3, T4, T5, T9, T24, T30, T50, T59, T64, T69, T71, cok17, cok30, cok32, cok34, cok35, cok36, Try.results10]
      | simp (disch := first | omega | (simp only [LN_]; omega)) only [wrap_id, getI, getS]
      | with_reducible first | refine andA (hb := ?_) | refine y_load (hK := ?_) | refine y_loadA (hK := ?_) | refine y_storeA (hK := ?_) | refine y_box (hK := fun b => ?_) | refine y_new (hK := fun b => ?_) | refine y_appN ?_ | refine y_appS ?_ | refine y_app (hlen := ?_) (hmax := ?_) (hK := fun tk => ?_) | refine y_bs0 ?_ | refine y_bs (hK := ?_) | refine y_build (hK := ?_) | refine y_bytes ?_ | refine cQ (rBytes ?_ isR_mk) ?_ | refine cD (rBytes ?_ ?_) | refine cQ (alive10 isR_mk) ?_ | refine cD (alive10 ?_) | refine cQ (bRead ?_ ?_ isR_mk) ?_ | refine cD (bRead ?_ ?_ ?_) | refine cQ (num10 isR_mk) ?_ | refine cD (num10 ?_) | refine cQ (rPrint isR_mk) ?_ | refine cD (rPrint ?_) | refine cQ (bHead ?_ isR_mk) ?_ | refine cD (bHead ?_ ?_)
      | ((with_reducible refine AW_phE (id := 25) [0, 1, 2, 3, 5, 6] (some 4) [([7, 8, 9, 10, 11, 12, 13, 14], none)] (fun _ => True) trivial mixed ?_ ?_); kernel_rfl)
      | ((with_reducible apply phE_intro); intro σq hq)
      | (with_reducible exact isT_mk)
      | ((with_reducible apply phC_ops); rfl; rfl)
      | (with_reducible refine phQ_mk trivial ?_)
      | (with_reducible refine dmQ_mk ?_)
      | with_reducible refine y_nil (hK := ?_)
      | (with_reducible refine nilTC_split (fun h => ?_) (fun h bn => ?_) <;> (try simp only [List.length_map] at h))
      | ((with_reducible first | refine grd_cases (fun h => ?_) (fun h => ?_) | refine condC_split (fun h => ?_) (fun h => ?_)) <;> (try simp only [h]) <;> (try simp only [NR_, Bool.not_true, Bool.not_false, Bool.not_eq_eq_eq_not, ne_eq] at h))
      | omega | (simp only [LN_]; omega) | (refine maxLen_ok ?_; (first | omega | (simp only [LN_]; omega))))
    all_goals try exact leafLaw rfl
    refine midA (fun _ : Unit => ⟨(SSI none l :: I n :: I m :: .any :: .any :: .any :: .any :: .any :: I d :: .sl 2 (some t1) ((l.take k).map (inA d)) :: SI (some t2) (linesF (l.take k)) :: I k :: I (twl (l.getD k [])) :: .any :: .any :: .any :: .any :: .any :: .any :: .any :: .any :: .any :: .any :: .any :: .any :: .any :: .any :: .any :: .any :: .any :: .any :: .any :: .any :: .any :: .any :: .any :: .any :: .any :: .any :: .any :: .any :: .any :: .any :: .any :: .any :: .any :: .any :: .any :: .any :: .any :: .any :: .any :: .any :: .any :: .any :: .any :: .any :: .any :: .any :: .any :: .any :: .any :: .any :: .any :: .any :: .any :: .any :: .any :: .any :: .any :: .any :: .any :: .any :: .any :: .any :: .any :: .any :: .any :: .any :: .any :: .any :: .any :: .any :: .any :: .any :: .any :: .any :: .any :: .any :: .any :: .any :: .any :: .any :: .any :: .any :: .any :: .any :: .any :: .any :: .any :: .any :: .any :: .any :: .any :: .any :: .any :: .any :: .any :: .any :: .any :: .any :: .any :: .any :: .any :: .any :: .any :: .any :: .any :: .any :: .any :: .any :: .any :: .any :: .any :: .any :: .any :: .any :: .any :: .any :: .any :: .any :: .any :: .any :: .any :: .any :: .any :: .any :: .any :: .any :: .any :: .any :: .any :: .any :: .any :: .any :: .any :: .any :: .any :: .any :: .any :: .any :: .any :: .any :: .any :: .any :: .any :: .any :: .any :: .any :: .any :: .any :: .any :: .any :: .any :: .any :: .any :: .any :: .any :: .any :: .any :: .any :: .any :: .any :: .any :: .any :: .any :: .any :: .any :: .any :: .any :: .any :: .any :: .any :: .any :: .any :: .any :: .any :: []), [.tip t1, .tip t2], true, []⟩) (fun _ => True) ?_ ?_
    · skip
      repeat' (first
        | with_reducible first | refine AW_seqA (AW_block ?_) | refine AW_block ?_ | refine cut_seqloop ?_ | refine cut_loop ?_ | refine AW_seqA (AW_seqA ?_) | refine AW_seq ?_ | refine AW_runReg ?_ | refine AW_runCond ?_ | refine AW_runExit ?_ | refine AW_runRet ?_ | refine AW_runSkip ?_ | refine AW_runLabel ?_
        | simp only [WL, intF, strF, WM, Int.reduceToNat, ne_eq, reduceCtorEq, not_false_eq_true, Nat.reduceAdd, Nat.reduceSub, Nat.reduceLT, Nat.reduceLeDiff, Nat.reduceEqDiff, Bool.not_true, Bool.not_false, beq_self_eq_true, true_and, and_true, reduceIte, Bool.false_eq_true, convC_sl, convC_str, T3, T4, T5, T9, T24, T30, T50, T59, T64, T69, T71, cok17, cok30, cok32, cok34, cok35, cok36, Try.results10]
        | simp (disch := first | omega | (simp only [LN_]; omega)) only [wrap_id, getI, getS]
        | with_reducible first | refine andA (hb := ?_) | refine y_load (hK := ?_) | refine y_loadA (hK := ?_) | refine y_storeA (hK := ?_) | refine y_box (hK := fun b => ?_) | refine y_new (hK := fun b => ?_) | refine y_appN ?_ | refine y_appS ?_ | refine y_app (hlen := ?_) (hmax := ?_) (hK := fun tk => ?_) | refine y_bs0 ?_ | refine y_bs (hK := ?_) | refine y_build (hK := ?_) | refine y_bytes ?_ | refine cQ (rBytes ?_ isR_mk) ?_ | refine cD (rBytes ?_ ?_) | refine cQ (alive10 isR_mk) ?_ | refine cD (alive10 ?_) | refine cQ (bRead ?_ ?_ isR_mk) ?_ | refine cD (bRead ?_ ?_ ?_) | refine cQ (num10 isR_mk) ?_ | refine cD (num10 ?_) | refine cQ (rPrint isR_mk) ?_ | refine cD (rPrint ?_) | refine cQ (bHead ?_ isR_mk) ?_ | refine cD (bHead ?_ ?_)
        | ((with_reducible refine AW_phE (id := 25) [0, 1, 2, 3, 5, 6] (some 4) [([7, 8, 9, 10, 11, 12, 13, 14], none)] (fun _ => True) trivial mixed ?_ ?_); kernel_rfl)
        | ((with_reducible apply phE_intro); intro σq hq)
        | (with_reducible exact isT_mk)
        | ((with_reducible apply phC_ops); rfl; rfl)
        | (with_reducible refine phQ_mk trivial ?_)
        | (with_reducible refine dmQ_mk ?_)
        | with_reducible refine y_nil (hK := ?_)
        | (with_reducible refine nilTC_split (fun h => ?_) (fun h bn => ?_) <;> (try simp only [List.length_map] at h))
        | ((with_reducible first | refine grd_cases (fun h => ?_) (fun h => ?_) | refine condC_split (fun h => ?_) (fun h => ?_)) <;> (try simp only [h]) <;> (try simp only [NR_, Bool.not_true, Bool.not_false, Bool.not_eq_eq_eq_not, ne_eq] at h))
        | omega | (simp only [LN_]; omega) | (refine maxLen_ok ?_; (first | omega | (simp only [LN_]; omega))))
      refine loopA (fun j : Nat => ⟨(SSI none l :: I n :: I m :: .any :: .any :: .any :: .any :: .any :: I d :: .sl 2 (some t1) ((l.take k).map (inA d)) :: SI (some t2) (linesF (l.take k)) :: I k :: I j :: .any :: .any :: .any :: .any :: .any :: .any :: .any :: .any :: .any :: .any :: .any :: .any :: .any :: .any :: .any :: .any :: .any :: .any :: .any :: .any :: .any :: .any :: .any :: .any :: .any :: .any :: .any :: .any :: .any :: .any :: .any :: .any :: .any :: .any :: .any :: .any :: .any :: .any :: .any :: .any :: .any :: .any :: .any :: .any :: .any :: .any :: .any :: .any :: .any :: .any :: .any :: .any :: .any :: .any :: .any :: .any :: .any :: .any :: .any :: .any :: .any :: .any :: .any :: .any :: .any :: .any :: .any :: .any :: .any :: .any :: .any :: .any :: .any :: .any :: .any :: .any :: .any :: .any :: .any :: .any :: .any :: .any :: .any :: .any :: .any :: .any :: .any :: .any :: .any :: .any :: .any :: .any :: .any :: .any :: .any :: .any :: .any :: .any :: .any :: .any :: .any :: .any :: .any :: .any :: .any :: .any :: .any :: .any :: .any :: .any :: .any :: .any :: .any :: .any :: .any :: .any :: .any :: .any :: .any :: .any :: .any :: .any :: .any :: .any :: .any :: .any :: .any :: .any :: .any :: .any :: .any :: .any :: .any :: .any :: .any :: .any :: .any :: .any :: .any :: .any :: .any :: .any :: .any :: .any :: .any :: .any :: .any :: .any :: .any :: .any :: .any :: .any :: .any :: .any :: .any :: .any :: .any :: .any :: .any :: .any :: .any :: .any :: .any :: .any :: .any :: .any :: .any :: .any :: .any :: .any :: .any :: .any :: .any :: .any :: []), [.tip t1, .tip t2], true, []⟩) (fun j => j ≤ twl (l.getD k [])) (fun j => (l.getD k []).length - j) 0 (St_leW (by repeat (first | exact trivial | refine ⟨le_rfl, ?_⟩ | refine ⟨le_any, ?_⟩ | refine ⟨le_ro, ?_⟩ | refine ⟨le_nil (by decide), ?_⟩ | refine ⟨le_wrap (by omega) (by omega) (by omega), ?_⟩ | refine ⟨le_int (by omega), ?_⟩ | refine ⟨le_eq (by simp), ?_⟩)) (ResW.refl _) id) (Nat.zero_le _) ?_
      intro j hj
      repeat' (first
        | with_reducible first | refine AW_seqA (AW_block ?_) | refine AW_block ?_ | refine cut_seqloop ?_ | refine cut_loop ?_ | refine AW_seqA (AW_seqA ?_) | refine AW_seq ?_ | refine AW_runReg ?_ | refine AW_runCond ?_ | refine AW_runExit ?_ | refine AW_runRet ?_ | refine AW_runSkip ?_ | refine AW_runLabel ?_
        | simp only [WL, intF, strF, WM, Int.reduceToNat, ne_eq, reduceCtorEq, not_false_eq_true, Nat.reduceAdd, Nat.reduceSub, Nat.reduceLT, Nat.reduceLeDiff, Nat.reduceEqDiff, Bool.not_true, Bool.not_false, beq_self_eq_true, true_and, and_true, reduceIte, Bool.false_eq_true, convC_sl, convC_str, T3, T4, T5, T9, T24, T30, T50, T59, T64, T69, T71, cok17, cok30, cok32, cok34, cok35, cok36, Try.results10]
        | simp (disch := first | omega | (simp only [LN_]; omega)) only [wrap_id, getI, getS]
        | with_reducible first | refine andA (hb := ?_) | refine y_load (hK := ?_) | refine y_loadA (hK := ?_) | refine y_storeA (hK := ?_) | refine y_box (hK := fun b => ?_) | refine y_new (hK := fun b => ?_) | refine y_appN ?_ | refine y_appS ?_ | refine y_app (hlen := ?_) (hmax := ?_) (hK := fun tk => ?_) | refine y_bs0 ?_ | refine y_bs (hK := ?_) | refine y_build (hK := ?_) | refine y_bytes ?_ | refine cQ (rBytes ?_ isR_mk) ?_ | refine cD (rBytes ?_ ?_) | refine cQ (alive10 isR_mk) ?_ | refine cD (alive10 ?_) | refine cQ (bRead ?_ ?_ isR_mk) ?_ | refine cD (bRead ?_ ?_ ?_) | refine cQ (num10 isR_mk) ?_ | refine cD (num10 ?_) | refine cQ (rPrint isR_mk) ?_ | refine cD (rPrint ?_) | refine cQ (bHead ?_ isR_mk) ?_ | refine cD (bHead ?_ ?_)
        | ((with_reducible refine AW_phE (id := 25) [0, 1, 2, 3, 5, 6] (some 4) [([7, 8, 9, 10, 11, 12, 13, 14], none)] (fun _ => True) trivial mixed ?_ ?_); kernel_rfl)
        | ((with_reducible apply phE_intro); intro σq hq)
        | (with_reducible exact isT_mk)
        | ((with_reducible apply phC_ops); rfl; rfl)
        | (with_reducible refine phQ_mk trivial ?_)
        | (with_reducible refine dmQ_mk ?_)
        | with_reducible refine y_nil (hK := ?_)
        | (with_reducible refine nilTC_split (fun h => ?_) (fun h bn => ?_) <;> (try simp only [List.length_map] at h))
        | ((with_reducible first | refine grd_cases (fun h => ?_) (fun h => ?_) | refine condC_split (fun h => ?_) (fun h => ?_)) <;> (try simp only [h]) <;> (try simp only [NR_, Bool.not_true, Bool.not_false, Bool.not_eq_eq_eq_not, ne_eq] at h))
        | omega | (simp only [LN_]; omega) | (refine maxLen_ok ?_; (first | omega | (simp only [LN_]; omega))))
      all_goals first
        | exact ⟨j + 1, St_leW (by repeat (first | exact trivial | refine ⟨le_rfl, ?_⟩ | refine ⟨le_any, ?_⟩ | refine ⟨le_ro, ?_⟩ | refine ⟨le_nil (by decide), ?_⟩ | refine ⟨le_wrap (by omega) (by omega) (by omega), ?_⟩ | refine ⟨le_int (by omega), ?_⟩ | refine ⟨le_eq (by simp), ?_⟩)) (ResW.refl _) id, twB_step hj (by omega) (by assumption), by omega⟩
        | (obtain rfl := twB_stop hj (by first | exact .inl (by omega) | exact .inr (by assumption))
           exact ⟨(), St_leW (by repeat (first | exact trivial | refine ⟨le_rfl, ?_⟩ | refine ⟨le_any, ?_⟩ | refine ⟨le_ro, ?_⟩ | refine ⟨le_nil (by decide), ?_⟩ | refine ⟨le_wrap (by omega) (by omega) (by omega), ?_⟩ | refine ⟨le_int (by omega), ?_⟩ | refine ⟨le_eq (by simp), ?_⟩)) (ResW.refl _) id⟩)
    · rintro _ _
      repeat' (first
        | with_reducible first | refine AW_seqA (AW_block ?_) | refine AW_block ?_ | refine cut_seqloop ?_ | refine cut_loop ?_ | refine AW_seqA (AW_seqA ?_) | refine AW_seq ?_ | refine AW_runReg ?_ | refine AW_runCond ?_ | refine AW_runExit ?_ | refine AW_runRet ?_ | refine AW_runSkip ?_ | refine AW_runLabel ?_
        | simp only [WL, intF, strF, WM, Int.reduceToNat, ne_eq, reduceCtorEq, not_false_eq_true, Nat.reduceAdd, Nat.reduceSub, Nat.reduceLT, Nat.reduceLeDiff, Nat.reduceEqDiff, Bool.not_true, Bool.not_false, beq_self_eq_true, true_and, and_true, reduceIte, Bool.false_eq_true, convC_sl, convC_str, T3, T4, T5, T9, T24, T30, T50, T59, T64, T69, T71, cok17, cok30, cok32, cok34, cok35, cok36, Try.results10]
        | simp (disch := first | omega | (simp only [LN_]; omega)) only [wrap_id, getI, getS]
        | with_reducible first | refine andA (hb := ?_) | refine y_load (hK := ?_) | refine y_loadA (hK := ?_) | refine y_storeA (hK := ?_) | refine y_box (hK := fun b => ?_) | refine y_new (hK := fun b => ?_) | refine y_appN ?_ | refine y_appS ?_ | refine y_app (hlen := ?_) (hmax := ?_) (hK := fun tk => ?_) | refine y_bs0 ?_ | refine y_bs (hK := ?_) | refine y_build (hK := ?_) | refine y_bytes ?_ | refine cQ (rBytes ?_ isR_mk) ?_ | refine cD (rBytes ?_ ?_) | refine cQ (alive10 isR_mk) ?_ | refine cD (alive10 ?_) | refine cQ (bRead ?_ ?_ isR_mk) ?_ | refine cD (bRead ?_ ?_ ?_) | refine cQ (num10 isR_mk) ?_ | refine cD (num10 ?_) | refine cQ (rPrint isR_mk) ?_ | refine cD (rPrint ?_) | refine cQ (bHead ?_ isR_mk) ?_ | refine cD (bHead ?_ ?_)
        | ((with_reducible refine AW_phE (id := 25) [0, 1, 2, 3, 5, 6] (some 4) [([7, 8, 9, 10, 11, 12, 13, 14], none)] (fun _ => True) trivial mixed ?_ ?_); kernel_rfl)
        | ((with_reducible apply phE_intro); intro σq hq)
        | (with_reducible exact isT_mk)
        | ((with_reducible apply phC_ops); rfl; rfl)
        | (with_reducible refine phQ_mk trivial ?_)
        | (with_reducible refine dmQ_mk ?_)
        | with_reducible refine y_nil (hK := ?_)
        | (with_reducible refine nilTC_split (fun h => ?_) (fun h bn => ?_) <;> (try simp only [List.length_map] at h))
        | ((with_reducible first | refine grd_cases (fun h => ?_) (fun h => ?_) | refine condC_split (fun h => ?_) (fun h => ?_)) <;> (try simp only [h]) <;> (try simp only [NR_, Bool.not_true, Bool.not_false, Bool.not_eq_eq_eq_not, ne_eq] at h))
        | omega | (simp only [LN_]; omega) | (refine maxLen_ok ?_; (first | omega | (simp only [LN_]; omega))))
      refine loopA (fun j : Nat => ⟨(SSI none l :: I n :: I m :: .any :: .any :: .any :: .any :: .any :: I d :: .sl 2 (some t1) ((l.take k).map (inA d)) :: SI (some t2) (linesF (l.take k)) :: I k :: I (twl (l.getD k [])) :: I j :: .any :: .any :: .any :: .any :: .any :: .any :: .any :: .any :: .any :: .any :: .any :: .any :: .any :: .any :: .any :: .any :: .any :: .any :: .any :: .any :: .any :: .any :: .any :: .any :: .any :: .any :: .any :: .any :: .any :: .any :: .any :: .any :: .any :: .any :: .any :: .any :: .any :: .any :: .any :: .any :: .any :: .any :: .any :: .any :: .any :: .any :: .any :: .any :: .any :: .any :: .any :: .any :: .any :: .any :: .any :: .any :: .any :: .any :: .any :: .any :: .any :: .any :: .any :: .any :: .any :: .any :: .any :: .any :: .any :: .any :: .any :: .any :: .any :: .any :: .any :: .any :: .any :: .any :: .any :: .any :: .any :: .any :: .any :: .any :: .any :: .any :: .any :: .any :: .any :: .any :: .any :: .any :: .any :: .any :: .any :: .any :: .any :: .any :: .any :: .any :: .any :: .any :: .any :: .any :: .any :: .any :: .any :: .any :: .any :: .any :: .any :: .any :: .any :: .any :: .any :: .any :: .any :: .any :: .any :: .any :: .any :: .any :: .any :: .any :: .any :: .any :: .any :: .any :: .any :: .any :: .any :: .any :: .any :: .any :: .any :: .any :: .any :: .any :: .any :: .any :: .any :: .any :: .any :: .any :: .any :: .any :: .any :: .any :: .any :: .any :: .any :: .any :: .any :: .any :: .any :: .any :: .any :: .any :: .any :: .any :: .any :: .any :: .any :: .any :: .any :: .any :: .any :: .any :: .any :: .any :: .any :: .any :: .any :: []), [.tip t1, .tip t2], true, []⟩) (fun j => j ≤ (l.getD k []).length) (fun j => (l.getD k []).length - j) 0 (St_leW (by repeat (first | exact trivial | refine ⟨le_rfl, ?_⟩ | refine ⟨le_any, ?_⟩ | refine ⟨le_ro, ?_⟩ | refine ⟨le_nil (by decide), ?_⟩ | refine ⟨le_wrap (by omega) (by omega) (by omega), ?_⟩ | refine ⟨le_int (by omega), ?_⟩ | refine ⟨le_eq (by simp), ?_⟩)) (ResW.refl _) id) (Nat.zero_le _) ?_
      intro j hj
      repeat' (first
        | with_reducible first | refine AW_seqA (AW_block ?_) | refine AW_block ?_ | refine cut_seqloop ?_ | refine cut_loop ?_ | refine AW_seqA (AW_seqA ?_) | refine AW_seq ?_ | refine AW_runReg ?_ | refine AW_runCond ?_ | refine AW_runExit ?_ | refine AW_runRet ?_ | refine AW_runSkip ?_ | refine AW_runLabel ?_
        | simp only [WL, intF, strF, WM, Int.reduceToNat, ne_eq, reduceCtorEq, not_false_eq_true, Nat.reduceAdd, Nat.reduceSub, Nat.reduceLT, Nat.reduceLeDiff, Nat.reduceEqDiff, Bool.not_true, Bool.not_false, beq_self_eq_true, true_and, and_true, reduceIte, Bool.false_eq_true, convC_sl, convC_str, T3, T4, T5, T9, T24, T30, T50, T59, T64, T69, T71, cok17, cok30, cok32, cok34, cok35, cok36, Try.results10]
        | simp (disch := first | omega | (simp only [LN_]; omega)) only [wrap_id, getI, getS]
        | with_reducible first | refine andA (hb := ?_) | refine y_load (hK := ?_) | refine y_loadA (hK := ?_) | refine y_storeA (hK := ?_) | refine y_box (hK := fun b => ?_) | refine y_new (hK := fun b => ?_) | refine y_appN ?_ | refine y_appS ?_ | refine y_app (hlen := ?_) (hmax := ?_) (hK := fun tk => ?_) | refine y_bs0 ?_ | refine y_bs (hK := ?_) | refine y_build (hK := ?_) | refine y_bytes ?_ | refine cQ (rBytes ?_ isR_mk) ?_ | refine cD (rBytes ?_ ?_) | refine cQ (alive10 isR_mk) ?_ | refine cD (alive10 ?_) | refine cQ (bRead ?_ ?_ isR_mk) ?_ | refine cD (bRead ?_ ?_ ?_) | refine cQ (num10 isR_mk) ?_ | refine cD (num10 ?_) | refine cQ (rPrint isR_mk) ?_ | refine cD (rPrint ?_) | refine cQ (bHead ?_ isR_mk) ?_ | refine cD (bHead ?_ ?_)
        | ((with_reducible refine AW_phE (id := 25) [0, 1, 2, 3, 5, 6] (some 4) [([7, 8, 9, 10, 11, 12, 13, 14], none)] (fun _ => True) trivial mixed ?_ ?_); kernel_rfl)
        | ((with_reducible apply phE_intro); intro σq hq)
        | (with_reducible exact isT_mk)
        | ((with_reducible apply phC_ops); rfl; rfl)
        | (with_reducible refine phQ_mk trivial ?_)
        | (with_reducible refine dmQ_mk ?_)
        | with_reducible refine y_nil (hK := ?_)
        | (with_reducible refine nilTC_split (fun h => ?_) (fun h bn => ?_) <;> (try simp only [List.length_map] at h))
        | ((with_reducible first | refine grd_cases (fun h => ?_) (fun h => ?_) | refine condC_split (fun h => ?_) (fun h => ?_)) <;> (try simp only [h]) <;> (try simp only [NR_, Bool.not_true, Bool.not_false, Bool.not_eq_eq_eq_not, ne_eq] at h))
        | omega | (simp only [LN_]; omega) | (refine maxLen_ok ?_; (first | omega | (simp only [LN_]; omega))))
      all_goals try exact leafLaw rfl
      · exact ⟨j + 1, St_leW (by repeat (first | exact trivial | refine ⟨le_rfl, ?_⟩ | refine ⟨le_any, ?_⟩ | refine ⟨le_ro, ?_⟩ | refine ⟨le_nil (by decide), ?_⟩ | refine ⟨le_wrap (by omega) (by omega) (by omega), ?_⟩ | refine ⟨le_int (by omega), ?_⟩ | refine ⟨le_eq (by simp), ?_⟩)) (ResW.refl _) id, by omega, by omega⟩
      · exact ⟨(k + 1, _, _), St_leW (by simp only [take_snoc hkl, linesF_snoc]; repeat (first | exact trivial | refine ⟨le_rfl, ?_⟩ | refine ⟨le_any, ?_⟩ | refine ⟨le_ro, ?_⟩ | refine ⟨le_nil (by decide), ?_⟩ | refine ⟨le_wrap (by omega) (by omega) (by omega), ?_⟩ | refine ⟨le_int (by omega), ?_⟩ | refine ⟨le_eq (by simp), ?_⟩)) (ResW.refl _) id, ⟨by dsimp only; omega, fun j hj => by
          rcases Nat.lt_or_ge j k with h' | h'
          · exact hall j h'
          · obtain rfl : j = k := by omega
            omega⟩, by dsimp only; omega⟩
  · have hkk : k = l.length := by omega
    subst hkk
    have hh := head_back (m := m) (by assumption) (by assumption)
    have w2 : (linesF (l.take l.length)).length ≤ 101 * l.length := linesF_100 l.length (Nat.le_refl _) hall
    have hb := back_law (n := n) (more := m) (l := l) (by assumption) (by assumption) (by assumption) (by assumption)
    rw [List.take_length] at w2 ⊢
    have hin : (l.map (inA d)) = (l.map (inLine d)).map LN := by rw [List.map_map]; exact List.map_congr_left fun t _ => inA_le d t
    have hok : ∀ x ∈ l.map (inLine d) ++ [(0, [120])], x.2.length ≤ 1000 ∧ 0 ≤ x.1 ∧ x.1 ≤ 1000 := by
      intro x hx
      rw [List.mem_append] at hx
      rcases hx with hx | hx
      · obtain ⟨t, ht, rfl⟩ := List.mem_map.1 hx
        obtain ⟨j, hj, rfl⟩ := List.getElem_of_mem ht
        have h1 := hall j hj
        rw [List.getD_eq_getElem?_getD, List.getElem?_eq_getElem hj, Option.getD_some] at h1
        have h2 := twl_le l[j]
        simp only [inLine, dw_drop, List.length_drop]
        unfold twl at h2 ⊢
        omega
      · simp at hx; subst hx; simp
    have hlen : (l.map (inLine d) ++ [(0, [120])]).length ≤ 1000 := by simp; omega
    rw [← hd] at hb
    rw [hin]
    repeat' (first
      | with_reducible first | refine AW_seqA (AW_block ?_) | refine AW_block ?_ | refine cut_seqloop ?_ | refine cut_loop ?_ | refine AW_seqA (AW_seqA ?_) | refine AW_seq ?_ | refine AW_runReg ?_ | refine AW_runCond ?_ | refine AW_runExit ?_ | refine AW_runRet ?_ | refine AW_runSkip ?_ | refine AW_runLabel ?_
      | simp only [WL, intF, strF, WM, Int.reduceToNat, ne_eq, reduceCtorEq, not_false_eq_true, Nat.reduceAdd, Nat.reduceSub, Nat.reduceLT, Nat.reduceLeDiff, Nat.reduceEqDiff, Bool.not_true, Bool.not_false, beq_self_eq_true, true_and, and_true, reduceIte, Bool.false_eq_true, convC_sl, convC_str, T3, T4, T5, T9, T24, T30, T50, T59, T64, T69, T71, cok17, cok30, cok32, cok34, cok35, cok36, Try.results10, hh, hb]
      | simp (disch := first | omega | (simp only [LN_]; omega)) only [wrap_id, getI]
      | with_reducible first | refine andA (hb := ?_) | refine y_load (hK := ?_) | refine y_loadA (hK := ?_) | refine y_storeA (hK := ?_) | refine y_box (hK := fun b => ?_) | refine y_new (hK := fun b => ?_) | refine y_appN ?_ | refine y_appS ?_ | refine y_app (hlen := ?_) (hmax := ?_) (hK := fun tk => ?_) | refine y_bs0 ?_ | refine y_bs (hK := ?_) | refine y_build (hK := ?_) | refine y_bytes ?_
      | ( refine callD_mk (ACallF.argsS (ys := [SI none [124, 48 + m, 43]]) ⟨leS_le le_rfl, trivial⟩ (bHead (by simp) ?_)))
      | ( ((with_reducible refine AW_phE (id := 25) [0, 1, 2, 3, 5, 6] (some 4) [([7, 8, 9, 10, 11, 12, 13, 14], none)] (fun σ' => ∃ tk, σ' = [.obj b [B false, I 2, I m], .tip tk, .tip t2]) ⟨_, rfl⟩ mixed ?_ ?_); kernel_rfl))
      | ( ((with_reducible apply phE_intro); rintro σq ⟨tkq, rfl⟩))
      | ( (with_reducible refine phQ_mk ⟨_, rfl⟩ ?_))
      | ( refine callD_q (ACallF.argsS (ys := [SL none (l.map (inLine d) ++ [(0, [120])]), HDA (false, 2, m), I n]) ⟨RD_le, leS_le le_rfl, leS_le le_rfl, trivial⟩ (bRead hlen hok isR_mk)) ?_)
      | with_reducible first | refine cQ (rBytes ?_ isR_mk) ?_ | refine cD (rBytes ?_ ?_) | refine cQ (alive10 isR_mk) ?_ | refine cD (alive10 ?_) | refine cQ (bRead ?_ ?_ isR_mk) ?_ | refine cD (bRead ?_ ?_ ?_) | refine cQ (num10 isR_mk) ?_ | refine cD (num10 ?_) | refine cQ (rPrint isR_mk) ?_ | refine cD (rPrint ?_) | refine cQ (bHead ?_ isR_mk) ?_ | refine cD (bHead ?_ ?_)
      | ((with_reducible refine AW_phE (id := 25) [0, 1, 2, 3, 5, 6] (some 4) [([7, 8, 9, 10, 11, 12, 13, 14], none)] (fun _ => True) trivial mixed ?_ ?_); kernel_rfl)
      | ((with_reducible apply phE_intro); intro σq hq)
      | (with_reducible exact isT_mk)
      | ((with_reducible apply phC_ops); rfl; rfl)
      | (with_reducible refine phQ_mk trivial ?_)
      | (with_reducible refine dmQ_mk ?_)
      | with_reducible refine y_nil (hK := ?_)
      | (with_reducible refine nilTC_split (fun h => ?_) (fun h bn => ?_) <;> (try simp only [List.length_map] at h))
      | ((with_reducible first | refine grd_cases (fun h => ?_) (fun h => ?_) | refine condC_split (fun h => ?_) (fun h => ?_)) <;> (try simp only [h]) <;> (try simp only [NR_, Bool.not_true, Bool.not_false, Bool.not_eq_eq_eq_not, ne_eq] at h))
      | omega | (simp only [LN_]; omega) | (refine maxLen_ok ?_; (first | omega | (simp only [LN_]; omega))))
    exact leafLaw (by simp [textI])

set_option maxHeartbeats 8000000 in
set_option maxRecDepth 20000 in
theorem law_BlockBack (κ : Ctx) (l : List (List Int)) (hl : l.length ≤ maxLen ∧ ∀ t ∈ l, t.length ≤ maxLen ∧ ∀ c ∈ t, IntKind.i64.min ≤ c ∧ c ≤ IntKind.i64.max) (n : Int) (hn : IntKind.i64.min ≤ n ∧ n ≤ IntKind.i64.max) (m : Int) (hm : IntKind.i64.min ≤ m ∧ m ≤ IntKind.i64.max) : ACallF κ Try.prog 10 [.sl 1 none (l.map fun t => .sl 1 none (t.map fun n => I n)), I n, I m] [] (fun r _ => r = .ret (B true)) := blockBack
end Go.Proofs.Ytaeacialcbahnaa
