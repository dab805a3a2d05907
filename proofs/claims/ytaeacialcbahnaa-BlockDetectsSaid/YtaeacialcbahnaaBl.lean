/-
  Walks: chapter 10, where lines stand, and what of them belongs to a text.
-/
import Derived.Test.YtaeacialcbahnaaBk
namespace Go.Proofs.Ytaeacialcbahnaa
open Go.Abs
set_option linter.unusedVariables false
set_option linter.unusedSimpArgs false
-- hb: 8000000
variable {κ : Ctx} {σ : List Res} {K : Ret → List Res → Prop} {o o' : Option (Option (Nat × Nat))}

-- block.void
set_option maxHeartbeats 8000000 in
theorem bVoid {n : Int} {t : List Int} (hK : K (.ret (B ((t.length : Int) == 0))) σ) : ACallF κ Try.prog 96 [.agg [I n, SI o t]] σ K := by
  refine ACallF.dropL (ACallF_intro Try.func96 rfl ?_)
  simp only [Try.ntmps96]
  repeat' (first
    | simp only [WL, intF, strF, WM, Int.reduceToNat, ne_eq, reduceCtorEq, not_false_eq_true, Nat.reduceAdd, Nat.reduceSub, Nat.reduceLT, Nat.reduceLeDiff, Nat.reduceEqDiff, Bool.not_true, Bool.not_false, beq_self_eq_true, true_and, and_true, reduceIte, Bool.false_eq_true, T3, T4, T24, T71, fC fl71_1, fR fl71_1, Try.results96]
    | simp (disch := first | omega | (simp only [LN_]; omega)) only [wrap_id, getI]
    | with_reducible first | refine andA (hb := ?_) | refine y_load (hK := ?_) | refine y_box (hK := fun b => ?_) | refine y_new (hK := fun b => ?_)
    | with_reducible refine y_nil (hK := ?_)
    | (with_reducible refine nilTC_split (fun h => ?_) (fun h bn => ?_) <;> (try simp only [List.length_map] at h))
    | ((with_reducible first | refine grd_cases (fun h => ?_) (fun h => ?_) | refine condC_split (fun h => ?_) (fun h => ?_)) <;> (try simp only [h]) <;> (try simp only [NR_, Bool.not_true, Bool.not_false, Bool.not_eq_eq_eq_not, ne_eq] at h))
    | omega | (simp only [LN_]; omega))
  exact leafL (sub_cons sub_rfl) (leT_eq rfl) hK

-- marginaliaref1.void
set_option maxHeartbeats 8000000 in
theorem rVoid {n : Int} {t : List Int} (hK : K (.ret (B ((t.length : Int) == 0))) σ) : ACallF κ Try.prog 73 [.agg [I n, SI o t]] σ K := by
  refine ACallF.dropL (ACallF_intro Try.func73 rfl ?_)
  simp only [Try.ntmps73]
  repeat' (first
    | simp only [WL, intF, strF, WM, Int.reduceToNat, ne_eq, reduceCtorEq, not_false_eq_true, Nat.reduceAdd, Nat.reduceSub, Nat.reduceLT, Nat.reduceLeDiff, Nat.reduceEqDiff, Bool.not_true, Bool.not_false, beq_self_eq_true, true_and, and_true, reduceIte, Bool.false_eq_true, T3, T4, T24, T71, fC fl71_1, fR fl71_1, Try.results73]
    | simp (disch := first | omega | (simp only [LN_]; omega)) only [wrap_id, getI]
    | with_reducible first | refine andA (hb := ?_) | refine y_load (hK := ?_) | refine y_box (hK := fun b => ?_) | refine y_new (hK := fun b => ?_)
    | with_reducible refine y_nil (hK := ?_)
    | (with_reducible refine nilTC_split (fun h => ?_) (fun h bn => ?_) <;> (try simp only [List.length_map] at h))
    | ((with_reducible first | refine grd_cases (fun h => ?_) (fun h => ?_) | refine condC_split (fun h => ?_) (fun h => ?_)) <;> (try simp only [h]) <;> (try simp only [NR_, Bool.not_true, Bool.not_false, Bool.not_eq_eq_eq_not, ne_eq] at h))
    | omega | (simp only [LN_]; omega))
  exact leafL (sub_cons sub_rfl) (leT_eq rfl) hK

set_option maxHeartbeats 8000000 in
theorem len_nil {l : List Int} (h : (l.length : Int) = 0) : l = [] := List.eq_nil_of_length_eq_zero (by omega)
set_option maxHeartbeats 8000000 in
theorem len_cons {l : List Int} (h : ¬ (l.length : Int) = 0) : ¬ l = [] := fun e => h (by rw [e]; rfl)

-- block.indent
set_option maxHeartbeats 8000000 in
theorem bIndent {l : List Ln} {h0 : HD} {n : Int} (hl : l.length ≤ 1000000000) (ht : ∀ x ∈ l, x.2.length ≤ 1000000000) (hn : -1 ≤ n ∧ n ≤ 1099511627776) (hK : K (.ret (.tup [I (indI l h0.2.2 n).1, I (indI l h0.2.2 n).2])) σ) : ACallF κ Try.prog 66 [SL o l, HDA h0, I n] σ K := by
  refine ACallF.dropL (ACallF_introA Try.func66 rfl ?_)
  simp only [Try.ntmps66]
  repeat' (first
    | with_reducible first | refine cut_at (id := 4) ?_ | refine cut_unit (id := 4) ?_ | refine cut_one (id := 4) ?_ | refine AW_seqA (AW_block ?_) | refine AW_block ?_ | refine cut_seqloop ?_ | refine cut_loop ?_ | refine AW_seqA (AW_seqA ?_) | refine AW_seq ?_ | refine AW_runReg ?_ | refine AW_runCond ?_ | refine AW_runExit ?_ | refine AW_runRet ?_ | refine AW_runSkip ?_ | refine AW_runLabel ?_
    | simp only [WL, intF, strF, WM, Int.reduceToNat, ne_eq, reduceCtorEq, not_false_eq_true, Nat.reduceAdd, Nat.reduceSub, Nat.reduceLT, Nat.reduceLeDiff, Nat.reduceEqDiff, Bool.not_true, Bool.not_false, beq_self_eq_true, true_and, and_true, reduceIte, Bool.false_eq_true, T3, T4, T24, T50, T59, T64, T71, fC fl64_2, fR fl64_2, fC fl71_0, fR fl71_0, cok96, cok97, Try.results66]
    | simp (disch := first | omega | (simp only [LN_]; omega)) only [wrap_id, getI]
    | with_reducible first | refine andA (hb := ?_) | refine y_load (hK := ?_) | refine y_loadA (hK := ?_) | refine y_storeA (hK := ?_) | refine y_box (hK := fun b => ?_) | refine y_new (hK := fun b => ?_) | refine y_max ?_ | refine y_min ?_ | refine cD (bVoid ?_) | refine cD (lMarker ?_ ?_)
    | with_reducible refine y_nil (hK := ?_)
    | (with_reducible refine nilTC_split (fun h => ?_) (fun h bn => ?_) <;> (try simp only [List.length_map] at h))
    | ((with_reducible first | refine grd_cases (fun h => ?_) (fun h => ?_) | refine condC_split (fun h => ?_) (fun h => ?_)) <;> (try simp only [h]) <;> (try simp only [NR_, Bool.not_true, Bool.not_false, Bool.not_eq_eq_eq_not, ne_eq] at h))
    | omega | (simp only [LN_]; omega))
  · exact leafL (sub_cons sub_rfl) (leT_eq (by unfold indI; rw [if_pos (by omega)])) hK
  refine midA (fun x : Int × Option Int => ⟨(SL o l :: .any :: I n :: .any :: .raw (.pointer (some ⟨b, 0, none⟩)) :: .any :: .any :: .any :: I x.1 :: I (x.2.getD n) :: .any :: .any :: .any :: .any :: .any :: .any :: .any :: .any :: .any :: .any :: .any :: .any :: .any :: .any :: .any :: .any :: .any :: .any :: .any :: .any :: .any :: .any :: .any :: .any :: .any :: .any :: .any :: .any :: .any :: .any :: .any :: .any :: .any :: .any :: .any :: .any :: .any :: .any :: .any :: .any :: .any :: .any :: .any :: []), .obj b [B h0.1, I h0.2.1, I h0.2.2] :: σ, true, []⟩) (fun x => scanI 0 l = x) ?_ ?_
  · skip
    repeat' (first
      | with_reducible first | refine AW_seqA (AW_block ?_) | refine AW_block ?_ | refine cut_seqloop ?_ | refine cut_loop ?_ | refine AW_seqA (AW_seqA ?_) | refine AW_seq ?_ | refine AW_runReg ?_ | refine AW_runCond ?_ | refine AW_runExit ?_ | refine AW_runRet ?_ | refine AW_runSkip ?_ | refine AW_runLabel ?_
      | simp only [WL, intF, strF, WM, Int.reduceToNat, ne_eq, reduceCtorEq, not_false_eq_true, Nat.reduceAdd, Nat.reduceSub, Nat.reduceLT, Nat.reduceLeDiff, Nat.reduceEqDiff, Bool.not_true, Bool.not_false, beq_self_eq_true, true_and, and_true, reduceIte, Bool.false_eq_true, T3, T4, T24, T50, T59, T64, T71, fC fl64_2, fR fl64_2, fC fl71_0, fR fl71_0, cok96, cok97, Try.results66]
      | simp (disch := first | omega | (simp only [LN_]; omega)) only [wrap_id, getI]
      | with_reducible first | refine andA (hb := ?_) | refine y_load (hK := ?_) | refine y_loadA (hK := ?_) | refine y_storeA (hK := ?_) | refine y_box (hK := fun b => ?_) | refine y_new (hK := fun b => ?_) | refine y_max ?_ | refine y_min ?_ | refine cD (bVoid ?_) | refine cD (lMarker ?_ ?_)
      | with_reducible refine y_nil (hK := ?_)
      | (with_reducible refine nilTC_split (fun h => ?_) (fun h bn => ?_) <;> (try simp only [List.length_map] at h))
      | ((with_reducible first | refine grd_cases (fun h => ?_) (fun h => ?_) | refine condC_split (fun h => ?_) (fun h => ?_)) <;> (try simp only [h]) <;> (try simp only [NR_, Bool.not_true, Bool.not_false, Bool.not_eq_eq_eq_not, ne_eq] at h))
      | omega | (simp only [LN_]; omega))
    refine loopA (fun x : Nat × Int => ⟨(SL o l :: .any :: I n :: .any :: .raw (.pointer (some ⟨b, 0, none⟩)) :: .any :: .any :: .any :: I x.2 :: I n :: .any :: .any :: .any :: .any :: .any :: .any :: .any :: .any :: .any :: .any :: .any :: .any :: SL o l :: I l.length :: I x.1 :: .any :: .any :: .any :: .any :: .any :: .any :: .any :: .any :: .any :: .any :: .any :: .any :: .any :: .any :: .any :: .any :: .any :: .any :: .any :: .any :: .any :: .any :: .any :: .any :: .any :: .any :: .any :: .any :: []), .obj b [B h0.1, I h0.2.1, I h0.2.2] :: σ, true, []⟩) (fun x => x.1 ≤ l.length ∧ scanI 0 l = scanI x.2 (l.drop x.1)) (fun x => l.length - x.1) (0, 0) (St_leW (by repeat (first | exact trivial | refine ⟨le_rfl, ?_⟩ | refine ⟨le_any, ?_⟩ | refine ⟨le_ro, ?_⟩ | refine ⟨le_nil (by decide), ?_⟩ | refine ⟨le_wrap (by omega) (by omega) (by omega), ?_⟩ | refine ⟨le_int (by omega), ?_⟩ | refine ⟨le_eq (by simp), ?_⟩)) (ResW.refl _) id) ⟨Nat.zero_le _, rfl⟩ ?_
    rintro ⟨k, w⟩ hx
    dsimp only at hx ⊢
    have h1 := hx.1
    have h2 := hx.2
    rcases Nat.lt_or_ge k l.length with hk | hk
    · have hmem : l.getD k (0, []) ∈ l := by rw [List.getD_eq_getElem?_getD, List.getElem?_eq_getElem hk]; exact List.getElem_mem hk
      have htk := ht _ hmem
      repeat' (first
        | with_reducible first | refine AW_seqA (AW_block ?_) | refine AW_block ?_ | refine cut_seqloop ?_ | refine cut_loop ?_ | refine AW_seqA (AW_seqA ?_) | refine AW_seq ?_ | refine AW_runReg ?_ | refine AW_runCond ?_ | refine AW_runExit ?_ | refine AW_runRet ?_ | refine AW_runSkip ?_ | refine AW_runLabel ?_
        | simp only [WL, intF, strF, WM, Int.reduceToNat, ne_eq, reduceCtorEq, not_false_eq_true, Nat.reduceAdd, Nat.reduceSub, Nat.reduceLT, Nat.reduceLeDiff, Nat.reduceEqDiff, Bool.not_true, Bool.not_false, beq_self_eq_true, true_and, and_true, reduceIte, Bool.false_eq_true, T3, T4, T24, T50, T59, T64, T71, fC fl64_2, fR fl64_2, fC fl71_0, fR fl71_0, cok96, cok97, Try.results66]
        | simp (disch := first | omega | (simp only [LN_]; omega)) only [wrap_id, getI, getL]
        | with_reducible first | refine andA (hb := ?_) | refine y_load (hK := ?_) | refine y_loadA (hK := ?_) | refine y_storeA (hK := ?_) | refine y_box (hK := fun b => ?_) | refine y_new (hK := fun b => ?_) | refine y_max ?_ | refine y_min ?_ | refine cD (bVoid ?_) | refine cD (lMarker ?_ ?_)
        | with_reducible refine y_nil (hK := ?_)
        | (with_reducible refine nilTC_split (fun h => ?_) (fun h bn => ?_) <;> (try simp only [List.length_map] at h))
        | ((with_reducible first | refine grd_cases (fun h => ?_) (fun h => ?_) | refine condC_split (fun h => ?_) (fun h => ?_)) <;> (try simp only [h]) <;> (try simp only [NR_, Bool.not_true, Bool.not_false, Bool.not_eq_eq_eq_not, ne_eq] at h))
        | omega | (simp only [LN_]; omega))
      all_goals first
        | exact ⟨(k + 1, max w (l.getD k (0, [])).1), St_leW (by repeat (first | exact trivial | refine ⟨le_rfl, ?_⟩ | refine ⟨le_any, ?_⟩ | refine ⟨le_ro, ?_⟩ | refine ⟨le_nil (by decide), ?_⟩ | refine ⟨le_wrap (by omega) (by omega) (by omega), ?_⟩ | refine ⟨le_int (by omega), ?_⟩ | refine ⟨le_eq (by simp), ?_⟩)) (ResW.sub (List.sublist_cons_self _ _)) id, ⟨by dsimp only; omega, h2.trans (scan_void hk (len_nil (by assumption)))⟩, by dsimp only; omega⟩
        | exact ⟨(w, some (l.getD k (0, [])).1), St_leW (by repeat (first | exact trivial | refine ⟨le_rfl, ?_⟩ | refine ⟨le_any, ?_⟩ | refine ⟨le_ro, ?_⟩ | refine ⟨le_nil (by decide), ?_⟩ | refine ⟨le_wrap (by omega) (by omega) (by omega), ?_⟩ | refine ⟨le_int (by omega), ?_⟩ | refine ⟨le_eq (by simp), ?_⟩)) (ResW.sub (List.sublist_cons_self _ _)) id, h2.trans (scan_text hk (len_cons (by assumption)) (by assumption))⟩
        | exact ⟨(w, none), St_leW (by repeat (first | exact trivial | refine ⟨le_rfl, ?_⟩ | refine ⟨le_any, ?_⟩ | refine ⟨le_ro, ?_⟩ | refine ⟨le_nil (by decide), ?_⟩ | refine ⟨le_wrap (by omega) (by omega) (by omega), ?_⟩ | refine ⟨le_int (by omega), ?_⟩ | refine ⟨le_eq (by simp), ?_⟩)) (ResW.sub (List.sublist_cons_self _ _)) id, h2.trans (scan_mark hk (len_cons (by assumption)) (by assumption))⟩
        | trace_state
    · skip
      repeat' (first
        | with_reducible first | refine AW_seqA (AW_block ?_) | refine AW_block ?_ | refine cut_seqloop ?_ | refine cut_loop ?_ | refine AW_seqA (AW_seqA ?_) | refine AW_seq ?_ | refine AW_runReg ?_ | refine AW_runCond ?_ | refine AW_runExit ?_ | refine AW_runRet ?_ | refine AW_runSkip ?_ | refine AW_runLabel ?_
        | simp only [WL, intF, strF, WM, Int.reduceToNat, ne_eq, reduceCtorEq, not_false_eq_true, Nat.reduceAdd, Nat.reduceSub, Nat.reduceLT, Nat.reduceLeDiff, Nat.reduceEqDiff, Bool.not_true, Bool.not_false, beq_self_eq_true, true_and, and_true, reduceIte, Bool.false_eq_true, T3, T4, T24, T50, T59, T64, T71, fC fl64_2, fR fl64_2, fC fl71_0, fR fl71_0, cok96, cok97, Try.results66]
        | simp (disch := first | omega | (simp only [LN_]; omega)) only [wrap_id, getI]
        | with_reducible first | refine andA (hb := ?_) | refine y_load (hK := ?_) | refine y_loadA (hK := ?_) | refine y_storeA (hK := ?_) | refine y_box (hK := fun b => ?_) | refine y_new (hK := fun b => ?_) | refine y_max ?_ | refine y_min ?_ | refine cD (bVoid ?_) | refine cD (lMarker ?_ ?_)
        | with_reducible refine y_nil (hK := ?_)
        | (with_reducible refine nilTC_split (fun h => ?_) (fun h bn => ?_) <;> (try simp only [List.length_map] at h))
        | ((with_reducible first | refine grd_cases (fun h => ?_) (fun h => ?_) | refine condC_split (fun h => ?_) (fun h => ?_)) <;> (try simp only [h]) <;> (try simp only [NR_, Bool.not_true, Bool.not_false, Bool.not_eq_eq_eq_not, ne_eq] at h))
        | omega | (simp only [LN_]; omega))
      exact ⟨(w, none), St_leW (by repeat (first | exact trivial | refine ⟨le_rfl, ?_⟩ | refine ⟨le_any, ?_⟩ | refine ⟨le_ro, ?_⟩ | refine ⟨le_nil (by decide), ?_⟩ | refine ⟨le_wrap (by omega) (by omega) (by omega), ?_⟩ | refine ⟨le_int (by omega), ?_⟩ | refine ⟨le_eq (by simp), ?_⟩)) (ResW.refl _) id, h2.trans (scan_end hk)⟩
  · rintro ⟨w, f⟩ hx
    dsimp only at hx ⊢
    have hi : ¬ 0 < h0.2.2 := by omega
    have hu : indI l h0.2.2 n = if f.getD n ≤ n then (max w (n + 1), 0) else if f.getD n < w then (0, 7) else (f.getD n, 0) := by unfold indI; rw [if_neg hi, hx]
    generalize f.getD n = g at *
    repeat' (first
      | with_reducible first | refine AW_seqA (AW_block ?_) | refine AW_block ?_ | refine cut_seqloop ?_ | refine cut_loop ?_ | refine AW_seqA (AW_seqA ?_) | refine AW_seq ?_ | refine AW_runReg ?_ | refine AW_runCond ?_ | refine AW_runExit ?_ | refine AW_runRet ?_ | refine AW_runSkip ?_ | refine AW_runLabel ?_
      | simp only [WL, intF, strF, WM, Int.reduceToNat, ne_eq, reduceCtorEq, not_false_eq_true, Nat.reduceAdd, Nat.reduceSub, Nat.reduceLT, Nat.reduceLeDiff, Nat.reduceEqDiff, Bool.not_true, Bool.not_false, beq_self_eq_true, true_and, and_true, reduceIte, Bool.false_eq_true, T3, T4, T24, T50, T59, T64, T71, fC fl64_2, fR fl64_2, fC fl71_0, fR fl71_0, cok96, cok97, Try.results66]
      | simp (disch := first | omega | (simp only [LN_]; omega)) only [wrap_id, getI]
      | with_reducible first | refine andA (hb := ?_) | refine y_load (hK := ?_) | refine y_loadA (hK := ?_) | refine y_storeA (hK := ?_) | refine y_box (hK := fun b => ?_) | refine y_new (hK := fun b => ?_) | refine y_max ?_ | refine y_min ?_ | refine cD (bVoid ?_) | refine cD (lMarker ?_ ?_)
      | with_reducible refine y_nil (hK := ?_)
      | (with_reducible refine nilTC_split (fun h => ?_) (fun h bn => ?_) <;> (try simp only [List.length_map] at h))
      | ((with_reducible first | refine grd_cases (fun h => ?_) (fun h => ?_) | refine condC_split (fun h => ?_) (fun h => ?_)) <;> (try simp only [h]) <;> (try simp only [NR_, Bool.not_true, Bool.not_false, Bool.not_eq_eq_eq_not, ne_eq] at h))
      | omega | (simp only [LN_]; omega))
    all_goals first
      | (rw [if_pos (by omega)] at hu; exact leafL (sub_cons sub_rfl) (leT_eq (by rw [hu])) hK)
      | (rw [if_neg (by omega), if_pos (by omega)] at hu; exact leafL (sub_cons sub_rfl) (leT_eq (by rw [hu])) hK)
      | (rw [if_neg (by omega), if_neg (by omega)] at hu; exact leafL (sub_cons sub_rfl) (leT_eq (by rw [hu])) hK)
      | trace_state

-- block.content
set_option maxHeartbeats 8000000 in
theorem bContent {x : Ln} {d : Int} (ht : x.2.length ≤ 1000000000) (hd : -1000000000000000 ≤ x.1 - d ∧ x.1 - d ≤ 1000000) (hK : K (.ret (SI none (contB d x))) σ) : ACallF κ Try.prog 99 [LN x, I d] σ K := by
  refine ACallF.dropL (ACallF_introA Try.func99 rfl ?_)
  simp only [Try.ntmps99]
  repeat' (first
    | with_reducible first | refine AW_seqA (AW_block ?_) | refine AW_block ?_ | refine cut_seqloop ?_ | refine cut_loop ?_ | refine AW_seqA (AW_seqA ?_) | refine AW_seq ?_ | refine AW_runReg ?_ | refine AW_runCond ?_ | refine AW_runExit ?_ | refine AW_runRet ?_ | refine AW_runSkip ?_ | refine AW_runLabel ?_
    | simp only [WL, intF, strF, WM, Int.reduceToNat, ne_eq, reduceCtorEq, not_false_eq_true, Nat.reduceAdd, Nat.reduceSub, Nat.reduceLT, Nat.reduceLeDiff, Nat.reduceEqDiff, Bool.not_true, Bool.not_false, beq_self_eq_true, true_and, and_true, reduceIte, Bool.false_eq_true, T3, T4, T24, T71, fC fl71_0, fR fl71_0, fC fl71_1, fR fl71_1, Try.results99]
    | simp (disch := first | omega | (simp only [LN_]; omega)) only [wrap_id, getI]
    | with_reducible first | refine andA (hb := ?_) | refine y_load (hK := ?_) | refine y_box (hK := fun b => ?_) | refine y_new (hK := fun b => ?_) | refine y_appN ?_ | refine y_appS ?_ | refine y_app (hlen := ?_) (hmax := ?_) (hK := fun tk => ?_) | refine y_bs0 ?_ | refine y_bs (hK := ?_)
    | with_reducible refine y_nil (hK := ?_)
    | (with_reducible refine nilTC_split (fun h => ?_) (fun h bn => ?_) <;> (try simp only [List.length_map] at h))
    | ((with_reducible first | refine grd_cases (fun h => ?_) (fun h => ?_) | refine condC_split (fun h => ?_) (fun h => ?_)) <;> (try simp only [h]) <;> (try simp only [NR_, Bool.not_true, Bool.not_false, Bool.not_eq_eq_eq_not, ne_eq] at h))
    | omega | (simp only [LN_]; omega) | (refine maxLen_ok ?_; (first | omega | (simp only [LN_]; omega))))
  refine loopA (fun y : Nat × Option (Nat × Nat) => ⟨(.any :: I d :: .raw (.pointer (some ⟨b, 0, none⟩)) :: .any :: .any :: SI (some y.2) (List.replicate y.1 32) :: .any :: .any :: .any :: I (x.1 - d) :: I y.1 :: .any :: .any :: .any :: .any :: .any :: .any :: .any :: .any :: .any :: []), .tip y.2 :: .obj b [I x.1, SI none x.2] :: σ, true, []⟩) (fun y => (y.1 : Int) ≤ max 0 (x.1 - d)) (fun y => (x.1 - d).toNat - y.1) (0, none) (St_leW (by repeat (first | exact trivial | refine ⟨le_rfl, ?_⟩ | refine ⟨le_any, ?_⟩ | refine ⟨le_ro, ?_⟩ | refine ⟨le_nil (by decide), ?_⟩ | refine ⟨le_wrap (by omega) (by omega) (by omega), ?_⟩ | refine ⟨le_int (by omega), ?_⟩ | refine ⟨le_eq (by simp), ?_⟩)) ResW.void id) (by dsimp only; omega) ?_
  rintro ⟨k, tk⟩ hx
  dsimp only at hx ⊢
  rcases Int.lt_or_le (k : Int) (x.1 - d) with hk | hk
  · skip
    repeat' (first
      | with_reducible first | refine AW_seqA (AW_block ?_) | refine AW_block ?_ | refine cut_seqloop ?_ | refine cut_loop ?_ | refine AW_seqA (AW_seqA ?_) | refine AW_seq ?_ | refine AW_runReg ?_ | refine AW_runCond ?_ | refine AW_runExit ?_ | refine AW_runRet ?_ | refine AW_runSkip ?_ | refine AW_runLabel ?_
      | simp only [WL, intF, strF, WM, Int.reduceToNat, ne_eq, reduceCtorEq, not_false_eq_true, Nat.reduceAdd, Nat.reduceSub, Nat.reduceLT, Nat.reduceLeDiff, Nat.reduceEqDiff, Bool.not_true, Bool.not_false, beq_self_eq_true, true_and, and_true, reduceIte, Bool.false_eq_true, T3, T4, T24, T71, fC fl71_0, fR fl71_0, fC fl71_1, fR fl71_1, Try.results99]
      | simp (disch := first | omega | (simp only [LN_]; omega)) only [wrap_id, getI]
      | with_reducible first | refine andA (hb := ?_) | refine y_load (hK := ?_) | refine y_box (hK := fun b => ?_) | refine y_new (hK := fun b => ?_) | refine y_appN ?_ | refine y_appS ?_ | refine y_app (hlen := ?_) (hmax := ?_) (hK := fun tk => ?_) | refine y_bs0 ?_ | refine y_bs (hK := ?_)
      | with_reducible refine y_nil (hK := ?_)
      | (with_reducible refine nilTC_split (fun h => ?_) (fun h bn => ?_) <;> (try simp only [List.length_map] at h))
      | ((with_reducible first | refine grd_cases (fun h => ?_) (fun h => ?_) | refine condC_split (fun h => ?_) (fun h => ?_)) <;> (try simp only [h]) <;> (try simp only [NR_, Bool.not_true, Bool.not_false, Bool.not_eq_eq_eq_not, ne_eq] at h))
      | omega | (simp only [LN_]; omega) | (refine maxLen_ok ?_; (first | omega | (simp only [LN_]; omega))))
    exact ⟨(k + 1, tk), St_leW (by simp only [List.replicate_succ']; repeat (first | exact trivial | refine ⟨le_rfl, ?_⟩ | refine ⟨le_any, ?_⟩ | refine ⟨le_ro, ?_⟩ | refine ⟨le_nil (by decide), ?_⟩ | refine ⟨le_wrap (by omega) (by omega) (by omega), ?_⟩ | refine ⟨le_int (by omega), ?_⟩ | refine ⟨le_eq (by simp), ?_⟩)) (ResW.refl _) id, by dsimp only; omega, by dsimp only; omega⟩
  · have e : contB d x = List.replicate k 32 ++ x.2 := by unfold contB; rw [show (x.1 - d).toNat = k by omega]
    repeat' (first
      | with_reducible first | refine AW_seqA (AW_block ?_) | refine AW_block ?_ | refine cut_seqloop ?_ | refine cut_loop ?_ | refine AW_seqA (AW_seqA ?_) | refine AW_seq ?_ | refine AW_runReg ?_ | refine AW_runCond ?_ | refine AW_runExit ?_ | refine AW_runRet ?_ | refine AW_runSkip ?_ | refine AW_runLabel ?_
      | simp only [WL, intF, strF, WM, Int.reduceToNat, ne_eq, reduceCtorEq, not_false_eq_true, Nat.reduceAdd, Nat.reduceSub, Nat.reduceLT, Nat.reduceLeDiff, Nat.reduceEqDiff, Bool.not_true, Bool.not_false, beq_self_eq_true, true_and, and_true, reduceIte, Bool.false_eq_true, T3, T4, T24, T71, fC fl71_0, fR fl71_0, fC fl71_1, fR fl71_1, Try.results99]
      | simp (disch := first | omega | (simp only [LN_]; omega)) only [wrap_id, getI]
      | with_reducible first | refine andA (hb := ?_) | refine y_load (hK := ?_) | refine y_box (hK := fun b => ?_) | refine y_new (hK := fun b => ?_) | refine y_appN ?_ | refine y_appS ?_ | refine y_app (hlen := ?_) (hmax := ?_) (hK := fun tk => ?_) | refine y_bs0 ?_ | refine y_bs (hK := ?_)
      | with_reducible refine y_nil (hK := ?_)
      | (with_reducible refine nilTC_split (fun h => ?_) (fun h bn => ?_) <;> (try simp only [List.length_map] at h))
      | ((with_reducible first | refine grd_cases (fun h => ?_) (fun h => ?_) | refine condC_split (fun h => ?_) (fun h => ?_)) <;> (try simp only [h]) <;> (try simp only [NR_, Bool.not_true, Bool.not_false, Bool.not_eq_eq_eq_not, ne_eq] at h))
      | omega | (simp only [LN_]; omega) | (refine maxLen_ok ?_; (first | omega | (simp only [LN_]; omega))))
    exact leafL (sub_cons (sub_cons sub_rfl)) (leT_le (by rw [e]; simp only [SI, List.map_append]; exact le_ro)) hK
end Go.Proofs.Ytaeacialcbahnaa
