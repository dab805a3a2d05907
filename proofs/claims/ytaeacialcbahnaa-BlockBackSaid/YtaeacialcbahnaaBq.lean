/-
  Walks: chapter 10, the reference's BlockRead.
-/
import Derived.Test.YtaeacialcbahnaaBo
namespace Go.Proofs.Ytaeacialcbahnaa
open Go.Abs
set_option linter.unusedVariables false
set_option linter.unusedSimpArgs false
-- hb: 8000000
variable {κ : Ctx} {σ : List Res} {K : Ret → List Res → Prop} {o o' : Option (Option (Nat × Nat))}

set_option maxHeartbeats 8000000 in
theorem leCA : ∀ {a b c d : List AV}, leC a b → leC c d → leC (a ++ c) (b ++ d)
  | [], [], _, _, _, h => h
  | x :: a, y :: b, _, _, h, h2 => ⟨h.1, leCA h.2 h2⟩
set_option maxHeartbeats 8000000 in
theorem leCS {o : Option (Option (Nat × Nat))} {l : List AV} {w : List Int} (h : l = w.map I) : leC [AV.sl 1 o l] ([w].map (SI none)) := leC_one rfl rfl (h ▸ leS_le le_ro) trivial

-- marginaliaref1.BlockRead
set_option maxHeartbeats 8000000 in
theorem rBlockRead {l : List Ln} {h0 : HD} {n : Int} (hl : l.length ≤ 1000) (ht : ∀ x ∈ l, x.2.length ≤ 1000 ∧ 0 ≤ x.1 ∧ x.1 ≤ 1000) (hn : n ≤ 1000000) (hi : 0 ≤ h0.2.2 ∧ h0.2.2 ≤ 1000000) (hK : K (.ret (.tup [.raw (.string (blockB l h0 n).1), I (blockB l h0 n).2.1, I (blockB l h0 n).2.2])) σ) : ACallF κ Try.prog 33 [SL o l, HDA h0, I n] σ K := by
  have hl2 : l.length ≤ 1000000000 := by omega
  have ht2 : ∀ x ∈ l, x.2.length ≤ 1000000000 := fun x hx => by have := ht x hx; omega
  have hmn : min (max (-1) n) 1099511627776 = max (-1) n := by omega
  refine ACallF.dropL (ACallF_introA Try.func33 rfl ?_)
  simp only [Try.ntmps33]
  repeat' (first
    | with_reducible first | refine cut_at (id := 1) ?_ | refine cut_unit (id := 1) ?_ | refine cut_one (id := 1) ?_ | refine AW_seqA (AW_block ?_) | refine AW_block ?_ | refine cut_seqloop ?_ | refine cut_loop ?_ | refine AW_seqA (AW_seqA ?_) | refine AW_seq ?_ | refine AW_runReg ?_ | refine AW_runCond ?_ | refine AW_runExit ?_ | refine AW_runRet ?_ | refine AW_runSkip ?_ | refine AW_runLabel ?_
    | simp only [WL, intF, strF, WM, Int.reduceToNat, ne_eq, reduceCtorEq, not_false_eq_true, Nat.reduceAdd, Nat.reduceSub, Nat.reduceLT, Nat.reduceLeDiff, Nat.reduceEqDiff, Bool.not_true, Bool.not_false, beq_self_eq_true, true_and, and_true, reduceIte, Bool.false_eq_true, convC_sl, convC_str, T3, T4, T5, T9, T24, T30, T59, T67, T69, T71, fC fl67_0, fR fl67_0, fC fl67_1, fR fl67_1, fC fl67_2, fR fl67_2, fC fl71_0, fR fl71_0, fC fl71_1, fR fl71_1, cok17, cok71, cok72, cok73, cok74, cok75, Try.results33]
    | simp (disch := first | omega | (simp only [LN_]; omega)) only [wrap_id, getI]
    | with_reducible first | refine andA (hb := ?_) | refine y_load (hK := ?_) | refine y_loadA (hK := ?_) | refine y_storeA (hK := ?_) | refine y_box (hK := fun b => ?_) | refine y_new (hK := fun b => ?_) | refine y_appN ?_ | refine y_appS ?_ | refine y_app (hlen := ?_) (hmax := ?_) (hK := fun tk => ?_) | refine y_bs0 ?_ | refine y_bs (hK := ?_) | refine y_bytes ?_ | refine cD (rBytes ?_ ?_) | refine cD (rDetect ?_ ?_ ?_) | refine cD (rMarker ?_ ?_) | refine cD (rVoid ?_) | refine cD (rLiteral ?_ ?_) | refine cD (rBlock ?_ ?_)
    | with_reducible refine y_nil (hK := ?_)
    | (with_reducible refine nilTC_split (fun h => ?_) (fun h bn => ?_) <;> (try simp only [List.length_map] at h))
    | ((with_reducible first | refine grd_cases (fun h => ?_) (fun h => ?_) | refine condC_split (fun h => ?_) (fun h => ?_)) <;> (try simp only [h]) <;> (try simp only [NR_, Bool.not_true, Bool.not_false, Bool.not_eq_eq_eq_not, ne_eq] at h))
    | omega | (simp only [LN_]; omega) | (refine maxLen_ok ?_; (first | omega | (simp only [LN_]; omega))))
  rename Nat => bh
  refine midA (fun m : Int => ⟨(SL o l :: .any :: I m :: .any :: .raw (.pointer (some ⟨bh, 0, none⟩)) :: .any :: .any :: .any :: .any :: .any :: .any :: .any :: .any :: .any :: .any :: .any :: .any :: .any :: .any :: .any :: .any :: .any :: .any :: .any :: .any :: .any :: .any :: .any :: .any :: .any :: .any :: .any :: .any :: .any :: .any :: .any :: .any :: .any :: .any :: .any :: .any :: .any :: .any :: .any :: .any :: .any :: .any :: .any :: .any :: .any :: .any :: .any :: .any :: .any :: .any :: .any :: .any :: .any :: .any :: .any :: .any :: .any :: .any :: .any :: .any :: .any :: .any :: .any :: .any :: .any :: .any :: .any :: .any :: .any :: .any :: .any :: .any :: .any :: .any :: .any :: .any :: .any :: .any :: .any :: .any :: .any :: .any :: .any :: .any :: .any :: .any :: .any :: .any :: .any :: .any :: .any :: .any :: .any :: .any :: []), .obj bh [B h0.1, I h0.2.1, I h0.2.2] :: σ, true, []⟩) (fun m => m = max (-1) n) ?_ ?_
  · skip
    repeat' (first
      | with_reducible first | refine AW_seqA (AW_block ?_) | refine AW_block ?_ | refine cut_seqloop ?_ | refine cut_loop ?_ | refine AW_seqA (AW_seqA ?_) | refine AW_seq ?_ | refine AW_runReg ?_ | refine AW_runCond ?_ | refine AW_runExit ?_ | refine AW_runRet ?_ | refine AW_runSkip ?_ | refine AW_runLabel ?_
      | simp only [WL, intF, strF, WM, Int.reduceToNat, ne_eq, reduceCtorEq, not_false_eq_true, Nat.reduceAdd, Nat.reduceSub, Nat.reduceLT, Nat.reduceLeDiff, Nat.reduceEqDiff, Bool.not_true, Bool.not_false, beq_self_eq_true, true_and, and_true, reduceIte, Bool.false_eq_true, convC_sl, convC_str, T3, T4, T5, T9, T24, T30, T59, T67, T69, T71, fC fl67_0, fR fl67_0, fC fl67_1, fR fl67_1, fC fl67_2, fR fl67_2, fC fl71_0, fR fl71_0, fC fl71_1, fR fl71_1, cok17, cok71, cok72, cok73, cok74, cok75, Try.results33]
      | simp (disch := first | omega | (simp only [LN_]; omega)) only [wrap_id, getI]
      | with_reducible first | refine andA (hb := ?_) | refine y_load (hK := ?_) | refine y_loadA (hK := ?_) | refine y_storeA (hK := ?_) | refine y_box (hK := fun b => ?_) | refine y_new (hK := fun b => ?_) | refine y_appN ?_ | refine y_appS ?_ | refine y_app (hlen := ?_) (hmax := ?_) (hK := fun tk => ?_) | refine y_bs0 ?_ | refine y_bs (hK := ?_) | refine y_bytes ?_ | refine cD (rBytes ?_ ?_) | refine cD (rDetect ?_ ?_ ?_) | refine cD (rMarker ?_ ?_) | refine cD (rVoid ?_) | refine cD (rLiteral ?_ ?_) | refine cD (rBlock ?_ ?_)
      | with_reducible refine y_nil (hK := ?_)
      | (with_reducible refine nilTC_split (fun h => ?_) (fun h bn => ?_) <;> (try simp only [List.length_map] at h))
      | ((with_reducible first | refine grd_cases (fun h => ?_) (fun h => ?_) | refine condC_split (fun h => ?_) (fun h => ?_)) <;> (try simp only [h]) <;> (try simp only [NR_, Bool.not_true, Bool.not_false, Bool.not_eq_eq_eq_not, ne_eq] at h))
      | omega | (simp only [LN_]; omega) | (refine maxLen_ok ?_; (first | omega | (simp only [LN_]; omega))))
    all_goals exact ⟨max (-1) n, St_leW (by repeat (first | exact trivial | refine ⟨le_rfl, ?_⟩ | refine ⟨le_any, ?_⟩ | refine ⟨le_ro, ?_⟩ | refine ⟨le_nil (by decide), ?_⟩ | refine ⟨le_wrap (by omega) (by omega) (by omega), ?_⟩ | refine ⟨le_int (by omega), ?_⟩ | refine ⟨le_eq (by simp), ?_⟩)) (ResW.refl _) id, rfl⟩
  rintro m hm
  repeat' (first
    | with_reducible first | refine cut_at (id := 4) ?_ | refine cut_unit (id := 4) ?_ | refine cut_one (id := 4) ?_ | refine AW_seqA (AW_block ?_) | refine AW_block ?_ | refine cut_seqloop ?_ | refine cut_loop ?_ | refine AW_seqA (AW_seqA ?_) | refine AW_seq ?_ | refine AW_runReg ?_ | refine AW_runCond ?_ | refine AW_runExit ?_ | refine AW_runRet ?_ | refine AW_runSkip ?_ | refine AW_runLabel ?_
    | simp only [WL, intF, strF, WM, Int.reduceToNat, ne_eq, reduceCtorEq, not_false_eq_true, Nat.reduceAdd, Nat.reduceSub, Nat.reduceLT, Nat.reduceLeDiff, Nat.reduceEqDiff, Bool.not_true, Bool.not_false, beq_self_eq_true, true_and, and_true, reduceIte, Bool.false_eq_true, convC_sl, convC_str, T3, T4, T5, T9, T24, T30, T59, T67, T69, T71, fC fl67_0, fR fl67_0, fC fl67_1, fR fl67_1, fC fl67_2, fR fl67_2, fC fl71_0, fR fl71_0, fC fl71_1, fR fl71_1, cok17, cok71, cok72, cok73, cok74, cok75, Try.results33]
    | simp (disch := first | omega | (simp only [LN_]; omega)) only [wrap_id, getI]
    | with_reducible first | refine andA (hb := ?_) | refine y_load (hK := ?_) | refine y_loadA (hK := ?_) | refine y_storeA (hK := ?_) | refine y_box (hK := fun b => ?_) | refine y_new (hK := fun b => ?_) | refine y_appN ?_ | refine y_appS ?_ | refine y_app (hlen := ?_) (hmax := ?_) (hK := fun tk => ?_) | refine y_bs0 ?_ | refine y_bs (hK := ?_) | refine y_bytes ?_ | refine cD (rBytes ?_ ?_) | refine cD (rDetect ?_ ?_ ?_) | refine cD (rMarker ?_ ?_) | refine cD (rVoid ?_) | refine cD (rLiteral ?_ ?_) | refine cD (rBlock ?_ ?_)
    | with_reducible refine y_nil (hK := ?_)
    | (with_reducible refine nilTC_split (fun h => ?_) (fun h bn => ?_) <;> (try simp only [List.length_map] at h))
    | ((with_reducible first | refine grd_cases (fun h => ?_) (fun h => ?_) | refine condC_split (fun h => ?_) (fun h => ?_)) <;> (try simp only [h]) <;> (try simp only [NR_, Bool.not_true, Bool.not_false, Bool.not_eq_eq_eq_not, ne_eq] at h))
    | omega | (simp only [LN_]; omega) | (refine maxLen_ok ?_; (first | omega | (simp only [LN_]; omega))))
  refine midA (fun d : Int => ⟨(SL o l :: .any :: I m :: .any :: .raw (.pointer (some ⟨bh, 0, none⟩)) :: .any :: .any :: .any :: .any :: I d :: .any :: .any :: .any :: .any :: .any :: .any :: .any :: .any :: .any :: .any :: .any :: .any :: .any :: .any :: .any :: .any :: .any :: .any :: .any :: .any :: .any :: .any :: .any :: .any :: .any :: .any :: .any :: .any :: .any :: .any :: .any :: .any :: .any :: .any :: .any :: .any :: .any :: .any :: .any :: .any :: .any :: .any :: .any :: .any :: .any :: .any :: .any :: .any :: .any :: .any :: .any :: .any :: .any :: .any :: .any :: .any :: .any :: .any :: .any :: .any :: .any :: .any :: .any :: .any :: .any :: .any :: .any :: .any :: .any :: .any :: .any :: .any :: .any :: .any :: .any :: .any :: .any :: .any :: .any :: .any :: .any :: .any :: .any :: .any :: .any :: .any :: .any :: .any :: .any :: []), .obj bh [B h0.1, I h0.2.1, I h0.2.2] :: σ, true, []⟩) (fun d => d = max 0 m + h0.2.2) ?_ ?_
  · skip
    repeat' (first
      | with_reducible first | refine AW_seqA (AW_block ?_) | refine AW_block ?_ | refine cut_seqloop ?_ | refine cut_loop ?_ | refine AW_seqA (AW_seqA ?_) | refine AW_seq ?_ | refine AW_runReg ?_ | refine AW_runCond ?_ | refine AW_runExit ?_ | refine AW_runRet ?_ | refine AW_runSkip ?_ | refine AW_runLabel ?_
      | simp only [WL, intF, strF, WM, Int.reduceToNat, ne_eq, reduceCtorEq, not_false_eq_true, Nat.reduceAdd, Nat.reduceSub, Nat.reduceLT, Nat.reduceLeDiff, Nat.reduceEqDiff, Bool.not_true, Bool.not_false, beq_self_eq_true, true_and, and_true, reduceIte, Bool.false_eq_true, convC_sl, convC_str, T3, T4, T5, T9, T24, T30, T59, T67, T69, T71, fC fl67_0, fR fl67_0, fC fl67_1, fR fl67_1, fC fl67_2, fR fl67_2, fC fl71_0, fR fl71_0, fC fl71_1, fR fl71_1, cok17, cok71, cok72, cok73, cok74, cok75, Try.results33]
      | simp (disch := first | omega | (simp only [LN_]; omega)) only [wrap_id, getI]
      | with_reducible first | refine andA (hb := ?_) | refine y_load (hK := ?_) | refine y_loadA (hK := ?_) | refine y_storeA (hK := ?_) | refine y_box (hK := fun b => ?_) | refine y_new (hK := fun b => ?_) | refine y_appN ?_ | refine y_appS ?_ | refine y_app (hlen := ?_) (hmax := ?_) (hK := fun tk => ?_) | refine y_bs0 ?_ | refine y_bs (hK := ?_) | refine y_bytes ?_ | refine cD (rBytes ?_ ?_) | refine cD (rDetect ?_ ?_ ?_) | refine cD (rMarker ?_ ?_) | refine cD (rVoid ?_) | refine cD (rLiteral ?_ ?_) | refine cD (rBlock ?_ ?_)
      | with_reducible refine y_nil (hK := ?_)
      | (with_reducible refine nilTC_split (fun h => ?_) (fun h bn => ?_) <;> (try simp only [List.length_map] at h))
      | ((with_reducible first | refine grd_cases (fun h => ?_) (fun h => ?_) | refine condC_split (fun h => ?_) (fun h => ?_)) <;> (try simp only [h]) <;> (try simp only [NR_, Bool.not_true, Bool.not_false, Bool.not_eq_eq_eq_not, ne_eq] at h))
      | omega | (simp only [LN_]; omega) | (refine maxLen_ok ?_; (first | omega | (simp only [LN_]; omega))))
    all_goals exact ⟨max 0 m + h0.2.2, St_leW (by repeat (first | exact trivial | refine ⟨le_rfl, ?_⟩ | refine ⟨le_any, ?_⟩ | refine ⟨le_ro, ?_⟩ | refine ⟨le_nil (by decide), ?_⟩ | refine ⟨le_wrap (by omega) (by omega) (by omega), ?_⟩ | refine ⟨le_int (by omega), ?_⟩ | refine ⟨le_eq (by simp), ?_⟩)) (ResW.refl _) id, rfl⟩
  rintro d hd
  have hmb : -1 ≤ m ∧ m ≤ 1099511627776 := by omega
  repeat' (first
    | with_reducible first | refine cut_at (id := 6) ?_ | refine cut_unit (id := 6) ?_ | refine cut_one (id := 6) ?_ | refine AW_seqA (AW_block ?_) | refine AW_block ?_ | refine cut_seqloop ?_ | refine cut_loop ?_ | refine AW_seqA (AW_seqA ?_) | refine AW_seq ?_ | refine AW_runReg ?_ | refine AW_runCond ?_ | refine AW_runExit ?_ | refine AW_runRet ?_ | refine AW_runSkip ?_ | refine AW_runLabel ?_
    | simp only [WL, intF, strF, WM, Int.reduceToNat, ne_eq, reduceCtorEq, not_false_eq_true, Nat.reduceAdd, Nat.reduceSub, Nat.reduceLT, Nat.reduceLeDiff, Nat.reduceEqDiff, Bool.not_true, Bool.not_false, beq_self_eq_true, true_and, and_true, reduceIte, Bool.false_eq_true, convC_sl, convC_str, T3, T4, T5, T9, T24, T30, T59, T67, T69, T71, fC fl67_0, fR fl67_0, fC fl67_1, fR fl67_1, fC fl67_2, fR fl67_2, fC fl71_0, fR fl71_0, fC fl71_1, fR fl71_1, cok17, cok71, cok72, cok73, cok74, cok75, Try.results33]
    | simp (disch := first | omega | (simp only [LN_]; omega)) only [wrap_id, getI]
    | with_reducible first | refine andA (hb := ?_) | refine y_load (hK := ?_) | refine y_loadA (hK := ?_) | refine y_storeA (hK := ?_) | refine y_box (hK := fun b => ?_) | refine y_new (hK := fun b => ?_) | refine y_appN ?_ | refine y_appS ?_ | refine y_app (hlen := ?_) (hmax := ?_) (hK := fun tk => ?_) | refine y_bs0 ?_ | refine y_bs (hK := ?_) | refine y_bytes ?_ | refine cD (rBytes ?_ ?_) | refine cD (rDetect ?_ ?_ ?_) | refine cD (rMarker ?_ ?_) | refine cD (rVoid ?_) | refine cD (rLiteral ?_ ?_) | refine cD (rBlock ?_ ?_)
    | with_reducible refine y_nil (hK := ?_)
    | (with_reducible refine nilTC_split (fun h => ?_) (fun h bn => ?_) <;> (try simp only [List.length_map] at h))
    | ((with_reducible first | refine grd_cases (fun h => ?_) (fun h => ?_) | refine condC_split (fun h => ?_) (fun h => ?_)) <;> (try simp only [h]) <;> (try simp only [NR_, Bool.not_true, Bool.not_false, Bool.not_eq_eq_eq_not, ne_eq] at h))
    | omega | (simp only [LN_]; omega) | (refine maxLen_ok ?_; (first | omega | (simp only [LN_]; omega))))
  refine midA (fun d : Int => ⟨(SL o l :: .any :: I m :: .any :: .raw (.pointer (some ⟨bh, 0, none⟩)) :: .any :: .any :: .any :: .any :: I d :: .any :: .any :: .any :: .any :: .any :: .any :: .any :: .any :: .any :: .any :: .any :: .any :: .any :: .any :: .any :: .any :: .any :: .any :: .any :: .any :: .any :: .any :: .any :: .any :: .any :: .any :: .any :: .any :: .any :: .any :: .any :: .any :: .any :: .any :: .any :: .any :: .any :: .any :: .any :: .any :: .any :: .any :: .any :: .any :: .any :: .any :: .any :: .any :: .any :: .any :: .any :: .any :: .any :: .any :: .any :: .any :: .any :: .any :: .any :: .any :: .any :: .any :: .any :: .any :: .any :: .any :: .any :: .any :: .any :: .any :: .any :: .any :: .any :: .any :: .any :: .any :: .any :: .any :: .any :: .any :: .any :: .any :: .any :: .any :: .any :: .any :: .any :: .any :: .any :: []), .obj bh [B h0.1, I h0.2.1, I h0.2.2] :: σ, true, []⟩) (fun d => indI l h0.2.2 (max (-1) n) = (d, 0)) ?_ ?_
  · skip
    repeat' (first
      | with_reducible first | refine AW_seqA (AW_block ?_) | refine AW_block ?_ | refine cut_seqloop ?_ | refine cut_loop ?_ | refine AW_seqA (AW_seqA ?_) | refine AW_seq ?_ | refine AW_runReg ?_ | refine AW_runCond ?_ | refine AW_runExit ?_ | refine AW_runRet ?_ | refine AW_runSkip ?_ | refine AW_runLabel ?_
      | simp only [WL, intF, strF, WM, Int.reduceToNat, ne_eq, reduceCtorEq, not_false_eq_true, Nat.reduceAdd, Nat.reduceSub, Nat.reduceLT, Nat.reduceLeDiff, Nat.reduceEqDiff, Bool.not_true, Bool.not_false, beq_self_eq_true, true_and, and_true, reduceIte, Bool.false_eq_true, convC_sl, convC_str, T3, T4, T5, T9, T24, T30, T59, T67, T69, T71, fC fl67_0, fR fl67_0, fC fl67_1, fR fl67_1, fC fl67_2, fR fl67_2, fC fl71_0, fR fl71_0, fC fl71_1, fR fl71_1, cok17, cok71, cok72, cok73, cok74, cok75, Try.results33]
      | simp (disch := first | omega | (simp only [LN_]; omega)) only [wrap_id, getI]
      | with_reducible first | refine andA (hb := ?_) | refine y_load (hK := ?_) | refine y_loadA (hK := ?_) | refine y_storeA (hK := ?_) | refine y_box (hK := fun b => ?_) | refine y_new (hK := fun b => ?_) | refine y_appN ?_ | refine y_appS ?_ | refine y_app (hlen := ?_) (hmax := ?_) (hK := fun tk => ?_) | refine y_bs0 ?_ | refine y_bs (hK := ?_) | refine y_bytes ?_ | refine callD_mk (rDetect hl2 ht2 hmb ?_) | refine cD (rBytes ?_ ?_) | refine cD (rDetect ?_ ?_ ?_) | refine cD (rMarker ?_ ?_) | refine cD (rVoid ?_) | refine cD (rLiteral ?_ ?_) | refine cD (rBlock ?_ ?_)
      | with_reducible refine y_nil (hK := ?_)
      | (with_reducible refine nilTC_split (fun h => ?_) (fun h bn => ?_) <;> (try simp only [List.length_map] at h))
      | ((with_reducible first | refine grd_cases (fun h => ?_) (fun h => ?_) | refine condC_split (fun h => ?_) (fun h => ?_)) <;> (try simp only [h]) <;> (try simp only [NR_, Bool.not_true, Bool.not_false, Bool.not_eq_eq_eq_not, ne_eq] at h))
      | omega | (simp only [LN_]; omega) | (refine maxLen_ok ?_; (first | omega | (simp only [LN_]; omega))))
    · rename_i hz
      exact leafL (sub_cons sub_rfl) (leT_eq (by unfold blockB; rw [hmn, ← hm, hz, if_pos h]; rfl)) hK
    · rename_i hz
      exact ⟨(indI l 0 m).1, St_leW (by repeat (first | exact trivial | refine ⟨le_rfl, ?_⟩ | refine ⟨le_any, ?_⟩ | refine ⟨le_ro, ?_⟩ | refine ⟨le_nil (by decide), ?_⟩ | refine ⟨le_wrap (by omega) (by omega) (by omega), ?_⟩ | refine ⟨le_int (by omega), ?_⟩ | refine ⟨le_eq (by simp), ?_⟩)) (ResW.refl _) id, by rw [hz, ← hm]; exact Prod.ext rfl h⟩
    · exact ⟨d, St_leW (by repeat (first | exact trivial | refine ⟨le_rfl, ?_⟩ | refine ⟨le_any, ?_⟩ | refine ⟨le_ro, ?_⟩ | refine ⟨le_nil (by decide), ?_⟩ | refine ⟨le_wrap (by omega) (by omega) (by omega), ?_⟩ | refine ⟨le_int (by omega), ?_⟩ | refine ⟨le_eq (by simp), ?_⟩)) (ResW.refl _) id, by unfold indI; rw [if_pos (by omega), hd, hm]; congr 1; omega⟩
  rintro d hd2
  have hdb := indI_bound (ind := h0.2.2) (fun x hx => (ht x hx).2) (show -1 ≤ max (-1) n ∧ max (-1) n ≤ 1099511627776 by omega)
  rw [hd2] at hdb
  simp only at hdb
  have hu : blockB l h0 n = ((textI (if h0.1 then blkF (rowsB d l) h0.2.1 else litF (rowsB d l) h0.2.1), ((rowsB d l).length : Nat), 0) : ByteArray × Int × Int) := by unfold blockB; rw [hmn, hd2, if_neg (by simp)]
  have htot := rows_tot hdb.1 ht
  repeat' (first
    | with_reducible first | refine cut_at (id := 12) ?_ | refine cut_unit (id := 12) ?_ | refine cut_one (id := 12) ?_ | refine AW_seqA (AW_block ?_) | refine AW_block ?_ | refine cut_seqloop ?_ | refine cut_loop ?_ | refine AW_seqA (AW_seqA ?_) | refine AW_seq ?_ | refine AW_runReg ?_ | refine AW_runCond ?_ | refine AW_runExit ?_ | refine AW_runRet ?_ | refine AW_runSkip ?_ | refine AW_runLabel ?_
    | simp only [WL, intF, strF, WM, Int.reduceToNat, ne_eq, reduceCtorEq, not_false_eq_true, Nat.reduceAdd, Nat.reduceSub, Nat.reduceLT, Nat.reduceLeDiff, Nat.reduceEqDiff, Bool.not_true, Bool.not_false, beq_self_eq_true, true_and, and_true, reduceIte, Bool.false_eq_true, convC_sl, convC_str, T3, T4, T5, T9, T24, T30, T59, T67, T69, T71, fC fl67_0, fR fl67_0, fC fl67_1, fR fl67_1, fC fl67_2, fR fl67_2, fC fl71_0, fR fl71_0, fC fl71_1, fR fl71_1, cok17, cok71, cok72, cok73, cok74, cok75, Try.results33]
    | simp (disch := first | omega | (simp only [LN_]; omega)) only [wrap_id, getI]
    | with_reducible first | refine andA (hb := ?_) | refine y_load (hK := ?_) | refine y_loadA (hK := ?_) | refine y_storeA (hK := ?_) | refine y_box (hK := fun b => ?_) | refine y_new (hK := fun b => ?_) | refine y_appN ?_ | refine y_appS ?_ | refine y_app (hlen := ?_) (hmax := ?_) (hK := fun tk => ?_) | refine y_bs0 ?_ | refine y_bs (hK := ?_) | refine y_bytes ?_ | refine cD (rBytes ?_ ?_) | refine cD (rDetect ?_ ?_ ?_) | refine cD (rMarker ?_ ?_) | refine cD (rVoid ?_) | refine cD (rLiteral ?_ ?_) | refine cD (rBlock ?_ ?_)
    | with_reducible refine y_nil (hK := ?_)
    | (with_reducible refine nilTC_split (fun h => ?_) (fun h bn => ?_) <;> (try simp only [List.length_map] at h))
    | ((with_reducible first | refine grd_cases (fun h => ?_) (fun h => ?_) | refine condC_split (fun h => ?_) (fun h => ?_)) <;> (try simp only [h]) <;> (try simp only [NR_, Bool.not_true, Bool.not_false, Bool.not_eq_eq_eq_not, ne_eq] at h))
    | omega | (simp only [LN_]; omega) | (refine maxLen_ok ?_; (first | omega | (simp only [LN_]; omega))))
  refine midA (fun x : List (List Int) × List AV × Option (Nat × Nat) => ⟨(.any :: .any :: .any :: .any :: .raw (.pointer (some ⟨bh, 0, none⟩)) :: .any :: .any :: .any :: .any :: .any :: .any :: .any :: .sl 1 (some x.2.2) x.2.1 :: .any :: .any :: .any :: .any :: .any :: .any :: .any :: .any :: .any :: .any :: .any :: .any :: .any :: .any :: .any :: .any :: .any :: .any :: .any :: .any :: .any :: .any :: .any :: .any :: .any :: .any :: .any :: .any :: .any :: .any :: .any :: .any :: .any :: .any :: .any :: .any :: .any :: .any :: .any :: .any :: .any :: .any :: .any :: .any :: .any :: .any :: .any :: .any :: .any :: .any :: .any :: .any :: .any :: .any :: .any :: .any :: .any :: .any :: .any :: .any :: .any :: .any :: .any :: .any :: .any :: .any :: .any :: .any :: .any :: .any :: .any :: .any :: .any :: .any :: .any :: .any :: .any :: .any :: .any :: .any :: .any :: .any :: .any :: .any :: .any :: .any :: []), .tip x.2.2 :: .obj bh [B h0.1, I h0.2.1, I h0.2.2] :: σ, true, []⟩) (fun x => rowsB d l = x.1 ∧ leC x.2.1 (x.1.map (SI none))) ?_ ?_
  · skip
    repeat' (first
      | with_reducible first | refine AW_seqA (AW_block ?_) | refine AW_block ?_ | refine cut_seqloop ?_ | refine cut_loop ?_ | refine AW_seqA (AW_seqA ?_) | refine AW_seq ?_ | refine AW_runReg ?_ | refine AW_runCond ?_ | refine AW_runExit ?_ | refine AW_runRet ?_ | refine AW_runSkip ?_ | refine AW_runLabel ?_
      | simp only [WL, intF, strF, WM, Int.reduceToNat, ne_eq, reduceCtorEq, not_false_eq_true, Nat.reduceAdd, Nat.reduceSub, Nat.reduceLT, Nat.reduceLeDiff, Nat.reduceEqDiff, Bool.not_true, Bool.not_false, beq_self_eq_true, true_and, and_true, reduceIte, Bool.false_eq_true, convC_sl, convC_str, T3, T4, T5, T9, T24, T30, T59, T67, T69, T71, fC fl67_0, fR fl67_0, fC fl67_1, fR fl67_1, fC fl67_2, fR fl67_2, fC fl71_0, fR fl71_0, fC fl71_1, fR fl71_1, cok17, cok71, cok72, cok73, cok74, cok75, Try.results33]
      | simp (disch := first | omega | (simp only [LN_]; omega)) only [wrap_id, getI]
      | with_reducible first | refine andA (hb := ?_) | refine y_load (hK := ?_) | refine y_loadA (hK := ?_) | refine y_storeA (hK := ?_) | refine y_box (hK := fun b => ?_) | refine y_new (hK := fun b => ?_) | refine y_appN ?_ | refine y_appS ?_ | refine y_app (hlen := ?_) (hmax := ?_) (hK := fun tk => ?_) | refine y_bs0 ?_ | refine y_bs (hK := ?_) | refine y_bytes ?_ | refine cD (rBytes ?_ ?_) | refine cD (rDetect ?_ ?_ ?_) | refine cD (rMarker ?_ ?_) | refine cD (rVoid ?_) | refine cD (rLiteral ?_ ?_) | refine cD (rBlock ?_ ?_)
      | with_reducible refine y_nil (hK := ?_)
      | (with_reducible refine nilTC_split (fun h => ?_) (fun h bn => ?_) <;> (try simp only [List.length_map] at h))
      | ((with_reducible first | refine grd_cases (fun h => ?_) (fun h => ?_) | refine condC_split (fun h => ?_) (fun h => ?_)) <;> (try simp only [h]) <;> (try simp only [NR_, Bool.not_true, Bool.not_false, Bool.not_eq_eq_eq_not, ne_eq] at h))
      | omega | (simp only [LN_]; omega) | (refine maxLen_ok ?_; (first | omega | (simp only [LN_]; omega))))
    refine loopA (fun x : Nat × List (List Int) × List AV × Option (Nat × Nat) => ⟨(SL o l :: .any :: .any :: .any :: .raw (.pointer (some ⟨bh, 0, none⟩)) :: .any :: .any :: .any :: .any :: I d :: .any :: .any :: .sl 1 (some x.2.2.2) x.2.2.1 :: I x.1 :: .any :: .any :: .any :: .any :: .any :: .any :: .any :: .any :: .any :: .any :: .any :: .any :: .any :: .any :: .any :: .any :: .any :: .any :: .any :: .any :: .any :: .any :: .any :: .any :: .any :: .any :: .any :: .any :: .any :: .any :: .any :: .any :: .any :: .any :: .any :: .any :: .any :: .any :: .any :: .any :: .any :: .any :: .any :: .any :: .any :: .any :: .any :: .any :: .any :: .any :: .any :: .any :: .any :: .any :: .any :: .any :: .any :: .any :: .any :: .any :: .any :: .any :: .any :: .any :: .any :: .any :: .any :: .any :: .any :: .any :: .any :: .any :: .any :: .any :: .any :: .any :: .any :: .any :: .any :: .any :: .any :: .any :: .any :: .any :: .any :: []), .tip x.2.2.2 :: .obj bh [B h0.1, I h0.2.1, I h0.2.2] :: σ, true, []⟩) (fun x => x.1 ≤ l.length ∧ rowsB d l = x.2.1 ++ rowsB d (l.drop x.1) ∧ x.2.1.length ≤ x.1 ∧ leC x.2.2.1 (x.2.1.map (SI none))) (fun x => l.length - x.1) (0, [], [], none) (St_leW (by repeat (first | exact trivial | refine ⟨le_rfl, ?_⟩ | refine ⟨le_any, ?_⟩ | refine ⟨le_ro, ?_⟩ | refine ⟨le_nil (by decide), ?_⟩ | refine ⟨le_wrap (by omega) (by omega) (by omega), ?_⟩ | refine ⟨le_int (by omega), ?_⟩ | refine ⟨le_eq (by simp), ?_⟩)) ResW.void id) ⟨Nat.zero_le _, rfl, Nat.le_refl _, trivial⟩ ?_
    rintro ⟨k, acc, cs, tk⟩ hx
    dsimp only at hx ⊢
    have h1 := hx.1
    have h2 := hx.2.1
    have h3 := hx.2.2.1
    have h4 := hx.2.2.2
    have hcs := leC_len h4
    rw [List.length_map] at hcs
    rcases Nat.lt_or_ge k l.length with hk | hk
    · have hmem : l.getD k (0, []) ∈ l := by rw [List.getD_eq_getElem?_getD, List.getElem?_eq_getElem hk]; exact List.getElem_mem hk
      have htk := ht _ hmem
      have hm0 := markerI_ge (l.getD k (0, [])).1 (l.getD k (0, [])).2
      repeat' (first
        | with_reducible first | refine cut_at (id := 19) ?_ | refine cut_unit (id := 19) ?_ | refine cut_one (id := 19) ?_ | refine AW_seqA (AW_block ?_) | refine AW_block ?_ | refine cut_seqloop ?_ | refine cut_loop ?_ | refine AW_seqA (AW_seqA ?_) | refine AW_seq ?_ | refine AW_runReg ?_ | refine AW_runCond ?_ | refine AW_runExit ?_ | refine AW_runRet ?_ | refine AW_runSkip ?_ | refine AW_runLabel ?_
        | simp only [WL, intF, strF, WM, Int.reduceToNat, ne_eq, reduceCtorEq, not_false_eq_true, Nat.reduceAdd, Nat.reduceSub, Nat.reduceLT, Nat.reduceLeDiff, Nat.reduceEqDiff, Bool.not_true, Bool.not_false, beq_self_eq_true, true_and, and_true, reduceIte, Bool.false_eq_true, convC_sl, convC_str, T3, T4, T5, T9, T24, T30, T59, T67, T69, T71, fC fl67_0, fR fl67_0, fC fl67_1, fR fl67_1, fC fl67_2, fR fl67_2, fC fl71_0, fR fl71_0, fC fl71_1, fR fl71_1, cok17, cok71, cok72, cok73, cok74, cok75, Try.results33]
        | simp (disch := first | omega | (simp only [LN_]; omega)) only [wrap_id, getI, getL]
        | with_reducible first | refine andA (hb := ?_) | refine y_load (hK := ?_) | refine y_loadA (hK := ?_) | refine y_storeA (hK := ?_) | refine y_box (hK := fun b => ?_) | refine y_new (hK := fun b => ?_) | refine y_appN ?_ | refine y_appS ?_ | refine y_app (hlen := ?_) (hmax := ?_) (hK := fun tk => ?_) | refine y_bs0 ?_ | refine y_bs (hK := ?_) | refine y_bytes ?_ | refine cD (rBytes ?_ ?_) | refine cD (rDetect ?_ ?_ ?_) | refine cD (rMarker ?_ ?_) | refine cD (rVoid ?_) | refine cD (rLiteral ?_ ?_) | refine cD (rBlock ?_ ?_)
        | with_reducible refine y_nil (hK := ?_)
        | (with_reducible refine nilTC_split (fun h => ?_) (fun h bn => ?_) <;> (try simp only [List.length_map] at h))
        | ((with_reducible first | refine grd_cases (fun h => ?_) (fun h => ?_) | refine condC_split (fun h => ?_) (fun h => ?_)) <;> (try simp only [h]) <;> (try simp only [NR_, Bool.not_true, Bool.not_false, Bool.not_eq_eq_eq_not, ne_eq] at h))
        | omega | (simp only [LN_]; omega) | (refine maxLen_ok ?_; (first | omega | (simp only [LN_]; omega))))
      all_goals try exact ⟨(acc, cs, tk), St_leW (by repeat (first | exact trivial | refine ⟨le_rfl, ?_⟩ | refine ⟨le_any, ?_⟩ | refine ⟨le_ro, ?_⟩ | refine ⟨le_nil (by decide), ?_⟩ | refine ⟨le_wrap (by omega) (by omega) (by omega), ?_⟩ | refine ⟨le_int (by omega), ?_⟩ | refine ⟨le_eq (by simp), ?_⟩)) (ResW.sub (List.sublist_cons_self _ _)) id, by rw [h2, rows_over hk (over_yes (by first | exact .inl ⟨by omega, by omega⟩ | exact .inr (by omega))), List.append_nil], h4⟩
      all_goals
        have hov : overB d (l.getD k (0, [])) = false := over_no (by first | exact .inl (by omega) | exact .inr (by omega)) (by omega)
        rw [rows_take hk hov] at h2
        have hln := congrArg List.length h2
        simp only [List.length_append, List.length_cons] at hln
        have hcl : (contB d (l.getD k (0, []))).length ≤ 2000 := by unfold contB; simp only [List.length_append, List.length_replicate]; omega
        refine midA (fun tk2 : Option (Nat × Nat) => ⟨(SL o l :: .any :: .any :: .any :: .raw (.pointer (some ⟨bh, 0, none⟩)) :: .any :: .any :: .any :: .any :: I d :: .any :: .any :: .sl 1 (some tk) cs :: I k :: .raw (.pointer (some ⟨b, 0, none⟩)) :: .any :: SI (some tk2) (List.replicate ((l.getD k (0, [])).1 - d).toNat 32) :: .any :: .any :: .any :: .any :: .any :: .any :: .any :: .any :: .any :: .any :: .any :: .any :: .any :: .any :: .any :: .any :: .any :: .any :: .any :: .any :: .any :: .any :: .any :: .any :: .any :: .any :: .any :: .any :: .any :: .any :: .any :: .any :: .any :: .any :: .any :: .any :: .any :: .any :: .any :: .any :: .any :: .any :: .any :: .any :: .any :: .any :: .any :: .any :: .any :: .any :: .any :: .any :: .any :: .any :: .any :: .any :: .any :: .any :: .any :: .any :: .any :: .any :: .any :: .any :: .any :: .any :: .any :: .any :: .any :: .any :: .any :: .any :: .any :: .any :: .any :: .any :: .any :: .any :: .any :: .any :: .any :: .any :: []), .tip tk2 :: .obj b [I (l.getD k (0, [])).1, SI none (l.getD k (0, [])).2] :: .tip tk :: .obj bh [B h0.1, I h0.2.1, I h0.2.2] :: σ, true, []⟩) (fun _ => True) ?_ ?_
        · skip
          repeat' (first
            | with_reducible first | refine AW_seqA (AW_block ?_) | refine AW_block ?_ | refine cut_seqloop ?_ | refine cut_loop ?_ | refine AW_seqA (AW_seqA ?_) | refine AW_seq ?_ | refine AW_runReg ?_ | refine AW_runCond ?_ | refine AW_runExit ?_ | refine AW_runRet ?_ | refine AW_runSkip ?_ | refine AW_runLabel ?_
            | simp only [WL, intF, strF, WM, Int.reduceToNat, ne_eq, reduceCtorEq, not_false_eq_true, Nat.reduceAdd, Nat.reduceSub, Nat.reduceLT, Nat.reduceLeDiff, Nat.reduceEqDiff, Bool.not_true, Bool.not_false, beq_self_eq_true, true_and, and_true, reduceIte, Bool.false_eq_true, convC_sl, convC_str, T3, T4, T5, T9, T24, T30, T59, T67, T69, T71, fC fl67_0, fR fl67_0, fC fl67_1, fR fl67_1, fC fl67_2, fR fl67_2, fC fl71_0, fR fl71_0, fC fl71_1, fR fl71_1, cok17, cok71, cok72, cok73, cok74, cok75, Try.results33]
            | simp (disch := first | omega | (simp only [LN_]; omega)) only [wrap_id, getI]
            | with_reducible first | refine andA (hb := ?_) | refine y_load (hK := ?_) | refine y_loadA (hK := ?_) | refine y_storeA (hK := ?_) | refine y_box (hK := fun b => ?_) | refine y_new (hK := fun b => ?_) | refine y_appN ?_ | refine y_appS ?_ | refine y_app (hlen := ?_) (hmax := ?_) (hK := fun tk => ?_) | refine y_bs0 ?_ | refine y_bs (hK := ?_) | refine y_bytes ?_ | refine cD (rBytes ?_ ?_) | refine cD (rDetect ?_ ?_ ?_) | refine cD (rMarker ?_ ?_) | refine cD (rVoid ?_) | refine cD (rLiteral ?_ ?_) | refine cD (rBlock ?_ ?_)
            | with_reducible refine y_nil (hK := ?_)
            | (with_reducible refine nilTC_split (fun h => ?_) (fun h bn => ?_) <;> (try simp only [List.length_map] at h))
            | ((with_reducible first | refine grd_cases (fun h => ?_) (fun h => ?_) | refine condC_split (fun h => ?_) (fun h => ?_)) <;> (try simp only [h]) <;> (try simp only [NR_, Bool.not_true, Bool.not_false, Bool.not_eq_eq_eq_not, ne_eq] at h))
            | omega | (simp only [LN_]; omega) | (refine maxLen_ok ?_; (first | omega | (simp only [LN_]; omega))))
          refine loopA (fun y : Nat × Option (Nat × Nat) => ⟨(SL o l :: .any :: .any :: .any :: .raw (.pointer (some ⟨bh, 0, none⟩)) :: .any :: .any :: .any :: .any :: I d :: .any :: .any :: .sl 1 (some tk) cs :: I k :: .raw (.pointer (some ⟨b, 0, none⟩)) :: .any :: SI (some y.2) (List.replicate y.1 32) :: I (d + y.1) :: .any :: .any :: .any :: .any :: .any :: .any :: .any :: .any :: .any :: .any :: .any :: .any :: .any :: .any :: .any :: .any :: .any :: .any :: .any :: .any :: .any :: .any :: .any :: .any :: .any :: .any :: .any :: .any :: .any :: .any :: .any :: .any :: .any :: .any :: .any :: .any :: .any :: .any :: .any :: .any :: .any :: .any :: .any :: .any :: .any :: .any :: .any :: .any :: .any :: .any :: .any :: .any :: .any :: .any :: .any :: .any :: .any :: .any :: .any :: .any :: .any :: .any :: .any :: .any :: .any :: .any :: .any :: .any :: .any :: .any :: .any :: .any :: .any :: .any :: .any :: .any :: .any :: .any :: .any :: .any :: .any :: []), .tip y.2 :: .obj b [I (l.getD k (0, [])).1, SI none (l.getD k (0, [])).2] :: .tip tk :: .obj bh [B h0.1, I h0.2.1, I h0.2.2] :: σ, true, []⟩) (fun y => y.1 ≤ ((l.getD k (0, [])).1 - d).toNat) (fun y => ((l.getD k (0, [])).1 - d).toNat - y.1) (0, none) (St_leW (by repeat (first | exact trivial | refine ⟨le_rfl, ?_⟩ | refine ⟨le_any, ?_⟩ | refine ⟨le_ro, ?_⟩ | refine ⟨le_nil (by decide), ?_⟩ | refine ⟨le_wrap (by omega) (by omega) (by omega), ?_⟩ | refine ⟨le_int (by omega), ?_⟩ | refine ⟨le_eq (by simp), ?_⟩)) ResW.void id) (Nat.zero_le _) ?_
          rintro ⟨j, tk2⟩ hy
          dsimp only at hy ⊢
          repeat' (first
            | with_reducible first | refine AW_seqA (AW_block ?_) | refine AW_block ?_ | refine cut_seqloop ?_ | refine cut_loop ?_ | refine AW_seqA (AW_seqA ?_) | refine AW_seq ?_ | refine AW_runReg ?_ | refine AW_runCond ?_ | refine AW_runExit ?_ | refine AW_runRet ?_ | refine AW_runSkip ?_ | refine AW_runLabel ?_
            | simp only [WL, intF, strF, WM, Int.reduceToNat, ne_eq, reduceCtorEq, not_false_eq_true, Nat.reduceAdd, Nat.reduceSub, Nat.reduceLT, Nat.reduceLeDiff, Nat.reduceEqDiff, Bool.not_true, Bool.not_false, beq_self_eq_true, true_and, and_true, reduceIte, Bool.false_eq_true, convC_sl, convC_str, T3, T4, T5, T9, T24, T30, T59, T67, T69, T71, fC fl67_0, fR fl67_0, fC fl67_1, fR fl67_1, fC fl67_2, fR fl67_2, fC fl71_0, fR fl71_0, fC fl71_1, fR fl71_1, cok17, cok71, cok72, cok73, cok74, cok75, Try.results33]
            | simp (disch := first | omega | (simp only [LN_]; omega)) only [wrap_id, getI]
            | with_reducible first | refine andA (hb := ?_) | refine y_load (hK := ?_) | refine y_loadA (hK := ?_) | refine y_storeA (hK := ?_) | refine y_box (hK := fun b => ?_) | refine y_new (hK := fun b => ?_) | refine y_appN ?_ | refine y_appS ?_ | refine y_app (hlen := ?_) (hmax := ?_) (hK := fun tk => ?_) | refine y_bs0 ?_ | refine y_bs (hK := ?_) | refine y_bytes ?_ | refine cD (rBytes ?_ ?_) | refine cD (rDetect ?_ ?_ ?_) | refine cD (rMarker ?_ ?_) | refine cD (rVoid ?_) | refine cD (rLiteral ?_ ?_) | refine cD (rBlock ?_ ?_)
            | with_reducible refine y_nil (hK := ?_)
            | (with_reducible refine nilTC_split (fun h => ?_) (fun h bn => ?_) <;> (try simp only [List.length_map] at h))
            | ((with_reducible first | refine grd_cases (fun h => ?_) (fun h => ?_) | refine condC_split (fun h => ?_) (fun h => ?_)) <;> (try simp only [h]) <;> (try simp only [NR_, Bool.not_true, Bool.not_false, Bool.not_eq_eq_eq_not, ne_eq] at h))
            | omega | (simp only [LN_]; omega) | (refine maxLen_ok ?_; (first | omega | (simp only [LN_]; omega))))
          · exact ⟨(j + 1, tk), St_leW (by simp only [List.replicate_succ']; repeat (first | exact trivial | refine ⟨le_rfl, ?_⟩ | refine ⟨le_any, ?_⟩ | refine ⟨le_ro, ?_⟩ | refine ⟨le_nil (by decide), ?_⟩ | refine ⟨le_wrap (by omega) (by omega) (by omega), ?_⟩ | refine ⟨le_int (by omega), ?_⟩ | refine ⟨le_eq (by simp), ?_⟩)) (ResW.refl _) id, by dsimp only; omega, by dsimp only; omega⟩
          · rw [show j = ((l.getD k (0, [])).1 - d).toNat by omega]
            exact ⟨tk2, St_leW (by repeat (first | exact trivial | refine ⟨le_rfl, ?_⟩ | refine ⟨le_any, ?_⟩ | refine ⟨le_ro, ?_⟩ | refine ⟨le_nil (by decide), ?_⟩ | refine ⟨le_wrap (by omega) (by omega) (by omega), ?_⟩ | refine ⟨le_int (by omega), ?_⟩ | refine ⟨le_eq (by simp), ?_⟩)) (ResW.refl _) id⟩
        · intro tk2 _
          repeat' (first
            | with_reducible first | refine AW_seqA (AW_block ?_) | refine AW_block ?_ | refine cut_seqloop ?_ | refine cut_loop ?_ | refine AW_seqA (AW_seqA ?_) | refine AW_seq ?_ | refine AW_runReg ?_ | refine AW_runCond ?_ | refine AW_runExit ?_ | refine AW_runRet ?_ | refine AW_runSkip ?_ | refine AW_runLabel ?_
            | simp only [WL, intF, strF, WM, Int.reduceToNat, ne_eq, reduceCtorEq, not_false_eq_true, Nat.reduceAdd, Nat.reduceSub, Nat.reduceLT, Nat.reduceLeDiff, Nat.reduceEqDiff, Bool.not_true, Bool.not_false, beq_self_eq_true, true_and, and_true, reduceIte, Bool.false_eq_true, convC_sl, convC_str, T3, T4, T5, T9, T24, T30, T59, T67, T69, T71, fC fl67_0, fR fl67_0, fC fl67_1, fR fl67_1, fC fl67_2, fR fl67_2, fC fl71_0, fR fl71_0, fC fl71_1, fR fl71_1, cok17, cok71, cok72, cok73, cok74, cok75, Try.results33]
            | simp (disch := first | omega | (simp only [LN_]; omega)) only [wrap_id, getI]
            | with_reducible first | refine andA (hb := ?_) | refine y_load (hK := ?_) | refine y_loadA (hK := ?_) | refine y_storeA (hK := ?_) | refine y_box (hK := fun b => ?_) | refine y_new (hK := fun b => ?_) | refine y_appN ?_ | refine y_appS ?_ | refine y_app (hlen := ?_) (hmax := ?_) (hK := fun tk => ?_) | refine y_bs0 ?_ | refine y_bs (hK := ?_) | refine y_bytes ?_ | refine cD (rBytes ?_ ?_) | refine cD (rDetect ?_ ?_ ?_) | refine cD (rMarker ?_ ?_) | refine cD (rVoid ?_) | refine cD (rLiteral ?_ ?_) | refine cD (rBlock ?_ ?_)
            | with_reducible refine y_nil (hK := ?_)
            | (with_reducible refine nilTC_split (fun h => ?_) (fun h bn => ?_) <;> (try simp only [List.length_map] at h))
            | ((with_reducible first | refine grd_cases (fun h => ?_) (fun h => ?_) | refine condC_split (fun h => ?_) (fun h => ?_)) <;> (try simp only [h]) <;> (try simp only [NR_, Bool.not_true, Bool.not_false, Bool.not_eq_eq_eq_not, ne_eq] at h))
            | omega | (simp only [LN_]; omega) | (refine maxLen_ok ?_; (first | omega | (simp only [LN_]; omega))))
          rename_i tk0
          exact ⟨(k + 1, acc ++ [contB d (l.getD k (0, []))], cs ++ [AV.sl 1 (some tk0) (List.map I (List.replicate ((l.getD k (0, [])).1 - d).toNat 32) ++ List.map I (l.getD k (0, [])).2)], tk), St_leW (by repeat (first | exact trivial | refine ⟨le_rfl, ?_⟩ | refine ⟨le_any, ?_⟩ | refine ⟨le_ro, ?_⟩ | refine ⟨le_nil (by decide), ?_⟩ | refine ⟨le_wrap (by omega) (by omega) (by omega), ?_⟩ | refine ⟨le_int (by omega), ?_⟩ | refine ⟨le_eq (by simp), ?_⟩)) (ResW.sub (List.Sublist.cons _ (List.sublist_cons_self _ _))) id, ⟨by dsimp only; omega, by dsimp only; rw [h2]; simp, by dsimp only; simp; omega, by dsimp only; rw [List.map_append]; exact leCA h4 (leCS (by unfold contB; rw [List.map_append]))⟩, by dsimp only; omega⟩
    · skip
      repeat' (first
        | with_reducible first | refine AW_seqA (AW_block ?_) | refine AW_block ?_ | refine cut_seqloop ?_ | refine cut_loop ?_ | refine AW_seqA (AW_seqA ?_) | refine AW_seq ?_ | refine AW_runReg ?_ | refine AW_runCond ?_ | refine AW_runExit ?_ | refine AW_runRet ?_ | refine AW_runSkip ?_ | refine AW_runLabel ?_
        | simp only [WL, intF, strF, WM, Int.reduceToNat, ne_eq, reduceCtorEq, not_false_eq_true, Nat.reduceAdd, Nat.reduceSub, Nat.reduceLT, Nat.reduceLeDiff, Nat.reduceEqDiff, Bool.not_true, Bool.not_false, beq_self_eq_true, true_and, and_true, reduceIte, Bool.false_eq_true, convC_sl, convC_str, T3, T4, T5, T9, T24, T30, T59, T67, T69, T71, fC fl67_0, fR fl67_0, fC fl67_1, fR fl67_1, fC fl67_2, fR fl67_2, fC fl71_0, fR fl71_0, fC fl71_1, fR fl71_1, cok17, cok71, cok72, cok73, cok74, cok75, Try.results33]
        | simp (disch := first | omega | (simp only [LN_]; omega)) only [wrap_id, getI]
        | with_reducible first | refine andA (hb := ?_) | refine y_load (hK := ?_) | refine y_loadA (hK := ?_) | refine y_storeA (hK := ?_) | refine y_box (hK := fun b => ?_) | refine y_new (hK := fun b => ?_) | refine y_appN ?_ | refine y_appS ?_ | refine y_app (hlen := ?_) (hmax := ?_) (hK := fun tk => ?_) | refine y_bs0 ?_ | refine y_bs (hK := ?_) | refine y_bytes ?_ | refine cD (rBytes ?_ ?_) | refine cD (rDetect ?_ ?_ ?_) | refine cD (rMarker ?_ ?_) | refine cD (rVoid ?_) | refine cD (rLiteral ?_ ?_) | refine cD (rBlock ?_ ?_)
        | with_reducible refine y_nil (hK := ?_)
        | (with_reducible refine nilTC_split (fun h => ?_) (fun h bn => ?_) <;> (try simp only [List.length_map] at h))
        | ((with_reducible first | refine grd_cases (fun h => ?_) (fun h => ?_) | refine condC_split (fun h => ?_) (fun h => ?_)) <;> (try simp only [h]) <;> (try simp only [NR_, Bool.not_true, Bool.not_false, Bool.not_eq_eq_eq_not, ne_eq] at h))
        | omega | (simp only [LN_]; omega) | (refine maxLen_ok ?_; (first | omega | (simp only [LN_]; omega))))
      exact ⟨(acc, cs, tk), St_leW (by repeat (first | exact trivial | refine ⟨le_rfl, ?_⟩ | refine ⟨le_any, ?_⟩ | refine ⟨le_ro, ?_⟩ | refine ⟨le_nil (by decide), ?_⟩ | refine ⟨le_wrap (by omega) (by omega) (by omega), ?_⟩ | refine ⟨le_int (by omega), ?_⟩ | refine ⟨le_eq (by simp), ?_⟩)) (ResW.refl _) id, by rw [h2, rows_end hk, List.append_nil], h4⟩
  · rintro ⟨acc, cs, tk⟩ hx
    dsimp only at hx ⊢
    have hacc := hx.1
    have h4 := hx.2
    have hcs := leC_len h4
    rw [List.length_map] at hcs
    rw [hacc] at hu htot
    have q1 := litF_len acc h0.2.1
    have q2 := blkF_len acc h0.2.1
    have q3 := tot_len acc
    cases hf : h0.1
    · rw [hf] at hu
      simp only [Bool.false_eq_true, if_false] at hu
      repeat' (first
        | with_reducible first | refine AW_seqA (AW_block ?_) | refine AW_block ?_ | refine cut_seqloop ?_ | refine cut_loop ?_ | refine AW_seqA (AW_seqA ?_) | refine AW_seq ?_ | refine AW_runReg ?_ | refine AW_runCond ?_ | refine AW_runExit ?_ | refine AW_runRet ?_ | refine AW_runSkip ?_ | refine AW_runLabel ?_
        | simp only [WL, intF, strF, WM, Int.reduceToNat, ne_eq, reduceCtorEq, not_false_eq_true, Nat.reduceAdd, Nat.reduceSub, Nat.reduceLT, Nat.reduceLeDiff, Nat.reduceEqDiff, Bool.not_true, Bool.not_false, beq_self_eq_true, true_and, and_true, reduceIte, Bool.false_eq_true, convC_sl, convC_str, T3, T4, T5, T9, T24, T30, T59, T67, T69, T71, fC fl67_0, fR fl67_0, fC fl67_1, fR fl67_1, fC fl67_2, fR fl67_2, fC fl71_0, fR fl71_0, fC fl71_1, fR fl71_1, cok17, cok71, cok72, cok73, cok74, cok75, Try.results33, hf, ← hcs]
        | simp (disch := first | omega | (simp only [LN_]; omega)) only [wrap_id, getI]
        | with_reducible first | refine andA (hb := ?_) | refine y_load (hK := ?_) | refine y_loadA (hK := ?_) | refine y_storeA (hK := ?_) | refine y_box (hK := fun b => ?_) | refine y_new (hK := fun b => ?_) | refine y_appN ?_ | refine y_appS ?_ | refine y_app (hlen := ?_) (hmax := ?_) (hK := fun tk => ?_) | refine y_bs0 ?_ | refine y_bs (hK := ?_) | refine y_bytes ?_
        | ( refine callD_mk (ACallF.argsS (ys := [SSI (some tk) acc, I h0.2.1]) ⟨leS_sl h4, leS_le le_rfl, trivial⟩ (rLiteral (by omega) ?_)))
        | ( refine callD_mk (ACallF.argsS (ys := [SSI (some tk) acc, I h0.2.1]) ⟨leS_sl h4, leS_le le_rfl, trivial⟩ (rBlock (by omega) ?_)))
        | with_reducible first | refine cD (rBytes ?_ ?_) | refine cD (rDetect ?_ ?_ ?_) | refine cD (rMarker ?_ ?_) | refine cD (rVoid ?_) | refine cD (rLiteral ?_ ?_) | refine cD (rBlock ?_ ?_)
        | with_reducible refine y_nil (hK := ?_)
        | (with_reducible refine nilTC_split (fun h => ?_) (fun h bn => ?_) <;> (try simp only [List.length_map] at h))
        | ((with_reducible first | refine grd_cases (fun h => ?_) (fun h => ?_) | refine condC_split (fun h => ?_) (fun h => ?_)) <;> (try simp only [h]) <;> (try simp only [NR_, Bool.not_true, Bool.not_false, Bool.not_eq_eq_eq_not, ne_eq] at h))
        | omega | (simp only [LN_]; omega) | (refine maxLen_ok ?_; (first | omega | (simp only [LN_]; omega))))
      exact leafL (sub_cons (sub_cons sub_rfl)) (leT_eq (by rw [hu]; rfl)) hK
    · rw [hf] at hu
      simp only [if_true] at hu
      repeat' (first
        | with_reducible first | refine AW_seqA (AW_block ?_) | refine AW_block ?_ | refine cut_seqloop ?_ | refine cut_loop ?_ | refine AW_seqA (AW_seqA ?_) | refine AW_seq ?_ | refine AW_runReg ?_ | refine AW_runCond ?_ | refine AW_runExit ?_ | refine AW_runRet ?_ | refine AW_runSkip ?_ | refine AW_runLabel ?_
        | simp only [WL, intF, strF, WM, Int.reduceToNat, ne_eq, reduceCtorEq, not_false_eq_true, Nat.reduceAdd, Nat.reduceSub, Nat.reduceLT, Nat.reduceLeDiff, Nat.reduceEqDiff, Bool.not_true, Bool.not_false, beq_self_eq_true, true_and, and_true, reduceIte, Bool.false_eq_true, convC_sl, convC_str, T3, T4, T5, T9, T24, T30, T59, T67, T69, T71, fC fl67_0, fR fl67_0, fC fl67_1, fR fl67_1, fC fl67_2, fR fl67_2, fC fl71_0, fR fl71_0, fC fl71_1, fR fl71_1, cok17, cok71, cok72, cok73, cok74, cok75, Try.results33, hf, ← hcs]
        | simp (disch := first | omega | (simp only [LN_]; omega)) only [wrap_id, getI]
        | with_reducible first | refine andA (hb := ?_) | refine y_load (hK := ?_) | refine y_loadA (hK := ?_) | refine y_storeA (hK := ?_) | refine y_box (hK := fun b => ?_) | refine y_new (hK := fun b => ?_) | refine y_appN ?_ | refine y_appS ?_ | refine y_app (hlen := ?_) (hmax := ?_) (hK := fun tk => ?_) | refine y_bs0 ?_ | refine y_bs (hK := ?_) | refine y_bytes ?_
        | ( refine callD_mk (ACallF.argsS (ys := [SSI (some tk) acc, I h0.2.1]) ⟨leS_sl h4, leS_le le_rfl, trivial⟩ (rLiteral (by omega) ?_)))
        | ( refine callD_mk (ACallF.argsS (ys := [SSI (some tk) acc, I h0.2.1]) ⟨leS_sl h4, leS_le le_rfl, trivial⟩ (rBlock (by omega) ?_)))
        | with_reducible first | refine cD (rBytes ?_ ?_) | refine cD (rDetect ?_ ?_ ?_) | refine cD (rMarker ?_ ?_) | refine cD (rVoid ?_) | refine cD (rLiteral ?_ ?_) | refine cD (rBlock ?_ ?_)
        | with_reducible refine y_nil (hK := ?_)
        | (with_reducible refine nilTC_split (fun h => ?_) (fun h bn => ?_) <;> (try simp only [List.length_map] at h))
        | ((with_reducible first | refine grd_cases (fun h => ?_) (fun h => ?_) | refine condC_split (fun h => ?_) (fun h => ?_)) <;> (try simp only [h]) <;> (try simp only [NR_, Bool.not_true, Bool.not_false, Bool.not_eq_eq_eq_not, ne_eq] at h))
        | omega | (simp only [LN_]; omega) | (refine maxLen_ok ?_; (first | omega | (simp only [LN_]; omega))))
      exact leafL (sub_cons (sub_cons sub_rfl)) (leT_eq (by rw [hu]; rfl)) hK
end Go.Proofs.Ytaeacialcbahnaa
