/-
  Walks: chapter 10, block.Read.
-/
import Derived.Test.YtaeacialcbahnaaBm
namespace Go.Proofs.Ytaeacialcbahnaa
open Go.Abs
set_option linter.unusedVariables false
set_option linter.unusedSimpArgs false
-- hb: 8000000
variable {κ : Ctx} {σ : List Res} {K : Ret → List Res → Prop} {o o' : Option (Option (Nat × Nat))}

set_option maxHeartbeats 8000000 in
theorem scanI_bound : ∀ (l : List Ln) (w : Int), 0 ≤ w → w ≤ 1000 → (∀ x ∈ l, 0 ≤ x.1 ∧ x.1 ≤ 1000) → (0 ≤ (scanI w l).1 ∧ (scanI w l).1 ≤ 1000) ∧ ∀ f, (scanI w l).2 = some f → 0 ≤ f ∧ f ≤ 1000
  | [], w, h, h2, _ => by simp [scanI, h, h2]
  | x :: r, w, h, h2, hb => by
    have hx := hb x (by simp)
    simp only [scanI]
    split
    · exact scanI_bound r _ (by omega) (by omega) (fun y hy => hb y (by simp [hy]))
    · refine ⟨⟨h, h2⟩, fun f hf => ?_⟩
      simp only at hf
      split at hf
      · cases hf; exact hx
      · cases hf
set_option maxHeartbeats 8000000 in
theorem indI_bound {l : List Ln} {ind n : Int} (hb : ∀ x ∈ l, 0 ≤ x.1 ∧ x.1 ≤ 1000) (hn : -1 ≤ n ∧ n ≤ 1099511627776) : 0 ≤ (indI l ind n).1 ∧ (indI l ind n).1 ≤ 2199023255552 := by
  have h1 := scanI_bound l 0 (by decide) (by decide) hb
  unfold indI
  split
  · simp only; omega
  · have h2 := h1.2
    cases hf : (scanI 0 l).2 with
    | none => 
      simp only [Option.getD_none]
      (repeat' split) <;> simp only <;> omega
    | some f =>
      have h3 := h2 f hf
      simp only [Option.getD_some]
      (repeat' split) <;> simp only <;> omega
set_option maxHeartbeats 8000000 in
theorem rows_tot {d : Int} (hd : 0 ≤ d) : ∀ {l : List Ln}, (∀ x ∈ l, x.2.length ≤ 1000 ∧ 0 ≤ x.1 ∧ x.1 ≤ 1000) → tot (rowsB d l) ≤ l.length * 2001
  | [], _ => by simp [rowsB, tot]
  | x :: r, hb => by
    have ih := rows_tot hd (l := r) (fun y hy => hb y (by simp [hy]))
    have hx := hb x (by simp)
    simp only [rowsB, List.takeWhile_cons] at *
    split
    · simp only [List.map_cons, tot, List.sum_cons, contB, List.length_append, List.length_replicate, List.length_cons] at *
      rw [Nat.add_mul]
      have : (x.1 - d).toNat ≤ 1000 := by omega
      omega
    · simp [tot]

-- block.Read
set_option maxHeartbeats 8000000 in
theorem bRead {l : List Ln} {h0 : HD} {n : Int} (hl : l.length ≤ 1000) (ht : ∀ x ∈ l, x.2.length ≤ 1000 ∧ 0 ≤ x.1 ∧ x.1 ≤ 1000) (hK : K (.ret (.tup [.raw (.string (blockB l h0 n).1), I (blockB l h0 n).2.1, I (blockB l h0 n).2.2])) σ) : ACallF κ Try.prog 32 [SL o l, HDA h0, I n] σ K := by
  have hl2 : l.length ≤ 1000000000 := by omega
  have ht2 : ∀ x ∈ l, x.2.length ≤ 1000000000 := fun x hx => by have := ht x hx; omega
  have hmn : -1 ≤ min (max (-1) n) 1099511627776 ∧ min (max (-1) n) 1099511627776 ≤ 1099511627776 := by omega
  refine ACallF.dropL (ACallF_introA Try.func32 rfl ?_)
  simp only [Try.ntmps32]
  repeat' (first
    | with_reducible first | refine AW_seqA (AW_block ?_) | refine AW_block ?_ | refine cut_seqloop ?_ | refine cut_loop ?_ | refine AW_seqA (AW_seqA ?_) | refine AW_seq ?_ | refine AW_runReg ?_ | refine AW_runCond ?_ | refine AW_runExit ?_ | refine AW_runRet ?_ | refine AW_runSkip ?_ | refine AW_runLabel ?_
    | simp only [WL, intF, strF, WM, Int.reduceToNat, ne_eq, reduceCtorEq, not_false_eq_true, Nat.reduceAdd, Nat.reduceSub, Nat.reduceLT, Nat.reduceLeDiff, Nat.reduceEqDiff, Bool.not_true, Bool.not_false, beq_self_eq_true, true_and, and_true, reduceIte, Bool.false_eq_true, convC_sl, convC_str, T3, T4, T5, T9, T24, T30, T50, T59, T64, T69, T71, T93, T95, fC fl64_0, fR fl64_0, fC fl64_1, fR fl64_1, cok66, cok67, cok68, cok69, cok70, Try.results32]
    | simp (disch := first | omega | (simp only [LN_]; omega)) only [wrap_id, getI]
    | with_reducible first | refine andA (hb := ?_) | refine y_load (hK := ?_) | refine y_loadA (hK := ?_) | refine y_store (hK := ?_) | refine y_box (hK := fun b => ?_) | refine y_new (hK := fun b => ?_) | refine y_appN ?_ | refine y_appS ?_ | refine y_app (hlen := ?_) (hmax := ?_) (hK := fun tk => ?_) | refine y_bs0 ?_ | refine y_bs (hK := ?_) | refine y_max ?_ | refine y_min ?_ | refine y_bytes ?_ | refine callD_mk (bIndent (h0 := h0) hl2 ht2 hmn ?_) | refine cQ (bIndent ?_ ?_ ?_ isR_mk) ?_ | refine cD (bIndent ?_ ?_ ?_ ?_) | refine cD (bRows (fun br1 br2 => ?_)) | refine cQ (literal1 ?_ isR_mk) ?_ | refine cD (literal1 ?_ ?_) | refine cQ (block1 ?_ isR_mk) ?_ | refine cD (block1 ?_ ?_) | refine cQ (uBytes ?_ isR_mk) ?_ | refine cD (uBytes ?_ ?_)
    | ((with_reducible refine AW_drawM (id := 11) 12 mixed ?_ ?_); kernel_rfl)
    | (with_reducible refine dmQ_mk ?_)
    | with_reducible refine y_nil (hK := ?_)
    | (with_reducible refine nilTC_split (fun h => ?_) (fun h bn => ?_) <;> (try simp only [List.length_map] at h))
    | ((with_reducible first | refine grd_cases (fun h => ?_) (fun h => ?_) | refine condC_split (fun h => ?_) (fun h => ?_)) <;> (try simp only [h]) <;> (try simp only [NR_, Bool.not_true, Bool.not_false, Bool.not_eq_eq_eq_not, ne_eq] at h))
    | omega | (simp only [LN_]; omega) | (refine maxLen_ok ?_; (first | omega | (simp only [LN_]; omega))))
  · exact leafL (sub_cons sub_rfl) (leT_eq (by unfold blockB; rw [if_pos (by assumption)]; rfl)) hK
  rename_i bh
  have hdb := indI_bound (ind := h0.2.2) (fun x hx => (ht x hx).2) hmn
  have hu : blockB l h0 n = ((textI (if h0.1 then blkF (rowsB (indI l h0.2.2 (min (max (-1) n) 1099511627776)).1 l) h0.2.1 else litF (rowsB (indI l h0.2.2 (min (max (-1) n) 1099511627776)).1 l) h0.2.1), ((rowsB (indI l h0.2.2 (min (max (-1) n) 1099511627776)).1 l).length : Nat), 0) : ByteArray × Int × Int) := by unfold blockB; rw [if_neg (by simpa using h)]
  generalize (indI l h0.2.2 (min (max (-1) n) 1099511627776)).1 = d at *
  have htot := rows_tot hdb.1 ht
  have ht3 : ∀ x ∈ l, x.2.length ≤ 1000000000 ∧ -1000000000000000 ≤ x.1 - d ∧ x.1 - d ≤ 1000000 := fun x hx => by have := ht x hx; omega
  refine range_by 98 [] [.pointer (some ⟨br1, 0, none⟩), .pointer (some ⟨br2, 0, none⟩)] ((rowsB d l).map fun t => [SI none t]) [.obj br2 [I d], .obj br1 [SL o l]] (.obj b [SSI (some none) []] :: .tip none :: .obj bh [B h0.1, I h0.2.1, I h0.2.2] :: σ)
    (fun xs τ => ∃ (dn rest : List (List Int)) (tk : Option (Nat × Nat)), rowsB d l = dn ++ rest ∧ xs = rest.map (fun t => [SI none t]) ∧ τ = .obj b [SSI (some tk) dn] :: .tip tk :: .obj bh [B h0.1, I h0.2.1, I h0.2.2] :: σ)
    rfl cok98 (ResW.cons _ (ResW.cons _ ((ResW.void.cons _).trans (ResW.obj (leL_one (le_nil (by decide))))))) (fun L K σ' h => bRowsIt hl2 ht3 h) ⟨[], rowsB d l, none, rfl, rfl, rfl⟩ ?_ ?_
  · rintro τ ⟨dn, rest, tk, h1, h2, rfl⟩
    obtain rfl : rest = [] := by cases rest with
      | nil => rfl
      | cons => simp at h2
    rw [List.append_nil] at h1
    rw [h1] at hu htot
    have q1 := litF_len dn h0.2.1
    have q2 := blkF_len dn h0.2.1
    have q3 := tot_len dn
    cases hf : h0.1
    · rw [hf] at hu
      simp only [Bool.false_eq_true, if_false] at hu
      repeat' (first
        | with_reducible first | refine AW_seqA (AW_block ?_) | refine AW_block ?_ | refine cut_seqloop ?_ | refine cut_loop ?_ | refine AW_seqA (AW_seqA ?_) | refine AW_seq ?_ | refine AW_runReg ?_ | refine AW_runCond ?_ | refine AW_runExit ?_ | refine AW_runRet ?_ | refine AW_runSkip ?_ | refine AW_runLabel ?_
        | simp only [WL, intF, strF, WM, Int.reduceToNat, ne_eq, reduceCtorEq, not_false_eq_true, Nat.reduceAdd, Nat.reduceSub, Nat.reduceLT, Nat.reduceLeDiff, Nat.reduceEqDiff, Bool.not_true, Bool.not_false, beq_self_eq_true, true_and, and_true, reduceIte, Bool.false_eq_true, convC_sl, convC_str, T3, T4, T5, T9, T24, T30, T50, T59, T64, T69, T71, T93, T95, fC fl64_0, fR fl64_0, fC fl64_1, fR fl64_1, cok66, cok67, cok68, cok69, cok70, Try.results32, hf]
        | simp (disch := first | omega | (simp only [LN_]; omega)) only [wrap_id, getI]
        | with_reducible first | refine andA (hb := ?_) | refine y_load (hK := ?_) | refine y_loadA (hK := ?_) | refine y_store (hK := ?_) | refine y_box (hK := fun b => ?_) | refine y_new (hK := fun b => ?_) | refine y_appN ?_ | refine y_appS ?_ | refine y_app (hlen := ?_) (hmax := ?_) (hK := fun tk => ?_) | refine y_bs0 ?_ | refine y_bs (hK := ?_) | refine y_max ?_ | refine y_min ?_ | refine y_bytes ?_ | refine cQ (bIndent ?_ ?_ ?_ isR_mk) ?_ | refine cD (bIndent ?_ ?_ ?_ ?_) | refine cD (bRows (fun br1 br2 => ?_)) | refine cQ (literal1 ?_ isR_mk) ?_ | refine cD (literal1 ?_ ?_) | refine cQ (block1 ?_ isR_mk) ?_ | refine cD (block1 ?_ ?_) | refine cQ (uBytes ?_ isR_mk) ?_ | refine cD (uBytes ?_ ?_)
        | ((with_reducible refine AW_drawM (id := 11) 12 mixed ?_ ?_); kernel_rfl)
        | (with_reducible refine dmQ_mk ?_)
        | with_reducible refine y_nil (hK := ?_)
        | (with_reducible refine nilTC_split (fun h => ?_) (fun h bn => ?_) <;> (try simp only [List.length_map] at h))
        | ((with_reducible first | refine grd_cases (fun h => ?_) (fun h => ?_) | refine condC_split (fun h => ?_) (fun h => ?_)) <;> (try simp only [h]) <;> (try simp only [NR_, Bool.not_true, Bool.not_false, Bool.not_eq_eq_eq_not, ne_eq] at h))
        | omega | (simp only [LN_]; omega) | (refine maxLen_ok ?_; (first | omega | (simp only [LN_]; omega))))
      exact leafL (sub_cons (sub_cons (sub_cons sub_rfl))) (leT_eq (by rw [hu]; rfl)) hK
    · rw [hf] at hu
      simp only [if_true] at hu
      repeat' (first
        | with_reducible first | refine AW_seqA (AW_block ?_) | refine AW_block ?_ | refine cut_seqloop ?_ | refine cut_loop ?_ | refine AW_seqA (AW_seqA ?_) | refine AW_seq ?_ | refine AW_runReg ?_ | refine AW_runCond ?_ | refine AW_runExit ?_ | refine AW_runRet ?_ | refine AW_runSkip ?_ | refine AW_runLabel ?_
        | simp only [WL, intF, strF, WM, Int.reduceToNat, ne_eq, reduceCtorEq, not_false_eq_true, Nat.reduceAdd, Nat.reduceSub, Nat.reduceLT, Nat.reduceLeDiff, Nat.reduceEqDiff, Bool.not_true, Bool.not_false, beq_self_eq_true, true_and, and_true, reduceIte, Bool.false_eq_true, convC_sl, convC_str, T3, T4, T5, T9, T24, T30, T50, T59, T64, T69, T71, T93, T95, fC fl64_0, fR fl64_0, fC fl64_1, fR fl64_1, cok66, cok67, cok68, cok69, cok70, Try.results32, hf]
        | simp (disch := first | omega | (simp only [LN_]; omega)) only [wrap_id, getI]
        | with_reducible first | refine andA (hb := ?_) | refine y_load (hK := ?_) | refine y_loadA (hK := ?_) | refine y_store (hK := ?_) | refine y_box (hK := fun b => ?_) | refine y_new (hK := fun b => ?_) | refine y_appN ?_ | refine y_appS ?_ | refine y_app (hlen := ?_) (hmax := ?_) (hK := fun tk => ?_) | refine y_bs0 ?_ | refine y_bs (hK := ?_) | refine y_max ?_ | refine y_min ?_ | refine y_bytes ?_ | refine cQ (bIndent ?_ ?_ ?_ isR_mk) ?_ | refine cD (bIndent ?_ ?_ ?_ ?_) | refine cD (bRows (fun br1 br2 => ?_)) | refine cQ (literal1 ?_ isR_mk) ?_ | refine cD (literal1 ?_ ?_) | refine cQ (block1 ?_ isR_mk) ?_ | refine cD (block1 ?_ ?_) | refine cQ (uBytes ?_ isR_mk) ?_ | refine cD (uBytes ?_ ?_)
        | ((with_reducible refine AW_drawM (id := 11) 12 mixed ?_ ?_); kernel_rfl)
        | (with_reducible refine dmQ_mk ?_)
        | with_reducible refine y_nil (hK := ?_)
        | (with_reducible refine nilTC_split (fun h => ?_) (fun h bn => ?_) <;> (try simp only [List.length_map] at h))
        | ((with_reducible first | refine grd_cases (fun h => ?_) (fun h => ?_) | refine condC_split (fun h => ?_) (fun h => ?_)) <;> (try simp only [h]) <;> (try simp only [NR_, Bool.not_true, Bool.not_false, Bool.not_eq_eq_eq_not, ne_eq] at h))
        | omega | (simp only [LN_]; omega) | (refine maxLen_ok ?_; (first | omega | (simp only [LN_]; omega))))
      exact leafL (sub_cons (sub_cons (sub_cons sub_rfl))) (leT_eq (by rw [hu]; rfl)) hK
  · rintro dd L Rr Rb hR x xs τ ⟨dn, rest, tk, h1, h2, rfl⟩
    cases rest with
    | nil => simp at h2
    | cons t rest =>
    simp only [List.map_cons, List.cons.injEq] at h2
    obtain ⟨rfl, rfl⟩ := h2
    have hln := congrArg List.length h1
    have q3 := tot_len (rowsB d l)
    simp only [List.length_append, List.length_cons] at hln
    refine ⟨rfl, ?_⟩
    repeat' (first
      | simp only [WL, intF, strF, WM, Int.reduceToNat, ne_eq, reduceCtorEq, not_false_eq_true, Nat.reduceAdd, Nat.reduceSub, Nat.reduceLT, Nat.reduceLeDiff, Nat.reduceEqDiff, Bool.not_true, Bool.not_false, beq_self_eq_true, true_and, and_true, reduceIte, Bool.false_eq_true, convC_sl, convC_str, T3, T4, T5, T9, T24, T30, T50, T59, T64, T69, T71, T93, T95, fC fl64_0, fR fl64_0, fC fl64_1, fR fl64_1, cok66, cok67, cok68, cok69, cok70, Try.results32]
      | simp (disch := first | omega | (simp only [LN_]; omega)) only [wrap_id, getI]
      | with_reducible first | refine andA (hb := ?_) | refine y_load (hK := ?_) | refine y_loadA (hK := ?_) | refine y_store (hK := ?_) | refine y_box (hK := fun b => ?_) | refine y_new (hK := fun b => ?_) | refine y_appN ?_ | refine y_appS ?_ | refine y_app (hlen := ?_) (hmax := ?_) (hK := fun tk => ?_) | refine y_bs0 ?_ | refine y_bs (hK := ?_) | refine y_max ?_ | refine y_min ?_ | refine y_bytes ?_ | refine cQ (bIndent ?_ ?_ ?_ isR_mk) ?_ | refine cD (bIndent ?_ ?_ ?_ ?_) | refine cD (bRows (fun br1 br2 => ?_)) | refine cQ (literal1 ?_ isR_mk) ?_ | refine cD (literal1 ?_ ?_) | refine cQ (block1 ?_ isR_mk) ?_ | refine cD (block1 ?_ ?_) | refine cQ (uBytes ?_ isR_mk) ?_ | refine cD (uBytes ?_ ?_)
      | ((with_reducible refine AW_drawM (id := 11) 12 mixed ?_ ?_); kernel_rfl)
      | (with_reducible refine dmQ_mk ?_)
      | with_reducible refine y_nil (hK := ?_)
      | (with_reducible refine nilTC_split (fun h => ?_) (fun h bn => ?_) <;> (try simp only [List.length_map] at h))
      | ((with_reducible first | refine grd_cases (fun h => ?_) (fun h => ?_) | refine condC_split (fun h => ?_) (fun h => ?_)) <;> (try simp only [h]) <;> (try simp only [NR_, Bool.not_true, Bool.not_false, Bool.not_eq_eq_eq_not, ne_eq] at h))
      | omega | (simp only [LN_]; omega) | (refine maxLen_ok ?_; (first | omega | (simp only [LN_]; omega))))
    refine rngA_mk ?_
    repeat' (first
      | simp only [WL, intF, strF, WM, Int.reduceToNat, ne_eq, reduceCtorEq, not_false_eq_true, Nat.reduceAdd, Nat.reduceSub, Nat.reduceLT, Nat.reduceLeDiff, Nat.reduceEqDiff, Bool.not_true, Bool.not_false, beq_self_eq_true, true_and, and_true, reduceIte, Bool.false_eq_true, convC_sl, convC_str, T3, T4, T5, T9, T24, T30, T50, T59, T64, T69, T71, T93, T95, fC fl64_0, fR fl64_0, fC fl64_1, fR fl64_1, cok66, cok67, cok68, cok69, cok70, Try.results32]
      | simp (disch := first | omega | (simp only [LN_]; omega)) only [wrap_id, getI]
      | with_reducible first | refine andA (hb := ?_) | refine y_load (hK := ?_) | refine y_loadA (hK := ?_) | refine y_store (hK := ?_) | refine y_box (hK := fun b => ?_) | refine y_new (hK := fun b => ?_) | refine y_appN ?_ | refine y_appS ?_ | refine y_app (hlen := ?_) (hmax := ?_) (hK := fun tk => ?_) | refine y_bs0 ?_ | refine y_bs (hK := ?_) | refine y_max ?_ | refine y_min ?_ | refine y_bytes ?_ | refine cQ (bIndent ?_ ?_ ?_ isR_mk) ?_ | refine cD (bIndent ?_ ?_ ?_ ?_) | refine cD (bRows (fun br1 br2 => ?_)) | refine cQ (literal1 ?_ isR_mk) ?_ | refine cD (literal1 ?_ ?_) | refine cQ (block1 ?_ isR_mk) ?_ | refine cD (block1 ?_ ?_) | refine cQ (uBytes ?_ isR_mk) ?_ | refine cD (uBytes ?_ ?_)
      | ((with_reducible refine AW_drawM (id := 11) 12 mixed ?_ ?_); kernel_rfl)
      | (with_reducible refine dmQ_mk ?_)
      | with_reducible refine y_nil (hK := ?_)
      | (with_reducible refine nilTC_split (fun h => ?_) (fun h bn => ?_) <;> (try simp only [List.length_map] at h))
      | ((with_reducible first | refine grd_cases (fun h => ?_) (fun h => ?_) | refine condC_split (fun h => ?_) (fun h => ?_)) <;> (try simp only [h]) <;> (try simp only [NR_, Bool.not_true, Bool.not_false, Bool.not_eq_eq_eq_not, ne_eq] at h))
      | omega | (simp only [LN_]; omega) | (refine maxLen_ok ?_; (first | omega | (simp only [LN_]; omega))))
    exact ⟨_, resS_rfl, dn ++ [t], rest, tk, by rw [h1]; simp, rfl, by simp⟩
end Go.Proofs.Ytaeacialcbahnaa
