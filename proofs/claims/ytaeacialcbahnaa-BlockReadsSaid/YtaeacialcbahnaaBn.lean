/-
  Walks: chapter 10, block.Read.
-/
import Derived.Test.YtaeacialcbahnaaBm
namespace Go.Proofs.Ytaeacialcbahnaa
open Go.Abs
set_option linter.unusedVariables false
set_option linter.unusedSimpArgs false
-- hb: 8000000
variable {κ : Ctx} {σ : List Res} {K : Ret → List Res → Prop} {o o' : Option (Option (Nat × Nat))}

set_option maxHeartbeats 8000000 in
theorem scanI_bound : ∀ (l : List Ln) (w : Int), 0 ≤ w → w ≤ 1000 → (∀ x ∈ l, 0 ≤ x.1 ∧ x.1 ≤ 1000) → (0 ≤ (scanI w l).1 ∧ (scanI w l).1 ≤ 1000) ∧ ∀ f, (scanI w l).2 = some f → 0 ≤ f ∧ f ≤ 1000
  | [], w, h, h2, _ => by simp [scanI, h, h2]
  | x :: r, w, h, h2, hb => by
    have hx := hb x (by simp)
    simp only [scanI]
    split
    · exact scanI_bound r _ (by omega) (by omega) (fun y hy => hb y (by simp [hy]))
    · refine ⟨⟨h, h2⟩, fun f hf => ?_⟩
      simp only at hf
      split at hf
      · cases hf; exact hx
      · cases hf
set_option maxHeartbeats 8000000 in
theorem indI_bound {l : List Ln} {ind n : Int} (hb : ∀ x ∈ l, 0 ≤ x.1 ∧ x.1 ≤ 1000) (hn : -1 ≤ n ∧ n ≤ 1099511627776) : 0 ≤ (indI l ind n).1 ∧ (indI l ind n).1 ≤ 2199023255552 := by
  have h1 := scanI_bound l 0 (by decide) (by decide) hb
  unfold indI
  split
  · simp only; omega
  · have h2 := h1.2
    cases hf : (scanI 0 l).2 with
    | none => 
      simp only [Option.getD_none]
      (repeat' split) <;> simp only <;> omega
    | some f =>
      have h3 := h2 f hf
      simp only [Option.getD_some]
      (repeat' split) <;> simp only <;> omega
set_option maxHeartbeats 8000000 in
theorem rows_tot {d : Int} (hd : 0 ≤ d) : ∀ {l : List Ln}, (∀ x ∈ l, x.2.length ≤ 1000 ∧ 0 ≤ x.1 ∧ x.1 ≤ 1000) → tot (rowsB d l) ≤ l.length * 2001
  | [], _ => by simp [rowsB, tot]
  | x :: r, hb => by
    have ih := rows_tot hd (l := r) (fun y hy => hb y (by simp [hy]))
    have hx := hb x (by simp)
    simp only [rowsB, List.takeWhile_cons] at *
    split
    · simp only [List.map_cons, tot, List.sum_cons, contB, List.length_append, List.length_replicate, List.length_cons] at *
      rw [Nat.add_mul]
      have : (x.1 - d).toNat ≤ 1000 := by omega
      omega
    · simp [tot]

-- block.Read
set_option maxHeartbeats 8000000 in
theorem bRead {l : List Ln} {h0 : HD} {n : Int} (hl : l.length ≤ 1000) (ht : ∀ x ∈ l, x.2.length ≤ 1000 ∧ 0 ≤ x.1 ∧ x.1 ≤ 1000) (hK : K (.ret (.tup [.raw (.string (blockB l h0 n).1), I (blockB l h0 n).2.1, I (blockB l h0 n).2.2])) σ) : ACallF κ Try.prog 32 [SL o l, HDA h0, I n] σ K := by
  have hl2 : l.length ≤ 1000000000 := by omega
  have ht2 : ∀ x ∈ l, x.2.length ≤ 1000000000 := fun x hx => by have := ht x hx; omega
  have hmn : -1 ≤ min (max (-1) n) 1099511627776 ∧ min (max (-1) n) 1099511627776 ≤ 1099511627776 := by omega
  refine ACallF.dropL (ACallF_introA Try.func32 rfl ?_)
  simp only [Try.ntmps32]
  repeat' (first
    | (with_reducible refine AW_seqA (AW_block ?_)) | (with_reducible refine AW_block ?_) | (with_reducible refine cut_seqloop ?_) | (with_reducible refine cut_loop ?_) | (with_reducible refine AW_seqA (AW_seqA ?_)) | (with_reducible refine AW_seq ?_) | (with_reducible refine AW_runReg ?_) | (with_reducible refine AW_runCond ?_) | (with_reducible refine AW_runExit ?_) | (with_reducible refine AW_runRet ?_) | (with_reducible refine AW_runSkip ?_) | (with_reducible refine AW_runLabel ?_)
    | simp only [WL, intF, strF, List.toList_toArray, List.set_cons_succ, List.set_cons_zero, List.getD_cons_succ, List.getD_cons_zero, List.getElem?_cons_succ, List.getElem?_cons_zero, List.length_cons, List.length_nil, List.replicate_succ, List.replicate_zero, List.cons_append, List.nil_append, List.append_nil, List.map_cons, List.map_nil, Option.bind_some, Option.map_some, Option.map_none, List.drop_succ_cons, List.drop_zero, List.take_succ_cons, List.take_zero, ← List.map_take, ← List.map_drop, List.take_length, Int.reduceToNat, ne_eq, reduceCtorEq, not_false_eq_true, Nat.reduceAdd, Nat.reduceSub, Nat.reduceLT, Nat.reduceLeDiff, Nat.reduceEqDiff, Nat.zero_lt_succ, Bool.not_true, Bool.not_false, beq_self_eq_true, true_and, and_true, Option.isSome_some, Option.isSome_none, reduceIte, Int.toNat_natCast, Bool.false_eq_true, List.length_map, Nat.le_refl, Option.some.injEq, exists_eq_left', Nat.add_right_cancel_iff, List.take_nil, List.drop_nil, convC_sl, convC_str, T3, T4, T5, T9, T24, T30, T50, T59, T64, T69, T71, T93, T95, fieldAddrC_cp fl64_0, fieldAddrC_raw fl64_0, fieldAddrC_cp fl64_1, fieldAddrC_raw fl64_1, cok66, cok67, cok68, cok69, cok70, Try.results32]
    | (simp (disch := first | omega | (simp only [List.length_append, List.length_map, List.length_cons, List.length_nil, List.length_drop, List.length_take, List.length_replicate]; omega)) only [wrap_id, getI])
    | (with_reducible refine And.intro (by first | omega | exact ⟨_, rfl⟩ | (focus (simp; done)) | (simp; omega)) ?_)
    | ((with_reducible apply wk_load (ty := 3) (ha := ag3) 0); rfl; rfl)
    | ((with_reducible apply wk_load (ty := 3) (ha := ag3) 1); rfl; rfl)
    | ((with_reducible apply wk_load (ty := 4) (ha := ag4) 0); rfl; rfl)
    | ((with_reducible apply wk_load (ty := 4) (ha := ag4) 1); rfl; rfl)
    | ((with_reducible apply wk_load_agg (ty := 64) (ha := ag64) (hs := sz64) 0); rfl; (first | decide | (focus (simp; done)) | omega))
    | ((with_reducible apply wk_load_agg (ty := 64) (ha := ag64) (hs := sz64) 1); rfl; (first | decide | (focus (simp; done)) | omega))
    | ((with_reducible apply wk_load (ty := 69) (ha := ag69) 0); rfl; rfl)
    | ((with_reducible apply wk_load (ty := 69) (ha := ag69) 1); rfl; rfl)
    | ((with_reducible refine storeC_mk ?_); first | ((with_reducible apply act_store (t := 69) (hs := sz69) 0); rfl; (first | decide | (focus (simp; done)) | omega); rfl) | ((with_reducible apply act_store (t := 69) (hs := sz69) 1); rfl; (first | decide | (focus (simp; done)) | omega); rfl))
    | ((with_reducible refine actC_mk ?_); (with_reducible refine act_box ?_ (fun b => ?_)); rfl)
    | ((with_reducible refine actC_mk ?_); (with_reducible refine act_new zr64 ?_ (fun b => ?_)); rfl)
    | ((with_reducible refine actC_mk ?_); (with_reducible refine act_new zr69 ?_ (fun b => ?_)); rfl)
    | ((with_reducible refine actC_mk (act_append_nil (sz := 1) (by decide) ?_)))
    | ((with_reducible refine actC_mk (act_append_src_nil (sz := 1) (by decide) ?_)))
    | ((with_reducible refine actC_mk (act_append 0 rfl sl69 sz24 by24 zr24 rfl ?_ ?_ ?_ (fun tk => ?_))); (first | exact goodI _ | exact goodU _ | rfl | exact goodSL _ | exact goodLL _ | (focus (simp [goodL, oneA, AV.cells]; done)) | skip))
    | ((with_reducible refine (act_append 0 rfl sl69 sz24 by24 zr24 rfl ?_ ?_ ?_ (fun tk => ?_))); (first | exact goodI _ | exact goodU _ | rfl | exact goodSL _ | exact goodLL _ | (focus (simp [goodL, oneA, AV.cells]; done)) | skip))
    | ((with_reducible refine actC_mk (act_append 1 rfl sl69 sz24 by24 zr24 rfl ?_ ?_ ?_ (fun tk => ?_))); (first | exact goodI _ | exact goodU _ | rfl | exact goodSL _ | exact goodLL _ | (focus (simp [goodL, oneA, AV.cells]; done)) | skip))
    | ((with_reducible refine (act_append 1 rfl sl69 sz24 by24 zr24 rfl ?_ ?_ ?_ (fun tk => ?_))); (first | exact goodI _ | exact goodU _ | rfl | exact goodSL _ | exact goodLL _ | (focus (simp [goodL, oneA, AV.cells]; done)) | skip))
    | ((with_reducible refine actC_mk (act_append 2 rfl sl69 sz24 by24 zr24 rfl ?_ ?_ ?_ (fun tk => ?_))); (first | exact goodI _ | exact goodU _ | rfl | exact goodSL _ | exact goodLL _ | (focus (simp [goodL, oneA, AV.cells]; done)) | skip))
    | ((with_reducible refine (act_append 2 rfl sl69 sz24 by24 zr24 rfl ?_ ?_ ?_ (fun tk => ?_))); (first | exact goodI _ | exact goodU _ | rfl | exact goodSL _ | exact goodLL _ | (focus (simp [goodL, oneA, AV.cells]; done)) | skip))
    | ((with_reducible refine wk_bslice sl69 sz24 zr24 (by decide) (by decide) (by decide) (by decide) rfl ?_ ?_ ?_); (first | exact goodI _ | exact goodU _ | rfl | exact goodSL _ | exact goodLL _ | (focus (simp [goodL, oneA, AV.cells]; done))); (all_goals first | (intro x hx; simp at hx; first | (subst hx; rfl) | (rcases hx with rfl | rfl <;> rfl) | (rcases hx with rfl | rfl | rfl <;> rfl) | (repeat (rcases hx with rfl | hx <;> try rfl))) | skip))
    | (with_reducible refine actC_q (act_max2 isA_mk) ?_) | (with_reducible refine actC_q (act_min2 isA_mk) ?_)
    | (with_reducible refine actC_q (act_bytes_str sl30 in5 st9 isA_mk) ?_)
    | (with_reducible refine  callD_mk (bIndent (h0 := h0) hl2 ht2 hmn ?_))
    | (with_reducible refine callD_q (bIndent ?_ ?_ ?_ isR_mk) ?_)
    | (with_reducible refine callD_mk (bIndent ?_ ?_ ?_ ?_))
    | (with_reducible refine callD_mk (bRows (fun br1 br2 => ?_)))
    | (with_reducible refine callD_q (literal1 ?_ isR_mk) ?_)
    | (with_reducible refine callD_mk (literal1 ?_ ?_))
    | (with_reducible refine callD_q (block1 ?_ isR_mk) ?_)
    | (with_reducible refine callD_mk (block1 ?_ ?_))
    | (with_reducible refine callD_q (uBytes ?_ isR_mk) ?_)
    | (with_reducible refine callD_mk (uBytes ?_ ?_))
    | ((with_reducible refine AW_drawM (id := 11) 12 mixed ?_ ?_); kernel_rfl)
    | (with_reducible refine dmQ_mk ?_)
    | (with_reducible refine nilTC_pos (by simp; omega) ?_)
    | (with_reducible refine nilTC_split (fun h => ?_) (fun h bn => ?_) <;> (try simp only [List.length_map] at h))
    | (with_reducible refine grd_cases (fun h => ?_) (fun h => ?_) <;> (try simp only [h]) <;> (try simp only [beq_iff_eq, beq_eq_false_iff_ne, bne_iff_ne, bne_eq_false_iff_eq, decide_eq_true_eq, decide_eq_false_iff_not, Bool.not_eq_true', Bool.not_eq_false', Bool.not_true, Bool.not_false, Bool.not_eq_eq_eq_not, ne_eq, Int.not_lt, Int.not_le, gt_iff_lt, ge_iff_le, Decidable.not_not] at h))
    | (with_reducible refine condC_split (fun h => ?_) (fun h => ?_) <;> (try simp only [h]) <;> (try simp only [beq_iff_eq, beq_eq_false_iff_ne, bne_iff_ne, bne_eq_false_iff_eq, decide_eq_true_eq, decide_eq_false_iff_not, Bool.not_eq_true', Bool.not_eq_false', Bool.not_true, Bool.not_false, Bool.not_eq_eq_eq_not, ne_eq, Int.not_lt, Int.not_le, gt_iff_lt, ge_iff_le, Decidable.not_not] at h))
    | omega | (simp only [List.length_append, List.length_map, List.length_cons, List.length_nil, List.length_drop, List.length_take, List.length_replicate]; omega) | (refine maxLen_ok ?_; (first | omega | (simp only [List.length_append, List.length_map, List.length_cons, List.length_nil, List.length_drop, List.length_take, List.length_replicate]; omega))))
  · exact leafL (sub_cons sub_rfl) (leT_eq (by unfold blockB; rw [if_pos (by assumption)]; rfl)) hK
  rename_i bh
  have hdb := indI_bound (ind := h0.2.2) (fun x hx => (ht x hx).2) hmn
  have hu : blockB l h0 n = ((textI (if h0.1 then blkF (rowsB (indI l h0.2.2 (min (max (-1) n) 1099511627776)).1 l) h0.2.1 else litF (rowsB (indI l h0.2.2 (min (max (-1) n) 1099511627776)).1 l) h0.2.1), ((rowsB (indI l h0.2.2 (min (max (-1) n) 1099511627776)).1 l).length : Nat), 0) : ByteArray × Int × Int) := by unfold blockB; rw [if_neg (by simpa using h)]
  generalize (indI l h0.2.2 (min (max (-1) n) 1099511627776)).1 = d at *
  have htot := rows_tot hdb.1 ht
  have ht3 : ∀ x ∈ l, x.2.length ≤ 1000000000 ∧ -1000000000000000 ≤ x.1 - d ∧ x.1 - d ≤ 1000000 := fun x hx => by have := ht x hx; omega
  refine range_by 98 [] [.pointer (some ⟨br1, 0, none⟩), .pointer (some ⟨br2, 0, none⟩)] ((rowsB d l).map fun t => [SI none t]) [.obj br2 [I d], .obj br1 [SL o l]] (.obj b [SSI (some none) []] :: .tip none :: .obj bh [B h0.1, I h0.2.1, I h0.2.2] :: σ)
    (fun xs τ => ∃ (dn rest : List (List Int)) (tk : Option (Nat × Nat)), rowsB d l = dn ++ rest ∧ xs = rest.map (fun t => [SI none t]) ∧ τ = .obj b [SSI (some tk) dn] :: .tip tk :: .obj bh [B h0.1, I h0.2.1, I h0.2.2] :: σ)
    rfl cok98 (ResW.cons _ (ResW.cons _ ((ResW.void.cons _).trans (ResW.obj (leL_one (le_nil (by decide))))))) (fun L K σ' h => bRowsIt hl2 ht3 h) ⟨[], rowsB d l, none, rfl, rfl, rfl⟩ ?_ ?_
  · rintro τ ⟨dn, rest, tk, h1, h2, rfl⟩
    obtain rfl : rest = [] := by cases rest with
      | nil => rfl
      | cons => simp at h2
    rw [List.append_nil] at h1
    rw [h1] at hu htot
    have q1 := litF_len dn h0.2.1
    have q2 := blkF_len dn h0.2.1
    have q3 := tot_len dn
    cases hf : h0.1
    · rw [hf] at hu
      simp only [Bool.false_eq_true, if_false] at hu
      repeat' (first
        | (with_reducible refine AW_seqA (AW_block ?_)) | (with_reducible refine AW_block ?_) | (with_reducible refine cut_seqloop ?_) | (with_reducible refine cut_loop ?_) | (with_reducible refine AW_seqA (AW_seqA ?_)) | (with_reducible refine AW_seq ?_) | (with_reducible refine AW_runReg ?_) | (with_reducible refine AW_runCond ?_) | (with_reducible refine AW_runExit ?_) | (with_reducible refine AW_runRet ?_) | (with_reducible refine AW_runSkip ?_) | (with_reducible refine AW_runLabel ?_)
        | simp only [WL, intF, strF, List.toList_toArray, List.set_cons_succ, List.set_cons_zero, List.getD_cons_succ, List.getD_cons_zero, List.getElem?_cons_succ, List.getElem?_cons_zero, List.length_cons, List.length_nil, List.replicate_succ, List.replicate_zero, List.cons_append, List.nil_append, List.append_nil, List.map_cons, List.map_nil, Option.bind_some, Option.map_some, Option.map_none, List.drop_succ_cons, List.drop_zero, List.take_succ_cons, List.take_zero, ← List.map_take, ← List.map_drop, List.take_length, Int.reduceToNat, ne_eq, reduceCtorEq, not_false_eq_true, Nat.reduceAdd, Nat.reduceSub, Nat.reduceLT, Nat.reduceLeDiff, Nat.reduceEqDiff, Nat.zero_lt_succ, Bool.not_true, Bool.not_false, beq_self_eq_true, true_and, and_true, Option.isSome_some, Option.isSome_none, reduceIte, Int.toNat_natCast, Bool.false_eq_true, List.length_map, Nat.le_refl, Option.some.injEq, exists_eq_left', Nat.add_right_cancel_iff, List.take_nil, List.drop_nil, convC_sl, convC_str, T3, T4, T5, T9, T24, T30, T50, T59, T64, T69, T71, T93, T95, fieldAddrC_cp fl64_0, fieldAddrC_raw fl64_0, fieldAddrC_cp fl64_1, fieldAddrC_raw fl64_1, cok66, cok67, cok68, cok69, cok70, Try.results32, hf]
        | (simp (disch := first | omega | (simp only [List.length_append, List.length_map, List.length_cons, List.length_nil, List.length_drop, List.length_take, List.length_replicate]; omega)) only [wrap_id, getI])
        | (with_reducible refine And.intro (by first | omega | exact ⟨_, rfl⟩ | (focus (simp; done)) | (simp; omega)) ?_)
        | ((with_reducible apply wk_load (ty := 3) (ha := ag3) 0); rfl; rfl)
        | ((with_reducible apply wk_load (ty := 3) (ha := ag3) 1); rfl; rfl)
        | ((with_reducible apply wk_load (ty := 3) (ha := ag3) 2); rfl; rfl)
        | ((with_reducible apply wk_load (ty := 3) (ha := ag3) 3); rfl; rfl)
        | ((with_reducible apply wk_load (ty := 3) (ha := ag3) 4); rfl; rfl)
        | ((with_reducible apply wk_load (ty := 4) (ha := ag4) 0); rfl; rfl)
        | ((with_reducible apply wk_load (ty := 4) (ha := ag4) 1); rfl; rfl)
        | ((with_reducible apply wk_load (ty := 4) (ha := ag4) 2); rfl; rfl)
        | ((with_reducible apply wk_load (ty := 4) (ha := ag4) 3); rfl; rfl)
        | ((with_reducible apply wk_load (ty := 4) (ha := ag4) 4); rfl; rfl)
        | ((with_reducible apply wk_load_agg (ty := 64) (ha := ag64) (hs := sz64) 0); rfl; (first | decide | (focus (simp; done)) | omega))
        | ((with_reducible apply wk_load_agg (ty := 64) (ha := ag64) (hs := sz64) 1); rfl; (first | decide | (focus (simp; done)) | omega))
        | ((with_reducible apply wk_load_agg (ty := 64) (ha := ag64) (hs := sz64) 2); rfl; (first | decide | (focus (simp; done)) | omega))
        | ((with_reducible apply wk_load_agg (ty := 64) (ha := ag64) (hs := sz64) 3); rfl; (first | decide | (focus (simp; done)) | omega))
        | ((with_reducible apply wk_load_agg (ty := 64) (ha := ag64) (hs := sz64) 4); rfl; (first | decide | (focus (simp; done)) | omega))
        | ((with_reducible apply wk_load (ty := 69) (ha := ag69) 0); rfl; rfl)
        | ((with_reducible apply wk_load (ty := 69) (ha := ag69) 1); rfl; rfl)
        | ((with_reducible apply wk_load (ty := 69) (ha := ag69) 2); rfl; rfl)
        | ((with_reducible apply wk_load (ty := 69) (ha := ag69) 3); rfl; rfl)
        | ((with_reducible apply wk_load (ty := 69) (ha := ag69) 4); rfl; rfl)
        | ((with_reducible refine storeC_mk ?_); first | ((with_reducible apply act_store (t := 69) (hs := sz69) 0); rfl; (first | decide | (focus (simp; done)) | omega); rfl) | ((with_reducible apply act_store (t := 69) (hs := sz69) 1); rfl; (first | decide | (focus (simp; done)) | omega); rfl) | ((with_reducible apply act_store (t := 69) (hs := sz69) 2); rfl; (first | decide | (focus (simp; done)) | omega); rfl) | ((with_reducible apply act_store (t := 69) (hs := sz69) 3); rfl; (first | decide | (focus (simp; done)) | omega); rfl) | ((with_reducible apply act_store (t := 69) (hs := sz69) 4); rfl; (first | decide | (focus (simp; done)) | omega); rfl))
        | ((with_reducible refine actC_mk ?_); (with_reducible refine act_box ?_ (fun b => ?_)); rfl)
        | ((with_reducible refine actC_mk ?_); (with_reducible refine act_new zr64 ?_ (fun b => ?_)); rfl)
        | ((with_reducible refine actC_mk ?_); (with_reducible refine act_new zr69 ?_ (fun b => ?_)); rfl)
        | ((with_reducible refine actC_mk (act_append_nil (sz := 1) (by decide) ?_)))
        | ((with_reducible refine actC_mk (act_append_src_nil (sz := 1) (by decide) ?_)))
        | ((with_reducible refine actC_mk (act_append 0 rfl sl69 sz24 by24 zr24 rfl ?_ ?_ ?_ (fun tk => ?_))); (first | exact goodI _ | exact goodU _ | rfl | exact goodSL _ | exact goodLL _ | (focus (simp [goodL, oneA, AV.cells]; done)) | skip))
        | ((with_reducible refine (act_append 0 rfl sl69 sz24 by24 zr24 rfl ?_ ?_ ?_ (fun tk => ?_))); (first | exact goodI _ | exact goodU _ | rfl | exact goodSL _ | exact goodLL _ | (focus (simp [goodL, oneA, AV.cells]; done)) | skip))
        | ((with_reducible refine actC_mk (act_append 1 rfl sl69 sz24 by24 zr24 rfl ?_ ?_ ?_ (fun tk => ?_))); (first | exact goodI _ | exact goodU _ | rfl | exact goodSL _ | exact goodLL _ | (focus (simp [goodL, oneA, AV.cells]; done)) | skip))
        | ((with_reducible refine (act_append 1 rfl sl69 sz24 by24 zr24 rfl ?_ ?_ ?_ (fun tk => ?_))); (first | exact goodI _ | exact goodU _ | rfl | exact goodSL _ | exact goodLL _ | (focus (simp [goodL, oneA, AV.cells]; done)) | skip))
        | ((with_reducible refine actC_mk (act_append 2 rfl sl69 sz24 by24 zr24 rfl ?_ ?_ ?_ (fun tk => ?_))); (first | exact goodI _ | exact goodU _ | rfl | exact goodSL _ | exact goodLL _ | (focus (simp [goodL, oneA, AV.cells]; done)) | skip))
        | ((with_reducible refine (act_append 2 rfl sl69 sz24 by24 zr24 rfl ?_ ?_ ?_ (fun tk => ?_))); (first | exact goodI _ | exact goodU _ | rfl | exact goodSL _ | exact goodLL _ | (focus (simp [goodL, oneA, AV.cells]; done)) | skip))
        | ((with_reducible refine actC_mk (act_append 3 rfl sl69 sz24 by24 zr24 rfl ?_ ?_ ?_ (fun tk => ?_))); (first | exact goodI _ | exact goodU _ | rfl | exact goodSL _ | exact goodLL _ | (focus (simp [goodL, oneA, AV.cells]; done)) | skip))
        | ((with_reducible refine (act_append 3 rfl sl69 sz24 by24 zr24 rfl ?_ ?_ ?_ (fun tk => ?_))); (first | exact goodI _ | exact goodU _ | rfl | exact goodSL _ | exact goodLL _ | (focus (simp [goodL, oneA, AV.cells]; done)) | skip))
        | ((with_reducible refine actC_mk (act_append 4 rfl sl69 sz24 by24 zr24 rfl ?_ ?_ ?_ (fun tk => ?_))); (first | exact goodI _ | exact goodU _ | rfl | exact goodSL _ | exact goodLL _ | (focus (simp [goodL, oneA, AV.cells]; done)) | skip))
        | ((with_reducible refine (act_append 4 rfl sl69 sz24 by24 zr24 rfl ?_ ?_ ?_ (fun tk => ?_))); (first | exact goodI _ | exact goodU _ | rfl | exact goodSL _ | exact goodLL _ | (focus (simp [goodL, oneA, AV.cells]; done)) | skip))
        | ((with_reducible refine actC_mk (act_append 5 rfl sl69 sz24 by24 zr24 rfl ?_ ?_ ?_ (fun tk => ?_))); (first | exact goodI _ | exact goodU _ | rfl | exact goodSL _ | exact goodLL _ | (focus (simp [goodL, oneA, AV.cells]; done)) | skip))
        | ((with_reducible refine (act_append 5 rfl sl69 sz24 by24 zr24 rfl ?_ ?_ ?_ (fun tk => ?_))); (first | exact goodI _ | exact goodU _ | rfl | exact goodSL _ | exact goodLL _ | (focus (simp [goodL, oneA, AV.cells]; done)) | skip))
        | ((with_reducible refine wk_bslice sl69 sz24 zr24 (by decide) (by decide) (by decide) (by decide) rfl ?_ ?_ ?_); (first | exact goodI _ | exact goodU _ | rfl | exact goodSL _ | exact goodLL _ | (focus (simp [goodL, oneA, AV.cells]; done))); (all_goals first | (intro x hx; simp at hx; first | (subst hx; rfl) | (rcases hx with rfl | rfl <;> rfl) | (rcases hx with rfl | rfl | rfl <;> rfl) | (repeat (rcases hx with rfl | hx <;> try rfl))) | skip))
        | (with_reducible refine actC_q (act_max2 isA_mk) ?_) | (with_reducible refine actC_q (act_min2 isA_mk) ?_)
        | (with_reducible refine actC_q (act_bytes_str sl30 in5 st9 isA_mk) ?_)
        | (with_reducible refine callD_q (bIndent ?_ ?_ ?_ isR_mk) ?_)
        | (with_reducible refine callD_mk (bIndent ?_ ?_ ?_ ?_))
        | (with_reducible refine callD_mk (bRows (fun br1 br2 => ?_)))
        | (with_reducible refine callD_q (literal1 ?_ isR_mk) ?_)
        | (with_reducible refine callD_mk (literal1 ?_ ?_))
        | (with_reducible refine callD_q (block1 ?_ isR_mk) ?_)
        | (with_reducible refine callD_mk (block1 ?_ ?_))
        | (with_reducible refine callD_q (uBytes ?_ isR_mk) ?_)
        | (with_reducible refine callD_mk (uBytes ?_ ?_))
        | ((with_reducible refine AW_drawM (id := 11) 12 mixed ?_ ?_); kernel_rfl)
        | (with_reducible refine dmQ_mk ?_)
        | (with_reducible refine nilTC_pos (by simp; omega) ?_)
        | (with_reducible refine nilTC_split (fun h => ?_) (fun h bn => ?_) <;> (try simp only [List.length_map] at h))
        | (with_reducible refine grd_cases (fun h => ?_) (fun h => ?_) <;> (try simp only [h]) <;> (try simp only [beq_iff_eq, beq_eq_false_iff_ne, bne_iff_ne, bne_eq_false_iff_eq, decide_eq_true_eq, decide_eq_false_iff_not, Bool.not_eq_true', Bool.not_eq_false', Bool.not_true, Bool.not_false, Bool.not_eq_eq_eq_not, ne_eq, Int.not_lt, Int.not_le, gt_iff_lt, ge_iff_le, Decidable.not_not] at h))
        | (with_reducible refine condC_split (fun h => ?_) (fun h => ?_) <;> (try simp only [h]) <;> (try simp only [beq_iff_eq, beq_eq_false_iff_ne, bne_iff_ne, bne_eq_false_iff_eq, decide_eq_true_eq, decide_eq_false_iff_not, Bool.not_eq_true', Bool.not_eq_false', Bool.not_true, Bool.not_false, Bool.not_eq_eq_eq_not, ne_eq, Int.not_lt, Int.not_le, gt_iff_lt, ge_iff_le, Decidable.not_not] at h))
        | omega | (simp only [List.length_append, List.length_map, List.length_cons, List.length_nil, List.length_drop, List.length_take, List.length_replicate]; omega) | (refine maxLen_ok ?_; (first | omega | (simp only [List.length_append, List.length_map, List.length_cons, List.length_nil, List.length_drop, List.length_take, List.length_replicate]; omega))))
      exact leafL (sub_cons (sub_cons (sub_cons sub_rfl))) (leT_eq (by rw [hu]; rfl)) hK
    · rw [hf] at hu
      simp only [if_true] at hu
      repeat' (first
        | (with_reducible refine AW_seqA (AW_block ?_)) | (with_reducible refine AW_block ?_) | (with_reducible refine cut_seqloop ?_) | (with_reducible refine cut_loop ?_) | (with_reducible refine AW_seqA (AW_seqA ?_)) | (with_reducible refine AW_seq ?_) | (with_reducible refine AW_runReg ?_) | (with_reducible refine AW_runCond ?_) | (with_reducible refine AW_runExit ?_) | (with_reducible refine AW_runRet ?_) | (with_reducible refine AW_runSkip ?_) | (with_reducible refine AW_runLabel ?_)
        | simp only [WL, intF, strF, List.toList_toArray, List.set_cons_succ, List.set_cons_zero, List.getD_cons_succ, List.getD_cons_zero, List.getElem?_cons_succ, List.getElem?_cons_zero, List.length_cons, List.length_nil, List.replicate_succ, List.replicate_zero, List.cons_append, List.nil_append, List.append_nil, List.map_cons, List.map_nil, Option.bind_some, Option.map_some, Option.map_none, List.drop_succ_cons, List.drop_zero, List.take_succ_cons, List.take_zero, ← List.map_take, ← List.map_drop, List.take_length, Int.reduceToNat, ne_eq, reduceCtorEq, not_false_eq_true, Nat.reduceAdd, Nat.reduceSub, Nat.reduceLT, Nat.reduceLeDiff, Nat.reduceEqDiff, Nat.zero_lt_succ, Bool.not_true, Bool.not_false, beq_self_eq_true, true_and, and_true, Option.isSome_some, Option.isSome_none, reduceIte, Int.toNat_natCast, Bool.false_eq_true, List.length_map, Nat.le_refl, Option.some.injEq, exists_eq_left', Nat.add_right_cancel_iff, List.take_nil, List.drop_nil, convC_sl, convC_str, T3, T4, T5, T9, T24, T30, T50, T59, T64, T69, T71, T93, T95, fieldAddrC_cp fl64_0, fieldAddrC_raw fl64_0, fieldAddrC_cp fl64_1, fieldAddrC_raw fl64_1, cok66, cok67, cok68, cok69, cok70, Try.results32, hf]
        | (simp (disch := first | omega | (simp only [List.length_append, List.length_map, List.length_cons, List.length_nil, List.length_drop, List.length_take, List.length_replicate]; omega)) only [wrap_id, getI])
        | (with_reducible refine And.intro (by first | omega | exact ⟨_, rfl⟩ | (focus (simp; done)) | (simp; omega)) ?_)
        | ((with_reducible apply wk_load (ty := 3) (ha := ag3) 0); rfl; rfl)
        | ((with_reducible apply wk_load (ty := 3) (ha := ag3) 1); rfl; rfl)
        | ((with_reducible apply wk_load (ty := 3) (ha := ag3) 2); rfl; rfl)
        | ((with_reducible apply wk_load (ty := 3) (ha := ag3) 3); rfl; rfl)
        | ((with_reducible apply wk_load (ty := 3) (ha := ag3) 4); rfl; rfl)
        | ((with_reducible apply wk_load (ty := 4) (ha := ag4) 0); rfl; rfl)
        | ((with_reducible apply wk_load (ty := 4) (ha := ag4) 1); rfl; rfl)
        | ((with_reducible apply wk_load (ty := 4) (ha := ag4) 2); rfl; rfl)
        | ((with_reducible apply wk_load (ty := 4) (ha := ag4) 3); rfl; rfl)
        | ((with_reducible apply wk_load (ty := 4) (ha := ag4) 4); rfl; rfl)
        | ((with_reducible apply wk_load_agg (ty := 64) (ha := ag64) (hs := sz64) 0); rfl; (first | decide | (focus (simp; done)) | omega))
        | ((with_reducible apply wk_load_agg (ty := 64) (ha := ag64) (hs := sz64) 1); rfl; (first | decide | (focus (simp; done)) | omega))
        | ((with_reducible apply wk_load_agg (ty := 64) (ha := ag64) (hs := sz64) 2); rfl; (first | decide | (focus (simp; done)) | omega))
        | ((with_reducible apply wk_load_agg (ty := 64) (ha := ag64) (hs := sz64) 3); rfl; (first | decide | (focus (simp; done)) | omega))
        | ((with_reducible apply wk_load_agg (ty := 64) (ha := ag64) (hs := sz64) 4); rfl; (first | decide | (focus (simp; done)) | omega))
        | ((with_reducible apply wk_load (ty := 69) (ha := ag69) 0); rfl; rfl)
        | ((with_reducible apply wk_load (ty := 69) (ha := ag69) 1); rfl; rfl)
        | ((with_reducible apply wk_load (ty := 69) (ha := ag69) 2); rfl; rfl)
        | ((with_reducible apply wk_load (ty := 69) (ha := ag69) 3); rfl; rfl)
        | ((with_reducible apply wk_load (ty := 69) (ha := ag69) 4); rfl; rfl)
        | ((with_reducible refine storeC_mk ?_); first | ((with_reducible apply act_store (t := 69) (hs := sz69) 0); rfl; (first | decide | (focus (simp; done)) | omega); rfl) | ((with_reducible apply act_store (t := 69) (hs := sz69) 1); rfl; (first | decide | (focus (simp; done)) | omega); rfl) | ((with_reducible apply act_store (t := 69) (hs := sz69) 2); rfl; (first | decide | (focus (simp; done)) | omega); rfl) | ((with_reducible apply act_store (t := 69) (hs := sz69) 3); rfl; (first | decide | (focus (simp; done)) | omega); rfl) | ((with_reducible apply act_store (t := 69) (hs := sz69) 4); rfl; (first | decide | (focus (simp; done)) | omega); rfl))
        | ((with_reducible refine actC_mk ?_); (with_reducible refine act_box ?_ (fun b => ?_)); rfl)
        | ((with_reducible refine actC_mk ?_); (with_reducible refine act_new zr64 ?_ (fun b => ?_)); rfl)
        | ((with_reducible refine actC_mk ?_); (with_reducible refine act_new zr69 ?_ (fun b => ?_)); rfl)
        | ((with_reducible refine actC_mk (act_append_nil (sz := 1) (by decide) ?_)))
        | ((with_reducible refine actC_mk (act_append_src_nil (sz := 1) (by decide) ?_)))
        | ((with_reducible refine actC_mk (act_append 0 rfl sl69 sz24 by24 zr24 rfl ?_ ?_ ?_ (fun tk => ?_))); (first | exact goodI _ | exact goodU _ | rfl | exact goodSL _ | exact goodLL _ | (focus (simp [goodL, oneA, AV.cells]; done)) | skip))
        | ((with_reducible refine (act_append 0 rfl sl69 sz24 by24 zr24 rfl ?_ ?_ ?_ (fun tk => ?_))); (first | exact goodI _ | exact goodU _ | rfl | exact goodSL _ | exact goodLL _ | (focus (simp [goodL, oneA, AV.cells]; done)) | skip))
        | ((with_reducible refine actC_mk (act_append 1 rfl sl69 sz24 by24 zr24 rfl ?_ ?_ ?_ (fun tk => ?_))); (first | exact goodI _ | exact goodU _ | rfl | exact goodSL _ | exact goodLL _ | (focus (simp [goodL, oneA, AV.cells]; done)) | skip))
        | ((with_reducible refine (act_append 1 rfl sl69 sz24 by24 zr24 rfl ?_ ?_ ?_ (fun tk => ?_))); (first | exact goodI _ | exact goodU _ | rfl | exact goodSL _ | exact goodLL _ | (focus (simp [goodL, oneA, AV.cells]; done)) | skip))
        | ((with_reducible refine actC_mk (act_append 2 rfl sl69 sz24 by24 zr24 rfl ?_ ?_ ?_ (fun tk => ?_))); (first | exact goodI _ | exact goodU _ | rfl | exact goodSL _ | exact goodLL _ | (focus (simp [goodL, oneA, AV.cells]; done)) | skip))
        | ((with_reducible refine (act_append 2 rfl sl69 sz24 by24 zr24 rfl ?_ ?_ ?_ (fun tk => ?_))); (first | exact goodI _ | exact goodU _ | rfl | exact goodSL _ | exact goodLL _ | (focus (simp [goodL, oneA, AV.cells]; done)) | skip))
        | ((with_reducible refine actC_mk (act_append 3 rfl sl69 sz24 by24 zr24 rfl ?_ ?_ ?_ (fun tk => ?_))); (first | exact goodI _ | exact goodU _ | rfl | exact goodSL _ | exact goodLL _ | (focus (simp [goodL, oneA, AV.cells]; done)) | skip))
        | ((with_reducible refine (act_append 3 rfl sl69 sz24 by24 zr24 rfl ?_ ?_ ?_ (fun tk => ?_))); (first | exact goodI _ | exact goodU _ | rfl | exact goodSL _ | exact goodLL _ | (focus (simp [goodL, oneA, AV.cells]; done)) | skip))
        | ((with_reducible refine actC_mk (act_append 4 rfl sl69 sz24 by24 zr24 rfl ?_ ?_ ?_ (fun tk => ?_))); (first | exact goodI _ | exact goodU _ | rfl | exact goodSL _ | exact goodLL _ | (focus (simp [goodL, oneA, AV.cells]; done)) | skip))
        | ((with_reducible refine (act_append 4 rfl sl69 sz24 by24 zr24 rfl ?_ ?_ ?_ (fun tk => ?_))); (first | exact goodI _ | exact goodU _ | rfl | exact goodSL _ | exact goodLL _ | (focus (simp [goodL, oneA, AV.cells]; done)) | skip))
        | ((with_reducible refine actC_mk (act_append 5 rfl sl69 sz24 by24 zr24 rfl ?_ ?_ ?_ (fun tk => ?_))); (first | exact goodI _ | exact goodU _ | rfl | exact goodSL _ | exact goodLL _ | (focus (simp [goodL, oneA, AV.cells]; done)) | skip))
        | ((with_reducible refine (act_append 5 rfl sl69 sz24 by24 zr24 rfl ?_ ?_ ?_ (fun tk => ?_))); (first | exact goodI _ | exact goodU _ | rfl | exact goodSL _ | exact goodLL _ | (focus (simp [goodL, oneA, AV.cells]; done)) | skip))
        | ((with_reducible refine wk_bslice sl69 sz24 zr24 (by decide) (by decide) (by decide) (by decide) rfl ?_ ?_ ?_); (first | exact goodI _ | exact goodU _ | rfl | exact goodSL _ | exact goodLL _ | (focus (simp [goodL, oneA, AV.cells]; done))); (all_goals first | (intro x hx; simp at hx; first | (subst hx; rfl) | (rcases hx with rfl | rfl <;> rfl) | (rcases hx with rfl | rfl | rfl <;> rfl) | (repeat (rcases hx with rfl | hx <;> try rfl))) | skip))
        | (with_reducible refine actC_q (act_max2 isA_mk) ?_) | (with_reducible refine actC_q (act_min2 isA_mk) ?_)
        | (with_reducible refine actC_q (act_bytes_str sl30 in5 st9 isA_mk) ?_)
        | (with_reducible refine callD_q (bIndent ?_ ?_ ?_ isR_mk) ?_)
        | (with_reducible refine callD_mk (bIndent ?_ ?_ ?_ ?_))
        | (with_reducible refine callD_mk (bRows (fun br1 br2 => ?_)))
        | (with_reducible refine callD_q (literal1 ?_ isR_mk) ?_)
        | (with_reducible refine callD_mk (literal1 ?_ ?_))
        | (with_reducible refine callD_q (block1 ?_ isR_mk) ?_)
        | (with_reducible refine callD_mk (block1 ?_ ?_))
        | (with_reducible refine callD_q (uBytes ?_ isR_mk) ?_)
        | (with_reducible refine callD_mk (uBytes ?_ ?_))
        | ((with_reducible refine AW_drawM (id := 11) 12 mixed ?_ ?_); kernel_rfl)
        | (with_reducible refine dmQ_mk ?_)
        | (with_reducible refine nilTC_pos (by simp; omega) ?_)
        | (with_reducible refine nilTC_split (fun h => ?_) (fun h bn => ?_) <;> (try simp only [List.length_map] at h))
        | (with_reducible refine grd_cases (fun h => ?_) (fun h => ?_) <;> (try simp only [h]) <;> (try simp only [beq_iff_eq, beq_eq_false_iff_ne, bne_iff_ne, bne_eq_false_iff_eq, decide_eq_true_eq, decide_eq_false_iff_not, Bool.not_eq_true', Bool.not_eq_false', Bool.not_true, Bool.not_false, Bool.not_eq_eq_eq_not, ne_eq, Int.not_lt, Int.not_le, gt_iff_lt, ge_iff_le, Decidable.not_not] at h))
        | (with_reducible refine condC_split (fun h => ?_) (fun h => ?_) <;> (try simp only [h]) <;> (try simp only [beq_iff_eq, beq_eq_false_iff_ne, bne_iff_ne, bne_eq_false_iff_eq, decide_eq_true_eq, decide_eq_false_iff_not, Bool.not_eq_true', Bool.not_eq_false', Bool.not_true, Bool.not_false, Bool.not_eq_eq_eq_not, ne_eq, Int.not_lt, Int.not_le, gt_iff_lt, ge_iff_le, Decidable.not_not] at h))
        | omega | (simp only [List.length_append, List.length_map, List.length_cons, List.length_nil, List.length_drop, List.length_take, List.length_replicate]; omega) | (refine maxLen_ok ?_; (first | omega | (simp only [List.length_append, List.length_map, List.length_cons, List.length_nil, List.length_drop, List.length_take, List.length_replicate]; omega))))
      exact leafL (sub_cons (sub_cons (sub_cons sub_rfl))) (leT_eq (by rw [hu]; rfl)) hK
  · rintro dd L Rr Rb hR x xs τ ⟨dn, rest, tk, h1, h2, rfl⟩
    cases rest with
    | nil => simp at h2
    | cons t rest =>
    simp only [List.map_cons, List.cons.injEq] at h2
    obtain ⟨rfl, rfl⟩ := h2
    have hln := congrArg List.length h1
    have q3 := tot_len (rowsB d l)
    simp only [List.length_append, List.length_cons] at hln
    refine ⟨rfl, ?_⟩
    repeat' (first
      | simp only [WL, intF, strF, List.toList_toArray, List.set_cons_succ, List.set_cons_zero, List.getD_cons_succ, List.getD_cons_zero, List.getElem?_cons_succ, List.getElem?_cons_zero, List.length_cons, List.length_nil, List.replicate_succ, List.replicate_zero, List.cons_append, List.nil_append, List.append_nil, List.map_cons, List.map_nil, Option.bind_some, Option.map_some, Option.map_none, List.drop_succ_cons, List.drop_zero, List.take_succ_cons, List.take_zero, ← List.map_take, ← List.map_drop, List.take_length, Int.reduceToNat, ne_eq, reduceCtorEq, not_false_eq_true, Nat.reduceAdd, Nat.reduceSub, Nat.reduceLT, Nat.reduceLeDiff, Nat.reduceEqDiff, Nat.zero_lt_succ, Bool.not_true, Bool.not_false, beq_self_eq_true, true_and, and_true, Option.isSome_some, Option.isSome_none, reduceIte, Int.toNat_natCast, Bool.false_eq_true, List.length_map, Nat.le_refl, Option.some.injEq, exists_eq_left', Nat.add_right_cancel_iff, List.take_nil, List.drop_nil, convC_sl, convC_str, T3, T4, T5, T9, T24, T30, T50, T59, T64, T69, T71, T93, T95, fieldAddrC_cp fl64_0, fieldAddrC_raw fl64_0, fieldAddrC_cp fl64_1, fieldAddrC_raw fl64_1, cok66, cok67, cok68, cok69, cok70, Try.results32]
      | (simp (disch := first | omega | (simp only [List.length_append, List.length_map, List.length_cons, List.length_nil, List.length_drop, List.length_take, List.length_replicate]; omega)) only [wrap_id, getI])
      | (with_reducible refine And.intro (by first | omega | exact ⟨_, rfl⟩ | (focus (simp; done)) | (simp; omega)) ?_)
      | ((with_reducible apply wk_load (ty := 3) (ha := ag3) 0); rfl; rfl)
      | ((with_reducible apply wk_load (ty := 3) (ha := ag3) 1); rfl; rfl)
      | ((with_reducible apply wk_load (ty := 4) (ha := ag4) 0); rfl; rfl)
      | ((with_reducible apply wk_load (ty := 4) (ha := ag4) 1); rfl; rfl)
      | ((with_reducible apply wk_load_agg (ty := 64) (ha := ag64) (hs := sz64) 0); rfl; (first | decide | (focus (simp; done)) | omega))
      | ((with_reducible apply wk_load_agg (ty := 64) (ha := ag64) (hs := sz64) 1); rfl; (first | decide | (focus (simp; done)) | omega))
      | ((with_reducible apply wk_load (ty := 69) (ha := ag69) 0); rfl; rfl)
      | ((with_reducible apply wk_load (ty := 69) (ha := ag69) 1); rfl; rfl)
      | ((with_reducible refine storeC_mk ?_); first | ((with_reducible apply act_store (t := 69) (hs := sz69) 0); rfl; (first | decide | (focus (simp; done)) | omega); rfl) | ((with_reducible apply act_store (t := 69) (hs := sz69) 1); rfl; (first | decide | (focus (simp; done)) | omega); rfl))
      | ((with_reducible refine actC_mk ?_); (with_reducible refine act_box ?_ (fun b => ?_)); rfl)
      | ((with_reducible refine actC_mk ?_); (with_reducible refine act_new zr64 ?_ (fun b => ?_)); rfl)
      | ((with_reducible refine actC_mk ?_); (with_reducible refine act_new zr69 ?_ (fun b => ?_)); rfl)
      | ((with_reducible refine actC_mk (act_append_nil (sz := 1) (by decide) ?_)))
      | ((with_reducible refine actC_mk (act_append_src_nil (sz := 1) (by decide) ?_)))
      | ((with_reducible refine actC_mk (act_append 0 rfl sl69 sz24 by24 zr24 rfl ?_ ?_ ?_ (fun tk => ?_))); (first | exact goodI _ | exact goodU _ | rfl | exact goodSL _ | exact goodLL _ | (focus (simp [goodL, oneA, AV.cells]; done)) | skip))
      | ((with_reducible refine (act_append 0 rfl sl69 sz24 by24 zr24 rfl ?_ ?_ ?_ (fun tk => ?_))); (first | exact goodI _ | exact goodU _ | rfl | exact goodSL _ | exact goodLL _ | (focus (simp [goodL, oneA, AV.cells]; done)) | skip))
      | ((with_reducible refine actC_mk (act_append 1 rfl sl69 sz24 by24 zr24 rfl ?_ ?_ ?_ (fun tk => ?_))); (first | exact goodI _ | exact goodU _ | rfl | exact goodSL _ | exact goodLL _ | (focus (simp [goodL, oneA, AV.cells]; done)) | skip))
      | ((with_reducible refine (act_append 1 rfl sl69 sz24 by24 zr24 rfl ?_ ?_ ?_ (fun tk => ?_))); (first | exact goodI _ | exact goodU _ | rfl | exact goodSL _ | exact goodLL _ | (focus (simp [goodL, oneA, AV.cells]; done)) | skip))
      | ((with_reducible refine actC_mk (act_append 2 rfl sl69 sz24 by24 zr24 rfl ?_ ?_ ?_ (fun tk => ?_))); (first | exact goodI _ | exact goodU _ | rfl | exact goodSL _ | exact goodLL _ | (focus (simp [goodL, oneA, AV.cells]; done)) | skip))
      | ((with_reducible refine (act_append 2 rfl sl69 sz24 by24 zr24 rfl ?_ ?_ ?_ (fun tk => ?_))); (first | exact goodI _ | exact goodU _ | rfl | exact goodSL _ | exact goodLL _ | (focus (simp [goodL, oneA, AV.cells]; done)) | skip))
      | ((with_reducible refine wk_bslice sl69 sz24 zr24 (by decide) (by decide) (by decide) (by decide) rfl ?_ ?_ ?_); (first | exact goodI _ | exact goodU _ | rfl | exact goodSL _ | exact goodLL _ | (focus (simp [goodL, oneA, AV.cells]; done))); (all_goals first | (intro x hx; simp at hx; first | (subst hx; rfl) | (rcases hx with rfl | rfl <;> rfl) | (rcases hx with rfl | rfl | rfl <;> rfl) | (repeat (rcases hx with rfl | hx <;> try rfl))) | skip))
      | (with_reducible refine actC_q (act_max2 isA_mk) ?_) | (with_reducible refine actC_q (act_min2 isA_mk) ?_)
      | (with_reducible refine actC_q (act_bytes_str sl30 in5 st9 isA_mk) ?_)
      | (with_reducible refine callD_q (bIndent ?_ ?_ ?_ isR_mk) ?_)
      | (with_reducible refine callD_mk (bIndent ?_ ?_ ?_ ?_))
      | (with_reducible refine callD_mk (bRows (fun br1 br2 => ?_)))
      | (with_reducible refine callD_q (literal1 ?_ isR_mk) ?_)
      | (with_reducible refine callD_mk (literal1 ?_ ?_))
      | (with_reducible refine callD_q (block1 ?_ isR_mk) ?_)
      | (with_reducible refine callD_mk (block1 ?_ ?_))
      | (with_reducible refine callD_q (uBytes ?_ isR_mk) ?_)
      | (with_reducible refine callD_mk (uBytes ?_ ?_))
      | ((with_reducible refine AW_drawM (id := 11) 12 mixed ?_ ?_); kernel_rfl)
      | (with_reducible refine dmQ_mk ?_)
      | (with_reducible refine nilTC_pos (by simp; omega) ?_)
      | (with_reducible refine nilTC_split (fun h => ?_) (fun h bn => ?_) <;> (try simp only [List.length_map] at h))
      | (with_reducible refine grd_cases (fun h => ?_) (fun h => ?_) <;> (try simp only [h]) <;> (try simp only [beq_iff_eq, beq_eq_false_iff_ne, bne_iff_ne, bne_eq_false_iff_eq, decide_eq_true_eq, decide_eq_false_iff_not, Bool.not_eq_true', Bool.not_eq_false', Bool.not_true, Bool.not_false, Bool.not_eq_eq_eq_not, ne_eq, Int.not_lt, Int.not_le, gt_iff_lt, ge_iff_le, Decidable.not_not] at h))
      | (with_reducible refine condC_split (fun h => ?_) (fun h => ?_) <;> (try simp only [h]) <;> (try simp only [beq_iff_eq, beq_eq_false_iff_ne, bne_iff_ne, bne_eq_false_iff_eq, decide_eq_true_eq, decide_eq_false_iff_not, Bool.not_eq_true', Bool.not_eq_false', Bool.not_true, Bool.not_false, Bool.not_eq_eq_eq_not, ne_eq, Int.not_lt, Int.not_le, gt_iff_lt, ge_iff_le, Decidable.not_not] at h))
      | omega | (simp only [List.length_append, List.length_map, List.length_cons, List.length_nil, List.length_drop, List.length_take, List.length_replicate]; omega) | (refine maxLen_ok ?_; (first | omega | (simp only [List.length_append, List.length_map, List.length_cons, List.length_nil, List.length_drop, List.length_take, List.length_replicate]; omega))))
    refine rngA_mk ?_
    repeat' (first
      | simp only [WL, intF, strF, List.toList_toArray, List.set_cons_succ, List.set_cons_zero, List.getD_cons_succ, List.getD_cons_zero, List.getElem?_cons_succ, List.getElem?_cons_zero, List.length_cons, List.length_nil, List.replicate_succ, List.replicate_zero, List.cons_append, List.nil_append, List.append_nil, List.map_cons, List.map_nil, Option.bind_some, Option.map_some, Option.map_none, List.drop_succ_cons, List.drop_zero, List.take_succ_cons, List.take_zero, ← List.map_take, ← List.map_drop, List.take_length, Int.reduceToNat, ne_eq, reduceCtorEq, not_false_eq_true, Nat.reduceAdd, Nat.reduceSub, Nat.reduceLT, Nat.reduceLeDiff, Nat.reduceEqDiff, Nat.zero_lt_succ, Bool.not_true, Bool.not_false, beq_self_eq_true, true_and, and_true, Option.isSome_some, Option.isSome_none, reduceIte, Int.toNat_natCast, Bool.false_eq_true, List.length_map, Nat.le_refl, Option.some.injEq, exists_eq_left', Nat.add_right_cancel_iff, List.take_nil, List.drop_nil, convC_sl, convC_str, T3, T4, T5, T9, T24, T30, T50, T59, T64, T69, T71, T93, T95, fieldAddrC_cp fl64_0, fieldAddrC_raw fl64_0, fieldAddrC_cp fl64_1, fieldAddrC_raw fl64_1, cok66, cok67, cok68, cok69, cok70, Try.results32]
      | (simp (disch := first | omega | (simp only [List.length_append, List.length_map, List.length_cons, List.length_nil, List.length_drop, List.length_take, List.length_replicate]; omega)) only [wrap_id, getI])
      | (with_reducible refine And.intro (by first | omega | exact ⟨_, rfl⟩ | (focus (simp; done)) | (simp; omega)) ?_)
      | ((with_reducible apply wk_load (ty := 3) (ha := ag3) 0); rfl; rfl)
      | ((with_reducible apply wk_load (ty := 3) (ha := ag3) 1); rfl; rfl)
      | ((with_reducible apply wk_load (ty := 3) (ha := ag3) 2); rfl; rfl)
      | ((with_reducible apply wk_load (ty := 3) (ha := ag3) 3); rfl; rfl)
      | ((with_reducible apply wk_load (ty := 3) (ha := ag3) 4); rfl; rfl)
      | ((with_reducible apply wk_load (ty := 4) (ha := ag4) 0); rfl; rfl)
      | ((with_reducible apply wk_load (ty := 4) (ha := ag4) 1); rfl; rfl)
      | ((with_reducible apply wk_load (ty := 4) (ha := ag4) 2); rfl; rfl)
      | ((with_reducible apply wk_load (ty := 4) (ha := ag4) 3); rfl; rfl)
      | ((with_reducible apply wk_load (ty := 4) (ha := ag4) 4); rfl; rfl)
      | ((with_reducible apply wk_load_agg (ty := 64) (ha := ag64) (hs := sz64) 0); rfl; (first | decide | (focus (simp; done)) | omega))
      | ((with_reducible apply wk_load_agg (ty := 64) (ha := ag64) (hs := sz64) 1); rfl; (first | decide | (focus (simp; done)) | omega))
      | ((with_reducible apply wk_load_agg (ty := 64) (ha := ag64) (hs := sz64) 2); rfl; (first | decide | (focus (simp; done)) | omega))
      | ((with_reducible apply wk_load_agg (ty := 64) (ha := ag64) (hs := sz64) 3); rfl; (first | decide | (focus (simp; done)) | omega))
      | ((with_reducible apply wk_load_agg (ty := 64) (ha := ag64) (hs := sz64) 4); rfl; (first | decide | (focus (simp; done)) | omega))
      | ((with_reducible apply wk_load (ty := 69) (ha := ag69) 0); rfl; rfl)
      | ((with_reducible apply wk_load (ty := 69) (ha := ag69) 1); rfl; rfl)
      | ((with_reducible apply wk_load (ty := 69) (ha := ag69) 2); rfl; rfl)
      | ((with_reducible apply wk_load (ty := 69) (ha := ag69) 3); rfl; rfl)
      | ((with_reducible apply wk_load (ty := 69) (ha := ag69) 4); rfl; rfl)
      | ((with_reducible refine storeC_mk ?_); first | ((with_reducible apply act_store (t := 69) (hs := sz69) 0); rfl; (first | decide | (focus (simp; done)) | omega); rfl) | ((with_reducible apply act_store (t := 69) (hs := sz69) 1); rfl; (first | decide | (focus (simp; done)) | omega); rfl) | ((with_reducible apply act_store (t := 69) (hs := sz69) 2); rfl; (first | decide | (focus (simp; done)) | omega); rfl) | ((with_reducible apply act_store (t := 69) (hs := sz69) 3); rfl; (first | decide | (focus (simp; done)) | omega); rfl) | ((with_reducible apply act_store (t := 69) (hs := sz69) 4); rfl; (first | decide | (focus (simp; done)) | omega); rfl))
      | ((with_reducible refine actC_mk ?_); (with_reducible refine act_box ?_ (fun b => ?_)); rfl)
      | ((with_reducible refine actC_mk ?_); (with_reducible refine act_new zr64 ?_ (fun b => ?_)); rfl)
      | ((with_reducible refine actC_mk ?_); (with_reducible refine act_new zr69 ?_ (fun b => ?_)); rfl)
      | ((with_reducible refine actC_mk (act_append_nil (sz := 1) (by decide) ?_)))
      | ((with_reducible refine actC_mk (act_append_src_nil (sz := 1) (by decide) ?_)))
      | ((with_reducible refine actC_mk (act_append 0 rfl sl69 sz24 by24 zr24 rfl ?_ ?_ ?_ (fun tk => ?_))); (first | exact goodI _ | exact goodU _ | rfl | exact goodSL _ | exact goodLL _ | (focus (simp [goodL, oneA, AV.cells]; done)) | skip))
      | ((with_reducible refine (act_append 0 rfl sl69 sz24 by24 zr24 rfl ?_ ?_ ?_ (fun tk => ?_))); (first | exact goodI _ | exact goodU _ | rfl | exact goodSL _ | exact goodLL _ | (focus (simp [goodL, oneA, AV.cells]; done)) | skip))
      | ((with_reducible refine actC_mk (act_append 1 rfl sl69 sz24 by24 zr24 rfl ?_ ?_ ?_ (fun tk => ?_))); (first | exact goodI _ | exact goodU _ | rfl | exact goodSL _ | exact goodLL _ | (focus (simp [goodL, oneA, AV.cells]; done)) | skip))
      | ((with_reducible refine (act_append 1 rfl sl69 sz24 by24 zr24 rfl ?_ ?_ ?_ (fun tk => ?_))); (first | exact goodI _ | exact goodU _ | rfl | exact goodSL _ | exact goodLL _ | (focus (simp [goodL, oneA, AV.cells]; done)) | skip))
      | ((with_reducible refine actC_mk (act_append 2 rfl sl69 sz24 by24 zr24 rfl ?_ ?_ ?_ (fun tk => ?_))); (first | exact goodI _ | exact goodU _ | rfl | exact goodSL _ | exact goodLL _ | (focus (simp [goodL, oneA, AV.cells]; done)) | skip))
      | ((with_reducible refine (act_append 2 rfl sl69 sz24 by24 zr24 rfl ?_ ?_ ?_ (fun tk => ?_))); (first | exact goodI _ | exact goodU _ | rfl | exact goodSL _ | exact goodLL _ | (focus (simp [goodL, oneA, AV.cells]; done)) | skip))
      | ((with_reducible refine actC_mk (act_append 3 rfl sl69 sz24 by24 zr24 rfl ?_ ?_ ?_ (fun tk => ?_))); (first | exact goodI _ | exact goodU _ | rfl | exact goodSL _ | exact goodLL _ | (focus (simp [goodL, oneA, AV.cells]; done)) | skip))
      | ((with_reducible refine (act_append 3 rfl sl69 sz24 by24 zr24 rfl ?_ ?_ ?_ (fun tk => ?_))); (first | exact goodI _ | exact goodU _ | rfl | exact goodSL _ | exact goodLL _ | (focus (simp [goodL, oneA, AV.cells]; done)) | skip))
      | ((with_reducible refine actC_mk (act_append 4 rfl sl69 sz24 by24 zr24 rfl ?_ ?_ ?_ (fun tk => ?_))); (first | exact goodI _ | exact goodU _ | rfl | exact goodSL _ | exact goodLL _ | (focus (simp [goodL, oneA, AV.cells]; done)) | skip))
      | ((with_reducible refine (act_append 4 rfl sl69 sz24 by24 zr24 rfl ?_ ?_ ?_ (fun tk => ?_))); (first | exact goodI _ | exact goodU _ | rfl | exact goodSL _ | exact goodLL _ | (focus (simp [goodL, oneA, AV.cells]; done)) | skip))
      | ((with_reducible refine actC_mk (act_append 5 rfl sl69 sz24 by24 zr24 rfl ?_ ?_ ?_ (fun tk => ?_))); (first | exact goodI _ | exact goodU _ | rfl | exact goodSL _ | exact goodLL _ | (focus (simp [goodL, oneA, AV.cells]; done)) | skip))
      | ((with_reducible refine (act_append 5 rfl sl69 sz24 by24 zr24 rfl ?_ ?_ ?_ (fun tk => ?_))); (first | exact goodI _ | exact goodU _ | rfl | exact goodSL _ | exact goodLL _ | (focus (simp [goodL, oneA, AV.cells]; done)) | skip))
      | ((with_reducible refine wk_bslice sl69 sz24 zr24 (by decide) (by decide) (by decide) (by decide) rfl ?_ ?_ ?_); (first | exact goodI _ | exact goodU _ | rfl | exact goodSL _ | exact goodLL _ | (focus (simp [goodL, oneA, AV.cells]; done))); (all_goals first | (intro x hx; simp at hx; first | (subst hx; rfl) | (rcases hx with rfl | rfl <;> rfl) | (rcases hx with rfl | rfl | rfl <;> rfl) | (repeat (rcases hx with rfl | hx <;> try rfl))) | skip))
      | (with_reducible refine actC_q (act_max2 isA_mk) ?_) | (with_reducible refine actC_q (act_min2 isA_mk) ?_)
      | (with_reducible refine actC_q (act_bytes_str sl30 in5 st9 isA_mk) ?_)
      | (with_reducible refine callD_q (bIndent ?_ ?_ ?_ isR_mk) ?_)
      | (with_reducible refine callD_mk (bIndent ?_ ?_ ?_ ?_))
      | (with_reducible refine callD_mk (bRows (fun br1 br2 => ?_)))
      | (with_reducible refine callD_q (literal1 ?_ isR_mk) ?_)
      | (with_reducible refine callD_mk (literal1 ?_ ?_))
      | (with_reducible refine callD_q (block1 ?_ isR_mk) ?_)
      | (with_reducible refine callD_mk (block1 ?_ ?_))
      | (with_reducible refine callD_q (uBytes ?_ isR_mk) ?_)
      | (with_reducible refine callD_mk (uBytes ?_ ?_))
      | ((with_reducible refine AW_drawM (id := 11) 12 mixed ?_ ?_); kernel_rfl)
      | (with_reducible refine dmQ_mk ?_)
      | (with_reducible refine nilTC_pos (by simp; omega) ?_)
      | (with_reducible refine nilTC_split (fun h => ?_) (fun h bn => ?_) <;> (try simp only [List.length_map] at h))
      | (with_reducible refine grd_cases (fun h => ?_) (fun h => ?_) <;> (try simp only [h]) <;> (try simp only [beq_iff_eq, beq_eq_false_iff_ne, bne_iff_ne, bne_eq_false_iff_eq, decide_eq_true_eq, decide_eq_false_iff_not, Bool.not_eq_true', Bool.not_eq_false', Bool.not_true, Bool.not_false, Bool.not_eq_eq_eq_not, ne_eq, Int.not_lt, Int.not_le, gt_iff_lt, ge_iff_le, Decidable.not_not] at h))
      | (with_reducible refine condC_split (fun h => ?_) (fun h => ?_) <;> (try simp only [h]) <;> (try simp only [beq_iff_eq, beq_eq_false_iff_ne, bne_iff_ne, bne_eq_false_iff_eq, decide_eq_true_eq, decide_eq_false_iff_not, Bool.not_eq_true', Bool.not_eq_false', Bool.not_true, Bool.not_false, Bool.not_eq_eq_eq_not, ne_eq, Int.not_lt, Int.not_le, gt_iff_lt, ge_iff_le, Decidable.not_not] at h))
      | omega | (simp only [List.length_append, List.length_map, List.length_cons, List.length_nil, List.length_drop, List.length_take, List.length_replicate]; omega) | (refine maxLen_ok ?_; (first | omega | (simp only [List.length_append, List.length_map, List.length_cons, List.length_nil, List.length_drop, List.length_take, List.length_replicate]; omega))))
    exact ⟨_, resS_rfl, dn ++ [t], rest, tk, by rw [h1]; simp, rfl, by simp⟩
end Go.Proofs.Ytaeacialcbahnaa
