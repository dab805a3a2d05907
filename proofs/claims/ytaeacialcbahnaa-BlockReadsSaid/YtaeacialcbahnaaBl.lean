/-
  Walks: chapter 10, where lines stand, and what of them belongs to a text.
-/
import Derived.Test.YtaeacialcbahnaaBk
namespace Go.Proofs.Ytaeacialcbahnaa
open Go.Abs
set_option linter.unusedVariables false
set_option linter.unusedSimpArgs false
-- hb: 8000000
variable {κ : Ctx} {σ : List Res} {K : Ret → List Res → Prop} {o o' : Option (Option (Nat × Nat))}

-- block.void
set_option maxHeartbeats 8000000 in
theorem bVoid {n : Int} {t : List Int} (hK : K (.ret (B ((t.length : Int) == 0))) σ) : ACallF κ Try.prog 96 [.agg [I n, SI o t]] σ K := by
  refine ACallF.dropL (ACallF_intro Try.func96 rfl ?_)
  simp only [Try.ntmps96]
  repeat' (first
    | simp only [WL, intF, strF, List.toList_toArray, List.set_cons_succ, List.set_cons_zero, List.getD_cons_succ, List.getD_cons_zero, List.getElem?_cons_succ, List.getElem?_cons_zero, List.length_cons, List.length_nil, List.replicate_succ, List.replicate_zero, List.cons_append, List.nil_append, List.append_nil, List.map_cons, List.map_nil, Option.bind_some, Option.map_some, Option.map_none, List.drop_succ_cons, List.drop_zero, List.take_succ_cons, List.take_zero, ← List.map_take, ← List.map_drop, List.take_length, Int.reduceToNat, ne_eq, reduceCtorEq, not_false_eq_true, Nat.reduceAdd, Nat.reduceSub, Nat.reduceLT, Nat.reduceLeDiff, Nat.reduceEqDiff, Nat.zero_lt_succ, Bool.not_true, Bool.not_false, beq_self_eq_true, true_and, and_true, Option.isSome_some, Option.isSome_none, reduceIte, Int.toNat_natCast, Bool.false_eq_true, List.length_map, Nat.le_refl, Option.some.injEq, exists_eq_left', Nat.add_right_cancel_iff, List.take_nil, List.drop_nil, T3, T4, T24, T71, fieldAddrC_cp fl71_1, fieldAddrC_raw fl71_1, Try.results96]
    | (simp (disch := first | omega | (simp only [List.length_append, List.length_map, List.length_cons, List.length_nil, List.length_drop, List.length_take, List.length_replicate]; omega)) only [wrap_id, getI])
    | (with_reducible refine And.intro (by first | omega | exact ⟨_, rfl⟩ | (focus (simp; done)) | (simp; omega)) ?_)
    | ((with_reducible apply wk_load (ty := 24) (ha := ag24) 0); rfl; rfl)
    | ((with_reducible apply wk_load (ty := 24) (ha := ag24) 1); rfl; rfl)
    | ((with_reducible refine actC_mk ?_); (with_reducible refine act_box ?_ (fun b => ?_)); rfl)
    | ((with_reducible refine actC_mk ?_); (with_reducible refine act_new zr71 ?_ (fun b => ?_)); rfl)
    | (with_reducible refine nilTC_pos (by simp; omega) ?_)
    | (with_reducible refine nilTC_split (fun h => ?_) (fun h bn => ?_) <;> (try simp only [List.length_map] at h))
    | (with_reducible refine grd_cases (fun h => ?_) (fun h => ?_) <;> (try simp only [h]) <;> (try simp only [beq_iff_eq, beq_eq_false_iff_ne, bne_iff_ne, bne_eq_false_iff_eq, decide_eq_true_eq, decide_eq_false_iff_not, Bool.not_eq_true', Bool.not_eq_false', Bool.not_true, Bool.not_false, Bool.not_eq_eq_eq_not, ne_eq, Int.not_lt, Int.not_le, gt_iff_lt, ge_iff_le, Decidable.not_not] at h))
    | (with_reducible refine condC_split (fun h => ?_) (fun h => ?_) <;> (try simp only [h]) <;> (try simp only [beq_iff_eq, beq_eq_false_iff_ne, bne_iff_ne, bne_eq_false_iff_eq, decide_eq_true_eq, decide_eq_false_iff_not, Bool.not_eq_true', Bool.not_eq_false', Bool.not_true, Bool.not_false, Bool.not_eq_eq_eq_not, ne_eq, Int.not_lt, Int.not_le, gt_iff_lt, ge_iff_le, Decidable.not_not] at h))
    | omega | (simp only [List.length_append, List.length_map, List.length_cons, List.length_nil, List.length_drop, List.length_take, List.length_replicate]; omega))
  exact leafL (sub_cons sub_rfl) (leT_eq rfl) hK

-- marginaliaref1.void
set_option maxHeartbeats 8000000 in
theorem rVoid {n : Int} {t : List Int} (hK : K (.ret (B ((t.length : Int) == 0))) σ) : ACallF κ Try.prog 73 [.agg [I n, SI o t]] σ K := by
  refine ACallF.dropL (ACallF_intro Try.func73 rfl ?_)
  simp only [Try.ntmps73]
  repeat' (first
    | simp only [WL, intF, strF, List.toList_toArray, List.set_cons_succ, List.set_cons_zero, List.getD_cons_succ, List.getD_cons_zero, List.getElem?_cons_succ, List.getElem?_cons_zero, List.length_cons, List.length_nil, List.replicate_succ, List.replicate_zero, List.cons_append, List.nil_append, List.append_nil, List.map_cons, List.map_nil, Option.bind_some, Option.map_some, Option.map_none, List.drop_succ_cons, List.drop_zero, List.take_succ_cons, List.take_zero, ← List.map_take, ← List.map_drop, List.take_length, Int.reduceToNat, ne_eq, reduceCtorEq, not_false_eq_true, Nat.reduceAdd, Nat.reduceSub, Nat.reduceLT, Nat.reduceLeDiff, Nat.reduceEqDiff, Nat.zero_lt_succ, Bool.not_true, Bool.not_false, beq_self_eq_true, true_and, and_true, Option.isSome_some, Option.isSome_none, reduceIte, Int.toNat_natCast, Bool.false_eq_true, List.length_map, Nat.le_refl, Option.some.injEq, exists_eq_left', Nat.add_right_cancel_iff, List.take_nil, List.drop_nil, T3, T4, T24, T71, fieldAddrC_cp fl71_1, fieldAddrC_raw fl71_1, Try.results73]
    | (simp (disch := first | omega | (simp only [List.length_append, List.length_map, List.length_cons, List.length_nil, List.length_drop, List.length_take, List.length_replicate]; omega)) only [wrap_id, getI])
    | (with_reducible refine And.intro (by first | omega | exact ⟨_, rfl⟩ | (focus (simp; done)) | (simp; omega)) ?_)
    | ((with_reducible apply wk_load (ty := 24) (ha := ag24) 0); rfl; rfl)
    | ((with_reducible apply wk_load (ty := 24) (ha := ag24) 1); rfl; rfl)
    | ((with_reducible refine actC_mk ?_); (with_reducible refine act_box ?_ (fun b => ?_)); rfl)
    | ((with_reducible refine actC_mk ?_); (with_reducible refine act_new zr71 ?_ (fun b => ?_)); rfl)
    | (with_reducible refine nilTC_pos (by simp; omega) ?_)
    | (with_reducible refine nilTC_split (fun h => ?_) (fun h bn => ?_) <;> (try simp only [List.length_map] at h))
    | (with_reducible refine grd_cases (fun h => ?_) (fun h => ?_) <;> (try simp only [h]) <;> (try simp only [beq_iff_eq, beq_eq_false_iff_ne, bne_iff_ne, bne_eq_false_iff_eq, decide_eq_true_eq, decide_eq_false_iff_not, Bool.not_eq_true', Bool.not_eq_false', Bool.not_true, Bool.not_false, Bool.not_eq_eq_eq_not, ne_eq, Int.not_lt, Int.not_le, gt_iff_lt, ge_iff_le, Decidable.not_not] at h))
    | (with_reducible refine condC_split (fun h => ?_) (fun h => ?_) <;> (try simp only [h]) <;> (try simp only [beq_iff_eq, beq_eq_false_iff_ne, bne_iff_ne, bne_eq_false_iff_eq, decide_eq_true_eq, decide_eq_false_iff_not, Bool.not_eq_true', Bool.not_eq_false', Bool.not_true, Bool.not_false, Bool.not_eq_eq_eq_not, ne_eq, Int.not_lt, Int.not_le, gt_iff_lt, ge_iff_le, Decidable.not_not] at h))
    | omega | (simp only [List.length_append, List.length_map, List.length_cons, List.length_nil, List.length_drop, List.length_take, List.length_replicate]; omega))
  exact leafL (sub_cons sub_rfl) (leT_eq rfl) hK

set_option maxHeartbeats 8000000 in
theorem len_nil {l : List Int} (h : (l.length : Int) = 0) : l = [] := List.eq_nil_of_length_eq_zero (by omega)
set_option maxHeartbeats 8000000 in
theorem len_cons {l : List Int} (h : ¬ (l.length : Int) = 0) : ¬ l = [] := fun e => h (by rw [e]; rfl)

-- block.indent
set_option maxHeartbeats 8000000 in
theorem bIndent {l : List Ln} {h0 : HD} {n : Int} (hl : l.length ≤ 1000000000) (ht : ∀ x ∈ l, x.2.length ≤ 1000000000) (hn : -1 ≤ n ∧ n ≤ 1099511627776) (hK : K (.ret (.tup [I (indI l h0.2.2 n).1, I (indI l h0.2.2 n).2])) σ) : ACallF κ Try.prog 66 [SL o l, HDA h0, I n] σ K := by
  refine ACallF.dropL (ACallF_introA Try.func66 rfl ?_)
  simp only [Try.ntmps66]
  repeat' (first
    | (with_reducible refine cut_at (id := 4) ?_) | (with_reducible refine cut_unit (id := 4) ?_) | (with_reducible refine cut_one (id := 4) ?_)
    | (with_reducible refine AW_seqA (AW_block ?_)) | (with_reducible refine AW_block ?_) | (with_reducible refine cut_seqloop ?_) | (with_reducible refine cut_loop ?_) | (with_reducible refine AW_seqA (AW_seqA ?_)) | (with_reducible refine AW_seq ?_) | (with_reducible refine AW_runReg ?_) | (with_reducible refine AW_runCond ?_) | (with_reducible refine AW_runExit ?_) | (with_reducible refine AW_runRet ?_) | (with_reducible refine AW_runSkip ?_) | (with_reducible refine AW_runLabel ?_)
    | simp only [WL, intF, strF, List.toList_toArray, List.set_cons_succ, List.set_cons_zero, List.getD_cons_succ, List.getD_cons_zero, List.getElem?_cons_succ, List.getElem?_cons_zero, List.length_cons, List.length_nil, List.replicate_succ, List.replicate_zero, List.cons_append, List.nil_append, List.append_nil, List.map_cons, List.map_nil, Option.bind_some, Option.map_some, Option.map_none, List.drop_succ_cons, List.drop_zero, List.take_succ_cons, List.take_zero, ← List.map_take, ← List.map_drop, List.take_length, Int.reduceToNat, ne_eq, reduceCtorEq, not_false_eq_true, Nat.reduceAdd, Nat.reduceSub, Nat.reduceLT, Nat.reduceLeDiff, Nat.reduceEqDiff, Nat.zero_lt_succ, Bool.not_true, Bool.not_false, beq_self_eq_true, true_and, and_true, Option.isSome_some, Option.isSome_none, reduceIte, Int.toNat_natCast, Bool.false_eq_true, List.length_map, Nat.le_refl, Option.some.injEq, exists_eq_left', Nat.add_right_cancel_iff, List.take_nil, List.drop_nil, T3, T4, T24, T50, T59, T64, T71, fieldAddrC_cp fl64_2, fieldAddrC_raw fl64_2, fieldAddrC_cp fl71_0, fieldAddrC_raw fl71_0, cok96, cok97, Try.results66]
    | (simp (disch := first | omega | (simp only [List.length_append, List.length_map, List.length_cons, List.length_nil, List.length_drop, List.length_take, List.length_replicate]; omega)) only [wrap_id, getI])
    | (with_reducible refine And.intro (by first | omega | exact ⟨_, rfl⟩ | (focus (simp; done)) | (simp; omega)) ?_)
    | ((with_reducible apply wk_load (ty := 3) (ha := ag3) 0); rfl; rfl)
    | ((with_reducible apply wk_load (ty := 3) (ha := ag3) 1); rfl; rfl)
    | ((with_reducible apply wk_load_agg (ty := 71) (ha := ag71) (hs := sz71) 0); rfl; (first | decide | (focus (simp; done)) | omega))
    | ((with_reducible apply wk_load_agg (ty := 71) (ha := ag71) (hs := sz71) 1); rfl; (first | decide | (focus (simp; done)) | omega))
    | ((with_reducible refine storeC_mk ?_); first | ((with_reducible apply act_store_agg (t := 71) (hs := sz71) 0); rfl; (first | decide | (focus (simp; done)) | omega); rfl) | ((with_reducible apply act_store_agg (t := 71) (hs := sz71) 1); rfl; (first | decide | (focus (simp; done)) | omega); rfl))
    | ((with_reducible refine actC_mk ?_); (with_reducible refine act_box ?_ (fun b => ?_)); rfl)
    | ((with_reducible refine actC_mk ?_); (with_reducible refine act_new zr64 ?_ (fun b => ?_)); rfl)
    | ((with_reducible refine actC_mk ?_); (with_reducible refine act_new zr71 ?_ (fun b => ?_)); rfl)
    | (with_reducible refine actC_q (act_max2 isA_mk) ?_) | (with_reducible refine actC_q (act_min2 isA_mk) ?_)
    | (with_reducible refine callD_mk (bVoid ?_))
    | (with_reducible refine callD_mk (lMarker ?_ ?_))
    | (with_reducible refine nilTC_pos (by simp; omega) ?_)
    | (with_reducible refine nilTC_split (fun h => ?_) (fun h bn => ?_) <;> (try simp only [List.length_map] at h))
    | (with_reducible refine grd_cases (fun h => ?_) (fun h => ?_) <;> (try simp only [h]) <;> (try simp only [beq_iff_eq, beq_eq_false_iff_ne, bne_iff_ne, bne_eq_false_iff_eq, decide_eq_true_eq, decide_eq_false_iff_not, Bool.not_eq_true', Bool.not_eq_false', Bool.not_true, Bool.not_false, Bool.not_eq_eq_eq_not, ne_eq, Int.not_lt, Int.not_le, gt_iff_lt, ge_iff_le, Decidable.not_not] at h))
    | (with_reducible refine condC_split (fun h => ?_) (fun h => ?_) <;> (try simp only [h]) <;> (try simp only [beq_iff_eq, beq_eq_false_iff_ne, bne_iff_ne, bne_eq_false_iff_eq, decide_eq_true_eq, decide_eq_false_iff_not, Bool.not_eq_true', Bool.not_eq_false', Bool.not_true, Bool.not_false, Bool.not_eq_eq_eq_not, ne_eq, Int.not_lt, Int.not_le, gt_iff_lt, ge_iff_le, Decidable.not_not] at h))
    | omega | (simp only [List.length_append, List.length_map, List.length_cons, List.length_nil, List.length_drop, List.length_take, List.length_replicate]; omega))
  · exact leafL (sub_cons sub_rfl) (leT_eq (by unfold indI; rw [if_pos (by omega)])) hK
  refine midA (fun x : Int × Option Int => ⟨(SL o l :: .any :: I n :: .any :: .raw (.pointer (some ⟨b, 0, none⟩)) :: .any :: .any :: .any :: I x.1 :: I (x.2.getD n) :: .any :: .any :: .any :: .any :: .any :: .any :: .any :: .any :: .any :: .any :: .any :: .any :: .any :: .any :: .any :: .any :: .any :: .any :: .any :: .any :: .any :: .any :: .any :: .any :: .any :: .any :: .any :: .any :: .any :: .any :: .any :: .any :: .any :: .any :: .any :: .any :: .any :: .any :: .any :: .any :: .any :: .any :: .any :: []), .obj b [B h0.1, I h0.2.1, I h0.2.2] :: σ, true, []⟩) (fun x => scanI 0 l = x) ?_ ?_
  · skip
    repeat' (first
      | (with_reducible refine AW_seqA (AW_block ?_)) | (with_reducible refine AW_block ?_) | (with_reducible refine cut_seqloop ?_) | (with_reducible refine cut_loop ?_) | (with_reducible refine AW_seqA (AW_seqA ?_)) | (with_reducible refine AW_seq ?_) | (with_reducible refine AW_runReg ?_) | (with_reducible refine AW_runCond ?_) | (with_reducible refine AW_runExit ?_) | (with_reducible refine AW_runRet ?_) | (with_reducible refine AW_runSkip ?_) | (with_reducible refine AW_runLabel ?_)
      | simp only [WL, intF, strF, List.toList_toArray, List.set_cons_succ, List.set_cons_zero, List.getD_cons_succ, List.getD_cons_zero, List.getElem?_cons_succ, List.getElem?_cons_zero, List.length_cons, List.length_nil, List.replicate_succ, List.replicate_zero, List.cons_append, List.nil_append, List.append_nil, List.map_cons, List.map_nil, Option.bind_some, Option.map_some, Option.map_none, List.drop_succ_cons, List.drop_zero, List.take_succ_cons, List.take_zero, ← List.map_take, ← List.map_drop, List.take_length, Int.reduceToNat, ne_eq, reduceCtorEq, not_false_eq_true, Nat.reduceAdd, Nat.reduceSub, Nat.reduceLT, Nat.reduceLeDiff, Nat.reduceEqDiff, Nat.zero_lt_succ, Bool.not_true, Bool.not_false, beq_self_eq_true, true_and, and_true, Option.isSome_some, Option.isSome_none, reduceIte, Int.toNat_natCast, Bool.false_eq_true, List.length_map, Nat.le_refl, Option.some.injEq, exists_eq_left', Nat.add_right_cancel_iff, List.take_nil, List.drop_nil, T3, T4, T24, T50, T59, T64, T71, fieldAddrC_cp fl64_2, fieldAddrC_raw fl64_2, fieldAddrC_cp fl71_0, fieldAddrC_raw fl71_0, cok96, cok97, Try.results66]
      | (simp (disch := first | omega | (simp only [List.length_append, List.length_map, List.length_cons, List.length_nil, List.length_drop, List.length_take, List.length_replicate]; omega)) only [wrap_id, getI])
      | (with_reducible refine And.intro (by first | omega | exact ⟨_, rfl⟩ | (focus (simp; done)) | (simp; omega)) ?_)
      | ((with_reducible apply wk_load (ty := 3) (ha := ag3) 0); rfl; rfl)
      | ((with_reducible apply wk_load (ty := 3) (ha := ag3) 1); rfl; rfl)
      | ((with_reducible apply wk_load_agg (ty := 71) (ha := ag71) (hs := sz71) 0); rfl; (first | decide | (focus (simp; done)) | omega))
      | ((with_reducible apply wk_load_agg (ty := 71) (ha := ag71) (hs := sz71) 1); rfl; (first | decide | (focus (simp; done)) | omega))
      | ((with_reducible refine storeC_mk ?_); first | ((with_reducible apply act_store_agg (t := 71) (hs := sz71) 0); rfl; (first | decide | (focus (simp; done)) | omega); rfl) | ((with_reducible apply act_store_agg (t := 71) (hs := sz71) 1); rfl; (first | decide | (focus (simp; done)) | omega); rfl))
      | ((with_reducible refine actC_mk ?_); (with_reducible refine act_box ?_ (fun b => ?_)); rfl)
      | ((with_reducible refine actC_mk ?_); (with_reducible refine act_new zr64 ?_ (fun b => ?_)); rfl)
      | ((with_reducible refine actC_mk ?_); (with_reducible refine act_new zr71 ?_ (fun b => ?_)); rfl)
      | (with_reducible refine actC_q (act_max2 isA_mk) ?_) | (with_reducible refine actC_q (act_min2 isA_mk) ?_)
      | (with_reducible refine callD_mk (bVoid ?_))
      | (with_reducible refine callD_mk (lMarker ?_ ?_))
      | (with_reducible refine nilTC_pos (by simp; omega) ?_)
      | (with_reducible refine nilTC_split (fun h => ?_) (fun h bn => ?_) <;> (try simp only [List.length_map] at h))
      | (with_reducible refine grd_cases (fun h => ?_) (fun h => ?_) <;> (try simp only [h]) <;> (try simp only [beq_iff_eq, beq_eq_false_iff_ne, bne_iff_ne, bne_eq_false_iff_eq, decide_eq_true_eq, decide_eq_false_iff_not, Bool.not_eq_true', Bool.not_eq_false', Bool.not_true, Bool.not_false, Bool.not_eq_eq_eq_not, ne_eq, Int.not_lt, Int.not_le, gt_iff_lt, ge_iff_le, Decidable.not_not] at h))
      | (with_reducible refine condC_split (fun h => ?_) (fun h => ?_) <;> (try simp only [h]) <;> (try simp only [beq_iff_eq, beq_eq_false_iff_ne, bne_iff_ne, bne_eq_false_iff_eq, decide_eq_true_eq, decide_eq_false_iff_not, Bool.not_eq_true', Bool.not_eq_false', Bool.not_true, Bool.not_false, Bool.not_eq_eq_eq_not, ne_eq, Int.not_lt, Int.not_le, gt_iff_lt, ge_iff_le, Decidable.not_not] at h))
      | omega | (simp only [List.length_append, List.length_map, List.length_cons, List.length_nil, List.length_drop, List.length_take, List.length_replicate]; omega))
    refine loopA (fun x : Nat × Int => ⟨(SL o l :: .any :: I n :: .any :: .raw (.pointer (some ⟨b, 0, none⟩)) :: .any :: .any :: .any :: I x.2 :: I n :: .any :: .any :: .any :: .any :: .any :: .any :: .any :: .any :: .any :: .any :: .any :: .any :: SL o l :: I l.length :: I x.1 :: .any :: .any :: .any :: .any :: .any :: .any :: .any :: .any :: .any :: .any :: .any :: .any :: .any :: .any :: .any :: .any :: .any :: .any :: .any :: .any :: .any :: .any :: .any :: .any :: .any :: .any :: .any :: .any :: []), .obj b [B h0.1, I h0.2.1, I h0.2.2] :: σ, true, []⟩) (fun x => x.1 ≤ l.length ∧ scanI 0 l = scanI x.2 (l.drop x.1)) (fun x => l.length - x.1) (0, 0) (St_leW (by repeat (first | exact trivial | refine ⟨le_rfl, ?_⟩ | refine ⟨le_any, ?_⟩ | refine ⟨le_ro, ?_⟩ | refine ⟨le_nil (by decide), ?_⟩ | refine ⟨le_wrap (by omega) (by omega) (by omega), ?_⟩ | refine ⟨le_int (by omega), ?_⟩ | refine ⟨le_eq (by simp), ?_⟩)) (ResW.refl _) id) ⟨Nat.zero_le _, rfl⟩ ?_
    rintro ⟨k, w⟩ hx
    dsimp only at hx ⊢
    have h1 := hx.1
    have h2 := hx.2
    rcases Nat.lt_or_ge k l.length with hk | hk
    · have hmem : l.getD k (0, []) ∈ l := by rw [List.getD_eq_getElem?_getD, List.getElem?_eq_getElem hk]; exact List.getElem_mem hk
      have htk := ht _ hmem
      repeat' (first
        | (with_reducible refine AW_seqA (AW_block ?_)) | (with_reducible refine AW_block ?_) | (with_reducible refine cut_seqloop ?_) | (with_reducible refine cut_loop ?_) | (with_reducible refine AW_seqA (AW_seqA ?_)) | (with_reducible refine AW_seq ?_) | (with_reducible refine AW_runReg ?_) | (with_reducible refine AW_runCond ?_) | (with_reducible refine AW_runExit ?_) | (with_reducible refine AW_runRet ?_) | (with_reducible refine AW_runSkip ?_) | (with_reducible refine AW_runLabel ?_)
        | simp only [WL, intF, strF, List.toList_toArray, List.set_cons_succ, List.set_cons_zero, List.getD_cons_succ, List.getD_cons_zero, List.getElem?_cons_succ, List.getElem?_cons_zero, List.length_cons, List.length_nil, List.replicate_succ, List.replicate_zero, List.cons_append, List.nil_append, List.append_nil, List.map_cons, List.map_nil, Option.bind_some, Option.map_some, Option.map_none, List.drop_succ_cons, List.drop_zero, List.take_succ_cons, List.take_zero, ← List.map_take, ← List.map_drop, List.take_length, Int.reduceToNat, ne_eq, reduceCtorEq, not_false_eq_true, Nat.reduceAdd, Nat.reduceSub, Nat.reduceLT, Nat.reduceLeDiff, Nat.reduceEqDiff, Nat.zero_lt_succ, Bool.not_true, Bool.not_false, beq_self_eq_true, true_and, and_true, Option.isSome_some, Option.isSome_none, reduceIte, Int.toNat_natCast, Bool.false_eq_true, List.length_map, Nat.le_refl, Option.some.injEq, exists_eq_left', Nat.add_right_cancel_iff, List.take_nil, List.drop_nil, T3, T4, T24, T50, T59, T64, T71, fieldAddrC_cp fl64_2, fieldAddrC_raw fl64_2, fieldAddrC_cp fl71_0, fieldAddrC_raw fl71_0, cok96, cok97, Try.results66]
        | (simp (disch := first | omega | (simp only [List.length_append, List.length_map, List.length_cons, List.length_nil, List.length_drop, List.length_take, List.length_replicate]; omega)) only [wrap_id, getI, getL])
        | (with_reducible refine And.intro (by first | omega | exact ⟨_, rfl⟩ | (focus (simp; done)) | (simp; omega)) ?_)
        | ((with_reducible apply wk_load (ty := 3) (ha := ag3) 0); rfl; rfl)
        | ((with_reducible apply wk_load (ty := 3) (ha := ag3) 1); rfl; rfl)
        | ((with_reducible apply wk_load_agg (ty := 71) (ha := ag71) (hs := sz71) 0); rfl; (first | decide | (focus (simp; done)) | omega))
        | ((with_reducible apply wk_load_agg (ty := 71) (ha := ag71) (hs := sz71) 1); rfl; (first | decide | (focus (simp; done)) | omega))
        | ((with_reducible refine storeC_mk ?_); first | ((with_reducible apply act_store_agg (t := 71) (hs := sz71) 0); rfl; (first | decide | (focus (simp; done)) | omega); rfl) | ((with_reducible apply act_store_agg (t := 71) (hs := sz71) 1); rfl; (first | decide | (focus (simp; done)) | omega); rfl))
        | ((with_reducible refine actC_mk ?_); (with_reducible refine act_box ?_ (fun b => ?_)); rfl)
        | ((with_reducible refine actC_mk ?_); (with_reducible refine act_new zr64 ?_ (fun b => ?_)); rfl)
        | ((with_reducible refine actC_mk ?_); (with_reducible refine act_new zr71 ?_ (fun b => ?_)); rfl)
        | (with_reducible refine actC_q (act_max2 isA_mk) ?_) | (with_reducible refine actC_q (act_min2 isA_mk) ?_)
        | (with_reducible refine callD_mk (bVoid ?_))
        | (with_reducible refine callD_mk (lMarker ?_ ?_))
        | (with_reducible refine nilTC_pos (by simp; omega) ?_)
        | (with_reducible refine nilTC_split (fun h => ?_) (fun h bn => ?_) <;> (try simp only [List.length_map] at h))
        | (with_reducible refine grd_cases (fun h => ?_) (fun h => ?_) <;> (try simp only [h]) <;> (try simp only [beq_iff_eq, beq_eq_false_iff_ne, bne_iff_ne, bne_eq_false_iff_eq, decide_eq_true_eq, decide_eq_false_iff_not, Bool.not_eq_true', Bool.not_eq_false', Bool.not_true, Bool.not_false, Bool.not_eq_eq_eq_not, ne_eq, Int.not_lt, Int.not_le, gt_iff_lt, ge_iff_le, Decidable.not_not] at h))
        | (with_reducible refine condC_split (fun h => ?_) (fun h => ?_) <;> (try simp only [h]) <;> (try simp only [beq_iff_eq, beq_eq_false_iff_ne, bne_iff_ne, bne_eq_false_iff_eq, decide_eq_true_eq, decide_eq_false_iff_not, Bool.not_eq_true', Bool.not_eq_false', Bool.not_true, Bool.not_false, Bool.not_eq_eq_eq_not, ne_eq, Int.not_lt, Int.not_le, gt_iff_lt, ge_iff_le, Decidable.not_not] at h))
        | omega | (simp only [List.length_append, List.length_map, List.length_cons, List.length_nil, List.length_drop, List.length_take, List.length_replicate]; omega))
      all_goals first
        | exact ⟨(k + 1, max w (l.getD k (0, [])).1), St_leW (by repeat (first | exact trivial | refine ⟨le_rfl, ?_⟩ | refine ⟨le_any, ?_⟩ | refine ⟨le_ro, ?_⟩ | refine ⟨le_nil (by decide), ?_⟩ | refine ⟨le_wrap (by omega) (by omega) (by omega), ?_⟩ | refine ⟨le_int (by omega), ?_⟩ | refine ⟨le_eq (by simp), ?_⟩)) (ResW.sub (List.sublist_cons_self _ _)) id, ⟨by dsimp only; omega, h2.trans (scan_void hk (len_nil (by assumption)))⟩, by dsimp only; omega⟩
        | exact ⟨(w, some (l.getD k (0, [])).1), St_leW (by repeat (first | exact trivial | refine ⟨le_rfl, ?_⟩ | refine ⟨le_any, ?_⟩ | refine ⟨le_ro, ?_⟩ | refine ⟨le_nil (by decide), ?_⟩ | refine ⟨le_wrap (by omega) (by omega) (by omega), ?_⟩ | refine ⟨le_int (by omega), ?_⟩ | refine ⟨le_eq (by simp), ?_⟩)) (ResW.sub (List.sublist_cons_self _ _)) id, h2.trans (scan_text hk (len_cons (by assumption)) (by assumption))⟩
        | exact ⟨(w, none), St_leW (by repeat (first | exact trivial | refine ⟨le_rfl, ?_⟩ | refine ⟨le_any, ?_⟩ | refine ⟨le_ro, ?_⟩ | refine ⟨le_nil (by decide), ?_⟩ | refine ⟨le_wrap (by omega) (by omega) (by omega), ?_⟩ | refine ⟨le_int (by omega), ?_⟩ | refine ⟨le_eq (by simp), ?_⟩)) (ResW.sub (List.sublist_cons_self _ _)) id, h2.trans (scan_mark hk (len_cons (by assumption)) (by assumption))⟩
        | trace_state
    · skip
      repeat' (first
        | (with_reducible refine AW_seqA (AW_block ?_)) | (with_reducible refine AW_block ?_) | (with_reducible refine cut_seqloop ?_) | (with_reducible refine cut_loop ?_) | (with_reducible refine AW_seqA (AW_seqA ?_)) | (with_reducible refine AW_seq ?_) | (with_reducible refine AW_runReg ?_) | (with_reducible refine AW_runCond ?_) | (with_reducible refine AW_runExit ?_) | (with_reducible refine AW_runRet ?_) | (with_reducible refine AW_runSkip ?_) | (with_reducible refine AW_runLabel ?_)
        | simp only [WL, intF, strF, List.toList_toArray, List.set_cons_succ, List.set_cons_zero, List.getD_cons_succ, List.getD_cons_zero, List.getElem?_cons_succ, List.getElem?_cons_zero, List.length_cons, List.length_nil, List.replicate_succ, List.replicate_zero, List.cons_append, List.nil_append, List.append_nil, List.map_cons, List.map_nil, Option.bind_some, Option.map_some, Option.map_none, List.drop_succ_cons, List.drop_zero, List.take_succ_cons, List.take_zero, ← List.map_take, ← List.map_drop, List.take_length, Int.reduceToNat, ne_eq, reduceCtorEq, not_false_eq_true, Nat.reduceAdd, Nat.reduceSub, Nat.reduceLT, Nat.reduceLeDiff, Nat.reduceEqDiff, Nat.zero_lt_succ, Bool.not_true, Bool.not_false, beq_self_eq_true, true_and, and_true, Option.isSome_some, Option.isSome_none, reduceIte, Int.toNat_natCast, Bool.false_eq_true, List.length_map, Nat.le_refl, Option.some.injEq, exists_eq_left', Nat.add_right_cancel_iff, List.take_nil, List.drop_nil, T3, T4, T24, T50, T59, T64, T71, fieldAddrC_cp fl64_2, fieldAddrC_raw fl64_2, fieldAddrC_cp fl71_0, fieldAddrC_raw fl71_0, cok96, cok97, Try.results66]
        | (simp (disch := first | omega | (simp only [List.length_append, List.length_map, List.length_cons, List.length_nil, List.length_drop, List.length_take, List.length_replicate]; omega)) only [wrap_id, getI])
        | (with_reducible refine And.intro (by first | omega | exact ⟨_, rfl⟩ | (focus (simp; done)) | (simp; omega)) ?_)
        | ((with_reducible apply wk_load (ty := 3) (ha := ag3) 0); rfl; rfl)
        | ((with_reducible apply wk_load (ty := 3) (ha := ag3) 1); rfl; rfl)
        | ((with_reducible apply wk_load_agg (ty := 71) (ha := ag71) (hs := sz71) 0); rfl; (first | decide | (focus (simp; done)) | omega))
        | ((with_reducible apply wk_load_agg (ty := 71) (ha := ag71) (hs := sz71) 1); rfl; (first | decide | (focus (simp; done)) | omega))
        | ((with_reducible refine storeC_mk ?_); first | ((with_reducible apply act_store_agg (t := 71) (hs := sz71) 0); rfl; (first | decide | (focus (simp; done)) | omega); rfl) | ((with_reducible apply act_store_agg (t := 71) (hs := sz71) 1); rfl; (first | decide | (focus (simp; done)) | omega); rfl))
        | ((with_reducible refine actC_mk ?_); (with_reducible refine act_box ?_ (fun b => ?_)); rfl)
        | ((with_reducible refine actC_mk ?_); (with_reducible refine act_new zr64 ?_ (fun b => ?_)); rfl)
        | ((with_reducible refine actC_mk ?_); (with_reducible refine act_new zr71 ?_ (fun b => ?_)); rfl)
        | (with_reducible refine actC_q (act_max2 isA_mk) ?_) | (with_reducible refine actC_q (act_min2 isA_mk) ?_)
        | (with_reducible refine callD_mk (bVoid ?_))
        | (with_reducible refine callD_mk (lMarker ?_ ?_))
        | (with_reducible refine nilTC_pos (by simp; omega) ?_)
        | (with_reducible refine nilTC_split (fun h => ?_) (fun h bn => ?_) <;> (try simp only [List.length_map] at h))
        | (with_reducible refine grd_cases (fun h => ?_) (fun h => ?_) <;> (try simp only [h]) <;> (try simp only [beq_iff_eq, beq_eq_false_iff_ne, bne_iff_ne, bne_eq_false_iff_eq, decide_eq_true_eq, decide_eq_false_iff_not, Bool.not_eq_true', Bool.not_eq_false', Bool.not_true, Bool.not_false, Bool.not_eq_eq_eq_not, ne_eq, Int.not_lt, Int.not_le, gt_iff_lt, ge_iff_le, Decidable.not_not] at h))
        | (with_reducible refine condC_split (fun h => ?_) (fun h => ?_) <;> (try simp only [h]) <;> (try simp only [beq_iff_eq, beq_eq_false_iff_ne, bne_iff_ne, bne_eq_false_iff_eq, decide_eq_true_eq, decide_eq_false_iff_not, Bool.not_eq_true', Bool.not_eq_false', Bool.not_true, Bool.not_false, Bool.not_eq_eq_eq_not, ne_eq, Int.not_lt, Int.not_le, gt_iff_lt, ge_iff_le, Decidable.not_not] at h))
        | omega | (simp only [List.length_append, List.length_map, List.length_cons, List.length_nil, List.length_drop, List.length_take, List.length_replicate]; omega))
      exact ⟨(w, none), St_leW (by repeat (first | exact trivial | refine ⟨le_rfl, ?_⟩ | refine ⟨le_any, ?_⟩ | refine ⟨le_ro, ?_⟩ | refine ⟨le_nil (by decide), ?_⟩ | refine ⟨le_wrap (by omega) (by omega) (by omega), ?_⟩ | refine ⟨le_int (by omega), ?_⟩ | refine ⟨le_eq (by simp), ?_⟩)) (ResW.refl _) id, h2.trans (scan_end hk)⟩
  · rintro ⟨w, f⟩ hx
    dsimp only at hx ⊢
    have hi : ¬ 0 < h0.2.2 := by omega
    have hu : indI l h0.2.2 n = if f.getD n ≤ n then (max w (n + 1), 0) else if f.getD n < w then (0, 7) else (f.getD n, 0) := by unfold indI; rw [if_neg hi, hx]
    generalize f.getD n = g at *
    repeat' (first
      | (with_reducible refine AW_seqA (AW_block ?_)) | (with_reducible refine AW_block ?_) | (with_reducible refine cut_seqloop ?_) | (with_reducible refine cut_loop ?_) | (with_reducible refine AW_seqA (AW_seqA ?_)) | (with_reducible refine AW_seq ?_) | (with_reducible refine AW_runReg ?_) | (with_reducible refine AW_runCond ?_) | (with_reducible refine AW_runExit ?_) | (with_reducible refine AW_runRet ?_) | (with_reducible refine AW_runSkip ?_) | (with_reducible refine AW_runLabel ?_)
      | simp only [WL, intF, strF, List.toList_toArray, List.set_cons_succ, List.set_cons_zero, List.getD_cons_succ, List.getD_cons_zero, List.getElem?_cons_succ, List.getElem?_cons_zero, List.length_cons, List.length_nil, List.replicate_succ, List.replicate_zero, List.cons_append, List.nil_append, List.append_nil, List.map_cons, List.map_nil, Option.bind_some, Option.map_some, Option.map_none, List.drop_succ_cons, List.drop_zero, List.take_succ_cons, List.take_zero, ← List.map_take, ← List.map_drop, List.take_length, Int.reduceToNat, ne_eq, reduceCtorEq, not_false_eq_true, Nat.reduceAdd, Nat.reduceSub, Nat.reduceLT, Nat.reduceLeDiff, Nat.reduceEqDiff, Nat.zero_lt_succ, Bool.not_true, Bool.not_false, beq_self_eq_true, true_and, and_true, Option.isSome_some, Option.isSome_none, reduceIte, Int.toNat_natCast, Bool.false_eq_true, List.length_map, Nat.le_refl, Option.some.injEq, exists_eq_left', Nat.add_right_cancel_iff, List.take_nil, List.drop_nil, T3, T4, T24, T50, T59, T64, T71, fieldAddrC_cp fl64_2, fieldAddrC_raw fl64_2, fieldAddrC_cp fl71_0, fieldAddrC_raw fl71_0, cok96, cok97, Try.results66]
      | (simp (disch := first | omega | (simp only [List.length_append, List.length_map, List.length_cons, List.length_nil, List.length_drop, List.length_take, List.length_replicate]; omega)) only [wrap_id, getI])
      | (with_reducible refine And.intro (by first | omega | exact ⟨_, rfl⟩ | (focus (simp; done)) | (simp; omega)) ?_)
      | ((with_reducible apply wk_load (ty := 3) (ha := ag3) 0); rfl; rfl)
      | ((with_reducible apply wk_load (ty := 3) (ha := ag3) 1); rfl; rfl)
      | ((with_reducible apply wk_load_agg (ty := 71) (ha := ag71) (hs := sz71) 0); rfl; (first | decide | (focus (simp; done)) | omega))
      | ((with_reducible apply wk_load_agg (ty := 71) (ha := ag71) (hs := sz71) 1); rfl; (first | decide | (focus (simp; done)) | omega))
      | ((with_reducible refine storeC_mk ?_); first | ((with_reducible apply act_store_agg (t := 71) (hs := sz71) 0); rfl; (first | decide | (focus (simp; done)) | omega); rfl) | ((with_reducible apply act_store_agg (t := 71) (hs := sz71) 1); rfl; (first | decide | (focus (simp; done)) | omega); rfl))
      | ((with_reducible refine actC_mk ?_); (with_reducible refine act_box ?_ (fun b => ?_)); rfl)
      | ((with_reducible refine actC_mk ?_); (with_reducible refine act_new zr64 ?_ (fun b => ?_)); rfl)
      | ((with_reducible refine actC_mk ?_); (with_reducible refine act_new zr71 ?_ (fun b => ?_)); rfl)
      | (with_reducible refine actC_q (act_max2 isA_mk) ?_) | (with_reducible refine actC_q (act_min2 isA_mk) ?_)
      | (with_reducible refine callD_mk (bVoid ?_))
      | (with_reducible refine callD_mk (lMarker ?_ ?_))
      | (with_reducible refine nilTC_pos (by simp; omega) ?_)
      | (with_reducible refine nilTC_split (fun h => ?_) (fun h bn => ?_) <;> (try simp only [List.length_map] at h))
      | (with_reducible refine grd_cases (fun h => ?_) (fun h => ?_) <;> (try simp only [h]) <;> (try simp only [beq_iff_eq, beq_eq_false_iff_ne, bne_iff_ne, bne_eq_false_iff_eq, decide_eq_true_eq, decide_eq_false_iff_not, Bool.not_eq_true', Bool.not_eq_false', Bool.not_true, Bool.not_false, Bool.not_eq_eq_eq_not, ne_eq, Int.not_lt, Int.not_le, gt_iff_lt, ge_iff_le, Decidable.not_not] at h))
      | (with_reducible refine condC_split (fun h => ?_) (fun h => ?_) <;> (try simp only [h]) <;> (try simp only [beq_iff_eq, beq_eq_false_iff_ne, bne_iff_ne, bne_eq_false_iff_eq, decide_eq_true_eq, decide_eq_false_iff_not, Bool.not_eq_true', Bool.not_eq_false', Bool.not_true, Bool.not_false, Bool.not_eq_eq_eq_not, ne_eq, Int.not_lt, Int.not_le, gt_iff_lt, ge_iff_le, Decidable.not_not] at h))
      | omega | (simp only [List.length_append, List.length_map, List.length_cons, List.length_nil, List.length_drop, List.length_take, List.length_replicate]; omega))
    all_goals first
      | (rw [if_pos (by omega)] at hu; exact leafL (sub_cons sub_rfl) (leT_eq (by rw [hu])) hK)
      | (rw [if_neg (by omega), if_pos (by omega)] at hu; exact leafL (sub_cons sub_rfl) (leT_eq (by rw [hu])) hK)
      | (rw [if_neg (by omega), if_neg (by omega)] at hu; exact leafL (sub_cons sub_rfl) (leT_eq (by rw [hu])) hK)
      | trace_state

-- block.content
set_option maxHeartbeats 8000000 in
theorem bContent {x : Ln} {d : Int} (ht : x.2.length ≤ 1000000000) (hd : -1000000000000000 ≤ x.1 - d ∧ x.1 - d ≤ 1000000) (hK : K (.ret (SI none (contB d x))) σ) : ACallF κ Try.prog 99 [LN x, I d] σ K := by
  refine ACallF.dropL (ACallF_introA Try.func99 rfl ?_)
  simp only [Try.ntmps99]
  repeat' (first
    | (with_reducible refine AW_seqA (AW_block ?_)) | (with_reducible refine AW_block ?_) | (with_reducible refine cut_seqloop ?_) | (with_reducible refine cut_loop ?_) | (with_reducible refine AW_seqA (AW_seqA ?_)) | (with_reducible refine AW_seq ?_) | (with_reducible refine AW_runReg ?_) | (with_reducible refine AW_runCond ?_) | (with_reducible refine AW_runExit ?_) | (with_reducible refine AW_runRet ?_) | (with_reducible refine AW_runSkip ?_) | (with_reducible refine AW_runLabel ?_)
    | simp only [WL, intF, strF, List.toList_toArray, List.set_cons_succ, List.set_cons_zero, List.getD_cons_succ, List.getD_cons_zero, List.getElem?_cons_succ, List.getElem?_cons_zero, List.length_cons, List.length_nil, List.replicate_succ, List.replicate_zero, List.cons_append, List.nil_append, List.append_nil, List.map_cons, List.map_nil, Option.bind_some, Option.map_some, Option.map_none, List.drop_succ_cons, List.drop_zero, List.take_succ_cons, List.take_zero, ← List.map_take, ← List.map_drop, List.take_length, Int.reduceToNat, ne_eq, reduceCtorEq, not_false_eq_true, Nat.reduceAdd, Nat.reduceSub, Nat.reduceLT, Nat.reduceLeDiff, Nat.reduceEqDiff, Nat.zero_lt_succ, Bool.not_true, Bool.not_false, beq_self_eq_true, true_and, and_true, Option.isSome_some, Option.isSome_none, reduceIte, Int.toNat_natCast, Bool.false_eq_true, List.length_map, Nat.le_refl, Option.some.injEq, exists_eq_left', Nat.add_right_cancel_iff, List.take_nil, List.drop_nil, T3, T4, T24, T71, fieldAddrC_cp fl71_0, fieldAddrC_raw fl71_0, fieldAddrC_cp fl71_1, fieldAddrC_raw fl71_1, Try.results99]
    | (simp (disch := first | omega | (simp only [List.length_append, List.length_map, List.length_cons, List.length_nil, List.length_drop, List.length_take, List.length_replicate]; omega)) only [wrap_id, getI])
    | (with_reducible refine And.intro (by first | omega | exact ⟨_, rfl⟩ | (focus (simp; done)) | (simp; omega)) ?_)
    | ((with_reducible apply wk_load (ty := 3) (ha := ag3) 0); rfl; rfl)
    | ((with_reducible apply wk_load (ty := 3) (ha := ag3) 1); rfl; rfl)
    | ((with_reducible apply wk_load (ty := 24) (ha := ag24) 0); rfl; rfl)
    | ((with_reducible apply wk_load (ty := 24) (ha := ag24) 1); rfl; rfl)
    | ((with_reducible refine actC_mk ?_); (with_reducible refine act_box ?_ (fun b => ?_)); rfl)
    | ((with_reducible refine actC_mk ?_); (with_reducible refine act_new zr71 ?_ (fun b => ?_)); rfl)
    | ((with_reducible refine actC_mk (act_append_nil (sz := 1) (by decide) ?_)))
    | ((with_reducible refine actC_mk (act_append_src_nil (sz := 1) (by decide) ?_)))
    | ((with_reducible refine actC_mk (act_append 0 rfl sl24 sz3 by3 zr3 rfl ?_ ?_ ?_ (fun tk => ?_))); (first | exact goodI _ | exact goodU _ | rfl | exact goodSL _ | exact goodLL _ | (focus (simp [goodL, oneA, AV.cells]; done)) | skip))
    | ((with_reducible refine (act_append 0 rfl sl24 sz3 by3 zr3 rfl ?_ ?_ ?_ (fun tk => ?_))); (first | exact goodI _ | exact goodU _ | rfl | exact goodSL _ | exact goodLL _ | (focus (simp [goodL, oneA, AV.cells]; done)) | skip))
    | ((with_reducible refine actC_mk (act_append 1 rfl sl24 sz3 by3 zr3 rfl ?_ ?_ ?_ (fun tk => ?_))); (first | exact goodI _ | exact goodU _ | rfl | exact goodSL _ | exact goodLL _ | (focus (simp [goodL, oneA, AV.cells]; done)) | skip))
    | ((with_reducible refine (act_append 1 rfl sl24 sz3 by3 zr3 rfl ?_ ?_ ?_ (fun tk => ?_))); (first | exact goodI _ | exact goodU _ | rfl | exact goodSL _ | exact goodLL _ | (focus (simp [goodL, oneA, AV.cells]; done)) | skip))
    | ((with_reducible refine actC_mk (act_append 2 rfl sl24 sz3 by3 zr3 rfl ?_ ?_ ?_ (fun tk => ?_))); (first | exact goodI _ | exact goodU _ | rfl | exact goodSL _ | exact goodLL _ | (focus (simp [goodL, oneA, AV.cells]; done)) | skip))
    | ((with_reducible refine (act_append 2 rfl sl24 sz3 by3 zr3 rfl ?_ ?_ ?_ (fun tk => ?_))); (first | exact goodI _ | exact goodU _ | rfl | exact goodSL _ | exact goodLL _ | (focus (simp [goodL, oneA, AV.cells]; done)) | skip))
    | ((with_reducible refine wk_bslice sl24 sz3 zr3 (by decide) (by decide) (by decide) (by decide) rfl ?_ ?_ ?_); (first | exact goodI _ | exact goodU _ | rfl | exact goodSL _ | exact goodLL _ | (focus (simp [goodL, oneA, AV.cells]; done))); (all_goals first | (intro x hx; simp at hx; first | (subst hx; rfl) | (rcases hx with rfl | rfl <;> rfl) | (rcases hx with rfl | rfl | rfl <;> rfl) | (repeat (rcases hx with rfl | hx <;> try rfl))) | skip))
    | (with_reducible refine nilTC_pos (by simp; omega) ?_)
    | (with_reducible refine nilTC_split (fun h => ?_) (fun h bn => ?_) <;> (try simp only [List.length_map] at h))
    | (with_reducible refine grd_cases (fun h => ?_) (fun h => ?_) <;> (try simp only [h]) <;> (try simp only [beq_iff_eq, beq_eq_false_iff_ne, bne_iff_ne, bne_eq_false_iff_eq, decide_eq_true_eq, decide_eq_false_iff_not, Bool.not_eq_true', Bool.not_eq_false', Bool.not_true, Bool.not_false, Bool.not_eq_eq_eq_not, ne_eq, Int.not_lt, Int.not_le, gt_iff_lt, ge_iff_le, Decidable.not_not] at h))
    | (with_reducible refine condC_split (fun h => ?_) (fun h => ?_) <;> (try simp only [h]) <;> (try simp only [beq_iff_eq, beq_eq_false_iff_ne, bne_iff_ne, bne_eq_false_iff_eq, decide_eq_true_eq, decide_eq_false_iff_not, Bool.not_eq_true', Bool.not_eq_false', Bool.not_true, Bool.not_false, Bool.not_eq_eq_eq_not, ne_eq, Int.not_lt, Int.not_le, gt_iff_lt, ge_iff_le, Decidable.not_not] at h))
    | omega | (simp only [List.length_append, List.length_map, List.length_cons, List.length_nil, List.length_drop, List.length_take, List.length_replicate]; omega) | (refine maxLen_ok ?_; (first | omega | (simp only [List.length_append, List.length_map, List.length_cons, List.length_nil, List.length_drop, List.length_take, List.length_replicate]; omega))))
  refine loopA (fun y : Nat × Option (Nat × Nat) => ⟨(.any :: I d :: .raw (.pointer (some ⟨b, 0, none⟩)) :: .any :: .any :: SI (some y.2) (List.replicate y.1 32) :: .any :: .any :: .any :: I (x.1 - d) :: I y.1 :: .any :: .any :: .any :: .any :: .any :: .any :: .any :: .any :: .any :: []), .tip y.2 :: .obj b [I x.1, SI none x.2] :: σ, true, []⟩) (fun y => (y.1 : Int) ≤ max 0 (x.1 - d)) (fun y => (x.1 - d).toNat - y.1) (0, none) (St_leW (by repeat (first | exact trivial | refine ⟨le_rfl, ?_⟩ | refine ⟨le_any, ?_⟩ | refine ⟨le_ro, ?_⟩ | refine ⟨le_nil (by decide), ?_⟩ | refine ⟨le_wrap (by omega) (by omega) (by omega), ?_⟩ | refine ⟨le_int (by omega), ?_⟩ | refine ⟨le_eq (by simp), ?_⟩)) ResW.void id) (by dsimp only; omega) ?_
  rintro ⟨k, tk⟩ hx
  dsimp only at hx ⊢
  rcases Int.lt_or_le (k : Int) (x.1 - d) with hk | hk
  · skip
    repeat' (first
      | (with_reducible refine AW_seqA (AW_block ?_)) | (with_reducible refine AW_block ?_) | (with_reducible refine cut_seqloop ?_) | (with_reducible refine cut_loop ?_) | (with_reducible refine AW_seqA (AW_seqA ?_)) | (with_reducible refine AW_seq ?_) | (with_reducible refine AW_runReg ?_) | (with_reducible refine AW_runCond ?_) | (with_reducible refine AW_runExit ?_) | (with_reducible refine AW_runRet ?_) | (with_reducible refine AW_runSkip ?_) | (with_reducible refine AW_runLabel ?_)
      | simp only [WL, intF, strF, List.toList_toArray, List.set_cons_succ, List.set_cons_zero, List.getD_cons_succ, List.getD_cons_zero, List.getElem?_cons_succ, List.getElem?_cons_zero, List.length_cons, List.length_nil, List.replicate_succ, List.replicate_zero, List.cons_append, List.nil_append, List.append_nil, List.map_cons, List.map_nil, Option.bind_some, Option.map_some, Option.map_none, List.drop_succ_cons, List.drop_zero, List.take_succ_cons, List.take_zero, ← List.map_take, ← List.map_drop, List.take_length, Int.reduceToNat, ne_eq, reduceCtorEq, not_false_eq_true, Nat.reduceAdd, Nat.reduceSub, Nat.reduceLT, Nat.reduceLeDiff, Nat.reduceEqDiff, Nat.zero_lt_succ, Bool.not_true, Bool.not_false, beq_self_eq_true, true_and, and_true, Option.isSome_some, Option.isSome_none, reduceIte, Int.toNat_natCast, Bool.false_eq_true, List.length_map, Nat.le_refl, Option.some.injEq, exists_eq_left', Nat.add_right_cancel_iff, List.take_nil, List.drop_nil, T3, T4, T24, T71, fieldAddrC_cp fl71_0, fieldAddrC_raw fl71_0, fieldAddrC_cp fl71_1, fieldAddrC_raw fl71_1, Try.results99]
      | (simp (disch := first | omega | (simp only [List.length_append, List.length_map, List.length_cons, List.length_nil, List.length_drop, List.length_take, List.length_replicate]; omega)) only [wrap_id, getI])
      | (with_reducible refine And.intro (by first | omega | exact ⟨_, rfl⟩ | (focus (simp; done)) | (simp; omega)) ?_)
      | ((with_reducible apply wk_load (ty := 3) (ha := ag3) 0); rfl; rfl)
      | ((with_reducible apply wk_load (ty := 3) (ha := ag3) 1); rfl; rfl)
      | ((with_reducible apply wk_load (ty := 3) (ha := ag3) 2); rfl; rfl)
      | ((with_reducible apply wk_load (ty := 24) (ha := ag24) 0); rfl; rfl)
      | ((with_reducible apply wk_load (ty := 24) (ha := ag24) 1); rfl; rfl)
      | ((with_reducible apply wk_load (ty := 24) (ha := ag24) 2); rfl; rfl)
      | ((with_reducible refine actC_mk ?_); (with_reducible refine act_box ?_ (fun b => ?_)); rfl)
      | ((with_reducible refine actC_mk ?_); (with_reducible refine act_new zr71 ?_ (fun b => ?_)); rfl)
      | ((with_reducible refine actC_mk (act_append_nil (sz := 1) (by decide) ?_)))
      | ((with_reducible refine actC_mk (act_append_src_nil (sz := 1) (by decide) ?_)))
      | ((with_reducible refine actC_mk (act_append 0 rfl sl24 sz3 by3 zr3 rfl ?_ ?_ ?_ (fun tk => ?_))); (first | exact goodI _ | exact goodU _ | rfl | exact goodSL _ | exact goodLL _ | (focus (simp [goodL, oneA, AV.cells]; done)) | skip))
      | ((with_reducible refine (act_append 0 rfl sl24 sz3 by3 zr3 rfl ?_ ?_ ?_ (fun tk => ?_))); (first | exact goodI _ | exact goodU _ | rfl | exact goodSL _ | exact goodLL _ | (focus (simp [goodL, oneA, AV.cells]; done)) | skip))
      | ((with_reducible refine actC_mk (act_append 1 rfl sl24 sz3 by3 zr3 rfl ?_ ?_ ?_ (fun tk => ?_))); (first | exact goodI _ | exact goodU _ | rfl | exact goodSL _ | exact goodLL _ | (focus (simp [goodL, oneA, AV.cells]; done)) | skip))
      | ((with_reducible refine (act_append 1 rfl sl24 sz3 by3 zr3 rfl ?_ ?_ ?_ (fun tk => ?_))); (first | exact goodI _ | exact goodU _ | rfl | exact goodSL _ | exact goodLL _ | (focus (simp [goodL, oneA, AV.cells]; done)) | skip))
      | ((with_reducible refine actC_mk (act_append 2 rfl sl24 sz3 by3 zr3 rfl ?_ ?_ ?_ (fun tk => ?_))); (first | exact goodI _ | exact goodU _ | rfl | exact goodSL _ | exact goodLL _ | (focus (simp [goodL, oneA, AV.cells]; done)) | skip))
      | ((with_reducible refine (act_append 2 rfl sl24 sz3 by3 zr3 rfl ?_ ?_ ?_ (fun tk => ?_))); (first | exact goodI _ | exact goodU _ | rfl | exact goodSL _ | exact goodLL _ | (focus (simp [goodL, oneA, AV.cells]; done)) | skip))
      | ((with_reducible refine actC_mk (act_append 3 rfl sl24 sz3 by3 zr3 rfl ?_ ?_ ?_ (fun tk => ?_))); (first | exact goodI _ | exact goodU _ | rfl | exact goodSL _ | exact goodLL _ | (focus (simp [goodL, oneA, AV.cells]; done)) | skip))
      | ((with_reducible refine (act_append 3 rfl sl24 sz3 by3 zr3 rfl ?_ ?_ ?_ (fun tk => ?_))); (first | exact goodI _ | exact goodU _ | rfl | exact goodSL _ | exact goodLL _ | (focus (simp [goodL, oneA, AV.cells]; done)) | skip))
      | ((with_reducible refine wk_bslice sl24 sz3 zr3 (by decide) (by decide) (by decide) (by decide) rfl ?_ ?_ ?_); (first | exact goodI _ | exact goodU _ | rfl | exact goodSL _ | exact goodLL _ | (focus (simp [goodL, oneA, AV.cells]; done))); (all_goals first | (intro x hx; simp at hx; first | (subst hx; rfl) | (rcases hx with rfl | rfl <;> rfl) | (rcases hx with rfl | rfl | rfl <;> rfl) | (repeat (rcases hx with rfl | hx <;> try rfl))) | skip))
      | (with_reducible refine nilTC_pos (by simp; omega) ?_)
      | (with_reducible refine nilTC_split (fun h => ?_) (fun h bn => ?_) <;> (try simp only [List.length_map] at h))
      | (with_reducible refine grd_cases (fun h => ?_) (fun h => ?_) <;> (try simp only [h]) <;> (try simp only [beq_iff_eq, beq_eq_false_iff_ne, bne_iff_ne, bne_eq_false_iff_eq, decide_eq_true_eq, decide_eq_false_iff_not, Bool.not_eq_true', Bool.not_eq_false', Bool.not_true, Bool.not_false, Bool.not_eq_eq_eq_not, ne_eq, Int.not_lt, Int.not_le, gt_iff_lt, ge_iff_le, Decidable.not_not] at h))
      | (with_reducible refine condC_split (fun h => ?_) (fun h => ?_) <;> (try simp only [h]) <;> (try simp only [beq_iff_eq, beq_eq_false_iff_ne, bne_iff_ne, bne_eq_false_iff_eq, decide_eq_true_eq, decide_eq_false_iff_not, Bool.not_eq_true', Bool.not_eq_false', Bool.not_true, Bool.not_false, Bool.not_eq_eq_eq_not, ne_eq, Int.not_lt, Int.not_le, gt_iff_lt, ge_iff_le, Decidable.not_not] at h))
      | omega | (simp only [List.length_append, List.length_map, List.length_cons, List.length_nil, List.length_drop, List.length_take, List.length_replicate]; omega) | (refine maxLen_ok ?_; (first | omega | (simp only [List.length_append, List.length_map, List.length_cons, List.length_nil, List.length_drop, List.length_take, List.length_replicate]; omega))))
    exact ⟨(k + 1, tk), St_leW (by simp only [List.replicate_succ']; repeat (first | exact trivial | refine ⟨le_rfl, ?_⟩ | refine ⟨le_any, ?_⟩ | refine ⟨le_ro, ?_⟩ | refine ⟨le_nil (by decide), ?_⟩ | refine ⟨le_wrap (by omega) (by omega) (by omega), ?_⟩ | refine ⟨le_int (by omega), ?_⟩ | refine ⟨le_eq (by simp), ?_⟩)) (ResW.refl _) id, by dsimp only; omega, by dsimp only; omega⟩
  · have e : contB d x = List.replicate k 32 ++ x.2 := by unfold contB; rw [show (x.1 - d).toNat = k by omega]
    repeat' (first
      | (with_reducible refine AW_seqA (AW_block ?_)) | (with_reducible refine AW_block ?_) | (with_reducible refine cut_seqloop ?_) | (with_reducible refine cut_loop ?_) | (with_reducible refine AW_seqA (AW_seqA ?_)) | (with_reducible refine AW_seq ?_) | (with_reducible refine AW_runReg ?_) | (with_reducible refine AW_runCond ?_) | (with_reducible refine AW_runExit ?_) | (with_reducible refine AW_runRet ?_) | (with_reducible refine AW_runSkip ?_) | (with_reducible refine AW_runLabel ?_)
      | simp only [WL, intF, strF, List.toList_toArray, List.set_cons_succ, List.set_cons_zero, List.getD_cons_succ, List.getD_cons_zero, List.getElem?_cons_succ, List.getElem?_cons_zero, List.length_cons, List.length_nil, List.replicate_succ, List.replicate_zero, List.cons_append, List.nil_append, List.append_nil, List.map_cons, List.map_nil, Option.bind_some, Option.map_some, Option.map_none, List.drop_succ_cons, List.drop_zero, List.take_succ_cons, List.take_zero, ← List.map_take, ← List.map_drop, List.take_length, Int.reduceToNat, ne_eq, reduceCtorEq, not_false_eq_true, Nat.reduceAdd, Nat.reduceSub, Nat.reduceLT, Nat.reduceLeDiff, Nat.reduceEqDiff, Nat.zero_lt_succ, Bool.not_true, Bool.not_false, beq_self_eq_true, true_and, and_true, Option.isSome_some, Option.isSome_none, reduceIte, Int.toNat_natCast, Bool.false_eq_true, List.length_map, Nat.le_refl, Option.some.injEq, exists_eq_left', Nat.add_right_cancel_iff, List.take_nil, List.drop_nil, T3, T4, T24, T71, fieldAddrC_cp fl71_0, fieldAddrC_raw fl71_0, fieldAddrC_cp fl71_1, fieldAddrC_raw fl71_1, Try.results99]
      | (simp (disch := first | omega | (simp only [List.length_append, List.length_map, List.length_cons, List.length_nil, List.length_drop, List.length_take, List.length_replicate]; omega)) only [wrap_id, getI])
      | (with_reducible refine And.intro (by first | omega | exact ⟨_, rfl⟩ | (focus (simp; done)) | (simp; omega)) ?_)
      | ((with_reducible apply wk_load (ty := 3) (ha := ag3) 0); rfl; rfl)
      | ((with_reducible apply wk_load (ty := 3) (ha := ag3) 1); rfl; rfl)
      | ((with_reducible apply wk_load (ty := 3) (ha := ag3) 2); rfl; rfl)
      | ((with_reducible apply wk_load (ty := 24) (ha := ag24) 0); rfl; rfl)
      | ((with_reducible apply wk_load (ty := 24) (ha := ag24) 1); rfl; rfl)
      | ((with_reducible apply wk_load (ty := 24) (ha := ag24) 2); rfl; rfl)
      | ((with_reducible refine actC_mk ?_); (with_reducible refine act_box ?_ (fun b => ?_)); rfl)
      | ((with_reducible refine actC_mk ?_); (with_reducible refine act_new zr71 ?_ (fun b => ?_)); rfl)
      | ((with_reducible refine actC_mk (act_append_nil (sz := 1) (by decide) ?_)))
      | ((with_reducible refine actC_mk (act_append_src_nil (sz := 1) (by decide) ?_)))
      | ((with_reducible refine actC_mk (act_append 0 rfl sl24 sz3 by3 zr3 rfl ?_ ?_ ?_ (fun tk => ?_))); (first | exact goodI _ | exact goodU _ | rfl | exact goodSL _ | exact goodLL _ | (focus (simp [goodL, oneA, AV.cells]; done)) | skip))
      | ((with_reducible refine (act_append 0 rfl sl24 sz3 by3 zr3 rfl ?_ ?_ ?_ (fun tk => ?_))); (first | exact goodI _ | exact goodU _ | rfl | exact goodSL _ | exact goodLL _ | (focus (simp [goodL, oneA, AV.cells]; done)) | skip))
      | ((with_reducible refine actC_mk (act_append 1 rfl sl24 sz3 by3 zr3 rfl ?_ ?_ ?_ (fun tk => ?_))); (first | exact goodI _ | exact goodU _ | rfl | exact goodSL _ | exact goodLL _ | (focus (simp [goodL, oneA, AV.cells]; done)) | skip))
      | ((with_reducible refine (act_append 1 rfl sl24 sz3 by3 zr3 rfl ?_ ?_ ?_ (fun tk => ?_))); (first | exact goodI _ | exact goodU _ | rfl | exact goodSL _ | exact goodLL _ | (focus (simp [goodL, oneA, AV.cells]; done)) | skip))
      | ((with_reducible refine actC_mk (act_append 2 rfl sl24 sz3 by3 zr3 rfl ?_ ?_ ?_ (fun tk => ?_))); (first | exact goodI _ | exact goodU _ | rfl | exact goodSL _ | exact goodLL _ | (focus (simp [goodL, oneA, AV.cells]; done)) | skip))
      | ((with_reducible refine (act_append 2 rfl sl24 sz3 by3 zr3 rfl ?_ ?_ ?_ (fun tk => ?_))); (first | exact goodI _ | exact goodU _ | rfl | exact goodSL _ | exact goodLL _ | (focus (simp [goodL, oneA, AV.cells]; done)) | skip))
      | ((with_reducible refine actC_mk (act_append 3 rfl sl24 sz3 by3 zr3 rfl ?_ ?_ ?_ (fun tk => ?_))); (first | exact goodI _ | exact goodU _ | rfl | exact goodSL _ | exact goodLL _ | (focus (simp [goodL, oneA, AV.cells]; done)) | skip))
      | ((with_reducible refine (act_append 3 rfl sl24 sz3 by3 zr3 rfl ?_ ?_ ?_ (fun tk => ?_))); (first | exact goodI _ | exact goodU _ | rfl | exact goodSL _ | exact goodLL _ | (focus (simp [goodL, oneA, AV.cells]; done)) | skip))
      | ((with_reducible refine wk_bslice sl24 sz3 zr3 (by decide) (by decide) (by decide) (by decide) rfl ?_ ?_ ?_); (first | exact goodI _ | exact goodU _ | rfl | exact goodSL _ | exact goodLL _ | (focus (simp [goodL, oneA, AV.cells]; done))); (all_goals first | (intro x hx; simp at hx; first | (subst hx; rfl) | (rcases hx with rfl | rfl <;> rfl) | (rcases hx with rfl | rfl | rfl <;> rfl) | (repeat (rcases hx with rfl | hx <;> try rfl))) | skip))
      | (with_reducible refine nilTC_pos (by simp; omega) ?_)
      | (with_reducible refine nilTC_split (fun h => ?_) (fun h bn => ?_) <;> (try simp only [List.length_map] at h))
      | (with_reducible refine grd_cases (fun h => ?_) (fun h => ?_) <;> (try simp only [h]) <;> (try simp only [beq_iff_eq, beq_eq_false_iff_ne, bne_iff_ne, bne_eq_false_iff_eq, decide_eq_true_eq, decide_eq_false_iff_not, Bool.not_eq_true', Bool.not_eq_false', Bool.not_true, Bool.not_false, Bool.not_eq_eq_eq_not, ne_eq, Int.not_lt, Int.not_le, gt_iff_lt, ge_iff_le, Decidable.not_not] at h))
      | (with_reducible refine condC_split (fun h => ?_) (fun h => ?_) <;> (try simp only [h]) <;> (try simp only [beq_iff_eq, beq_eq_false_iff_ne, bne_iff_ne, bne_eq_false_iff_eq, decide_eq_true_eq, decide_eq_false_iff_not, Bool.not_eq_true', Bool.not_eq_false', Bool.not_true, Bool.not_false, Bool.not_eq_eq_eq_not, ne_eq, Int.not_lt, Int.not_le, gt_iff_lt, ge_iff_le, Decidable.not_not] at h))
      | omega | (simp only [List.length_append, List.length_map, List.length_cons, List.length_nil, List.length_drop, List.length_take, List.length_replicate]; omega) | (refine maxLen_ok ?_; (first | omega | (simp only [List.length_append, List.length_map, List.length_cons, List.length_nil, List.length_drop, List.length_take, List.length_replicate]; omega))))
    exact leafL (sub_cons (sub_cons sub_rfl)) (leT_le (by rw [e]; simp only [SI, List.map_append]; exact le_ro)) hK
end Go.Proofs.Ytaeacialcbahnaa
