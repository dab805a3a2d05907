/-
  Walks: chapter 7, double quotes: lines that are folded, and read.
-/
import Derived.Test.YthnlcdcfbgfncaaDb
namespace Go.Proofs.Ythnlcdcfbgfncaa
open Go.Abs
set_option linter.unusedVariables false
set_option linter.unusedSimpArgs false
-- hb: 8000000
variable {κ : Ctx} {σ : List Res} {K : Ret → List Res → Prop} {o o' : Option (Option (Nat × Nat))}

-- double.folded
set_option maxHeartbeats 8000000 in
theorem dFolded {l : List (List (Int × Bool) × Bool)} (hl : totG l ≤ 1000000000) (hK : K (.ret (SI none (foldD l))) σ) : ACallF κ Try.prog 65 [LLA o l] σ K := by
  have hlen := totG_len l
  have hfl := foldD_len l
  refine ACallF.dropL (ACallF_introA Try.func65 rfl ?_)
  simp only [Try.ntmps65]
  repeat' (first
    | (with_reducible refine AW_seqA (AW_block ?_)) | (with_reducible refine AW_block ?_) | (with_reducible refine cut_seqloop ?_) | (with_reducible refine cut_loop ?_) | (with_reducible refine AW_seqA (AW_seqA ?_)) | (with_reducible refine AW_seq ?_) | (with_reducible refine AW_run ?_)
    | simp only [WL, intF, strF, List.toList_toArray, List.set_cons_succ, List.set_cons_zero, List.getD_cons_succ, List.getD_cons_zero, List.getElem?_cons_succ, List.getElem?_cons_zero, List.length_cons, List.length_nil, List.replicate_succ, List.replicate_zero, List.cons_append, List.nil_append, List.append_nil, List.map_cons, List.map_nil, Option.bind_some, Option.map_some, Option.map_none, List.drop_succ_cons, List.drop_zero, List.take_succ_cons, List.take_zero, ← List.map_take, ← List.map_drop, List.take_length, Int.reduceToNat, ne_eq, reduceCtorEq, not_false_eq_true, Nat.reduceAdd, Nat.reduceSub, Nat.reduceLT, Nat.reduceLeDiff, Nat.reduceEqDiff, Nat.zero_lt_succ, Bool.not_true, Bool.not_false, beq_self_eq_true, true_and, and_true, Option.isSome_some, Option.isSome_none, reduceIte, Int.toNat_natCast, Bool.false_eq_true, List.length_map, Nat.le_refl, Option.some.injEq, exists_eq_left', Nat.add_right_cancel_iff, List.take_nil, List.drop_nil, T3, T4, T24, T96, T97, T99, T128, fieldAddrC_cp fl99_0, fieldAddrC_raw fl99_0, fieldAddrC_cp fl99_1, fieldAddrC_raw fl99_1, fieldAddrC_cp fl128_0, fieldAddrC_raw fl128_0, cok107, cok108, Try.results65]
    | (simp (disch := first | omega | (simp only [List.length_append, List.length_map, List.length_cons, List.length_nil, List.length_drop, List.length_take, List.length_replicate]; omega)) only [wrap_id, getI])
    | (with_reducible refine And.intro (by first | omega | exact ⟨_, rfl⟩ | (focus (simp; done)) | (simp; omega)) ?_)
    | ((with_reducible apply wk_load (ty := 3) (ha := ag3) 0); rfl; rfl)
    | ((with_reducible apply wk_load (ty := 3) (ha := ag3) 1); rfl; rfl)
    | ((with_reducible apply wk_load (ty := 4) (ha := ag4) 0); rfl; rfl)
    | ((with_reducible apply wk_load (ty := 4) (ha := ag4) 1); rfl; rfl)
    | ((with_reducible apply wk_load (ty := 97) (ha := ag97) 0); rfl; rfl)
    | ((with_reducible apply wk_load (ty := 97) (ha := ag97) 1); rfl; rfl)
    | ((with_reducible apply wk_load_agg (ty := 99) (ha := ag99) (hs := sz99) 0); rfl; (first | decide | (focus (simp; done)) | omega))
    | ((with_reducible apply wk_load_agg (ty := 99) (ha := ag99) (hs := sz99) 1); rfl; (first | decide | (focus (simp; done)) | omega))
    | ((with_reducible apply wk_load_agg (ty := 128) (ha := ag128) (hs := sz128) 0); rfl; (first | decide | (focus (simp; done)) | omega))
    | ((with_reducible apply wk_load_agg (ty := 128) (ha := ag128) (hs := sz128) 1); rfl; (first | decide | (focus (simp; done)) | omega))
    | ((with_reducible refine storeC_mk ?_); first | ((with_reducible apply act_store_agg (t := 99) (hs := sz99) 0); rfl; (first | decide | (focus (simp; done)) | omega); rfl) | ((with_reducible apply act_store_agg (t := 99) (hs := sz99) 1); rfl; (first | decide | (focus (simp; done)) | omega); rfl) | ((with_reducible apply act_store_agg (t := 128) (hs := sz128) 0); rfl; (first | decide | (focus (simp; done)) | omega); rfl) | ((with_reducible apply act_store_agg (t := 128) (hs := sz128) 1); rfl; (first | decide | (focus (simp; done)) | omega); rfl))
    | ((with_reducible refine actC_mk ?_); (with_reducible refine act_box ?_ (fun b => ?_)); rfl)
    | ((with_reducible refine actC_mk ?_); (with_reducible refine act_new zr99 ?_ (fun b => ?_)); rfl)
    | ((with_reducible refine actC_mk ?_); (with_reducible refine act_new zr128 ?_ (fun b => ?_)); rfl)
    | ((with_reducible refine actC_mk (act_append_nil (sz := 1) (by decide) ?_)))
    | ((with_reducible refine actC_mk (act_append_src_nil (sz := 1) (by decide) ?_)))
    | ((with_reducible refine actC_mk (act_append 0 rfl sl24 sz3 by3 zr3 rfl ?_ ?_ ?_ (fun tk => ?_))); (first | exact goodI _ | exact goodU _ | rfl | exact goodSL _ | exact goodLL _ | (focus (simp [goodL, oneA, AV.cells]; done)) | skip))
    | ((with_reducible refine (act_append 0 rfl sl24 sz3 by3 zr3 rfl ?_ ?_ ?_ (fun tk => ?_))); (first | exact goodI _ | exact goodU _ | rfl | exact goodSL _ | exact goodLL _ | (focus (simp [goodL, oneA, AV.cells]; done)) | skip))
    | ((with_reducible refine actC_mk (act_append 1 rfl sl24 sz3 by3 zr3 rfl ?_ ?_ ?_ (fun tk => ?_))); (first | exact goodI _ | exact goodU _ | rfl | exact goodSL _ | exact goodLL _ | (focus (simp [goodL, oneA, AV.cells]; done)) | skip))
    | ((with_reducible refine (act_append 1 rfl sl24 sz3 by3 zr3 rfl ?_ ?_ ?_ (fun tk => ?_))); (first | exact goodI _ | exact goodU _ | rfl | exact goodSL _ | exact goodLL _ | (focus (simp [goodL, oneA, AV.cells]; done)) | skip))
    | ((with_reducible refine actC_mk (act_append 2 rfl sl24 sz3 by3 zr3 rfl ?_ ?_ ?_ (fun tk => ?_))); (first | exact goodI _ | exact goodU _ | rfl | exact goodSL _ | exact goodLL _ | (focus (simp [goodL, oneA, AV.cells]; done)) | skip))
    | ((with_reducible refine (act_append 2 rfl sl24 sz3 by3 zr3 rfl ?_ ?_ ?_ (fun tk => ?_))); (first | exact goodI _ | exact goodU _ | rfl | exact goodSL _ | exact goodLL _ | (focus (simp [goodL, oneA, AV.cells]; done)) | skip))
    | ((with_reducible refine wk_bslice sl24 sz3 zr3 (by decide) (by decide) (by decide) (by decide) rfl ?_ ?_ ?_); (first | exact goodI _ | exact goodU _ | rfl | exact goodSL _ | exact goodLL _ | (focus (simp [goodL, oneA, AV.cells]; done))); (all_goals first | (intro x hx; simp at hx; first | (subst hx; rfl) | (rcases hx with rfl | rfl <;> rfl) | (rcases hx with rfl | rfl | rfl <;> rfl) | (repeat (rcases hx with rfl | hx <;> try rfl))) | skip))
    | (with_reducible refine callD_mk (dFront ?_ (fun of => ?_)))
    | (with_reducible refine callD_mk (dBack ?_ (fun of => ?_)))
    | (with_reducible refine nilTC_pos (by simp; omega) ?_)
    | (with_reducible refine nilTC_split (fun h => ?_) (fun h bn => ?_) <;> (try simp only [List.length_map] at h))
    | (with_reducible refine grd_cases (fun h => ?_) (fun h => ?_) <;> (try simp only [h]) <;> (try simp only [beq_iff_eq, beq_eq_false_iff_ne, bne_iff_ne, bne_eq_false_iff_eq, decide_eq_true_eq, decide_eq_false_iff_not, Bool.not_eq_true', Bool.not_eq_false', Bool.not_true, Bool.not_false, Bool.not_eq_eq_eq_not, ne_eq, Int.not_lt, Int.not_le, gt_iff_lt, ge_iff_le, Decidable.not_not] at h))
    | (with_reducible refine condC_split (fun h => ?_) (fun h => ?_) <;> (try simp only [h]) <;> (try simp only [beq_iff_eq, beq_eq_false_iff_ne, bne_iff_ne, bne_eq_false_iff_eq, decide_eq_true_eq, decide_eq_false_iff_not, Bool.not_eq_true', Bool.not_eq_false', Bool.not_true, Bool.not_false, Bool.not_eq_eq_eq_not, ne_eq, Int.not_lt, Int.not_le, gt_iff_lt, ge_iff_le, Decidable.not_not] at h))
    | omega | (simp only [List.length_append, List.length_map, List.length_cons, List.length_nil, List.length_drop, List.length_take, List.length_replicate]; omega) | (refine maxLen_ok ?_; (first | omega | (simp only [List.length_append, List.length_map, List.length_cons, List.length_nil, List.length_drop, List.length_take, List.length_replicate]; omega))))
  refine loopA (fun x : Nat × List Int × Nat × Bool × Option (Nat × Nat) => ⟨(LLA o l :: .any :: .any :: SI (some x.2.2.2.2) x.2.1 :: I x.2.2.1 :: B x.2.2.2.1 :: .any :: .any :: .any :: .any :: LLA o l :: I l.length :: I x.1 :: .any :: .any :: .any :: .any :: .any :: .any :: .any :: .any :: .any :: .any :: .any :: .any :: .any :: .any :: .any :: .any :: .any :: .any :: .any :: .any :: .any :: .any :: .any :: .any :: .any :: .any :: .any :: .any :: .any :: .any :: .any :: .any :: .any :: .any :: .any :: .any :: .any :: .any :: .any :: .any :: .any :: .any :: .any :: .any :: .any :: .any :: .any :: .any :: .any :: .any :: .any :: .any :: .any :: .any :: .any :: .any :: .any :: .any :: .any :: .any :: .any :: .any :: .any :: .any :: .any :: .any :: .any :: []), .tip x.2.2.2.2 :: σ, true, []⟩)
    (fun x => x.1 ≤ l.length ∧ foldD l = x.2.1 ++ foldG l.length x.1 x.2.2.2.1 x.2.2.1 (l.drop x.1) ∧ x.2.2.1 ≤ x.1 ∧ (x.2.2.2.1 = true → x.2.2.1 = 0)) (fun x => l.length - x.1) (0, [], 0, true, none) (St_leW (by repeat (first | exact trivial | refine ⟨le_rfl, ?_⟩ | refine ⟨le_any, ?_⟩ | refine ⟨le_ro, ?_⟩ | refine ⟨le_nil (by decide), ?_⟩ | refine ⟨le_wrap (by omega) (by omega) (by omega), ?_⟩ | refine ⟨le_int (by omega), ?_⟩ | refine ⟨le_eq (by simp), ?_⟩)) ResW.void id) ⟨Nat.zero_le _, rfl, Nat.le_refl _, fun _ => rfl⟩ ?_
  rintro ⟨i, out, e, j, tk⟩ hx
  dsimp only at hx ⊢
  have h1 := hx.1
  have h2 := hx.2.1
  have h3 := hx.2.2.1
  have h4 := hx.2.2.2
  have ol : out.length ≤ totG l := by have := congrArg List.length h2; simp only [List.length_append] at this; omega
  have tl := trimG_le i l.length (l.getD i ([], false))
  have tf := frontG_le (decide (0 < i)) (l.getD i ([], false)).1
  have tg := totG_get (l := l) i
  repeat' (first
    | (with_reducible refine cut_at (id := 7) ?_) | (with_reducible refine cut_unit (id := 7) ?_) | (with_reducible refine cut_one (id := 7) ?_)
    | (with_reducible refine AW_seqA (AW_block ?_)) | (with_reducible refine AW_block ?_) | (with_reducible refine cut_seqloop ?_) | (with_reducible refine cut_loop ?_) | (with_reducible refine AW_seqA (AW_seqA ?_)) | (with_reducible refine AW_seq ?_) | (with_reducible refine AW_run ?_)
    | simp only [WL, intF, strF, List.toList_toArray, List.set_cons_succ, List.set_cons_zero, List.getD_cons_succ, List.getD_cons_zero, List.getElem?_cons_succ, List.getElem?_cons_zero, List.length_cons, List.length_nil, List.replicate_succ, List.replicate_zero, List.cons_append, List.nil_append, List.append_nil, List.map_cons, List.map_nil, Option.bind_some, Option.map_some, Option.map_none, List.drop_succ_cons, List.drop_zero, List.take_succ_cons, List.take_zero, ← List.map_take, ← List.map_drop, List.take_length, Int.reduceToNat, ne_eq, reduceCtorEq, not_false_eq_true, Nat.reduceAdd, Nat.reduceSub, Nat.reduceLT, Nat.reduceLeDiff, Nat.reduceEqDiff, Nat.zero_lt_succ, Bool.not_true, Bool.not_false, beq_self_eq_true, true_and, and_true, Option.isSome_some, Option.isSome_none, reduceIte, Int.toNat_natCast, Bool.false_eq_true, List.length_map, Nat.le_refl, Option.some.injEq, exists_eq_left', Nat.add_right_cancel_iff, List.take_nil, List.drop_nil, T3, T4, T24, T96, T97, T99, T128, fieldAddrC_cp fl99_0, fieldAddrC_raw fl99_0, fieldAddrC_cp fl99_1, fieldAddrC_raw fl99_1, fieldAddrC_cp fl128_0, fieldAddrC_raw fl128_0, cok107, cok108, Try.results65]
    | (simp (disch := first | omega | (simp only [List.length_append, List.length_map, List.length_cons, List.length_nil, List.length_drop, List.length_take, List.length_replicate]; omega)) only [wrap_id, getI, getLNA])
    | (with_reducible refine And.intro (by first | omega | exact ⟨_, rfl⟩ | (focus (simp; done)) | (simp; omega)) ?_)
    | ((with_reducible apply wk_load (ty := 3) (ha := ag3) 0); rfl; rfl)
    | ((with_reducible apply wk_load (ty := 3) (ha := ag3) 1); rfl; rfl)
    | ((with_reducible apply wk_load (ty := 4) (ha := ag4) 0); rfl; rfl)
    | ((with_reducible apply wk_load (ty := 4) (ha := ag4) 1); rfl; rfl)
    | ((with_reducible apply wk_load (ty := 97) (ha := ag97) 0); rfl; rfl)
    | ((with_reducible apply wk_load (ty := 97) (ha := ag97) 1); rfl; rfl)
    | ((with_reducible apply wk_load_agg (ty := 99) (ha := ag99) (hs := sz99) 0); rfl; (first | decide | (focus (simp; done)) | omega))
    | ((with_reducible apply wk_load_agg (ty := 99) (ha := ag99) (hs := sz99) 1); rfl; (first | decide | (focus (simp; done)) | omega))
    | ((with_reducible apply wk_load_agg (ty := 128) (ha := ag128) (hs := sz128) 0); rfl; (first | decide | (focus (simp; done)) | omega))
    | ((with_reducible apply wk_load_agg (ty := 128) (ha := ag128) (hs := sz128) 1); rfl; (first | decide | (focus (simp; done)) | omega))
    | ((with_reducible refine storeC_mk ?_); first | ((with_reducible apply act_store_agg (t := 99) (hs := sz99) 0); rfl; (first | decide | (focus (simp; done)) | omega); rfl) | ((with_reducible apply act_store_agg (t := 99) (hs := sz99) 1); rfl; (first | decide | (focus (simp; done)) | omega); rfl) | ((with_reducible apply act_store_agg (t := 128) (hs := sz128) 0); rfl; (first | decide | (focus (simp; done)) | omega); rfl) | ((with_reducible apply act_store_agg (t := 128) (hs := sz128) 1); rfl; (first | decide | (focus (simp; done)) | omega); rfl))
    | ((with_reducible refine actC_mk ?_); (with_reducible refine act_box ?_ (fun b => ?_)); rfl)
    | ((with_reducible refine actC_mk ?_); (with_reducible refine act_new zr99 ?_ (fun b => ?_)); rfl)
    | ((with_reducible refine actC_mk ?_); (with_reducible refine act_new zr128 ?_ (fun b => ?_)); rfl)
    | ((with_reducible refine actC_mk (act_append_nil (sz := 1) (by decide) ?_)))
    | ((with_reducible refine actC_mk (act_append_src_nil (sz := 1) (by decide) ?_)))
    | ((with_reducible refine actC_mk (act_append 0 rfl sl24 sz3 by3 zr3 rfl ?_ ?_ ?_ (fun tk => ?_))); (first | exact goodI _ | exact goodU _ | rfl | exact goodSL _ | exact goodLL _ | (focus (simp [goodL, oneA, AV.cells]; done)) | skip))
    | ((with_reducible refine (act_append 0 rfl sl24 sz3 by3 zr3 rfl ?_ ?_ ?_ (fun tk => ?_))); (first | exact goodI _ | exact goodU _ | rfl | exact goodSL _ | exact goodLL _ | (focus (simp [goodL, oneA, AV.cells]; done)) | skip))
    | ((with_reducible refine actC_mk (act_append 1 rfl sl24 sz3 by3 zr3 rfl ?_ ?_ ?_ (fun tk => ?_))); (first | exact goodI _ | exact goodU _ | rfl | exact goodSL _ | exact goodLL _ | (focus (simp [goodL, oneA, AV.cells]; done)) | skip))
    | ((with_reducible refine (act_append 1 rfl sl24 sz3 by3 zr3 rfl ?_ ?_ ?_ (fun tk => ?_))); (first | exact goodI _ | exact goodU _ | rfl | exact goodSL _ | exact goodLL _ | (focus (simp [goodL, oneA, AV.cells]; done)) | skip))
    | ((with_reducible refine actC_mk (act_append 2 rfl sl24 sz3 by3 zr3 rfl ?_ ?_ ?_ (fun tk => ?_))); (first | exact goodI _ | exact goodU _ | rfl | exact goodSL _ | exact goodLL _ | (focus (simp [goodL, oneA, AV.cells]; done)) | skip))
    | ((with_reducible refine (act_append 2 rfl sl24 sz3 by3 zr3 rfl ?_ ?_ ?_ (fun tk => ?_))); (first | exact goodI _ | exact goodU _ | rfl | exact goodSL _ | exact goodLL _ | (focus (simp [goodL, oneA, AV.cells]; done)) | skip))
    | ((with_reducible refine wk_bslice sl24 sz3 zr3 (by decide) (by decide) (by decide) (by decide) rfl ?_ ?_ ?_); (first | exact goodI _ | exact goodU _ | rfl | exact goodSL _ | exact goodLL _ | (focus (simp [goodL, oneA, AV.cells]; done))); (all_goals first | (intro x hx; simp at hx; first | (subst hx; rfl) | (rcases hx with rfl | rfl <;> rfl) | (rcases hx with rfl | rfl | rfl <;> rfl) | (repeat (rcases hx with rfl | hx <;> try rfl))) | skip))
    | (with_reducible refine callD_mk (dFront ?_ (fun of => ?_)))
    | (with_reducible refine callD_mk (dBack ?_ (fun of => ?_)))
    | (with_reducible refine nilTC_pos (by simp; omega) ?_)
    | (with_reducible refine nilTC_split (fun h => ?_) (fun h bn => ?_) <;> (try simp only [List.length_map] at h))
    | (with_reducible refine grd_cases (fun h => ?_) (fun h => ?_) <;> (try simp only [h]) <;> (try simp only [beq_iff_eq, beq_eq_false_iff_ne, bne_iff_ne, bne_eq_false_iff_eq, decide_eq_true_eq, decide_eq_false_iff_not, Bool.not_eq_true', Bool.not_eq_false', Bool.not_true, Bool.not_false, Bool.not_eq_eq_eq_not, ne_eq, Int.not_lt, Int.not_le, gt_iff_lt, ge_iff_le, Decidable.not_not] at h))
    | (with_reducible refine condC_split (fun h => ?_) (fun h => ?_) <;> (try simp only [h]) <;> (try simp only [beq_iff_eq, beq_eq_false_iff_ne, bne_iff_ne, bne_eq_false_iff_eq, decide_eq_true_eq, decide_eq_false_iff_not, Bool.not_eq_true', Bool.not_eq_false', Bool.not_true, Bool.not_false, Bool.not_eq_eq_eq_not, ne_eq, Int.not_lt, Int.not_le, gt_iff_lt, ge_iff_le, Decidable.not_not] at h))
    | omega | (simp only [List.length_append, List.length_map, List.length_cons, List.length_nil, List.length_drop, List.length_take, List.length_replicate]; omega) | (refine maxLen_ok ?_; (first | omega | (simp only [List.length_append, List.length_map, List.length_cons, List.length_nil, List.length_drop, List.length_take, List.length_replicate]; omega))))
  · refine midA (fun of : Option (Option (Nat × Nat)) => ⟨(LLA o l :: .any :: .any :: SI (some tk) out :: I e :: B j :: I i :: .raw (.pointer (some ⟨b, 0, none⟩)) :: .any :: .any :: LLA o l :: I l.length :: I i :: .any :: .any :: .any :: .any :: .any :: .any :: .any :: .any :: .any :: .any :: .any :: .any :: .any :: .any :: .any :: .any :: .any :: .any :: .any :: .any :: .any :: .any :: .any :: .any :: .any :: .any :: .any :: .any :: .any :: .any :: .any :: .any :: .any :: .any :: .any :: .any :: .any :: .any :: .any :: .any :: .any :: .any :: .any :: .any :: .any :: .any :: .any :: .any :: .any :: .any :: .any :: .any :: .any :: .any :: .any :: .any :: .any :: .any :: .any :: .any :: .any :: .any :: .any :: .any :: .any :: .any :: .any :: []), .obj b [SG of (frontG (decide (0 < i)) (l.getD i ([], false)).1), B (l.getD i ([], false)).2] :: .tip tk :: σ, true, []⟩) (fun _ => True) ?_ ?_
    ·
      repeat' (first
        | (with_reducible refine AW_seqA (AW_block ?_)) | (with_reducible refine AW_block ?_) | (with_reducible refine cut_seqloop ?_) | (with_reducible refine cut_loop ?_) | (with_reducible refine AW_seqA (AW_seqA ?_)) | (with_reducible refine AW_seq ?_) | (with_reducible refine AW_run ?_)
        | simp only [WL, intF, strF, List.toList_toArray, List.set_cons_succ, List.set_cons_zero, List.getD_cons_succ, List.getD_cons_zero, List.getElem?_cons_succ, List.getElem?_cons_zero, List.length_cons, List.length_nil, List.replicate_succ, List.replicate_zero, List.cons_append, List.nil_append, List.append_nil, List.map_cons, List.map_nil, Option.bind_some, Option.map_some, Option.map_none, List.drop_succ_cons, List.drop_zero, List.take_succ_cons, List.take_zero, ← List.map_take, ← List.map_drop, List.take_length, Int.reduceToNat, ne_eq, reduceCtorEq, not_false_eq_true, Nat.reduceAdd, Nat.reduceSub, Nat.reduceLT, Nat.reduceLeDiff, Nat.reduceEqDiff, Nat.zero_lt_succ, Bool.not_true, Bool.not_false, beq_self_eq_true, true_and, and_true, Option.isSome_some, Option.isSome_none, reduceIte, Int.toNat_natCast, Bool.false_eq_true, List.length_map, Nat.le_refl, Option.some.injEq, exists_eq_left', Nat.add_right_cancel_iff, List.take_nil, List.drop_nil, T3, T4, T24, T96, T97, T99, T128, fieldAddrC_cp fl99_0, fieldAddrC_raw fl99_0, fieldAddrC_cp fl99_1, fieldAddrC_raw fl99_1, fieldAddrC_cp fl128_0, fieldAddrC_raw fl128_0, cok107, cok108, Try.results65]
        | (simp (disch := first | omega | (simp only [List.length_append, List.length_map, List.length_cons, List.length_nil, List.length_drop, List.length_take, List.length_replicate]; omega)) only [wrap_id, getI])
        | (with_reducible refine And.intro (by first | omega | exact ⟨_, rfl⟩ | (focus (simp; done)) | (simp; omega)) ?_)
        | ((with_reducible apply wk_load (ty := 3) (ha := ag3) 0); rfl; rfl)
        | ((with_reducible apply wk_load (ty := 3) (ha := ag3) 1); rfl; rfl)
        | ((with_reducible apply wk_load (ty := 4) (ha := ag4) 0); rfl; rfl)
        | ((with_reducible apply wk_load (ty := 4) (ha := ag4) 1); rfl; rfl)
        | ((with_reducible apply wk_load (ty := 97) (ha := ag97) 0); rfl; rfl)
        | ((with_reducible apply wk_load (ty := 97) (ha := ag97) 1); rfl; rfl)
        | ((with_reducible apply wk_load_agg (ty := 99) (ha := ag99) (hs := sz99) 0); rfl; (first | decide | (focus (simp; done)) | omega))
        | ((with_reducible apply wk_load_agg (ty := 99) (ha := ag99) (hs := sz99) 1); rfl; (first | decide | (focus (simp; done)) | omega))
        | ((with_reducible apply wk_load_agg (ty := 128) (ha := ag128) (hs := sz128) 0); rfl; (first | decide | (focus (simp; done)) | omega))
        | ((with_reducible apply wk_load_agg (ty := 128) (ha := ag128) (hs := sz128) 1); rfl; (first | decide | (focus (simp; done)) | omega))
        | ((with_reducible refine storeC_mk ?_); first | ((with_reducible apply act_store_agg (t := 99) (hs := sz99) 0); rfl; (first | decide | (focus (simp; done)) | omega); rfl) | ((with_reducible apply act_store_agg (t := 99) (hs := sz99) 1); rfl; (first | decide | (focus (simp; done)) | omega); rfl) | ((with_reducible apply act_store_agg (t := 128) (hs := sz128) 0); rfl; (first | decide | (focus (simp; done)) | omega); rfl) | ((with_reducible apply act_store_agg (t := 128) (hs := sz128) 1); rfl; (first | decide | (focus (simp; done)) | omega); rfl))
        | ((with_reducible refine actC_mk ?_); (with_reducible refine act_box ?_ (fun b => ?_)); rfl)
        | ((with_reducible refine actC_mk ?_); (with_reducible refine act_new zr99 ?_ (fun b => ?_)); rfl)
        | ((with_reducible refine actC_mk ?_); (with_reducible refine act_new zr128 ?_ (fun b => ?_)); rfl)
        | ((with_reducible refine actC_mk (act_append_nil (sz := 1) (by decide) ?_)))
        | ((with_reducible refine actC_mk (act_append_src_nil (sz := 1) (by decide) ?_)))
        | ((with_reducible refine actC_mk (act_append 0 rfl sl24 sz3 by3 zr3 rfl ?_ ?_ ?_ (fun tk => ?_))); (first | exact goodI _ | exact goodU _ | rfl | exact goodSL _ | exact goodLL _ | (focus (simp [goodL, oneA, AV.cells]; done)) | skip))
        | ((with_reducible refine (act_append 0 rfl sl24 sz3 by3 zr3 rfl ?_ ?_ ?_ (fun tk => ?_))); (first | exact goodI _ | exact goodU _ | rfl | exact goodSL _ | exact goodLL _ | (focus (simp [goodL, oneA, AV.cells]; done)) | skip))
        | ((with_reducible refine actC_mk (act_append 1 rfl sl24 sz3 by3 zr3 rfl ?_ ?_ ?_ (fun tk => ?_))); (first | exact goodI _ | exact goodU _ | rfl | exact goodSL _ | exact goodLL _ | (focus (simp [goodL, oneA, AV.cells]; done)) | skip))
        | ((with_reducible refine (act_append 1 rfl sl24 sz3 by3 zr3 rfl ?_ ?_ ?_ (fun tk => ?_))); (first | exact goodI _ | exact goodU _ | rfl | exact goodSL _ | exact goodLL _ | (focus (simp [goodL, oneA, AV.cells]; done)) | skip))
        | ((with_reducible refine actC_mk (act_append 2 rfl sl24 sz3 by3 zr3 rfl ?_ ?_ ?_ (fun tk => ?_))); (first | exact goodI _ | exact goodU _ | rfl | exact goodSL _ | exact goodLL _ | (focus (simp [goodL, oneA, AV.cells]; done)) | skip))
        | ((with_reducible refine (act_append 2 rfl sl24 sz3 by3 zr3 rfl ?_ ?_ ?_ (fun tk => ?_))); (first | exact goodI _ | exact goodU _ | rfl | exact goodSL _ | exact goodLL _ | (focus (simp [goodL, oneA, AV.cells]; done)) | skip))
        | ((with_reducible refine wk_bslice sl24 sz3 zr3 (by decide) (by decide) (by decide) (by decide) rfl ?_ ?_ ?_); (first | exact goodI _ | exact goodU _ | rfl | exact goodSL _ | exact goodLL _ | (focus (simp [goodL, oneA, AV.cells]; done))); (all_goals first | (intro x hx; simp at hx; first | (subst hx; rfl) | (rcases hx with rfl | rfl <;> rfl) | (rcases hx with rfl | rfl | rfl <;> rfl) | (repeat (rcases hx with rfl | hx <;> try rfl))) | skip))
        | (with_reducible refine callD_mk (dFront ?_ (fun of => ?_)))
        | (with_reducible refine callD_mk (dBack ?_ (fun of => ?_)))
        | (with_reducible refine nilTC_pos (by simp; omega) ?_)
        | (with_reducible refine nilTC_split (fun h => ?_) (fun h bn => ?_) <;> (try simp only [List.length_map] at h))
        | (with_reducible refine grd_cases (fun h => ?_) (fun h => ?_) <;> (try simp only [h]) <;> (try simp only [beq_iff_eq, beq_eq_false_iff_ne, bne_iff_ne, bne_eq_false_iff_eq, decide_eq_true_eq, decide_eq_false_iff_not, Bool.not_eq_true', Bool.not_eq_false', Bool.not_true, Bool.not_false, Bool.not_eq_eq_eq_not, ne_eq, Int.not_lt, Int.not_le, gt_iff_lt, ge_iff_le, Decidable.not_not] at h))
        | (with_reducible refine condC_split (fun h => ?_) (fun h => ?_) <;> (try simp only [h]) <;> (try simp only [beq_iff_eq, beq_eq_false_iff_ne, bne_iff_ne, bne_eq_false_iff_eq, decide_eq_true_eq, decide_eq_false_iff_not, Bool.not_eq_true', Bool.not_eq_false', Bool.not_true, Bool.not_false, Bool.not_eq_eq_eq_not, ne_eq, Int.not_lt, Int.not_le, gt_iff_lt, ge_iff_le, Decidable.not_not] at h))
        | omega | (simp only [List.length_append, List.length_map, List.length_cons, List.length_nil, List.length_drop, List.length_take, List.length_replicate]; omega) | (refine maxLen_ok ?_; (first | omega | (simp only [List.length_append, List.length_map, List.length_cons, List.length_nil, List.length_drop, List.length_take, List.length_replicate]; omega))))
      · exact ⟨of, St_leW (by repeat (first | exact trivial | refine ⟨le_rfl, ?_⟩ | refine ⟨le_any, ?_⟩ | refine ⟨le_ro, ?_⟩ | refine ⟨le_nil (by decide), ?_⟩ | refine ⟨le_wrap (by omega) (by omega) (by omega), ?_⟩ | refine ⟨le_int (by omega), ?_⟩ | refine ⟨le_eq (by simp), ?_⟩)) (ResW.of_eq (by simp [frontG, show 0 < i by omega])) id⟩
      · exact ⟨none, St_leW (by repeat (first | exact trivial | refine ⟨le_rfl, ?_⟩ | refine ⟨le_any, ?_⟩ | refine ⟨le_ro, ?_⟩ | refine ⟨le_nil (by decide), ?_⟩ | refine ⟨le_wrap (by omega) (by omega) (by omega), ?_⟩ | refine ⟨le_int (by omega), ?_⟩ | refine ⟨le_eq (by simp), ?_⟩)) (ResW.of_eq (by simp [frontG, show ¬ 0 < i by omega])) id⟩
    · intro of _
      refine midA (fun of : Option (Option (Nat × Nat)) => ⟨(LLA o l :: .any :: .any :: SI (some tk) out :: I e :: B j :: I i :: .raw (.pointer (some ⟨b, 0, none⟩)) :: .any :: .any :: LLA o l :: I l.length :: I i :: .any :: .any :: .any :: .any :: .any :: .any :: .any :: .any :: .any :: .any :: .any :: .any :: .any :: .any :: .any :: .any :: .any :: .any :: .any :: .any :: .any :: .any :: .any :: .any :: .any :: .any :: .any :: .any :: .any :: .any :: .any :: .any :: .any :: .any :: .any :: .any :: .any :: .any :: .any :: .any :: .any :: .any :: .any :: .any :: .any :: .any :: .any :: .any :: .any :: .any :: .any :: .any :: .any :: .any :: .any :: .any :: .any :: .any :: .any :: .any :: .any :: .any :: .any :: .any :: .any :: .any :: .any :: []), .obj b [SG of (trimG i l.length (l.getD i ([], false))), B (l.getD i ([], false)).2] :: .tip tk :: σ, true, []⟩) (fun _ => True) ?_ ?_
      ·
        repeat' (first
          | (with_reducible refine AW_seqA (AW_block ?_)) | (with_reducible refine AW_block ?_) | (with_reducible refine cut_seqloop ?_) | (with_reducible refine cut_loop ?_) | (with_reducible refine AW_seqA (AW_seqA ?_)) | (with_reducible refine AW_seq ?_) | (with_reducible refine AW_run ?_)
          | simp only [WL, intF, strF, List.toList_toArray, List.set_cons_succ, List.set_cons_zero, List.getD_cons_succ, List.getD_cons_zero, List.getElem?_cons_succ, List.getElem?_cons_zero, List.length_cons, List.length_nil, List.replicate_succ, List.replicate_zero, List.cons_append, List.nil_append, List.append_nil, List.map_cons, List.map_nil, Option.bind_some, Option.map_some, Option.map_none, List.drop_succ_cons, List.drop_zero, List.take_succ_cons, List.take_zero, ← List.map_take, ← List.map_drop, List.take_length, Int.reduceToNat, ne_eq, reduceCtorEq, not_false_eq_true, Nat.reduceAdd, Nat.reduceSub, Nat.reduceLT, Nat.reduceLeDiff, Nat.reduceEqDiff, Nat.zero_lt_succ, Bool.not_true, Bool.not_false, beq_self_eq_true, true_and, and_true, Option.isSome_some, Option.isSome_none, reduceIte, Int.toNat_natCast, Bool.false_eq_true, List.length_map, Nat.le_refl, Option.some.injEq, exists_eq_left', Nat.add_right_cancel_iff, List.take_nil, List.drop_nil, T3, T4, T24, T96, T97, T99, T128, fieldAddrC_cp fl99_0, fieldAddrC_raw fl99_0, fieldAddrC_cp fl99_1, fieldAddrC_raw fl99_1, fieldAddrC_cp fl128_0, fieldAddrC_raw fl128_0, cok107, cok108, Try.results65]
          | (simp (disch := first | omega | (simp only [List.length_append, List.length_map, List.length_cons, List.length_nil, List.length_drop, List.length_take, List.length_replicate]; omega)) only [wrap_id, getI])
          | (with_reducible refine And.intro (by first | omega | exact ⟨_, rfl⟩ | (focus (simp; done)) | (simp; omega)) ?_)
          | ((with_reducible apply wk_load (ty := 3) (ha := ag3) 0); rfl; rfl)
          | ((with_reducible apply wk_load (ty := 3) (ha := ag3) 1); rfl; rfl)
          | ((with_reducible apply wk_load (ty := 4) (ha := ag4) 0); rfl; rfl)
          | ((with_reducible apply wk_load (ty := 4) (ha := ag4) 1); rfl; rfl)
          | ((with_reducible apply wk_load (ty := 97) (ha := ag97) 0); rfl; rfl)
          | ((with_reducible apply wk_load (ty := 97) (ha := ag97) 1); rfl; rfl)
          | ((with_reducible apply wk_load_agg (ty := 99) (ha := ag99) (hs := sz99) 0); rfl; (first | decide | (focus (simp; done)) | omega))
          | ((with_reducible apply wk_load_agg (ty := 99) (ha := ag99) (hs := sz99) 1); rfl; (first | decide | (focus (simp; done)) | omega))
          | ((with_reducible apply wk_load_agg (ty := 128) (ha := ag128) (hs := sz128) 0); rfl; (first | decide | (focus (simp; done)) | omega))
          | ((with_reducible apply wk_load_agg (ty := 128) (ha := ag128) (hs := sz128) 1); rfl; (first | decide | (focus (simp; done)) | omega))
          | ((with_reducible refine storeC_mk ?_); first | ((with_reducible apply act_store_agg (t := 99) (hs := sz99) 0); rfl; (first | decide | (focus (simp; done)) | omega); rfl) | ((with_reducible apply act_store_agg (t := 99) (hs := sz99) 1); rfl; (first | decide | (focus (simp; done)) | omega); rfl) | ((with_reducible apply act_store_agg (t := 128) (hs := sz128) 0); rfl; (first | decide | (focus (simp; done)) | omega); rfl) | ((with_reducible apply act_store_agg (t := 128) (hs := sz128) 1); rfl; (first | decide | (focus (simp; done)) | omega); rfl))
          | ((with_reducible refine actC_mk ?_); (with_reducible refine act_box ?_ (fun b => ?_)); rfl)
          | ((with_reducible refine actC_mk ?_); (with_reducible refine act_new zr99 ?_ (fun b => ?_)); rfl)
          | ((with_reducible refine actC_mk ?_); (with_reducible refine act_new zr128 ?_ (fun b => ?_)); rfl)
          | ((with_reducible refine actC_mk (act_append_nil (sz := 1) (by decide) ?_)))
          | ((with_reducible refine actC_mk (act_append_src_nil (sz := 1) (by decide) ?_)))
          | ((with_reducible refine actC_mk (act_append 0 rfl sl24 sz3 by3 zr3 rfl ?_ ?_ ?_ (fun tk => ?_))); (first | exact goodI _ | exact goodU _ | rfl | exact goodSL _ | exact goodLL _ | (focus (simp [goodL, oneA, AV.cells]; done)) | skip))
          | ((with_reducible refine (act_append 0 rfl sl24 sz3 by3 zr3 rfl ?_ ?_ ?_ (fun tk => ?_))); (first | exact goodI _ | exact goodU _ | rfl | exact goodSL _ | exact goodLL _ | (focus (simp [goodL, oneA, AV.cells]; done)) | skip))
          | ((with_reducible refine actC_mk (act_append 1 rfl sl24 sz3 by3 zr3 rfl ?_ ?_ ?_ (fun tk => ?_))); (first | exact goodI _ | exact goodU _ | rfl | exact goodSL _ | exact goodLL _ | (focus (simp [goodL, oneA, AV.cells]; done)) | skip))
          | ((with_reducible refine (act_append 1 rfl sl24 sz3 by3 zr3 rfl ?_ ?_ ?_ (fun tk => ?_))); (first | exact goodI _ | exact goodU _ | rfl | exact goodSL _ | exact goodLL _ | (focus (simp [goodL, oneA, AV.cells]; done)) | skip))
          | ((with_reducible refine actC_mk (act_append 2 rfl sl24 sz3 by3 zr3 rfl ?_ ?_ ?_ (fun tk => ?_))); (first | exact goodI _ | exact goodU _ | rfl | exact goodSL _ | exact goodLL _ | (focus (simp [goodL, oneA, AV.cells]; done)) | skip))
          | ((with_reducible refine (act_append 2 rfl sl24 sz3 by3 zr3 rfl ?_ ?_ ?_ (fun tk => ?_))); (first | exact goodI _ | exact goodU _ | rfl | exact goodSL _ | exact goodLL _ | (focus (simp [goodL, oneA, AV.cells]; done)) | skip))
          | ((with_reducible refine wk_bslice sl24 sz3 zr3 (by decide) (by decide) (by decide) (by decide) rfl ?_ ?_ ?_); (first | exact goodI _ | exact goodU _ | rfl | exact goodSL _ | exact goodLL _ | (focus (simp [goodL, oneA, AV.cells]; done))); (all_goals first | (intro x hx; simp at hx; first | (subst hx; rfl) | (rcases hx with rfl | rfl <;> rfl) | (rcases hx with rfl | rfl | rfl <;> rfl) | (repeat (rcases hx with rfl | hx <;> try rfl))) | skip))
          | (with_reducible refine callD_mk (dFront ?_ (fun of => ?_)))
          | (with_reducible refine callD_mk (dBack ?_ (fun of => ?_)))
          | (with_reducible refine nilTC_pos (by simp; omega) ?_)
          | (with_reducible refine nilTC_split (fun h => ?_) (fun h bn => ?_) <;> (try simp only [List.length_map] at h))
          | (with_reducible refine grd_cases (fun h => ?_) (fun h => ?_) <;> (try simp only [h]) <;> (try simp only [beq_iff_eq, beq_eq_false_iff_ne, bne_iff_ne, bne_eq_false_iff_eq, decide_eq_true_eq, decide_eq_false_iff_not, Bool.not_eq_true', Bool.not_eq_false', Bool.not_true, Bool.not_false, Bool.not_eq_eq_eq_not, ne_eq, Int.not_lt, Int.not_le, gt_iff_lt, ge_iff_le, Decidable.not_not] at h))
          | (with_reducible refine condC_split (fun h => ?_) (fun h => ?_) <;> (try simp only [h]) <;> (try simp only [beq_iff_eq, beq_eq_false_iff_ne, bne_iff_ne, bne_eq_false_iff_eq, decide_eq_true_eq, decide_eq_false_iff_not, Bool.not_eq_true', Bool.not_eq_false', Bool.not_true, Bool.not_false, Bool.not_eq_eq_eq_not, ne_eq, Int.not_lt, Int.not_le, gt_iff_lt, ge_iff_le, Decidable.not_not] at h))
          | omega | (simp only [List.length_append, List.length_map, List.length_cons, List.length_nil, List.length_drop, List.length_take, List.length_replicate]; omega) | (refine maxLen_ok ?_; (first | omega | (simp only [List.length_append, List.length_map, List.length_cons, List.length_nil, List.length_drop, List.length_take, List.length_replicate]; omega))))
        · exact ⟨of, St_leW (by repeat (first | exact trivial | refine ⟨le_rfl, ?_⟩ | refine ⟨le_any, ?_⟩ | refine ⟨le_ro, ?_⟩ | refine ⟨le_nil (by decide), ?_⟩ | refine ⟨le_wrap (by omega) (by omega) (by omega), ?_⟩ | refine ⟨le_int (by omega), ?_⟩ | refine ⟨le_eq (by simp), ?_⟩)) (ResW.of_eq (by simp [trimG, show i + 1 < l.length by omega])) id⟩
        · exact ⟨of, St_leW (by repeat (first | exact trivial | refine ⟨le_rfl, ?_⟩ | refine ⟨le_any, ?_⟩ | refine ⟨le_ro, ?_⟩ | refine ⟨le_nil (by decide), ?_⟩ | refine ⟨le_wrap (by omega) (by omega) (by omega), ?_⟩ | refine ⟨le_int (by omega), ?_⟩ | refine ⟨le_eq (by simp), ?_⟩)) (ResW.of_eq (by simp [trimG, backG, show ¬ i + 1 < l.length by omega])) id⟩
      · intro of _
        have hsk := fun h => foldG_skip (n := l.length) (i := i) (j := j) (e := e) (l := l) h rfl
        have htk := fun h => foldG_take (n := l.length) (i := i) (j := j) (e := e) (l := l) (s := if j = false ∧ e = 0 then [32] else []) h rfl
        generalize hT : trimG i l.length (l.getD i ([], false)) = T at *
        generalize hL : l.getD i ([], false) = L at *
        obtain ⟨L1, L2⟩ := L
        dsimp only at tl tg hsk htk ⊢
        generalize hS : (if j = false ∧ e = 0 then [(32 : Int)] else []) = S at *
        refine AW_seqA ?_
        refine midA (fun z : Bool => ⟨(LLA o l :: .any :: .any :: SI (some tk) out :: I e :: B j :: I i :: .raw (.pointer (some ⟨b, 0, none⟩)) :: .any :: .any :: LLA o l :: I l.length :: I i :: .any :: .any :: .any :: .any :: .any :: .any :: .any :: .any :: .any :: .any :: .any :: .any :: .any :: .any :: .any :: .any :: .any :: .any :: .any :: .any :: .any :: .any :: .any :: .any :: .any :: .any :: .any :: .any :: .any :: .any :: .any :: .any :: B z :: .any :: .any :: .any :: .any :: .any :: .any :: .any :: .any :: .any :: .any :: .any :: .any :: .any :: .any :: .any :: .any :: .any :: .any :: .any :: .any :: .any :: .any :: .any :: .any :: .any :: .any :: .any :: .any :: .any :: .any :: .any :: .any :: .any :: .any :: []), .obj b [SG of T, B L2] :: .tip tk :: σ, true, []⟩) (fun z => z = true ↔ (T.length = 0 ∧ L2 = false ∧ j = false ∧ i + 1 < l.length)) ?_ ?_
        ·
          repeat' (first
            | (with_reducible refine AW_seqA (AW_block ?_)) | (with_reducible refine AW_block ?_) | (with_reducible refine cut_seqloop ?_) | (with_reducible refine cut_loop ?_) | (with_reducible refine AW_seqA (AW_seqA ?_)) | (with_reducible refine AW_seq ?_) | (with_reducible refine AW_run ?_)
            | simp only [WL, intF, strF, List.toList_toArray, List.set_cons_succ, List.set_cons_zero, List.getD_cons_succ, List.getD_cons_zero, List.getElem?_cons_succ, List.getElem?_cons_zero, List.length_cons, List.length_nil, List.replicate_succ, List.replicate_zero, List.cons_append, List.nil_append, List.append_nil, List.map_cons, List.map_nil, Option.bind_some, Option.map_some, Option.map_none, List.drop_succ_cons, List.drop_zero, List.take_succ_cons, List.take_zero, ← List.map_take, ← List.map_drop, List.take_length, Int.reduceToNat, ne_eq, reduceCtorEq, not_false_eq_true, Nat.reduceAdd, Nat.reduceSub, Nat.reduceLT, Nat.reduceLeDiff, Nat.reduceEqDiff, Nat.zero_lt_succ, Bool.not_true, Bool.not_false, beq_self_eq_true, true_and, and_true, Option.isSome_some, Option.isSome_none, reduceIte, Int.toNat_natCast, Bool.false_eq_true, List.length_map, Nat.le_refl, Option.some.injEq, exists_eq_left', Nat.add_right_cancel_iff, List.take_nil, List.drop_nil, T3, T4, T24, T96, T97, T99, T128, fieldAddrC_cp fl99_0, fieldAddrC_raw fl99_0, fieldAddrC_cp fl99_1, fieldAddrC_raw fl99_1, fieldAddrC_cp fl128_0, fieldAddrC_raw fl128_0, cok107, cok108, Try.results65]
            | (simp (disch := first | omega | (simp only [List.length_append, List.length_map, List.length_cons, List.length_nil, List.length_drop, List.length_take, List.length_replicate]; omega)) only [wrap_id, getI])
            | (with_reducible refine And.intro (by first | omega | exact ⟨_, rfl⟩ | (focus (simp; done)) | (simp; omega)) ?_)
            | ((with_reducible apply wk_load (ty := 3) (ha := ag3) 0); rfl; rfl)
            | ((with_reducible apply wk_load (ty := 3) (ha := ag3) 1); rfl; rfl)
            | ((with_reducible apply wk_load (ty := 4) (ha := ag4) 0); rfl; rfl)
            | ((with_reducible apply wk_load (ty := 4) (ha := ag4) 1); rfl; rfl)
            | ((with_reducible apply wk_load (ty := 97) (ha := ag97) 0); rfl; rfl)
            | ((with_reducible apply wk_load (ty := 97) (ha := ag97) 1); rfl; rfl)
            | ((with_reducible apply wk_load_agg (ty := 99) (ha := ag99) (hs := sz99) 0); rfl; (first | decide | (focus (simp; done)) | omega))
            | ((with_reducible apply wk_load_agg (ty := 99) (ha := ag99) (hs := sz99) 1); rfl; (first | decide | (focus (simp; done)) | omega))
            | ((with_reducible apply wk_load_agg (ty := 128) (ha := ag128) (hs := sz128) 0); rfl; (first | decide | (focus (simp; done)) | omega))
            | ((with_reducible apply wk_load_agg (ty := 128) (ha := ag128) (hs := sz128) 1); rfl; (first | decide | (focus (simp; done)) | omega))
            | ((with_reducible refine storeC_mk ?_); first | ((with_reducible apply act_store_agg (t := 99) (hs := sz99) 0); rfl; (first | decide | (focus (simp; done)) | omega); rfl) | ((with_reducible apply act_store_agg (t := 99) (hs := sz99) 1); rfl; (first | decide | (focus (simp; done)) | omega); rfl) | ((with_reducible apply act_store_agg (t := 128) (hs := sz128) 0); rfl; (first | decide | (focus (simp; done)) | omega); rfl) | ((with_reducible apply act_store_agg (t := 128) (hs := sz128) 1); rfl; (first | decide | (focus (simp; done)) | omega); rfl))
            | ((with_reducible refine actC_mk ?_); (with_reducible refine act_box ?_ (fun b => ?_)); rfl)
            | ((with_reducible refine actC_mk ?_); (with_reducible refine act_new zr99 ?_ (fun b => ?_)); rfl)
            | ((with_reducible refine actC_mk ?_); (with_reducible refine act_new zr128 ?_ (fun b => ?_)); rfl)
            | ((with_reducible refine actC_mk (act_append_nil (sz := 1) (by decide) ?_)))
            | ((with_reducible refine actC_mk (act_append_src_nil (sz := 1) (by decide) ?_)))
            | ((with_reducible refine actC_mk (act_append 0 rfl sl24 sz3 by3 zr3 rfl ?_ ?_ ?_ (fun tk => ?_))); (first | exact goodI _ | exact goodU _ | rfl | exact goodSL _ | exact goodLL _ | (focus (simp [goodL, oneA, AV.cells]; done)) | skip))
            | ((with_reducible refine (act_append 0 rfl sl24 sz3 by3 zr3 rfl ?_ ?_ ?_ (fun tk => ?_))); (first | exact goodI _ | exact goodU _ | rfl | exact goodSL _ | exact goodLL _ | (focus (simp [goodL, oneA, AV.cells]; done)) | skip))
            | ((with_reducible refine actC_mk (act_append 1 rfl sl24 sz3 by3 zr3 rfl ?_ ?_ ?_ (fun tk => ?_))); (first | exact goodI _ | exact goodU _ | rfl | exact goodSL _ | exact goodLL _ | (focus (simp [goodL, oneA, AV.cells]; done)) | skip))
            | ((with_reducible refine (act_append 1 rfl sl24 sz3 by3 zr3 rfl ?_ ?_ ?_ (fun tk => ?_))); (first | exact goodI _ | exact goodU _ | rfl | exact goodSL _ | exact goodLL _ | (focus (simp [goodL, oneA, AV.cells]; done)) | skip))
            | ((with_reducible refine actC_mk (act_append 2 rfl sl24 sz3 by3 zr3 rfl ?_ ?_ ?_ (fun tk => ?_))); (first | exact goodI _ | exact goodU _ | rfl | exact goodSL _ | exact goodLL _ | (focus (simp [goodL, oneA, AV.cells]; done)) | skip))
            | ((with_reducible refine (act_append 2 rfl sl24 sz3 by3 zr3 rfl ?_ ?_ ?_ (fun tk => ?_))); (first | exact goodI _ | exact goodU _ | rfl | exact goodSL _ | exact goodLL _ | (focus (simp [goodL, oneA, AV.cells]; done)) | skip))
            | ((with_reducible refine wk_bslice sl24 sz3 zr3 (by decide) (by decide) (by decide) (by decide) rfl ?_ ?_ ?_); (first | exact goodI _ | exact goodU _ | rfl | exact goodSL _ | exact goodLL _ | (focus (simp [goodL, oneA, AV.cells]; done))); (all_goals first | (intro x hx; simp at hx; first | (subst hx; rfl) | (rcases hx with rfl | rfl <;> rfl) | (rcases hx with rfl | rfl | rfl <;> rfl) | (repeat (rcases hx with rfl | hx <;> try rfl))) | skip))
            | (with_reducible refine callD_mk (dFront ?_ (fun of => ?_)))
            | (with_reducible refine callD_mk (dBack ?_ (fun of => ?_)))
            | (with_reducible refine nilTC_pos (by simp; omega) ?_)
            | (with_reducible refine nilTC_split (fun h => ?_) (fun h bn => ?_) <;> (try simp only [List.length_map] at h))
            | (with_reducible refine grd_cases (fun h => ?_) (fun h => ?_) <;> (try simp only [h]) <;> (try simp only [beq_iff_eq, beq_eq_false_iff_ne, bne_iff_ne, bne_eq_false_iff_eq, decide_eq_true_eq, decide_eq_false_iff_not, Bool.not_eq_true', Bool.not_eq_false', Bool.not_true, Bool.not_false, Bool.not_eq_eq_eq_not, ne_eq, Int.not_lt, Int.not_le, gt_iff_lt, ge_iff_le, Decidable.not_not] at h))
            | (with_reducible refine condC_split (fun h => ?_) (fun h => ?_) <;> (try simp only [h]) <;> (try simp only [beq_iff_eq, beq_eq_false_iff_ne, bne_iff_ne, bne_eq_false_iff_eq, decide_eq_true_eq, decide_eq_false_iff_not, Bool.not_eq_true', Bool.not_eq_false', Bool.not_true, Bool.not_false, Bool.not_eq_eq_eq_not, ne_eq, Int.not_lt, Int.not_le, gt_iff_lt, ge_iff_le, Decidable.not_not] at h))
            | omega | (simp only [List.length_append, List.length_map, List.length_cons, List.length_nil, List.length_drop, List.length_take, List.length_replicate]; omega) | (refine maxLen_ok ?_; (first | omega | (simp only [List.length_append, List.length_map, List.length_cons, List.length_nil, List.length_drop, List.length_take, List.length_replicate]; omega))))
          all_goals exact ⟨_, St_leW (by repeat (first | exact trivial | refine ⟨le_rfl, ?_⟩ | refine ⟨le_any, ?_⟩ | refine ⟨le_ro, ?_⟩ | refine ⟨le_nil (by decide), ?_⟩ | refine ⟨le_wrap (by omega) (by omega) (by omega), ?_⟩ | refine ⟨le_int (by omega), ?_⟩ | refine ⟨le_eq (by simp), ?_⟩)) (ResW.refl _) id, by first | exact ⟨fun h9 => ⟨by omega, by assumption, by assumption, by have := of_decide_eq_true h9; omega⟩, fun h9 => decide_eq_true (by omega)⟩ | exact ⟨fun _ => ⟨by omega, by assumption, by assumption, by omega⟩, fun _ => by first | rfl | assumption | (simp; omega)⟩ | exact ⟨fun h9 => (by cases h9), fun h9 => (by exfalso; obtain ⟨a1, a2, a3, a4⟩ := h9; first | omega | (simp_all; done))⟩⟩
        · intro z hz
          repeat' (first
            | (with_reducible refine cut_blk (id := 2) ?_)
            | (with_reducible refine AW_seqA (AW_block ?_)) | (with_reducible refine AW_block ?_) | (with_reducible refine cut_seqloop ?_) | (with_reducible refine cut_loop ?_) | (with_reducible refine AW_seqA (AW_seqA ?_)) | (with_reducible refine AW_seq ?_) | (with_reducible refine AW_run ?_)
            | simp only [WL, intF, strF, List.toList_toArray, List.set_cons_succ, List.set_cons_zero, List.getD_cons_succ, List.getD_cons_zero, List.getElem?_cons_succ, List.getElem?_cons_zero, List.length_cons, List.length_nil, List.replicate_succ, List.replicate_zero, List.cons_append, List.nil_append, List.append_nil, List.map_cons, List.map_nil, Option.bind_some, Option.map_some, Option.map_none, List.drop_succ_cons, List.drop_zero, List.take_succ_cons, List.take_zero, ← List.map_take, ← List.map_drop, List.take_length, Int.reduceToNat, ne_eq, reduceCtorEq, not_false_eq_true, Nat.reduceAdd, Nat.reduceSub, Nat.reduceLT, Nat.reduceLeDiff, Nat.reduceEqDiff, Nat.zero_lt_succ, Bool.not_true, Bool.not_false, beq_self_eq_true, true_and, and_true, Option.isSome_some, Option.isSome_none, reduceIte, Int.toNat_natCast, Bool.false_eq_true, List.length_map, Nat.le_refl, Option.some.injEq, exists_eq_left', Nat.add_right_cancel_iff, List.take_nil, List.drop_nil, T3, T4, T24, T96, T97, T99, T128, fieldAddrC_cp fl99_0, fieldAddrC_raw fl99_0, fieldAddrC_cp fl99_1, fieldAddrC_raw fl99_1, fieldAddrC_cp fl128_0, fieldAddrC_raw fl128_0, cok107, cok108, Try.results65]
            | (simp (disch := first | omega | (simp only [List.length_append, List.length_map, List.length_cons, List.length_nil, List.length_drop, List.length_take, List.length_replicate]; omega)) only [wrap_id, getI])
            | (with_reducible refine And.intro (by first | omega | exact ⟨_, rfl⟩ | (focus (simp; done)) | (simp; omega)) ?_)
            | ((with_reducible apply wk_load (ty := 3) (ha := ag3) 0); rfl; rfl)
            | ((with_reducible apply wk_load (ty := 3) (ha := ag3) 1); rfl; rfl)
            | ((with_reducible apply wk_load (ty := 4) (ha := ag4) 0); rfl; rfl)
            | ((with_reducible apply wk_load (ty := 4) (ha := ag4) 1); rfl; rfl)
            | ((with_reducible apply wk_load (ty := 97) (ha := ag97) 0); rfl; rfl)
            | ((with_reducible apply wk_load (ty := 97) (ha := ag97) 1); rfl; rfl)
            | ((with_reducible apply wk_load_agg (ty := 99) (ha := ag99) (hs := sz99) 0); rfl; (first | decide | (focus (simp; done)) | omega))
            | ((with_reducible apply wk_load_agg (ty := 99) (ha := ag99) (hs := sz99) 1); rfl; (first | decide | (focus (simp; done)) | omega))
            | ((with_reducible apply wk_load_agg (ty := 128) (ha := ag128) (hs := sz128) 0); rfl; (first | decide | (focus (simp; done)) | omega))
            | ((with_reducible apply wk_load_agg (ty := 128) (ha := ag128) (hs := sz128) 1); rfl; (first | decide | (focus (simp; done)) | omega))
            | ((with_reducible refine storeC_mk ?_); first | ((with_reducible apply act_store_agg (t := 99) (hs := sz99) 0); rfl; (first | decide | (focus (simp; done)) | omega); rfl) | ((with_reducible apply act_store_agg (t := 99) (hs := sz99) 1); rfl; (first | decide | (focus (simp; done)) | omega); rfl) | ((with_reducible apply act_store_agg (t := 128) (hs := sz128) 0); rfl; (first | decide | (focus (simp; done)) | omega); rfl) | ((with_reducible apply act_store_agg (t := 128) (hs := sz128) 1); rfl; (first | decide | (focus (simp; done)) | omega); rfl))
            | ((with_reducible refine actC_mk ?_); (with_reducible refine act_box ?_ (fun b => ?_)); rfl)
            | ((with_reducible refine actC_mk ?_); (with_reducible refine act_new zr99 ?_ (fun b => ?_)); rfl)
            | ((with_reducible refine actC_mk ?_); (with_reducible refine act_new zr128 ?_ (fun b => ?_)); rfl)
            | ((with_reducible refine actC_mk (act_append_nil (sz := 1) (by decide) ?_)))
            | ((with_reducible refine actC_mk (act_append_src_nil (sz := 1) (by decide) ?_)))
            | ((with_reducible refine actC_mk (act_append 0 rfl sl24 sz3 by3 zr3 rfl ?_ ?_ ?_ (fun tk => ?_))); (first | exact goodI _ | exact goodU _ | rfl | exact goodSL _ | exact goodLL _ | (focus (simp [goodL, oneA, AV.cells]; done)) | skip))
            | ((with_reducible refine (act_append 0 rfl sl24 sz3 by3 zr3 rfl ?_ ?_ ?_ (fun tk => ?_))); (first | exact goodI _ | exact goodU _ | rfl | exact goodSL _ | exact goodLL _ | (focus (simp [goodL, oneA, AV.cells]; done)) | skip))
            | ((with_reducible refine actC_mk (act_append 1 rfl sl24 sz3 by3 zr3 rfl ?_ ?_ ?_ (fun tk => ?_))); (first | exact goodI _ | exact goodU _ | rfl | exact goodSL _ | exact goodLL _ | (focus (simp [goodL, oneA, AV.cells]; done)) | skip))
            | ((with_reducible refine (act_append 1 rfl sl24 sz3 by3 zr3 rfl ?_ ?_ ?_ (fun tk => ?_))); (first | exact goodI _ | exact goodU _ | rfl | exact goodSL _ | exact goodLL _ | (focus (simp [goodL, oneA, AV.cells]; done)) | skip))
            | ((with_reducible refine actC_mk (act_append 2 rfl sl24 sz3 by3 zr3 rfl ?_ ?_ ?_ (fun tk => ?_))); (first | exact goodI _ | exact goodU _ | rfl | exact goodSL _ | exact goodLL _ | (focus (simp [goodL, oneA, AV.cells]; done)) | skip))
            | ((with_reducible refine (act_append 2 rfl sl24 sz3 by3 zr3 rfl ?_ ?_ ?_ (fun tk => ?_))); (first | exact goodI _ | exact goodU _ | rfl | exact goodSL _ | exact goodLL _ | (focus (simp [goodL, oneA, AV.cells]; done)) | skip))
            | ((with_reducible refine wk_bslice sl24 sz3 zr3 (by decide) (by decide) (by decide) (by decide) rfl ?_ ?_ ?_); (first | exact goodI _ | exact goodU _ | rfl | exact goodSL _ | exact goodLL _ | (focus (simp [goodL, oneA, AV.cells]; done))); (all_goals first | (intro x hx; simp at hx; first | (subst hx; rfl) | (rcases hx with rfl | rfl <;> rfl) | (rcases hx with rfl | rfl | rfl <;> rfl) | (repeat (rcases hx with rfl | hx <;> try rfl))) | skip))
            | (with_reducible refine callD_mk (dFront ?_ (fun of => ?_)))
            | (with_reducible refine callD_mk (dBack ?_ (fun of => ?_)))
            | (with_reducible refine nilTC_pos (by simp; omega) ?_)
            | (with_reducible refine nilTC_split (fun h => ?_) (fun h bn => ?_) <;> (try simp only [List.length_map] at h))
            | (with_reducible refine grd_cases (fun h => ?_) (fun h => ?_) <;> (try simp only [h]) <;> (try simp only [beq_iff_eq, beq_eq_false_iff_ne, bne_iff_ne, bne_eq_false_iff_eq, decide_eq_true_eq, decide_eq_false_iff_not, Bool.not_eq_true', Bool.not_eq_false', Bool.not_true, Bool.not_false, Bool.not_eq_eq_eq_not, ne_eq, Int.not_lt, Int.not_le, gt_iff_lt, ge_iff_le, Decidable.not_not] at h))
            | (with_reducible refine condC_split (fun h => ?_) (fun h => ?_) <;> (try simp only [h]) <;> (try simp only [beq_iff_eq, beq_eq_false_iff_ne, bne_iff_ne, bne_eq_false_iff_eq, decide_eq_true_eq, decide_eq_false_iff_not, Bool.not_eq_true', Bool.not_eq_false', Bool.not_true, Bool.not_false, Bool.not_eq_eq_eq_not, ne_eq, Int.not_lt, Int.not_le, gt_iff_lt, ge_iff_le, Decidable.not_not] at h))
            | omega | (simp only [List.length_append, List.length_map, List.length_cons, List.length_nil, List.length_drop, List.length_take, List.length_replicate]; omega) | (refine maxLen_ok ?_; (first | omega | (simp only [List.length_append, List.length_map, List.length_cons, List.length_nil, List.length_drop, List.length_take, List.length_replicate]; omega))))
          · have hz2 := hz.1 (by assumption)
            exact ⟨(i + 1, out, e + 1, j, tk), St_leW (by repeat (first | exact trivial | refine ⟨le_rfl, ?_⟩ | refine ⟨le_any, ?_⟩ | refine ⟨le_ro, ?_⟩ | refine ⟨le_nil (by decide), ?_⟩ | refine ⟨le_wrap (by omega) (by omega) (by omega), ?_⟩ | refine ⟨le_int (by omega), ?_⟩ | refine ⟨le_eq (by simp), ?_⟩)) (ResW.sub (List.sublist_cons_self _ _)) id, ⟨by dsimp only; omega, by dsimp only; rw [h2, hsk (by omega) hz2.1 hz2.2.1 hz2.2.2.1 hz2.2.2.2], by dsimp only; omega, fun e1 => by rw [hz2.2.2.1] at e1; cases e1⟩, by dsimp only; omega⟩
          have hz2 : ¬ (T.length = 0 ∧ L2 = false ∧ j = false ∧ i + 1 < l.length) := fun e1 => by rw [hz.2 e1] at *; contradiction
          rw [htk (by omega) hz2 rfl] at h2
          have ol2 := congrArg List.length h2
          simp only [List.length_append, List.length_replicate, List.length_map] at ol2
          refine midA (fun tk : Option (Nat × Nat) => ⟨(LLA o l :: .any :: .any :: SI (some tk) (out ++ S) :: I e :: B j :: I i :: .raw (.pointer (some ⟨b, 0, none⟩)) :: .any :: .any :: LLA o l :: I l.length :: I i :: .any :: .any :: .any :: .any :: .any :: .any :: .any :: .any :: .any :: .any :: .any :: .any :: .any :: .any :: .any :: .any :: .any :: .any :: .any :: .any :: .any :: .any :: .any :: .any :: .any :: .any :: .any :: .any :: .any :: .any :: .any :: .any :: .any :: .any :: .any :: .any :: .any :: .any :: .any :: .any :: .any :: .any :: .any :: .any :: .any :: .any :: .any :: .any :: .any :: .any :: .any :: .any :: .any :: .any :: .any :: .any :: .any :: .any :: .any :: .any :: .any :: .any :: .any :: .any :: .any :: .any :: .any :: []), .obj b [SG of T, B L2] :: .tip tk :: σ, true, []⟩) (fun _ => True) ?_ ?_
          ·
            repeat' (first
              | (with_reducible refine AW_seqA (AW_block ?_)) | (with_reducible refine AW_block ?_) | (with_reducible refine cut_seqloop ?_) | (with_reducible refine cut_loop ?_) | (with_reducible refine AW_seqA (AW_seqA ?_)) | (with_reducible refine AW_seq ?_) | (with_reducible refine AW_run ?_)
              | simp only [WL, intF, strF, List.toList_toArray, List.set_cons_succ, List.set_cons_zero, List.getD_cons_succ, List.getD_cons_zero, List.getElem?_cons_succ, List.getElem?_cons_zero, List.length_cons, List.length_nil, List.replicate_succ, List.replicate_zero, List.cons_append, List.nil_append, List.append_nil, List.map_cons, List.map_nil, Option.bind_some, Option.map_some, Option.map_none, List.drop_succ_cons, List.drop_zero, List.take_succ_cons, List.take_zero, ← List.map_take, ← List.map_drop, List.take_length, Int.reduceToNat, ne_eq, reduceCtorEq, not_false_eq_true, Nat.reduceAdd, Nat.reduceSub, Nat.reduceLT, Nat.reduceLeDiff, Nat.reduceEqDiff, Nat.zero_lt_succ, Bool.not_true, Bool.not_false, beq_self_eq_true, true_and, and_true, Option.isSome_some, Option.isSome_none, reduceIte, Int.toNat_natCast, Bool.false_eq_true, List.length_map, Nat.le_refl, Option.some.injEq, exists_eq_left', Nat.add_right_cancel_iff, List.take_nil, List.drop_nil, T3, T4, T24, T96, T97, T99, T128, fieldAddrC_cp fl99_0, fieldAddrC_raw fl99_0, fieldAddrC_cp fl99_1, fieldAddrC_raw fl99_1, fieldAddrC_cp fl128_0, fieldAddrC_raw fl128_0, cok107, cok108, Try.results65]
              | (simp (disch := first | omega | (simp only [List.length_append, List.length_map, List.length_cons, List.length_nil, List.length_drop, List.length_take, List.length_replicate]; omega)) only [wrap_id, getI])
              | (with_reducible refine And.intro (by first | omega | exact ⟨_, rfl⟩ | (focus (simp; done)) | (simp; omega)) ?_)
              | ((with_reducible apply wk_load (ty := 3) (ha := ag3) 0); rfl; rfl)
              | ((with_reducible apply wk_load (ty := 3) (ha := ag3) 1); rfl; rfl)
              | ((with_reducible apply wk_load (ty := 4) (ha := ag4) 0); rfl; rfl)
              | ((with_reducible apply wk_load (ty := 4) (ha := ag4) 1); rfl; rfl)
              | ((with_reducible apply wk_load (ty := 97) (ha := ag97) 0); rfl; rfl)
              | ((with_reducible apply wk_load (ty := 97) (ha := ag97) 1); rfl; rfl)
              | ((with_reducible apply wk_load_agg (ty := 99) (ha := ag99) (hs := sz99) 0); rfl; (first | decide | (focus (simp; done)) | omega))
              | ((with_reducible apply wk_load_agg (ty := 99) (ha := ag99) (hs := sz99) 1); rfl; (first | decide | (focus (simp; done)) | omega))
              | ((with_reducible apply wk_load_agg (ty := 128) (ha := ag128) (hs := sz128) 0); rfl; (first | decide | (focus (simp; done)) | omega))
              | ((with_reducible apply wk_load_agg (ty := 128) (ha := ag128) (hs := sz128) 1); rfl; (first | decide | (focus (simp; done)) | omega))
              | ((with_reducible refine storeC_mk ?_); first | ((with_reducible apply act_store_agg (t := 99) (hs := sz99) 0); rfl; (first | decide | (focus (simp; done)) | omega); rfl) | ((with_reducible apply act_store_agg (t := 99) (hs := sz99) 1); rfl; (first | decide | (focus (simp; done)) | omega); rfl) | ((with_reducible apply act_store_agg (t := 128) (hs := sz128) 0); rfl; (first | decide | (focus (simp; done)) | omega); rfl) | ((with_reducible apply act_store_agg (t := 128) (hs := sz128) 1); rfl; (first | decide | (focus (simp; done)) | omega); rfl))
              | ((with_reducible refine actC_mk ?_); (with_reducible refine act_box ?_ (fun b => ?_)); rfl)
              | ((with_reducible refine actC_mk ?_); (with_reducible refine act_new zr99 ?_ (fun b => ?_)); rfl)
              | ((with_reducible refine actC_mk ?_); (with_reducible refine act_new zr128 ?_ (fun b => ?_)); rfl)
              | ((with_reducible refine actC_mk (act_append_nil (sz := 1) (by decide) ?_)))
              | ((with_reducible refine actC_mk (act_append_src_nil (sz := 1) (by decide) ?_)))
              | ((with_reducible refine actC_mk (act_append 0 rfl sl24 sz3 by3 zr3 rfl ?_ ?_ ?_ (fun tk => ?_))); (first | exact goodI _ | exact goodU _ | rfl | exact goodSL _ | exact goodLL _ | (focus (simp [goodL, oneA, AV.cells]; done)) | skip))
              | ((with_reducible refine (act_append 0 rfl sl24 sz3 by3 zr3 rfl ?_ ?_ ?_ (fun tk => ?_))); (first | exact goodI _ | exact goodU _ | rfl | exact goodSL _ | exact goodLL _ | (focus (simp [goodL, oneA, AV.cells]; done)) | skip))
              | ((with_reducible refine actC_mk (act_append 1 rfl sl24 sz3 by3 zr3 rfl ?_ ?_ ?_ (fun tk => ?_))); (first | exact goodI _ | exact goodU _ | rfl | exact goodSL _ | exact goodLL _ | (focus (simp [goodL, oneA, AV.cells]; done)) | skip))
              | ((with_reducible refine (act_append 1 rfl sl24 sz3 by3 zr3 rfl ?_ ?_ ?_ (fun tk => ?_))); (first | exact goodI _ | exact goodU _ | rfl | exact goodSL _ | exact goodLL _ | (focus (simp [goodL, oneA, AV.cells]; done)) | skip))
              | ((with_reducible refine actC_mk (act_append 2 rfl sl24 sz3 by3 zr3 rfl ?_ ?_ ?_ (fun tk => ?_))); (first | exact goodI _ | exact goodU _ | rfl | exact goodSL _ | exact goodLL _ | (focus (simp [goodL, oneA, AV.cells]; done)) | skip))
              | ((with_reducible refine (act_append 2 rfl sl24 sz3 by3 zr3 rfl ?_ ?_ ?_ (fun tk => ?_))); (first | exact goodI _ | exact goodU _ | rfl | exact goodSL _ | exact goodLL _ | (focus (simp [goodL, oneA, AV.cells]; done)) | skip))
              | ((with_reducible refine wk_bslice sl24 sz3 zr3 (by decide) (by decide) (by decide) (by decide) rfl ?_ ?_ ?_); (first | exact goodI _ | exact goodU _ | rfl | exact goodSL _ | exact goodLL _ | (focus (simp [goodL, oneA, AV.cells]; done))); (all_goals first | (intro x hx; simp at hx; first | (subst hx; rfl) | (rcases hx with rfl | rfl <;> rfl) | (rcases hx with rfl | rfl | rfl <;> rfl) | (repeat (rcases hx with rfl | hx <;> try rfl))) | skip))
              | (with_reducible refine callD_mk (dFront ?_ (fun of => ?_)))
              | (with_reducible refine callD_mk (dBack ?_ (fun of => ?_)))
              | (with_reducible refine nilTC_pos (by simp; omega) ?_)
              | (with_reducible refine nilTC_split (fun h => ?_) (fun h bn => ?_) <;> (try simp only [List.length_map] at h))
              | (with_reducible refine grd_cases (fun h => ?_) (fun h => ?_) <;> (try simp only [h]) <;> (try simp only [beq_iff_eq, beq_eq_false_iff_ne, bne_iff_ne, bne_eq_false_iff_eq, decide_eq_true_eq, decide_eq_false_iff_not, Bool.not_eq_true', Bool.not_eq_false', Bool.not_true, Bool.not_false, Bool.not_eq_eq_eq_not, ne_eq, Int.not_lt, Int.not_le, gt_iff_lt, ge_iff_le, Decidable.not_not] at h))
              | (with_reducible refine condC_split (fun h => ?_) (fun h => ?_) <;> (try simp only [h]) <;> (try simp only [beq_iff_eq, beq_eq_false_iff_ne, bne_iff_ne, bne_eq_false_iff_eq, decide_eq_true_eq, decide_eq_false_iff_not, Bool.not_eq_true', Bool.not_eq_false', Bool.not_true, Bool.not_false, Bool.not_eq_eq_eq_not, ne_eq, Int.not_lt, Int.not_le, gt_iff_lt, ge_iff_le, Decidable.not_not] at h))
              | omega | (simp only [List.length_append, List.length_map, List.length_cons, List.length_nil, List.length_drop, List.length_take, List.length_replicate]; omega) | (refine maxLen_ok ?_; (first | omega | (simp only [List.length_append, List.length_map, List.length_cons, List.length_nil, List.length_drop, List.length_take, List.length_replicate]; omega))))
            · obtain rfl : S = [] := by rw [← hS, if_neg (by simp [*])]
              exact ⟨tk, St_leW (by simp only [List.append_nil]; repeat (first | exact trivial | refine ⟨le_rfl, ?_⟩ | refine ⟨le_any, ?_⟩ | refine ⟨le_ro, ?_⟩ | refine ⟨le_nil (by decide), ?_⟩ | refine ⟨le_wrap (by omega) (by omega) (by omega), ?_⟩ | refine ⟨le_int (by omega), ?_⟩ | refine ⟨le_eq (by simp), ?_⟩)) (ResW.refl _) id⟩
            · obtain rfl : S = [32] := by rw [← hS, if_pos ⟨by assumption, by omega⟩]
              exact ⟨tk, St_leW (by repeat (first | exact trivial | refine ⟨le_rfl, ?_⟩ | refine ⟨le_any, ?_⟩ | refine ⟨le_ro, ?_⟩ | refine ⟨le_nil (by decide), ?_⟩ | refine ⟨le_wrap (by omega) (by omega) (by omega), ?_⟩ | refine ⟨le_int (by omega), ?_⟩ | refine ⟨le_eq (by simp), ?_⟩)) (ResW.refl _) id⟩
            · obtain rfl : S = [] := by rw [← hS, if_neg (by omega)]
              exact ⟨tk, St_leW (by simp only [List.append_nil]; repeat (first | exact trivial | refine ⟨le_rfl, ?_⟩ | refine ⟨le_any, ?_⟩ | refine ⟨le_ro, ?_⟩ | refine ⟨le_nil (by decide), ?_⟩ | refine ⟨le_wrap (by omega) (by omega) (by omega), ?_⟩ | refine ⟨le_int (by omega), ?_⟩ | refine ⟨le_eq (by simp), ?_⟩)) (ResW.refl _) id⟩
          · intro tk _
            repeat' (first
              | (with_reducible refine AW_seqA (AW_block ?_)) | (with_reducible refine AW_block ?_) | (with_reducible refine cut_seqloop ?_) | (with_reducible refine cut_loop ?_) | (with_reducible refine AW_seqA (AW_seqA ?_)) | (with_reducible refine AW_seq ?_) | (with_reducible refine AW_run ?_)
              | simp only [WL, intF, strF, List.toList_toArray, List.set_cons_succ, List.set_cons_zero, List.getD_cons_succ, List.getD_cons_zero, List.getElem?_cons_succ, List.getElem?_cons_zero, List.length_cons, List.length_nil, List.replicate_succ, List.replicate_zero, List.cons_append, List.nil_append, List.append_nil, List.map_cons, List.map_nil, Option.bind_some, Option.map_some, Option.map_none, List.drop_succ_cons, List.drop_zero, List.take_succ_cons, List.take_zero, ← List.map_take, ← List.map_drop, List.take_length, Int.reduceToNat, ne_eq, reduceCtorEq, not_false_eq_true, Nat.reduceAdd, Nat.reduceSub, Nat.reduceLT, Nat.reduceLeDiff, Nat.reduceEqDiff, Nat.zero_lt_succ, Bool.not_true, Bool.not_false, beq_self_eq_true, true_and, and_true, Option.isSome_some, Option.isSome_none, reduceIte, Int.toNat_natCast, Bool.false_eq_true, List.length_map, Nat.le_refl, Option.some.injEq, exists_eq_left', Nat.add_right_cancel_iff, List.take_nil, List.drop_nil, T3, T4, T24, T96, T97, T99, T128, fieldAddrC_cp fl99_0, fieldAddrC_raw fl99_0, fieldAddrC_cp fl99_1, fieldAddrC_raw fl99_1, fieldAddrC_cp fl128_0, fieldAddrC_raw fl128_0, cok107, cok108, Try.results65]
              | (simp (disch := first | omega | (simp only [List.length_append, List.length_map, List.length_cons, List.length_nil, List.length_drop, List.length_take, List.length_replicate]; omega)) only [wrap_id, getI])
              | (with_reducible refine And.intro (by first | omega | exact ⟨_, rfl⟩ | (focus (simp; done)) | (simp; omega)) ?_)
              | ((with_reducible apply wk_load (ty := 3) (ha := ag3) 0); rfl; rfl)
              | ((with_reducible apply wk_load (ty := 3) (ha := ag3) 1); rfl; rfl)
              | ((with_reducible apply wk_load (ty := 4) (ha := ag4) 0); rfl; rfl)
              | ((with_reducible apply wk_load (ty := 4) (ha := ag4) 1); rfl; rfl)
              | ((with_reducible apply wk_load (ty := 97) (ha := ag97) 0); rfl; rfl)
              | ((with_reducible apply wk_load (ty := 97) (ha := ag97) 1); rfl; rfl)
              | ((with_reducible apply wk_load_agg (ty := 99) (ha := ag99) (hs := sz99) 0); rfl; (first | decide | (focus (simp; done)) | omega))
              | ((with_reducible apply wk_load_agg (ty := 99) (ha := ag99) (hs := sz99) 1); rfl; (first | decide | (focus (simp; done)) | omega))
              | ((with_reducible apply wk_load_agg (ty := 128) (ha := ag128) (hs := sz128) 0); rfl; (first | decide | (focus (simp; done)) | omega))
              | ((with_reducible apply wk_load_agg (ty := 128) (ha := ag128) (hs := sz128) 1); rfl; (first | decide | (focus (simp; done)) | omega))
              | ((with_reducible refine storeC_mk ?_); first | ((with_reducible apply act_store_agg (t := 99) (hs := sz99) 0); rfl; (first | decide | (focus (simp; done)) | omega); rfl) | ((with_reducible apply act_store_agg (t := 99) (hs := sz99) 1); rfl; (first | decide | (focus (simp; done)) | omega); rfl) | ((with_reducible apply act_store_agg (t := 128) (hs := sz128) 0); rfl; (first | decide | (focus (simp; done)) | omega); rfl) | ((with_reducible apply act_store_agg (t := 128) (hs := sz128) 1); rfl; (first | decide | (focus (simp; done)) | omega); rfl))
              | ((with_reducible refine actC_mk ?_); (with_reducible refine act_box ?_ (fun b => ?_)); rfl)
              | ((with_reducible refine actC_mk ?_); (with_reducible refine act_new zr99 ?_ (fun b => ?_)); rfl)
              | ((with_reducible refine actC_mk ?_); (with_reducible refine act_new zr128 ?_ (fun b => ?_)); rfl)
              | ((with_reducible refine actC_mk (act_append_nil (sz := 1) (by decide) ?_)))
              | ((with_reducible refine actC_mk (act_append_src_nil (sz := 1) (by decide) ?_)))
              | ((with_reducible refine actC_mk (act_append 0 rfl sl24 sz3 by3 zr3 rfl ?_ ?_ ?_ (fun tk => ?_))); (first | exact goodI _ | exact goodU _ | rfl | exact goodSL _ | exact goodLL _ | (focus (simp [goodL, oneA, AV.cells]; done)) | skip))
              | ((with_reducible refine (act_append 0 rfl sl24 sz3 by3 zr3 rfl ?_ ?_ ?_ (fun tk => ?_))); (first | exact goodI _ | exact goodU _ | rfl | exact goodSL _ | exact goodLL _ | (focus (simp [goodL, oneA, AV.cells]; done)) | skip))
              | ((with_reducible refine actC_mk (act_append 1 rfl sl24 sz3 by3 zr3 rfl ?_ ?_ ?_ (fun tk => ?_))); (first | exact goodI _ | exact goodU _ | rfl | exact goodSL _ | exact goodLL _ | (focus (simp [goodL, oneA, AV.cells]; done)) | skip))
              | ((with_reducible refine (act_append 1 rfl sl24 sz3 by3 zr3 rfl ?_ ?_ ?_ (fun tk => ?_))); (first | exact goodI _ | exact goodU _ | rfl | exact goodSL _ | exact goodLL _ | (focus (simp [goodL, oneA, AV.cells]; done)) | skip))
              | ((with_reducible refine actC_mk (act_append 2 rfl sl24 sz3 by3 zr3 rfl ?_ ?_ ?_ (fun tk => ?_))); (first | exact goodI _ | exact goodU _ | rfl | exact goodSL _ | exact goodLL _ | (focus (simp [goodL, oneA, AV.cells]; done)) | skip))
              | ((with_reducible refine (act_append 2 rfl sl24 sz3 by3 zr3 rfl ?_ ?_ ?_ (fun tk => ?_))); (first | exact goodI _ | exact goodU _ | rfl | exact goodSL _ | exact goodLL _ | (focus (simp [goodL, oneA, AV.cells]; done)) | skip))
              | ((with_reducible refine wk_bslice sl24 sz3 zr3 (by decide) (by decide) (by decide) (by decide) rfl ?_ ?_ ?_); (first | exact goodI _ | exact goodU _ | rfl | exact goodSL _ | exact goodLL _ | (focus (simp [goodL, oneA, AV.cells]; done))); (all_goals first | (intro x hx; simp at hx; first | (subst hx; rfl) | (rcases hx with rfl | rfl <;> rfl) | (rcases hx with rfl | rfl | rfl <;> rfl) | (repeat (rcases hx with rfl | hx <;> try rfl))) | skip))
              | (with_reducible refine callD_mk (dFront ?_ (fun of => ?_)))
              | (with_reducible refine callD_mk (dBack ?_ (fun of => ?_)))
              | (with_reducible refine nilTC_pos (by simp; omega) ?_)
              | (with_reducible refine nilTC_split (fun h => ?_) (fun h bn => ?_) <;> (try simp only [List.length_map] at h))
              | (with_reducible refine grd_cases (fun h => ?_) (fun h => ?_) <;> (try simp only [h]) <;> (try simp only [beq_iff_eq, beq_eq_false_iff_ne, bne_iff_ne, bne_eq_false_iff_eq, decide_eq_true_eq, decide_eq_false_iff_not, Bool.not_eq_true', Bool.not_eq_false', Bool.not_true, Bool.not_false, Bool.not_eq_eq_eq_not, ne_eq, Int.not_lt, Int.not_le, gt_iff_lt, ge_iff_le, Decidable.not_not] at h))
              | (with_reducible refine condC_split (fun h => ?_) (fun h => ?_) <;> (try simp only [h]) <;> (try simp only [beq_iff_eq, beq_eq_false_iff_ne, bne_iff_ne, bne_eq_false_iff_eq, decide_eq_true_eq, decide_eq_false_iff_not, Bool.not_eq_true', Bool.not_eq_false', Bool.not_true, Bool.not_false, Bool.not_eq_eq_eq_not, ne_eq, Int.not_lt, Int.not_le, gt_iff_lt, ge_iff_le, Decidable.not_not] at h))
              | omega | (simp only [List.length_append, List.length_map, List.length_cons, List.length_nil, List.length_drop, List.length_take, List.length_replicate]; omega) | (refine maxLen_ok ?_; (first | omega | (simp only [List.length_append, List.length_map, List.length_cons, List.length_nil, List.length_drop, List.length_take, List.length_replicate]; omega))))
            refine loopA (fun x : Nat × Option (Nat × Nat) => ⟨(LLA o l :: .any :: .any :: SI (some x.2) (out ++ S ++ List.replicate x.1 10) :: I e :: B j :: I i :: .raw (.pointer (some ⟨b, 0, none⟩)) :: .any :: .any :: LLA o l :: I l.length :: I i :: .any :: .any :: .any :: .any :: .any :: .any :: .any :: .any :: .any :: .any :: .any :: .any :: .any :: .any :: .any :: .any :: .any :: .any :: .any :: .any :: .any :: .any :: .any :: .any :: .any :: .any :: .any :: .any :: .any :: .any :: .any :: .any :: .any :: .any :: .any :: .any :: .any :: .any :: .any :: .any :: .any :: .any :: .any :: I e :: I x.1 :: .any :: .any :: .any :: .any :: .any :: .any :: .any :: .any :: .any :: .any :: .any :: .any :: .any :: .any :: .any :: .any :: .any :: .any :: .any :: .any :: .any :: .any :: []), .obj b [SG of T, B L2] :: .tip x.2 :: σ, true, []⟩) (fun x => x.1 ≤ e) (fun x => e - x.1) (0, tk) (St_leW (by simp only [List.replicate_zero, List.append_nil]; repeat (first | exact trivial | refine ⟨le_rfl, ?_⟩ | refine ⟨le_any, ?_⟩ | refine ⟨le_ro, ?_⟩ | refine ⟨le_nil (by decide), ?_⟩ | refine ⟨le_wrap (by omega) (by omega) (by omega), ?_⟩ | refine ⟨le_int (by omega), ?_⟩ | refine ⟨le_eq (by simp), ?_⟩)) (ResW.refl _) id) (Nat.zero_le _) ?_
            rintro ⟨m, tk⟩ h9
            dsimp only at h9 ⊢
            repeat' (first
              | (with_reducible refine AW_seqA (AW_block ?_)) | (with_reducible refine AW_block ?_) | (with_reducible refine cut_seqloop ?_) | (with_reducible refine cut_loop ?_) | (with_reducible refine AW_seqA (AW_seqA ?_)) | (with_reducible refine AW_seq ?_) | (with_reducible refine AW_run ?_)
              | simp only [WL, intF, strF, List.toList_toArray, List.set_cons_succ, List.set_cons_zero, List.getD_cons_succ, List.getD_cons_zero, List.getElem?_cons_succ, List.getElem?_cons_zero, List.length_cons, List.length_nil, List.replicate_succ, List.replicate_zero, List.cons_append, List.nil_append, List.append_nil, List.map_cons, List.map_nil, Option.bind_some, Option.map_some, Option.map_none, List.drop_succ_cons, List.drop_zero, List.take_succ_cons, List.take_zero, ← List.map_take, ← List.map_drop, List.take_length, Int.reduceToNat, ne_eq, reduceCtorEq, not_false_eq_true, Nat.reduceAdd, Nat.reduceSub, Nat.reduceLT, Nat.reduceLeDiff, Nat.reduceEqDiff, Nat.zero_lt_succ, Bool.not_true, Bool.not_false, beq_self_eq_true, true_and, and_true, Option.isSome_some, Option.isSome_none, reduceIte, Int.toNat_natCast, Bool.false_eq_true, List.length_map, Nat.le_refl, Option.some.injEq, exists_eq_left', Nat.add_right_cancel_iff, List.take_nil, List.drop_nil, T3, T4, T24, T96, T97, T99, T128, fieldAddrC_cp fl99_0, fieldAddrC_raw fl99_0, fieldAddrC_cp fl99_1, fieldAddrC_raw fl99_1, fieldAddrC_cp fl128_0, fieldAddrC_raw fl128_0, cok107, cok108, Try.results65]
              | (simp (disch := first | omega | (simp only [List.length_append, List.length_map, List.length_cons, List.length_nil, List.length_drop, List.length_take, List.length_replicate]; omega)) only [wrap_id, getI])
              | (with_reducible refine And.intro (by first | omega | exact ⟨_, rfl⟩ | (focus (simp; done)) | (simp; omega)) ?_)
              | ((with_reducible apply wk_load (ty := 3) (ha := ag3) 0); rfl; rfl)
              | ((with_reducible apply wk_load (ty := 3) (ha := ag3) 1); rfl; rfl)
              | ((with_reducible apply wk_load (ty := 4) (ha := ag4) 0); rfl; rfl)
              | ((with_reducible apply wk_load (ty := 4) (ha := ag4) 1); rfl; rfl)
              | ((with_reducible apply wk_load (ty := 97) (ha := ag97) 0); rfl; rfl)
              | ((with_reducible apply wk_load (ty := 97) (ha := ag97) 1); rfl; rfl)
              | ((with_reducible apply wk_load_agg (ty := 99) (ha := ag99) (hs := sz99) 0); rfl; (first | decide | (focus (simp; done)) | omega))
              | ((with_reducible apply wk_load_agg (ty := 99) (ha := ag99) (hs := sz99) 1); rfl; (first | decide | (focus (simp; done)) | omega))
              | ((with_reducible apply wk_load_agg (ty := 128) (ha := ag128) (hs := sz128) 0); rfl; (first | decide | (focus (simp; done)) | omega))
              | ((with_reducible apply wk_load_agg (ty := 128) (ha := ag128) (hs := sz128) 1); rfl; (first | decide | (focus (simp; done)) | omega))
              | ((with_reducible refine storeC_mk ?_); first | ((with_reducible apply act_store_agg (t := 99) (hs := sz99) 0); rfl; (first | decide | (focus (simp; done)) | omega); rfl) | ((with_reducible apply act_store_agg (t := 99) (hs := sz99) 1); rfl; (first | decide | (focus (simp; done)) | omega); rfl) | ((with_reducible apply act_store_agg (t := 128) (hs := sz128) 0); rfl; (first | decide | (focus (simp; done)) | omega); rfl) | ((with_reducible apply act_store_agg (t := 128) (hs := sz128) 1); rfl; (first | decide | (focus (simp; done)) | omega); rfl))
              | ((with_reducible refine actC_mk ?_); (with_reducible refine act_box ?_ (fun b => ?_)); rfl)
              | ((with_reducible refine actC_mk ?_); (with_reducible refine act_new zr99 ?_ (fun b => ?_)); rfl)
              | ((with_reducible refine actC_mk ?_); (with_reducible refine act_new zr128 ?_ (fun b => ?_)); rfl)
              | ((with_reducible refine actC_mk (act_append_nil (sz := 1) (by decide) ?_)))
              | ((with_reducible refine actC_mk (act_append_src_nil (sz := 1) (by decide) ?_)))
              | ((with_reducible refine actC_mk (act_append 0 rfl sl24 sz3 by3 zr3 rfl ?_ ?_ ?_ (fun tk => ?_))); (first | exact goodI _ | exact goodU _ | rfl | exact goodSL _ | exact goodLL _ | (focus (simp [goodL, oneA, AV.cells]; done)) | skip))
              | ((with_reducible refine (act_append 0 rfl sl24 sz3 by3 zr3 rfl ?_ ?_ ?_ (fun tk => ?_))); (first | exact goodI _ | exact goodU _ | rfl | exact goodSL _ | exact goodLL _ | (focus (simp [goodL, oneA, AV.cells]; done)) | skip))
              | ((with_reducible refine actC_mk (act_append 1 rfl sl24 sz3 by3 zr3 rfl ?_ ?_ ?_ (fun tk => ?_))); (first | exact goodI _ | exact goodU _ | rfl | exact goodSL _ | exact goodLL _ | (focus (simp [goodL, oneA, AV.cells]; done)) | skip))
              | ((with_reducible refine (act_append 1 rfl sl24 sz3 by3 zr3 rfl ?_ ?_ ?_ (fun tk => ?_))); (first | exact goodI _ | exact goodU _ | rfl | exact goodSL _ | exact goodLL _ | (focus (simp [goodL, oneA, AV.cells]; done)) | skip))
              | ((with_reducible refine actC_mk (act_append 2 rfl sl24 sz3 by3 zr3 rfl ?_ ?_ ?_ (fun tk => ?_))); (first | exact goodI _ | exact goodU _ | rfl | exact goodSL _ | exact goodLL _ | (focus (simp [goodL, oneA, AV.cells]; done)) | skip))
              | ((with_reducible refine (act_append 2 rfl sl24 sz3 by3 zr3 rfl ?_ ?_ ?_ (fun tk => ?_))); (first | exact goodI _ | exact goodU _ | rfl | exact goodSL _ | exact goodLL _ | (focus (simp [goodL, oneA, AV.cells]; done)) | skip))
              | ((with_reducible refine wk_bslice sl24 sz3 zr3 (by decide) (by decide) (by decide) (by decide) rfl ?_ ?_ ?_); (first | exact goodI _ | exact goodU _ | rfl | exact goodSL _ | exact goodLL _ | (focus (simp [goodL, oneA, AV.cells]; done))); (all_goals first | (intro x hx; simp at hx; first | (subst hx; rfl) | (rcases hx with rfl | rfl <;> rfl) | (rcases hx with rfl | rfl | rfl <;> rfl) | (repeat (rcases hx with rfl | hx <;> try rfl))) | skip))
              | (with_reducible refine callD_mk (dFront ?_ (fun of => ?_)))
              | (with_reducible refine callD_mk (dBack ?_ (fun of => ?_)))
              | (with_reducible refine nilTC_pos (by simp; omega) ?_)
              | (with_reducible refine nilTC_split (fun h => ?_) (fun h bn => ?_) <;> (try simp only [List.length_map] at h))
              | (with_reducible refine grd_cases (fun h => ?_) (fun h => ?_) <;> (try simp only [h]) <;> (try simp only [beq_iff_eq, beq_eq_false_iff_ne, bne_iff_ne, bne_eq_false_iff_eq, decide_eq_true_eq, decide_eq_false_iff_not, Bool.not_eq_true', Bool.not_eq_false', Bool.not_true, Bool.not_false, Bool.not_eq_eq_eq_not, ne_eq, Int.not_lt, Int.not_le, gt_iff_lt, ge_iff_le, Decidable.not_not] at h))
              | (with_reducible refine condC_split (fun h => ?_) (fun h => ?_) <;> (try simp only [h]) <;> (try simp only [beq_iff_eq, beq_eq_false_iff_ne, bne_iff_ne, bne_eq_false_iff_eq, decide_eq_true_eq, decide_eq_false_iff_not, Bool.not_eq_true', Bool.not_eq_false', Bool.not_true, Bool.not_false, Bool.not_eq_eq_eq_not, ne_eq, Int.not_lt, Int.not_le, gt_iff_lt, ge_iff_le, Decidable.not_not] at h))
              | omega | (simp only [List.length_append, List.length_map, List.length_cons, List.length_nil, List.length_drop, List.length_take, List.length_replicate]; omega) | (refine maxLen_ok ?_; (first | omega | (simp only [List.length_append, List.length_map, List.length_cons, List.length_nil, List.length_drop, List.length_take, List.length_replicate]; omega))))
            · exact ⟨(m + 1, tk), St_leW (by simp only [List.replicate_succ', ← List.append_assoc]; repeat (first | exact trivial | refine ⟨le_rfl, ?_⟩ | refine ⟨le_any, ?_⟩ | refine ⟨le_ro, ?_⟩ | refine ⟨le_nil (by decide), ?_⟩ | refine ⟨le_wrap (by omega) (by omega) (by omega), ?_⟩ | refine ⟨le_int (by omega), ?_⟩ | refine ⟨le_eq (by simp), ?_⟩)) (ResW.refl _) id, by dsimp only; omega, by dsimp only; omega⟩
            obtain rfl : m = e := by omega
            refine loopA (fun x : Nat × Option (Nat × Nat) => ⟨(LLA o l :: .any :: .any :: SI (some x.2) (out ++ S ++ List.replicate m 10 ++ (T.take x.1).map (·.1)) :: I m :: B j :: I i :: .raw (.pointer (some ⟨b, 0, none⟩)) :: .any :: .any :: LLA o l :: I l.length :: I i :: .any :: .any :: .any :: .any :: .any :: .any :: .any :: .any :: .any :: .any :: .any :: .any :: .any :: .any :: .any :: .any :: .any :: .any :: .any :: .any :: .any :: .any :: .any :: .any :: .any :: .any :: .any :: .any :: .any :: .any :: .any :: .any :: .any :: .any :: .any :: .any :: .any :: .any :: .any :: .any :: .any :: .any :: .any :: .any :: .any :: .any :: .any :: .any :: .any :: .any :: .any :: SG none T :: I T.length :: I x.1 :: .any :: .any :: .any :: .any :: .any :: .any :: .any :: .any :: .any :: .any :: .any :: .any :: .any :: []), .obj b [SG of T, B L2] :: .tip x.2 :: σ, true, []⟩) (fun x => x.1 ≤ T.length) (fun x => T.length - x.1) (0, tk) (St_leW (by simp only [List.take_zero, List.map_nil, List.append_nil]; repeat (first | exact trivial | refine ⟨le_rfl, ?_⟩ | refine ⟨le_any, ?_⟩ | refine ⟨le_ro, ?_⟩ | refine ⟨le_nil (by decide), ?_⟩ | refine ⟨le_wrap (by omega) (by omega) (by omega), ?_⟩ | refine ⟨le_int (by omega), ?_⟩ | refine ⟨le_eq (by simp), ?_⟩)) (ResW.refl _) id) (Nat.zero_le _) ?_
            rintro ⟨k, tk⟩ h9
            dsimp only at h9 ⊢
            repeat' (first
              | (with_reducible refine AW_seqA (AW_block ?_)) | (with_reducible refine AW_block ?_) | (with_reducible refine cut_seqloop ?_) | (with_reducible refine cut_loop ?_) | (with_reducible refine AW_seqA (AW_seqA ?_)) | (with_reducible refine AW_seq ?_) | (with_reducible refine AW_run ?_)
              | simp only [WL, intF, strF, List.toList_toArray, List.set_cons_succ, List.set_cons_zero, List.getD_cons_succ, List.getD_cons_zero, List.getElem?_cons_succ, List.getElem?_cons_zero, List.length_cons, List.length_nil, List.replicate_succ, List.replicate_zero, List.cons_append, List.nil_append, List.append_nil, List.map_cons, List.map_nil, Option.bind_some, Option.map_some, Option.map_none, List.drop_succ_cons, List.drop_zero, List.take_succ_cons, List.take_zero, ← List.map_take, ← List.map_drop, List.take_length, Int.reduceToNat, ne_eq, reduceCtorEq, not_false_eq_true, Nat.reduceAdd, Nat.reduceSub, Nat.reduceLT, Nat.reduceLeDiff, Nat.reduceEqDiff, Nat.zero_lt_succ, Bool.not_true, Bool.not_false, beq_self_eq_true, true_and, and_true, Option.isSome_some, Option.isSome_none, reduceIte, Int.toNat_natCast, Bool.false_eq_true, List.length_map, Nat.le_refl, Option.some.injEq, exists_eq_left', Nat.add_right_cancel_iff, List.take_nil, List.drop_nil, T3, T4, T24, T96, T97, T99, T128, fieldAddrC_cp fl99_0, fieldAddrC_raw fl99_0, fieldAddrC_cp fl99_1, fieldAddrC_raw fl99_1, fieldAddrC_cp fl128_0, fieldAddrC_raw fl128_0, cok107, cok108, Try.results65]
              | (simp (disch := first | omega | (simp only [List.length_append, List.length_map, List.length_cons, List.length_nil, List.length_drop, List.length_take, List.length_replicate]; omega)) only [wrap_id, getI, getG])
              | (with_reducible refine And.intro (by first | omega | exact ⟨_, rfl⟩ | (focus (simp; done)) | (simp; omega)) ?_)
              | ((with_reducible apply wk_load (ty := 3) (ha := ag3) 0); rfl; rfl)
              | ((with_reducible apply wk_load (ty := 3) (ha := ag3) 1); rfl; rfl)
              | ((with_reducible apply wk_load (ty := 4) (ha := ag4) 0); rfl; rfl)
              | ((with_reducible apply wk_load (ty := 4) (ha := ag4) 1); rfl; rfl)
              | ((with_reducible apply wk_load (ty := 97) (ha := ag97) 0); rfl; rfl)
              | ((with_reducible apply wk_load (ty := 97) (ha := ag97) 1); rfl; rfl)
              | ((with_reducible apply wk_load_agg (ty := 99) (ha := ag99) (hs := sz99) 0); rfl; (first | decide | (focus (simp; done)) | omega))
              | ((with_reducible apply wk_load_agg (ty := 99) (ha := ag99) (hs := sz99) 1); rfl; (first | decide | (focus (simp; done)) | omega))
              | ((with_reducible apply wk_load_agg (ty := 128) (ha := ag128) (hs := sz128) 0); rfl; (first | decide | (focus (simp; done)) | omega))
              | ((with_reducible apply wk_load_agg (ty := 128) (ha := ag128) (hs := sz128) 1); rfl; (first | decide | (focus (simp; done)) | omega))
              | ((with_reducible refine storeC_mk ?_); first | ((with_reducible apply act_store_agg (t := 99) (hs := sz99) 0); rfl; (first | decide | (focus (simp; done)) | omega); rfl) | ((with_reducible apply act_store_agg (t := 99) (hs := sz99) 1); rfl; (first | decide | (focus (simp; done)) | omega); rfl) | ((with_reducible apply act_store_agg (t := 128) (hs := sz128) 0); rfl; (first | decide | (focus (simp; done)) | omega); rfl) | ((with_reducible apply act_store_agg (t := 128) (hs := sz128) 1); rfl; (first | decide | (focus (simp; done)) | omega); rfl))
              | ((with_reducible refine actC_mk ?_); (with_reducible refine act_box ?_ (fun b => ?_)); rfl)
              | ((with_reducible refine actC_mk ?_); (with_reducible refine act_new zr99 ?_ (fun b => ?_)); rfl)
              | ((with_reducible refine actC_mk ?_); (with_reducible refine act_new zr128 ?_ (fun b => ?_)); rfl)
              | ((with_reducible refine actC_mk (act_append_nil (sz := 1) (by decide) ?_)))
              | ((with_reducible refine actC_mk (act_append_src_nil (sz := 1) (by decide) ?_)))
              | ((with_reducible refine actC_mk (act_append 0 rfl sl24 sz3 by3 zr3 rfl ?_ ?_ ?_ (fun tk => ?_))); (first | exact goodI _ | exact goodU _ | rfl | exact goodSL _ | exact goodLL _ | (focus (simp [goodL, oneA, AV.cells]; done)) | skip))
              | ((with_reducible refine (act_append 0 rfl sl24 sz3 by3 zr3 rfl ?_ ?_ ?_ (fun tk => ?_))); (first | exact goodI _ | exact goodU _ | rfl | exact goodSL _ | exact goodLL _ | (focus (simp [goodL, oneA, AV.cells]; done)) | skip))
              | ((with_reducible refine actC_mk (act_append 1 rfl sl24 sz3 by3 zr3 rfl ?_ ?_ ?_ (fun tk => ?_))); (first | exact goodI _ | exact goodU _ | rfl | exact goodSL _ | exact goodLL _ | (focus (simp [goodL, oneA, AV.cells]; done)) | skip))
              | ((with_reducible refine (act_append 1 rfl sl24 sz3 by3 zr3 rfl ?_ ?_ ?_ (fun tk => ?_))); (first | exact goodI _ | exact goodU _ | rfl | exact goodSL _ | exact goodLL _ | (focus (simp [goodL, oneA, AV.cells]; done)) | skip))
              | ((with_reducible refine actC_mk (act_append 2 rfl sl24 sz3 by3 zr3 rfl ?_ ?_ ?_ (fun tk => ?_))); (first | exact goodI _ | exact goodU _ | rfl | exact goodSL _ | exact goodLL _ | (focus (simp [goodL, oneA, AV.cells]; done)) | skip))
              | ((with_reducible refine (act_append 2 rfl sl24 sz3 by3 zr3 rfl ?_ ?_ ?_ (fun tk => ?_))); (first | exact goodI _ | exact goodU _ | rfl | exact goodSL _ | exact goodLL _ | (focus (simp [goodL, oneA, AV.cells]; done)) | skip))
              | ((with_reducible refine wk_bslice sl24 sz3 zr3 (by decide) (by decide) (by decide) (by decide) rfl ?_ ?_ ?_); (first | exact goodI _ | exact goodU _ | rfl | exact goodSL _ | exact goodLL _ | (focus (simp [goodL, oneA, AV.cells]; done))); (all_goals first | (intro x hx; simp at hx; first | (subst hx; rfl) | (rcases hx with rfl | rfl <;> rfl) | (rcases hx with rfl | rfl | rfl <;> rfl) | (repeat (rcases hx with rfl | hx <;> try rfl))) | skip))
              | (with_reducible refine callD_mk (dFront ?_ (fun of => ?_)))
              | (with_reducible refine callD_mk (dBack ?_ (fun of => ?_)))
              | (with_reducible refine nilTC_pos (by simp; omega) ?_)
              | (with_reducible refine nilTC_split (fun h => ?_) (fun h bn => ?_) <;> (try simp only [List.length_map] at h))
              | (with_reducible refine grd_cases (fun h => ?_) (fun h => ?_) <;> (try simp only [h]) <;> (try simp only [beq_iff_eq, beq_eq_false_iff_ne, bne_iff_ne, bne_eq_false_iff_eq, decide_eq_true_eq, decide_eq_false_iff_not, Bool.not_eq_true', Bool.not_eq_false', Bool.not_true, Bool.not_false, Bool.not_eq_eq_eq_not, ne_eq, Int.not_lt, Int.not_le, gt_iff_lt, ge_iff_le, Decidable.not_not] at h))
              | (with_reducible refine condC_split (fun h => ?_) (fun h => ?_) <;> (try simp only [h]) <;> (try simp only [beq_iff_eq, beq_eq_false_iff_ne, bne_iff_ne, bne_eq_false_iff_eq, decide_eq_true_eq, decide_eq_false_iff_not, Bool.not_eq_true', Bool.not_eq_false', Bool.not_true, Bool.not_false, Bool.not_eq_eq_eq_not, ne_eq, Int.not_lt, Int.not_le, gt_iff_lt, ge_iff_le, Decidable.not_not] at h))
              | omega | (simp only [List.length_append, List.length_map, List.length_cons, List.length_nil, List.length_drop, List.length_take, List.length_replicate]; omega) | (refine maxLen_ok ?_; (first | omega | (simp only [List.length_append, List.length_map, List.length_cons, List.length_nil, List.length_drop, List.length_take, List.length_replicate]; omega))))
            · exact ⟨(k + 1, tk), St_leW (by dsimp only; rw [mapfst_take (by omega)]; repeat (first | exact trivial | refine ⟨le_rfl, ?_⟩ | refine ⟨le_any, ?_⟩ | refine ⟨le_ro, ?_⟩ | refine ⟨le_nil (by decide), ?_⟩ | refine ⟨le_wrap (by omega) (by omega) (by omega), ?_⟩ | refine ⟨le_int (by omega), ?_⟩ | refine ⟨le_eq (by simp), ?_⟩)) (ResW.sub (List.sublist_cons_self _ _)) id, by dsimp only; omega, by dsimp only; omega⟩
            · exact ⟨(i + 1, out ++ S ++ List.replicate m 10 ++ T.map (·.1), 0, L2, tk), St_leW (by dsimp only; rw [List.take_of_length_le (show T.length ≤ k by omega)]; repeat (first | exact trivial | refine ⟨le_rfl, ?_⟩ | refine ⟨le_any, ?_⟩ | refine ⟨le_ro, ?_⟩ | refine ⟨le_nil (by decide), ?_⟩ | refine ⟨le_wrap (by omega) (by omega) (by omega), ?_⟩ | refine ⟨le_int (by omega), ?_⟩ | refine ⟨le_eq (by simp), ?_⟩)) (ResW.sub (List.sublist_cons_self _ _)) id, ⟨by dsimp only; omega, by dsimp only; rw [h2]; simp only [List.append_assoc], Nat.zero_le _, fun _ => rfl⟩, by dsimp only; omega⟩
  · rw [List.drop_eq_nil_of_le (by omega)] at h2
    exact leafL (sub_cons sub_rfl) (leT_le (by rw [h2]; simp only [foldG, List.append_nil]; exact le_ro)) hK

-- double.Read
set_option maxHeartbeats 8000000 in
theorem dReadAll {l : List (List Int)} (hl : tot l ≤ 100000000) (hK : K (.ret (.tup [SI none (readD l).1, I (readD l).2])) σ) : ACallF κ Try.prog 27 [SSI o l] σ K := by
  have hlen := tot_len l
  refine ACallF.dropL (ACallF_introA Try.func27 rfl ?_)
  simp only [Try.ntmps27]
  repeat' (first
    | (with_reducible refine AW_seqA (AW_block ?_)) | (with_reducible refine AW_block ?_) | (with_reducible refine cut_seqloop ?_) | (with_reducible refine cut_loop ?_) | (with_reducible refine AW_seqA (AW_seqA ?_)) | (with_reducible refine AW_seq ?_) | (with_reducible refine AW_run ?_)
    | simp only [WL, intF, strF, List.toList_toArray, List.set_cons_succ, List.set_cons_zero, List.getD_cons_succ, List.getD_cons_zero, List.getElem?_cons_succ, List.getElem?_cons_zero, List.length_cons, List.length_nil, List.replicate_succ, List.replicate_zero, List.cons_append, List.nil_append, List.append_nil, List.map_cons, List.map_nil, Option.bind_some, Option.map_some, Option.map_none, List.drop_succ_cons, List.drop_zero, List.take_succ_cons, List.take_zero, ← List.map_take, ← List.map_drop, List.take_length, Int.reduceToNat, ne_eq, reduceCtorEq, not_false_eq_true, Nat.reduceAdd, Nat.reduceSub, Nat.reduceLT, Nat.reduceLeDiff, Nat.reduceEqDiff, Nat.zero_lt_succ, Bool.not_true, Bool.not_false, beq_self_eq_true, true_and, and_true, Option.isSome_some, Option.isSome_none, reduceIte, Int.toNat_natCast, Bool.false_eq_true, List.length_map, Nat.le_refl, Option.some.injEq, exists_eq_left', Nat.add_right_cancel_iff, List.take_nil, List.drop_nil, T3, T4, T24, T34, T37, T96, T97, T99, T128, cok64, cok65, Try.results27]
    | (simp (disch := first | omega | (simp only [List.length_append, List.length_map, List.length_cons, List.length_nil, List.length_drop, List.length_take, List.length_replicate]; omega)) only [wrap_id, getI])
    | (with_reducible refine And.intro (by first | omega | exact ⟨_, rfl⟩ | (focus (simp; done)) | (simp; omega)) ?_)
    | ((with_reducible apply wk_load (ty := 24) (ha := ag24) 0); rfl; rfl)
    | ((with_reducible apply wk_load (ty := 24) (ha := ag24) 1); rfl; rfl)
    | ((with_reducible apply wk_load_agg (ty := 99) (ha := ag99) (hs := sz99) 0); rfl; (first | decide | (focus (simp; done)) | omega))
    | ((with_reducible apply wk_load_agg (ty := 99) (ha := ag99) (hs := sz99) 1); rfl; (first | decide | (focus (simp; done)) | omega))
    | ((with_reducible refine storeC_mk ?_); first | ((with_reducible apply act_store_agg (t := 99) (hs := sz99) 0); rfl; (first | decide | (focus (simp; done)) | omega); rfl) | ((with_reducible apply act_store_agg (t := 99) (hs := sz99) 1); rfl; (first | decide | (focus (simp; done)) | omega); rfl))
    | ((with_reducible refine actC_mk ?_); (with_reducible refine act_box ?_ (fun b => ?_)); rfl)
    | ((with_reducible refine actC_mk ?_); (with_reducible refine act_new zr99 ?_ (fun b => ?_)); rfl)
    | ((with_reducible refine actC_mk (act_append_nil (sz := 2) (by decide) ?_)))
    | ((with_reducible refine actC_mk (act_append_src_nil (sz := 2) (by decide) ?_)))
    | ((with_reducible refine actC_mk (act_append 0 rfl sl96 sz99 by99 zr99 rfl ?_ ?_ ?_ (fun tk => ?_))); (first | exact goodI _ | exact goodU _ | rfl | exact goodSL _ | exact goodLL _ | (focus (simp [goodL, oneA, AV.cells]; done)) | skip))
    | ((with_reducible refine (act_append 0 rfl sl96 sz99 by99 zr99 rfl ?_ ?_ ?_ (fun tk => ?_))); (first | exact goodI _ | exact goodU _ | rfl | exact goodSL _ | exact goodLL _ | (focus (simp [goodL, oneA, AV.cells]; done)) | skip))
    | ((with_reducible refine actC_mk (act_append 1 rfl sl96 sz99 by99 zr99 rfl ?_ ?_ ?_ (fun tk => ?_))); (first | exact goodI _ | exact goodU _ | rfl | exact goodSL _ | exact goodLL _ | (focus (simp [goodL, oneA, AV.cells]; done)) | skip))
    | ((with_reducible refine (act_append 1 rfl sl96 sz99 by99 zr99 rfl ?_ ?_ ?_ (fun tk => ?_))); (first | exact goodI _ | exact goodU _ | rfl | exact goodSL _ | exact goodLL _ | (focus (simp [goodL, oneA, AV.cells]; done)) | skip))
    | ((with_reducible refine actC_mk (act_append 2 rfl sl96 sz99 by99 zr99 rfl ?_ ?_ ?_ (fun tk => ?_))); (first | exact goodI _ | exact goodU _ | rfl | exact goodSL _ | exact goodLL _ | (focus (simp [goodL, oneA, AV.cells]; done)) | skip))
    | ((with_reducible refine (act_append 2 rfl sl96 sz99 by99 zr99 rfl ?_ ?_ ?_ (fun tk => ?_))); (first | exact goodI _ | exact goodU _ | rfl | exact goodSL _ | exact goodLL _ | (focus (simp [goodL, oneA, AV.cells]; done)) | skip))
    | ((with_reducible refine wk_bslice sl96 sz99 zr99 (by decide) (by decide) (by decide) (by decide) rfl ?_ ?_ ?_); (first | exact goodI _ | exact goodU _ | rfl | exact goodSL _ | exact goodLL _ | (focus (simp [goodL, oneA, AV.cells]; done))); (all_goals first | (intro x hx; simp at hx; first | (subst hx; rfl) | (rcases hx with rfl | rfl <;> rfl) | (rcases hx with rfl | rfl | rfl <;> rfl) | (repeat (rcases hx with rfl | hx <;> try rfl))) | skip))
    | (with_reducible refine callD_mk (dRead ?_ ?_))
    | (with_reducible refine callD_mk (dFolded ?_ ?_))
    | (with_reducible refine nilTC_pos (by simp; omega) ?_)
    | (with_reducible refine nilTC_split (fun h => ?_) (fun h bn => ?_) <;> (try simp only [List.length_map] at h))
    | (with_reducible refine grd_cases (fun h => ?_) (fun h => ?_) <;> (try simp only [h]) <;> (try simp only [beq_iff_eq, beq_eq_false_iff_ne, bne_iff_ne, bne_eq_false_iff_eq, decide_eq_true_eq, decide_eq_false_iff_not, Bool.not_eq_true', Bool.not_eq_false', Bool.not_true, Bool.not_false, Bool.not_eq_eq_eq_not, ne_eq, Int.not_lt, Int.not_le, gt_iff_lt, ge_iff_le, Decidable.not_not] at h))
    | (with_reducible refine condC_split (fun h => ?_) (fun h => ?_) <;> (try simp only [h]) <;> (try simp only [beq_iff_eq, beq_eq_false_iff_ne, bne_iff_ne, bne_eq_false_iff_eq, decide_eq_true_eq, decide_eq_false_iff_not, Bool.not_eq_true', Bool.not_eq_false', Bool.not_true, Bool.not_false, Bool.not_eq_eq_eq_not, ne_eq, Int.not_lt, Int.not_le, gt_iff_lt, ge_iff_le, Decidable.not_not] at h))
    | omega | (simp only [List.length_append, List.length_map, List.length_cons, List.length_nil, List.length_drop, List.length_take, List.length_replicate]; omega) | (refine maxLen_ok ?_; (first | omega | (simp only [List.length_append, List.length_map, List.length_cons, List.length_nil, List.length_drop, List.length_take, List.length_replicate]; omega))))
  refine loopA (fun x : Nat × List (List (Int × Bool) × Bool) × Option (Nat × Nat) => ⟨(SSI o l :: .any :: .any :: .any :: LLA (some x.2.2) x.2.1 :: .any :: .any :: .any :: .any :: SSI o l :: I l.length :: I x.1 :: .any :: .any :: .any :: .any :: .any :: .any :: .any :: .any :: .any :: .any :: .any :: .any :: .any :: .any :: .any :: .any :: .any :: .any :: .any :: .any :: .any :: .any :: .any :: .any :: []), .tip x.2.2 :: σ, true, []⟩)
    (fun x => x.1 ≤ l.length ∧ x.2.1.length = x.1 ∧ (linesD l).2 = (linesD (l.drop x.1)).2 ∧ ((linesD (l.drop x.1)).2 = 0 → (linesD l).1 = x.2.1 ++ (linesD (l.drop x.1)).1)) (fun x => l.length - x.1) (0, [], none) (St_leW (by repeat (first | exact trivial | refine ⟨le_rfl, ?_⟩ | refine ⟨le_any, ?_⟩ | refine ⟨le_ro, ?_⟩ | refine ⟨le_nil (by decide), ?_⟩ | refine ⟨le_wrap (by omega) (by omega) (by omega), ?_⟩ | refine ⟨le_int (by omega), ?_⟩ | refine ⟨le_eq (by simp), ?_⟩)) ResW.void id) ⟨Nat.zero_le _, rfl, rfl, fun _ => rfl⟩ ?_
  rintro ⟨i, acc, tk⟩ hx
  dsimp only at hx ⊢
  have h1 := hx.1
  have h2 := hx.2.1
  have h3 := hx.2.2.1
  have h4 := hx.2.2.2
  have tg := tot_get (l := l) i
  rcases Nat.lt_or_ge i l.length with hi | hi
  · have hla := last_at hi
    have hd := drop_getDL hi
    rw [hd] at h3 h4
    have hbad := linesD_bad (t := l.getD i []) (r := l.drop (i + 1))
    have hok := linesD_ok (t := l.getD i []) (r := l.drop (i + 1))
    rw [← hla] at hbad hok
    generalize hX : readLine ((i : Int) + 1 == (l.length : Int)) (l.getD i []) = X at *
    repeat' (first
      | (with_reducible refine AW_seqA (AW_block ?_)) | (with_reducible refine AW_block ?_) | (with_reducible refine cut_seqloop ?_) | (with_reducible refine cut_loop ?_) | (with_reducible refine AW_seqA (AW_seqA ?_)) | (with_reducible refine AW_seq ?_) | (with_reducible refine AW_run ?_)
      | simp only [WL, intF, strF, List.toList_toArray, List.set_cons_succ, List.set_cons_zero, List.getD_cons_succ, List.getD_cons_zero, List.getElem?_cons_succ, List.getElem?_cons_zero, List.length_cons, List.length_nil, List.replicate_succ, List.replicate_zero, List.cons_append, List.nil_append, List.append_nil, List.map_cons, List.map_nil, Option.bind_some, Option.map_some, Option.map_none, List.drop_succ_cons, List.drop_zero, List.take_succ_cons, List.take_zero, ← List.map_take, ← List.map_drop, List.take_length, Int.reduceToNat, ne_eq, reduceCtorEq, not_false_eq_true, Nat.reduceAdd, Nat.reduceSub, Nat.reduceLT, Nat.reduceLeDiff, Nat.reduceEqDiff, Nat.zero_lt_succ, Bool.not_true, Bool.not_false, beq_self_eq_true, true_and, and_true, Option.isSome_some, Option.isSome_none, reduceIte, Int.toNat_natCast, Bool.false_eq_true, List.length_map, Nat.le_refl, Option.some.injEq, exists_eq_left', Nat.add_right_cancel_iff, List.take_nil, List.drop_nil, T3, T4, T24, T34, T37, T96, T97, T99, T128, cok64, cok65, Try.results27, hX]
      | (simp (disch := first | omega | (simp only [List.length_append, List.length_map, List.length_cons, List.length_nil, List.length_drop, List.length_take, List.length_replicate]; omega)) only [wrap_id, getI, getS])
      | (with_reducible refine And.intro (by first | omega | exact ⟨_, rfl⟩ | (focus (simp; done)) | (simp; omega)) ?_)
      | ((with_reducible apply wk_load (ty := 24) (ha := ag24) 0); rfl; rfl)
      | ((with_reducible apply wk_load (ty := 24) (ha := ag24) 1); rfl; rfl)
      | ((with_reducible apply wk_load_agg (ty := 99) (ha := ag99) (hs := sz99) 0); rfl; (first | decide | (focus (simp; done)) | omega))
      | ((with_reducible apply wk_load_agg (ty := 99) (ha := ag99) (hs := sz99) 1); rfl; (first | decide | (focus (simp; done)) | omega))
      | ((with_reducible refine storeC_mk ?_); first | ((with_reducible apply act_store_agg (t := 99) (hs := sz99) 0); rfl; (first | decide | (focus (simp; done)) | omega); rfl) | ((with_reducible apply act_store_agg (t := 99) (hs := sz99) 1); rfl; (first | decide | (focus (simp; done)) | omega); rfl))
      | ((with_reducible refine actC_mk ?_); (with_reducible refine act_box ?_ (fun b => ?_)); rfl)
      | ((with_reducible refine actC_mk ?_); (with_reducible refine act_new zr99 ?_ (fun b => ?_)); rfl)
      | ((with_reducible refine actC_mk (act_append_nil (sz := 2) (by decide) ?_)))
      | ((with_reducible refine actC_mk (act_append_src_nil (sz := 2) (by decide) ?_)))
      | ((with_reducible refine actC_mk (act_append 0 rfl sl96 sz99 by99 zr99 rfl ?_ ?_ ?_ (fun tk => ?_))); (first | exact goodI _ | exact goodU _ | rfl | exact goodSL _ | exact goodLL _ | (focus (simp [goodL, oneA, AV.cells]; done)) | skip))
      | ((with_reducible refine (act_append 0 rfl sl96 sz99 by99 zr99 rfl ?_ ?_ ?_ (fun tk => ?_))); (first | exact goodI _ | exact goodU _ | rfl | exact goodSL _ | exact goodLL _ | (focus (simp [goodL, oneA, AV.cells]; done)) | skip))
      | ((with_reducible refine actC_mk (act_append 1 rfl sl96 sz99 by99 zr99 rfl ?_ ?_ ?_ (fun tk => ?_))); (first | exact goodI _ | exact goodU _ | rfl | exact goodSL _ | exact goodLL _ | (focus (simp [goodL, oneA, AV.cells]; done)) | skip))
      | ((with_reducible refine (act_append 1 rfl sl96 sz99 by99 zr99 rfl ?_ ?_ ?_ (fun tk => ?_))); (first | exact goodI _ | exact goodU _ | rfl | exact goodSL _ | exact goodLL _ | (focus (simp [goodL, oneA, AV.cells]; done)) | skip))
      | ((with_reducible refine actC_mk (act_append 2 rfl sl96 sz99 by99 zr99 rfl ?_ ?_ ?_ (fun tk => ?_))); (first | exact goodI _ | exact goodU _ | rfl | exact goodSL _ | exact goodLL _ | (focus (simp [goodL, oneA, AV.cells]; done)) | skip))
      | ((with_reducible refine (act_append 2 rfl sl96 sz99 by99 zr99 rfl ?_ ?_ ?_ (fun tk => ?_))); (first | exact goodI _ | exact goodU _ | rfl | exact goodSL _ | exact goodLL _ | (focus (simp [goodL, oneA, AV.cells]; done)) | skip))
      | ((with_reducible refine wk_bslice sl96 sz99 zr99 (by decide) (by decide) (by decide) (by decide) rfl ?_ ?_ ?_); (first | exact goodI _ | exact goodU _ | rfl | exact goodSL _ | exact goodLL _ | (focus (simp [goodL, oneA, AV.cells]; done))); (all_goals first | (intro x hx; simp at hx; first | (subst hx; rfl) | (rcases hx with rfl | rfl <;> rfl) | (rcases hx with rfl | rfl | rfl <;> rfl) | (repeat (rcases hx with rfl | hx <;> try rfl))) | skip))
      | (with_reducible refine callD_mk (dRead ?_ ?_))
      | (with_reducible refine callD_mk (dFolded ?_ ?_))
      | (with_reducible refine nilTC_pos (by simp; omega) ?_)
      | (with_reducible refine nilTC_split (fun h => ?_) (fun h bn => ?_) <;> (try simp only [List.length_map] at h))
      | (with_reducible refine grd_cases (fun h => ?_) (fun h => ?_) <;> (try simp only [h]) <;> (try simp only [beq_iff_eq, beq_eq_false_iff_ne, bne_iff_ne, bne_eq_false_iff_eq, decide_eq_true_eq, decide_eq_false_iff_not, Bool.not_eq_true', Bool.not_eq_false', Bool.not_true, Bool.not_false, Bool.not_eq_eq_eq_not, ne_eq, Int.not_lt, Int.not_le, gt_iff_lt, ge_iff_le, Decidable.not_not] at h))
      | (with_reducible refine condC_split (fun h => ?_) (fun h => ?_) <;> (try simp only [h]) <;> (try simp only [beq_iff_eq, beq_eq_false_iff_ne, bne_iff_ne, bne_eq_false_iff_eq, decide_eq_true_eq, decide_eq_false_iff_not, Bool.not_eq_true', Bool.not_eq_false', Bool.not_true, Bool.not_false, Bool.not_eq_eq_eq_not, ne_eq, Int.not_lt, Int.not_le, gt_iff_lt, ge_iff_le, Decidable.not_not] at h))
      | omega | (simp only [List.length_append, List.length_map, List.length_cons, List.length_nil, List.length_drop, List.length_take, List.length_replicate]; omega) | (refine maxLen_ok ?_; (first | omega | (simp only [List.length_append, List.length_map, List.length_cons, List.length_nil, List.length_drop, List.length_take, List.length_replicate]; omega))))
    · rw [readD_bad (h3.trans (by rw [hbad (by assumption)])) (by assumption)] at hK
      exact leafL (sub_cons (sub_cons sub_rfl)) (leT_tup (leL_two (le_nilro (by decide)) le_rfl)) hK
    · obtain ⟨k1, k2⟩ := hok (by assumption)
      exact ⟨(i + 1, acc ++ [(X.1, X.2.1)], tk), St_leW (by repeat (first | exact trivial | refine ⟨le_rfl, ?_⟩ | refine ⟨le_any, ?_⟩ | refine ⟨le_ro, ?_⟩ | refine ⟨le_nil (by decide), ?_⟩ | refine ⟨le_wrap (by omega) (by omega) (by omega), ?_⟩ | refine ⟨le_int (by omega), ?_⟩ | refine ⟨le_eq (by simp), ?_⟩)) (ResW.sub (List.sublist_cons_self _ _)) id, ⟨by dsimp only; omega, by simp [h2], h3.trans k1, fun h9 => by dsimp only at h9 ⊢; rw [h4 (by rw [k1]; exact h9), k2 h9]; simp⟩, by dsimp only; omega⟩
  · rw [List.drop_eq_nil_of_le hi] at h3 h4
    have hr := readD_ok h3
    have ha := h4 rfl
    have ht := linesD_tot l
    simp only [linesD, List.append_nil] at ha
    rw [ha] at hr ht
    repeat' (first
      | (with_reducible refine AW_seqA (AW_block ?_)) | (with_reducible refine AW_block ?_) | (with_reducible refine cut_seqloop ?_) | (with_reducible refine cut_loop ?_) | (with_reducible refine AW_seqA (AW_seqA ?_)) | (with_reducible refine AW_seq ?_) | (with_reducible refine AW_run ?_)
      | simp only [WL, intF, strF, List.toList_toArray, List.set_cons_succ, List.set_cons_zero, List.getD_cons_succ, List.getD_cons_zero, List.getElem?_cons_succ, List.getElem?_cons_zero, List.length_cons, List.length_nil, List.replicate_succ, List.replicate_zero, List.cons_append, List.nil_append, List.append_nil, List.map_cons, List.map_nil, Option.bind_some, Option.map_some, Option.map_none, List.drop_succ_cons, List.drop_zero, List.take_succ_cons, List.take_zero, ← List.map_take, ← List.map_drop, List.take_length, Int.reduceToNat, ne_eq, reduceCtorEq, not_false_eq_true, Nat.reduceAdd, Nat.reduceSub, Nat.reduceLT, Nat.reduceLeDiff, Nat.reduceEqDiff, Nat.zero_lt_succ, Bool.not_true, Bool.not_false, beq_self_eq_true, true_and, and_true, Option.isSome_some, Option.isSome_none, reduceIte, Int.toNat_natCast, Bool.false_eq_true, List.length_map, Nat.le_refl, Option.some.injEq, exists_eq_left', Nat.add_right_cancel_iff, List.take_nil, List.drop_nil, T3, T4, T24, T34, T37, T96, T97, T99, T128, cok64, cok65, Try.results27]
      | (simp (disch := first | omega | (simp only [List.length_append, List.length_map, List.length_cons, List.length_nil, List.length_drop, List.length_take, List.length_replicate]; omega)) only [wrap_id, getI])
      | (with_reducible refine And.intro (by first | omega | exact ⟨_, rfl⟩ | (focus (simp; done)) | (simp; omega)) ?_)
      | ((with_reducible apply wk_load (ty := 24) (ha := ag24) 0); rfl; rfl)
      | ((with_reducible apply wk_load (ty := 24) (ha := ag24) 1); rfl; rfl)
      | ((with_reducible apply wk_load_agg (ty := 99) (ha := ag99) (hs := sz99) 0); rfl; (first | decide | (focus (simp; done)) | omega))
      | ((with_reducible apply wk_load_agg (ty := 99) (ha := ag99) (hs := sz99) 1); rfl; (first | decide | (focus (simp; done)) | omega))
      | ((with_reducible refine storeC_mk ?_); first | ((with_reducible apply act_store_agg (t := 99) (hs := sz99) 0); rfl; (first | decide | (focus (simp; done)) | omega); rfl) | ((with_reducible apply act_store_agg (t := 99) (hs := sz99) 1); rfl; (first | decide | (focus (simp; done)) | omega); rfl))
      | ((with_reducible refine actC_mk ?_); (with_reducible refine act_box ?_ (fun b => ?_)); rfl)
      | ((with_reducible refine actC_mk ?_); (with_reducible refine act_new zr99 ?_ (fun b => ?_)); rfl)
      | ((with_reducible refine actC_mk (act_append_nil (sz := 2) (by decide) ?_)))
      | ((with_reducible refine actC_mk (act_append_src_nil (sz := 2) (by decide) ?_)))
      | ((with_reducible refine actC_mk (act_append 0 rfl sl96 sz99 by99 zr99 rfl ?_ ?_ ?_ (fun tk => ?_))); (first | exact goodI _ | exact goodU _ | rfl | exact goodSL _ | exact goodLL _ | (focus (simp [goodL, oneA, AV.cells]; done)) | skip))
      | ((with_reducible refine (act_append 0 rfl sl96 sz99 by99 zr99 rfl ?_ ?_ ?_ (fun tk => ?_))); (first | exact goodI _ | exact goodU _ | rfl | exact goodSL _ | exact goodLL _ | (focus (simp [goodL, oneA, AV.cells]; done)) | skip))
      | ((with_reducible refine actC_mk (act_append 1 rfl sl96 sz99 by99 zr99 rfl ?_ ?_ ?_ (fun tk => ?_))); (first | exact goodI _ | exact goodU _ | rfl | exact goodSL _ | exact goodLL _ | (focus (simp [goodL, oneA, AV.cells]; done)) | skip))
      | ((with_reducible refine (act_append 1 rfl sl96 sz99 by99 zr99 rfl ?_ ?_ ?_ (fun tk => ?_))); (first | exact goodI _ | exact goodU _ | rfl | exact goodSL _ | exact goodLL _ | (focus (simp [goodL, oneA, AV.cells]; done)) | skip))
      | ((with_reducible refine actC_mk (act_append 2 rfl sl96 sz99 by99 zr99 rfl ?_ ?_ ?_ (fun tk => ?_))); (first | exact goodI _ | exact goodU _ | rfl | exact goodSL _ | exact goodLL _ | (focus (simp [goodL, oneA, AV.cells]; done)) | skip))
      | ((with_reducible refine (act_append 2 rfl sl96 sz99 by99 zr99 rfl ?_ ?_ ?_ (fun tk => ?_))); (first | exact goodI _ | exact goodU _ | rfl | exact goodSL _ | exact goodLL _ | (focus (simp [goodL, oneA, AV.cells]; done)) | skip))
      | ((with_reducible refine wk_bslice sl96 sz99 zr99 (by decide) (by decide) (by decide) (by decide) rfl ?_ ?_ ?_); (first | exact goodI _ | exact goodU _ | rfl | exact goodSL _ | exact goodLL _ | (focus (simp [goodL, oneA, AV.cells]; done))); (all_goals first | (intro x hx; simp at hx; first | (subst hx; rfl) | (rcases hx with rfl | rfl <;> rfl) | (rcases hx with rfl | rfl | rfl <;> rfl) | (repeat (rcases hx with rfl | hx <;> try rfl))) | skip))
      | (with_reducible refine callD_mk (dRead ?_ ?_))
      | (with_reducible refine callD_mk (dFolded ?_ ?_))
      | (with_reducible refine nilTC_pos (by simp; omega) ?_)
      | (with_reducible refine nilTC_split (fun h => ?_) (fun h bn => ?_) <;> (try simp only [List.length_map] at h))
      | (with_reducible refine grd_cases (fun h => ?_) (fun h => ?_) <;> (try simp only [h]) <;> (try simp only [beq_iff_eq, beq_eq_false_iff_ne, bne_iff_ne, bne_eq_false_iff_eq, decide_eq_true_eq, decide_eq_false_iff_not, Bool.not_eq_true', Bool.not_eq_false', Bool.not_true, Bool.not_false, Bool.not_eq_eq_eq_not, ne_eq, Int.not_lt, Int.not_le, gt_iff_lt, ge_iff_le, Decidable.not_not] at h))
      | (with_reducible refine condC_split (fun h => ?_) (fun h => ?_) <;> (try simp only [h]) <;> (try simp only [beq_iff_eq, beq_eq_false_iff_ne, bne_iff_ne, bne_eq_false_iff_eq, decide_eq_true_eq, decide_eq_false_iff_not, Bool.not_eq_true', Bool.not_eq_false', Bool.not_true, Bool.not_false, Bool.not_eq_eq_eq_not, ne_eq, Int.not_lt, Int.not_le, gt_iff_lt, ge_iff_le, Decidable.not_not] at h))
      | omega | (simp only [List.length_append, List.length_map, List.length_cons, List.length_nil, List.length_drop, List.length_take, List.length_replicate]; omega) | (refine maxLen_ok ?_; (first | omega | (simp only [List.length_append, List.length_map, List.length_cons, List.length_nil, List.length_drop, List.length_take, List.length_replicate]; omega))))
    exact leafL (sub_cons sub_rfl) (leT_eq (by rw [hr])) hK
end Go.Proofs.Ythnlcdcfbgfncaa
