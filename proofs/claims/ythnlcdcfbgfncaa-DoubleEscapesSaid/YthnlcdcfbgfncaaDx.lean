/-
  The laws DoubleEscapes and DoubleJoins.
-/
import Derived.Test.YthnlcdcfbgfncaaDl
namespace Go.Proofs.Ythnlcdcfbgfncaa
open Go.Abs
set_option linter.unusedVariables false
set_option linter.unusedSimpArgs false
-- hb: 8000000
variable {κ : Ctx} {σ : List Res} {K : Ret → List Res → Prop} {o o' : Option (Option (Nat × Nat))}

set_option maxHeartbeats 8000000 in
theorem hexL {x : Int} (h : 0 ≤ x) (h2 : x < 16) : (((([48, 49, 50, 51, 52, 53, 54, 55, 56, 57, 97, 98, 99, 100, 101, 102] : List UInt8).getD x.toNat 0).toNat : Nat) : Int) = hexD false x := by
  obtain ⟨n, rfl⟩ := Int.eq_ofNat_of_zero_le h
  have : ∀ n : Fin 16, (((([48, 49, 50, 51, 52, 53, 54, 55, 56, 57, 97, 98, 99, 100, 101, 102] : List UInt8).getD n.1 0).toNat : Nat) : Int) = hexD false (n.1 : Nat) := by decide
  exact this ⟨n, by omega⟩
set_option maxHeartbeats 8000000 in
theorem hexU {x : Int} (h : 0 ≤ x) (h2 : x < 16) : (((([48, 49, 50, 51, 52, 53, 54, 55, 56, 57, 65, 66, 67, 68, 69, 70] : List UInt8).getD x.toNat 0).toNat : Nat) : Int) = hexD true x := by
  obtain ⟨n, rfl⟩ := Int.eq_ofNat_of_zero_le h
  have : ∀ n : Fin 16, (((([48, 49, 50, 51, 52, 53, 54, 55, 56, 57, 65, 66, 67, 68, 69, 70] : List UInt8).getD n.1 0).toNat : Nat) : Int) = hexD true (n.1 : Nat) := by decide
  exact this ⟨n, by omega⟩
set_option maxHeartbeats 8000000 in
theorem xuU0 : (((((⟨#[120, 117, 85]⟩ : ByteArray).data.toList.getD 0 0).toNat : Nat) : Int)) = 120 := by decide
set_option maxHeartbeats 8000000 in
theorem xuU1 : (((((⟨#[120, 117, 85]⟩ : ByteArray).data.toList.getD 1 0).toNat : Nat) : Int)) = 117 := by decide
set_option maxHeartbeats 8000000 in
theorem xuU2 : (((((⟨#[120, 117, 85]⟩ : ByteArray).data.toList.getD 2 0).toNat : Nat) : Int)) = 85 := by decide

set_option maxHeartbeats 8000000 in
theorem xuUs : (⟨#[120, 117, 85]⟩ : ByteArray).size = 3 := rfl
set_option maxHeartbeats 8000000 in
theorem hexLs : (⟨#[48, 49, 50, 51, 52, 53, 54, 55, 56, 57, 97, 98, 99, 100, 101, 102]⟩ : ByteArray).size = 16 := rfl
set_option maxHeartbeats 8000000 in
theorem hexUs : (⟨#[48, 49, 50, 51, 52, 53, 54, 55, 56, 57, 65, 66, 67, 68, 69, 70]⟩ : ByteArray).size = 16 := rfl
set_option maxHeartbeats 8000000 in
theorem t4 {m : Nat} : (4 * (m : Int)).toNat = 4 * m := by omega
set_option maxHeartbeats 8000000 in
theorem m1 {m : Nat} : (((m + 1 : Nat) : Int) - 1) = m := by omega

-- marginalialaw7.DoubleEscapes
set_option maxHeartbeats 8000000 in
theorem law_DoubleEscapes (κ : Ctx) (c : Int) (hc : IntKind.i64.min ≤ c ∧ c ≤ IntKind.i64.max) (w : Int) (hw : IntKind.i64.min ≤ w ∧ w ≤ IntKind.i64.max) (up : Bool) (hup : True) : ACallF κ Try.prog 5 [I c, I w, B up] [] (fun r _ => r = .ret (B true)) := by
  rcases (show w = 0 ∨ w = 1 ∨ w = 2 ∨ (w < 0 ∨ 2 < w) by omega) with rfl | rfl | rfl | hww
  · cases up
    ·
      refine ACallF.dropL (ACallF_introA Try.func5 rfl ?_)
      simp only [Try.ntmps5]
      repeat' (first
        | (with_reducible refine AW_seqA (AW_block ?_)) | (with_reducible refine AW_block ?_) | (with_reducible refine cut_seqloop ?_) | (with_reducible refine cut_loop ?_) | (with_reducible refine AW_seqA (AW_seqA ?_)) | (with_reducible refine AW_seq ?_) | (with_reducible refine AW_run ?_)
        | simp only [WL, intF, strF, List.toList_toArray, List.set_cons_succ, List.set_cons_zero, List.getD_cons_succ, List.getD_cons_zero, List.getElem?_cons_succ, List.getElem?_cons_zero, List.length_cons, List.length_nil, List.replicate_succ, List.replicate_zero, List.cons_append, List.nil_append, List.append_nil, List.map_cons, List.map_nil, Option.bind_some, Option.map_some, Option.map_none, List.drop_succ_cons, List.drop_zero, List.take_succ_cons, List.take_zero, ← List.map_take, ← List.map_drop, List.take_length, Int.reduceToNat, ne_eq, reduceCtorEq, not_false_eq_true, Nat.reduceAdd, Nat.reduceSub, Nat.reduceLT, Nat.reduceLeDiff, Nat.reduceEqDiff, Nat.zero_lt_succ, Bool.not_true, Bool.not_false, beq_self_eq_true, true_and, and_true, Option.isSome_some, Option.isSome_none, reduceIte, Int.toNat_natCast, Bool.false_eq_true, List.length_map, Nat.le_refl, Option.some.injEq, exists_eq_left', Nat.add_right_cancel_iff, List.take_nil, List.drop_nil, T3, T4, T5, T9, T24, T33, T34, T37, convC_int in3, convC_int in33, cok26, cok27, cok28, cok29, Try.results5, xuU0, xuU1, xuU2, xuUs, Int.reduceToNat, Int.reducePow, Int.reduceMul, Int.reduceSub]
        | (simp (disch := first | omega | (simp only [List.length_append, List.length_map, List.length_cons, List.length_nil, List.length_drop, List.length_take, List.length_replicate]; omega)) only [wrap_id, getI, shl_i, wrapu_id])
        | (with_reducible refine And.intro (by first | omega | exact ⟨_, rfl⟩ | (focus (simp; done)) | (simp; omega)) ?_)
        | ((with_reducible apply wk_load (ty := 3) (ha := ag3) 0); rfl; rfl)
        | ((with_reducible apply wk_load (ty := 3) (ha := ag3) 1); rfl; rfl)
        | ((with_reducible refine actC_mk (act_append_nil (sz := 1) (by decide) ?_)))
        | ((with_reducible refine actC_mk (act_append_src_nil (sz := 1) (by decide) ?_)))
        | ((with_reducible refine actC_mk (act_append 0 rfl sl24 sz3 by3 zr3 rfl ?_ ?_ ?_ (fun tk => ?_))); (first | exact goodI _ | exact goodU _ | rfl | exact goodSL _ | exact goodLL _ | (focus (simp [goodL, oneA, AV.cells]; done)) | skip))
        | ((with_reducible refine (act_append 0 rfl sl24 sz3 by3 zr3 rfl ?_ ?_ ?_ (fun tk => ?_))); (first | exact goodI _ | exact goodU _ | rfl | exact goodSL _ | exact goodLL _ | (focus (simp [goodL, oneA, AV.cells]; done)) | skip))
        | ((with_reducible refine actC_mk (act_append 1 rfl sl24 sz3 by3 zr3 rfl ?_ ?_ ?_ (fun tk => ?_))); (first | exact goodI _ | exact goodU _ | rfl | exact goodSL _ | exact goodLL _ | (focus (simp [goodL, oneA, AV.cells]; done)) | skip))
        | ((with_reducible refine (act_append 1 rfl sl24 sz3 by3 zr3 rfl ?_ ?_ ?_ (fun tk => ?_))); (first | exact goodI _ | exact goodU _ | rfl | exact goodSL _ | exact goodLL _ | (focus (simp [goodL, oneA, AV.cells]; done)) | skip))
        | ((with_reducible refine actC_mk (act_append 2 rfl sl24 sz3 by3 zr3 rfl ?_ ?_ ?_ (fun tk => ?_))); (first | exact goodI _ | exact goodU _ | rfl | exact goodSL _ | exact goodLL _ | (focus (simp [goodL, oneA, AV.cells]; done)) | skip))
        | ((with_reducible refine (act_append 2 rfl sl24 sz3 by3 zr3 rfl ?_ ?_ ?_ (fun tk => ?_))); (first | exact goodI _ | exact goodU _ | rfl | exact goodSL _ | exact goodLL _ | (focus (simp [goodL, oneA, AV.cells]; done)) | skip))
        | ((with_reducible refine actC_mk (act_bslice_own sl24 sz3 zr3 (by decide) (by decide) (by decide) (by decide) rfl ?_ ?_ (fun tb => ?_))); (first | exact goodI _ | exact goodU _ | rfl | exact goodSL _ | exact goodLL _ | (focus (simp [goodL, oneA, AV.cells]; done))); (first | (intro x hx; simp at hx; first | (subst hx; rfl) | (rcases hx with rfl | rfl <;> rfl) | (rcases hx with rfl | rfl | rfl <;> rfl) | (repeat (rcases hx with rfl | hx <;> try rfl))) | skip))
        | ((with_reducible refine wk_bslice sl37 sz24 zr24 (by decide) (by decide) (by decide) (by decide) rfl ?_ ?_ ?_); (first | exact goodI _ | exact goodU _ | rfl | exact goodSL _ | exact goodLL _ | (focus (simp [goodL, oneA, AV.cells]; done))); (all_goals first | (intro x hx; simp at hx; first | (subst hx; rfl) | (rcases hx with rfl | rfl <;> rfl) | (rcases hx with rfl | rfl | rfl <;> rfl) | (repeat (rcases hx with rfl | hx <;> try rfl))) | skip))
        | (with_reducible refine callD_mk (alive7 ?_))
        | (with_reducible refine callD_mk (dReadAll ?_ ?_))
        | (with_reducible refine callD_mk (num7 ?_))
        | (with_reducible refine callD_mk (sameInts ?_ ?_))
        | (with_reducible refine nilTC_pos (by simp; omega) ?_)
        | (with_reducible refine nilTC_split (fun h => ?_) (fun h bn => ?_) <;> (try simp only [List.length_map] at h))
        | (with_reducible refine grd_cases (fun h => ?_) (fun h => ?_) <;> (try simp only [h]) <;> (try simp only [beq_iff_eq, beq_eq_false_iff_ne, bne_iff_ne, bne_eq_false_iff_eq, decide_eq_true_eq, decide_eq_false_iff_not, Bool.not_eq_true', Bool.not_eq_false', Bool.not_true, Bool.not_false, Bool.not_eq_eq_eq_not, ne_eq, Int.not_lt, Int.not_le, gt_iff_lt, ge_iff_le, Decidable.not_not] at h))
        | (with_reducible refine condC_split (fun h => ?_) (fun h => ?_) <;> (try simp only [h]) <;> (try simp only [beq_iff_eq, beq_eq_false_iff_ne, bne_iff_ne, bne_eq_false_iff_eq, decide_eq_true_eq, decide_eq_false_iff_not, Bool.not_eq_true', Bool.not_eq_false', Bool.not_true, Bool.not_false, Bool.not_eq_eq_eq_not, ne_eq, Int.not_lt, Int.not_le, gt_iff_lt, ge_iff_le, Decidable.not_not] at h))
        | omega | (simp only [List.length_append, List.length_map, List.length_cons, List.length_nil, List.length_drop, List.length_take, List.length_replicate]; omega) | (refine maxLen_ok ?_; (first | omega | (simp only [List.length_append, List.length_map, List.length_cons, List.length_nil, List.length_drop, List.length_take, List.length_replicate]; omega))))
      all_goals try exact leafLaw rfl
      all_goals try omega
      have hlim : c < 256 := by assumption
      refine loopA (fun x : Nat × List Int × Option (Nat × Nat) => ⟨(I c :: I 0 :: B false :: .any :: .any :: .any :: .any :: B true :: .any :: .raw (.string ⟨#[48, 49, 50, 51, 52, 53, 54, 55, 56, 57, 97, 98, 99, 100, 101, 102]⟩) :: SI (some x.2.2) (120 :: 92 :: 120 :: x.2.1) :: I ((x.1 : Int) - 1) :: .any :: .any :: .any :: .any :: .any :: .any :: .any :: .any :: .any :: .any :: .any :: .any :: .any :: .any :: .any :: .any :: .any :: .any :: .any :: .any :: .any :: .any :: .any :: .any :: .any :: .any :: .any :: .any :: .any :: .any :: .any :: .any :: .any :: .any :: .any :: .any :: .any :: .any :: .any :: .any :: .any :: .any :: .any :: .any :: .any :: .any :: .any :: .any :: .any :: .any :: .any :: .any :: .any :: .any :: .any :: .any :: .any :: .any :: .any :: .any :: .any :: .any :: .any :: .any :: .any :: .any :: .any :: .any :: .any :: .any :: .any :: .any :: .any :: .any :: .any :: .any :: .any :: .any :: .any :: .any :: .any :: .any :: .any :: .any :: .any :: .any :: .any :: .any :: .any :: .any :: .any :: .any :: .any :: .any :: .any :: .any :: .any :: .any :: .any :: .any :: .any :: .any :: .any :: .any :: .any :: .any :: []), [.tip x.2.2], true, []⟩)
        (fun x => x.1 ≤ 2 ∧ x.2.1 ++ digs false c x.1 = digs false c 2) (fun x => x.1) (2, [], _) (St_leW (by repeat (first | exact trivial | refine ⟨le_rfl, ?_⟩ | refine ⟨le_any, ?_⟩ | refine ⟨le_ro, ?_⟩ | refine ⟨le_nil (by decide), ?_⟩ | refine ⟨le_wrap (by omega) (by omega) (by omega), ?_⟩ | refine ⟨le_int (by omega), ?_⟩ | refine ⟨le_eq (by simp), ?_⟩)) (ResW.sub (List.Sublist.cons_cons _ (List.nil_sublist _))) id) ⟨Nat.le_refl _, rfl⟩ ?_
      rintro ⟨m, D, tk⟩ hx
      dsimp only at hx ⊢
      have h1 := hx.1
      have h2 := hx.2
      have hln := congrArg List.length h2
      simp only [List.length_append, digs_len] at hln
      rcases m with _ | m
      · have hD : D.length = 2 := by omega
        have hg : numGo 0 D = some c := by
          have hDD : D = digs false c 2 := by rw [← h2]; exact (List.append_nil D).symm
          rw [hDD, numGo_digs (by omega)]
          congr 1
          show 0 * 2 ^ (4 * 2) + c % 2 ^ (4 * 2) = c
          rw [Int.zero_mul, Int.zero_add]
          exact Int.emod_eq_of_lt (by omega) (by omega)
        have hE1 := esc_short (s := 120) (n := 2) (D := D.take (2 - 1)) (by decide) rfl (by decide) (by simp; omega)
        have hE2 := esc_full (s := 120) (c := c) (n := 2) (D := D) (by decide) rfl (by decide) hD hg
        have ht1 : tot [120 :: 92 :: 120 :: D.take (2 - 1)] ≤ 100000000 := by simp [tot]; omega
        have ht2 : tot [120 :: 92 :: 120 :: (D ++ [121])] ≤ 100000000 := by simp [tot]; omega
        simp only [Nat.reduceSub] at hE1 ht1
        cases hr : rightI c
        · have hrn := rightI_not.1 hr
          repeat' (first
            | (with_reducible refine AW_seqA (AW_block ?_)) | (with_reducible refine AW_block ?_) | (with_reducible refine cut_seqloop ?_) | (with_reducible refine cut_loop ?_) | (with_reducible refine AW_seqA (AW_seqA ?_)) | (with_reducible refine AW_seq ?_) | (with_reducible refine AW_run ?_)
            | simp only [WL, intF, strF, List.toList_toArray, List.set_cons_succ, List.set_cons_zero, List.getD_cons_succ, List.getD_cons_zero, List.getElem?_cons_succ, List.getElem?_cons_zero, List.length_cons, List.length_nil, List.replicate_succ, List.replicate_zero, List.cons_append, List.nil_append, List.append_nil, List.map_cons, List.map_nil, Option.bind_some, Option.map_some, Option.map_none, List.drop_succ_cons, List.drop_zero, List.take_succ_cons, List.take_zero, ← List.map_take, ← List.map_drop, List.take_length, Int.reduceToNat, ne_eq, reduceCtorEq, not_false_eq_true, Nat.reduceAdd, Nat.reduceSub, Nat.reduceLT, Nat.reduceLeDiff, Nat.reduceEqDiff, Nat.zero_lt_succ, Bool.not_true, Bool.not_false, beq_self_eq_true, true_and, and_true, Option.isSome_some, Option.isSome_none, reduceIte, Int.toNat_natCast, Bool.false_eq_true, List.length_map, Nat.le_refl, Option.some.injEq, exists_eq_left', Nat.add_right_cancel_iff, List.take_nil, List.drop_nil, T3, T4, T5, T9, T24, T33, T34, T37, convC_int in3, convC_int in33, cok26, cok27, cok28, cok29, Try.results5, hD, hE1, hE2, hr, Int.reduceToNat, Int.reduceSub, Int.reduceNeg, Int.cast_ofNat_Int, Int.natCast_zero, Int.zero_sub]
            | (simp (disch := first | omega | (simp only [List.length_append, List.length_map, List.length_cons, List.length_nil, List.length_drop, List.length_take, List.length_replicate]; omega)) only [wrap_id, getI])
            | (with_reducible refine And.intro (by first | omega | exact ⟨_, rfl⟩ | (focus (simp; done)) | (simp; omega)) ?_)
            | ((with_reducible apply wk_load (ty := 3) (ha := ag3) 0); rfl; rfl)
            | ((with_reducible apply wk_load (ty := 3) (ha := ag3) 1); rfl; rfl)
            | ((with_reducible refine actC_mk (act_append_nil (sz := 1) (by decide) ?_)))
            | ((with_reducible refine actC_mk (act_append_src_nil (sz := 1) (by decide) ?_)))
            | ((with_reducible refine actC_mk (act_append 0 rfl sl24 sz3 by3 zr3 rfl ?_ ?_ ?_ (fun tk => ?_))); (first | exact goodI _ | exact goodU _ | rfl | exact goodSL _ | exact goodLL _ | (focus (simp [goodL, oneA, AV.cells]; done)) | skip))
            | ((with_reducible refine (act_append 0 rfl sl24 sz3 by3 zr3 rfl ?_ ?_ ?_ (fun tk => ?_))); (first | exact goodI _ | exact goodU _ | rfl | exact goodSL _ | exact goodLL _ | (focus (simp [goodL, oneA, AV.cells]; done)) | skip))
            | ((with_reducible refine actC_mk (act_append 1 rfl sl24 sz3 by3 zr3 rfl ?_ ?_ ?_ (fun tk => ?_))); (first | exact goodI _ | exact goodU _ | rfl | exact goodSL _ | exact goodLL _ | (focus (simp [goodL, oneA, AV.cells]; done)) | skip))
            | ((with_reducible refine (act_append 1 rfl sl24 sz3 by3 zr3 rfl ?_ ?_ ?_ (fun tk => ?_))); (first | exact goodI _ | exact goodU _ | rfl | exact goodSL _ | exact goodLL _ | (focus (simp [goodL, oneA, AV.cells]; done)) | skip))
            | ((with_reducible refine actC_mk (act_append 2 rfl sl24 sz3 by3 zr3 rfl ?_ ?_ ?_ (fun tk => ?_))); (first | exact goodI _ | exact goodU _ | rfl | exact goodSL _ | exact goodLL _ | (focus (simp [goodL, oneA, AV.cells]; done)) | skip))
            | ((with_reducible refine (act_append 2 rfl sl24 sz3 by3 zr3 rfl ?_ ?_ ?_ (fun tk => ?_))); (first | exact goodI _ | exact goodU _ | rfl | exact goodSL _ | exact goodLL _ | (focus (simp [goodL, oneA, AV.cells]; done)) | skip))
            | ((with_reducible refine wk_bslice sl24 sz3 zr3 (by decide) (by decide) (by decide) (by decide) rfl ?_ ?_ ?_); (first | exact goodI _ | exact goodU _ | rfl | exact goodSL _ | exact goodLL _ | (focus (simp [goodL, oneA, AV.cells]; done))); (all_goals first | (intro x hx; simp at hx; first | (subst hx; rfl) | (rcases hx with rfl | rfl <;> rfl) | (rcases hx with rfl | rfl | rfl <;> rfl) | (repeat (rcases hx with rfl | hx <;> try rfl))) | skip))
            | ((with_reducible refine wk_bslice sl37 sz24 zr24 (by decide) (by decide) (by decide) (by decide) rfl ?_ ?_ ?_); (first | exact goodI _ | exact goodU _ | rfl | exact goodSL _ | exact goodLL _ | (focus (simp [goodL, oneA, AV.cells]; done))); (all_goals first | (intro x hx; simp at hx; first | (subst hx; rfl) | (rcases hx with rfl | rfl <;> rfl) | (rcases hx with rfl | rfl | rfl <;> rfl) | (repeat (rcases hx with rfl | hx <;> try rfl))) | skip))
            | ( refine callD_mk (ACallF.argsS (ys := [SSI none [120 :: 92 :: 120 :: D.take 1]]) ⟨leS_sl (leC_one rfl rfl (leS_le le_rfl) trivial), trivial⟩ (dReadAll ht1 ?_)))
            | ( refine callD_mk (ACallF.argsS (ys := [SSI none [120 :: 92 :: 120 :: (D ++ [121])]]) ⟨leS_sl (leC_one rfl rfl (leS_trans (leS_eq (show _ = SI (some tk) (120 :: 92 :: 120 :: (D ++ [121])) by simp)) (leS_le le_ro)) trivial), trivial⟩ (dReadAll ht2 ?_)))
            | (with_reducible refine callD_mk (alive7 ?_))
            | (with_reducible refine callD_mk (dReadAll ?_ ?_))
            | (with_reducible refine callD_mk (num7 ?_))
            | (with_reducible refine callD_mk (sameInts ?_ ?_))
            | (with_reducible refine nilTC_pos (by simp; omega) ?_)
            | (with_reducible refine nilTC_split (fun h => ?_) (fun h bn => ?_) <;> (try simp only [List.length_map] at h))
            | (with_reducible refine grd_cases (fun h => ?_) (fun h => ?_) <;> (try simp only [h]) <;> (try simp only [beq_iff_eq, beq_eq_false_iff_ne, bne_iff_ne, bne_eq_false_iff_eq, decide_eq_true_eq, decide_eq_false_iff_not, Bool.not_eq_true', Bool.not_eq_false', Bool.not_true, Bool.not_false, Bool.not_eq_eq_eq_not, ne_eq, Int.not_lt, Int.not_le, gt_iff_lt, ge_iff_le, Decidable.not_not] at h))
            | (with_reducible refine condC_split (fun h => ?_) (fun h => ?_) <;> (try simp only [h]) <;> (try simp only [beq_iff_eq, beq_eq_false_iff_ne, bne_iff_ne, bne_eq_false_iff_eq, decide_eq_true_eq, decide_eq_false_iff_not, Bool.not_eq_true', Bool.not_eq_false', Bool.not_true, Bool.not_false, Bool.not_eq_eq_eq_not, ne_eq, Int.not_lt, Int.not_le, gt_iff_lt, ge_iff_le, Decidable.not_not] at h))
            | omega | (simp only [List.length_append, List.length_map, List.length_cons, List.length_nil, List.length_drop, List.length_take, List.length_replicate]; omega) | (refine maxLen_ok ?_; (first | omega | (simp only [List.length_append, List.length_map, List.length_cons, List.length_nil, List.length_drop, List.length_take, List.length_replicate]; omega))))
          all_goals first
            | exact leafLaw rfl
            | exact leafLaw (decide_eq_true trivial)
            | (rename_i h; exact absurd trivial h)
            | omega
        · have hrn := rightI_iff.1 hr
          repeat' (first
            | (with_reducible refine AW_seqA (AW_block ?_)) | (with_reducible refine AW_block ?_) | (with_reducible refine cut_seqloop ?_) | (with_reducible refine cut_loop ?_) | (with_reducible refine AW_seqA (AW_seqA ?_)) | (with_reducible refine AW_seq ?_) | (with_reducible refine AW_run ?_)
            | simp only [WL, intF, strF, List.toList_toArray, List.set_cons_succ, List.set_cons_zero, List.getD_cons_succ, List.getD_cons_zero, List.getElem?_cons_succ, List.getElem?_cons_zero, List.length_cons, List.length_nil, List.replicate_succ, List.replicate_zero, List.cons_append, List.nil_append, List.append_nil, List.map_cons, List.map_nil, Option.bind_some, Option.map_some, Option.map_none, List.drop_succ_cons, List.drop_zero, List.take_succ_cons, List.take_zero, ← List.map_take, ← List.map_drop, List.take_length, Int.reduceToNat, ne_eq, reduceCtorEq, not_false_eq_true, Nat.reduceAdd, Nat.reduceSub, Nat.reduceLT, Nat.reduceLeDiff, Nat.reduceEqDiff, Nat.zero_lt_succ, Bool.not_true, Bool.not_false, beq_self_eq_true, true_and, and_true, Option.isSome_some, Option.isSome_none, reduceIte, Int.toNat_natCast, Bool.false_eq_true, List.length_map, Nat.le_refl, Option.some.injEq, exists_eq_left', Nat.add_right_cancel_iff, List.take_nil, List.drop_nil, T3, T4, T5, T9, T24, T33, T34, T37, convC_int in3, convC_int in33, cok26, cok27, cok28, cok29, Try.results5, hD, hE1, hE2, hr, Int.reduceToNat, Int.reduceSub, Int.reduceNeg, Int.cast_ofNat_Int, Int.natCast_zero, Int.zero_sub]
            | (simp (disch := first | omega | (simp only [List.length_append, List.length_map, List.length_cons, List.length_nil, List.length_drop, List.length_take, List.length_replicate]; omega)) only [wrap_id, getI])
            | (with_reducible refine And.intro (by first | omega | exact ⟨_, rfl⟩ | (focus (simp; done)) | (simp; omega)) ?_)
            | ((with_reducible apply wk_load (ty := 3) (ha := ag3) 0); rfl; rfl)
            | ((with_reducible apply wk_load (ty := 3) (ha := ag3) 1); rfl; rfl)
            | ((with_reducible refine actC_mk (act_append_nil (sz := 1) (by decide) ?_)))
            | ((with_reducible refine actC_mk (act_append_src_nil (sz := 1) (by decide) ?_)))
            | ((with_reducible refine actC_mk (act_append 0 rfl sl24 sz3 by3 zr3 rfl ?_ ?_ ?_ (fun tk => ?_))); (first | exact goodI _ | exact goodU _ | rfl | exact goodSL _ | exact goodLL _ | (focus (simp [goodL, oneA, AV.cells]; done)) | skip))
            | ((with_reducible refine (act_append 0 rfl sl24 sz3 by3 zr3 rfl ?_ ?_ ?_ (fun tk => ?_))); (first | exact goodI _ | exact goodU _ | rfl | exact goodSL _ | exact goodLL _ | (focus (simp [goodL, oneA, AV.cells]; done)) | skip))
            | ((with_reducible refine actC_mk (act_append 1 rfl sl24 sz3 by3 zr3 rfl ?_ ?_ ?_ (fun tk => ?_))); (first | exact goodI _ | exact goodU _ | rfl | exact goodSL _ | exact goodLL _ | (focus (simp [goodL, oneA, AV.cells]; done)) | skip))
            | ((with_reducible refine (act_append 1 rfl sl24 sz3 by3 zr3 rfl ?_ ?_ ?_ (fun tk => ?_))); (first | exact goodI _ | exact goodU _ | rfl | exact goodSL _ | exact goodLL _ | (focus (simp [goodL, oneA, AV.cells]; done)) | skip))
            | ((with_reducible refine actC_mk (act_append 2 rfl sl24 sz3 by3 zr3 rfl ?_ ?_ ?_ (fun tk => ?_))); (first | exact goodI _ | exact goodU _ | rfl | exact goodSL _ | exact goodLL _ | (focus (simp [goodL, oneA, AV.cells]; done)) | skip))
            | ((with_reducible refine (act_append 2 rfl sl24 sz3 by3 zr3 rfl ?_ ?_ ?_ (fun tk => ?_))); (first | exact goodI _ | exact goodU _ | rfl | exact goodSL _ | exact goodLL _ | (focus (simp [goodL, oneA, AV.cells]; done)) | skip))
            | ((with_reducible refine wk_bslice sl24 sz3 zr3 (by decide) (by decide) (by decide) (by decide) rfl ?_ ?_ ?_); (first | exact goodI _ | exact goodU _ | rfl | exact goodSL _ | exact goodLL _ | (focus (simp [goodL, oneA, AV.cells]; done))); (all_goals first | (intro x hx; simp at hx; first | (subst hx; rfl) | (rcases hx with rfl | rfl <;> rfl) | (rcases hx with rfl | rfl | rfl <;> rfl) | (repeat (rcases hx with rfl | hx <;> try rfl))) | skip))
            | ((with_reducible refine wk_bslice sl37 sz24 zr24 (by decide) (by decide) (by decide) (by decide) rfl ?_ ?_ ?_); (first | exact goodI _ | exact goodU _ | rfl | exact goodSL _ | exact goodLL _ | (focus (simp [goodL, oneA, AV.cells]; done))); (all_goals first | (intro x hx; simp at hx; first | (subst hx; rfl) | (rcases hx with rfl | rfl <;> rfl) | (rcases hx with rfl | rfl | rfl <;> rfl) | (repeat (rcases hx with rfl | hx <;> try rfl))) | skip))
            | ( refine callD_mk (ACallF.argsS (ys := [SSI none [120 :: 92 :: 120 :: D.take 1]]) ⟨leS_sl (leC_one rfl rfl (leS_le le_rfl) trivial), trivial⟩ (dReadAll ht1 ?_)))
            | ( refine callD_mk (ACallF.argsS (ys := [SSI none [120 :: 92 :: 120 :: (D ++ [121])]]) ⟨leS_sl (leC_one rfl rfl (leS_trans (leS_eq (show _ = SI (some tk) (120 :: 92 :: 120 :: (D ++ [121])) by simp)) (leS_le le_ro)) trivial), trivial⟩ (dReadAll ht2 ?_)))
            | ( refine callD_mk (ACallF.argsS (ys := [SI none [120, c, 121], SI none [120, c, 121]]) ⟨leS_le le_rfl, leS_le le_rfl, trivial⟩ (sameInts (by simp) ?_)))
            | (with_reducible refine callD_mk (alive7 ?_))
            | (with_reducible refine callD_mk (dReadAll ?_ ?_))
            | (with_reducible refine callD_mk (num7 ?_))
            | (with_reducible refine callD_mk (sameInts ?_ ?_))
            | (with_reducible refine nilTC_pos (by simp; omega) ?_)
            | (with_reducible refine nilTC_split (fun h => ?_) (fun h bn => ?_) <;> (try simp only [List.length_map] at h))
            | (with_reducible refine grd_cases (fun h => ?_) (fun h => ?_) <;> (try simp only [h]) <;> (try simp only [beq_iff_eq, beq_eq_false_iff_ne, bne_iff_ne, bne_eq_false_iff_eq, decide_eq_true_eq, decide_eq_false_iff_not, Bool.not_eq_true', Bool.not_eq_false', Bool.not_true, Bool.not_false, Bool.not_eq_eq_eq_not, ne_eq, Int.not_lt, Int.not_le, gt_iff_lt, ge_iff_le, Decidable.not_not] at h))
            | (with_reducible refine condC_split (fun h => ?_) (fun h => ?_) <;> (try simp only [h]) <;> (try simp only [beq_iff_eq, beq_eq_false_iff_ne, bne_iff_ne, bne_eq_false_iff_eq, decide_eq_true_eq, decide_eq_false_iff_not, Bool.not_eq_true', Bool.not_eq_false', Bool.not_true, Bool.not_false, Bool.not_eq_eq_eq_not, ne_eq, Int.not_lt, Int.not_le, gt_iff_lt, ge_iff_le, Decidable.not_not] at h))
            | omega | (simp only [List.length_append, List.length_map, List.length_cons, List.length_nil, List.length_drop, List.length_take, List.length_replicate]; omega) | (refine maxLen_ok ?_; (first | omega | (simp only [List.length_append, List.length_map, List.length_cons, List.length_nil, List.length_drop, List.length_take, List.length_replicate]; omega))))
          all_goals first
            | exact leafLaw rfl
            | exact leafLaw (decide_eq_true trivial)
            | (rename_i h; exact absurd trivial h)
            | omega
      · have hx16 : 0 ≤ c / 2 ^ (4 * m) % 16 ∧ c / 2 ^ (4 * m) % 16 < 16 := by omega
        have hxd := hexD_le (up := false) hx16.1 hx16.2
        repeat' (first
          | (with_reducible refine AW_seqA (AW_block ?_)) | (with_reducible refine AW_block ?_) | (with_reducible refine cut_seqloop ?_) | (with_reducible refine cut_loop ?_) | (with_reducible refine AW_seqA (AW_seqA ?_)) | (with_reducible refine AW_seq ?_) | (with_reducible refine AW_run ?_)
          | simp only [WL, intF, strF, List.toList_toArray, List.set_cons_succ, List.set_cons_zero, List.getD_cons_succ, List.getD_cons_zero, List.getElem?_cons_succ, List.getElem?_cons_zero, List.length_cons, List.length_nil, List.replicate_succ, List.replicate_zero, List.cons_append, List.nil_append, List.append_nil, List.map_cons, List.map_nil, Option.bind_some, Option.map_some, Option.map_none, List.drop_succ_cons, List.drop_zero, List.take_succ_cons, List.take_zero, ← List.map_take, ← List.map_drop, List.take_length, Int.reduceToNat, ne_eq, reduceCtorEq, not_false_eq_true, Nat.reduceAdd, Nat.reduceSub, Nat.reduceLT, Nat.reduceLeDiff, Nat.reduceEqDiff, Nat.zero_lt_succ, Bool.not_true, Bool.not_false, beq_self_eq_true, true_and, and_true, Option.isSome_some, Option.isSome_none, reduceIte, Int.toNat_natCast, Bool.false_eq_true, List.length_map, Nat.le_refl, Option.some.injEq, exists_eq_left', Nat.add_right_cancel_iff, List.take_nil, List.drop_nil, T3, T4, T5, T9, T24, T33, T34, T37, convC_int in3, convC_int in33, cok26, cok27, cok28, cok29, Try.results5, m1, t4, fold_and, and15, hexLs, hexUs]
          | (simp (disch := first | omega | (simp only [List.length_append, List.length_map, List.length_cons, List.length_nil, List.length_drop, List.length_take, List.length_replicate]; omega)) only [wrap_id, getI, shr_i, wrapu_id, hexL, hexU])
          | (with_reducible refine And.intro (by first | omega | exact ⟨_, rfl⟩ | (focus (simp; done)) | (simp; omega)) ?_)
          | ((with_reducible apply wk_load (ty := 3) (ha := ag3) 0); rfl; rfl)
          | ((with_reducible apply wk_load (ty := 3) (ha := ag3) 1); rfl; rfl)
          | ((with_reducible refine actC_mk (act_append_nil (sz := 1) (by decide) ?_)))
          | ((with_reducible refine actC_mk (act_append_src_nil (sz := 1) (by decide) ?_)))
          | ((with_reducible refine actC_mk (act_append 0 rfl sl24 sz3 by3 zr3 rfl ?_ ?_ ?_ (fun tk => ?_))); (first | exact goodI _ | exact goodU _ | rfl | exact goodSL _ | exact goodLL _ | (focus (simp [goodL, oneA, AV.cells]; done)) | skip))
          | ((with_reducible refine (act_append 0 rfl sl24 sz3 by3 zr3 rfl ?_ ?_ ?_ (fun tk => ?_))); (first | exact goodI _ | exact goodU _ | rfl | exact goodSL _ | exact goodLL _ | (focus (simp [goodL, oneA, AV.cells]; done)) | skip))
          | ((with_reducible refine actC_mk (act_append 1 rfl sl24 sz3 by3 zr3 rfl ?_ ?_ ?_ (fun tk => ?_))); (first | exact goodI _ | exact goodU _ | rfl | exact goodSL _ | exact goodLL _ | (focus (simp [goodL, oneA, AV.cells]; done)) | skip))
          | ((with_reducible refine (act_append 1 rfl sl24 sz3 by3 zr3 rfl ?_ ?_ ?_ (fun tk => ?_))); (first | exact goodI _ | exact goodU _ | rfl | exact goodSL _ | exact goodLL _ | (focus (simp [goodL, oneA, AV.cells]; done)) | skip))
          | ((with_reducible refine actC_mk (act_append 2 rfl sl24 sz3 by3 zr3 rfl ?_ ?_ ?_ (fun tk => ?_))); (first | exact goodI _ | exact goodU _ | rfl | exact goodSL _ | exact goodLL _ | (focus (simp [goodL, oneA, AV.cells]; done)) | skip))
          | ((with_reducible refine (act_append 2 rfl sl24 sz3 by3 zr3 rfl ?_ ?_ ?_ (fun tk => ?_))); (first | exact goodI _ | exact goodU _ | rfl | exact goodSL _ | exact goodLL _ | (focus (simp [goodL, oneA, AV.cells]; done)) | skip))
          | ((with_reducible refine wk_bslice sl24 sz3 zr3 (by decide) (by decide) (by decide) (by decide) rfl ?_ ?_ ?_); (first | exact goodI _ | exact goodU _ | rfl | exact goodSL _ | exact goodLL _ | (focus (simp [goodL, oneA, AV.cells]; done))); (all_goals first | (intro x hx; simp at hx; first | (subst hx; rfl) | (rcases hx with rfl | rfl <;> rfl) | (rcases hx with rfl | rfl | rfl <;> rfl) | (repeat (rcases hx with rfl | hx <;> try rfl))) | skip))
          | ((with_reducible refine wk_bslice sl37 sz24 zr24 (by decide) (by decide) (by decide) (by decide) rfl ?_ ?_ ?_); (first | exact goodI _ | exact goodU _ | rfl | exact goodSL _ | exact goodLL _ | (focus (simp [goodL, oneA, AV.cells]; done))); (all_goals first | (intro x hx; simp at hx; first | (subst hx; rfl) | (rcases hx with rfl | rfl <;> rfl) | (rcases hx with rfl | rfl | rfl <;> rfl) | (repeat (rcases hx with rfl | hx <;> try rfl))) | skip))
          | (with_reducible refine callD_mk (alive7 ?_))
          | (with_reducible refine callD_mk (dReadAll ?_ ?_))
          | (with_reducible refine callD_mk (num7 ?_))
          | (with_reducible refine callD_mk (sameInts ?_ ?_))
          | (with_reducible refine nilTC_pos (by simp; omega) ?_)
          | (with_reducible refine nilTC_split (fun h => ?_) (fun h bn => ?_) <;> (try simp only [List.length_map] at h))
          | (with_reducible refine grd_cases (fun h => ?_) (fun h => ?_) <;> (try simp only [h]) <;> (try simp only [beq_iff_eq, beq_eq_false_iff_ne, bne_iff_ne, bne_eq_false_iff_eq, decide_eq_true_eq, decide_eq_false_iff_not, Bool.not_eq_true', Bool.not_eq_false', Bool.not_true, Bool.not_false, Bool.not_eq_eq_eq_not, ne_eq, Int.not_lt, Int.not_le, gt_iff_lt, ge_iff_le, Decidable.not_not] at h))
          | (with_reducible refine condC_split (fun h => ?_) (fun h => ?_) <;> (try simp only [h]) <;> (try simp only [beq_iff_eq, beq_eq_false_iff_ne, bne_iff_ne, bne_eq_false_iff_eq, decide_eq_true_eq, decide_eq_false_iff_not, Bool.not_eq_true', Bool.not_eq_false', Bool.not_true, Bool.not_false, Bool.not_eq_eq_eq_not, ne_eq, Int.not_lt, Int.not_le, gt_iff_lt, ge_iff_le, Decidable.not_not] at h))
          | omega | (simp only [List.length_append, List.length_map, List.length_cons, List.length_nil, List.length_drop, List.length_take, List.length_replicate]; omega) | (refine maxLen_ok ?_; (first | omega | (simp only [List.length_append, List.length_map, List.length_cons, List.length_nil, List.length_drop, List.length_take, List.length_replicate]; omega))))
        exact ⟨(m, D ++ [hexD false (c / 2 ^ (4 * m) % 16)], tk), St_leW (by repeat (first | exact trivial | refine ⟨le_rfl, ?_⟩ | refine ⟨le_any, ?_⟩ | refine ⟨le_ro, ?_⟩ | refine ⟨le_nil (by decide), ?_⟩ | refine ⟨le_wrap (by omega) (by omega) (by omega), ?_⟩ | refine ⟨le_int (by omega), ?_⟩ | refine ⟨le_eq (by simp), ?_⟩)) (ResW.refl _) id, ⟨by dsimp only; omega, by dsimp only; rw [← h2]; simp [digs]⟩, by dsimp only; omega⟩
    ·
      refine ACallF.dropL (ACallF_introA Try.func5 rfl ?_)
      simp only [Try.ntmps5]
      repeat' (first
        | (with_reducible refine AW_seqA (AW_block ?_)) | (with_reducible refine AW_block ?_) | (with_reducible refine cut_seqloop ?_) | (with_reducible refine cut_loop ?_) | (with_reducible refine AW_seqA (AW_seqA ?_)) | (with_reducible refine AW_seq ?_) | (with_reducible refine AW_run ?_)
        | simp only [WL, intF, strF, List.toList_toArray, List.set_cons_succ, List.set_cons_zero, List.getD_cons_succ, List.getD_cons_zero, List.getElem?_cons_succ, List.getElem?_cons_zero, List.length_cons, List.length_nil, List.replicate_succ, List.replicate_zero, List.cons_append, List.nil_append, List.append_nil, List.map_cons, List.map_nil, Option.bind_some, Option.map_some, Option.map_none, List.drop_succ_cons, List.drop_zero, List.take_succ_cons, List.take_zero, ← List.map_take, ← List.map_drop, List.take_length, Int.reduceToNat, ne_eq, reduceCtorEq, not_false_eq_true, Nat.reduceAdd, Nat.reduceSub, Nat.reduceLT, Nat.reduceLeDiff, Nat.reduceEqDiff, Nat.zero_lt_succ, Bool.not_true, Bool.not_false, beq_self_eq_true, true_and, and_true, Option.isSome_some, Option.isSome_none, reduceIte, Int.toNat_natCast, Bool.false_eq_true, List.length_map, Nat.le_refl, Option.some.injEq, exists_eq_left', Nat.add_right_cancel_iff, List.take_nil, List.drop_nil, T3, T4, T5, T9, T24, T33, T34, T37, convC_int in3, convC_int in33, cok26, cok27, cok28, cok29, Try.results5, xuU0, xuU1, xuU2, xuUs, Int.reduceToNat, Int.reducePow, Int.reduceMul, Int.reduceSub]
        | (simp (disch := first | omega | (simp only [List.length_append, List.length_map, List.length_cons, List.length_nil, List.length_drop, List.length_take, List.length_replicate]; omega)) only [wrap_id, getI, shl_i, wrapu_id])
        | (with_reducible refine And.intro (by first | omega | exact ⟨_, rfl⟩ | (focus (simp; done)) | (simp; omega)) ?_)
        | ((with_reducible apply wk_load (ty := 3) (ha := ag3) 0); rfl; rfl)
        | ((with_reducible apply wk_load (ty := 3) (ha := ag3) 1); rfl; rfl)
        | ((with_reducible refine actC_mk (act_append_nil (sz := 1) (by decide) ?_)))
        | ((with_reducible refine actC_mk (act_append_src_nil (sz := 1) (by decide) ?_)))
        | ((with_reducible refine actC_mk (act_append 0 rfl sl24 sz3 by3 zr3 rfl ?_ ?_ ?_ (fun tk => ?_))); (first | exact goodI _ | exact goodU _ | rfl | exact goodSL _ | exact goodLL _ | (focus (simp [goodL, oneA, AV.cells]; done)) | skip))
        | ((with_reducible refine (act_append 0 rfl sl24 sz3 by3 zr3 rfl ?_ ?_ ?_ (fun tk => ?_))); (first | exact goodI _ | exact goodU _ | rfl | exact goodSL _ | exact goodLL _ | (focus (simp [goodL, oneA, AV.cells]; done)) | skip))
        | ((with_reducible refine actC_mk (act_append 1 rfl sl24 sz3 by3 zr3 rfl ?_ ?_ ?_ (fun tk => ?_))); (first | exact goodI _ | exact goodU _ | rfl | exact goodSL _ | exact goodLL _ | (focus (simp [goodL, oneA, AV.cells]; done)) | skip))
        | ((with_reducible refine (act_append 1 rfl sl24 sz3 by3 zr3 rfl ?_ ?_ ?_ (fun tk => ?_))); (first | exact goodI _ | exact goodU _ | rfl | exact goodSL _ | exact goodLL _ | (focus (simp [goodL, oneA, AV.cells]; done)) | skip))
        | ((with_reducible refine actC_mk (act_append 2 rfl sl24 sz3 by3 zr3 rfl ?_ ?_ ?_ (fun tk => ?_))); (first | exact goodI _ | exact goodU _ | rfl | exact goodSL _ | exact goodLL _ | (focus (simp [goodL, oneA, AV.cells]; done)) | skip))
        | ((with_reducible refine (act_append 2 rfl sl24 sz3 by3 zr3 rfl ?_ ?_ ?_ (fun tk => ?_))); (first | exact goodI _ | exact goodU _ | rfl | exact goodSL _ | exact goodLL _ | (focus (simp [goodL, oneA, AV.cells]; done)) | skip))
        | ((with_reducible refine actC_mk (act_bslice_own sl24 sz3 zr3 (by decide) (by decide) (by decide) (by decide) rfl ?_ ?_ (fun tb => ?_))); (first | exact goodI _ | exact goodU _ | rfl | exact goodSL _ | exact goodLL _ | (focus (simp [goodL, oneA, AV.cells]; done))); (first | (intro x hx; simp at hx; first | (subst hx; rfl) | (rcases hx with rfl | rfl <;> rfl) | (rcases hx with rfl | rfl | rfl <;> rfl) | (repeat (rcases hx with rfl | hx <;> try rfl))) | skip))
        | ((with_reducible refine wk_bslice sl37 sz24 zr24 (by decide) (by decide) (by decide) (by decide) rfl ?_ ?_ ?_); (first | exact goodI _ | exact goodU _ | rfl | exact goodSL _ | exact goodLL _ | (focus (simp [goodL, oneA, AV.cells]; done))); (all_goals first | (intro x hx; simp at hx; first | (subst hx; rfl) | (rcases hx with rfl | rfl <;> rfl) | (rcases hx with rfl | rfl | rfl <;> rfl) | (repeat (rcases hx with rfl | hx <;> try rfl))) | skip))
        | (with_reducible refine callD_mk (alive7 ?_))
        | (with_reducible refine callD_mk (dReadAll ?_ ?_))
        | (with_reducible refine callD_mk (num7 ?_))
        | (with_reducible refine callD_mk (sameInts ?_ ?_))
        | (with_reducible refine nilTC_pos (by simp; omega) ?_)
        | (with_reducible refine nilTC_split (fun h => ?_) (fun h bn => ?_) <;> (try simp only [List.length_map] at h))
        | (with_reducible refine grd_cases (fun h => ?_) (fun h => ?_) <;> (try simp only [h]) <;> (try simp only [beq_iff_eq, beq_eq_false_iff_ne, bne_iff_ne, bne_eq_false_iff_eq, decide_eq_true_eq, decide_eq_false_iff_not, Bool.not_eq_true', Bool.not_eq_false', Bool.not_true, Bool.not_false, Bool.not_eq_eq_eq_not, ne_eq, Int.not_lt, Int.not_le, gt_iff_lt, ge_iff_le, Decidable.not_not] at h))
        | (with_reducible refine condC_split (fun h => ?_) (fun h => ?_) <;> (try simp only [h]) <;> (try simp only [beq_iff_eq, beq_eq_false_iff_ne, bne_iff_ne, bne_eq_false_iff_eq, decide_eq_true_eq, decide_eq_false_iff_not, Bool.not_eq_true', Bool.not_eq_false', Bool.not_true, Bool.not_false, Bool.not_eq_eq_eq_not, ne_eq, Int.not_lt, Int.not_le, gt_iff_lt, ge_iff_le, Decidable.not_not] at h))
        | omega | (simp only [List.length_append, List.length_map, List.length_cons, List.length_nil, List.length_drop, List.length_take, List.length_replicate]; omega) | (refine maxLen_ok ?_; (first | omega | (simp only [List.length_append, List.length_map, List.length_cons, List.length_nil, List.length_drop, List.length_take, List.length_replicate]; omega))))
      all_goals try exact leafLaw rfl
      all_goals try omega
      have hlim : c < 256 := by assumption
      refine loopA (fun x : Nat × List Int × Option (Nat × Nat) => ⟨(I c :: I 0 :: B true :: .any :: .any :: .any :: .any :: B true :: .any :: .raw (.string ⟨#[48, 49, 50, 51, 52, 53, 54, 55, 56, 57, 65, 66, 67, 68, 69, 70]⟩) :: SI (some x.2.2) (120 :: 92 :: 120 :: x.2.1) :: I ((x.1 : Int) - 1) :: .any :: .any :: .any :: .any :: .any :: .any :: .any :: .any :: .any :: .any :: .any :: .any :: .any :: .any :: .any :: .any :: .any :: .any :: .any :: .any :: .any :: .any :: .any :: .any :: .any :: .any :: .any :: .any :: .any :: .any :: .any :: .any :: .any :: .any :: .any :: .any :: .any :: .any :: .any :: .any :: .any :: .any :: .any :: .any :: .any :: .any :: .any :: .any :: .any :: .any :: .any :: .any :: .any :: .any :: .any :: .any :: .any :: .any :: .any :: .any :: .any :: .any :: .any :: .any :: .any :: .any :: .any :: .any :: .any :: .any :: .any :: .any :: .any :: .any :: .any :: .any :: .any :: .any :: .any :: .any :: .any :: .any :: .any :: .any :: .any :: .any :: .any :: .any :: .any :: .any :: .any :: .any :: .any :: .any :: .any :: .any :: .any :: .any :: .any :: .any :: .any :: .any :: .any :: .any :: .any :: .any :: []), [.tip x.2.2], true, []⟩)
        (fun x => x.1 ≤ 2 ∧ x.2.1 ++ digs true c x.1 = digs true c 2) (fun x => x.1) (2, [], _) (St_leW (by repeat (first | exact trivial | refine ⟨le_rfl, ?_⟩ | refine ⟨le_any, ?_⟩ | refine ⟨le_ro, ?_⟩ | refine ⟨le_nil (by decide), ?_⟩ | refine ⟨le_wrap (by omega) (by omega) (by omega), ?_⟩ | refine ⟨le_int (by omega), ?_⟩ | refine ⟨le_eq (by simp), ?_⟩)) (ResW.sub (List.Sublist.cons_cons _ (List.nil_sublist _))) id) ⟨Nat.le_refl _, rfl⟩ ?_
      rintro ⟨m, D, tk⟩ hx
      dsimp only at hx ⊢
      have h1 := hx.1
      have h2 := hx.2
      have hln := congrArg List.length h2
      simp only [List.length_append, digs_len] at hln
      rcases m with _ | m
      · have hD : D.length = 2 := by omega
        have hg : numGo 0 D = some c := by
          have hDD : D = digs true c 2 := by rw [← h2]; exact (List.append_nil D).symm
          rw [hDD, numGo_digs (by omega)]
          congr 1
          show 0 * 2 ^ (4 * 2) + c % 2 ^ (4 * 2) = c
          rw [Int.zero_mul, Int.zero_add]
          exact Int.emod_eq_of_lt (by omega) (by omega)
        have hE1 := esc_short (s := 120) (n := 2) (D := D.take (2 - 1)) (by decide) rfl (by decide) (by simp; omega)
        have hE2 := esc_full (s := 120) (c := c) (n := 2) (D := D) (by decide) rfl (by decide) hD hg
        have ht1 : tot [120 :: 92 :: 120 :: D.take (2 - 1)] ≤ 100000000 := by simp [tot]; omega
        have ht2 : tot [120 :: 92 :: 120 :: (D ++ [121])] ≤ 100000000 := by simp [tot]; omega
        simp only [Nat.reduceSub] at hE1 ht1
        cases hr : rightI c
        · have hrn := rightI_not.1 hr
          repeat' (first
            | (with_reducible refine AW_seqA (AW_block ?_)) | (with_reducible refine AW_block ?_) | (with_reducible refine cut_seqloop ?_) | (with_reducible refine cut_loop ?_) | (with_reducible refine AW_seqA (AW_seqA ?_)) | (with_reducible refine AW_seq ?_) | (with_reducible refine AW_run ?_)
            | simp only [WL, intF, strF, List.toList_toArray, List.set_cons_succ, List.set_cons_zero, List.getD_cons_succ, List.getD_cons_zero, List.getElem?_cons_succ, List.getElem?_cons_zero, List.length_cons, List.length_nil, List.replicate_succ, List.replicate_zero, List.cons_append, List.nil_append, List.append_nil, List.map_cons, List.map_nil, Option.bind_some, Option.map_some, Option.map_none, List.drop_succ_cons, List.drop_zero, List.take_succ_cons, List.take_zero, ← List.map_take, ← List.map_drop, List.take_length, Int.reduceToNat, ne_eq, reduceCtorEq, not_false_eq_true, Nat.reduceAdd, Nat.reduceSub, Nat.reduceLT, Nat.reduceLeDiff, Nat.reduceEqDiff, Nat.zero_lt_succ, Bool.not_true, Bool.not_false, beq_self_eq_true, true_and, and_true, Option.isSome_some, Option.isSome_none, reduceIte, Int.toNat_natCast, Bool.false_eq_true, List.length_map, Nat.le_refl, Option.some.injEq, exists_eq_left', Nat.add_right_cancel_iff, List.take_nil, List.drop_nil, T3, T4, T5, T9, T24, T33, T34, T37, convC_int in3, convC_int in33, cok26, cok27, cok28, cok29, Try.results5, hD, hE1, hE2, hr, Int.reduceToNat, Int.reduceSub, Int.reduceNeg, Int.cast_ofNat_Int, Int.natCast_zero, Int.zero_sub]
            | (simp (disch := first | omega | (simp only [List.length_append, List.length_map, List.length_cons, List.length_nil, List.length_drop, List.length_take, List.length_replicate]; omega)) only [wrap_id, getI])
            | (with_reducible refine And.intro (by first | omega | exact ⟨_, rfl⟩ | (focus (simp; done)) | (simp; omega)) ?_)
            | ((with_reducible apply wk_load (ty := 3) (ha := ag3) 0); rfl; rfl)
            | ((with_reducible apply wk_load (ty := 3) (ha := ag3) 1); rfl; rfl)
            | ((with_reducible refine actC_mk (act_append_nil (sz := 1) (by decide) ?_)))
            | ((with_reducible refine actC_mk (act_append_src_nil (sz := 1) (by decide) ?_)))
            | ((with_reducible refine actC_mk (act_append 0 rfl sl24 sz3 by3 zr3 rfl ?_ ?_ ?_ (fun tk => ?_))); (first | exact goodI _ | exact goodU _ | rfl | exact goodSL _ | exact goodLL _ | (focus (simp [goodL, oneA, AV.cells]; done)) | skip))
            | ((with_reducible refine (act_append 0 rfl sl24 sz3 by3 zr3 rfl ?_ ?_ ?_ (fun tk => ?_))); (first | exact goodI _ | exact goodU _ | rfl | exact goodSL _ | exact goodLL _ | (focus (simp [goodL, oneA, AV.cells]; done)) | skip))
            | ((with_reducible refine actC_mk (act_append 1 rfl sl24 sz3 by3 zr3 rfl ?_ ?_ ?_ (fun tk => ?_))); (first | exact goodI _ | exact goodU _ | rfl | exact goodSL _ | exact goodLL _ | (focus (simp [goodL, oneA, AV.cells]; done)) | skip))
            | ((with_reducible refine (act_append 1 rfl sl24 sz3 by3 zr3 rfl ?_ ?_ ?_ (fun tk => ?_))); (first | exact goodI _ | exact goodU _ | rfl | exact goodSL _ | exact goodLL _ | (focus (simp [goodL, oneA, AV.cells]; done)) | skip))
            | ((with_reducible refine actC_mk (act_append 2 rfl sl24 sz3 by3 zr3 rfl ?_ ?_ ?_ (fun tk => ?_))); (first | exact goodI _ | exact goodU _ | rfl | exact goodSL _ | exact goodLL _ | (focus (simp [goodL, oneA, AV.cells]; done)) | skip))
            | ((with_reducible refine (act_append 2 rfl sl24 sz3 by3 zr3 rfl ?_ ?_ ?_ (fun tk => ?_))); (first | exact goodI _ | exact goodU _ | rfl | exact goodSL _ | exact goodLL _ | (focus (simp [goodL, oneA, AV.cells]; done)) | skip))
            | ((with_reducible refine wk_bslice sl24 sz3 zr3 (by decide) (by decide) (by decide) (by decide) rfl ?_ ?_ ?_); (first | exact goodI _ | exact goodU _ | rfl | exact goodSL _ | exact goodLL _ | (focus (simp [goodL, oneA, AV.cells]; done))); (all_goals first | (intro x hx; simp at hx; first | (subst hx; rfl) | (rcases hx with rfl | rfl <;> rfl) | (rcases hx with rfl | rfl | rfl <;> rfl) | (repeat (rcases hx with rfl | hx <;> try rfl))) | skip))
            | ((with_reducible refine wk_bslice sl37 sz24 zr24 (by decide) (by decide) (by decide) (by decide) rfl ?_ ?_ ?_); (first | exact goodI _ | exact goodU _ | rfl | exact goodSL _ | exact goodLL _ | (focus (simp [goodL, oneA, AV.cells]; done))); (all_goals first | (intro x hx; simp at hx; first | (subst hx; rfl) | (rcases hx with rfl | rfl <;> rfl) | (rcases hx with rfl | rfl | rfl <;> rfl) | (repeat (rcases hx with rfl | hx <;> try rfl))) | skip))
            | ( refine callD_mk (ACallF.argsS (ys := [SSI none [120 :: 92 :: 120 :: D.take 1]]) ⟨leS_sl (leC_one rfl rfl (leS_le le_rfl) trivial), trivial⟩ (dReadAll ht1 ?_)))
            | ( refine callD_mk (ACallF.argsS (ys := [SSI none [120 :: 92 :: 120 :: (D ++ [121])]]) ⟨leS_sl (leC_one rfl rfl (leS_trans (leS_eq (show _ = SI (some tk) (120 :: 92 :: 120 :: (D ++ [121])) by simp)) (leS_le le_ro)) trivial), trivial⟩ (dReadAll ht2 ?_)))
            | (with_reducible refine callD_mk (alive7 ?_))
            | (with_reducible refine callD_mk (dReadAll ?_ ?_))
            | (with_reducible refine callD_mk (num7 ?_))
            | (with_reducible refine callD_mk (sameInts ?_ ?_))
            | (with_reducible refine nilTC_pos (by simp; omega) ?_)
            | (with_reducible refine nilTC_split (fun h => ?_) (fun h bn => ?_) <;> (try simp only [List.length_map] at h))
            | (with_reducible refine grd_cases (fun h => ?_) (fun h => ?_) <;> (try simp only [h]) <;> (try simp only [beq_iff_eq, beq_eq_false_iff_ne, bne_iff_ne, bne_eq_false_iff_eq, decide_eq_true_eq, decide_eq_false_iff_not, Bool.not_eq_true', Bool.not_eq_false', Bool.not_true, Bool.not_false, Bool.not_eq_eq_eq_not, ne_eq, Int.not_lt, Int.not_le, gt_iff_lt, ge_iff_le, Decidable.not_not] at h))
            | (with_reducible refine condC_split (fun h => ?_) (fun h => ?_) <;> (try simp only [h]) <;> (try simp only [beq_iff_eq, beq_eq_false_iff_ne, bne_iff_ne, bne_eq_false_iff_eq, decide_eq_true_eq, decide_eq_false_iff_not, Bool.not_eq_true', Bool.not_eq_false', Bool.not_true, Bool.not_false, Bool.not_eq_eq_eq_not, ne_eq, Int.not_lt, Int.not_le, gt_iff_lt, ge_iff_le, Decidable.not_not] at h))
            | omega | (simp only [List.length_append, List.length_map, List.length_cons, List.length_nil, List.length_drop, List.length_take, List.length_replicate]; omega) | (refine maxLen_ok ?_; (first | omega | (simp only [List.length_append, List.length_map, List.length_cons, List.length_nil, List.length_drop, List.length_take, List.length_replicate]; omega))))
          all_goals first
            | exact leafLaw rfl
            | exact leafLaw (decide_eq_true trivial)
            | (rename_i h; exact absurd trivial h)
            | omega
        · have hrn := rightI_iff.1 hr
          repeat' (first
            | (with_reducible refine AW_seqA (AW_block ?_)) | (with_reducible refine AW_block ?_) | (with_reducible refine cut_seqloop ?_) | (with_reducible refine cut_loop ?_) | (with_reducible refine AW_seqA (AW_seqA ?_)) | (with_reducible refine AW_seq ?_) | (with_reducible refine AW_run ?_)
            | simp only [WL, intF, strF, List.toList_toArray, List.set_cons_succ, List.set_cons_zero, List.getD_cons_succ, List.getD_cons_zero, List.getElem?_cons_succ, List.getElem?_cons_zero, List.length_cons, List.length_nil, List.replicate_succ, List.replicate_zero, List.cons_append, List.nil_append, List.append_nil, List.map_cons, List.map_nil, Option.bind_some, Option.map_some, Option.map_none, List.drop_succ_cons, List.drop_zero, List.take_succ_cons, List.take_zero, ← List.map_take, ← List.map_drop, List.take_length, Int.reduceToNat, ne_eq, reduceCtorEq, not_false_eq_true, Nat.reduceAdd, Nat.reduceSub, Nat.reduceLT, Nat.reduceLeDiff, Nat.reduceEqDiff, Nat.zero_lt_succ, Bool.not_true, Bool.not_false, beq_self_eq_true, true_and, and_true, Option.isSome_some, Option.isSome_none, reduceIte, Int.toNat_natCast, Bool.false_eq_true, List.length_map, Nat.le_refl, Option.some.injEq, exists_eq_left', Nat.add_right_cancel_iff, List.take_nil, List.drop_nil, T3, T4, T5, T9, T24, T33, T34, T37, convC_int in3, convC_int in33, cok26, cok27, cok28, cok29, Try.results5, hD, hE1, hE2, hr, Int.reduceToNat, Int.reduceSub, Int.reduceNeg, Int.cast_ofNat_Int, Int.natCast_zero, Int.zero_sub]
            | (simp (disch := first | omega | (simp only [List.length_append, List.length_map, List.length_cons, List.length_nil, List.length_drop, List.length_take, List.length_replicate]; omega)) only [wrap_id, getI])
            | (with_reducible refine And.intro (by first | omega | exact ⟨_, rfl⟩ | (focus (simp; done)) | (simp; omega)) ?_)
            | ((with_reducible apply wk_load (ty := 3) (ha := ag3) 0); rfl; rfl)
            | ((with_reducible apply wk_load (ty := 3) (ha := ag3) 1); rfl; rfl)
            | ((with_reducible refine actC_mk (act_append_nil (sz := 1) (by decide) ?_)))
            | ((with_reducible refine actC_mk (act_append_src_nil (sz := 1) (by decide) ?_)))
            | ((with_reducible refine actC_mk (act_append 0 rfl sl24 sz3 by3 zr3 rfl ?_ ?_ ?_ (fun tk => ?_))); (first | exact goodI _ | exact goodU _ | rfl | exact goodSL _ | exact goodLL _ | (focus (simp [goodL, oneA, AV.cells]; done)) | skip))
            | ((with_reducible refine (act_append 0 rfl sl24 sz3 by3 zr3 rfl ?_ ?_ ?_ (fun tk => ?_))); (first | exact goodI _ | exact goodU _ | rfl | exact goodSL _ | exact goodLL _ | (focus (simp [goodL, oneA, AV.cells]; done)) | skip))
            | ((with_reducible refine actC_mk (act_append 1 rfl sl24 sz3 by3 zr3 rfl ?_ ?_ ?_ (fun tk => ?_))); (first | exact goodI _ | exact goodU _ | rfl | exact goodSL _ | exact goodLL _ | (focus (simp [goodL, oneA, AV.cells]; done)) | skip))
            | ((with_reducible refine (act_append 1 rfl sl24 sz3 by3 zr3 rfl ?_ ?_ ?_ (fun tk => ?_))); (first | exact goodI _ | exact goodU _ | rfl | exact goodSL _ | exact goodLL _ | (focus (simp [goodL, oneA, AV.cells]; done)) | skip))
            | ((with_reducible refine actC_mk (act_append 2 rfl sl24 sz3 by3 zr3 rfl ?_ ?_ ?_ (fun tk => ?_))); (first | exact goodI _ | exact goodU _ | rfl | exact goodSL _ | exact goodLL _ | (focus (simp [goodL, oneA, AV.cells]; done)) | skip))
            | ((with_reducible refine (act_append 2 rfl sl24 sz3 by3 zr3 rfl ?_ ?_ ?_ (fun tk => ?_))); (first | exact goodI _ | exact goodU _ | rfl | exact goodSL _ | exact goodLL _ | (focus (simp [goodL, oneA, AV.cells]; done)) | skip))
            | ((with_reducible refine wk_bslice sl24 sz3 zr3 (by decide) (by decide) (by decide) (by decide) rfl ?_ ?_ ?_); (first | exact goodI _ | exact goodU _ | rfl | exact goodSL _ | exact goodLL _ | (focus (simp [goodL, oneA, AV.cells]; done))); (all_goals first | (intro x hx; simp at hx; first | (subst hx; rfl) | (rcases hx with rfl | rfl <;> rfl) | (rcases hx with rfl | rfl | rfl <;> rfl) | (repeat (rcases hx with rfl | hx <;> try rfl))) | skip))
            | ((with_reducible refine wk_bslice sl37 sz24 zr24 (by decide) (by decide) (by decide) (by decide) rfl ?_ ?_ ?_); (first | exact goodI _ | exact goodU _ | rfl | exact goodSL _ | exact goodLL _ | (focus (simp [goodL, oneA, AV.cells]; done))); (all_goals first | (intro x hx; simp at hx; first | (subst hx; rfl) | (rcases hx with rfl | rfl <;> rfl) | (rcases hx with rfl | rfl | rfl <;> rfl) | (repeat (rcases hx with rfl | hx <;> try rfl))) | skip))
            | ( refine callD_mk (ACallF.argsS (ys := [SSI none [120 :: 92 :: 120 :: D.take 1]]) ⟨leS_sl (leC_one rfl rfl (leS_le le_rfl) trivial), trivial⟩ (dReadAll ht1 ?_)))
            | ( refine callD_mk (ACallF.argsS (ys := [SSI none [120 :: 92 :: 120 :: (D ++ [121])]]) ⟨leS_sl (leC_one rfl rfl (leS_trans (leS_eq (show _ = SI (some tk) (120 :: 92 :: 120 :: (D ++ [121])) by simp)) (leS_le le_ro)) trivial), trivial⟩ (dReadAll ht2 ?_)))
            | ( refine callD_mk (ACallF.argsS (ys := [SI none [120, c, 121], SI none [120, c, 121]]) ⟨leS_le le_rfl, leS_le le_rfl, trivial⟩ (sameInts (by simp) ?_)))
            | (with_reducible refine callD_mk (alive7 ?_))
            | (with_reducible refine callD_mk (dReadAll ?_ ?_))
            | (with_reducible refine callD_mk (num7 ?_))
            | (with_reducible refine callD_mk (sameInts ?_ ?_))
            | (with_reducible refine nilTC_pos (by simp; omega) ?_)
            | (with_reducible refine nilTC_split (fun h => ?_) (fun h bn => ?_) <;> (try simp only [List.length_map] at h))
            | (with_reducible refine grd_cases (fun h => ?_) (fun h => ?_) <;> (try simp only [h]) <;> (try simp only [beq_iff_eq, beq_eq_false_iff_ne, bne_iff_ne, bne_eq_false_iff_eq, decide_eq_true_eq, decide_eq_false_iff_not, Bool.not_eq_true', Bool.not_eq_false', Bool.not_true, Bool.not_false, Bool.not_eq_eq_eq_not, ne_eq, Int.not_lt, Int.not_le, gt_iff_lt, ge_iff_le, Decidable.not_not] at h))
            | (with_reducible refine condC_split (fun h => ?_) (fun h => ?_) <;> (try simp only [h]) <;> (try simp only [beq_iff_eq, beq_eq_false_iff_ne, bne_iff_ne, bne_eq_false_iff_eq, decide_eq_true_eq, decide_eq_false_iff_not, Bool.not_eq_true', Bool.not_eq_false', Bool.not_true, Bool.not_false, Bool.not_eq_eq_eq_not, ne_eq, Int.not_lt, Int.not_le, gt_iff_lt, ge_iff_le, Decidable.not_not] at h))
            | omega | (simp only [List.length_append, List.length_map, List.length_cons, List.length_nil, List.length_drop, List.length_take, List.length_replicate]; omega) | (refine maxLen_ok ?_; (first | omega | (simp only [List.length_append, List.length_map, List.length_cons, List.length_nil, List.length_drop, List.length_take, List.length_replicate]; omega))))
          all_goals first
            | exact leafLaw rfl
            | exact leafLaw (decide_eq_true trivial)
            | (rename_i h; exact absurd trivial h)
            | omega
      · have hx16 : 0 ≤ c / 2 ^ (4 * m) % 16 ∧ c / 2 ^ (4 * m) % 16 < 16 := by omega
        have hxd := hexD_le (up := true) hx16.1 hx16.2
        repeat' (first
          | (with_reducible refine AW_seqA (AW_block ?_)) | (with_reducible refine AW_block ?_) | (with_reducible refine cut_seqloop ?_) | (with_reducible refine cut_loop ?_) | (with_reducible refine AW_seqA (AW_seqA ?_)) | (with_reducible refine AW_seq ?_) | (with_reducible refine AW_run ?_)
          | simp only [WL, intF, strF, List.toList_toArray, List.set_cons_succ, List.set_cons_zero, List.getD_cons_succ, List.getD_cons_zero, List.getElem?_cons_succ, List.getElem?_cons_zero, List.length_cons, List.length_nil, List.replicate_succ, List.replicate_zero, List.cons_append, List.nil_append, List.append_nil, List.map_cons, List.map_nil, Option.bind_some, Option.map_some, Option.map_none, List.drop_succ_cons, List.drop_zero, List.take_succ_cons, List.take_zero, ← List.map_take, ← List.map_drop, List.take_length, Int.reduceToNat, ne_eq, reduceCtorEq, not_false_eq_true, Nat.reduceAdd, Nat.reduceSub, Nat.reduceLT, Nat.reduceLeDiff, Nat.reduceEqDiff, Nat.zero_lt_succ, Bool.not_true, Bool.not_false, beq_self_eq_true, true_and, and_true, Option.isSome_some, Option.isSome_none, reduceIte, Int.toNat_natCast, Bool.false_eq_true, List.length_map, Nat.le_refl, Option.some.injEq, exists_eq_left', Nat.add_right_cancel_iff, List.take_nil, List.drop_nil, T3, T4, T5, T9, T24, T33, T34, T37, convC_int in3, convC_int in33, cok26, cok27, cok28, cok29, Try.results5, m1, t4, fold_and, and15, hexLs, hexUs]
          | (simp (disch := first | omega | (simp only [List.length_append, List.length_map, List.length_cons, List.length_nil, List.length_drop, List.length_take, List.length_replicate]; omega)) only [wrap_id, getI, shr_i, wrapu_id, hexL, hexU])
          | (with_reducible refine And.intro (by first | omega | exact ⟨_, rfl⟩ | (focus (simp; done)) | (simp; omega)) ?_)
          | ((with_reducible apply wk_load (ty := 3) (ha := ag3) 0); rfl; rfl)
          | ((with_reducible apply wk_load (ty := 3) (ha := ag3) 1); rfl; rfl)
          | ((with_reducible refine actC_mk (act_append_nil (sz := 1) (by decide) ?_)))
          | ((with_reducible refine actC_mk (act_append_src_nil (sz := 1) (by decide) ?_)))
          | ((with_reducible refine actC_mk (act_append 0 rfl sl24 sz3 by3 zr3 rfl ?_ ?_ ?_ (fun tk => ?_))); (first | exact goodI _ | exact goodU _ | rfl | exact goodSL _ | exact goodLL _ | (focus (simp [goodL, oneA, AV.cells]; done)) | skip))
          | ((with_reducible refine (act_append 0 rfl sl24 sz3 by3 zr3 rfl ?_ ?_ ?_ (fun tk => ?_))); (first | exact goodI _ | exact goodU _ | rfl | exact goodSL _ | exact goodLL _ | (focus (simp [goodL, oneA, AV.cells]; done)) | skip))
          | ((with_reducible refine actC_mk (act_append 1 rfl sl24 sz3 by3 zr3 rfl ?_ ?_ ?_ (fun tk => ?_))); (first | exact goodI _ | exact goodU _ | rfl | exact goodSL _ | exact goodLL _ | (focus (simp [goodL, oneA, AV.cells]; done)) | skip))
          | ((with_reducible refine (act_append 1 rfl sl24 sz3 by3 zr3 rfl ?_ ?_ ?_ (fun tk => ?_))); (first | exact goodI _ | exact goodU _ | rfl | exact goodSL _ | exact goodLL _ | (focus (simp [goodL, oneA, AV.cells]; done)) | skip))
          | ((with_reducible refine actC_mk (act_append 2 rfl sl24 sz3 by3 zr3 rfl ?_ ?_ ?_ (fun tk => ?_))); (first | exact goodI _ | exact goodU _ | rfl | exact goodSL _ | exact goodLL _ | (focus (simp [goodL, oneA, AV.cells]; done)) | skip))
          | ((with_reducible refine (act_append 2 rfl sl24 sz3 by3 zr3 rfl ?_ ?_ ?_ (fun tk => ?_))); (first | exact goodI _ | exact goodU _ | rfl | exact goodSL _ | exact goodLL _ | (focus (simp [goodL, oneA, AV.cells]; done)) | skip))
          | ((with_reducible refine wk_bslice sl24 sz3 zr3 (by decide) (by decide) (by decide) (by decide) rfl ?_ ?_ ?_); (first | exact goodI _ | exact goodU _ | rfl | exact goodSL _ | exact goodLL _ | (focus (simp [goodL, oneA, AV.cells]; done))); (all_goals first | (intro x hx; simp at hx; first | (subst hx; rfl) | (rcases hx with rfl | rfl <;> rfl) | (rcases hx with rfl | rfl | rfl <;> rfl) | (repeat (rcases hx with rfl | hx <;> try rfl))) | skip))
          | ((with_reducible refine wk_bslice sl37 sz24 zr24 (by decide) (by decide) (by decide) (by decide) rfl ?_ ?_ ?_); (first | exact goodI _ | exact goodU _ | rfl | exact goodSL _ | exact goodLL _ | (focus (simp [goodL, oneA, AV.cells]; done))); (all_goals first | (intro x hx; simp at hx; first | (subst hx; rfl) | (rcases hx with rfl | rfl <;> rfl) | (rcases hx with rfl | rfl | rfl <;> rfl) | (repeat (rcases hx with rfl | hx <;> try rfl))) | skip))
          | (with_reducible refine callD_mk (alive7 ?_))
          | (with_reducible refine callD_mk (dReadAll ?_ ?_))
          | (with_reducible refine callD_mk (num7 ?_))
          | (with_reducible refine callD_mk (sameInts ?_ ?_))
          | (with_reducible refine nilTC_pos (by simp; omega) ?_)
          | (with_reducible refine nilTC_split (fun h => ?_) (fun h bn => ?_) <;> (try simp only [List.length_map] at h))
          | (with_reducible refine grd_cases (fun h => ?_) (fun h => ?_) <;> (try simp only [h]) <;> (try simp only [beq_iff_eq, beq_eq_false_iff_ne, bne_iff_ne, bne_eq_false_iff_eq, decide_eq_true_eq, decide_eq_false_iff_not, Bool.not_eq_true', Bool.not_eq_false', Bool.not_true, Bool.not_false, Bool.not_eq_eq_eq_not, ne_eq, Int.not_lt, Int.not_le, gt_iff_lt, ge_iff_le, Decidable.not_not] at h))
          | (with_reducible refine condC_split (fun h => ?_) (fun h => ?_) <;> (try simp only [h]) <;> (try simp only [beq_iff_eq, beq_eq_false_iff_ne, bne_iff_ne, bne_eq_false_iff_eq, decide_eq_true_eq, decide_eq_false_iff_not, Bool.not_eq_true', Bool.not_eq_false', Bool.not_true, Bool.not_false, Bool.not_eq_eq_eq_not, ne_eq, Int.not_lt, Int.not_le, gt_iff_lt, ge_iff_le, Decidable.not_not] at h))
          | omega | (simp only [List.length_append, List.length_map, List.length_cons, List.length_nil, List.length_drop, List.length_take, List.length_replicate]; omega) | (refine maxLen_ok ?_; (first | omega | (simp only [List.length_append, List.length_map, List.length_cons, List.length_nil, List.length_drop, List.length_take, List.length_replicate]; omega))))
        exact ⟨(m, D ++ [hexD true (c / 2 ^ (4 * m) % 16)], tk), St_leW (by repeat (first | exact trivial | refine ⟨le_rfl, ?_⟩ | refine ⟨le_any, ?_⟩ | refine ⟨le_ro, ?_⟩ | refine ⟨le_nil (by decide), ?_⟩ | refine ⟨le_wrap (by omega) (by omega) (by omega), ?_⟩ | refine ⟨le_int (by omega), ?_⟩ | refine ⟨le_eq (by simp), ?_⟩)) (ResW.refl _) id, ⟨by dsimp only; omega, by dsimp only; rw [← h2]; simp [digs]⟩, by dsimp only; omega⟩
  · cases up
    ·
      refine ACallF.dropL (ACallF_introA Try.func5 rfl ?_)
      simp only [Try.ntmps5]
      repeat' (first
        | (with_reducible refine AW_seqA (AW_block ?_)) | (with_reducible refine AW_block ?_) | (with_reducible refine cut_seqloop ?_) | (with_reducible refine cut_loop ?_) | (with_reducible refine AW_seqA (AW_seqA ?_)) | (with_reducible refine AW_seq ?_) | (with_reducible refine AW_run ?_)
        | simp only [WL, intF, strF, List.toList_toArray, List.set_cons_succ, List.set_cons_zero, List.getD_cons_succ, List.getD_cons_zero, List.getElem?_cons_succ, List.getElem?_cons_zero, List.length_cons, List.length_nil, List.replicate_succ, List.replicate_zero, List.cons_append, List.nil_append, List.append_nil, List.map_cons, List.map_nil, Option.bind_some, Option.map_some, Option.map_none, List.drop_succ_cons, List.drop_zero, List.take_succ_cons, List.take_zero, ← List.map_take, ← List.map_drop, List.take_length, Int.reduceToNat, ne_eq, reduceCtorEq, not_false_eq_true, Nat.reduceAdd, Nat.reduceSub, Nat.reduceLT, Nat.reduceLeDiff, Nat.reduceEqDiff, Nat.zero_lt_succ, Bool.not_true, Bool.not_false, beq_self_eq_true, true_and, and_true, Option.isSome_some, Option.isSome_none, reduceIte, Int.toNat_natCast, Bool.false_eq_true, List.length_map, Nat.le_refl, Option.some.injEq, exists_eq_left', Nat.add_right_cancel_iff, List.take_nil, List.drop_nil, T3, T4, T5, T9, T24, T33, T34, T37, convC_int in3, convC_int in33, cok26, cok27, cok28, cok29, Try.results5, xuU0, xuU1, xuU2, xuUs, Int.reduceToNat, Int.reducePow, Int.reduceMul, Int.reduceSub]
        | (simp (disch := first | omega | (simp only [List.length_append, List.length_map, List.length_cons, List.length_nil, List.length_drop, List.length_take, List.length_replicate]; omega)) only [wrap_id, getI, shl_i, wrapu_id])
        | (with_reducible refine And.intro (by first | omega | exact ⟨_, rfl⟩ | (focus (simp; done)) | (simp; omega)) ?_)
        | ((with_reducible apply wk_load (ty := 3) (ha := ag3) 0); rfl; rfl)
        | ((with_reducible apply wk_load (ty := 3) (ha := ag3) 1); rfl; rfl)
        | ((with_reducible refine actC_mk (act_append_nil (sz := 1) (by decide) ?_)))
        | ((with_reducible refine actC_mk (act_append_src_nil (sz := 1) (by decide) ?_)))
        | ((with_reducible refine actC_mk (act_append 0 rfl sl24 sz3 by3 zr3 rfl ?_ ?_ ?_ (fun tk => ?_))); (first | exact goodI _ | exact goodU _ | rfl | exact goodSL _ | exact goodLL _ | (focus (simp [goodL, oneA, AV.cells]; done)) | skip))
        | ((with_reducible refine (act_append 0 rfl sl24 sz3 by3 zr3 rfl ?_ ?_ ?_ (fun tk => ?_))); (first | exact goodI _ | exact goodU _ | rfl | exact goodSL _ | exact goodLL _ | (focus (simp [goodL, oneA, AV.cells]; done)) | skip))
        | ((with_reducible refine actC_mk (act_append 1 rfl sl24 sz3 by3 zr3 rfl ?_ ?_ ?_ (fun tk => ?_))); (first | exact goodI _ | exact goodU _ | rfl | exact goodSL _ | exact goodLL _ | (focus (simp [goodL, oneA, AV.cells]; done)) | skip))
        | ((with_reducible refine (act_append 1 rfl sl24 sz3 by3 zr3 rfl ?_ ?_ ?_ (fun tk => ?_))); (first | exact goodI _ | exact goodU _ | rfl | exact goodSL _ | exact goodLL _ | (focus (simp [goodL, oneA, AV.cells]; done)) | skip))
        | ((with_reducible refine actC_mk (act_append 2 rfl sl24 sz3 by3 zr3 rfl ?_ ?_ ?_ (fun tk => ?_))); (first | exact goodI _ | exact goodU _ | rfl | exact goodSL _ | exact goodLL _ | (focus (simp [goodL, oneA, AV.cells]; done)) | skip))
        | ((with_reducible refine (act_append 2 rfl sl24 sz3 by3 zr3 rfl ?_ ?_ ?_ (fun tk => ?_))); (first | exact goodI _ | exact goodU _ | rfl | exact goodSL _ | exact goodLL _ | (focus (simp [goodL, oneA, AV.cells]; done)) | skip))
        | ((with_reducible refine actC_mk (act_bslice_own sl24 sz3 zr3 (by decide) (by decide) (by decide) (by decide) rfl ?_ ?_ (fun tb => ?_))); (first | exact goodI _ | exact goodU _ | rfl | exact goodSL _ | exact goodLL _ | (focus (simp [goodL, oneA, AV.cells]; done))); (first | (intro x hx; simp at hx; first | (subst hx; rfl) | (rcases hx with rfl | rfl <;> rfl) | (rcases hx with rfl | rfl | rfl <;> rfl) | (repeat (rcases hx with rfl | hx <;> try rfl))) | skip))
        | ((with_reducible refine wk_bslice sl37 sz24 zr24 (by decide) (by decide) (by decide) (by decide) rfl ?_ ?_ ?_); (first | exact goodI _ | exact goodU _ | rfl | exact goodSL _ | exact goodLL _ | (focus (simp [goodL, oneA, AV.cells]; done))); (all_goals first | (intro x hx; simp at hx; first | (subst hx; rfl) | (rcases hx with rfl | rfl <;> rfl) | (rcases hx with rfl | rfl | rfl <;> rfl) | (repeat (rcases hx with rfl | hx <;> try rfl))) | skip))
        | (with_reducible refine callD_mk (alive7 ?_))
        | (with_reducible refine callD_mk (dReadAll ?_ ?_))
        | (with_reducible refine callD_mk (num7 ?_))
        | (with_reducible refine callD_mk (sameInts ?_ ?_))
        | (with_reducible refine nilTC_pos (by simp; omega) ?_)
        | (with_reducible refine nilTC_split (fun h => ?_) (fun h bn => ?_) <;> (try simp only [List.length_map] at h))
        | (with_reducible refine grd_cases (fun h => ?_) (fun h => ?_) <;> (try simp only [h]) <;> (try simp only [beq_iff_eq, beq_eq_false_iff_ne, bne_iff_ne, bne_eq_false_iff_eq, decide_eq_true_eq, decide_eq_false_iff_not, Bool.not_eq_true', Bool.not_eq_false', Bool.not_true, Bool.not_false, Bool.not_eq_eq_eq_not, ne_eq, Int.not_lt, Int.not_le, gt_iff_lt, ge_iff_le, Decidable.not_not] at h))
        | (with_reducible refine condC_split (fun h => ?_) (fun h => ?_) <;> (try simp only [h]) <;> (try simp only [beq_iff_eq, beq_eq_false_iff_ne, bne_iff_ne, bne_eq_false_iff_eq, decide_eq_true_eq, decide_eq_false_iff_not, Bool.not_eq_true', Bool.not_eq_false', Bool.not_true, Bool.not_false, Bool.not_eq_eq_eq_not, ne_eq, Int.not_lt, Int.not_le, gt_iff_lt, ge_iff_le, Decidable.not_not] at h))
        | omega | (simp only [List.length_append, List.length_map, List.length_cons, List.length_nil, List.length_drop, List.length_take, List.length_replicate]; omega) | (refine maxLen_ok ?_; (first | omega | (simp only [List.length_append, List.length_map, List.length_cons, List.length_nil, List.length_drop, List.length_take, List.length_replicate]; omega))))
      all_goals try exact leafLaw rfl
      all_goals try omega
      have hlim : c < 65536 := by assumption
      refine loopA (fun x : Nat × List Int × Option (Nat × Nat) => ⟨(I c :: I 1 :: B false :: .any :: .any :: .any :: .any :: B true :: .any :: .raw (.string ⟨#[48, 49, 50, 51, 52, 53, 54, 55, 56, 57, 97, 98, 99, 100, 101, 102]⟩) :: SI (some x.2.2) (120 :: 92 :: 117 :: x.2.1) :: I ((x.1 : Int) - 1) :: .any :: .any :: .any :: .any :: .any :: .any :: .any :: .any :: .any :: .any :: .any :: .any :: .any :: .any :: .any :: .any :: .any :: .any :: .any :: .any :: .any :: .any :: .any :: .any :: .any :: .any :: .any :: .any :: .any :: .any :: .any :: .any :: .any :: .any :: .any :: .any :: .any :: .any :: .any :: .any :: .any :: .any :: .any :: .any :: .any :: .any :: .any :: .any :: .any :: .any :: .any :: .any :: .any :: .any :: .any :: .any :: .any :: .any :: .any :: .any :: .any :: .any :: .any :: .any :: .any :: .any :: .any :: .any :: .any :: .any :: .any :: .any :: .any :: .any :: .any :: .any :: .any :: .any :: .any :: .any :: .any :: .any :: .any :: .any :: .any :: .any :: .any :: .any :: .any :: .any :: .any :: .any :: .any :: .any :: .any :: .any :: .any :: .any :: .any :: .any :: .any :: .any :: .any :: .any :: .any :: .any :: []), [.tip x.2.2], true, []⟩)
        (fun x => x.1 ≤ 4 ∧ x.2.1 ++ digs false c x.1 = digs false c 4) (fun x => x.1) (4, [], _) (St_leW (by repeat (first | exact trivial | refine ⟨le_rfl, ?_⟩ | refine ⟨le_any, ?_⟩ | refine ⟨le_ro, ?_⟩ | refine ⟨le_nil (by decide), ?_⟩ | refine ⟨le_wrap (by omega) (by omega) (by omega), ?_⟩ | refine ⟨le_int (by omega), ?_⟩ | refine ⟨le_eq (by simp), ?_⟩)) (ResW.sub (List.Sublist.cons_cons _ (List.nil_sublist _))) id) ⟨Nat.le_refl _, rfl⟩ ?_
      rintro ⟨m, D, tk⟩ hx
      dsimp only at hx ⊢
      have h1 := hx.1
      have h2 := hx.2
      have hln := congrArg List.length h2
      simp only [List.length_append, digs_len] at hln
      rcases m with _ | m
      · have hD : D.length = 4 := by omega
        have hg : numGo 0 D = some c := by
          have hDD : D = digs false c 4 := by rw [← h2]; exact (List.append_nil D).symm
          rw [hDD, numGo_digs (by omega)]
          congr 1
          show 0 * 2 ^ (4 * 4) + c % 2 ^ (4 * 4) = c
          rw [Int.zero_mul, Int.zero_add]
          exact Int.emod_eq_of_lt (by omega) (by omega)
        have hE1 := esc_short (s := 117) (n := 4) (D := D.take (4 - 1)) (by decide) rfl (by decide) (by simp; omega)
        have hE2 := esc_full (s := 117) (c := c) (n := 4) (D := D) (by decide) rfl (by decide) hD hg
        have ht1 : tot [120 :: 92 :: 117 :: D.take (4 - 1)] ≤ 100000000 := by simp [tot]; omega
        have ht2 : tot [120 :: 92 :: 117 :: (D ++ [121])] ≤ 100000000 := by simp [tot]; omega
        simp only [Nat.reduceSub] at hE1 ht1
        cases hr : rightI c
        · have hrn := rightI_not.1 hr
          repeat' (first
            | (with_reducible refine AW_seqA (AW_block ?_)) | (with_reducible refine AW_block ?_) | (with_reducible refine cut_seqloop ?_) | (with_reducible refine cut_loop ?_) | (with_reducible refine AW_seqA (AW_seqA ?_)) | (with_reducible refine AW_seq ?_) | (with_reducible refine AW_run ?_)
            | simp only [WL, intF, strF, List.toList_toArray, List.set_cons_succ, List.set_cons_zero, List.getD_cons_succ, List.getD_cons_zero, List.getElem?_cons_succ, List.getElem?_cons_zero, List.length_cons, List.length_nil, List.replicate_succ, List.replicate_zero, List.cons_append, List.nil_append, List.append_nil, List.map_cons, List.map_nil, Option.bind_some, Option.map_some, Option.map_none, List.drop_succ_cons, List.drop_zero, List.take_succ_cons, List.take_zero, ← List.map_take, ← List.map_drop, List.take_length, Int.reduceToNat, ne_eq, reduceCtorEq, not_false_eq_true, Nat.reduceAdd, Nat.reduceSub, Nat.reduceLT, Nat.reduceLeDiff, Nat.reduceEqDiff, Nat.zero_lt_succ, Bool.not_true, Bool.not_false, beq_self_eq_true, true_and, and_true, Option.isSome_some, Option.isSome_none, reduceIte, Int.toNat_natCast, Bool.false_eq_true, List.length_map, Nat.le_refl, Option.some.injEq, exists_eq_left', Nat.add_right_cancel_iff, List.take_nil, List.drop_nil, T3, T4, T5, T9, T24, T33, T34, T37, convC_int in3, convC_int in33, cok26, cok27, cok28, cok29, Try.results5, hD, hE1, hE2, hr, Int.reduceToNat, Int.reduceSub, Int.reduceNeg, Int.cast_ofNat_Int, Int.natCast_zero, Int.zero_sub]
            | (simp (disch := first | omega | (simp only [List.length_append, List.length_map, List.length_cons, List.length_nil, List.length_drop, List.length_take, List.length_replicate]; omega)) only [wrap_id, getI])
            | (with_reducible refine And.intro (by first | omega | exact ⟨_, rfl⟩ | (focus (simp; done)) | (simp; omega)) ?_)
            | ((with_reducible apply wk_load (ty := 3) (ha := ag3) 0); rfl; rfl)
            | ((with_reducible apply wk_load (ty := 3) (ha := ag3) 1); rfl; rfl)
            | ((with_reducible refine actC_mk (act_append_nil (sz := 1) (by decide) ?_)))
            | ((with_reducible refine actC_mk (act_append_src_nil (sz := 1) (by decide) ?_)))
            | ((with_reducible refine actC_mk (act_append 0 rfl sl24 sz3 by3 zr3 rfl ?_ ?_ ?_ (fun tk => ?_))); (first | exact goodI _ | exact goodU _ | rfl | exact goodSL _ | exact goodLL _ | (focus (simp [goodL, oneA, AV.cells]; done)) | skip))
            | ((with_reducible refine (act_append 0 rfl sl24 sz3 by3 zr3 rfl ?_ ?_ ?_ (fun tk => ?_))); (first | exact goodI _ | exact goodU _ | rfl | exact goodSL _ | exact goodLL _ | (focus (simp [goodL, oneA, AV.cells]; done)) | skip))
            | ((with_reducible refine actC_mk (act_append 1 rfl sl24 sz3 by3 zr3 rfl ?_ ?_ ?_ (fun tk => ?_))); (first | exact goodI _ | exact goodU _ | rfl | exact goodSL _ | exact goodLL _ | (focus (simp [goodL, oneA, AV.cells]; done)) | skip))
            | ((with_reducible refine (act_append 1 rfl sl24 sz3 by3 zr3 rfl ?_ ?_ ?_ (fun tk => ?_))); (first | exact goodI _ | exact goodU _ | rfl | exact goodSL _ | exact goodLL _ | (focus (simp [goodL, oneA, AV.cells]; done)) | skip))
            | ((with_reducible refine actC_mk (act_append 2 rfl sl24 sz3 by3 zr3 rfl ?_ ?_ ?_ (fun tk => ?_))); (first | exact goodI _ | exact goodU _ | rfl | exact goodSL _ | exact goodLL _ | (focus (simp [goodL, oneA, AV.cells]; done)) | skip))
            | ((with_reducible refine (act_append 2 rfl sl24 sz3 by3 zr3 rfl ?_ ?_ ?_ (fun tk => ?_))); (first | exact goodI _ | exact goodU _ | rfl | exact goodSL _ | exact goodLL _ | (focus (simp [goodL, oneA, AV.cells]; done)) | skip))
            | ((with_reducible refine wk_bslice sl24 sz3 zr3 (by decide) (by decide) (by decide) (by decide) rfl ?_ ?_ ?_); (first | exact goodI _ | exact goodU _ | rfl | exact goodSL _ | exact goodLL _ | (focus (simp [goodL, oneA, AV.cells]; done))); (all_goals first | (intro x hx; simp at hx; first | (subst hx; rfl) | (rcases hx with rfl | rfl <;> rfl) | (rcases hx with rfl | rfl | rfl <;> rfl) | (repeat (rcases hx with rfl | hx <;> try rfl))) | skip))
            | ((with_reducible refine wk_bslice sl37 sz24 zr24 (by decide) (by decide) (by decide) (by decide) rfl ?_ ?_ ?_); (first | exact goodI _ | exact goodU _ | rfl | exact goodSL _ | exact goodLL _ | (focus (simp [goodL, oneA, AV.cells]; done))); (all_goals first | (intro x hx; simp at hx; first | (subst hx; rfl) | (rcases hx with rfl | rfl <;> rfl) | (rcases hx with rfl | rfl | rfl <;> rfl) | (repeat (rcases hx with rfl | hx <;> try rfl))) | skip))
            | ( refine callD_mk (ACallF.argsS (ys := [SSI none [120 :: 92 :: 117 :: D.take 3]]) ⟨leS_sl (leC_one rfl rfl (leS_le le_rfl) trivial), trivial⟩ (dReadAll ht1 ?_)))
            | ( refine callD_mk (ACallF.argsS (ys := [SSI none [120 :: 92 :: 117 :: (D ++ [121])]]) ⟨leS_sl (leC_one rfl rfl (leS_trans (leS_eq (show _ = SI (some tk) (120 :: 92 :: 117 :: (D ++ [121])) by simp)) (leS_le le_ro)) trivial), trivial⟩ (dReadAll ht2 ?_)))
            | (with_reducible refine callD_mk (alive7 ?_))
            | (with_reducible refine callD_mk (dReadAll ?_ ?_))
            | (with_reducible refine callD_mk (num7 ?_))
            | (with_reducible refine callD_mk (sameInts ?_ ?_))
            | (with_reducible refine nilTC_pos (by simp; omega) ?_)
            | (with_reducible refine nilTC_split (fun h => ?_) (fun h bn => ?_) <;> (try simp only [List.length_map] at h))
            | (with_reducible refine grd_cases (fun h => ?_) (fun h => ?_) <;> (try simp only [h]) <;> (try simp only [beq_iff_eq, beq_eq_false_iff_ne, bne_iff_ne, bne_eq_false_iff_eq, decide_eq_true_eq, decide_eq_false_iff_not, Bool.not_eq_true', Bool.not_eq_false', Bool.not_true, Bool.not_false, Bool.not_eq_eq_eq_not, ne_eq, Int.not_lt, Int.not_le, gt_iff_lt, ge_iff_le, Decidable.not_not] at h))
            | (with_reducible refine condC_split (fun h => ?_) (fun h => ?_) <;> (try simp only [h]) <;> (try simp only [beq_iff_eq, beq_eq_false_iff_ne, bne_iff_ne, bne_eq_false_iff_eq, decide_eq_true_eq, decide_eq_false_iff_not, Bool.not_eq_true', Bool.not_eq_false', Bool.not_true, Bool.not_false, Bool.not_eq_eq_eq_not, ne_eq, Int.not_lt, Int.not_le, gt_iff_lt, ge_iff_le, Decidable.not_not] at h))
            | omega | (simp only [List.length_append, List.length_map, List.length_cons, List.length_nil, List.length_drop, List.length_take, List.length_replicate]; omega) | (refine maxLen_ok ?_; (first | omega | (simp only [List.length_append, List.length_map, List.length_cons, List.length_nil, List.length_drop, List.length_take, List.length_replicate]; omega))))
          all_goals first
            | exact leafLaw rfl
            | exact leafLaw (decide_eq_true trivial)
            | (rename_i h; exact absurd trivial h)
            | omega
        · have hrn := rightI_iff.1 hr
          repeat' (first
            | (with_reducible refine AW_seqA (AW_block ?_)) | (with_reducible refine AW_block ?_) | (with_reducible refine cut_seqloop ?_) | (with_reducible refine cut_loop ?_) | (with_reducible refine AW_seqA (AW_seqA ?_)) | (with_reducible refine AW_seq ?_) | (with_reducible refine AW_run ?_)
            | simp only [WL, intF, strF, List.toList_toArray, List.set_cons_succ, List.set_cons_zero, List.getD_cons_succ, List.getD_cons_zero, List.getElem?_cons_succ, List.getElem?_cons_zero, List.length_cons, List.length_nil, List.replicate_succ, List.replicate_zero, List.cons_append, List.nil_append, List.append_nil, List.map_cons, List.map_nil, Option.bind_some, Option.map_some, Option.map_none, List.drop_succ_cons, List.drop_zero, List.take_succ_cons, List.take_zero, ← List.map_take, ← List.map_drop, List.take_length, Int.reduceToNat, ne_eq, reduceCtorEq, not_false_eq_true, Nat.reduceAdd, Nat.reduceSub, Nat.reduceLT, Nat.reduceLeDiff, Nat.reduceEqDiff, Nat.zero_lt_succ, Bool.not_true, Bool.not_false, beq_self_eq_true, true_and, and_true, Option.isSome_some, Option.isSome_none, reduceIte, Int.toNat_natCast, Bool.false_eq_true, List.length_map, Nat.le_refl, Option.some.injEq, exists_eq_left', Nat.add_right_cancel_iff, List.take_nil, List.drop_nil, T3, T4, T5, T9, T24, T33, T34, T37, convC_int in3, convC_int in33, cok26, cok27, cok28, cok29, Try.results5, hD, hE1, hE2, hr, Int.reduceToNat, Int.reduceSub, Int.reduceNeg, Int.cast_ofNat_Int, Int.natCast_zero, Int.zero_sub]
            | (simp (disch := first | omega | (simp only [List.length_append, List.length_map, List.length_cons, List.length_nil, List.length_drop, List.length_take, List.length_replicate]; omega)) only [wrap_id, getI])
            | (with_reducible refine And.intro (by first | omega | exact ⟨_, rfl⟩ | (focus (simp; done)) | (simp; omega)) ?_)
            | ((with_reducible apply wk_load (ty := 3) (ha := ag3) 0); rfl; rfl)
            | ((with_reducible apply wk_load (ty := 3) (ha := ag3) 1); rfl; rfl)
            | ((with_reducible refine actC_mk (act_append_nil (sz := 1) (by decide) ?_)))
            | ((with_reducible refine actC_mk (act_append_src_nil (sz := 1) (by decide) ?_)))
            | ((with_reducible refine actC_mk (act_append 0 rfl sl24 sz3 by3 zr3 rfl ?_ ?_ ?_ (fun tk => ?_))); (first | exact goodI _ | exact goodU _ | rfl | exact goodSL _ | exact goodLL _ | (focus (simp [goodL, oneA, AV.cells]; done)) | skip))
            | ((with_reducible refine (act_append 0 rfl sl24 sz3 by3 zr3 rfl ?_ ?_ ?_ (fun tk => ?_))); (first | exact goodI _ | exact goodU _ | rfl | exact goodSL _ | exact goodLL _ | (focus (simp [goodL, oneA, AV.cells]; done)) | skip))
            | ((with_reducible refine actC_mk (act_append 1 rfl sl24 sz3 by3 zr3 rfl ?_ ?_ ?_ (fun tk => ?_))); (first | exact goodI _ | exact goodU _ | rfl | exact goodSL _ | exact goodLL _ | (focus (simp [goodL, oneA, AV.cells]; done)) | skip))
            | ((with_reducible refine (act_append 1 rfl sl24 sz3 by3 zr3 rfl ?_ ?_ ?_ (fun tk => ?_))); (first | exact goodI _ | exact goodU _ | rfl | exact goodSL _ | exact goodLL _ | (focus (simp [goodL, oneA, AV.cells]; done)) | skip))
            | ((with_reducible refine actC_mk (act_append 2 rfl sl24 sz3 by3 zr3 rfl ?_ ?_ ?_ (fun tk => ?_))); (first | exact goodI _ | exact goodU _ | rfl | exact goodSL _ | exact goodLL _ | (focus (simp [goodL, oneA, AV.cells]; done)) | skip))
            | ((with_reducible refine (act_append 2 rfl sl24 sz3 by3 zr3 rfl ?_ ?_ ?_ (fun tk => ?_))); (first | exact goodI _ | exact goodU _ | rfl | exact goodSL _ | exact goodLL _ | (focus (simp [goodL, oneA, AV.cells]; done)) | skip))
            | ((with_reducible refine wk_bslice sl24 sz3 zr3 (by decide) (by decide) (by decide) (by decide) rfl ?_ ?_ ?_); (first | exact goodI _ | exact goodU _ | rfl | exact goodSL _ | exact goodLL _ | (focus (simp [goodL, oneA, AV.cells]; done))); (all_goals first | (intro x hx; simp at hx; first | (subst hx; rfl) | (rcases hx with rfl | rfl <;> rfl) | (rcases hx with rfl | rfl | rfl <;> rfl) | (repeat (rcases hx with rfl | hx <;> try rfl))) | skip))
            | ((with_reducible refine wk_bslice sl37 sz24 zr24 (by decide) (by decide) (by decide) (by decide) rfl ?_ ?_ ?_); (first | exact goodI _ | exact goodU _ | rfl | exact goodSL _ | exact goodLL _ | (focus (simp [goodL, oneA, AV.cells]; done))); (all_goals first | (intro x hx; simp at hx; first | (subst hx; rfl) | (rcases hx with rfl | rfl <;> rfl) | (rcases hx with rfl | rfl | rfl <;> rfl) | (repeat (rcases hx with rfl | hx <;> try rfl))) | skip))
            | ( refine callD_mk (ACallF.argsS (ys := [SSI none [120 :: 92 :: 117 :: D.take 3]]) ⟨leS_sl (leC_one rfl rfl (leS_le le_rfl) trivial), trivial⟩ (dReadAll ht1 ?_)))
            | ( refine callD_mk (ACallF.argsS (ys := [SSI none [120 :: 92 :: 117 :: (D ++ [121])]]) ⟨leS_sl (leC_one rfl rfl (leS_trans (leS_eq (show _ = SI (some tk) (120 :: 92 :: 117 :: (D ++ [121])) by simp)) (leS_le le_ro)) trivial), trivial⟩ (dReadAll ht2 ?_)))
            | ( refine callD_mk (ACallF.argsS (ys := [SI none [120, c, 121], SI none [120, c, 121]]) ⟨leS_le le_rfl, leS_le le_rfl, trivial⟩ (sameInts (by simp) ?_)))
            | (with_reducible refine callD_mk (alive7 ?_))
            | (with_reducible refine callD_mk (dReadAll ?_ ?_))
            | (with_reducible refine callD_mk (num7 ?_))
            | (with_reducible refine callD_mk (sameInts ?_ ?_))
            | (with_reducible refine nilTC_pos (by simp; omega) ?_)
            | (with_reducible refine nilTC_split (fun h => ?_) (fun h bn => ?_) <;> (try simp only [List.length_map] at h))
            | (with_reducible refine grd_cases (fun h => ?_) (fun h => ?_) <;> (try simp only [h]) <;> (try simp only [beq_iff_eq, beq_eq_false_iff_ne, bne_iff_ne, bne_eq_false_iff_eq, decide_eq_true_eq, decide_eq_false_iff_not, Bool.not_eq_true', Bool.not_eq_false', Bool.not_true, Bool.not_false, Bool.not_eq_eq_eq_not, ne_eq, Int.not_lt, Int.not_le, gt_iff_lt, ge_iff_le, Decidable.not_not] at h))
            | (with_reducible refine condC_split (fun h => ?_) (fun h => ?_) <;> (try simp only [h]) <;> (try simp only [beq_iff_eq, beq_eq_false_iff_ne, bne_iff_ne, bne_eq_false_iff_eq, decide_eq_true_eq, decide_eq_false_iff_not, Bool.not_eq_true', Bool.not_eq_false', Bool.not_true, Bool.not_false, Bool.not_eq_eq_eq_not, ne_eq, Int.not_lt, Int.not_le, gt_iff_lt, ge_iff_le, Decidable.not_not] at h))
            | omega | (simp only [List.length_append, List.length_map, List.length_cons, List.length_nil, List.length_drop, List.length_take, List.length_replicate]; omega) | (refine maxLen_ok ?_; (first | omega | (simp only [List.length_append, List.length_map, List.length_cons, List.length_nil, List.length_drop, List.length_take, List.length_replicate]; omega))))
          all_goals first
            | exact leafLaw rfl
            | exact leafLaw (decide_eq_true trivial)
            | (rename_i h; exact absurd trivial h)
            | omega
      · have hx16 : 0 ≤ c / 2 ^ (4 * m) % 16 ∧ c / 2 ^ (4 * m) % 16 < 16 := by omega
        have hxd := hexD_le (up := false) hx16.1 hx16.2
        repeat' (first
          | (with_reducible refine AW_seqA (AW_block ?_)) | (with_reducible refine AW_block ?_) | (with_reducible refine cut_seqloop ?_) | (with_reducible refine cut_loop ?_) | (with_reducible refine AW_seqA (AW_seqA ?_)) | (with_reducible refine AW_seq ?_) | (with_reducible refine AW_run ?_)
          | simp only [WL, intF, strF, List.toList_toArray, List.set_cons_succ, List.set_cons_zero, List.getD_cons_succ, List.getD_cons_zero, List.getElem?_cons_succ, List.getElem?_cons_zero, List.length_cons, List.length_nil, List.replicate_succ, List.replicate_zero, List.cons_append, List.nil_append, List.append_nil, List.map_cons, List.map_nil, Option.bind_some, Option.map_some, Option.map_none, List.drop_succ_cons, List.drop_zero, List.take_succ_cons, List.take_zero, ← List.map_take, ← List.map_drop, List.take_length, Int.reduceToNat, ne_eq, reduceCtorEq, not_false_eq_true, Nat.reduceAdd, Nat.reduceSub, Nat.reduceLT, Nat.reduceLeDiff, Nat.reduceEqDiff, Nat.zero_lt_succ, Bool.not_true, Bool.not_false, beq_self_eq_true, true_and, and_true, Option.isSome_some, Option.isSome_none, reduceIte, Int.toNat_natCast, Bool.false_eq_true, List.length_map, Nat.le_refl, Option.some.injEq, exists_eq_left', Nat.add_right_cancel_iff, List.take_nil, List.drop_nil, T3, T4, T5, T9, T24, T33, T34, T37, convC_int in3, convC_int in33, cok26, cok27, cok28, cok29, Try.results5, m1, t4, fold_and, and15, hexLs, hexUs]
          | (simp (disch := first | omega | (simp only [List.length_append, List.length_map, List.length_cons, List.length_nil, List.length_drop, List.length_take, List.length_replicate]; omega)) only [wrap_id, getI, shr_i, wrapu_id, hexL, hexU])
          | (with_reducible refine And.intro (by first | omega | exact ⟨_, rfl⟩ | (focus (simp; done)) | (simp; omega)) ?_)
          | ((with_reducible apply wk_load (ty := 3) (ha := ag3) 0); rfl; rfl)
          | ((with_reducible apply wk_load (ty := 3) (ha := ag3) 1); rfl; rfl)
          | ((with_reducible refine actC_mk (act_append_nil (sz := 1) (by decide) ?_)))
          | ((with_reducible refine actC_mk (act_append_src_nil (sz := 1) (by decide) ?_)))
          | ((with_reducible refine actC_mk (act_append 0 rfl sl24 sz3 by3 zr3 rfl ?_ ?_ ?_ (fun tk => ?_))); (first | exact goodI _ | exact goodU _ | rfl | exact goodSL _ | exact goodLL _ | (focus (simp [goodL, oneA, AV.cells]; done)) | skip))
          | ((with_reducible refine (act_append 0 rfl sl24 sz3 by3 zr3 rfl ?_ ?_ ?_ (fun tk => ?_))); (first | exact goodI _ | exact goodU _ | rfl | exact goodSL _ | exact goodLL _ | (focus (simp [goodL, oneA, AV.cells]; done)) | skip))
          | ((with_reducible refine actC_mk (act_append 1 rfl sl24 sz3 by3 zr3 rfl ?_ ?_ ?_ (fun tk => ?_))); (first | exact goodI _ | exact goodU _ | rfl | exact goodSL _ | exact goodLL _ | (focus (simp [goodL, oneA, AV.cells]; done)) | skip))
          | ((with_reducible refine (act_append 1 rfl sl24 sz3 by3 zr3 rfl ?_ ?_ ?_ (fun tk => ?_))); (first | exact goodI _ | exact goodU _ | rfl | exact goodSL _ | exact goodLL _ | (focus (simp [goodL, oneA, AV.cells]; done)) | skip))
          | ((with_reducible refine actC_mk (act_append 2 rfl sl24 sz3 by3 zr3 rfl ?_ ?_ ?_ (fun tk => ?_))); (first | exact goodI _ | exact goodU _ | rfl | exact goodSL _ | exact goodLL _ | (focus (simp [goodL, oneA, AV.cells]; done)) | skip))
          | ((with_reducible refine (act_append 2 rfl sl24 sz3 by3 zr3 rfl ?_ ?_ ?_ (fun tk => ?_))); (first | exact goodI _ | exact goodU _ | rfl | exact goodSL _ | exact goodLL _ | (focus (simp [goodL, oneA, AV.cells]; done)) | skip))
          | ((with_reducible refine wk_bslice sl24 sz3 zr3 (by decide) (by decide) (by decide) (by decide) rfl ?_ ?_ ?_); (first | exact goodI _ | exact goodU _ | rfl | exact goodSL _ | exact goodLL _ | (focus (simp [goodL, oneA, AV.cells]; done))); (all_goals first | (intro x hx; simp at hx; first | (subst hx; rfl) | (rcases hx with rfl | rfl <;> rfl) | (rcases hx with rfl | rfl | rfl <;> rfl) | (repeat (rcases hx with rfl | hx <;> try rfl))) | skip))
          | ((with_reducible refine wk_bslice sl37 sz24 zr24 (by decide) (by decide) (by decide) (by decide) rfl ?_ ?_ ?_); (first | exact goodI _ | exact goodU _ | rfl | exact goodSL _ | exact goodLL _ | (focus (simp [goodL, oneA, AV.cells]; done))); (all_goals first | (intro x hx; simp at hx; first | (subst hx; rfl) | (rcases hx with rfl | rfl <;> rfl) | (rcases hx with rfl | rfl | rfl <;> rfl) | (repeat (rcases hx with rfl | hx <;> try rfl))) | skip))
          | (with_reducible refine callD_mk (alive7 ?_))
          | (with_reducible refine callD_mk (dReadAll ?_ ?_))
          | (with_reducible refine callD_mk (num7 ?_))
          | (with_reducible refine callD_mk (sameInts ?_ ?_))
          | (with_reducible refine nilTC_pos (by simp; omega) ?_)
          | (with_reducible refine nilTC_split (fun h => ?_) (fun h bn => ?_) <;> (try simp only [List.length_map] at h))
          | (with_reducible refine grd_cases (fun h => ?_) (fun h => ?_) <;> (try simp only [h]) <;> (try simp only [beq_iff_eq, beq_eq_false_iff_ne, bne_iff_ne, bne_eq_false_iff_eq, decide_eq_true_eq, decide_eq_false_iff_not, Bool.not_eq_true', Bool.not_eq_false', Bool.not_true, Bool.not_false, Bool.not_eq_eq_eq_not, ne_eq, Int.not_lt, Int.not_le, gt_iff_lt, ge_iff_le, Decidable.not_not] at h))
          | (with_reducible refine condC_split (fun h => ?_) (fun h => ?_) <;> (try simp only [h]) <;> (try simp only [beq_iff_eq, beq_eq_false_iff_ne, bne_iff_ne, bne_eq_false_iff_eq, decide_eq_true_eq, decide_eq_false_iff_not, Bool.not_eq_true', Bool.not_eq_false', Bool.not_true, Bool.not_false, Bool.not_eq_eq_eq_not, ne_eq, Int.not_lt, Int.not_le, gt_iff_lt, ge_iff_le, Decidable.not_not] at h))
          | omega | (simp only [List.length_append, List.length_map, List.length_cons, List.length_nil, List.length_drop, List.length_take, List.length_replicate]; omega) | (refine maxLen_ok ?_; (first | omega | (simp only [List.length_append, List.length_map, List.length_cons, List.length_nil, List.length_drop, List.length_take, List.length_replicate]; omega))))
        exact ⟨(m, D ++ [hexD false (c / 2 ^ (4 * m) % 16)], tk), St_leW (by repeat (first | exact trivial | refine ⟨le_rfl, ?_⟩ | refine ⟨le_any, ?_⟩ | refine ⟨le_ro, ?_⟩ | refine ⟨le_nil (by decide), ?_⟩ | refine ⟨le_wrap (by omega) (by omega) (by omega), ?_⟩ | refine ⟨le_int (by omega), ?_⟩ | refine ⟨le_eq (by simp), ?_⟩)) (ResW.refl _) id, ⟨by dsimp only; omega, by dsimp only; rw [← h2]; simp [digs]⟩, by dsimp only; omega⟩
    ·
      refine ACallF.dropL (ACallF_introA Try.func5 rfl ?_)
      simp only [Try.ntmps5]
      repeat' (first
        | (with_reducible refine AW_seqA (AW_block ?_)) | (with_reducible refine AW_block ?_) | (with_reducible refine cut_seqloop ?_) | (with_reducible refine cut_loop ?_) | (with_reducible refine AW_seqA (AW_seqA ?_)) | (with_reducible refine AW_seq ?_) | (with_reducible refine AW_run ?_)
        | simp only [WL, intF, strF, List.toList_toArray, List.set_cons_succ, List.set_cons_zero, List.getD_cons_succ, List.getD_cons_zero, List.getElem?_cons_succ, List.getElem?_cons_zero, List.length_cons, List.length_nil, List.replicate_succ, List.replicate_zero, List.cons_append, List.nil_append, List.append_nil, List.map_cons, List.map_nil, Option.bind_some, Option.map_some, Option.map_none, List.drop_succ_cons, List.drop_zero, List.take_succ_cons, List.take_zero, ← List.map_take, ← List.map_drop, List.take_length, Int.reduceToNat, ne_eq, reduceCtorEq, not_false_eq_true, Nat.reduceAdd, Nat.reduceSub, Nat.reduceLT, Nat.reduceLeDiff, Nat.reduceEqDiff, Nat.zero_lt_succ, Bool.not_true, Bool.not_false, beq_self_eq_true, true_and, and_true, Option.isSome_some, Option.isSome_none, reduceIte, Int.toNat_natCast, Bool.false_eq_true, List.length_map, Nat.le_refl, Option.some.injEq, exists_eq_left', Nat.add_right_cancel_iff, List.take_nil, List.drop_nil, T3, T4, T5, T9, T24, T33, T34, T37, convC_int in3, convC_int in33, cok26, cok27, cok28, cok29, Try.results5, xuU0, xuU1, xuU2, xuUs, Int.reduceToNat, Int.reducePow, Int.reduceMul, Int.reduceSub]
        | (simp (disch := first | omega | (simp only [List.length_append, List.length_map, List.length_cons, List.length_nil, List.length_drop, List.length_take, List.length_replicate]; omega)) only [wrap_id, getI, shl_i, wrapu_id])
        | (with_reducible refine And.intro (by first | omega | exact ⟨_, rfl⟩ | (focus (simp; done)) | (simp; omega)) ?_)
        | ((with_reducible apply wk_load (ty := 3) (ha := ag3) 0); rfl; rfl)
        | ((with_reducible apply wk_load (ty := 3) (ha := ag3) 1); rfl; rfl)
        | ((with_reducible refine actC_mk (act_append_nil (sz := 1) (by decide) ?_)))
        | ((with_reducible refine actC_mk (act_append_src_nil (sz := 1) (by decide) ?_)))
        | ((with_reducible refine actC_mk (act_append 0 rfl sl24 sz3 by3 zr3 rfl ?_ ?_ ?_ (fun tk => ?_))); (first | exact goodI _ | exact goodU _ | rfl | exact goodSL _ | exact goodLL _ | (focus (simp [goodL, oneA, AV.cells]; done)) | skip))
        | ((with_reducible refine (act_append 0 rfl sl24 sz3 by3 zr3 rfl ?_ ?_ ?_ (fun tk => ?_))); (first | exact goodI _ | exact goodU _ | rfl | exact goodSL _ | exact goodLL _ | (focus (simp [goodL, oneA, AV.cells]; done)) | skip))
        | ((with_reducible refine actC_mk (act_append 1 rfl sl24 sz3 by3 zr3 rfl ?_ ?_ ?_ (fun tk => ?_))); (first | exact goodI _ | exact goodU _ | rfl | exact goodSL _ | exact goodLL _ | (focus (simp [goodL, oneA, AV.cells]; done)) | skip))
        | ((with_reducible refine (act_append 1 rfl sl24 sz3 by3 zr3 rfl ?_ ?_ ?_ (fun tk => ?_))); (first | exact goodI _ | exact goodU _ | rfl | exact goodSL _ | exact goodLL _ | (focus (simp [goodL, oneA, AV.cells]; done)) | skip))
        | ((with_reducible refine actC_mk (act_append 2 rfl sl24 sz3 by3 zr3 rfl ?_ ?_ ?_ (fun tk => ?_))); (first | exact goodI _ | exact goodU _ | rfl | exact goodSL _ | exact goodLL _ | (focus (simp [goodL, oneA, AV.cells]; done)) | skip))
        | ((with_reducible refine (act_append 2 rfl sl24 sz3 by3 zr3 rfl ?_ ?_ ?_ (fun tk => ?_))); (first | exact goodI _ | exact goodU _ | rfl | exact goodSL _ | exact goodLL _ | (focus (simp [goodL, oneA, AV.cells]; done)) | skip))
        | ((with_reducible refine actC_mk (act_bslice_own sl24 sz3 zr3 (by decide) (by decide) (by decide) (by decide) rfl ?_ ?_ (fun tb => ?_))); (first | exact goodI _ | exact goodU _ | rfl | exact goodSL _ | exact goodLL _ | (focus (simp [goodL, oneA, AV.cells]; done))); (first | (intro x hx; simp at hx; first | (subst hx; rfl) | (rcases hx with rfl | rfl <;> rfl) | (rcases hx with rfl | rfl | rfl <;> rfl) | (repeat (rcases hx with rfl | hx <;> try rfl))) | skip))
        | ((with_reducible refine wk_bslice sl37 sz24 zr24 (by decide) (by decide) (by decide) (by decide) rfl ?_ ?_ ?_); (first | exact goodI _ | exact goodU _ | rfl | exact goodSL _ | exact goodLL _ | (focus (simp [goodL, oneA, AV.cells]; done))); (all_goals first | (intro x hx; simp at hx; first | (subst hx; rfl) | (rcases hx with rfl | rfl <;> rfl) | (rcases hx with rfl | rfl | rfl <;> rfl) | (repeat (rcases hx with rfl | hx <;> try rfl))) | skip))
        | (with_reducible refine callD_mk (alive7 ?_))
        | (with_reducible refine callD_mk (dReadAll ?_ ?_))
        | (with_reducible refine callD_mk (num7 ?_))
        | (with_reducible refine callD_mk (sameInts ?_ ?_))
        | (with_reducible refine nilTC_pos (by simp; omega) ?_)
        | (with_reducible refine nilTC_split (fun h => ?_) (fun h bn => ?_) <;> (try simp only [List.length_map] at h))
        | (with_reducible refine grd_cases (fun h => ?_) (fun h => ?_) <;> (try simp only [h]) <;> (try simp only [beq_iff_eq, beq_eq_false_iff_ne, bne_iff_ne, bne_eq_false_iff_eq, decide_eq_true_eq, decide_eq_false_iff_not, Bool.not_eq_true', Bool.not_eq_false', Bool.not_true, Bool.not_false, Bool.not_eq_eq_eq_not, ne_eq, Int.not_lt, Int.not_le, gt_iff_lt, ge_iff_le, Decidable.not_not] at h))
        | (with_reducible refine condC_split (fun h => ?_) (fun h => ?_) <;> (try simp only [h]) <;> (try simp only [beq_iff_eq, beq_eq_false_iff_ne, bne_iff_ne, bne_eq_false_iff_eq, decide_eq_true_eq, decide_eq_false_iff_not, Bool.not_eq_true', Bool.not_eq_false', Bool.not_true, Bool.not_false, Bool.not_eq_eq_eq_not, ne_eq, Int.not_lt, Int.not_le, gt_iff_lt, ge_iff_le, Decidable.not_not] at h))
        | omega | (simp only [List.length_append, List.length_map, List.length_cons, List.length_nil, List.length_drop, List.length_take, List.length_replicate]; omega) | (refine maxLen_ok ?_; (first | omega | (simp only [List.length_append, List.length_map, List.length_cons, List.length_nil, List.length_drop, List.length_take, List.length_replicate]; omega))))
      all_goals try exact leafLaw rfl
      all_goals try omega
      have hlim : c < 65536 := by assumption
      refine loopA (fun x : Nat × List Int × Option (Nat × Nat) => ⟨(I c :: I 1 :: B true :: .any :: .any :: .any :: .any :: B true :: .any :: .raw (.string ⟨#[48, 49, 50, 51, 52, 53, 54, 55, 56, 57, 65, 66, 67, 68, 69, 70]⟩) :: SI (some x.2.2) (120 :: 92 :: 117 :: x.2.1) :: I ((x.1 : Int) - 1) :: .any :: .any :: .any :: .any :: .any :: .any :: .any :: .any :: .any :: .any :: .any :: .any :: .any :: .any :: .any :: .any :: .any :: .any :: .any :: .any :: .any :: .any :: .any :: .any :: .any :: .any :: .any :: .any :: .any :: .any :: .any :: .any :: .any :: .any :: .any :: .any :: .any :: .any :: .any :: .any :: .any :: .any :: .any :: .any :: .any :: .any :: .any :: .any :: .any :: .any :: .any :: .any :: .any :: .any :: .any :: .any :: .any :: .any :: .any :: .any :: .any :: .any :: .any :: .any :: .any :: .any :: .any :: .any :: .any :: .any :: .any :: .any :: .any :: .any :: .any :: .any :: .any :: .any :: .any :: .any :: .any :: .any :: .any :: .any :: .any :: .any :: .any :: .any :: .any :: .any :: .any :: .any :: .any :: .any :: .any :: .any :: .any :: .any :: .any :: .any :: .any :: .any :: .any :: .any :: .any :: .any :: []), [.tip x.2.2], true, []⟩)
        (fun x => x.1 ≤ 4 ∧ x.2.1 ++ digs true c x.1 = digs true c 4) (fun x => x.1) (4, [], _) (St_leW (by repeat (first | exact trivial | refine ⟨le_rfl, ?_⟩ | refine ⟨le_any, ?_⟩ | refine ⟨le_ro, ?_⟩ | refine ⟨le_nil (by decide), ?_⟩ | refine ⟨le_wrap (by omega) (by omega) (by omega), ?_⟩ | refine ⟨le_int (by omega), ?_⟩ | refine ⟨le_eq (by simp), ?_⟩)) (ResW.sub (List.Sublist.cons_cons _ (List.nil_sublist _))) id) ⟨Nat.le_refl _, rfl⟩ ?_
      rintro ⟨m, D, tk⟩ hx
      dsimp only at hx ⊢
      have h1 := hx.1
      have h2 := hx.2
      have hln := congrArg List.length h2
      simp only [List.length_append, digs_len] at hln
      rcases m with _ | m
      · have hD : D.length = 4 := by omega
        have hg : numGo 0 D = some c := by
          have hDD : D = digs true c 4 := by rw [← h2]; exact (List.append_nil D).symm
          rw [hDD, numGo_digs (by omega)]
          congr 1
          show 0 * 2 ^ (4 * 4) + c % 2 ^ (4 * 4) = c
          rw [Int.zero_mul, Int.zero_add]
          exact Int.emod_eq_of_lt (by omega) (by omega)
        have hE1 := esc_short (s := 117) (n := 4) (D := D.take (4 - 1)) (by decide) rfl (by decide) (by simp; omega)
        have hE2 := esc_full (s := 117) (c := c) (n := 4) (D := D) (by decide) rfl (by decide) hD hg
        have ht1 : tot [120 :: 92 :: 117 :: D.take (4 - 1)] ≤ 100000000 := by simp [tot]; omega
        have ht2 : tot [120 :: 92 :: 117 :: (D ++ [121])] ≤ 100000000 := by simp [tot]; omega
        simp only [Nat.reduceSub] at hE1 ht1
        cases hr : rightI c
        · have hrn := rightI_not.1 hr
          repeat' (first
            | (with_reducible refine AW_seqA (AW_block ?_)) | (with_reducible refine AW_block ?_) | (with_reducible refine cut_seqloop ?_) | (with_reducible refine cut_loop ?_) | (with_reducible refine AW_seqA (AW_seqA ?_)) | (with_reducible refine AW_seq ?_) | (with_reducible refine AW_run ?_)
            | simp only [WL, intF, strF, List.toList_toArray, List.set_cons_succ, List.set_cons_zero, List.getD_cons_succ, List.getD_cons_zero, List.getElem?_cons_succ, List.getElem?_cons_zero, List.length_cons, List.length_nil, List.replicate_succ, List.replicate_zero, List.cons_append, List.nil_append, List.append_nil, List.map_cons, List.map_nil, Option.bind_some, Option.map_some, Option.map_none, List.drop_succ_cons, List.drop_zero, List.take_succ_cons, List.take_zero, ← List.map_take, ← List.map_drop, List.take_length, Int.reduceToNat, ne_eq, reduceCtorEq, not_false_eq_true, Nat.reduceAdd, Nat.reduceSub, Nat.reduceLT, Nat.reduceLeDiff, Nat.reduceEqDiff, Nat.zero_lt_succ, Bool.not_true, Bool.not_false, beq_self_eq_true, true_and, and_true, Option.isSome_some, Option.isSome_none, reduceIte, Int.toNat_natCast, Bool.false_eq_true, List.length_map, Nat.le_refl, Option.some.injEq, exists_eq_left', Nat.add_right_cancel_iff, List.take_nil, List.drop_nil, T3, T4, T5, T9, T24, T33, T34, T37, convC_int in3, convC_int in33, cok26, cok27, cok28, cok29, Try.results5, hD, hE1, hE2, hr, Int.reduceToNat, Int.reduceSub, Int.reduceNeg, Int.cast_ofNat_Int, Int.natCast_zero, Int.zero_sub]
            | (simp (disch := first | omega | (simp only [List.length_append, List.length_map, List.length_cons, List.length_nil, List.length_drop, List.length_take, List.length_replicate]; omega)) only [wrap_id, getI])
            | (with_reducible refine And.intro (by first | omega | exact ⟨_, rfl⟩ | (focus (simp; done)) | (simp; omega)) ?_)
            | ((with_reducible apply wk_load (ty := 3) (ha := ag3) 0); rfl; rfl)
            | ((with_reducible apply wk_load (ty := 3) (ha := ag3) 1); rfl; rfl)
            | ((with_reducible refine actC_mk (act_append_nil (sz := 1) (by decide) ?_)))
            | ((with_reducible refine actC_mk (act_append_src_nil (sz := 1) (by decide) ?_)))
            | ((with_reducible refine actC_mk (act_append 0 rfl sl24 sz3 by3 zr3 rfl ?_ ?_ ?_ (fun tk => ?_))); (first | exact goodI _ | exact goodU _ | rfl | exact goodSL _ | exact goodLL _ | (focus (simp [goodL, oneA, AV.cells]; done)) | skip))
            | ((with_reducible refine (act_append 0 rfl sl24 sz3 by3 zr3 rfl ?_ ?_ ?_ (fun tk => ?_))); (first | exact goodI _ | exact goodU _ | rfl | exact goodSL _ | exact goodLL _ | (focus (simp [goodL, oneA, AV.cells]; done)) | skip))
            | ((with_reducible refine actC_mk (act_append 1 rfl sl24 sz3 by3 zr3 rfl ?_ ?_ ?_ (fun tk => ?_))); (first | exact goodI _ | exact goodU _ | rfl | exact goodSL _ | exact goodLL _ | (focus (simp [goodL, oneA, AV.cells]; done)) | skip))
            | ((with_reducible refine (act_append 1 rfl sl24 sz3 by3 zr3 rfl ?_ ?_ ?_ (fun tk => ?_))); (first | exact goodI _ | exact goodU _ | rfl | exact goodSL _ | exact goodLL _ | (focus (simp [goodL, oneA, AV.cells]; done)) | skip))
            | ((with_reducible refine actC_mk (act_append 2 rfl sl24 sz3 by3 zr3 rfl ?_ ?_ ?_ (fun tk => ?_))); (first | exact goodI _ | exact goodU _ | rfl | exact goodSL _ | exact goodLL _ | (focus (simp [goodL, oneA, AV.cells]; done)) | skip))
            | ((with_reducible refine (act_append 2 rfl sl24 sz3 by3 zr3 rfl ?_ ?_ ?_ (fun tk => ?_))); (first | exact goodI _ | exact goodU _ | rfl | exact goodSL _ | exact goodLL _ | (focus (simp [goodL, oneA, AV.cells]; done)) | skip))
            | ((with_reducible refine wk_bslice sl24 sz3 zr3 (by decide) (by decide) (by decide) (by decide) rfl ?_ ?_ ?_); (first | exact goodI _ | exact goodU _ | rfl | exact goodSL _ | exact goodLL _ | (focus (simp [goodL, oneA, AV.cells]; done))); (all_goals first | (intro x hx; simp at hx; first | (subst hx; rfl) | (rcases hx with rfl | rfl <;> rfl) | (rcases hx with rfl | rfl | rfl <;> rfl) | (repeat (rcases hx with rfl | hx <;> try rfl))) | skip))
            | ((with_reducible refine wk_bslice sl37 sz24 zr24 (by decide) (by decide) (by decide) (by decide) rfl ?_ ?_ ?_); (first | exact goodI _ | exact goodU _ | rfl | exact goodSL _ | exact goodLL _ | (focus (simp [goodL, oneA, AV.cells]; done))); (all_goals first | (intro x hx; simp at hx; first | (subst hx; rfl) | (rcases hx with rfl | rfl <;> rfl) | (rcases hx with rfl | rfl | rfl <;> rfl) | (repeat (rcases hx with rfl | hx <;> try rfl))) | skip))
            | ( refine callD_mk (ACallF.argsS (ys := [SSI none [120 :: 92 :: 117 :: D.take 3]]) ⟨leS_sl (leC_one rfl rfl (leS_le le_rfl) trivial), trivial⟩ (dReadAll ht1 ?_)))
            | ( refine callD_mk (ACallF.argsS (ys := [SSI none [120 :: 92 :: 117 :: (D ++ [121])]]) ⟨leS_sl (leC_one rfl rfl (leS_trans (leS_eq (show _ = SI (some tk) (120 :: 92 :: 117 :: (D ++ [121])) by simp)) (leS_le le_ro)) trivial), trivial⟩ (dReadAll ht2 ?_)))
            | (with_reducible refine callD_mk (alive7 ?_))
            | (with_reducible refine callD_mk (dReadAll ?_ ?_))
            | (with_reducible refine callD_mk (num7 ?_))
            | (with_reducible refine callD_mk (sameInts ?_ ?_))
            | (with_reducible refine nilTC_pos (by simp; omega) ?_)
            | (with_reducible refine nilTC_split (fun h => ?_) (fun h bn => ?_) <;> (try simp only [List.length_map] at h))
            | (with_reducible refine grd_cases (fun h => ?_) (fun h => ?_) <;> (try simp only [h]) <;> (try simp only [beq_iff_eq, beq_eq_false_iff_ne, bne_iff_ne, bne_eq_false_iff_eq, decide_eq_true_eq, decide_eq_false_iff_not, Bool.not_eq_true', Bool.not_eq_false', Bool.not_true, Bool.not_false, Bool.not_eq_eq_eq_not, ne_eq, Int.not_lt, Int.not_le, gt_iff_lt, ge_iff_le, Decidable.not_not] at h))
            | (with_reducible refine condC_split (fun h => ?_) (fun h => ?_) <;> (try simp only [h]) <;> (try simp only [beq_iff_eq, beq_eq_false_iff_ne, bne_iff_ne, bne_eq_false_iff_eq, decide_eq_true_eq, decide_eq_false_iff_not, Bool.not_eq_true', Bool.not_eq_false', Bool.not_true, Bool.not_false, Bool.not_eq_eq_eq_not, ne_eq, Int.not_lt, Int.not_le, gt_iff_lt, ge_iff_le, Decidable.not_not] at h))
            | omega | (simp only [List.length_append, List.length_map, List.length_cons, List.length_nil, List.length_drop, List.length_take, List.length_replicate]; omega) | (refine maxLen_ok ?_; (first | omega | (simp only [List.length_append, List.length_map, List.length_cons, List.length_nil, List.length_drop, List.length_take, List.length_replicate]; omega))))
          all_goals first
            | exact leafLaw rfl
            | exact leafLaw (decide_eq_true trivial)
            | (rename_i h; exact absurd trivial h)
            | omega
        · have hrn := rightI_iff.1 hr
          repeat' (first
            | (with_reducible refine AW_seqA (AW_block ?_)) | (with_reducible refine AW_block ?_) | (with_reducible refine cut_seqloop ?_) | (with_reducible refine cut_loop ?_) | (with_reducible refine AW_seqA (AW_seqA ?_)) | (with_reducible refine AW_seq ?_) | (with_reducible refine AW_run ?_)
            | simp only [WL, intF, strF, List.toList_toArray, List.set_cons_succ, List.set_cons_zero, List.getD_cons_succ, List.getD_cons_zero, List.getElem?_cons_succ, List.getElem?_cons_zero, List.length_cons, List.length_nil, List.replicate_succ, List.replicate_zero, List.cons_append, List.nil_append, List.append_nil, List.map_cons, List.map_nil, Option.bind_some, Option.map_some, Option.map_none, List.drop_succ_cons, List.drop_zero, List.take_succ_cons, List.take_zero, ← List.map_take, ← List.map_drop, List.take_length, Int.reduceToNat, ne_eq, reduceCtorEq, not_false_eq_true, Nat.reduceAdd, Nat.reduceSub, Nat.reduceLT, Nat.reduceLeDiff, Nat.reduceEqDiff, Nat.zero_lt_succ, Bool.not_true, Bool.not_false, beq_self_eq_true, true_and, and_true, Option.isSome_some, Option.isSome_none, reduceIte, Int.toNat_natCast, Bool.false_eq_true, List.length_map, Nat.le_refl, Option.some.injEq, exists_eq_left', Nat.add_right_cancel_iff, List.take_nil, List.drop_nil, T3, T4, T5, T9, T24, T33, T34, T37, convC_int in3, convC_int in33, cok26, cok27, cok28, cok29, Try.results5, hD, hE1, hE2, hr, Int.reduceToNat, Int.reduceSub, Int.reduceNeg, Int.cast_ofNat_Int, Int.natCast_zero, Int.zero_sub]
            | (simp (disch := first | omega | (simp only [List.length_append, List.length_map, List.length_cons, List.length_nil, List.length_drop, List.length_take, List.length_replicate]; omega)) only [wrap_id, getI])
            | (with_reducible refine And.intro (by first | omega | exact ⟨_, rfl⟩ | (focus (simp; done)) | (simp; omega)) ?_)
            | ((with_reducible apply wk_load (ty := 3) (ha := ag3) 0); rfl; rfl)
            | ((with_reducible apply wk_load (ty := 3) (ha := ag3) 1); rfl; rfl)
            | ((with_reducible refine actC_mk (act_append_nil (sz := 1) (by decide) ?_)))
            | ((with_reducible refine actC_mk (act_append_src_nil (sz := 1) (by decide) ?_)))
            | ((with_reducible refine actC_mk (act_append 0 rfl sl24 sz3 by3 zr3 rfl ?_ ?_ ?_ (fun tk => ?_))); (first | exact goodI _ | exact goodU _ | rfl | exact goodSL _ | exact goodLL _ | (focus (simp [goodL, oneA, AV.cells]; done)) | skip))
            | ((with_reducible refine (act_append 0 rfl sl24 sz3 by3 zr3 rfl ?_ ?_ ?_ (fun tk => ?_))); (first | exact goodI _ | exact goodU _ | rfl | exact goodSL _ | exact goodLL _ | (focus (simp [goodL, oneA, AV.cells]; done)) | skip))
            | ((with_reducible refine actC_mk (act_append 1 rfl sl24 sz3 by3 zr3 rfl ?_ ?_ ?_ (fun tk => ?_))); (first | exact goodI _ | exact goodU _ | rfl | exact goodSL _ | exact goodLL _ | (focus (simp [goodL, oneA, AV.cells]; done)) | skip))
            | ((with_reducible refine (act_append 1 rfl sl24 sz3 by3 zr3 rfl ?_ ?_ ?_ (fun tk => ?_))); (first | exact goodI _ | exact goodU _ | rfl | exact goodSL _ | exact goodLL _ | (focus (simp [goodL, oneA, AV.cells]; done)) | skip))
            | ((with_reducible refine actC_mk (act_append 2 rfl sl24 sz3 by3 zr3 rfl ?_ ?_ ?_ (fun tk => ?_))); (first | exact goodI _ | exact goodU _ | rfl | exact goodSL _ | exact goodLL _ | (focus (simp [goodL, oneA, AV.cells]; done)) | skip))
            | ((with_reducible refine (act_append 2 rfl sl24 sz3 by3 zr3 rfl ?_ ?_ ?_ (fun tk => ?_))); (first | exact goodI _ | exact goodU _ | rfl | exact goodSL _ | exact goodLL _ | (focus (simp [goodL, oneA, AV.cells]; done)) | skip))
            | ((with_reducible refine wk_bslice sl24 sz3 zr3 (by decide) (by decide) (by decide) (by decide) rfl ?_ ?_ ?_); (first | exact goodI _ | exact goodU _ | rfl | exact goodSL _ | exact goodLL _ | (focus (simp [goodL, oneA, AV.cells]; done))); (all_goals first | (intro x hx; simp at hx; first | (subst hx; rfl) | (rcases hx with rfl | rfl <;> rfl) | (rcases hx with rfl | rfl | rfl <;> rfl) | (repeat (rcases hx with rfl | hx <;> try rfl))) | skip))
            | ((with_reducible refine wk_bslice sl37 sz24 zr24 (by decide) (by decide) (by decide) (by decide) rfl ?_ ?_ ?_); (first | exact goodI _ | exact goodU _ | rfl | exact goodSL _ | exact goodLL _ | (focus (simp [goodL, oneA, AV.cells]; done))); (all_goals first | (intro x hx; simp at hx; first | (subst hx; rfl) | (rcases hx with rfl | rfl <;> rfl) | (rcases hx with rfl | rfl | rfl <;> rfl) | (repeat (rcases hx with rfl | hx <;> try rfl))) | skip))
            | ( refine callD_mk (ACallF.argsS (ys := [SSI none [120 :: 92 :: 117 :: D.take 3]]) ⟨leS_sl (leC_one rfl rfl (leS_le le_rfl) trivial), trivial⟩ (dReadAll ht1 ?_)))
            | ( refine callD_mk (ACallF.argsS (ys := [SSI none [120 :: 92 :: 117 :: (D ++ [121])]]) ⟨leS_sl (leC_one rfl rfl (leS_trans (leS_eq (show _ = SI (some tk) (120 :: 92 :: 117 :: (D ++ [121])) by simp)) (leS_le le_ro)) trivial), trivial⟩ (dReadAll ht2 ?_)))
            | ( refine callD_mk (ACallF.argsS (ys := [SI none [120, c, 121], SI none [120, c, 121]]) ⟨leS_le le_rfl, leS_le le_rfl, trivial⟩ (sameInts (by simp) ?_)))
            | (with_reducible refine callD_mk (alive7 ?_))
            | (with_reducible refine callD_mk (dReadAll ?_ ?_))
            | (with_reducible refine callD_mk (num7 ?_))
            | (with_reducible refine callD_mk (sameInts ?_ ?_))
            | (with_reducible refine nilTC_pos (by simp; omega) ?_)
            | (with_reducible refine nilTC_split (fun h => ?_) (fun h bn => ?_) <;> (try simp only [List.length_map] at h))
            | (with_reducible refine grd_cases (fun h => ?_) (fun h => ?_) <;> (try simp only [h]) <;> (try simp only [beq_iff_eq, beq_eq_false_iff_ne, bne_iff_ne, bne_eq_false_iff_eq, decide_eq_true_eq, decide_eq_false_iff_not, Bool.not_eq_true', Bool.not_eq_false', Bool.not_true, Bool.not_false, Bool.not_eq_eq_eq_not, ne_eq, Int.not_lt, Int.not_le, gt_iff_lt, ge_iff_le, Decidable.not_not] at h))
            | (with_reducible refine condC_split (fun h => ?_) (fun h => ?_) <;> (try simp only [h]) <;> (try simp only [beq_iff_eq, beq_eq_false_iff_ne, bne_iff_ne, bne_eq_false_iff_eq, decide_eq_true_eq, decide_eq_false_iff_not, Bool.not_eq_true', Bool.not_eq_false', Bool.not_true, Bool.not_false, Bool.not_eq_eq_eq_not, ne_eq, Int.not_lt, Int.not_le, gt_iff_lt, ge_iff_le, Decidable.not_not] at h))
            | omega | (simp only [List.length_append, List.length_map, List.length_cons, List.length_nil, List.length_drop, List.length_take, List.length_replicate]; omega) | (refine maxLen_ok ?_; (first | omega | (simp only [List.length_append, List.length_map, List.length_cons, List.length_nil, List.length_drop, List.length_take, List.length_replicate]; omega))))
          all_goals first
            | exact leafLaw rfl
            | exact leafLaw (decide_eq_true trivial)
            | (rename_i h; exact absurd trivial h)
            | omega
      · have hx16 : 0 ≤ c / 2 ^ (4 * m) % 16 ∧ c / 2 ^ (4 * m) % 16 < 16 := by omega
        have hxd := hexD_le (up := true) hx16.1 hx16.2
        repeat' (first
          | (with_reducible refine AW_seqA (AW_block ?_)) | (with_reducible refine AW_block ?_) | (with_reducible refine cut_seqloop ?_) | (with_reducible refine cut_loop ?_) | (with_reducible refine AW_seqA (AW_seqA ?_)) | (with_reducible refine AW_seq ?_) | (with_reducible refine AW_run ?_)
          | simp only [WL, intF, strF, List.toList_toArray, List.set_cons_succ, List.set_cons_zero, List.getD_cons_succ, List.getD_cons_zero, List.getElem?_cons_succ, List.getElem?_cons_zero, List.length_cons, List.length_nil, List.replicate_succ, List.replicate_zero, List.cons_append, List.nil_append, List.append_nil, List.map_cons, List.map_nil, Option.bind_some, Option.map_some, Option.map_none, List.drop_succ_cons, List.drop_zero, List.take_succ_cons, List.take_zero, ← List.map_take, ← List.map_drop, List.take_length, Int.reduceToNat, ne_eq, reduceCtorEq, not_false_eq_true, Nat.reduceAdd, Nat.reduceSub, Nat.reduceLT, Nat.reduceLeDiff, Nat.reduceEqDiff, Nat.zero_lt_succ, Bool.not_true, Bool.not_false, beq_self_eq_true, true_and, and_true, Option.isSome_some, Option.isSome_none, reduceIte, Int.toNat_natCast, Bool.false_eq_true, List.length_map, Nat.le_refl, Option.some.injEq, exists_eq_left', Nat.add_right_cancel_iff, List.take_nil, List.drop_nil, T3, T4, T5, T9, T24, T33, T34, T37, convC_int in3, convC_int in33, cok26, cok27, cok28, cok29, Try.results5, m1, t4, fold_and, and15, hexLs, hexUs]
          | (simp (disch := first | omega | (simp only [List.length_append, List.length_map, List.length_cons, List.length_nil, List.length_drop, List.length_take, List.length_replicate]; omega)) only [wrap_id, getI, shr_i, wrapu_id, hexL, hexU])
          | (with_reducible refine And.intro (by first | omega | exact ⟨_, rfl⟩ | (focus (simp; done)) | (simp; omega)) ?_)
          | ((with_reducible apply wk_load (ty := 3) (ha := ag3) 0); rfl; rfl)
          | ((with_reducible apply wk_load (ty := 3) (ha := ag3) 1); rfl; rfl)
          | ((with_reducible refine actC_mk (act_append_nil (sz := 1) (by decide) ?_)))
          | ((with_reducible refine actC_mk (act_append_src_nil (sz := 1) (by decide) ?_)))
          | ((with_reducible refine actC_mk (act_append 0 rfl sl24 sz3 by3 zr3 rfl ?_ ?_ ?_ (fun tk => ?_))); (first | exact goodI _ | exact goodU _ | rfl | exact goodSL _ | exact goodLL _ | (focus (simp [goodL, oneA, AV.cells]; done)) | skip))
          | ((with_reducible refine (act_append 0 rfl sl24 sz3 by3 zr3 rfl ?_ ?_ ?_ (fun tk => ?_))); (first | exact goodI _ | exact goodU _ | rfl | exact goodSL _ | exact goodLL _ | (focus (simp [goodL, oneA, AV.cells]; done)) | skip))
          | ((with_reducible refine actC_mk (act_append 1 rfl sl24 sz3 by3 zr3 rfl ?_ ?_ ?_ (fun tk => ?_))); (first | exact goodI _ | exact goodU _ | rfl | exact goodSL _ | exact goodLL _ | (focus (simp [goodL, oneA, AV.cells]; done)) | skip))
          | ((with_reducible refine (act_append 1 rfl sl24 sz3 by3 zr3 rfl ?_ ?_ ?_ (fun tk => ?_))); (first | exact goodI _ | exact goodU _ | rfl | exact goodSL _ | exact goodLL _ | (focus (simp [goodL, oneA, AV.cells]; done)) | skip))
          | ((with_reducible refine actC_mk (act_append 2 rfl sl24 sz3 by3 zr3 rfl ?_ ?_ ?_ (fun tk => ?_))); (first | exact goodI _ | exact goodU _ | rfl | exact goodSL _ | exact goodLL _ | (focus (simp [goodL, oneA, AV.cells]; done)) | skip))
          | ((with_reducible refine (act_append 2 rfl sl24 sz3 by3 zr3 rfl ?_ ?_ ?_ (fun tk => ?_))); (first | exact goodI _ | exact goodU _ | rfl | exact goodSL _ | exact goodLL _ | (focus (simp [goodL, oneA, AV.cells]; done)) | skip))
          | ((with_reducible refine wk_bslice sl24 sz3 zr3 (by decide) (by decide) (by decide) (by decide) rfl ?_ ?_ ?_); (first | exact goodI _ | exact goodU _ | rfl | exact goodSL _ | exact goodLL _ | (focus (simp [goodL, oneA, AV.cells]; done))); (all_goals first | (intro x hx; simp at hx; first | (subst hx; rfl) | (rcases hx with rfl | rfl <;> rfl) | (rcases hx with rfl | rfl | rfl <;> rfl) | (repeat (rcases hx with rfl | hx <;> try rfl))) | skip))
          | ((with_reducible refine wk_bslice sl37 sz24 zr24 (by decide) (by decide) (by decide) (by decide) rfl ?_ ?_ ?_); (first | exact goodI _ | exact goodU _ | rfl | exact goodSL _ | exact goodLL _ | (focus (simp [goodL, oneA, AV.cells]; done))); (all_goals first | (intro x hx; simp at hx; first | (subst hx; rfl) | (rcases hx with rfl | rfl <;> rfl) | (rcases hx with rfl | rfl | rfl <;> rfl) | (repeat (rcases hx with rfl | hx <;> try rfl))) | skip))
          | (with_reducible refine callD_mk (alive7 ?_))
          | (with_reducible refine callD_mk (dReadAll ?_ ?_))
          | (with_reducible refine callD_mk (num7 ?_))
          | (with_reducible refine callD_mk (sameInts ?_ ?_))
          | (with_reducible refine nilTC_pos (by simp; omega) ?_)
          | (with_reducible refine nilTC_split (fun h => ?_) (fun h bn => ?_) <;> (try simp only [List.length_map] at h))
          | (with_reducible refine grd_cases (fun h => ?_) (fun h => ?_) <;> (try simp only [h]) <;> (try simp only [beq_iff_eq, beq_eq_false_iff_ne, bne_iff_ne, bne_eq_false_iff_eq, decide_eq_true_eq, decide_eq_false_iff_not, Bool.not_eq_true', Bool.not_eq_false', Bool.not_true, Bool.not_false, Bool.not_eq_eq_eq_not, ne_eq, Int.not_lt, Int.not_le, gt_iff_lt, ge_iff_le, Decidable.not_not] at h))
          | (with_reducible refine condC_split (fun h => ?_) (fun h => ?_) <;> (try simp only [h]) <;> (try simp only [beq_iff_eq, beq_eq_false_iff_ne, bne_iff_ne, bne_eq_false_iff_eq, decide_eq_true_eq, decide_eq_false_iff_not, Bool.not_eq_true', Bool.not_eq_false', Bool.not_true, Bool.not_false, Bool.not_eq_eq_eq_not, ne_eq, Int.not_lt, Int.not_le, gt_iff_lt, ge_iff_le, Decidable.not_not] at h))
          | omega | (simp only [List.length_append, List.length_map, List.length_cons, List.length_nil, List.length_drop, List.length_take, List.length_replicate]; omega) | (refine maxLen_ok ?_; (first | omega | (simp only [List.length_append, List.length_map, List.length_cons, List.length_nil, List.length_drop, List.length_take, List.length_replicate]; omega))))
        exact ⟨(m, D ++ [hexD true (c / 2 ^ (4 * m) % 16)], tk), St_leW (by repeat (first | exact trivial | refine ⟨le_rfl, ?_⟩ | refine ⟨le_any, ?_⟩ | refine ⟨le_ro, ?_⟩ | refine ⟨le_nil (by decide), ?_⟩ | refine ⟨le_wrap (by omega) (by omega) (by omega), ?_⟩ | refine ⟨le_int (by omega), ?_⟩ | refine ⟨le_eq (by simp), ?_⟩)) (ResW.refl _) id, ⟨by dsimp only; omega, by dsimp only; rw [← h2]; simp [digs]⟩, by dsimp only; omega⟩
  · cases up
    ·
      refine ACallF.dropL (ACallF_introA Try.func5 rfl ?_)
      simp only [Try.ntmps5]
      repeat' (first
        | (with_reducible refine AW_seqA (AW_block ?_)) | (with_reducible refine AW_block ?_) | (with_reducible refine cut_seqloop ?_) | (with_reducible refine cut_loop ?_) | (with_reducible refine AW_seqA (AW_seqA ?_)) | (with_reducible refine AW_seq ?_) | (with_reducible refine AW_run ?_)
        | simp only [WL, intF, strF, List.toList_toArray, List.set_cons_succ, List.set_cons_zero, List.getD_cons_succ, List.getD_cons_zero, List.getElem?_cons_succ, List.getElem?_cons_zero, List.length_cons, List.length_nil, List.replicate_succ, List.replicate_zero, List.cons_append, List.nil_append, List.append_nil, List.map_cons, List.map_nil, Option.bind_some, Option.map_some, Option.map_none, List.drop_succ_cons, List.drop_zero, List.take_succ_cons, List.take_zero, ← List.map_take, ← List.map_drop, List.take_length, Int.reduceToNat, ne_eq, reduceCtorEq, not_false_eq_true, Nat.reduceAdd, Nat.reduceSub, Nat.reduceLT, Nat.reduceLeDiff, Nat.reduceEqDiff, Nat.zero_lt_succ, Bool.not_true, Bool.not_false, beq_self_eq_true, true_and, and_true, Option.isSome_some, Option.isSome_none, reduceIte, Int.toNat_natCast, Bool.false_eq_true, List.length_map, Nat.le_refl, Option.some.injEq, exists_eq_left', Nat.add_right_cancel_iff, List.take_nil, List.drop_nil, T3, T4, T5, T9, T24, T33, T34, T37, convC_int in3, convC_int in33, cok26, cok27, cok28, cok29, Try.results5, xuU0, xuU1, xuU2, xuUs, Int.reduceToNat, Int.reducePow, Int.reduceMul, Int.reduceSub]
        | (simp (disch := first | omega | (simp only [List.length_append, List.length_map, List.length_cons, List.length_nil, List.length_drop, List.length_take, List.length_replicate]; omega)) only [wrap_id, getI, shl_i, wrapu_id])
        | (with_reducible refine And.intro (by first | omega | exact ⟨_, rfl⟩ | (focus (simp; done)) | (simp; omega)) ?_)
        | ((with_reducible apply wk_load (ty := 3) (ha := ag3) 0); rfl; rfl)
        | ((with_reducible apply wk_load (ty := 3) (ha := ag3) 1); rfl; rfl)
        | ((with_reducible refine actC_mk (act_append_nil (sz := 1) (by decide) ?_)))
        | ((with_reducible refine actC_mk (act_append_src_nil (sz := 1) (by decide) ?_)))
        | ((with_reducible refine actC_mk (act_append 0 rfl sl24 sz3 by3 zr3 rfl ?_ ?_ ?_ (fun tk => ?_))); (first | exact goodI _ | exact goodU _ | rfl | exact goodSL _ | exact goodLL _ | (focus (simp [goodL, oneA, AV.cells]; done)) | skip))
        | ((with_reducible refine (act_append 0 rfl sl24 sz3 by3 zr3 rfl ?_ ?_ ?_ (fun tk => ?_))); (first | exact goodI _ | exact goodU _ | rfl | exact goodSL _ | exact goodLL _ | (focus (simp [goodL, oneA, AV.cells]; done)) | skip))
        | ((with_reducible refine actC_mk (act_append 1 rfl sl24 sz3 by3 zr3 rfl ?_ ?_ ?_ (fun tk => ?_))); (first | exact goodI _ | exact goodU _ | rfl | exact goodSL _ | exact goodLL _ | (focus (simp [goodL, oneA, AV.cells]; done)) | skip))
        | ((with_reducible refine (act_append 1 rfl sl24 sz3 by3 zr3 rfl ?_ ?_ ?_ (fun tk => ?_))); (first | exact goodI _ | exact goodU _ | rfl | exact goodSL _ | exact goodLL _ | (focus (simp [goodL, oneA, AV.cells]; done)) | skip))
        | ((with_reducible refine actC_mk (act_append 2 rfl sl24 sz3 by3 zr3 rfl ?_ ?_ ?_ (fun tk => ?_))); (first | exact goodI _ | exact goodU _ | rfl | exact goodSL _ | exact goodLL _ | (focus (simp [goodL, oneA, AV.cells]; done)) | skip))
        | ((with_reducible refine (act_append 2 rfl sl24 sz3 by3 zr3 rfl ?_ ?_ ?_ (fun tk => ?_))); (first | exact goodI _ | exact goodU _ | rfl | exact goodSL _ | exact goodLL _ | (focus (simp [goodL, oneA, AV.cells]; done)) | skip))
        | ((with_reducible refine actC_mk (act_bslice_own sl24 sz3 zr3 (by decide) (by decide) (by decide) (by decide) rfl ?_ ?_ (fun tb => ?_))); (first | exact goodI _ | exact goodU _ | rfl | exact goodSL _ | exact goodLL _ | (focus (simp [goodL, oneA, AV.cells]; done))); (first | (intro x hx; simp at hx; first | (subst hx; rfl) | (rcases hx with rfl | rfl <;> rfl) | (rcases hx with rfl | rfl | rfl <;> rfl) | (repeat (rcases hx with rfl | hx <;> try rfl))) | skip))
        | ((with_reducible refine wk_bslice sl37 sz24 zr24 (by decide) (by decide) (by decide) (by decide) rfl ?_ ?_ ?_); (first | exact goodI _ | exact goodU _ | rfl | exact goodSL _ | exact goodLL _ | (focus (simp [goodL, oneA, AV.cells]; done))); (all_goals first | (intro x hx; simp at hx; first | (subst hx; rfl) | (rcases hx with rfl | rfl <;> rfl) | (rcases hx with rfl | rfl | rfl <;> rfl) | (repeat (rcases hx with rfl | hx <;> try rfl))) | skip))
        | (with_reducible refine callD_mk (alive7 ?_))
        | (with_reducible refine callD_mk (dReadAll ?_ ?_))
        | (with_reducible refine callD_mk (num7 ?_))
        | (with_reducible refine callD_mk (sameInts ?_ ?_))
        | (with_reducible refine nilTC_pos (by simp; omega) ?_)
        | (with_reducible refine nilTC_split (fun h => ?_) (fun h bn => ?_) <;> (try simp only [List.length_map] at h))
        | (with_reducible refine grd_cases (fun h => ?_) (fun h => ?_) <;> (try simp only [h]) <;> (try simp only [beq_iff_eq, beq_eq_false_iff_ne, bne_iff_ne, bne_eq_false_iff_eq, decide_eq_true_eq, decide_eq_false_iff_not, Bool.not_eq_true', Bool.not_eq_false', Bool.not_true, Bool.not_false, Bool.not_eq_eq_eq_not, ne_eq, Int.not_lt, Int.not_le, gt_iff_lt, ge_iff_le, Decidable.not_not] at h))
        | (with_reducible refine condC_split (fun h => ?_) (fun h => ?_) <;> (try simp only [h]) <;> (try simp only [beq_iff_eq, beq_eq_false_iff_ne, bne_iff_ne, bne_eq_false_iff_eq, decide_eq_true_eq, decide_eq_false_iff_not, Bool.not_eq_true', Bool.not_eq_false', Bool.not_true, Bool.not_false, Bool.not_eq_eq_eq_not, ne_eq, Int.not_lt, Int.not_le, gt_iff_lt, ge_iff_le, Decidable.not_not] at h))
        | omega | (simp only [List.length_append, List.length_map, List.length_cons, List.length_nil, List.length_drop, List.length_take, List.length_replicate]; omega) | (refine maxLen_ok ?_; (first | omega | (simp only [List.length_append, List.length_map, List.length_cons, List.length_nil, List.length_drop, List.length_take, List.length_replicate]; omega))))
      all_goals try exact leafLaw rfl
      all_goals try omega
      have hlim : c < 4294967296 := by assumption
      refine loopA (fun x : Nat × List Int × Option (Nat × Nat) => ⟨(I c :: I 2 :: B false :: .any :: .any :: .any :: .any :: B true :: .any :: .raw (.string ⟨#[48, 49, 50, 51, 52, 53, 54, 55, 56, 57, 97, 98, 99, 100, 101, 102]⟩) :: SI (some x.2.2) (120 :: 92 :: 85 :: x.2.1) :: I ((x.1 : Int) - 1) :: .any :: .any :: .any :: .any :: .any :: .any :: .any :: .any :: .any :: .any :: .any :: .any :: .any :: .any :: .any :: .any :: .any :: .any :: .any :: .any :: .any :: .any :: .any :: .any :: .any :: .any :: .any :: .any :: .any :: .any :: .any :: .any :: .any :: .any :: .any :: .any :: .any :: .any :: .any :: .any :: .any :: .any :: .any :: .any :: .any :: .any :: .any :: .any :: .any :: .any :: .any :: .any :: .any :: .any :: .any :: .any :: .any :: .any :: .any :: .any :: .any :: .any :: .any :: .any :: .any :: .any :: .any :: .any :: .any :: .any :: .any :: .any :: .any :: .any :: .any :: .any :: .any :: .any :: .any :: .any :: .any :: .any :: .any :: .any :: .any :: .any :: .any :: .any :: .any :: .any :: .any :: .any :: .any :: .any :: .any :: .any :: .any :: .any :: .any :: .any :: .any :: .any :: .any :: .any :: .any :: .any :: []), [.tip x.2.2], true, []⟩)
        (fun x => x.1 ≤ 8 ∧ x.2.1 ++ digs false c x.1 = digs false c 8) (fun x => x.1) (8, [], _) (St_leW (by repeat (first | exact trivial | refine ⟨le_rfl, ?_⟩ | refine ⟨le_any, ?_⟩ | refine ⟨le_ro, ?_⟩ | refine ⟨le_nil (by decide), ?_⟩ | refine ⟨le_wrap (by omega) (by omega) (by omega), ?_⟩ | refine ⟨le_int (by omega), ?_⟩ | refine ⟨le_eq (by simp), ?_⟩)) (ResW.sub (List.Sublist.cons_cons _ (List.nil_sublist _))) id) ⟨Nat.le_refl _, rfl⟩ ?_
      rintro ⟨m, D, tk⟩ hx
      dsimp only at hx ⊢
      have h1 := hx.1
      have h2 := hx.2
      have hln := congrArg List.length h2
      simp only [List.length_append, digs_len] at hln
      rcases m with _ | m
      · have hD : D.length = 8 := by omega
        have hg : numGo 0 D = some c := by
          have hDD : D = digs false c 8 := by rw [← h2]; exact (List.append_nil D).symm
          rw [hDD, numGo_digs (by omega)]
          congr 1
          show 0 * 2 ^ (4 * 8) + c % 2 ^ (4 * 8) = c
          rw [Int.zero_mul, Int.zero_add]
          exact Int.emod_eq_of_lt (by omega) (by omega)
        have hE1 := esc_short (s := 85) (n := 8) (D := D.take (8 - 1)) (by decide) rfl (by decide) (by simp; omega)
        have hE2 := esc_full (s := 85) (c := c) (n := 8) (D := D) (by decide) rfl (by decide) hD hg
        have ht1 : tot [120 :: 92 :: 85 :: D.take (8 - 1)] ≤ 100000000 := by simp [tot]; omega
        have ht2 : tot [120 :: 92 :: 85 :: (D ++ [121])] ≤ 100000000 := by simp [tot]; omega
        simp only [Nat.reduceSub] at hE1 ht1
        cases hr : rightI c
        · have hrn := rightI_not.1 hr
          repeat' (first
            | (with_reducible refine AW_seqA (AW_block ?_)) | (with_reducible refine AW_block ?_) | (with_reducible refine cut_seqloop ?_) | (with_reducible refine cut_loop ?_) | (with_reducible refine AW_seqA (AW_seqA ?_)) | (with_reducible refine AW_seq ?_) | (with_reducible refine AW_run ?_)
            | simp only [WL, intF, strF, List.toList_toArray, List.set_cons_succ, List.set_cons_zero, List.getD_cons_succ, List.getD_cons_zero, List.getElem?_cons_succ, List.getElem?_cons_zero, List.length_cons, List.length_nil, List.replicate_succ, List.replicate_zero, List.cons_append, List.nil_append, List.append_nil, List.map_cons, List.map_nil, Option.bind_some, Option.map_some, Option.map_none, List.drop_succ_cons, List.drop_zero, List.take_succ_cons, List.take_zero, ← List.map_take, ← List.map_drop, List.take_length, Int.reduceToNat, ne_eq, reduceCtorEq, not_false_eq_true, Nat.reduceAdd, Nat.reduceSub, Nat.reduceLT, Nat.reduceLeDiff, Nat.reduceEqDiff, Nat.zero_lt_succ, Bool.not_true, Bool.not_false, beq_self_eq_true, true_and, and_true, Option.isSome_some, Option.isSome_none, reduceIte, Int.toNat_natCast, Bool.false_eq_true, List.length_map, Nat.le_refl, Option.some.injEq, exists_eq_left', Nat.add_right_cancel_iff, List.take_nil, List.drop_nil, T3, T4, T5, T9, T24, T33, T34, T37, convC_int in3, convC_int in33, cok26, cok27, cok28, cok29, Try.results5, hD, hE1, hE2, hr, Int.reduceToNat, Int.reduceSub, Int.reduceNeg, Int.cast_ofNat_Int, Int.natCast_zero, Int.zero_sub]
            | (simp (disch := first | omega | (simp only [List.length_append, List.length_map, List.length_cons, List.length_nil, List.length_drop, List.length_take, List.length_replicate]; omega)) only [wrap_id, getI])
            | (with_reducible refine And.intro (by first | omega | exact ⟨_, rfl⟩ | (focus (simp; done)) | (simp; omega)) ?_)
            | ((with_reducible apply wk_load (ty := 3) (ha := ag3) 0); rfl; rfl)
            | ((with_reducible apply wk_load (ty := 3) (ha := ag3) 1); rfl; rfl)
            | ((with_reducible refine actC_mk (act_append_nil (sz := 1) (by decide) ?_)))
            | ((with_reducible refine actC_mk (act_append_src_nil (sz := 1) (by decide) ?_)))
            | ((with_reducible refine actC_mk (act_append 0 rfl sl24 sz3 by3 zr3 rfl ?_ ?_ ?_ (fun tk => ?_))); (first | exact goodI _ | exact goodU _ | rfl | exact goodSL _ | exact goodLL _ | (focus (simp [goodL, oneA, AV.cells]; done)) | skip))
            | ((with_reducible refine (act_append 0 rfl sl24 sz3 by3 zr3 rfl ?_ ?_ ?_ (fun tk => ?_))); (first | exact goodI _ | exact goodU _ | rfl | exact goodSL _ | exact goodLL _ | (focus (simp [goodL, oneA, AV.cells]; done)) | skip))
            | ((with_reducible refine actC_mk (act_append 1 rfl sl24 sz3 by3 zr3 rfl ?_ ?_ ?_ (fun tk => ?_))); (first | exact goodI _ | exact goodU _ | rfl | exact goodSL _ | exact goodLL _ | (focus (simp [goodL, oneA, AV.cells]; done)) | skip))
            | ((with_reducible refine (act_append 1 rfl sl24 sz3 by3 zr3 rfl ?_ ?_ ?_ (fun tk => ?_))); (first | exact goodI _ | exact goodU _ | rfl | exact goodSL _ | exact goodLL _ | (focus (simp [goodL, oneA, AV.cells]; done)) | skip))
            | ((with_reducible refine actC_mk (act_append 2 rfl sl24 sz3 by3 zr3 rfl ?_ ?_ ?_ (fun tk => ?_))); (first | exact goodI _ | exact goodU _ | rfl | exact goodSL _ | exact goodLL _ | (focus (simp [goodL, oneA, AV.cells]; done)) | skip))
            | ((with_reducible refine (act_append 2 rfl sl24 sz3 by3 zr3 rfl ?_ ?_ ?_ (fun tk => ?_))); (first | exact goodI _ | exact goodU _ | rfl | exact goodSL _ | exact goodLL _ | (focus (simp [goodL, oneA, AV.cells]; done)) | skip))
            | ((with_reducible refine wk_bslice sl24 sz3 zr3 (by decide) (by decide) (by decide) (by decide) rfl ?_ ?_ ?_); (first | exact goodI _ | exact goodU _ | rfl | exact goodSL _ | exact goodLL _ | (focus (simp [goodL, oneA, AV.cells]; done))); (all_goals first | (intro x hx; simp at hx; first | (subst hx; rfl) | (rcases hx with rfl | rfl <;> rfl) | (rcases hx with rfl | rfl | rfl <;> rfl) | (repeat (rcases hx with rfl | hx <;> try rfl))) | skip))
            | ((with_reducible refine wk_bslice sl37 sz24 zr24 (by decide) (by decide) (by decide) (by decide) rfl ?_ ?_ ?_); (first | exact goodI _ | exact goodU _ | rfl | exact goodSL _ | exact goodLL _ | (focus (simp [goodL, oneA, AV.cells]; done))); (all_goals first | (intro x hx; simp at hx; first | (subst hx; rfl) | (rcases hx with rfl | rfl <;> rfl) | (rcases hx with rfl | rfl | rfl <;> rfl) | (repeat (rcases hx with rfl | hx <;> try rfl))) | skip))
            | ( refine callD_mk (ACallF.argsS (ys := [SSI none [120 :: 92 :: 85 :: D.take 7]]) ⟨leS_sl (leC_one rfl rfl (leS_le le_rfl) trivial), trivial⟩ (dReadAll ht1 ?_)))
            | ( refine callD_mk (ACallF.argsS (ys := [SSI none [120 :: 92 :: 85 :: (D ++ [121])]]) ⟨leS_sl (leC_one rfl rfl (leS_trans (leS_eq (show _ = SI (some tk) (120 :: 92 :: 85 :: (D ++ [121])) by simp)) (leS_le le_ro)) trivial), trivial⟩ (dReadAll ht2 ?_)))
            | (with_reducible refine callD_mk (alive7 ?_))
            | (with_reducible refine callD_mk (dReadAll ?_ ?_))
            | (with_reducible refine callD_mk (num7 ?_))
            | (with_reducible refine callD_mk (sameInts ?_ ?_))
            | (with_reducible refine nilTC_pos (by simp; omega) ?_)
            | (with_reducible refine nilTC_split (fun h => ?_) (fun h bn => ?_) <;> (try simp only [List.length_map] at h))
            | (with_reducible refine grd_cases (fun h => ?_) (fun h => ?_) <;> (try simp only [h]) <;> (try simp only [beq_iff_eq, beq_eq_false_iff_ne, bne_iff_ne, bne_eq_false_iff_eq, decide_eq_true_eq, decide_eq_false_iff_not, Bool.not_eq_true', Bool.not_eq_false', Bool.not_true, Bool.not_false, Bool.not_eq_eq_eq_not, ne_eq, Int.not_lt, Int.not_le, gt_iff_lt, ge_iff_le, Decidable.not_not] at h))
            | (with_reducible refine condC_split (fun h => ?_) (fun h => ?_) <;> (try simp only [h]) <;> (try simp only [beq_iff_eq, beq_eq_false_iff_ne, bne_iff_ne, bne_eq_false_iff_eq, decide_eq_true_eq, decide_eq_false_iff_not, Bool.not_eq_true', Bool.not_eq_false', Bool.not_true, Bool.not_false, Bool.not_eq_eq_eq_not, ne_eq, Int.not_lt, Int.not_le, gt_iff_lt, ge_iff_le, Decidable.not_not] at h))
            | omega | (simp only [List.length_append, List.length_map, List.length_cons, List.length_nil, List.length_drop, List.length_take, List.length_replicate]; omega) | (refine maxLen_ok ?_; (first | omega | (simp only [List.length_append, List.length_map, List.length_cons, List.length_nil, List.length_drop, List.length_take, List.length_replicate]; omega))))
          all_goals first
            | exact leafLaw rfl
            | exact leafLaw (decide_eq_true trivial)
            | (rename_i h; exact absurd trivial h)
            | omega
        · have hrn := rightI_iff.1 hr
          repeat' (first
            | (with_reducible refine AW_seqA (AW_block ?_)) | (with_reducible refine AW_block ?_) | (with_reducible refine cut_seqloop ?_) | (with_reducible refine cut_loop ?_) | (with_reducible refine AW_seqA (AW_seqA ?_)) | (with_reducible refine AW_seq ?_) | (with_reducible refine AW_run ?_)
            | simp only [WL, intF, strF, List.toList_toArray, List.set_cons_succ, List.set_cons_zero, List.getD_cons_succ, List.getD_cons_zero, List.getElem?_cons_succ, List.getElem?_cons_zero, List.length_cons, List.length_nil, List.replicate_succ, List.replicate_zero, List.cons_append, List.nil_append, List.append_nil, List.map_cons, List.map_nil, Option.bind_some, Option.map_some, Option.map_none, List.drop_succ_cons, List.drop_zero, List.take_succ_cons, List.take_zero, ← List.map_take, ← List.map_drop, List.take_length, Int.reduceToNat, ne_eq, reduceCtorEq, not_false_eq_true, Nat.reduceAdd, Nat.reduceSub, Nat.reduceLT, Nat.reduceLeDiff, Nat.reduceEqDiff, Nat.zero_lt_succ, Bool.not_true, Bool.not_false, beq_self_eq_true, true_and, and_true, Option.isSome_some, Option.isSome_none, reduceIte, Int.toNat_natCast, Bool.false_eq_true, List.length_map, Nat.le_refl, Option.some.injEq, exists_eq_left', Nat.add_right_cancel_iff, List.take_nil, List.drop_nil, T3, T4, T5, T9, T24, T33, T34, T37, convC_int in3, convC_int in33, cok26, cok27, cok28, cok29, Try.results5, hD, hE1, hE2, hr, Int.reduceToNat, Int.reduceSub, Int.reduceNeg, Int.cast_ofNat_Int, Int.natCast_zero, Int.zero_sub]
            | (simp (disch := first | omega | (simp only [List.length_append, List.length_map, List.length_cons, List.length_nil, List.length_drop, List.length_take, List.length_replicate]; omega)) only [wrap_id, getI])
            | (with_reducible refine And.intro (by first | omega | exact ⟨_, rfl⟩ | (focus (simp; done)) | (simp; omega)) ?_)
            | ((with_reducible apply wk_load (ty := 3) (ha := ag3) 0); rfl; rfl)
            | ((with_reducible apply wk_load (ty := 3) (ha := ag3) 1); rfl; rfl)
            | ((with_reducible refine actC_mk (act_append_nil (sz := 1) (by decide) ?_)))
            | ((with_reducible refine actC_mk (act_append_src_nil (sz := 1) (by decide) ?_)))
            | ((with_reducible refine actC_mk (act_append 0 rfl sl24 sz3 by3 zr3 rfl ?_ ?_ ?_ (fun tk => ?_))); (first | exact goodI _ | exact goodU _ | rfl | exact goodSL _ | exact goodLL _ | (focus (simp [goodL, oneA, AV.cells]; done)) | skip))
            | ((with_reducible refine (act_append 0 rfl sl24 sz3 by3 zr3 rfl ?_ ?_ ?_ (fun tk => ?_))); (first | exact goodI _ | exact goodU _ | rfl | exact goodSL _ | exact goodLL _ | (focus (simp [goodL, oneA, AV.cells]; done)) | skip))
            | ((with_reducible refine actC_mk (act_append 1 rfl sl24 sz3 by3 zr3 rfl ?_ ?_ ?_ (fun tk => ?_))); (first | exact goodI _ | exact goodU _ | rfl | exact goodSL _ | exact goodLL _ | (focus (simp [goodL, oneA, AV.cells]; done)) | skip))
            | ((with_reducible refine (act_append 1 rfl sl24 sz3 by3 zr3 rfl ?_ ?_ ?_ (fun tk => ?_))); (first | exact goodI _ | exact goodU _ | rfl | exact goodSL _ | exact goodLL _ | (focus (simp [goodL, oneA, AV.cells]; done)) | skip))
            | ((with_reducible refine actC_mk (act_append 2 rfl sl24 sz3 by3 zr3 rfl ?_ ?_ ?_ (fun tk => ?_))); (first | exact goodI _ | exact goodU _ | rfl | exact goodSL _ | exact goodLL _ | (focus (simp [goodL, oneA, AV.cells]; done)) | skip))
            | ((with_reducible refine (act_append 2 rfl sl24 sz3 by3 zr3 rfl ?_ ?_ ?_ (fun tk => ?_))); (first | exact goodI _ | exact goodU _ | rfl | exact goodSL _ | exact goodLL _ | (focus (simp [goodL, oneA, AV.cells]; done)) | skip))
            | ((with_reducible refine wk_bslice sl24 sz3 zr3 (by decide) (by decide) (by decide) (by decide) rfl ?_ ?_ ?_); (first | exact goodI _ | exact goodU _ | rfl | exact goodSL _ | exact goodLL _ | (focus (simp [goodL, oneA, AV.cells]; done))); (all_goals first | (intro x hx; simp at hx; first | (subst hx; rfl) | (rcases hx with rfl | rfl <;> rfl) | (rcases hx with rfl | rfl | rfl <;> rfl) | (repeat (rcases hx with rfl | hx <;> try rfl))) | skip))
            | ((with_reducible refine wk_bslice sl37 sz24 zr24 (by decide) (by decide) (by decide) (by decide) rfl ?_ ?_ ?_); (first | exact goodI _ | exact goodU _ | rfl | exact goodSL _ | exact goodLL _ | (focus (simp [goodL, oneA, AV.cells]; done))); (all_goals first | (intro x hx; simp at hx; first | (subst hx; rfl) | (rcases hx with rfl | rfl <;> rfl) | (rcases hx with rfl | rfl | rfl <;> rfl) | (repeat (rcases hx with rfl | hx <;> try rfl))) | skip))
            | ( refine callD_mk (ACallF.argsS (ys := [SSI none [120 :: 92 :: 85 :: D.take 7]]) ⟨leS_sl (leC_one rfl rfl (leS_le le_rfl) trivial), trivial⟩ (dReadAll ht1 ?_)))
            | ( refine callD_mk (ACallF.argsS (ys := [SSI none [120 :: 92 :: 85 :: (D ++ [121])]]) ⟨leS_sl (leC_one rfl rfl (leS_trans (leS_eq (show _ = SI (some tk) (120 :: 92 :: 85 :: (D ++ [121])) by simp)) (leS_le le_ro)) trivial), trivial⟩ (dReadAll ht2 ?_)))
            | ( refine callD_mk (ACallF.argsS (ys := [SI none [120, c, 121], SI none [120, c, 121]]) ⟨leS_le le_rfl, leS_le le_rfl, trivial⟩ (sameInts (by simp) ?_)))
            | (with_reducible refine callD_mk (alive7 ?_))
            | (with_reducible refine callD_mk (dReadAll ?_ ?_))
            | (with_reducible refine callD_mk (num7 ?_))
            | (with_reducible refine callD_mk (sameInts ?_ ?_))
            | (with_reducible refine nilTC_pos (by simp; omega) ?_)
            | (with_reducible refine nilTC_split (fun h => ?_) (fun h bn => ?_) <;> (try simp only [List.length_map] at h))
            | (with_reducible refine grd_cases (fun h => ?_) (fun h => ?_) <;> (try simp only [h]) <;> (try simp only [beq_iff_eq, beq_eq_false_iff_ne, bne_iff_ne, bne_eq_false_iff_eq, decide_eq_true_eq, decide_eq_false_iff_not, Bool.not_eq_true', Bool.not_eq_false', Bool.not_true, Bool.not_false, Bool.not_eq_eq_eq_not, ne_eq, Int.not_lt, Int.not_le, gt_iff_lt, ge_iff_le, Decidable.not_not] at h))
            | (with_reducible refine condC_split (fun h => ?_) (fun h => ?_) <;> (try simp only [h]) <;> (try simp only [beq_iff_eq, beq_eq_false_iff_ne, bne_iff_ne, bne_eq_false_iff_eq, decide_eq_true_eq, decide_eq_false_iff_not, Bool.not_eq_true', Bool.not_eq_false', Bool.not_true, Bool.not_false, Bool.not_eq_eq_eq_not, ne_eq, Int.not_lt, Int.not_le, gt_iff_lt, ge_iff_le, Decidable.not_not] at h))
            | omega | (simp only [List.length_append, List.length_map, List.length_cons, List.length_nil, List.length_drop, List.length_take, List.length_replicate]; omega) | (refine maxLen_ok ?_; (first | omega | (simp only [List.length_append, List.length_map, List.length_cons, List.length_nil, List.length_drop, List.length_take, List.length_replicate]; omega))))
          all_goals first
            | exact leafLaw rfl
            | exact leafLaw (decide_eq_true trivial)
            | (rename_i h; exact absurd trivial h)
            | omega
      · have hx16 : 0 ≤ c / 2 ^ (4 * m) % 16 ∧ c / 2 ^ (4 * m) % 16 < 16 := by omega
        have hxd := hexD_le (up := false) hx16.1 hx16.2
        repeat' (first
          | (with_reducible refine AW_seqA (AW_block ?_)) | (with_reducible refine AW_block ?_) | (with_reducible refine cut_seqloop ?_) | (with_reducible refine cut_loop ?_) | (with_reducible refine AW_seqA (AW_seqA ?_)) | (with_reducible refine AW_seq ?_) | (with_reducible refine AW_run ?_)
          | simp only [WL, intF, strF, List.toList_toArray, List.set_cons_succ, List.set_cons_zero, List.getD_cons_succ, List.getD_cons_zero, List.getElem?_cons_succ, List.getElem?_cons_zero, List.length_cons, List.length_nil, List.replicate_succ, List.replicate_zero, List.cons_append, List.nil_append, List.append_nil, List.map_cons, List.map_nil, Option.bind_some, Option.map_some, Option.map_none, List.drop_succ_cons, List.drop_zero, List.take_succ_cons, List.take_zero, ← List.map_take, ← List.map_drop, List.take_length, Int.reduceToNat, ne_eq, reduceCtorEq, not_false_eq_true, Nat.reduceAdd, Nat.reduceSub, Nat.reduceLT, Nat.reduceLeDiff, Nat.reduceEqDiff, Nat.zero_lt_succ, Bool.not_true, Bool.not_false, beq_self_eq_true, true_and, and_true, Option.isSome_some, Option.isSome_none, reduceIte, Int.toNat_natCast, Bool.false_eq_true, List.length_map, Nat.le_refl, Option.some.injEq, exists_eq_left', Nat.add_right_cancel_iff, List.take_nil, List.drop_nil, T3, T4, T5, T9, T24, T33, T34, T37, convC_int in3, convC_int in33, cok26, cok27, cok28, cok29, Try.results5, m1, t4, fold_and, and15, hexLs, hexUs]
          | (simp (disch := first | omega | (simp only [List.length_append, List.length_map, List.length_cons, List.length_nil, List.length_drop, List.length_take, List.length_replicate]; omega)) only [wrap_id, getI, shr_i, wrapu_id, hexL, hexU])
          | (with_reducible refine And.intro (by first | omega | exact ⟨_, rfl⟩ | (focus (simp; done)) | (simp; omega)) ?_)
          | ((with_reducible apply wk_load (ty := 3) (ha := ag3) 0); rfl; rfl)
          | ((with_reducible apply wk_load (ty := 3) (ha := ag3) 1); rfl; rfl)
          | ((with_reducible refine actC_mk (act_append_nil (sz := 1) (by decide) ?_)))
          | ((with_reducible refine actC_mk (act_append_src_nil (sz := 1) (by decide) ?_)))
          | ((with_reducible refine actC_mk (act_append 0 rfl sl24 sz3 by3 zr3 rfl ?_ ?_ ?_ (fun tk => ?_))); (first | exact goodI _ | exact goodU _ | rfl | exact goodSL _ | exact goodLL _ | (focus (simp [goodL, oneA, AV.cells]; done)) | skip))
          | ((with_reducible refine (act_append 0 rfl sl24 sz3 by3 zr3 rfl ?_ ?_ ?_ (fun tk => ?_))); (first | exact goodI _ | exact goodU _ | rfl | exact goodSL _ | exact goodLL _ | (focus (simp [goodL, oneA, AV.cells]; done)) | skip))
          | ((with_reducible refine actC_mk (act_append 1 rfl sl24 sz3 by3 zr3 rfl ?_ ?_ ?_ (fun tk => ?_))); (first | exact goodI _ | exact goodU _ | rfl | exact goodSL _ | exact goodLL _ | (focus (simp [goodL, oneA, AV.cells]; done)) | skip))
          | ((with_reducible refine (act_append 1 rfl sl24 sz3 by3 zr3 rfl ?_ ?_ ?_ (fun tk => ?_))); (first | exact goodI _ | exact goodU _ | rfl | exact goodSL _ | exact goodLL _ | (focus (simp [goodL, oneA, AV.cells]; done)) | skip))
          | ((with_reducible refine actC_mk (act_append 2 rfl sl24 sz3 by3 zr3 rfl ?_ ?_ ?_ (fun tk => ?_))); (first | exact goodI _ | exact goodU _ | rfl | exact goodSL _ | exact goodLL _ | (focus (simp [goodL, oneA, AV.cells]; done)) | skip))
          | ((with_reducible refine (act_append 2 rfl sl24 sz3 by3 zr3 rfl ?_ ?_ ?_ (fun tk => ?_))); (first | exact goodI _ | exact goodU _ | rfl | exact goodSL _ | exact goodLL _ | (focus (simp [goodL, oneA, AV.cells]; done)) | skip))
          | ((with_reducible refine wk_bslice sl24 sz3 zr3 (by decide) (by decide) (by decide) (by decide) rfl ?_ ?_ ?_); (first | exact goodI _ | exact goodU _ | rfl | exact goodSL _ | exact goodLL _ | (focus (simp [goodL, oneA, AV.cells]; done))); (all_goals first | (intro x hx; simp at hx; first | (subst hx; rfl) | (rcases hx with rfl | rfl <;> rfl) | (rcases hx with rfl | rfl | rfl <;> rfl) | (repeat (rcases hx with rfl | hx <;> try rfl))) | skip))
          | ((with_reducible refine wk_bslice sl37 sz24 zr24 (by decide) (by decide) (by decide) (by decide) rfl ?_ ?_ ?_); (first | exact goodI _ | exact goodU _ | rfl | exact goodSL _ | exact goodLL _ | (focus (simp [goodL, oneA, AV.cells]; done))); (all_goals first | (intro x hx; simp at hx; first | (subst hx; rfl) | (rcases hx with rfl | rfl <;> rfl) | (rcases hx with rfl | rfl | rfl <;> rfl) | (repeat (rcases hx with rfl | hx <;> try rfl))) | skip))
          | (with_reducible refine callD_mk (alive7 ?_))
          | (with_reducible refine callD_mk (dReadAll ?_ ?_))
          | (with_reducible refine callD_mk (num7 ?_))
          | (with_reducible refine callD_mk (sameInts ?_ ?_))
          | (with_reducible refine nilTC_pos (by simp; omega) ?_)
          | (with_reducible refine nilTC_split (fun h => ?_) (fun h bn => ?_) <;> (try simp only [List.length_map] at h))
          | (with_reducible refine grd_cases (fun h => ?_) (fun h => ?_) <;> (try simp only [h]) <;> (try simp only [beq_iff_eq, beq_eq_false_iff_ne, bne_iff_ne, bne_eq_false_iff_eq, decide_eq_true_eq, decide_eq_false_iff_not, Bool.not_eq_true', Bool.not_eq_false', Bool.not_true, Bool.not_false, Bool.not_eq_eq_eq_not, ne_eq, Int.not_lt, Int.not_le, gt_iff_lt, ge_iff_le, Decidable.not_not] at h))
          | (with_reducible refine condC_split (fun h => ?_) (fun h => ?_) <;> (try simp only [h]) <;> (try simp only [beq_iff_eq, beq_eq_false_iff_ne, bne_iff_ne, bne_eq_false_iff_eq, decide_eq_true_eq, decide_eq_false_iff_not, Bool.not_eq_true', Bool.not_eq_false', Bool.not_true, Bool.not_false, Bool.not_eq_eq_eq_not, ne_eq, Int.not_lt, Int.not_le, gt_iff_lt, ge_iff_le, Decidable.not_not] at h))
          | omega | (simp only [List.length_append, List.length_map, List.length_cons, List.length_nil, List.length_drop, List.length_take, List.length_replicate]; omega) | (refine maxLen_ok ?_; (first | omega | (simp only [List.length_append, List.length_map, List.length_cons, List.length_nil, List.length_drop, List.length_take, List.length_replicate]; omega))))
        exact ⟨(m, D ++ [hexD false (c / 2 ^ (4 * m) % 16)], tk), St_leW (by repeat (first | exact trivial | refine ⟨le_rfl, ?_⟩ | refine ⟨le_any, ?_⟩ | refine ⟨le_ro, ?_⟩ | refine ⟨le_nil (by decide), ?_⟩ | refine ⟨le_wrap (by omega) (by omega) (by omega), ?_⟩ | refine ⟨le_int (by omega), ?_⟩ | refine ⟨le_eq (by simp), ?_⟩)) (ResW.refl _) id, ⟨by dsimp only; omega, by dsimp only; rw [← h2]; simp [digs]⟩, by dsimp only; omega⟩
    ·
      refine ACallF.dropL (ACallF_introA Try.func5 rfl ?_)
      simp only [Try.ntmps5]
      repeat' (first
        | (with_reducible refine AW_seqA (AW_block ?_)) | (with_reducible refine AW_block ?_) | (with_reducible refine cut_seqloop ?_) | (with_reducible refine cut_loop ?_) | (with_reducible refine AW_seqA (AW_seqA ?_)) | (with_reducible refine AW_seq ?_) | (with_reducible refine AW_run ?_)
        | simp only [WL, intF, strF, List.toList_toArray, List.set_cons_succ, List.set_cons_zero, List.getD_cons_succ, List.getD_cons_zero, List.getElem?_cons_succ, List.getElem?_cons_zero, List.length_cons, List.length_nil, List.replicate_succ, List.replicate_zero, List.cons_append, List.nil_append, List.append_nil, List.map_cons, List.map_nil, Option.bind_some, Option.map_some, Option.map_none, List.drop_succ_cons, List.drop_zero, List.take_succ_cons, List.take_zero, ← List.map_take, ← List.map_drop, List.take_length, Int.reduceToNat, ne_eq, reduceCtorEq, not_false_eq_true, Nat.reduceAdd, Nat.reduceSub, Nat.reduceLT, Nat.reduceLeDiff, Nat.reduceEqDiff, Nat.zero_lt_succ, Bool.not_true, Bool.not_false, beq_self_eq_true, true_and, and_true, Option.isSome_some, Option.isSome_none, reduceIte, Int.toNat_natCast, Bool.false_eq_true, List.length_map, Nat.le_refl, Option.some.injEq, exists_eq_left', Nat.add_right_cancel_iff, List.take_nil, List.drop_nil, T3, T4, T5, T9, T24, T33, T34, T37, convC_int in3, convC_int in33, cok26, cok27, cok28, cok29, Try.results5, xuU0, xuU1, xuU2, xuUs, Int.reduceToNat, Int.reducePow, Int.reduceMul, Int.reduceSub]
        | (simp (disch := first | omega | (simp only [List.length_append, List.length_map, List.length_cons, List.length_nil, List.length_drop, List.length_take, List.length_replicate]; omega)) only [wrap_id, getI, shl_i, wrapu_id])
        | (with_reducible refine And.intro (by first | omega | exact ⟨_, rfl⟩ | (focus (simp; done)) | (simp; omega)) ?_)
        | ((with_reducible apply wk_load (ty := 3) (ha := ag3) 0); rfl; rfl)
        | ((with_reducible apply wk_load (ty := 3) (ha := ag3) 1); rfl; rfl)
        | ((with_reducible refine actC_mk (act_append_nil (sz := 1) (by decide) ?_)))
        | ((with_reducible refine actC_mk (act_append_src_nil (sz := 1) (by decide) ?_)))
        | ((with_reducible refine actC_mk (act_append 0 rfl sl24 sz3 by3 zr3 rfl ?_ ?_ ?_ (fun tk => ?_))); (first | exact goodI _ | exact goodU _ | rfl | exact goodSL _ | exact goodLL _ | (focus (simp [goodL, oneA, AV.cells]; done)) | skip))
        | ((with_reducible refine (act_append 0 rfl sl24 sz3 by3 zr3 rfl ?_ ?_ ?_ (fun tk => ?_))); (first | exact goodI _ | exact goodU _ | rfl | exact goodSL _ | exact goodLL _ | (focus (simp [goodL, oneA, AV.cells]; done)) | skip))
        | ((with_reducible refine actC_mk (act_append 1 rfl sl24 sz3 by3 zr3 rfl ?_ ?_ ?_ (fun tk => ?_))); (first | exact goodI _ | exact goodU _ | rfl | exact goodSL _ | exact goodLL _ | (focus (simp [goodL, oneA, AV.cells]; done)) | skip))
        | ((with_reducible refine (act_append 1 rfl sl24 sz3 by3 zr3 rfl ?_ ?_ ?_ (fun tk => ?_))); (first | exact goodI _ | exact goodU _ | rfl | exact goodSL _ | exact goodLL _ | (focus (simp [goodL, oneA, AV.cells]; done)) | skip))
        | ((with_reducible refine actC_mk (act_append 2 rfl sl24 sz3 by3 zr3 rfl ?_ ?_ ?_ (fun tk => ?_))); (first | exact goodI _ | exact goodU _ | rfl | exact goodSL _ | exact goodLL _ | (focus (simp [goodL, oneA, AV.cells]; done)) | skip))
        | ((with_reducible refine (act_append 2 rfl sl24 sz3 by3 zr3 rfl ?_ ?_ ?_ (fun tk => ?_))); (first | exact goodI _ | exact goodU _ | rfl | exact goodSL _ | exact goodLL _ | (focus (simp [goodL, oneA, AV.cells]; done)) | skip))
        | ((with_reducible refine actC_mk (act_bslice_own sl24 sz3 zr3 (by decide) (by decide) (by decide) (by decide) rfl ?_ ?_ (fun tb => ?_))); (first | exact goodI _ | exact goodU _ | rfl | exact goodSL _ | exact goodLL _ | (focus (simp [goodL, oneA, AV.cells]; done))); (first | (intro x hx; simp at hx; first | (subst hx; rfl) | (rcases hx with rfl | rfl <;> rfl) | (rcases hx with rfl | rfl | rfl <;> rfl) | (repeat (rcases hx with rfl | hx <;> try rfl))) | skip))
        | ((with_reducible refine wk_bslice sl37 sz24 zr24 (by decide) (by decide) (by decide) (by decide) rfl ?_ ?_ ?_); (first | exact goodI _ | exact goodU _ | rfl | exact goodSL _ | exact goodLL _ | (focus (simp [goodL, oneA, AV.cells]; done))); (all_goals first | (intro x hx; simp at hx; first | (subst hx; rfl) | (rcases hx with rfl | rfl <;> rfl) | (rcases hx with rfl | rfl | rfl <;> rfl) | (repeat (rcases hx with rfl | hx <;> try rfl))) | skip))
        | (with_reducible refine callD_mk (alive7 ?_))
        | (with_reducible refine callD_mk (dReadAll ?_ ?_))
        | (with_reducible refine callD_mk (num7 ?_))
        | (with_reducible refine callD_mk (sameInts ?_ ?_))
        | (with_reducible refine nilTC_pos (by simp; omega) ?_)
        | (with_reducible refine nilTC_split (fun h => ?_) (fun h bn => ?_) <;> (try simp only [List.length_map] at h))
        | (with_reducible refine grd_cases (fun h => ?_) (fun h => ?_) <;> (try simp only [h]) <;> (try simp only [beq_iff_eq, beq_eq_false_iff_ne, bne_iff_ne, bne_eq_false_iff_eq, decide_eq_true_eq, decide_eq_false_iff_not, Bool.not_eq_true', Bool.not_eq_false', Bool.not_true, Bool.not_false, Bool.not_eq_eq_eq_not, ne_eq, Int.not_lt, Int.not_le, gt_iff_lt, ge_iff_le, Decidable.not_not] at h))
        | (with_reducible refine condC_split (fun h => ?_) (fun h => ?_) <;> (try simp only [h]) <;> (try simp only [beq_iff_eq, beq_eq_false_iff_ne, bne_iff_ne, bne_eq_false_iff_eq, decide_eq_true_eq, decide_eq_false_iff_not, Bool.not_eq_true', Bool.not_eq_false', Bool.not_true, Bool.not_false, Bool.not_eq_eq_eq_not, ne_eq, Int.not_lt, Int.not_le, gt_iff_lt, ge_iff_le, Decidable.not_not] at h))
        | omega | (simp only [List.length_append, List.length_map, List.length_cons, List.length_nil, List.length_drop, List.length_take, List.length_replicate]; omega) | (refine maxLen_ok ?_; (first | omega | (simp only [List.length_append, List.length_map, List.length_cons, List.length_nil, List.length_drop, List.length_take, List.length_replicate]; omega))))
      all_goals try exact leafLaw rfl
      all_goals try omega
      have hlim : c < 4294967296 := by assumption
      refine loopA (fun x : Nat × List Int × Option (Nat × Nat) => ⟨(I c :: I 2 :: B true :: .any :: .any :: .any :: .any :: B true :: .any :: .raw (.string ⟨#[48, 49, 50, 51, 52, 53, 54, 55, 56, 57, 65, 66, 67, 68, 69, 70]⟩) :: SI (some x.2.2) (120 :: 92 :: 85 :: x.2.1) :: I ((x.1 : Int) - 1) :: .any :: .any :: .any :: .any :: .any :: .any :: .any :: .any :: .any :: .any :: .any :: .any :: .any :: .any :: .any :: .any :: .any :: .any :: .any :: .any :: .any :: .any :: .any :: .any :: .any :: .any :: .any :: .any :: .any :: .any :: .any :: .any :: .any :: .any :: .any :: .any :: .any :: .any :: .any :: .any :: .any :: .any :: .any :: .any :: .any :: .any :: .any :: .any :: .any :: .any :: .any :: .any :: .any :: .any :: .any :: .any :: .any :: .any :: .any :: .any :: .any :: .any :: .any :: .any :: .any :: .any :: .any :: .any :: .any :: .any :: .any :: .any :: .any :: .any :: .any :: .any :: .any :: .any :: .any :: .any :: .any :: .any :: .any :: .any :: .any :: .any :: .any :: .any :: .any :: .any :: .any :: .any :: .any :: .any :: .any :: .any :: .any :: .any :: .any :: .any :: .any :: .any :: .any :: .any :: .any :: .any :: []), [.tip x.2.2], true, []⟩)
        (fun x => x.1 ≤ 8 ∧ x.2.1 ++ digs true c x.1 = digs true c 8) (fun x => x.1) (8, [], _) (St_leW (by repeat (first | exact trivial | refine ⟨le_rfl, ?_⟩ | refine ⟨le_any, ?_⟩ | refine ⟨le_ro, ?_⟩ | refine ⟨le_nil (by decide), ?_⟩ | refine ⟨le_wrap (by omega) (by omega) (by omega), ?_⟩ | refine ⟨le_int (by omega), ?_⟩ | refine ⟨le_eq (by simp), ?_⟩)) (ResW.sub (List.Sublist.cons_cons _ (List.nil_sublist _))) id) ⟨Nat.le_refl _, rfl⟩ ?_
      rintro ⟨m, D, tk⟩ hx
      dsimp only at hx ⊢
      have h1 := hx.1
      have h2 := hx.2
      have hln := congrArg List.length h2
      simp only [List.length_append, digs_len] at hln
      rcases m with _ | m
      · have hD : D.length = 8 := by omega
        have hg : numGo 0 D = some c := by
          have hDD : D = digs true c 8 := by rw [← h2]; exact (List.append_nil D).symm
          rw [hDD, numGo_digs (by omega)]
          congr 1
          show 0 * 2 ^ (4 * 8) + c % 2 ^ (4 * 8) = c
          rw [Int.zero_mul, Int.zero_add]
          exact Int.emod_eq_of_lt (by omega) (by omega)
        have hE1 := esc_short (s := 85) (n := 8) (D := D.take (8 - 1)) (by decide) rfl (by decide) (by simp; omega)
        have hE2 := esc_full (s := 85) (c := c) (n := 8) (D := D) (by decide) rfl (by decide) hD hg
        have ht1 : tot [120 :: 92 :: 85 :: D.take (8 - 1)] ≤ 100000000 := by simp [tot]; omega
        have ht2 : tot [120 :: 92 :: 85 :: (D ++ [121])] ≤ 100000000 := by simp [tot]; omega
        simp only [Nat.reduceSub] at hE1 ht1
        cases hr : rightI c
        · have hrn := rightI_not.1 hr
          repeat' (first
            | (with_reducible refine AW_seqA (AW_block ?_)) | (with_reducible refine AW_block ?_) | (with_reducible refine cut_seqloop ?_) | (with_reducible refine cut_loop ?_) | (with_reducible refine AW_seqA (AW_seqA ?_)) | (with_reducible refine AW_seq ?_) | (with_reducible refine AW_run ?_)
            | simp only [WL, intF, strF, List.toList_toArray, List.set_cons_succ, List.set_cons_zero, List.getD_cons_succ, List.getD_cons_zero, List.getElem?_cons_succ, List.getElem?_cons_zero, List.length_cons, List.length_nil, List.replicate_succ, List.replicate_zero, List.cons_append, List.nil_append, List.append_nil, List.map_cons, List.map_nil, Option.bind_some, Option.map_some, Option.map_none, List.drop_succ_cons, List.drop_zero, List.take_succ_cons, List.take_zero, ← List.map_take, ← List.map_drop, List.take_length, Int.reduceToNat, ne_eq, reduceCtorEq, not_false_eq_true, Nat.reduceAdd, Nat.reduceSub, Nat.reduceLT, Nat.reduceLeDiff, Nat.reduceEqDiff, Nat.zero_lt_succ, Bool.not_true, Bool.not_false, beq_self_eq_true, true_and, and_true, Option.isSome_some, Option.isSome_none, reduceIte, Int.toNat_natCast, Bool.false_eq_true, List.length_map, Nat.le_refl, Option.some.injEq, exists_eq_left', Nat.add_right_cancel_iff, List.take_nil, List.drop_nil, T3, T4, T5, T9, T24, T33, T34, T37, convC_int in3, convC_int in33, cok26, cok27, cok28, cok29, Try.results5, hD, hE1, hE2, hr, Int.reduceToNat, Int.reduceSub, Int.reduceNeg, Int.cast_ofNat_Int, Int.natCast_zero, Int.zero_sub]
            | (simp (disch := first | omega | (simp only [List.length_append, List.length_map, List.length_cons, List.length_nil, List.length_drop, List.length_take, List.length_replicate]; omega)) only [wrap_id, getI])
            | (with_reducible refine And.intro (by first | omega | exact ⟨_, rfl⟩ | (focus (simp; done)) | (simp; omega)) ?_)
            | ((with_reducible apply wk_load (ty := 3) (ha := ag3) 0); rfl; rfl)
            | ((with_reducible apply wk_load (ty := 3) (ha := ag3) 1); rfl; rfl)
            | ((with_reducible refine actC_mk (act_append_nil (sz := 1) (by decide) ?_)))
            | ((with_reducible refine actC_mk (act_append_src_nil (sz := 1) (by decide) ?_)))
            | ((with_reducible refine actC_mk (act_append 0 rfl sl24 sz3 by3 zr3 rfl ?_ ?_ ?_ (fun tk => ?_))); (first | exact goodI _ | exact goodU _ | rfl | exact goodSL _ | exact goodLL _ | (focus (simp [goodL, oneA, AV.cells]; done)) | skip))
            | ((with_reducible refine (act_append 0 rfl sl24 sz3 by3 zr3 rfl ?_ ?_ ?_ (fun tk => ?_))); (first | exact goodI _ | exact goodU _ | rfl | exact goodSL _ | exact goodLL _ | (focus (simp [goodL, oneA, AV.cells]; done)) | skip))
            | ((with_reducible refine actC_mk (act_append 1 rfl sl24 sz3 by3 zr3 rfl ?_ ?_ ?_ (fun tk => ?_))); (first | exact goodI _ | exact goodU _ | rfl | exact goodSL _ | exact goodLL _ | (focus (simp [goodL, oneA, AV.cells]; done)) | skip))
            | ((with_reducible refine (act_append 1 rfl sl24 sz3 by3 zr3 rfl ?_ ?_ ?_ (fun tk => ?_))); (first | exact goodI _ | exact goodU _ | rfl | exact goodSL _ | exact goodLL _ | (focus (simp [goodL, oneA, AV.cells]; done)) | skip))
            | ((with_reducible refine actC_mk (act_append 2 rfl sl24 sz3 by3 zr3 rfl ?_ ?_ ?_ (fun tk => ?_))); (first | exact goodI _ | exact goodU _ | rfl | exact goodSL _ | exact goodLL _ | (focus (simp [goodL, oneA, AV.cells]; done)) | skip))
            | ((with_reducible refine (act_append 2 rfl sl24 sz3 by3 zr3 rfl ?_ ?_ ?_ (fun tk => ?_))); (first | exact goodI _ | exact goodU _ | rfl | exact goodSL _ | exact goodLL _ | (focus (simp [goodL, oneA, AV.cells]; done)) | skip))
            | ((with_reducible refine wk_bslice sl24 sz3 zr3 (by decide) (by decide) (by decide) (by decide) rfl ?_ ?_ ?_); (first | exact goodI _ | exact goodU _ | rfl | exact goodSL _ | exact goodLL _ | (focus (simp [goodL, oneA, AV.cells]; done))); (all_goals first | (intro x hx; simp at hx; first | (subst hx; rfl) | (rcases hx with rfl | rfl <;> rfl) | (rcases hx with rfl | rfl | rfl <;> rfl) | (repeat (rcases hx with rfl | hx <;> try rfl))) | skip))
            | ((with_reducible refine wk_bslice sl37 sz24 zr24 (by decide) (by decide) (by decide) (by decide) rfl ?_ ?_ ?_); (first | exact goodI _ | exact goodU _ | rfl | exact goodSL _ | exact goodLL _ | (focus (simp [goodL, oneA, AV.cells]; done))); (all_goals first | (intro x hx; simp at hx; first | (subst hx; rfl) | (rcases hx with rfl | rfl <;> rfl) | (rcases hx with rfl | rfl | rfl <;> rfl) | (repeat (rcases hx with rfl | hx <;> try rfl))) | skip))
            | ( refine callD_mk (ACallF.argsS (ys := [SSI none [120 :: 92 :: 85 :: D.take 7]]) ⟨leS_sl (leC_one rfl rfl (leS_le le_rfl) trivial), trivial⟩ (dReadAll ht1 ?_)))
            | ( refine callD_mk (ACallF.argsS (ys := [SSI none [120 :: 92 :: 85 :: (D ++ [121])]]) ⟨leS_sl (leC_one rfl rfl (leS_trans (leS_eq (show _ = SI (some tk) (120 :: 92 :: 85 :: (D ++ [121])) by simp)) (leS_le le_ro)) trivial), trivial⟩ (dReadAll ht2 ?_)))
            | (with_reducible refine callD_mk (alive7 ?_))
            | (with_reducible refine callD_mk (dReadAll ?_ ?_))
            | (with_reducible refine callD_mk (num7 ?_))
            | (with_reducible refine callD_mk (sameInts ?_ ?_))
            | (with_reducible refine nilTC_pos (by simp; omega) ?_)
            | (with_reducible refine nilTC_split (fun h => ?_) (fun h bn => ?_) <;> (try simp only [List.length_map] at h))
            | (with_reducible refine grd_cases (fun h => ?_) (fun h => ?_) <;> (try simp only [h]) <;> (try simp only [beq_iff_eq, beq_eq_false_iff_ne, bne_iff_ne, bne_eq_false_iff_eq, decide_eq_true_eq, decide_eq_false_iff_not, Bool.not_eq_true', Bool.not_eq_false', Bool.not_true, Bool.not_false, Bool.not_eq_eq_eq_not, ne_eq, Int.not_lt, Int.not_le, gt_iff_lt, ge_iff_le, Decidable.not_not] at h))
            | (with_reducible refine condC_split (fun h => ?_) (fun h => ?_) <;> (try simp only [h]) <;> (try simp only [beq_iff_eq, beq_eq_false_iff_ne, bne_iff_ne, bne_eq_false_iff_eq, decide_eq_true_eq, decide_eq_false_iff_not, Bool.not_eq_true', Bool.not_eq_false', Bool.not_true, Bool.not_false, Bool.not_eq_eq_eq_not, ne_eq, Int.not_lt, Int.not_le, gt_iff_lt, ge_iff_le, Decidable.not_not] at h))
            | omega | (simp only [List.length_append, List.length_map, List.length_cons, List.length_nil, List.length_drop, List.length_take, List.length_replicate]; omega) | (refine maxLen_ok ?_; (first | omega | (simp only [List.length_append, List.length_map, List.length_cons, List.length_nil, List.length_drop, List.length_take, List.length_replicate]; omega))))
          all_goals first
            | exact leafLaw rfl
            | exact leafLaw (decide_eq_true trivial)
            | (rename_i h; exact absurd trivial h)
            | omega
        · have hrn := rightI_iff.1 hr
          repeat' (first
            | (with_reducible refine AW_seqA (AW_block ?_)) | (with_reducible refine AW_block ?_) | (with_reducible refine cut_seqloop ?_) | (with_reducible refine cut_loop ?_) | (with_reducible refine AW_seqA (AW_seqA ?_)) | (with_reducible refine AW_seq ?_) | (with_reducible refine AW_run ?_)
            | simp only [WL, intF, strF, List.toList_toArray, List.set_cons_succ, List.set_cons_zero, List.getD_cons_succ, List.getD_cons_zero, List.getElem?_cons_succ, List.getElem?_cons_zero, List.length_cons, List.length_nil, List.replicate_succ, List.replicate_zero, List.cons_append, List.nil_append, List.append_nil, List.map_cons, List.map_nil, Option.bind_some, Option.map_some, Option.map_none, List.drop_succ_cons, List.drop_zero, List.take_succ_cons, List.take_zero, ← List.map_take, ← List.map_drop, List.take_length, Int.reduceToNat, ne_eq, reduceCtorEq, not_false_eq_true, Nat.reduceAdd, Nat.reduceSub, Nat.reduceLT, Nat.reduceLeDiff, Nat.reduceEqDiff, Nat.zero_lt_succ, Bool.not_true, Bool.not_false, beq_self_eq_true, true_and, and_true, Option.isSome_some, Option.isSome_none, reduceIte, Int.toNat_natCast, Bool.false_eq_true, List.length_map, Nat.le_refl, Option.some.injEq, exists_eq_left', Nat.add_right_cancel_iff, List.take_nil, List.drop_nil, T3, T4, T5, T9, T24, T33, T34, T37, convC_int in3, convC_int in33, cok26, cok27, cok28, cok29, Try.results5, hD, hE1, hE2, hr, Int.reduceToNat, Int.reduceSub, Int.reduceNeg, Int.cast_ofNat_Int, Int.natCast_zero, Int.zero_sub]
            | (simp (disch := first | omega | (simp only [List.length_append, List.length_map, List.length_cons, List.length_nil, List.length_drop, List.length_take, List.length_replicate]; omega)) only [wrap_id, getI])
            | (with_reducible refine And.intro (by first | omega | exact ⟨_, rfl⟩ | (focus (simp; done)) | (simp; omega)) ?_)
            | ((with_reducible apply wk_load (ty := 3) (ha := ag3) 0); rfl; rfl)
            | ((with_reducible apply wk_load (ty := 3) (ha := ag3) 1); rfl; rfl)
            | ((with_reducible refine actC_mk (act_append_nil (sz := 1) (by decide) ?_)))
            | ((with_reducible refine actC_mk (act_append_src_nil (sz := 1) (by decide) ?_)))
            | ((with_reducible refine actC_mk (act_append 0 rfl sl24 sz3 by3 zr3 rfl ?_ ?_ ?_ (fun tk => ?_))); (first | exact goodI _ | exact goodU _ | rfl | exact goodSL _ | exact goodLL _ | (focus (simp [goodL, oneA, AV.cells]; done)) | skip))
            | ((with_reducible refine (act_append 0 rfl sl24 sz3 by3 zr3 rfl ?_ ?_ ?_ (fun tk => ?_))); (first | exact goodI _ | exact goodU _ | rfl | exact goodSL _ | exact goodLL _ | (focus (simp [goodL, oneA, AV.cells]; done)) | skip))
            | ((with_reducible refine actC_mk (act_append 1 rfl sl24 sz3 by3 zr3 rfl ?_ ?_ ?_ (fun tk => ?_))); (first | exact goodI _ | exact goodU _ | rfl | exact goodSL _ | exact goodLL _ | (focus (simp [goodL, oneA, AV.cells]; done)) | skip))
            | ((with_reducible refine (act_append 1 rfl sl24 sz3 by3 zr3 rfl ?_ ?_ ?_ (fun tk => ?_))); (first | exact goodI _ | exact goodU _ | rfl | exact goodSL _ | exact goodLL _ | (focus (simp [goodL, oneA, AV.cells]; done)) | skip))
            | ((with_reducible refine actC_mk (act_append 2 rfl sl24 sz3 by3 zr3 rfl ?_ ?_ ?_ (fun tk => ?_))); (first | exact goodI _ | exact goodU _ | rfl | exact goodSL _ | exact goodLL _ | (focus (simp [goodL, oneA, AV.cells]; done)) | skip))
            | ((with_reducible refine (act_append 2 rfl sl24 sz3 by3 zr3 rfl ?_ ?_ ?_ (fun tk => ?_))); (first | exact goodI _ | exact goodU _ | rfl | exact goodSL _ | exact goodLL _ | (focus (simp [goodL, oneA, AV.cells]; done)) | skip))
            | ((with_reducible refine wk_bslice sl24 sz3 zr3 (by decide) (by decide) (by decide) (by decide) rfl ?_ ?_ ?_); (first | exact goodI _ | exact goodU _ | rfl | exact goodSL _ | exact goodLL _ | (focus (simp [goodL, oneA, AV.cells]; done))); (all_goals first | (intro x hx; simp at hx; first | (subst hx; rfl) | (rcases hx with rfl | rfl <;> rfl) | (rcases hx with rfl | rfl | rfl <;> rfl) | (repeat (rcases hx with rfl | hx <;> try rfl))) | skip))
            | ((with_reducible refine wk_bslice sl37 sz24 zr24 (by decide) (by decide) (by decide) (by decide) rfl ?_ ?_ ?_); (first | exact goodI _ | exact goodU _ | rfl | exact goodSL _ | exact goodLL _ | (focus (simp [goodL, oneA, AV.cells]; done))); (all_goals first | (intro x hx; simp at hx; first | (subst hx; rfl) | (rcases hx with rfl | rfl <;> rfl) | (rcases hx with rfl | rfl | rfl <;> rfl) | (repeat (rcases hx with rfl | hx <;> try rfl))) | skip))
            | ( refine callD_mk (ACallF.argsS (ys := [SSI none [120 :: 92 :: 85 :: D.take 7]]) ⟨leS_sl (leC_one rfl rfl (leS_le le_rfl) trivial), trivial⟩ (dReadAll ht1 ?_)))
            | ( refine callD_mk (ACallF.argsS (ys := [SSI none [120 :: 92 :: 85 :: (D ++ [121])]]) ⟨leS_sl (leC_one rfl rfl (leS_trans (leS_eq (show _ = SI (some tk) (120 :: 92 :: 85 :: (D ++ [121])) by simp)) (leS_le le_ro)) trivial), trivial⟩ (dReadAll ht2 ?_)))
            | ( refine callD_mk (ACallF.argsS (ys := [SI none [120, c, 121], SI none [120, c, 121]]) ⟨leS_le le_rfl, leS_le le_rfl, trivial⟩ (sameInts (by simp) ?_)))
            | (with_reducible refine callD_mk (alive7 ?_))
            | (with_reducible refine callD_mk (dReadAll ?_ ?_))
            | (with_reducible refine callD_mk (num7 ?_))
            | (with_reducible refine callD_mk (sameInts ?_ ?_))
            | (with_reducible refine nilTC_pos (by simp; omega) ?_)
            | (with_reducible refine nilTC_split (fun h => ?_) (fun h bn => ?_) <;> (try simp only [List.length_map] at h))
            | (with_reducible refine grd_cases (fun h => ?_) (fun h => ?_) <;> (try simp only [h]) <;> (try simp only [beq_iff_eq, beq_eq_false_iff_ne, bne_iff_ne, bne_eq_false_iff_eq, decide_eq_true_eq, decide_eq_false_iff_not, Bool.not_eq_true', Bool.not_eq_false', Bool.not_true, Bool.not_false, Bool.not_eq_eq_eq_not, ne_eq, Int.not_lt, Int.not_le, gt_iff_lt, ge_iff_le, Decidable.not_not] at h))
            | (with_reducible refine condC_split (fun h => ?_) (fun h => ?_) <;> (try simp only [h]) <;> (try simp only [beq_iff_eq, beq_eq_false_iff_ne, bne_iff_ne, bne_eq_false_iff_eq, decide_eq_true_eq, decide_eq_false_iff_not, Bool.not_eq_true', Bool.not_eq_false', Bool.not_true, Bool.not_false, Bool.not_eq_eq_eq_not, ne_eq, Int.not_lt, Int.not_le, gt_iff_lt, ge_iff_le, Decidable.not_not] at h))
            | omega | (simp only [List.length_append, List.length_map, List.length_cons, List.length_nil, List.length_drop, List.length_take, List.length_replicate]; omega) | (refine maxLen_ok ?_; (first | omega | (simp only [List.length_append, List.length_map, List.length_cons, List.length_nil, List.length_drop, List.length_take, List.length_replicate]; omega))))
          all_goals first
            | exact leafLaw rfl
            | exact leafLaw (decide_eq_true trivial)
            | (rename_i h; exact absurd trivial h)
            | omega
      · have hx16 : 0 ≤ c / 2 ^ (4 * m) % 16 ∧ c / 2 ^ (4 * m) % 16 < 16 := by omega
        have hxd := hexD_le (up := true) hx16.1 hx16.2
        repeat' (first
          | (with_reducible refine AW_seqA (AW_block ?_)) | (with_reducible refine AW_block ?_) | (with_reducible refine cut_seqloop ?_) | (with_reducible refine cut_loop ?_) | (with_reducible refine AW_seqA (AW_seqA ?_)) | (with_reducible refine AW_seq ?_) | (with_reducible refine AW_run ?_)
          | simp only [WL, intF, strF, List.toList_toArray, List.set_cons_succ, List.set_cons_zero, List.getD_cons_succ, List.getD_cons_zero, List.getElem?_cons_succ, List.getElem?_cons_zero, List.length_cons, List.length_nil, List.replicate_succ, List.replicate_zero, List.cons_append, List.nil_append, List.append_nil, List.map_cons, List.map_nil, Option.bind_some, Option.map_some, Option.map_none, List.drop_succ_cons, List.drop_zero, List.take_succ_cons, List.take_zero, ← List.map_take, ← List.map_drop, List.take_length, Int.reduceToNat, ne_eq, reduceCtorEq, not_false_eq_true, Nat.reduceAdd, Nat.reduceSub, Nat.reduceLT, Nat.reduceLeDiff, Nat.reduceEqDiff, Nat.zero_lt_succ, Bool.not_true, Bool.not_false, beq_self_eq_true, true_and, and_true, Option.isSome_some, Option.isSome_none, reduceIte, Int.toNat_natCast, Bool.false_eq_true, List.length_map, Nat.le_refl, Option.some.injEq, exists_eq_left', Nat.add_right_cancel_iff, List.take_nil, List.drop_nil, T3, T4, T5, T9, T24, T33, T34, T37, convC_int in3, convC_int in33, cok26, cok27, cok28, cok29, Try.results5, m1, t4, fold_and, and15, hexLs, hexUs]
          | (simp (disch := first | omega | (simp only [List.length_append, List.length_map, List.length_cons, List.length_nil, List.length_drop, List.length_take, List.length_replicate]; omega)) only [wrap_id, getI, shr_i, wrapu_id, hexL, hexU])
          | (with_reducible refine And.intro (by first | omega | exact ⟨_, rfl⟩ | (focus (simp; done)) | (simp; omega)) ?_)
          | ((with_reducible apply wk_load (ty := 3) (ha := ag3) 0); rfl; rfl)
          | ((with_reducible apply wk_load (ty := 3) (ha := ag3) 1); rfl; rfl)
          | ((with_reducible refine actC_mk (act_append_nil (sz := 1) (by decide) ?_)))
          | ((with_reducible refine actC_mk (act_append_src_nil (sz := 1) (by decide) ?_)))
          | ((with_reducible refine actC_mk (act_append 0 rfl sl24 sz3 by3 zr3 rfl ?_ ?_ ?_ (fun tk => ?_))); (first | exact goodI _ | exact goodU _ | rfl | exact goodSL _ | exact goodLL _ | (focus (simp [goodL, oneA, AV.cells]; done)) | skip))
          | ((with_reducible refine (act_append 0 rfl sl24 sz3 by3 zr3 rfl ?_ ?_ ?_ (fun tk => ?_))); (first | exact goodI _ | exact goodU _ | rfl | exact goodSL _ | exact goodLL _ | (focus (simp [goodL, oneA, AV.cells]; done)) | skip))
          | ((with_reducible refine actC_mk (act_append 1 rfl sl24 sz3 by3 zr3 rfl ?_ ?_ ?_ (fun tk => ?_))); (first | exact goodI _ | exact goodU _ | rfl | exact goodSL _ | exact goodLL _ | (focus (simp [goodL, oneA, AV.cells]; done)) | skip))
          | ((with_reducible refine (act_append 1 rfl sl24 sz3 by3 zr3 rfl ?_ ?_ ?_ (fun tk => ?_))); (first | exact goodI _ | exact goodU _ | rfl | exact goodSL _ | exact goodLL _ | (focus (simp [goodL, oneA, AV.cells]; done)) | skip))
          | ((with_reducible refine actC_mk (act_append 2 rfl sl24 sz3 by3 zr3 rfl ?_ ?_ ?_ (fun tk => ?_))); (first | exact goodI _ | exact goodU _ | rfl | exact goodSL _ | exact goodLL _ | (focus (simp [goodL, oneA, AV.cells]; done)) | skip))
          | ((with_reducible refine (act_append 2 rfl sl24 sz3 by3 zr3 rfl ?_ ?_ ?_ (fun tk => ?_))); (first | exact goodI _ | exact goodU _ | rfl | exact goodSL _ | exact goodLL _ | (focus (simp [goodL, oneA, AV.cells]; done)) | skip))
          | ((with_reducible refine wk_bslice sl24 sz3 zr3 (by decide) (by decide) (by decide) (by decide) rfl ?_ ?_ ?_); (first | exact goodI _ | exact goodU _ | rfl | exact goodSL _ | exact goodLL _ | (focus (simp [goodL, oneA, AV.cells]; done))); (all_goals first | (intro x hx; simp at hx; first | (subst hx; rfl) | (rcases hx with rfl | rfl <;> rfl) | (rcases hx with rfl | rfl | rfl <;> rfl) | (repeat (rcases hx with rfl | hx <;> try rfl))) | skip))
          | ((with_reducible refine wk_bslice sl37 sz24 zr24 (by decide) (by decide) (by decide) (by decide) rfl ?_ ?_ ?_); (first | exact goodI _ | exact goodU _ | rfl | exact goodSL _ | exact goodLL _ | (focus (simp [goodL, oneA, AV.cells]; done))); (all_goals first | (intro x hx; simp at hx; first | (subst hx; rfl) | (rcases hx with rfl | rfl <;> rfl) | (rcases hx with rfl | rfl | rfl <;> rfl) | (repeat (rcases hx with rfl | hx <;> try rfl))) | skip))
          | (with_reducible refine callD_mk (alive7 ?_))
          | (with_reducible refine callD_mk (dReadAll ?_ ?_))
          | (with_reducible refine callD_mk (num7 ?_))
          | (with_reducible refine callD_mk (sameInts ?_ ?_))
          | (with_reducible refine nilTC_pos (by simp; omega) ?_)
          | (with_reducible refine nilTC_split (fun h => ?_) (fun h bn => ?_) <;> (try simp only [List.length_map] at h))
          | (with_reducible refine grd_cases (fun h => ?_) (fun h => ?_) <;> (try simp only [h]) <;> (try simp only [beq_iff_eq, beq_eq_false_iff_ne, bne_iff_ne, bne_eq_false_iff_eq, decide_eq_true_eq, decide_eq_false_iff_not, Bool.not_eq_true', Bool.not_eq_false', Bool.not_true, Bool.not_false, Bool.not_eq_eq_eq_not, ne_eq, Int.not_lt, Int.not_le, gt_iff_lt, ge_iff_le, Decidable.not_not] at h))
          | (with_reducible refine condC_split (fun h => ?_) (fun h => ?_) <;> (try simp only [h]) <;> (try simp only [beq_iff_eq, beq_eq_false_iff_ne, bne_iff_ne, bne_eq_false_iff_eq, decide_eq_true_eq, decide_eq_false_iff_not, Bool.not_eq_true', Bool.not_eq_false', Bool.not_true, Bool.not_false, Bool.not_eq_eq_eq_not, ne_eq, Int.not_lt, Int.not_le, gt_iff_lt, ge_iff_le, Decidable.not_not] at h))
          | omega | (simp only [List.length_append, List.length_map, List.length_cons, List.length_nil, List.length_drop, List.length_take, List.length_replicate]; omega) | (refine maxLen_ok ?_; (first | omega | (simp only [List.length_append, List.length_map, List.length_cons, List.length_nil, List.length_drop, List.length_take, List.length_replicate]; omega))))
        exact ⟨(m, D ++ [hexD true (c / 2 ^ (4 * m) % 16)], tk), St_leW (by repeat (first | exact trivial | refine ⟨le_rfl, ?_⟩ | refine ⟨le_any, ?_⟩ | refine ⟨le_ro, ?_⟩ | refine ⟨le_nil (by decide), ?_⟩ | refine ⟨le_wrap (by omega) (by omega) (by omega), ?_⟩ | refine ⟨le_int (by omega), ?_⟩ | refine ⟨le_eq (by simp), ?_⟩)) (ResW.refl _) id, ⟨by dsimp only; omega, by dsimp only; rw [← h2]; simp [digs]⟩, by dsimp only; omega⟩
  ·
    refine ACallF.dropL (ACallF_intro Try.func5 rfl ?_)
    simp only [Try.ntmps5]
    repeat' (first
      | simp only [WL, intF, strF, List.toList_toArray, List.set_cons_succ, List.set_cons_zero, List.getD_cons_succ, List.getD_cons_zero, List.getElem?_cons_succ, List.getElem?_cons_zero, List.length_cons, List.length_nil, List.replicate_succ, List.replicate_zero, List.cons_append, List.nil_append, List.append_nil, List.map_cons, List.map_nil, Option.bind_some, Option.map_some, Option.map_none, List.drop_succ_cons, List.drop_zero, List.take_succ_cons, List.take_zero, ← List.map_take, ← List.map_drop, List.take_length, Int.reduceToNat, ne_eq, reduceCtorEq, not_false_eq_true, Nat.reduceAdd, Nat.reduceSub, Nat.reduceLT, Nat.reduceLeDiff, Nat.reduceEqDiff, Nat.zero_lt_succ, Bool.not_true, Bool.not_false, beq_self_eq_true, true_and, and_true, Option.isSome_some, Option.isSome_none, reduceIte, Int.toNat_natCast, Bool.false_eq_true, List.length_map, Nat.le_refl, Option.some.injEq, exists_eq_left', Nat.add_right_cancel_iff, List.take_nil, List.drop_nil, T3, T4, T5, T9, T24, T33, T34, T37, convC_int in3, convC_int in33, cok26, cok27, cok28, cok29, Try.results5]
      | (simp (disch := first | omega | (simp only [List.length_append, List.length_map, List.length_cons, List.length_nil, List.length_drop, List.length_take, List.length_replicate]; omega)) only [wrap_id, getI])
      | (with_reducible refine And.intro (by first | omega | exact ⟨_, rfl⟩ | (focus (simp; done)) | (simp; omega)) ?_)
      | ((with_reducible apply wk_load (ty := 3) (ha := ag3) 0); rfl; rfl)
      | ((with_reducible apply wk_load (ty := 3) (ha := ag3) 1); rfl; rfl)
      | ((with_reducible refine actC_mk (act_append_nil (sz := 1) (by decide) ?_)))
      | ((with_reducible refine actC_mk (act_append_src_nil (sz := 1) (by decide) ?_)))
      | ((with_reducible refine actC_mk (act_append 0 rfl sl24 sz3 by3 zr3 rfl ?_ ?_ ?_ (fun tk => ?_))); (first | exact goodI _ | exact goodU _ | rfl | exact goodSL _ | exact goodLL _ | (focus (simp [goodL, oneA, AV.cells]; done)) | skip))
      | ((with_reducible refine (act_append 0 rfl sl24 sz3 by3 zr3 rfl ?_ ?_ ?_ (fun tk => ?_))); (first | exact goodI _ | exact goodU _ | rfl | exact goodSL _ | exact goodLL _ | (focus (simp [goodL, oneA, AV.cells]; done)) | skip))
      | ((with_reducible refine actC_mk (act_append 1 rfl sl24 sz3 by3 zr3 rfl ?_ ?_ ?_ (fun tk => ?_))); (first | exact goodI _ | exact goodU _ | rfl | exact goodSL _ | exact goodLL _ | (focus (simp [goodL, oneA, AV.cells]; done)) | skip))
      | ((with_reducible refine (act_append 1 rfl sl24 sz3 by3 zr3 rfl ?_ ?_ ?_ (fun tk => ?_))); (first | exact goodI _ | exact goodU _ | rfl | exact goodSL _ | exact goodLL _ | (focus (simp [goodL, oneA, AV.cells]; done)) | skip))
      | ((with_reducible refine actC_mk (act_append 2 rfl sl24 sz3 by3 zr3 rfl ?_ ?_ ?_ (fun tk => ?_))); (first | exact goodI _ | exact goodU _ | rfl | exact goodSL _ | exact goodLL _ | (focus (simp [goodL, oneA, AV.cells]; done)) | skip))
      | ((with_reducible refine (act_append 2 rfl sl24 sz3 by3 zr3 rfl ?_ ?_ ?_ (fun tk => ?_))); (first | exact goodI _ | exact goodU _ | rfl | exact goodSL _ | exact goodLL _ | (focus (simp [goodL, oneA, AV.cells]; done)) | skip))
      | ((with_reducible refine wk_bslice sl24 sz3 zr3 (by decide) (by decide) (by decide) (by decide) rfl ?_ ?_ ?_); (first | exact goodI _ | exact goodU _ | rfl | exact goodSL _ | exact goodLL _ | (focus (simp [goodL, oneA, AV.cells]; done))); (all_goals first | (intro x hx; simp at hx; first | (subst hx; rfl) | (rcases hx with rfl | rfl <;> rfl) | (rcases hx with rfl | rfl | rfl <;> rfl) | (repeat (rcases hx with rfl | hx <;> try rfl))) | skip))
      | ((with_reducible refine wk_bslice sl37 sz24 zr24 (by decide) (by decide) (by decide) (by decide) rfl ?_ ?_ ?_); (first | exact goodI _ | exact goodU _ | rfl | exact goodSL _ | exact goodLL _ | (focus (simp [goodL, oneA, AV.cells]; done))); (all_goals first | (intro x hx; simp at hx; first | (subst hx; rfl) | (rcases hx with rfl | rfl <;> rfl) | (rcases hx with rfl | rfl | rfl <;> rfl) | (repeat (rcases hx with rfl | hx <;> try rfl))) | skip))
      | (with_reducible refine callD_mk (alive7 ?_))
      | (with_reducible refine callD_mk (dReadAll ?_ ?_))
      | (with_reducible refine callD_mk (num7 ?_))
      | (with_reducible refine callD_mk (sameInts ?_ ?_))
      | (with_reducible refine nilTC_pos (by simp; omega) ?_)
      | (with_reducible refine nilTC_split (fun h => ?_) (fun h bn => ?_) <;> (try simp only [List.length_map] at h))
      | (with_reducible refine grd_cases (fun h => ?_) (fun h => ?_) <;> (try simp only [h]) <;> (try simp only [beq_iff_eq, beq_eq_false_iff_ne, bne_iff_ne, bne_eq_false_iff_eq, decide_eq_true_eq, decide_eq_false_iff_not, Bool.not_eq_true', Bool.not_eq_false', Bool.not_true, Bool.not_false, Bool.not_eq_eq_eq_not, ne_eq, Int.not_lt, Int.not_le, gt_iff_lt, ge_iff_le, Decidable.not_not] at h))
      | (with_reducible refine condC_split (fun h => ?_) (fun h => ?_) <;> (try simp only [h]) <;> (try simp only [beq_iff_eq, beq_eq_false_iff_ne, bne_iff_ne, bne_eq_false_iff_eq, decide_eq_true_eq, decide_eq_false_iff_not, Bool.not_eq_true', Bool.not_eq_false', Bool.not_true, Bool.not_false, Bool.not_eq_eq_eq_not, ne_eq, Int.not_lt, Int.not_le, gt_iff_lt, ge_iff_le, Decidable.not_not] at h))
      | omega | (simp only [List.length_append, List.length_map, List.length_cons, List.length_nil, List.length_drop, List.length_take, List.length_replicate]; omega) | (refine maxLen_ok ?_; (first | omega | (simp only [List.length_append, List.length_map, List.length_cons, List.length_nil, List.length_drop, List.length_take, List.length_replicate]; omega))))
    all_goals first
      | exact leafLaw rfl
      | omega
end Go.Proofs.Ythnlcdcfbgfncaa
