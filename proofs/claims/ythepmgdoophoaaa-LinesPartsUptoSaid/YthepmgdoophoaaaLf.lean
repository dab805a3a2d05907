/-
  Walks: the law LinesParts.
-/
import Derived.Test.YthepmgdoophoaaaLb
import Derived.Test.YthepmgdoophoaaaLa
import Derived.Test.YthepmgdoophoaaaSn
namespace Go.Proofs.Ythepmgdoophoaaa
open Go.Abs
set_option linter.unusedVariables false
set_option linter.unusedSimpArgs false
-- hb: 4000000
variable {κ : Ctx} {σ : List Res} {K : Ret → List Res → Prop} {o o' : Option (Option (Nat × Nat))}

set_option maxHeartbeats 4000000 in
theorem readR_zero {l : List Int} (h : (readR l).2 = 0) : readOk l = true ∧ (readR l).1 = linesOf l := by
  unfold readR at *
  split at h
  · rename_i hk; exact ⟨hk, by rw [if_pos hk]⟩
  · cases h
set_option maxHeartbeats 4000000 in
theorem readR_parts {a b e : List Int} (he : e = [10] ∨ e = [13] ∨ e = [13, 10]) (hb : e = [13] → ¬ (0 < b.length ∧ b.getD 0 0 = 10)) (h0 : 0 < a.length) (hl : ¬ a.getD (a.length - 1) 0 = 10) (hl2 : ¬ a.getD (a.length - 1) 0 = 13) (ha : (readR a).2 = 0) (hbz : (readR b).2 = 0) :
    readR (a ++ e ++ b) = ((readR a).1 ++ (readR b).1, 0) := by
  obtain ⟨ka, ra⟩ := readR_zero ha
  obtain ⟨kb, rb⟩ := readR_zero hbz
  have ke : readOk e = true := by rcases he with rfl | rfl | rfl <;> decide
  have hk : readOk (a ++ e ++ b) = true := by
    unfold readOk at *
    rw [List.all_append, List.all_append, ka, ke, kb]; rfl
  have hx0 : b.head? = some 10 → 0 < b.length ∧ b.getD 0 0 = 10 := fun h2 => by
    cases b with
    | nil => cases h2
    | cons x r => simp at h2; simp [h2]
  have hx : linesOf (a ++ e ++ b) = linesOf a ++ linesOf b := by
    unfold linesOf
    rw [tx_parts he (fun h h2 => hb h (hx0 h2)) a [] (fun h => by subst h; simp at h0) ?_, List.map_append]
    · intro c hc
      have hne : a ≠ [] := fun e => by subst e; simp at h0
      rw [List.getLast?_eq_getElem?, List.getElem?_eq_getElem (by omega)] at hc
      cases hc
      have : a.getD (a.length - 1) 0 = a[a.length - 1]'(by omega) := by simp [List.getD_eq_getElem?_getD, show a.length - 1 < a.length by omega]
      rw [this] at hl hl2
      exact brk_no hl hl2
  unfold readR
  rw [if_pos hk, if_pos ka, if_pos kb, hx]

-- marginalialaw3.LinesParts
set_option maxHeartbeats 4000000 in
theorem law_LinesParts (κ : Ctx) (a : List Int) (ha : a.length ≤ maxLen ∧ ∀ x ∈ a, IntKind.i64.min ≤ x ∧ x ≤ IntKind.i64.max) (b : List Int) (hb : b.length ≤ maxLen ∧ ∀ x ∈ b, IntKind.i64.min ≤ x ∧ x ≤ IntKind.i64.max) (c : Int) (hc : IntKind.i64.min ≤ c ∧ c ≤ IntKind.i64.max) (ua : a.length ≤ 1048576) (ub : b.length ≤ 1048576) : ACallF κ Try.prog 4 [.sl 1 none (a.map fun n => I n), .sl 1 none (b.map fun n => I n), I c] [] (fun r _ => r = .ret (B true)) := by
  have e1 : 0 < a.length → ((a.length : Int) - 1).toNat = a.length - 1 := fun _ => by omega
  have ra := readR_len a
  have rb := readR_len b
  have hs3 : ∀ tk, AV.sl 2 (some tk) ((readR a).1.map LN ++ (readR b).1.map LN) = SL (some tk) ((readR a).1 ++ (readR b).1) := fun tk => by simp [SL]
  rcases (show c = 0 ∨ c = 1 ∨ c = 2 ∨ (c < 0 ∨ 2 < c) by omega) with rfl | rfl | rfl | hcc
  ·
    have hs : ∀ tk, AV.sl 1 (some tk) (a.map (fun n => I n) ++ [AV.raw (Value.int IntKind.i64 10)] ++ b.map (fun n => I n)) = SI (some tk) (a ++ [10] ++ b) := fun tk => by simp [SI, I]
    have hs2 : (a ++ [10] ++ b).length ≤ 2097154 := by simp; omega
    have hs4 := readR_len (a ++ [10] ++ b)
    have hs5 := readR_each (a ++ [10] ++ b)
    have hp := fun hb h0 hl hl2 ha hb2 => readR_parts (a := a) (b := b) (e := [10]) (.inl rfl) hb h0 hl hl2 ha hb2
    refine ACallF.dropL (ACallF_intro Try.func4 rfl ?_)
    simp only [Try.ntmps4]
    repeat' (first
      | simp only [WL, intF, strF, List.toList_toArray, List.set_cons_succ, List.set_cons_zero, List.getD_cons_succ, List.getD_cons_zero, List.getElem?_cons_succ, List.getElem?_cons_zero, List.length_cons, List.length_nil, List.replicate_succ, List.replicate_zero, List.cons_append, List.nil_append, List.append_nil, List.map_cons, List.map_nil, Option.bind_some, Option.map_some, Option.map_none, List.drop_succ_cons, List.drop_zero, List.take_succ_cons, List.take_zero, ← List.map_take, ← List.map_drop, List.take_length, Int.reduceToNat, ne_eq, reduceCtorEq, not_false_eq_true, Nat.reduceAdd, Nat.reduceSub, Nat.reduceLT, Nat.reduceLeDiff, Nat.reduceEqDiff, Nat.zero_lt_succ, Bool.not_true, Bool.not_false, beq_self_eq_true, true_and, and_true, Option.isSome_some, Option.isSome_none, reduceIte, Int.toNat_natCast, Bool.false_eq_true, List.length_map, Nat.le_refl, Option.some.injEq, exists_eq_left', Nat.add_right_cancel_iff, List.take_nil, List.drop_nil, T3, T4, T22, T24, T25, T33, T36, cok16, cok17, cok18, cok19, cok20, Try.results4, hs, hs3]
      | (simp (disch := first | omega | (simp only [List.length_append, List.length_map, List.length_cons, List.length_nil, List.length_drop, List.length_take, List.length_replicate]; omega)) only [wrap_id, getI])
      | (with_reducible refine And.intro (by first | omega | exact ⟨_, rfl⟩ | (focus (simp; done)) | (simp; omega)) ?_)
      | ((with_reducible apply wk_load (ty := 3) (ha := ag3) 0); rfl; rfl)
      | ((with_reducible apply wk_load (ty := 3) (ha := ag3) 1); rfl; rfl)
      | ((with_reducible apply wk_load (ty := 22) (ha := ag22) 0); rfl; rfl)
      | ((with_reducible apply wk_load (ty := 22) (ha := ag22) 1); rfl; rfl)
      | ((with_reducible refine actC_mk (act_append_nil (sz := 1) (by decide) ?_)))
      | ((with_reducible refine actC_mk (act_append_src_nil (sz := 1) (by decide) ?_)))
      | ((with_reducible refine actC_mk (act_append 0 rfl sl22 sz3 by3 zr3 rfl ?_ ?_ ?_ (fun tk => ?_))); (first | exact goodI _ | rfl | exact goodSL _ | exact goodLL _ | (focus (simp [goodL, oneA, AV.cells]; done)) | skip))
      | ((with_reducible refine (act_append 0 rfl sl22 sz3 by3 zr3 rfl ?_ ?_ ?_ (fun tk => ?_))); (first | exact goodI _ | rfl | exact goodSL _ | exact goodLL _ | (focus (simp [goodL, oneA, AV.cells]; done)) | skip))
      | ((with_reducible refine actC_mk (act_append 1 rfl sl22 sz3 by3 zr3 rfl ?_ ?_ ?_ (fun tk => ?_))); (first | exact goodI _ | rfl | exact goodSL _ | exact goodLL _ | (focus (simp [goodL, oneA, AV.cells]; done)) | skip))
      | ((with_reducible refine (act_append 1 rfl sl22 sz3 by3 zr3 rfl ?_ ?_ ?_ (fun tk => ?_))); (first | exact goodI _ | rfl | exact goodSL _ | exact goodLL _ | (focus (simp [goodL, oneA, AV.cells]; done)) | skip))
      | ((with_reducible refine actC_mk (act_append 2 rfl sl22 sz3 by3 zr3 rfl ?_ ?_ ?_ (fun tk => ?_))); (first | exact goodI _ | rfl | exact goodSL _ | exact goodLL _ | (focus (simp [goodL, oneA, AV.cells]; done)) | skip))
      | ((with_reducible refine (act_append 2 rfl sl22 sz3 by3 zr3 rfl ?_ ?_ ?_ (fun tk => ?_))); (first | exact goodI _ | rfl | exact goodSL _ | exact goodLL _ | (focus (simp [goodL, oneA, AV.cells]; done)) | skip))
      | ((with_reducible refine actC_mk (act_append_nil (sz := 2) (by decide) ?_)))
      | ((with_reducible refine actC_mk (act_append_src_nil (sz := 2) (by decide) ?_)))
      | ((with_reducible refine actC_mk (act_append 0 rfl sl24 sz36 by36 zr36 rfl ?_ ?_ ?_ (fun tk => ?_))); (first | exact goodI _ | rfl | exact goodSL _ | exact goodLL _ | (focus (simp [goodL, oneA, AV.cells]; done)) | skip))
      | ((with_reducible refine (act_append 0 rfl sl24 sz36 by36 zr36 rfl ?_ ?_ ?_ (fun tk => ?_))); (first | exact goodI _ | rfl | exact goodSL _ | exact goodLL _ | (focus (simp [goodL, oneA, AV.cells]; done)) | skip))
      | ((with_reducible refine actC_mk (act_append 1 rfl sl24 sz36 by36 zr36 rfl ?_ ?_ ?_ (fun tk => ?_))); (first | exact goodI _ | rfl | exact goodSL _ | exact goodLL _ | (focus (simp [goodL, oneA, AV.cells]; done)) | skip))
      | ((with_reducible refine (act_append 1 rfl sl24 sz36 by36 zr36 rfl ?_ ?_ ?_ (fun tk => ?_))); (first | exact goodI _ | rfl | exact goodSL _ | exact goodLL _ | (focus (simp [goodL, oneA, AV.cells]; done)) | skip))
      | ((with_reducible refine actC_mk (act_append 2 rfl sl24 sz36 by36 zr36 rfl ?_ ?_ ?_ (fun tk => ?_))); (first | exact goodI _ | rfl | exact goodSL _ | exact goodLL _ | (focus (simp [goodL, oneA, AV.cells]; done)) | skip))
      | ((with_reducible refine (act_append 2 rfl sl24 sz36 by36 zr36 rfl ?_ ?_ ?_ (fun tk => ?_))); (first | exact goodI _ | rfl | exact goodSL _ | exact goodLL _ | (focus (simp [goodL, oneA, AV.cells]; done)) | skip))
      | ((with_reducible refine wk_bslice sl22 sz3 zr3 (by decide) (by decide) (by decide) (by decide) rfl ?_ ?_ ?_); (first | exact goodI _ | rfl | exact goodSL _ | exact goodLL _ | (focus (simp [goodL, oneA, AV.cells]; done))); (all_goals first | (intro x hx; simp at hx; first | (subst hx; rfl) | (rcases hx with rfl | rfl <;> rfl) | (rcases hx with rfl | rfl | rfl <;> rfl) | (repeat (rcases hx with rfl | hx <;> try rfl))) | skip))
      | ((with_reducible refine wk_bslice sl33 sz22 zr22 (by decide) (by decide) (by decide) (by decide) rfl ?_ ?_ ?_); (first | exact goodI _ | rfl | exact goodSL _ | exact goodLL _ | (focus (simp [goodL, oneA, AV.cells]; done))); (all_goals first | (intro x hx; simp at hx; first | (subst hx; rfl) | (rcases hx with rfl | rfl <;> rfl) | (rcases hx with rfl | rfl | rfl <;> rfl) | (repeat (rcases hx with rfl | hx <;> try rfl))) | skip))
      | ( refine callD_mk (rLinesO (by omega) (fun tka => ?_)))
      | (with_reducible refine callD_q (alive3 isR_mk) ?_)
      | (with_reducible refine callD_mk (alive3 ?_))
      | (with_reducible refine callD_q (lRead ?_ isR_mk) ?_)
      | (with_reducible refine callD_mk (lRead ?_ ?_))
      | (with_reducible refine callD_q (rLines ?_ isR_mk) ?_)
      | (with_reducible refine callD_mk (rLines ?_ ?_))
      | (with_reducible refine callD_q (num3 isR_mk) ?_)
      | (with_reducible refine callD_mk (num3 ?_))
      | (with_reducible refine callD_q (sameLines ?_ ?_ isR_mk) ?_)
      | (with_reducible refine callD_mk (sameLines ?_ ?_ ?_))
      | ((with_reducible refine AW_phE (id := 10) [0, 2, 3, 4, 5, 7] (some 1) [([], some 6), ([], some 8), ([9, 10, 11, 12, 13, 14], none)] (fun _ => True) trivial mixed ?_ ?_); kernel_rfl)
      | ((with_reducible apply phE_intro); intro σq hq)
      | (with_reducible exact isT_mk)
      | ((with_reducible apply phC_ops); rfl; rfl)
      | (with_reducible refine phQ_mk trivial ?_)
      | (with_reducible refine dmQ_mk ?_)
      | (with_reducible refine nilTC_pos (by simp; omega) ?_)
      | (with_reducible refine nilTC_split (fun h => ?_) (fun h bn => ?_) <;> (try simp only [List.length_map] at h))
      | (with_reducible refine grd_cases (fun h => ?_) (fun h => ?_) <;> (try simp only [h]) <;> (try simp only [beq_iff_eq, beq_eq_false_iff_ne, bne_iff_ne, bne_eq_false_iff_eq, decide_eq_true_eq, decide_eq_false_iff_not, Bool.not_eq_true', Bool.not_eq_false', Bool.not_true, Bool.not_false, Bool.not_eq_eq_eq_not, ne_eq, Int.not_lt, Int.not_le, gt_iff_lt, ge_iff_le, Decidable.not_not] at h))
      | (with_reducible refine condC_split (fun h => ?_) (fun h => ?_) <;> (try simp only [h]) <;> (try simp only [beq_iff_eq, beq_eq_false_iff_ne, bne_iff_ne, bne_eq_false_iff_eq, decide_eq_true_eq, decide_eq_false_iff_not, Bool.not_eq_true', Bool.not_eq_false', Bool.not_true, Bool.not_false, Bool.not_eq_eq_eq_not, ne_eq, Int.not_lt, Int.not_le, gt_iff_lt, ge_iff_le, Decidable.not_not] at h))
      | omega | (simp only [List.length_append, List.length_map, List.length_cons, List.length_nil, List.length_drop, List.length_take, List.length_replicate]; omega) | (refine maxLen_ok ?_; (first | omega | (simp only [List.length_append, List.length_map, List.length_cons, List.length_nil, List.length_drop, List.length_take, List.length_replicate]; omega))))
    all_goals first
      | exact leafLaw rfl
      | (intro x hx; have := hs5 x hx; omega)
      | (have hp2 := hp (fun h => (by cases h)) (by omega) (by rw [← e1 (by omega)]; assumption) (by rw [← e1 (by omega)]; assumption) (by assumption) (by assumption)
         first | exact leafLaw (decide_eq_true (by rw [hp2])) | (rename_i h; rw [hp2] at h; exact absurd rfl h))
  ·
    have hs : ∀ tk, AV.sl 1 (some tk) (a.map (fun n => I n) ++ [AV.raw (Value.int IntKind.i64 13)] ++ b.map (fun n => I n)) = SI (some tk) (a ++ [13] ++ b) := fun tk => by simp [SI, I]
    have hs2 : (a ++ [13] ++ b).length ≤ 2097154 := by simp; omega
    have hs4 := readR_len (a ++ [13] ++ b)
    have hs5 := readR_each (a ++ [13] ++ b)
    have hp := fun hb h0 hl hl2 ha hb2 => readR_parts (a := a) (b := b) (e := [13]) (.inr (.inl rfl)) hb h0 hl hl2 ha hb2
    refine ACallF.dropL (ACallF_intro Try.func4 rfl ?_)
    simp only [Try.ntmps4]
    repeat' (first
      | simp only [WL, intF, strF, List.toList_toArray, List.set_cons_succ, List.set_cons_zero, List.getD_cons_succ, List.getD_cons_zero, List.getElem?_cons_succ, List.getElem?_cons_zero, List.length_cons, List.length_nil, List.replicate_succ, List.replicate_zero, List.cons_append, List.nil_append, List.append_nil, List.map_cons, List.map_nil, Option.bind_some, Option.map_some, Option.map_none, List.drop_succ_cons, List.drop_zero, List.take_succ_cons, List.take_zero, ← List.map_take, ← List.map_drop, List.take_length, Int.reduceToNat, ne_eq, reduceCtorEq, not_false_eq_true, Nat.reduceAdd, Nat.reduceSub, Nat.reduceLT, Nat.reduceLeDiff, Nat.reduceEqDiff, Nat.zero_lt_succ, Bool.not_true, Bool.not_false, beq_self_eq_true, true_and, and_true, Option.isSome_some, Option.isSome_none, reduceIte, Int.toNat_natCast, Bool.false_eq_true, List.length_map, Nat.le_refl, Option.some.injEq, exists_eq_left', Nat.add_right_cancel_iff, List.take_nil, List.drop_nil, T3, T4, T22, T24, T25, T33, T36, cok16, cok17, cok18, cok19, cok20, Try.results4, hs, hs3]
      | (simp (disch := first | omega | (simp only [List.length_append, List.length_map, List.length_cons, List.length_nil, List.length_drop, List.length_take, List.length_replicate]; omega)) only [wrap_id, getI])
      | (with_reducible refine And.intro (by first | omega | exact ⟨_, rfl⟩ | (focus (simp; done)) | (simp; omega)) ?_)
      | ((with_reducible apply wk_load (ty := 3) (ha := ag3) 0); rfl; rfl)
      | ((with_reducible apply wk_load (ty := 3) (ha := ag3) 1); rfl; rfl)
      | ((with_reducible apply wk_load (ty := 22) (ha := ag22) 0); rfl; rfl)
      | ((with_reducible apply wk_load (ty := 22) (ha := ag22) 1); rfl; rfl)
      | ((with_reducible refine actC_mk (act_append_nil (sz := 1) (by decide) ?_)))
      | ((with_reducible refine actC_mk (act_append_src_nil (sz := 1) (by decide) ?_)))
      | ((with_reducible refine actC_mk (act_append 0 rfl sl22 sz3 by3 zr3 rfl ?_ ?_ ?_ (fun tk => ?_))); (first | exact goodI _ | rfl | exact goodSL _ | exact goodLL _ | (focus (simp [goodL, oneA, AV.cells]; done)) | skip))
      | ((with_reducible refine (act_append 0 rfl sl22 sz3 by3 zr3 rfl ?_ ?_ ?_ (fun tk => ?_))); (first | exact goodI _ | rfl | exact goodSL _ | exact goodLL _ | (focus (simp [goodL, oneA, AV.cells]; done)) | skip))
      | ((with_reducible refine actC_mk (act_append 1 rfl sl22 sz3 by3 zr3 rfl ?_ ?_ ?_ (fun tk => ?_))); (first | exact goodI _ | rfl | exact goodSL _ | exact goodLL _ | (focus (simp [goodL, oneA, AV.cells]; done)) | skip))
      | ((with_reducible refine (act_append 1 rfl sl22 sz3 by3 zr3 rfl ?_ ?_ ?_ (fun tk => ?_))); (first | exact goodI _ | rfl | exact goodSL _ | exact goodLL _ | (focus (simp [goodL, oneA, AV.cells]; done)) | skip))
      | ((with_reducible refine actC_mk (act_append 2 rfl sl22 sz3 by3 zr3 rfl ?_ ?_ ?_ (fun tk => ?_))); (first | exact goodI _ | rfl | exact goodSL _ | exact goodLL _ | (focus (simp [goodL, oneA, AV.cells]; done)) | skip))
      | ((with_reducible refine (act_append 2 rfl sl22 sz3 by3 zr3 rfl ?_ ?_ ?_ (fun tk => ?_))); (first | exact goodI _ | rfl | exact goodSL _ | exact goodLL _ | (focus (simp [goodL, oneA, AV.cells]; done)) | skip))
      | ((with_reducible refine actC_mk (act_append_nil (sz := 2) (by decide) ?_)))
      | ((with_reducible refine actC_mk (act_append_src_nil (sz := 2) (by decide) ?_)))
      | ((with_reducible refine actC_mk (act_append 0 rfl sl24 sz36 by36 zr36 rfl ?_ ?_ ?_ (fun tk => ?_))); (first | exact goodI _ | rfl | exact goodSL _ | exact goodLL _ | (focus (simp [goodL, oneA, AV.cells]; done)) | skip))
      | ((with_reducible refine (act_append 0 rfl sl24 sz36 by36 zr36 rfl ?_ ?_ ?_ (fun tk => ?_))); (first | exact goodI _ | rfl | exact goodSL _ | exact goodLL _ | (focus (simp [goodL, oneA, AV.cells]; done)) | skip))
      | ((with_reducible refine actC_mk (act_append 1 rfl sl24 sz36 by36 zr36 rfl ?_ ?_ ?_ (fun tk => ?_))); (first | exact goodI _ | rfl | exact goodSL _ | exact goodLL _ | (focus (simp [goodL, oneA, AV.cells]; done)) | skip))
      | ((with_reducible refine (act_append 1 rfl sl24 sz36 by36 zr36 rfl ?_ ?_ ?_ (fun tk => ?_))); (first | exact goodI _ | rfl | exact goodSL _ | exact goodLL _ | (focus (simp [goodL, oneA, AV.cells]; done)) | skip))
      | ((with_reducible refine actC_mk (act_append 2 rfl sl24 sz36 by36 zr36 rfl ?_ ?_ ?_ (fun tk => ?_))); (first | exact goodI _ | rfl | exact goodSL _ | exact goodLL _ | (focus (simp [goodL, oneA, AV.cells]; done)) | skip))
      | ((with_reducible refine (act_append 2 rfl sl24 sz36 by36 zr36 rfl ?_ ?_ ?_ (fun tk => ?_))); (first | exact goodI _ | rfl | exact goodSL _ | exact goodLL _ | (focus (simp [goodL, oneA, AV.cells]; done)) | skip))
      | ((with_reducible refine wk_bslice sl22 sz3 zr3 (by decide) (by decide) (by decide) (by decide) rfl ?_ ?_ ?_); (first | exact goodI _ | rfl | exact goodSL _ | exact goodLL _ | (focus (simp [goodL, oneA, AV.cells]; done))); (all_goals first | (intro x hx; simp at hx; first | (subst hx; rfl) | (rcases hx with rfl | rfl <;> rfl) | (rcases hx with rfl | rfl | rfl <;> rfl) | (repeat (rcases hx with rfl | hx <;> try rfl))) | skip))
      | ((with_reducible refine wk_bslice sl33 sz22 zr22 (by decide) (by decide) (by decide) (by decide) rfl ?_ ?_ ?_); (first | exact goodI _ | rfl | exact goodSL _ | exact goodLL _ | (focus (simp [goodL, oneA, AV.cells]; done))); (all_goals first | (intro x hx; simp at hx; first | (subst hx; rfl) | (rcases hx with rfl | rfl <;> rfl) | (rcases hx with rfl | rfl | rfl <;> rfl) | (repeat (rcases hx with rfl | hx <;> try rfl))) | skip))
      | ( refine callD_mk (rLinesO (by omega) (fun tka => ?_)))
      | (with_reducible refine callD_q (alive3 isR_mk) ?_)
      | (with_reducible refine callD_mk (alive3 ?_))
      | (with_reducible refine callD_q (lRead ?_ isR_mk) ?_)
      | (with_reducible refine callD_mk (lRead ?_ ?_))
      | (with_reducible refine callD_q (rLines ?_ isR_mk) ?_)
      | (with_reducible refine callD_mk (rLines ?_ ?_))
      | (with_reducible refine callD_q (num3 isR_mk) ?_)
      | (with_reducible refine callD_mk (num3 ?_))
      | (with_reducible refine callD_q (sameLines ?_ ?_ isR_mk) ?_)
      | (with_reducible refine callD_mk (sameLines ?_ ?_ ?_))
      | ((with_reducible refine AW_phE (id := 10) [0, 2, 3, 4, 5, 7] (some 1) [([], some 6), ([], some 8), ([9, 10, 11, 12, 13, 14], none)] (fun _ => True) trivial mixed ?_ ?_); kernel_rfl)
      | ((with_reducible apply phE_intro); intro σq hq)
      | (with_reducible exact isT_mk)
      | ((with_reducible apply phC_ops); rfl; rfl)
      | (with_reducible refine phQ_mk trivial ?_)
      | (with_reducible refine dmQ_mk ?_)
      | (with_reducible refine nilTC_pos (by simp; omega) ?_)
      | (with_reducible refine nilTC_split (fun h => ?_) (fun h bn => ?_) <;> (try simp only [List.length_map] at h))
      | (with_reducible refine grd_cases (fun h => ?_) (fun h => ?_) <;> (try simp only [h]) <;> (try simp only [beq_iff_eq, beq_eq_false_iff_ne, bne_iff_ne, bne_eq_false_iff_eq, decide_eq_true_eq, decide_eq_false_iff_not, Bool.not_eq_true', Bool.not_eq_false', Bool.not_true, Bool.not_false, Bool.not_eq_eq_eq_not, ne_eq, Int.not_lt, Int.not_le, gt_iff_lt, ge_iff_le, Decidable.not_not] at h))
      | (with_reducible refine condC_split (fun h => ?_) (fun h => ?_) <;> (try simp only [h]) <;> (try simp only [beq_iff_eq, beq_eq_false_iff_ne, bne_iff_ne, bne_eq_false_iff_eq, decide_eq_true_eq, decide_eq_false_iff_not, Bool.not_eq_true', Bool.not_eq_false', Bool.not_true, Bool.not_false, Bool.not_eq_eq_eq_not, ne_eq, Int.not_lt, Int.not_le, gt_iff_lt, ge_iff_le, Decidable.not_not] at h))
      | omega | (simp only [List.length_append, List.length_map, List.length_cons, List.length_nil, List.length_drop, List.length_take, List.length_replicate]; omega) | (refine maxLen_ok ?_; (first | omega | (simp only [List.length_append, List.length_map, List.length_cons, List.length_nil, List.length_drop, List.length_take, List.length_replicate]; omega))))
    all_goals first
      | exact leafLaw rfl
      | (intro x hx; have := hs5 x hx; omega)
      | (have hp2 := hp (fun _ h => by first | (rename_i h9; exact h9 h.2) | omega) (by omega) (by rw [← e1 (by omega)]; assumption) (by rw [← e1 (by omega)]; assumption) (by assumption) (by assumption)
         first | exact leafLaw (decide_eq_true (by rw [hp2])) | (rename_i h; rw [hp2] at h; exact absurd rfl h))
  ·
    have hs : ∀ tk, AV.sl 1 (some tk) (a.map (fun n => I n) ++ [AV.raw (Value.int IntKind.i64 13), AV.raw (Value.int IntKind.i64 10)] ++ b.map (fun n => I n)) = SI (some tk) (a ++ [13, 10] ++ b) := fun tk => by simp [SI, I]
    have hs2 : (a ++ [13, 10] ++ b).length ≤ 2097154 := by simp; omega
    have hs4 := readR_len (a ++ [13, 10] ++ b)
    have hs5 := readR_each (a ++ [13, 10] ++ b)
    have hp := fun hb h0 hl hl2 ha hb2 => readR_parts (a := a) (b := b) (e := [13, 10]) (.inr (.inr rfl)) hb h0 hl hl2 ha hb2
    refine ACallF.dropL (ACallF_intro Try.func4 rfl ?_)
    simp only [Try.ntmps4]
    repeat' (first
      | simp only [WL, intF, strF, List.toList_toArray, List.set_cons_succ, List.set_cons_zero, List.getD_cons_succ, List.getD_cons_zero, List.getElem?_cons_succ, List.getElem?_cons_zero, List.length_cons, List.length_nil, List.replicate_succ, List.replicate_zero, List.cons_append, List.nil_append, List.append_nil, List.map_cons, List.map_nil, Option.bind_some, Option.map_some, Option.map_none, List.drop_succ_cons, List.drop_zero, List.take_succ_cons, List.take_zero, ← List.map_take, ← List.map_drop, List.take_length, Int.reduceToNat, ne_eq, reduceCtorEq, not_false_eq_true, Nat.reduceAdd, Nat.reduceSub, Nat.reduceLT, Nat.reduceLeDiff, Nat.reduceEqDiff, Nat.zero_lt_succ, Bool.not_true, Bool.not_false, beq_self_eq_true, true_and, and_true, Option.isSome_some, Option.isSome_none, reduceIte, Int.toNat_natCast, Bool.false_eq_true, List.length_map, Nat.le_refl, Option.some.injEq, exists_eq_left', Nat.add_right_cancel_iff, List.take_nil, List.drop_nil, T3, T4, T22, T24, T25, T33, T36, cok16, cok17, cok18, cok19, cok20, Try.results4, hs, hs3]
      | (simp (disch := first | omega | (simp only [List.length_append, List.length_map, List.length_cons, List.length_nil, List.length_drop, List.length_take, List.length_replicate]; omega)) only [wrap_id, getI])
      | (with_reducible refine And.intro (by first | omega | exact ⟨_, rfl⟩ | (focus (simp; done)) | (simp; omega)) ?_)
      | ((with_reducible apply wk_load (ty := 3) (ha := ag3) 0); rfl; rfl)
      | ((with_reducible apply wk_load (ty := 3) (ha := ag3) 1); rfl; rfl)
      | ((with_reducible apply wk_load (ty := 22) (ha := ag22) 0); rfl; rfl)
      | ((with_reducible apply wk_load (ty := 22) (ha := ag22) 1); rfl; rfl)
      | ((with_reducible refine actC_mk (act_append_nil (sz := 1) (by decide) ?_)))
      | ((with_reducible refine actC_mk (act_append_src_nil (sz := 1) (by decide) ?_)))
      | ((with_reducible refine actC_mk (act_append 0 rfl sl22 sz3 by3 zr3 rfl ?_ ?_ ?_ (fun tk => ?_))); (first | exact goodI _ | rfl | exact goodSL _ | exact goodLL _ | (focus (simp [goodL, oneA, AV.cells]; done)) | skip))
      | ((with_reducible refine (act_append 0 rfl sl22 sz3 by3 zr3 rfl ?_ ?_ ?_ (fun tk => ?_))); (first | exact goodI _ | rfl | exact goodSL _ | exact goodLL _ | (focus (simp [goodL, oneA, AV.cells]; done)) | skip))
      | ((with_reducible refine actC_mk (act_append 1 rfl sl22 sz3 by3 zr3 rfl ?_ ?_ ?_ (fun tk => ?_))); (first | exact goodI _ | rfl | exact goodSL _ | exact goodLL _ | (focus (simp [goodL, oneA, AV.cells]; done)) | skip))
      | ((with_reducible refine (act_append 1 rfl sl22 sz3 by3 zr3 rfl ?_ ?_ ?_ (fun tk => ?_))); (first | exact goodI _ | rfl | exact goodSL _ | exact goodLL _ | (focus (simp [goodL, oneA, AV.cells]; done)) | skip))
      | ((with_reducible refine actC_mk (act_append 2 rfl sl22 sz3 by3 zr3 rfl ?_ ?_ ?_ (fun tk => ?_))); (first | exact goodI _ | rfl | exact goodSL _ | exact goodLL _ | (focus (simp [goodL, oneA, AV.cells]; done)) | skip))
      | ((with_reducible refine (act_append 2 rfl sl22 sz3 by3 zr3 rfl ?_ ?_ ?_ (fun tk => ?_))); (first | exact goodI _ | rfl | exact goodSL _ | exact goodLL _ | (focus (simp [goodL, oneA, AV.cells]; done)) | skip))
      | ((with_reducible refine actC_mk (act_append_nil (sz := 2) (by decide) ?_)))
      | ((with_reducible refine actC_mk (act_append_src_nil (sz := 2) (by decide) ?_)))
      | ((with_reducible refine actC_mk (act_append 0 rfl sl24 sz36 by36 zr36 rfl ?_ ?_ ?_ (fun tk => ?_))); (first | exact goodI _ | rfl | exact goodSL _ | exact goodLL _ | (focus (simp [goodL, oneA, AV.cells]; done)) | skip))
      | ((with_reducible refine (act_append 0 rfl sl24 sz36 by36 zr36 rfl ?_ ?_ ?_ (fun tk => ?_))); (first | exact goodI _ | rfl | exact goodSL _ | exact goodLL _ | (focus (simp [goodL, oneA, AV.cells]; done)) | skip))
      | ((with_reducible refine actC_mk (act_append 1 rfl sl24 sz36 by36 zr36 rfl ?_ ?_ ?_ (fun tk => ?_))); (first | exact goodI _ | rfl | exact goodSL _ | exact goodLL _ | (focus (simp [goodL, oneA, AV.cells]; done)) | skip))
      | ((with_reducible refine (act_append 1 rfl sl24 sz36 by36 zr36 rfl ?_ ?_ ?_ (fun tk => ?_))); (first | exact goodI _ | rfl | exact goodSL _ | exact goodLL _ | (focus (simp [goodL, oneA, AV.cells]; done)) | skip))
      | ((with_reducible refine actC_mk (act_append 2 rfl sl24 sz36 by36 zr36 rfl ?_ ?_ ?_ (fun tk => ?_))); (first | exact goodI _ | rfl | exact goodSL _ | exact goodLL _ | (focus (simp [goodL, oneA, AV.cells]; done)) | skip))
      | ((with_reducible refine (act_append 2 rfl sl24 sz36 by36 zr36 rfl ?_ ?_ ?_ (fun tk => ?_))); (first | exact goodI _ | rfl | exact goodSL _ | exact goodLL _ | (focus (simp [goodL, oneA, AV.cells]; done)) | skip))
      | ((with_reducible refine wk_bslice sl22 sz3 zr3 (by decide) (by decide) (by decide) (by decide) rfl ?_ ?_ ?_); (first | exact goodI _ | rfl | exact goodSL _ | exact goodLL _ | (focus (simp [goodL, oneA, AV.cells]; done))); (all_goals first | (intro x hx; simp at hx; first | (subst hx; rfl) | (rcases hx with rfl | rfl <;> rfl) | (rcases hx with rfl | rfl | rfl <;> rfl) | (repeat (rcases hx with rfl | hx <;> try rfl))) | skip))
      | ((with_reducible refine wk_bslice sl33 sz22 zr22 (by decide) (by decide) (by decide) (by decide) rfl ?_ ?_ ?_); (first | exact goodI _ | rfl | exact goodSL _ | exact goodLL _ | (focus (simp [goodL, oneA, AV.cells]; done))); (all_goals first | (intro x hx; simp at hx; first | (subst hx; rfl) | (rcases hx with rfl | rfl <;> rfl) | (rcases hx with rfl | rfl | rfl <;> rfl) | (repeat (rcases hx with rfl | hx <;> try rfl))) | skip))
      | ( refine callD_mk (rLinesO (by omega) (fun tka => ?_)))
      | (with_reducible refine callD_q (alive3 isR_mk) ?_)
      | (with_reducible refine callD_mk (alive3 ?_))
      | (with_reducible refine callD_q (lRead ?_ isR_mk) ?_)
      | (with_reducible refine callD_mk (lRead ?_ ?_))
      | (with_reducible refine callD_q (rLines ?_ isR_mk) ?_)
      | (with_reducible refine callD_mk (rLines ?_ ?_))
      | (with_reducible refine callD_q (num3 isR_mk) ?_)
      | (with_reducible refine callD_mk (num3 ?_))
      | (with_reducible refine callD_q (sameLines ?_ ?_ isR_mk) ?_)
      | (with_reducible refine callD_mk (sameLines ?_ ?_ ?_))
      | ((with_reducible refine AW_phE (id := 10) [0, 2, 3, 4, 5, 7] (some 1) [([], some 6), ([], some 8), ([9, 10, 11, 12, 13, 14], none)] (fun _ => True) trivial mixed ?_ ?_); kernel_rfl)
      | ((with_reducible apply phE_intro); intro σq hq)
      | (with_reducible exact isT_mk)
      | ((with_reducible apply phC_ops); rfl; rfl)
      | (with_reducible refine phQ_mk trivial ?_)
      | (with_reducible refine dmQ_mk ?_)
      | (with_reducible refine nilTC_pos (by simp; omega) ?_)
      | (with_reducible refine nilTC_split (fun h => ?_) (fun h bn => ?_) <;> (try simp only [List.length_map] at h))
      | (with_reducible refine grd_cases (fun h => ?_) (fun h => ?_) <;> (try simp only [h]) <;> (try simp only [beq_iff_eq, beq_eq_false_iff_ne, bne_iff_ne, bne_eq_false_iff_eq, decide_eq_true_eq, decide_eq_false_iff_not, Bool.not_eq_true', Bool.not_eq_false', Bool.not_true, Bool.not_false, Bool.not_eq_eq_eq_not, ne_eq, Int.not_lt, Int.not_le, gt_iff_lt, ge_iff_le, Decidable.not_not] at h))
      | (with_reducible refine condC_split (fun h => ?_) (fun h => ?_) <;> (try simp only [h]) <;> (try simp only [beq_iff_eq, beq_eq_false_iff_ne, bne_iff_ne, bne_eq_false_iff_eq, decide_eq_true_eq, decide_eq_false_iff_not, Bool.not_eq_true', Bool.not_eq_false', Bool.not_true, Bool.not_false, Bool.not_eq_eq_eq_not, ne_eq, Int.not_lt, Int.not_le, gt_iff_lt, ge_iff_le, Decidable.not_not] at h))
      | omega | (simp only [List.length_append, List.length_map, List.length_cons, List.length_nil, List.length_drop, List.length_take, List.length_replicate]; omega) | (refine maxLen_ok ?_; (first | omega | (simp only [List.length_append, List.length_map, List.length_cons, List.length_nil, List.length_drop, List.length_take, List.length_replicate]; omega))))
    all_goals first
      | exact leafLaw rfl
      | (intro x hx; have := hs5 x hx; omega)
      | (have hp2 := hp (fun h => (by cases h)) (by omega) (by rw [← e1 (by omega)]; assumption) (by rw [← e1 (by omega)]; assumption) (by assumption) (by assumption)
         first | exact leafLaw (decide_eq_true (by rw [hp2])) | (rename_i h; rw [hp2] at h; exact absurd rfl h))
  ·
    refine ACallF.dropL (ACallF_intro Try.func4 rfl ?_)
    simp only [Try.ntmps4]
    repeat' (first
      | simp only [WL, intF, strF, List.toList_toArray, List.set_cons_succ, List.set_cons_zero, List.getD_cons_succ, List.getD_cons_zero, List.getElem?_cons_succ, List.getElem?_cons_zero, List.length_cons, List.length_nil, List.replicate_succ, List.replicate_zero, List.cons_append, List.nil_append, List.append_nil, List.map_cons, List.map_nil, Option.bind_some, Option.map_some, Option.map_none, List.drop_succ_cons, List.drop_zero, List.take_succ_cons, List.take_zero, ← List.map_take, ← List.map_drop, List.take_length, Int.reduceToNat, ne_eq, reduceCtorEq, not_false_eq_true, Nat.reduceAdd, Nat.reduceSub, Nat.reduceLT, Nat.reduceLeDiff, Nat.reduceEqDiff, Nat.zero_lt_succ, Bool.not_true, Bool.not_false, beq_self_eq_true, true_and, and_true, Option.isSome_some, Option.isSome_none, reduceIte, Int.toNat_natCast, Bool.false_eq_true, List.length_map, Nat.le_refl, Option.some.injEq, exists_eq_left', Nat.add_right_cancel_iff, List.take_nil, List.drop_nil, T3, T4, T22, T24, T25, T33, T36, cok16, cok17, cok18, cok19, cok20, Try.results4]
      | (simp (disch := first | omega | (simp only [List.length_append, List.length_map, List.length_cons, List.length_nil, List.length_drop, List.length_take, List.length_replicate]; omega)) only [wrap_id, getI])
      | (with_reducible refine And.intro (by first | omega | exact ⟨_, rfl⟩ | (focus (simp; done)) | (simp; omega)) ?_)
      | ((with_reducible apply wk_load (ty := 3) (ha := ag3) 0); rfl; rfl)
      | ((with_reducible apply wk_load (ty := 3) (ha := ag3) 1); rfl; rfl)
      | ((with_reducible apply wk_load (ty := 22) (ha := ag22) 0); rfl; rfl)
      | ((with_reducible apply wk_load (ty := 22) (ha := ag22) 1); rfl; rfl)
      | ((with_reducible refine actC_mk (act_append_nil (sz := 1) (by decide) ?_)))
      | ((with_reducible refine actC_mk (act_append_src_nil (sz := 1) (by decide) ?_)))
      | ((with_reducible refine actC_mk (act_append 0 rfl sl22 sz3 by3 zr3 rfl ?_ ?_ ?_ (fun tk => ?_))); (first | exact goodI _ | rfl | exact goodSL _ | exact goodLL _ | (focus (simp [goodL, oneA, AV.cells]; done)) | skip))
      | ((with_reducible refine (act_append 0 rfl sl22 sz3 by3 zr3 rfl ?_ ?_ ?_ (fun tk => ?_))); (first | exact goodI _ | rfl | exact goodSL _ | exact goodLL _ | (focus (simp [goodL, oneA, AV.cells]; done)) | skip))
      | ((with_reducible refine actC_mk (act_append 1 rfl sl22 sz3 by3 zr3 rfl ?_ ?_ ?_ (fun tk => ?_))); (first | exact goodI _ | rfl | exact goodSL _ | exact goodLL _ | (focus (simp [goodL, oneA, AV.cells]; done)) | skip))
      | ((with_reducible refine (act_append 1 rfl sl22 sz3 by3 zr3 rfl ?_ ?_ ?_ (fun tk => ?_))); (first | exact goodI _ | rfl | exact goodSL _ | exact goodLL _ | (focus (simp [goodL, oneA, AV.cells]; done)) | skip))
      | ((with_reducible refine actC_mk (act_append 2 rfl sl22 sz3 by3 zr3 rfl ?_ ?_ ?_ (fun tk => ?_))); (first | exact goodI _ | rfl | exact goodSL _ | exact goodLL _ | (focus (simp [goodL, oneA, AV.cells]; done)) | skip))
      | ((with_reducible refine (act_append 2 rfl sl22 sz3 by3 zr3 rfl ?_ ?_ ?_ (fun tk => ?_))); (first | exact goodI _ | rfl | exact goodSL _ | exact goodLL _ | (focus (simp [goodL, oneA, AV.cells]; done)) | skip))
      | ((with_reducible refine actC_mk (act_append_nil (sz := 2) (by decide) ?_)))
      | ((with_reducible refine actC_mk (act_append_src_nil (sz := 2) (by decide) ?_)))
      | ((with_reducible refine actC_mk (act_append 0 rfl sl24 sz36 by36 zr36 rfl ?_ ?_ ?_ (fun tk => ?_))); (first | exact goodI _ | rfl | exact goodSL _ | exact goodLL _ | (focus (simp [goodL, oneA, AV.cells]; done)) | skip))
      | ((with_reducible refine (act_append 0 rfl sl24 sz36 by36 zr36 rfl ?_ ?_ ?_ (fun tk => ?_))); (first | exact goodI _ | rfl | exact goodSL _ | exact goodLL _ | (focus (simp [goodL, oneA, AV.cells]; done)) | skip))
      | ((with_reducible refine actC_mk (act_append 1 rfl sl24 sz36 by36 zr36 rfl ?_ ?_ ?_ (fun tk => ?_))); (first | exact goodI _ | rfl | exact goodSL _ | exact goodLL _ | (focus (simp [goodL, oneA, AV.cells]; done)) | skip))
      | ((with_reducible refine (act_append 1 rfl sl24 sz36 by36 zr36 rfl ?_ ?_ ?_ (fun tk => ?_))); (first | exact goodI _ | rfl | exact goodSL _ | exact goodLL _ | (focus (simp [goodL, oneA, AV.cells]; done)) | skip))
      | ((with_reducible refine actC_mk (act_append 2 rfl sl24 sz36 by36 zr36 rfl ?_ ?_ ?_ (fun tk => ?_))); (first | exact goodI _ | rfl | exact goodSL _ | exact goodLL _ | (focus (simp [goodL, oneA, AV.cells]; done)) | skip))
      | ((with_reducible refine (act_append 2 rfl sl24 sz36 by36 zr36 rfl ?_ ?_ ?_ (fun tk => ?_))); (first | exact goodI _ | rfl | exact goodSL _ | exact goodLL _ | (focus (simp [goodL, oneA, AV.cells]; done)) | skip))
      | ((with_reducible refine wk_bslice sl22 sz3 zr3 (by decide) (by decide) (by decide) (by decide) rfl ?_ ?_ ?_); (first | exact goodI _ | rfl | exact goodSL _ | exact goodLL _ | (focus (simp [goodL, oneA, AV.cells]; done))); (all_goals first | (intro x hx; simp at hx; first | (subst hx; rfl) | (rcases hx with rfl | rfl <;> rfl) | (rcases hx with rfl | rfl | rfl <;> rfl) | (repeat (rcases hx with rfl | hx <;> try rfl))) | skip))
      | ((with_reducible refine wk_bslice sl33 sz22 zr22 (by decide) (by decide) (by decide) (by decide) rfl ?_ ?_ ?_); (first | exact goodI _ | rfl | exact goodSL _ | exact goodLL _ | (focus (simp [goodL, oneA, AV.cells]; done))); (all_goals first | (intro x hx; simp at hx; first | (subst hx; rfl) | (rcases hx with rfl | rfl <;> rfl) | (rcases hx with rfl | rfl | rfl <;> rfl) | (repeat (rcases hx with rfl | hx <;> try rfl))) | skip))
      | ( refine callD_mk (rLinesO (by omega) (fun tka => ?_)))
      | (with_reducible refine callD_q (alive3 isR_mk) ?_)
      | (with_reducible refine callD_mk (alive3 ?_))
      | (with_reducible refine callD_q (lRead ?_ isR_mk) ?_)
      | (with_reducible refine callD_mk (lRead ?_ ?_))
      | (with_reducible refine callD_q (rLines ?_ isR_mk) ?_)
      | (with_reducible refine callD_mk (rLines ?_ ?_))
      | (with_reducible refine callD_q (num3 isR_mk) ?_)
      | (with_reducible refine callD_mk (num3 ?_))
      | (with_reducible refine callD_q (sameLines ?_ ?_ isR_mk) ?_)
      | (with_reducible refine callD_mk (sameLines ?_ ?_ ?_))
      | ((with_reducible refine AW_phE (id := 10) [0, 2, 3, 4, 5, 7] (some 1) [([], some 6), ([], some 8), ([9, 10, 11, 12, 13, 14], none)] (fun _ => True) trivial mixed ?_ ?_); kernel_rfl)
      | ((with_reducible apply phE_intro); intro σq hq)
      | (with_reducible exact isT_mk)
      | ((with_reducible apply phC_ops); rfl; rfl)
      | (with_reducible refine phQ_mk trivial ?_)
      | (with_reducible refine dmQ_mk ?_)
      | (with_reducible refine nilTC_pos (by simp; omega) ?_)
      | (with_reducible refine nilTC_split (fun h => ?_) (fun h bn => ?_) <;> (try simp only [List.length_map] at h))
      | (with_reducible refine grd_cases (fun h => ?_) (fun h => ?_) <;> (try simp only [h]) <;> (try simp only [beq_iff_eq, beq_eq_false_iff_ne, bne_iff_ne, bne_eq_false_iff_eq, decide_eq_true_eq, decide_eq_false_iff_not, Bool.not_eq_true', Bool.not_eq_false', Bool.not_true, Bool.not_false, Bool.not_eq_eq_eq_not, ne_eq, Int.not_lt, Int.not_le, gt_iff_lt, ge_iff_le, Decidable.not_not] at h))
      | (with_reducible refine condC_split (fun h => ?_) (fun h => ?_) <;> (try simp only [h]) <;> (try simp only [beq_iff_eq, beq_eq_false_iff_ne, bne_iff_ne, bne_eq_false_iff_eq, decide_eq_true_eq, decide_eq_false_iff_not, Bool.not_eq_true', Bool.not_eq_false', Bool.not_true, Bool.not_false, Bool.not_eq_eq_eq_not, ne_eq, Int.not_lt, Int.not_le, gt_iff_lt, ge_iff_le, Decidable.not_not] at h))
      | omega | (simp only [List.length_append, List.length_map, List.length_cons, List.length_nil, List.length_drop, List.length_take, List.length_replicate]; omega) | (refine maxLen_ok ?_; (first | omega | (simp only [List.length_append, List.length_map, List.length_cons, List.length_nil, List.length_drop, List.length_take, List.length_replicate]; omega))))
    all_goals first
      | exact leafLaw rfl
      | omega
end Go.Proofs.Ythepmgdoophoaaa
