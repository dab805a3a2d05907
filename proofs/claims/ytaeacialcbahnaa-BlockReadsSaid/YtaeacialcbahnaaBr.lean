/-
  The law BlockReads.
-/
import Derived.Test.YtaeacialcbahnaaBq
import Derived.Test.YtaeacialcbahnaaSi
namespace Go.Proofs.Ytaeacialcbahnaa
open Go.Abs
set_option linter.unusedVariables false
set_option linter.unusedSimpArgs false
-- hb: 8000000
-- rd: 20000
variable {κ : Ctx} {σ : List Res} {K : Ret → List Res → Prop} {o o' : Option (Option (Nat × Nat))}

def lineOk (x : Ln) : Bool := decide (0 ≤ x.1 ∧ x.1 ≤ 100 ∧ x.2.length ≤ 200 ∧ ¬ (0 < x.2.length ∧ x.2.getD 0 0 = 32)) && mayI x.2
def bigL (l : List Ln) : Bool := !(l.all lineOk) || decide (60 < l.length)
set_option maxHeartbeats 8000000 in
set_option maxRecDepth 20000 in
theorem lineOk_no {x : Ln} (h : x.1 < 0 ∨ 100 < x.1 ∨ 200 < x.2.length ∨ (0 < x.2.length ∧ x.2.getD 0 0 = 32) ∨ mayI x.2 = false) : lineOk x = false := by
  unfold lineOk
  rcases h with h | h | h | h | h
  · rw [decide_eq_false (by omega)]; rfl
  · rw [decide_eq_false (by omega)]; rfl
  · rw [decide_eq_false (by omega)]; rfl
  · rw [decide_eq_false (fun e => e.2.2.2 h)]; rfl
  · rw [h, Bool.and_false]
set_option maxHeartbeats 8000000 in
set_option maxRecDepth 20000 in
theorem lineOk_yes {x : Ln} (h1 : 0 ≤ x.1) (h2 : x.1 ≤ 100) (h3 : x.2.length ≤ 200) (h4 : ¬ (0 < x.2.length ∧ x.2.getD 0 0 = 32)) (h5 : mayI x.2 = true) : lineOk x = true := by
  unfold lineOk
  rw [decide_eq_true ⟨h1, h2, h3, h4⟩, h5]; rfl
set_option maxHeartbeats 8000000 in
set_option maxRecDepth 20000 in
theorem bigL_no {l : List Ln} (h : bigL l = false) : l.length ≤ 60 ∧ ∀ x ∈ l, lineOk x = true := by
  simp only [bigL, Bool.or_eq_false_iff, decide_eq_false_iff_not, Bool.not_eq_false'] at h
  exact ⟨by omega, fun x hx => List.all_eq_true.1 h.1 x hx⟩

set_option maxHeartbeats 8000000 in
set_option maxRecDepth 20000 in
theorem bigL_bad {l : List Ln} {k : Nat} (h : k < l.length) (hx : lineOk (l.getD k (0, [])) = false) : bigL l = true := by
  have hm : l.getD k (0, []) ∈ l := by rw [List.getD_eq_getElem?_getD, List.getElem?_eq_getElem h]; exact List.getElem_mem h
  have : l.all lineOk = false := by
    cases e : l.all lineOk
    · rfl
    · rw [List.all_eq_true.1 e _ hm] at hx; cases hx
  rw [bigL, this]; rfl
set_option maxHeartbeats 8000000 in
set_option maxRecDepth 20000 in
theorem bigL_end {l : List Ln} {k : Nat} (h : l.length ≤ k) (hb : ∀ j, j < k → lineOk (l.getD j (0, [])) = true) : bigL l = decide (60 < l.length) := by
  have : l.all lineOk = true := List.all_eq_true.2 fun x hx => by
    obtain ⟨j, hj, rfl⟩ := List.getElem_of_mem hx
    have := hb j (by omega)
    rwa [List.getD_eq_getElem?_getD, List.getElem?_eq_getElem hj] at this
  rw [bigL, this]; rfl

-- marginalialaw10.Big
set_option maxHeartbeats 8000000 in
set_option maxRecDepth 20000 in
theorem lBig {l : List Ln} (hl : l.length ≤ maxLen) (hK : K (.ret (B (bigL l))) σ) : ACallF κ Try.prog 31 [SL o l] σ K := by
  unfold maxLen at hl
  refine ACallF.dropL (ACallF_introA Try.func31 rfl ?_)
  simp only [Try.ntmps31]
  repeat' (first
    | (with_reducible refine AW_seqA (AW_block ?_)) | (with_reducible refine AW_block ?_) | (with_reducible refine cut_seqloop ?_) | (with_reducible refine cut_loop ?_) | (with_reducible refine AW_seqA (AW_seqA ?_)) | (with_reducible refine AW_seq ?_) | (with_reducible refine AW_runReg ?_) | (with_reducible refine AW_runCond ?_) | (with_reducible refine AW_runExit ?_) | (with_reducible refine AW_runRet ?_) | (with_reducible refine AW_runSkip ?_) | (with_reducible refine AW_runLabel ?_)
    | simp only [WL, intF, strF, List.toList_toArray, List.set_cons_succ, List.set_cons_zero, List.getD_cons_succ, List.getD_cons_zero, List.getElem?_cons_succ, List.getElem?_cons_zero, List.length_cons, List.length_nil, List.replicate_succ, List.replicate_zero, List.cons_append, List.nil_append, List.append_nil, List.map_cons, List.map_nil, Option.bind_some, Option.map_some, Option.map_none, List.drop_succ_cons, List.drop_zero, List.take_succ_cons, List.take_zero, ← List.map_take, ← List.map_drop, List.take_length, Int.reduceToNat, ne_eq, reduceCtorEq, not_false_eq_true, Nat.reduceAdd, Nat.reduceSub, Nat.reduceLT, Nat.reduceLeDiff, Nat.reduceEqDiff, Nat.zero_lt_succ, Bool.not_true, Bool.not_false, beq_self_eq_true, true_and, and_true, Option.isSome_some, Option.isSome_none, reduceIte, Int.toNat_natCast, Bool.false_eq_true, List.length_map, Nat.le_refl, Option.some.injEq, exists_eq_left', Nat.add_right_cancel_iff, List.take_nil, List.drop_nil, T3, T4, T24, T59, T71, fieldAddrC_cp fl71_0, fieldAddrC_raw fl71_0, fieldAddrC_cp fl71_1, fieldAddrC_raw fl71_1, cok65, Try.results31]
    | (simp (disch := first | omega | (simp only [List.length_append, List.length_map, List.length_cons, List.length_nil, List.length_drop, List.length_take, List.length_replicate]; omega)) only [wrap_id, getI])
    | (with_reducible refine And.intro (by first | omega | exact ⟨_, rfl⟩ | (focus (simp; done)) | (simp; omega)) ?_)
    | ((with_reducible apply wk_load (ty := 3) (ha := ag3) 0); rfl; rfl)
    | ((with_reducible apply wk_load (ty := 3) (ha := ag3) 1); rfl; rfl)
    | ((with_reducible apply wk_load (ty := 24) (ha := ag24) 0); rfl; rfl)
    | ((with_reducible apply wk_load (ty := 24) (ha := ag24) 1); rfl; rfl)
    | (with_reducible refine callD_mk (rMay ?_ ?_))
    | (with_reducible refine nilTC_pos (by simp; omega) ?_)
    | (with_reducible refine nilTC_split (fun h => ?_) (fun h bn => ?_) <;> (try simp only [List.length_map] at h))
    | (with_reducible refine grd_cases (fun h => ?_) (fun h => ?_) <;> (try simp only [h]) <;> (try simp only [beq_iff_eq, beq_eq_false_iff_ne, bne_iff_ne, bne_eq_false_iff_eq, decide_eq_true_eq, decide_eq_false_iff_not, Bool.not_eq_true', Bool.not_eq_false', Bool.not_true, Bool.not_false, Bool.not_eq_eq_eq_not, ne_eq, Int.not_lt, Int.not_le, gt_iff_lt, ge_iff_le, Decidable.not_not] at h))
    | (with_reducible refine condC_split (fun h => ?_) (fun h => ?_) <;> (try simp only [h]) <;> (try simp only [beq_iff_eq, beq_eq_false_iff_ne, bne_iff_ne, bne_eq_false_iff_eq, decide_eq_true_eq, decide_eq_false_iff_not, Bool.not_eq_true', Bool.not_eq_false', Bool.not_true, Bool.not_false, Bool.not_eq_eq_eq_not, ne_eq, Int.not_lt, Int.not_le, gt_iff_lt, ge_iff_le, Decidable.not_not] at h))
    | omega | (simp only [List.length_append, List.length_map, List.length_cons, List.length_nil, List.length_drop, List.length_take, List.length_replicate]; omega))
  refine loopA (fun k : Nat => ⟨(SL o l :: .any :: .any :: I k :: .any :: .any :: .any :: .any :: .any :: .any :: .any :: .any :: .any :: .any :: .any :: .any :: .any :: .any :: .any :: .any :: .any :: .any :: .any :: .any :: .any :: .any :: .any :: .any :: .any :: .any :: .any :: .any :: .any :: .any :: .any :: .any :: .any :: .any :: .any :: .any :: .any :: .any :: .any :: .any :: .any :: .any :: .any :: .any :: .any :: .any :: .any :: .any :: .any :: .any :: .any :: .any :: .any :: .any :: .any :: .any :: .any :: .any :: .any :: .any :: []), σ, true, []⟩) (fun k => k ≤ l.length ∧ ∀ j, j < k → lineOk (l.getD j (0, [])) = true) (fun k => l.length - k) 0 (St_le_same (by repeat (first | exact trivial | refine ⟨le_rfl, ?_⟩ | refine ⟨le_any, ?_⟩ | refine ⟨le_ro, ?_⟩ | refine ⟨le_nil (by decide), ?_⟩ | refine ⟨le_wrap (by omega) (by omega) (by omega), ?_⟩ | refine ⟨le_int (by omega), ?_⟩ | refine ⟨le_eq (by simp), ?_⟩)) id) ⟨Nat.zero_le _, fun j h => by omega⟩ ?_
  rintro k ⟨hk, hb⟩
  repeat' (first
    | (with_reducible refine AW_seqA (AW_block ?_)) | (with_reducible refine AW_block ?_) | (with_reducible refine cut_seqloop ?_) | (with_reducible refine cut_loop ?_) | (with_reducible refine AW_seqA (AW_seqA ?_)) | (with_reducible refine AW_seq ?_) | (with_reducible refine AW_runReg ?_) | (with_reducible refine AW_runCond ?_) | (with_reducible refine AW_runExit ?_) | (with_reducible refine AW_runRet ?_) | (with_reducible refine AW_runSkip ?_) | (with_reducible refine AW_runLabel ?_)
    | simp only [WL, intF, strF, List.toList_toArray, List.set_cons_succ, List.set_cons_zero, List.getD_cons_succ, List.getD_cons_zero, List.getElem?_cons_succ, List.getElem?_cons_zero, List.length_cons, List.length_nil, List.replicate_succ, List.replicate_zero, List.cons_append, List.nil_append, List.append_nil, List.map_cons, List.map_nil, Option.bind_some, Option.map_some, Option.map_none, List.drop_succ_cons, List.drop_zero, List.take_succ_cons, List.take_zero, ← List.map_take, ← List.map_drop, List.take_length, Int.reduceToNat, ne_eq, reduceCtorEq, not_false_eq_true, Nat.reduceAdd, Nat.reduceSub, Nat.reduceLT, Nat.reduceLeDiff, Nat.reduceEqDiff, Nat.zero_lt_succ, Bool.not_true, Bool.not_false, beq_self_eq_true, true_and, and_true, Option.isSome_some, Option.isSome_none, reduceIte, Int.toNat_natCast, Bool.false_eq_true, List.length_map, Nat.le_refl, Option.some.injEq, exists_eq_left', Nat.add_right_cancel_iff, List.take_nil, List.drop_nil, T3, T4, T24, T59, T71, fieldAddrC_cp fl71_0, fieldAddrC_raw fl71_0, fieldAddrC_cp fl71_1, fieldAddrC_raw fl71_1, cok65, Try.results31]
    | (simp (disch := first | omega | (simp only [List.length_append, List.length_map, List.length_cons, List.length_nil, List.length_drop, List.length_take, List.length_replicate]; omega)) only [wrap_id, getI, getL])
    | (with_reducible refine And.intro (by first | omega | exact ⟨_, rfl⟩ | (focus (simp; done)) | (simp; omega)) ?_)
    | ((with_reducible apply wk_load (ty := 3) (ha := ag3) 0); rfl; rfl)
    | ((with_reducible apply wk_load (ty := 3) (ha := ag3) 1); rfl; rfl)
    | ((with_reducible apply wk_load (ty := 24) (ha := ag24) 0); rfl; rfl)
    | ((with_reducible apply wk_load (ty := 24) (ha := ag24) 1); rfl; rfl)
    | (with_reducible refine callD_mk (rMay ?_ ?_))
    | (with_reducible refine nilTC_pos (by simp; omega) ?_)
    | (with_reducible refine nilTC_split (fun h => ?_) (fun h bn => ?_) <;> (try simp only [List.length_map] at h))
    | (with_reducible refine grd_cases (fun h => ?_) (fun h => ?_) <;> (try simp only [h]) <;> (try simp only [beq_iff_eq, beq_eq_false_iff_ne, bne_iff_ne, bne_eq_false_iff_eq, decide_eq_true_eq, decide_eq_false_iff_not, Bool.not_eq_true', Bool.not_eq_false', Bool.not_true, Bool.not_false, Bool.not_eq_eq_eq_not, ne_eq, Int.not_lt, Int.not_le, gt_iff_lt, ge_iff_le, Decidable.not_not] at h))
    | (with_reducible refine condC_split (fun h => ?_) (fun h => ?_) <;> (try simp only [h]) <;> (try simp only [beq_iff_eq, beq_eq_false_iff_ne, bne_iff_ne, bne_eq_false_iff_eq, decide_eq_true_eq, decide_eq_false_iff_not, Bool.not_eq_true', Bool.not_eq_false', Bool.not_true, Bool.not_false, Bool.not_eq_eq_eq_not, ne_eq, Int.not_lt, Int.not_le, gt_iff_lt, ge_iff_le, Decidable.not_not] at h))
    | omega | (simp only [List.length_append, List.length_map, List.length_cons, List.length_nil, List.length_drop, List.length_take, List.length_replicate]; omega))
  all_goals try exact ⟨k + 1, St_le_same (by repeat (first | exact trivial | refine ⟨le_rfl, ?_⟩ | refine ⟨le_any, ?_⟩ | refine ⟨le_ro, ?_⟩ | refine ⟨le_nil (by decide), ?_⟩ | refine ⟨le_wrap (by omega) (by omega) (by omega), ?_⟩ | refine ⟨le_int (by omega), ?_⟩ | refine ⟨le_eq (by simp), ?_⟩)) id, ⟨by omega, fun j hj => by
    rcases Nat.lt_or_ge j k with h' | h'
    · exact hb j h'
    · obtain rfl : j = k := by omega
      exact lineOk_yes (by omega) (by omega) (by omega) (by omega) (by assumption)⟩, by omega⟩
  all_goals first
    | exact leafL sub_rfl (leT_eq (by rw [bigL_bad (k := k) (by omega) (lineOk_no (by first | exact .inl (by omega) | exact .inr (.inl (by omega)) | exact .inr (.inr (.inl (by omega))) | exact .inr (.inr (.inr (.inl (by omega)))) | exact .inr (.inr (.inr (.inr (by assumption))))))])) hK
    | exact leafL sub_rfl (leT_eq (by rw [bigL_end (by omega) hb]; simp [gt_iff_lt, Int.ofNat_lt, show ((60 : Int) < l.length) = (60 < l.length) from by simp only [eq_iff_iff]; omega])) hK
    | trace_state

-- marginalialaw10.BlockReads
set_option maxHeartbeats 8000000 in
set_option maxRecDepth 20000 in
theorem blockReads {l : List Ln} (hl : l.length ≤ maxLen) {f : Bool} {c i n : Int} : ACallF κ Try.prog 9 [SL none l, B f, I c, I i, I n] [] (fun r _ => r = .ret (B true)) := by
  unfold maxLen at hl
  have hb := fun h => bigL_no (l := l) h
  have hok : bigL l = false → ∀ x ∈ l, x.2.length ≤ 1000 ∧ 0 ≤ x.1 ∧ x.1 ≤ 1000 := fun h x hx => by
    have := (bigL_no h).2 x hx
    simp only [lineOk, Bool.and_eq_true, decide_eq_true_eq] at this
    omega
  refine ACallF.dropL (ACallF_intro Try.func9 rfl ?_)
  simp only [Try.ntmps9]
  repeat' (first
    | simp only [WL, intF, strF, List.toList_toArray, List.set_cons_succ, List.set_cons_zero, List.getD_cons_succ, List.getD_cons_zero, List.getElem?_cons_succ, List.getElem?_cons_zero, List.length_cons, List.length_nil, List.replicate_succ, List.replicate_zero, List.cons_append, List.nil_append, List.append_nil, List.map_cons, List.map_nil, Option.bind_some, Option.map_some, Option.map_none, List.drop_succ_cons, List.drop_zero, List.take_succ_cons, List.take_zero, ← List.map_take, ← List.map_drop, List.take_length, Int.reduceToNat, ne_eq, reduceCtorEq, not_false_eq_true, Nat.reduceAdd, Nat.reduceSub, Nat.reduceLT, Nat.reduceLeDiff, Nat.reduceEqDiff, Nat.zero_lt_succ, Bool.not_true, Bool.not_false, beq_self_eq_true, true_and, and_true, Option.isSome_some, Option.isSome_none, reduceIte, Int.toNat_natCast, Bool.false_eq_true, List.length_map, Nat.le_refl, Option.some.injEq, exists_eq_left', Nat.add_right_cancel_iff, List.take_nil, List.drop_nil, T3, T4, T9, T24, T50, T59, T64, T67, T71, cok30, cok31, cok32, cok33, cok34, Try.results9]
    | (simp (disch := first | omega | (simp only [List.length_append, List.length_map, List.length_cons, List.length_nil, List.length_drop, List.length_take, List.length_replicate]; omega)) only [wrap_id, getI])
    | (with_reducible refine And.intro (by first | omega | exact ⟨_, rfl⟩ | (focus (simp; done)) | (simp; omega)) ?_)
    | (with_reducible refine wk_build pl64 zr64 rfl rfl ?_)
    | (with_reducible refine wk_build pl67 zr67 rfl rfl ?_)
    | (with_reducible refine  callD_mk (lBig (by unfold maxLen; omega) ?_))
    | (with_reducible refine  callD_mk (bRead (h0 := (f, c, i)) (by have := (hb (by assumption)).1; omega) (hok (by assumption)) ?_))
    | (with_reducible refine  callD_mk (rBlockRead (h0 := (f, c, i)) (by have := (hb (by assumption)).1; omega) (hok (by assumption)) (by omega) (by dsimp only; omega) ?_))
    | (with_reducible refine callD_mk (alive10 ?_))
    | (with_reducible refine callD_mk (lBig ?_ ?_))
    | (with_reducible refine callD_mk (bRead ?_ ?_ ?_))
    | (with_reducible refine callD_mk (rBlockRead ?_ ?_ ?_ ?_ ?_))
    | (with_reducible refine callD_mk (num10 ?_))
    | (with_reducible refine nilTC_pos (by simp; omega) ?_)
    | (with_reducible refine nilTC_split (fun h => ?_) (fun h bn => ?_) <;> (try simp only [List.length_map] at h))
    | (with_reducible refine grd_cases (fun h => ?_) (fun h => ?_) <;> (try simp only [h]) <;> (try simp only [beq_iff_eq, beq_eq_false_iff_ne, bne_iff_ne, bne_eq_false_iff_eq, decide_eq_true_eq, decide_eq_false_iff_not, Bool.not_eq_true', Bool.not_eq_false', Bool.not_true, Bool.not_false, Bool.not_eq_eq_eq_not, ne_eq, Int.not_lt, Int.not_le, gt_iff_lt, ge_iff_le, Decidable.not_not] at h))
    | (with_reducible refine condC_split (fun h => ?_) (fun h => ?_) <;> (try simp only [h]) <;> (try simp only [beq_iff_eq, beq_eq_false_iff_ne, bne_iff_ne, bne_eq_false_iff_eq, decide_eq_true_eq, decide_eq_false_iff_not, Bool.not_eq_true', Bool.not_eq_false', Bool.not_true, Bool.not_false, Bool.not_eq_eq_eq_not, ne_eq, Int.not_lt, Int.not_le, gt_iff_lt, ge_iff_le, Decidable.not_not] at h))
    | omega | (simp only [List.length_append, List.length_map, List.length_cons, List.length_nil, List.length_drop, List.length_take, List.length_replicate]; omega))
  all_goals exact leafLaw rfl

set_option maxHeartbeats 8000000 in
set_option maxRecDepth 20000 in
theorem law_BlockReads (κ : Ctx) (x : List (Int × List Int × Unit)) (hx : x.length ≤ maxLen ∧ ∀ a ∈ x, (IntKind.i64.min ≤ a.1 ∧ a.1 ≤ IntKind.i64.max) ∧ (a.2.1.length ≤ maxLen ∧ ∀ b ∈ a.2.1, IntKind.i64.min ≤ b ∧ b ≤ IntKind.i64.max) ∧ True) (f : Bool) (hf : True) (c : Int) (hc : IntKind.i64.min ≤ c ∧ c ≤ IntKind.i64.max) (i : Int) (hi : IntKind.i64.min ≤ i ∧ i ≤ IntKind.i64.max) (n : Int) (hn : IntKind.i64.min ≤ n ∧ n ≤ IntKind.i64.max) :
    ACallF κ Try.prog 9 [.sl 2 none (x.map fun p => LN (p.1, p.2.1)), B f, I c, I i, I n] [] (fun r _ => r = .ret (B true)) := by
  have e : AV.sl 2 none (x.map fun p => LN (p.1, p.2.1)) = SL none (x.map fun p => ((p.1, p.2.1) : Ln)) := by simp [SL]
  rw [e]
  exact blockReads (by simpa using hx.1)
end Go.Proofs.Ytaeacialcbahnaa
