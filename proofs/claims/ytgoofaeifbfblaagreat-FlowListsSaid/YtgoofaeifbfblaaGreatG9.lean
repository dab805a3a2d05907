/-
  Texts Db, Dc, Hk, MH, Hl, Hm, MI, one behind the other.
-/
import Derived.Test.YtgoofaeifbfblaaGreatG8
set_option linter.unusedVariables false
set_option linter.unusedSimpArgs false
/-
  Walks: chapter 7, double quotes: what one line is.
-/



namespace Go.Proofs.YtgoofaeifbfblaaGreat
open Go.Abs
set_option linter.unusedVariables false
set_option linter.unusedSimpArgs false
variable {κ : Ctx} {σ : List Res} {K : Ret → List Res → Prop} {o o' : Option (Option (Nat × Nat))}
set_option maxHeartbeats 4000000 in
theorem dEnd {l : List Int} (hl : l.length ≤ 1000000000) (hK : K (.ret (.tup [I (endD 0 l).1, B (endD 0 l).2])) σ) : ACallF κ Tryz.prog 149 [SI o l] σ K := by
  refine ACallF.dropL (ACallF_intro Tryz.func149 rfl ?_)
  simp only [Tryz.ntmps149]
  repeat' (first | simp only [WL, WM, Nat.reduceAdd, Nat.reduceSub])
  refine loop_by (fun k : Nat => ⟨(SI o l :: .any :: .any :: .any :: I k :: .any :: .any :: .any :: .any :: .any :: .any :: .any :: .any :: .any :: .any :: .any :: .any :: .any :: .any :: .any :: .any :: .any :: []), σ, true, []⟩) (fun k => k ≤ l.length + 1 ∧ endD 0 l = endD k (l.drop k)) (fun k => l.length + 2 - k) 0 (St_le_same (by repeat (first | exact trivial | refine ⟨le_rfl, ?_⟩ | refine ⟨le_any, ?_⟩ | refine ⟨le_ro, ?_⟩ | refine ⟨le_nil (by decide), ?_⟩ | refine ⟨le_wrap (by omega) (by omega) (by omega), ?_⟩ | refine ⟨le_int (by omega), ?_⟩ | refine ⟨le_eq (by simp), ?_⟩)) id) ⟨Nat.zero_le _, by simp⟩ ?_
  rintro k ⟨h1, h2⟩
  repeat' (first | simp only [WL, intF, WM, reduceCtorEq, WLb, Nat.reduceAdd, true_and, T3, T39, Tryz.results149] | simp (disch := first | omega | (simp only [LN_]; omega)) only [wrap_id, getI] | with_reducible refine andA (hb := ?_) | ((with_reducible first | refine grd_cases (fun h => ?_) (fun h => ?_) | refine condC_split (fun h => ?_) (fun h => ?_)) <;> (try simp only [h]) <;> (try simp only [NR_, NRb] at h)))
  · exact ⟨k + 2, St_le_same (by repeat (first | exact trivial | refine ⟨le_rfl, ?_⟩ | refine ⟨le_any, ?_⟩ | refine ⟨le_ro, ?_⟩ | refine ⟨le_nil (by decide), ?_⟩ | refine ⟨le_wrap (by omega) (by omega) (by omega), ?_⟩ | refine ⟨le_int (by omega), ?_⟩ | refine ⟨le_eq (by simp), ?_⟩)) id, ⟨by omega, by rw [h2, endD_at_esc (by omega) (by assumption)]⟩, by omega⟩
  · exact leafL sub_rfl (leT_eq (by rw [h2, endD_at_end (by omega) (by assumption)])) hK
  · exact ⟨k + 1, St_le_same (by repeat (first | exact trivial | refine ⟨le_rfl, ?_⟩ | refine ⟨le_any, ?_⟩ | refine ⟨le_ro, ?_⟩ | refine ⟨le_nil (by decide), ?_⟩ | refine ⟨le_wrap (by omega) (by omega) (by omega), ?_⟩ | refine ⟨le_int (by omega), ?_⟩ | refine ⟨le_eq (by simp), ?_⟩)) id, ⟨by omega, by rw [h2, endD_at_no (by omega) (by assumption) (by assumption)]⟩, by omega⟩
  · exact leafL sub_rfl (leT_eq (by rw [h2, List.drop_eq_nil_of_le (by omega), endD_nil])) hK
set_option maxHeartbeats 4000000 in
theorem dIs {c : Int} (hK : K (.ret (B (rightI c))) σ) : ACallF κ Tryz.prog 206 [I c] σ K := by
  refine ACallF.dropL (ACallF_intro Tryz.func206 rfl ?_)
  simp only [Tryz.ntmps206]
  repeat' (first | simp only [WL, intF, WM, reduceCtorEq, WLb, Nat.reduceAdd, Nat.reduceSub, Bool.not_true, Bool.not_false, true_and, reduceIte, Bool.false_eq_true, Tryz.results206] | ((with_reducible first | refine grd_cases (fun h => ?_) (fun h => ?_) | refine condC_split (fun h => ?_) (fun h => ?_)) <;> (try simp only [h]) <;> (try simp only [NR_, NRb] at h)))
  all_goals (refine leafL sub_rfl (leT_eq (congrArg B ?_)) hK; rw [Bool.eq_iff_iff]; simp only [rightI_iff, decide_eq_true_eq, Bool.false_eq_true, false_iff, true_iff, eq_self]; omega)
set_option maxHeartbeats 4000000 in
theorem dShort {c : Int} (hK : K (.ret (.tup [I (escShortI c).1, B (escShortI c).2])) σ) : ACallF κ Tryz.prog 195 [I c] σ K := by
  refine ACallF.dropL (ACallF_intro Tryz.func195 rfl ?_)
  simp only [Tryz.ntmps195]
  repeat' (first | simp only [WL, intF, WM, reduceCtorEq, WLb, Nat.reduceAdd, Nat.reduceSub, true_and, Tryz.results195] | ((with_reducible first | refine grd_cases (fun h => ?_) (fun h => ?_) | refine condC_split (fun h => ?_) (fun h => ?_)) <;> (try simp only [h]) <;> (try simp only [NR_, NRb] at h)))
  all_goals (refine leafL sub_rfl (leT_eq ?_) hK; simp [escShortI, *])
set_option maxHeartbeats 4000000 in
theorem dLong {c : Int} (hK : K (.ret (I (longI c : Nat))) σ) : ACallF κ Tryz.prog 196 [I c] σ K := by
  refine ACallF.dropL (ACallF_intro Tryz.func196 rfl ?_)
  simp only [Tryz.ntmps196]
  repeat' (first | simp only [WL, intF, WM, reduceCtorEq, WLb, Nat.reduceAdd, Nat.reduceSub, true_and, Tryz.results196] | ((with_reducible first | refine grd_cases (fun h => ?_) (fun h => ?_) | refine condC_split (fun h => ?_) (fun h => ?_)) <;> (try simp only [h]) <;> (try simp only [NR_, NRb] at h)))
  all_goals (refine leafL sub_rfl (leT_eq ?_) hK; simp [longI, *])
set_option maxHeartbeats 4000000 in
theorem dNumber {l : List Int} {n : Nat} (hl : l.length ≤ 1000000000) (hn : n ≤ 8) (hK : K (.ret (.tup [I (numberI l n).1, I (numberI l n).2])) σ) : ACallF κ Tryz.prog 197 [SI o l, I n] σ K := by
  refine ACallF.dropL (ACallF_intro Tryz.func197 rfl ?_)
  simp only [Tryz.ntmps197]
  repeat' (first | simp only [WL, intF, WM, Int.reduceToNat, reduceCtorEq, WLb, Nat.reduceAdd, Nat.reduceSub, true_and, T3, T39, Tryz.results197] | with_reducible refine andA (hb := ?_) | ((with_reducible first | refine grd_cases (fun h => ?_) (fun h => ?_) | refine condC_split (fun h => ?_) (fun h => ?_)) <;> (try simp only [h]) <;> (try simp only [NR_, NRb] at h)))
  · exact leafL sub_rfl (leT_eq (by unfold numberI; rw [if_pos (by omega)])) hK
  have hm : (l.take n).length = n := by simp; omega
  have hu : numberI l n = numEnd (numGo 0 (l.take n)) := by unfold numberI; rw [if_neg (by omega)]
  generalize l.take n = m at *
  refine loop_by (fun x : Nat × Nat => ⟨(SI o l :: I n :: .any :: .any :: .any :: .any :: I x.2 :: .any :: .any :: .any :: .any :: .any :: .any :: .any :: .any :: .any :: SI none m :: I m.length :: I x.1 :: .any :: .any :: .any :: .any :: .any :: .any :: .any :: .any :: .any :: .any :: .any :: .any :: .any :: .any :: .any :: .any :: []), σ, true, []⟩) (fun x => x.1 ≤ m.length ∧ numGo 0 m = numGo x.2 (m.drop x.1) ∧ x.2 < 2 ^ (4 * x.1)) (fun x => m.length - x.1) (0, 0) (St_le_same (by repeat (first | exact trivial | refine ⟨le_rfl, ?_⟩ | refine ⟨le_any, ?_⟩ | refine ⟨le_ro, ?_⟩ | refine ⟨le_nil (by decide), ?_⟩ | refine ⟨le_wrap (by omega) (by omega) (by omega), ?_⟩ | refine ⟨le_int (by omega), ?_⟩ | refine ⟨le_eq (by simp), ?_⟩)) id) ⟨Nat.zero_le _, by simp, by decide⟩ ?_
  rintro ⟨k, a⟩ ⟨h1, h2, h3⟩
  dsimp only at h1 h2 h3 ⊢
  have hp := pow16 (k := k) (by omega)
  have hx := hexI_le (m.getD k 0)
  repeat' (first | simp only [WL, intF, WM, reduceCtorEq, WLb, Nat.reduceAdd, true_and, T3, T39, cok205, cok206, Tryz.results197] | simp (disch := first | omega | (simp only [LN_]; omega)) only [wrap_id, getI] | (with_reducible first | refine andA (hb := ?_) | refine cD (cHex ?_) | refine cD (dIs ?_)) | ((with_reducible first | refine grd_cases (fun h => ?_) (fun h => ?_) | refine condC_split (fun h => ?_) (fun h => ?_)) <;> (try simp only [h]) <;> (try simp only [NR_, NRb] at h)))
  · rw [numGo_at (by omega), if_pos (by omega)] at h2
    exact leafL sub_rfl (leT_eq (by rw [hu, h2]; rfl)) hK
  · rw [numGo_at (by omega), if_neg (by omega)] at h2
    exact ⟨(k + 1, a * 16 + (hexI (m.getD k 0)).toNat), St_le_same (by repeat (first | exact trivial | refine ⟨le_rfl, ?_⟩ | refine ⟨le_any, ?_⟩ | refine ⟨le_ro, ?_⟩ | refine ⟨le_nil (by decide), ?_⟩ | refine ⟨le_wrap (by omega) (by omega) (by omega), ?_⟩ | refine ⟨le_int (by omega), ?_⟩ | refine ⟨le_eq (by simp), ?_⟩)) id, ⟨by dsimp only; omega, by dsimp only; rw [h2]; congr 1; omega, by dsimp only; omega⟩, by dsimp only; omega⟩
  all_goals
    rw [List.drop_eq_nil_of_le (by omega)] at h2
    simp only [numGo] at h2
  · exact leafL sub_rfl (leT_eq (by rw [hu, h2]; unfold numEnd; simp only; rw [if_neg (by simp [*])])) hK
  · exact leafL sub_rfl (leT_eq (by rw [hu, h2]; unfold numEnd; simp only; rw [if_pos (by assumption)])) hK
set_option maxHeartbeats 4000000 in
theorem dEscape {l : List Int} (hl : l.length ≤ 1000000000) (hK : K (.ret (.tup [I (escI l).1, I (escI l).2.1, I (escI l).2.2])) σ) : ACallF κ Tryz.prog 181 [SI o l] σ K := by
  have hb := longI_le (l.getD 0 0)
  refine ACallF.dropL (ACallF_intro Tryz.func181 rfl ?_)
  simp only [Tryz.ntmps181]
  repeat' (first | simp only [WL, intF, WM, Int.reduceToNat, reduceCtorEq, WLb, Nat.reduceAdd, Nat.reduceSub, Nat.reduceLT, true_and, T3, T39, cok195, cok196, cok197, Tryz.results181] | simp (disch := first | omega | (simp only [LN_]; omega)) only [wrap_id, getI] | (with_reducible first | refine andA (hb := ?_) | refine cD (dShort ?_) | refine cD (dLong ?_) | refine cD (dNumber ?_ ?_ ?_)) | ((with_reducible first | refine grd_cases (fun h => ?_) (fun h => ?_) | refine condC_split (fun h => ?_) (fun h => ?_)) <;> (try simp only [h]) <;> (try simp only [NR_, NRb] at h)) | omega | (simp only [LN_]; omega))
  all_goals first
    | exact leafL sub_rfl (leT_eq (by rw [escI_nil (by omega)])) hK
    | exact leafL sub_rfl (leT_eq (by rw [escI_def (by omega), if_pos (by assumption)])) hK
    | exact leafL sub_rfl (leT_eq (by rw [escI_def (by omega), if_neg (by simp only [*]; decide), if_pos (by omega)])) hK
    | exact leafL sub_rfl (leT_eq (by rw [escI_def (by omega), if_neg (by simp only [*]; decide), if_neg (by omega)])) hK
set_option maxHeartbeats 4000000 in
theorem sBlank {x : Int × Bool} (hK : K (.ret (B (softG x))) σ) : ACallF κ Tryz.prog 198 [SGA x] σ K := by
  refine ACallF.dropL (ACallF_intro Tryz.func198 rfl ?_)
  simp only [Tryz.ntmps198]
  repeat' (first | simp only [WL, WM, Nat.reduceAdd, Nat.reduceSub, Nat.reduceEqDiff, Bool.not_true, true_and, reduceIte, Bool.false_eq_true, T3, T4, fR fl210_0, fR fl210_1, cok34, Tryz.results198] | (with_reducible first | refine andA (hb := ?_) | refine y_load (hK := ?_) | refine y_box (hK := fun b => ?_) | refine cD (Blank ?_)) | ((with_reducible first | refine grd_cases (fun h => ?_) (fun h => ?_) | refine condC_split (fun h => ?_) (fun h => ?_)) <;> (try simp only [h]) <;> (try simp only [NR_, NRb] at h)))
  all_goals exact leafL (sub_cons sub_rfl) (leT_eq (congrArg B (by simp [softG, *]))) hK
set_option maxHeartbeats 4000000 in
theorem dFront {b : Nat} {l : List (Int × Bool)} {j : Bool} (hl : l.length ≤ 1000000000) (hK : ∀ o', K (.ret (.tup [])) (.obj b [SG o' (l.dropWhile softG), B j] :: σ)) : ACallF κ Tryz.prog 182 [.raw (.pointer (some ⟨b, 0, none⟩))] (.obj b [SG o l, B j] :: σ) K := by
  refine ACallF.dropL (ACallF_intro Tryz.func182 rfl ?_)
  simp only [Tryz.ntmps182]
  repeat' (first | simp only [WL, WM, Nat.reduceAdd, Nat.reduceSub])
  refine loop_by (fun x : Option (Option (Nat × Nat)) × List (Int × Bool) => ⟨(.raw (.pointer (some ⟨b, 0, none⟩)) :: .any :: .any :: .any :: .any :: .any :: .any :: .any :: .any :: .any :: .any :: .any :: .any :: .any :: .any :: .any :: .any :: .any :: .any :: .any :: .any :: .any :: .any :: .any :: .any :: []), .obj b [SG x.1 x.2, B j] :: σ, true, []⟩) (fun x => x.2.dropWhile softG = l.dropWhile softG ∧ x.2.length ≤ l.length) (fun x => x.2.length) (o, l) (St_le_same (by repeat (first | exact trivial | refine ⟨le_rfl, ?_⟩ | refine ⟨le_any, ?_⟩ | refine ⟨le_ro, ?_⟩ | refine ⟨le_nil (by decide), ?_⟩ | refine ⟨le_wrap (by omega) (by omega) (by omega), ?_⟩ | refine ⟨le_int (by omega), ?_⟩ | refine ⟨le_eq (by simp), ?_⟩)) id) ⟨rfl, Nat.le_refl _⟩ ?_
  rintro ⟨o', l'⟩ hx
  dsimp only at hx ⊢
  have h1 := hx.1
  have h2 := hx.2
  repeat' (first | simp only [WL, intF, WM, Int.reduceToNat, reduceCtorEq, WLb, Nat.reduceAdd, Nat.reduceEqDiff, Bool.not_true, true_and, reduceIte, Bool.false_eq_true, T189, T210, fR fl191_0, cok198, Tryz.results182] | simp (disch := first | omega | (simp only [LN_]; omega)) only [getG] | (with_reducible first | refine andA (hb := ?_) | refine y_load (hK := ?_) | refine y_store (hK := ?_) | refine cD (sBlank ?_)) | ((with_reducible first | refine grd_cases (fun h => ?_) (fun h => ?_) | refine condC_split (fun h => ?_) (fun h => ?_)) <;> (try simp only [h]) <;> (try simp only [NR_, NRb] at h)))
  · exact ⟨(none, l'.drop 1), St_leW (by repeat (first | exact trivial | refine ⟨le_rfl, ?_⟩ | refine ⟨le_any, ?_⟩ | refine ⟨le_ro, ?_⟩ | refine ⟨le_nil (by decide), ?_⟩ | refine ⟨le_wrap (by omega) (by omega) (by omega), ?_⟩ | refine ⟨le_int (by omega), ?_⟩ | refine ⟨le_eq (by simp), ?_⟩)) (ResW.refl _) id, ⟨(dwg_step (d := (0, false)) (by omega) (by assumption)).symm.trans h1, by simp; omega⟩, by simp; omega⟩
  · exact leafL sub_rfl (leT_eq rfl) (by rw [← h1, dwg_stop (d := (0, false)) (by omega) (by assumption)] at hK; exact hK _)
  · obtain rfl : l' = [] := List.eq_nil_of_length_eq_zero (by omega)
    exact leafL sub_rfl (leT_eq rfl) (by rw [← h1] at hK; exact hK _)
set_option maxHeartbeats 4000000 in
theorem dBack {b : Nat} {l : List (Int × Bool)} {j : Bool} (hl : l.length ≤ 1000000000) (hK : ∀ o', K (.ret (.tup [])) (.obj b [SG o' (backG (!j) l), B j] :: σ)) : ACallF κ Tryz.prog 183 [.raw (.pointer (some ⟨b, 0, none⟩))] (.obj b [SG o l, B j] :: σ) K := by
  refine ACallF.dropL (ACallF_intro Tryz.func183 rfl ?_)
  simp only [Tryz.ntmps183]
  repeat' (first | simp only [WL, WM, Nat.reduceAdd, Nat.reduceSub])
  refine loop_by (fun x : Option (Option (Nat × Nat)) × List (Int × Bool) => ⟨(.raw (.pointer (some ⟨b, 0, none⟩)) :: .any :: .any :: .any :: .any :: .any :: .any :: .any :: .any :: .any :: .any :: .any :: .any :: .any :: .any :: .any :: .any :: .any :: .any :: .any :: .any :: .any :: .any :: .any :: .any :: .any :: .any :: .any :: .any :: .any :: .any :: .any :: .any :: .any :: .any :: .any :: .any :: .any :: .any :: .any :: .any :: .any :: .any :: .any :: []), .obj b [SG x.1 x.2, B j] :: σ, true, []⟩) (fun x => backG (!j) x.2 = backG (!j) l ∧ x.2.length ≤ l.length) (fun x => x.2.length) (o, l) (St_le_same (by repeat (first | exact trivial | refine ⟨le_rfl, ?_⟩ | refine ⟨le_any, ?_⟩ | refine ⟨le_ro, ?_⟩ | refine ⟨le_nil (by decide), ?_⟩ | refine ⟨le_wrap (by omega) (by omega) (by omega), ?_⟩ | refine ⟨le_int (by omega), ?_⟩ | refine ⟨le_eq (by simp), ?_⟩)) id) ⟨rfl, Nat.le_refl _⟩ ?_
  rintro ⟨o', l'⟩ ⟨h1, h2⟩
  dsimp only at h1 h2 ⊢
  have e1 : 0 < l'.length → ((l'.length : Int) - 1).toNat = l'.length - 1 := fun _ => by omega
  repeat' (first | simp only [WL, intF, WM, Int.reduceToNat, reduceCtorEq, WLb, Nat.reduceAdd, Nat.reduceEqDiff, Bool.not_true, true_and, reduceIte, Bool.false_eq_true, T4, T189, T210, fR fl191_0, fR fl191_1, cok198, Tryz.results183] | simp (disch := first | omega | (simp only [LN_]; omega)) only [wrap_id, getG, e1] | (with_reducible first | refine andA (hb := ?_) | refine y_load (hK := ?_) | refine y_store (hK := ?_) | refine cQ (sBlank isR_mk) ?_) | ((with_reducible refine AW_drawM (id := 0) 28 mixed ?_ ?_); kernel_rfl) | ((with_reducible refine AW_drawM (id := 1) 14 mixed ?_ ?_); kernel_rfl) | (with_reducible refine dmQ_mk ?_) | ((with_reducible first | refine grd_cases (fun h => ?_) (fun h => ?_) | refine condC_split (fun h => ?_) (fun h => ?_)) <;> (try simp only [h]) <;> (try simp only [NR_, NRb] at h)))
  · subst_vars
    exact ⟨(none, l'.take (l'.length - 1)), St_leW (by repeat (first | exact trivial | refine ⟨le_rfl, ?_⟩ | refine ⟨le_any, ?_⟩ | refine ⟨le_ro, ?_⟩ | refine ⟨le_nil (by decide), ?_⟩ | refine ⟨le_wrap (by omega) (by omega) (by omega), ?_⟩ | refine ⟨le_int (by omega), ?_⟩ | refine ⟨le_eq (by simp), ?_⟩)) (ResW.refl _) id, ⟨Eq.trans (bkg_step (d := (0, false)) (by omega) (by assumption)).symm h1, by simp; omega⟩, by simp; omega⟩
  · subst_vars
    exact leafL sub_rfl (leT_eq rfl) (by rw [← h1] at hK; unfold backG at hK; simp only [Bool.not_false, if_true] at hK; rw [bkg_stop (d := (0, false)) (by omega) (by assumption)] at hK; exact hK _)
  · subst_vars
    obtain rfl : l' = [] := List.eq_nil_of_length_eq_zero (by omega)
    exact leafL sub_rfl (leT_eq rfl) (by rw [← h1] at hK; exact hK _)
  · subst_vars
    exact leafL sub_rfl (leT_eq rfl) (hK _)
set_option maxHeartbeats 4000000 in
theorem dRead {l : List Int} {last : Bool} (hl : l.length ≤ 100000000) (hK : K (.ret (.tup [.agg [SG none (readLine last l).1, B (readLine last l).2.1], I (readLine last l).2.2])) σ) : ACallF κ Tryz.prog 153 [SI o l, B last] σ K := by
  refine ACallF.dropS ?_
  have hz : readLine last l = readAt last l [] 0 := by simp [readLine, readAt]
  refine ACallF.dropL (ACallF_intro Tryz.func153 rfl ?_)
  simp only [Tryz.ntmps153]
  repeat' (first | simp only [WL, WM, Nat.reduceAdd, Nat.reduceSub] | with_reducible refine y_new (hK := fun b => ?_))
  rename_i b0
  refine loop_by (fun x : Nat × List (Int × Bool) × Option (Nat × Nat) => ⟨(SI o l :: B last :: .any :: .any :: .raw (.pointer (some ⟨b0, 0, none⟩)) :: .any :: .raw (.pointer (some ⟨b, 0, none⟩)) :: I x.1 :: .any :: .any :: .any :: .any :: .any :: .any :: .any :: .any :: .any :: .any :: .any :: .any :: .any :: .any :: .any :: .any :: .any :: .any :: .any :: .any :: .any :: .any :: .any :: .any :: .any :: .any :: .any :: .any :: .any :: .any :: .any :: .any :: .any :: .any :: .any :: .any :: .any :: .any :: .any :: .any :: .any :: .any :: .any :: .any :: .any :: .any :: .any :: .any :: .any :: .any :: .any :: .any :: .any :: .any :: .any :: .any :: .any :: .any :: .any :: []), .obj b [SG (some x.2.2) x.2.1, B false] :: .tip x.2.2 :: .obj b0 [nilS, B false] :: σ, true, []⟩)
    (fun x => x.2.1.length ≤ x.1 ∧ readAt last l [] 0 = readAt last l x.2.1 x.1 ∧ x.1 ≤ l.length + 9) (fun x => l.length + 10 - x.1) (0, [], none) (St_leW (by repeat (first | exact trivial | refine ⟨le_rfl, ?_⟩ | refine ⟨le_any, ?_⟩ | refine ⟨le_ro, ?_⟩ | refine ⟨le_nil (by decide), ?_⟩ | refine ⟨le_wrap (by omega) (by omega) (by omega), ?_⟩ | refine ⟨le_int (by omega), ?_⟩ | refine ⟨le_eq (by simp), ?_⟩)) (((ResW.void).cons _).trans (ResW.obj (leL_two (le_nil (by decide)) le_rfl))) id) ⟨Nat.le_refl _, rfl, by omega⟩ ?_
  rintro ⟨k, out, tk⟩ ⟨h1, h2, h3⟩
  dsimp only at h1 h2 h3 ⊢
  rw [hz, h2] at hK
  have hn := escI_n (l.drop (k + 1))
  obtain ⟨n, hn2⟩ := Int.eq_ofNat_of_zero_le hn.1
  repeat' (first | simp only [WL, intF, WM, reduceCtorEq, WLb, Nat.reduceAdd, Nat.reduceLT, Nat.reduceEqDiff, Bool.not_true, true_and, reduceIte, Bool.false_eq_true, T3, T4, T39, T189, fR fl191_0, fR fl191_1, cok181, Tryz.results153, tn1] | simp (disch := first | omega | (simp only [LN_]; omega)) only [wrap_id, getI] | (with_reducible first | refine andA (hb := ?_) | refine y_load (hK := ?_) | refine y_loadA (hK := ?_) | refine y_store (hK := ?_) | refine y_storeA (hK := ?_) | refine y_app (hlen := ?_) (hmax := ?_) (hK := fun tk => ?_) | refine y_bs (hK := ?_) | refine y_build (hK := ?_) | refine cD (dEscape ?_ ?_)) | ((with_reducible refine resL_id ?_); apply res_ct (hf := Tryz.results153); exact y_load2) | ((with_reducible refine AW_drawM (id := 6) 8 mixed ?_ ?_); kernel_rfl) | (with_reducible refine dmQ_mk ?_) | ((with_reducible first | refine grd_cases (fun h => ?_) (fun h => ?_) | refine condC_split (fun h => ?_) (fun h => ?_)) <;> (try simp only [h]) <;> (try simp only [NR_, NRb] at h)) | omega | (simp only [LN_]; omega) | (refine maxLen_ok ?_; (first | omega | (simp only [LN_]; omega))))
  · exact ⟨(k + 1, out ++ [(l.getD k 0, false)], tk), St_leW (by repeat (first | exact trivial | refine ⟨le_rfl, ?_⟩ | refine ⟨le_any, ?_⟩ | refine ⟨le_ro, ?_⟩ | refine ⟨le_nil (by decide), ?_⟩ | refine ⟨le_wrap (by omega) (by omega) (by omega), ?_⟩ | refine ⟨le_int (by omega), ?_⟩ | refine ⟨le_eq (by simp), ?_⟩)) (ResW.of_eq (by simp)) id, ⟨by simp; omega, by dsimp only; rw [h2, readAt_plain (by omega) (by assumption)], by dsimp only; omega⟩, by dsimp only; omega⟩
  · rw [readAt_join (by omega) (by assumption) (by assumption)] at hK
    exact leafL (sub_cons (sub_cons (sub_cons sub_rfl))) (leT_eq rfl) (leafS sub_rfl (leS_tup (leSL_cons (leS_agg (leSL_cons (leS_le le_ro) (leSL_cons leS_rfl leSL_nil))) (leSL_cons leS_rfl leSL_nil))) hK)
  · rw [readAt_bad (by omega) (by assumption) (fun e => by have e1 := e.1; have e2 := e.2; first | omega | simp_all) (by assumption)] at hK
    exact leafL (sub_cons (sub_cons (sub_cons sub_rfl))) (leT_eq rfl) (leafS sub_rfl (leS_tup (leSL_cons (leS_agg (leSL_cons (leS_le (le_nilro (by decide))) (leSL_cons leS_rfl leSL_nil))) (leSL_cons leS_rfl leSL_nil))) hK)
  · exact ⟨(k + 1 + n, out ++ [((escI (l.drop (k + 1))).1, true)], tk), St_leW (by repeat (first | exact trivial | refine ⟨le_rfl, ?_⟩ | refine ⟨le_any, ?_⟩ | refine ⟨le_ro, ?_⟩ | refine ⟨le_nil (by decide), ?_⟩ | refine ⟨le_wrap (by omega) (by omega) (by omega), ?_⟩ | refine ⟨le_int (by omega), ?_⟩ | refine ⟨le_eq (by simp), ?_⟩)) (ResW.of_eq (by simp)) id, ⟨by simp; omega, by dsimp only; rw [h2, readAt_esc (by omega) (by assumption) (fun e => by have e1 := e.1; have e2 := e.2; first | omega | simp_all) (by assumption) hn2], by dsimp only; omega⟩, by dsimp only; omega⟩
  · rw [readAt_bad (by omega) (by assumption) (fun e => by have e1 := e.1; have e2 := e.2; first | omega | simp_all) (by assumption)] at hK
    exact leafL (sub_cons (sub_cons (sub_cons sub_rfl))) (leT_eq rfl) (leafS sub_rfl (leS_tup (leSL_cons (leS_agg (leSL_cons (leS_le (le_nilro (by decide))) (leSL_cons leS_rfl leSL_nil))) (leSL_cons leS_rfl leSL_nil))) hK)
  · exact ⟨(k + 1 + n, out ++ [((escI (l.drop (k + 1))).1, true)], tk), St_leW (by repeat (first | exact trivial | refine ⟨le_rfl, ?_⟩ | refine ⟨le_any, ?_⟩ | refine ⟨le_ro, ?_⟩ | refine ⟨le_nil (by decide), ?_⟩ | refine ⟨le_wrap (by omega) (by omega) (by omega), ?_⟩ | refine ⟨le_int (by omega), ?_⟩ | refine ⟨le_eq (by simp), ?_⟩)) (ResW.of_eq (by simp)) id, ⟨by simp; omega, by dsimp only; rw [h2, readAt_esc (by omega) (by assumption) (fun e => by have e1 := e.1; have e2 := e.2; first | omega | simp_all) (by assumption) hn2], by dsimp only; omega⟩, by dsimp only; omega⟩
  · rw [readAt_end (by omega)] at hK
    exact leafL (sub_cons (sub_cons (sub_cons sub_rfl))) (leT_eq rfl) (leafS sub_rfl (leS_tup (leSL_cons (leS_agg (leSL_cons (leS_le le_ro) (leSL_cons leS_rfl leSL_nil))) (leSL_cons leS_rfl leSL_nil))) hK)
set_option maxHeartbeats 8000000 in
theorem dFolded {l : List (List (Int × Bool) × Bool)} (hl : totG l ≤ 1000000000) (hK : K (.ret (SI none (foldD l))) σ) : ACallF κ Tryz.prog 154 [LLA o l] σ K := by
  have hlen := totG_len l
  have hfl := foldD_len l
  refine ACallF.dropL (ACallF_introA Tryz.func154 rfl ?_)
  simp only [Tryz.ntmps154]
  repeat' (first | (with_reducible first | refine AW_block ?_ | refine cut_loop ?_ | refine AW_seqA (AW_seqA ?_) | refine AW_seq ?_ | refine AW_runReg ?_) | simp only [WL, WM, Nat.reduceAdd, Nat.reduceSub, true_and, T188])
  refine loopA (fun x : Nat × List Int × Nat × Bool × Option (Nat × Nat) => ⟨(LLA o l :: .any :: .any :: SI (some x.2.2.2.2) x.2.1 :: I x.2.2.1 :: B x.2.2.2.1 :: .any :: .any :: .any :: .any :: LLA o l :: I l.length :: I x.1 :: .any :: .any :: .any :: .any :: .any :: .any :: .any :: .any :: .any :: .any :: .any :: .any :: .any :: .any :: .any :: .any :: .any :: .any :: .any :: .any :: .any :: .any :: .any :: .any :: .any :: .any :: .any :: .any :: .any :: .any :: .any :: .any :: .any :: .any :: .any :: .any :: .any :: .any :: .any :: .any :: .any :: .any :: .any :: .any :: .any :: .any :: .any :: .any :: .any :: .any :: .any :: .any :: .any :: .any :: .any :: .any :: .any :: .any :: .any :: .any :: .any :: .any :: .any :: .any :: .any :: .any :: .any :: []), .tip x.2.2.2.2 :: σ, true, []⟩)
    (fun x => x.1 ≤ l.length ∧ foldD l = x.2.1 ++ foldG l.length x.1 x.2.2.2.1 x.2.2.1 (l.drop x.1) ∧ x.2.2.1 ≤ x.1 ∧ (x.2.2.2.1 = true → x.2.2.1 = 0)) (fun x => l.length - x.1) (0, [], 0, true, none) (St_leW (by repeat (first | exact trivial | refine ⟨le_rfl, ?_⟩ | refine ⟨le_any, ?_⟩ | refine ⟨le_ro, ?_⟩ | refine ⟨le_nil (by decide), ?_⟩ | refine ⟨le_wrap (by omega) (by omega) (by omega), ?_⟩ | refine ⟨le_int (by omega), ?_⟩ | refine ⟨le_eq (by simp), ?_⟩)) ResW.void id) ⟨Nat.zero_le _, rfl, Nat.le_refl _, fun _ => rfl⟩ ?_
  rintro ⟨i, out, e, j, tk⟩ hx
  dsimp only at hx ⊢
  have h1 := hx.1
  have h2 := hx.2.1
  have h3 := hx.2.2.1
  have h4 := hx.2.2.2
  have ol : out.length ≤ totG l := by have := congrArg List.length h2; simp only [List.length_append] at this; omega
  have tl := trimG_le i l.length (l.getD i ([], false))
  have tf := frontG_le (decide (0 < i)) (l.getD i ([], false)).1
  have tg := totG_get (l := l) i
  repeat' (first | (with_reducible first | refine cut_unit (id := 7) ?_ | refine AW_seqA (AW_block ?_) | refine AW_seq ?_ | refine AW_runRet ?_) | simp only [WL, intF, WM, reduceCtorEq, WLb, Nat.reduceAdd, true_and, T188, T191, Tryz.results154] | simp (disch := first | omega | (simp only [LN_]; omega)) only [getLNA] | (with_reducible first | refine andA (hb := ?_) | refine y_storeA (hK := ?_) | refine y_new (hK := fun b => ?_)) | ((with_reducible first | refine grd_cases (fun h => ?_) (fun h => ?_) | refine condC_split (fun h => ?_) (fun h => ?_)) <;> (try simp only [h]) <;> (try simp only [NR_, NRb] at h)))
  · refine midA (fun of : Option (Option (Nat × Nat)) => ⟨(LLA o l :: .any :: .any :: SI (some tk) out :: I e :: B j :: I i :: .raw (.pointer (some ⟨b, 0, none⟩)) :: .any :: .any :: LLA o l :: I l.length :: I i :: .any :: .any :: .any :: .any :: .any :: .any :: .any :: .any :: .any :: .any :: .any :: .any :: .any :: .any :: .any :: .any :: .any :: .any :: .any :: .any :: .any :: .any :: .any :: .any :: .any :: .any :: .any :: .any :: .any :: .any :: .any :: .any :: .any :: .any :: .any :: .any :: .any :: .any :: .any :: .any :: .any :: .any :: .any :: .any :: .any :: .any :: .any :: .any :: .any :: .any :: .any :: .any :: .any :: .any :: .any :: .any :: .any :: .any :: .any :: .any :: .any :: .any :: .any :: .any :: .any :: .any :: .any :: []), .obj b [SG of (frontG (decide (0 < i)) (l.getD i ([], false)).1), B (l.getD i ([], false)).2] :: .tip tk :: σ, true, []⟩) (fun _ => True) ?_ ?_
    ·
      repeat' (first | (with_reducible first | refine AW_seq ?_ | refine AW_runCond ?_) | simp only [WL, intF, WM, ne_eq, reduceCtorEq, not_false_eq_true, true_and, and_true, cok182] | with_reducible refine cD (dFront ?_ (fun of => ?_)) | ((with_reducible first | refine grd_cases (fun h => ?_) (fun h => ?_) | refine condC_split (fun h => ?_) (fun h => ?_)) <;> (try simp only [h]) <;> (try simp only [NR_, NRb] at h)) | omega)
      · exact ⟨of, St_leW (by repeat (first | exact trivial | refine ⟨le_rfl, ?_⟩ | refine ⟨le_any, ?_⟩ | refine ⟨le_ro, ?_⟩ | refine ⟨le_nil (by decide), ?_⟩ | refine ⟨le_wrap (by omega) (by omega) (by omega), ?_⟩ | refine ⟨le_int (by omega), ?_⟩ | refine ⟨le_eq (by simp), ?_⟩)) (ResW.of_eq (by simp [frontG, show 0 < i by omega])) id⟩
      · exact ⟨none, St_leW (by repeat (first | exact trivial | refine ⟨le_rfl, ?_⟩ | refine ⟨le_any, ?_⟩ | refine ⟨le_ro, ?_⟩ | refine ⟨le_nil (by decide), ?_⟩ | refine ⟨le_wrap (by omega) (by omega) (by omega), ?_⟩ | refine ⟨le_int (by omega), ?_⟩ | refine ⟨le_eq (by simp), ?_⟩)) (ResW.of_eq (by simp [frontG, show ¬ 0 < i by omega])) id⟩
    · intro of _
      refine midA (fun of : Option (Option (Nat × Nat)) => ⟨(LLA o l :: .any :: .any :: SI (some tk) out :: I e :: B j :: I i :: .raw (.pointer (some ⟨b, 0, none⟩)) :: .any :: .any :: LLA o l :: I l.length :: I i :: .any :: .any :: .any :: .any :: .any :: .any :: .any :: .any :: .any :: .any :: .any :: .any :: .any :: .any :: .any :: .any :: .any :: .any :: .any :: .any :: .any :: .any :: .any :: .any :: .any :: .any :: .any :: .any :: .any :: .any :: .any :: .any :: .any :: .any :: .any :: .any :: .any :: .any :: .any :: .any :: .any :: .any :: .any :: .any :: .any :: .any :: .any :: .any :: .any :: .any :: .any :: .any :: .any :: .any :: .any :: .any :: .any :: .any :: .any :: .any :: .any :: .any :: .any :: .any :: .any :: .any :: .any :: []), .obj b [SG of (trimG i l.length (l.getD i ([], false))), B (l.getD i ([], false)).2] :: .tip tk :: σ, true, []⟩) (fun _ => True) ?_ ?_
      ·
        repeat' (first | (with_reducible first | refine AW_seq ?_ | refine AW_runCond ?_) | simp only [WL, intF, WM, ne_eq, reduceCtorEq, not_false_eq_true, true_and, and_true, T188, cok183] | simp (disch := first | omega | (simp only [LN_]; omega)) only [wrap_id] | with_reducible refine cD (dBack ?_ (fun of => ?_)) | ((with_reducible first | refine grd_cases (fun h => ?_) (fun h => ?_) | refine condC_split (fun h => ?_) (fun h => ?_)) <;> (try simp only [h]) <;> (try simp only [NR_, NRb] at h)) | omega)
        · exact ⟨of, St_leW (by repeat (first | exact trivial | refine ⟨le_rfl, ?_⟩ | refine ⟨le_any, ?_⟩ | refine ⟨le_ro, ?_⟩ | refine ⟨le_nil (by decide), ?_⟩ | refine ⟨le_wrap (by omega) (by omega) (by omega), ?_⟩ | refine ⟨le_int (by omega), ?_⟩ | refine ⟨le_eq (by simp), ?_⟩)) (ResW.of_eq (by simp [trimG, show i + 1 < l.length by omega])) id⟩
        · exact ⟨of, St_leW (by repeat (first | exact trivial | refine ⟨le_rfl, ?_⟩ | refine ⟨le_any, ?_⟩ | refine ⟨le_ro, ?_⟩ | refine ⟨le_nil (by decide), ?_⟩ | refine ⟨le_wrap (by omega) (by omega) (by omega), ?_⟩ | refine ⟨le_int (by omega), ?_⟩ | refine ⟨le_eq (by simp), ?_⟩)) (ResW.of_eq (by simp [trimG, backG, show ¬ i + 1 < l.length by omega])) id⟩
      · intro of _
        have hsk := fun h => foldG_skip (n := l.length) (i := i) (j := j) (e := e) (l := l) h rfl
        have htk := fun h => foldG_take (n := l.length) (i := i) (j := j) (e := e) (l := l) (s := if j = false ∧ e = 0 then [32] else []) h rfl
        generalize hT : trimG i l.length (l.getD i ([], false)) = T at *
        generalize hL : l.getD i ([], false) = L at *
        obtain ⟨L1, L2⟩ := L
        dsimp only at tl tg hsk htk ⊢
        generalize hS : (if j = false ∧ e = 0 then [(32 : Int)] else []) = S at *
        refine AW_seqA ?_
        refine midA (fun z : Bool => ⟨(LLA o l :: .any :: .any :: SI (some tk) out :: I e :: B j :: I i :: .raw (.pointer (some ⟨b, 0, none⟩)) :: .any :: .any :: LLA o l :: I l.length :: I i :: .any :: .any :: .any :: .any :: .any :: .any :: .any :: .any :: .any :: .any :: .any :: .any :: .any :: .any :: .any :: .any :: .any :: .any :: .any :: .any :: .any :: .any :: .any :: .any :: .any :: .any :: .any :: .any :: .any :: .any :: .any :: .any :: B z :: .any :: .any :: .any :: .any :: .any :: .any :: .any :: .any :: .any :: .any :: .any :: .any :: .any :: .any :: .any :: .any :: .any :: .any :: .any :: .any :: .any :: .any :: .any :: .any :: .any :: .any :: .any :: .any :: .any :: .any :: .any :: .any :: .any :: .any :: []), .obj b [SG of T, B L2] :: .tip tk :: σ, true, []⟩) (fun z => z = true ↔ (T.length = 0 ∧ L2 = false ∧ j = false ∧ i + 1 < l.length)) ?_ ?_
        ·
          repeat' (first | with_reducible refine AW_runReg ?_ | simp only [WL, intF, WM, reduceCtorEq, WLb, Nat.reduceAdd, Nat.reduceEqDiff, Bool.not_true, true_and, reduceIte, Bool.false_eq_true, T4, T188, T189, fR fl191_0, fR fl191_1] | simp (disch := first | omega | (simp only [LN_]; omega)) only [wrap_id] | (with_reducible first | refine andA (hb := ?_) | refine y_load (hK := ?_)) | ((with_reducible first | refine grd_cases (fun h => ?_) (fun h => ?_) | refine condC_split (fun h => ?_) (fun h => ?_)) <;> (try simp only [h]) <;> (try simp only [NR_, NRb] at h)))
          all_goals exact ⟨_, St_leW (by repeat (first | exact trivial | refine ⟨le_rfl, ?_⟩ | refine ⟨le_any, ?_⟩ | refine ⟨le_ro, ?_⟩ | refine ⟨le_nil (by decide), ?_⟩ | refine ⟨le_wrap (by omega) (by omega) (by omega), ?_⟩ | refine ⟨le_int (by omega), ?_⟩ | refine ⟨le_eq (by simp), ?_⟩)) (ResW.refl _) id, by first | exact ⟨fun h9 => ⟨by omega, by assumption, by assumption, by have := of_decide_eq_true h9; omega⟩, fun h9 => decide_eq_true (by omega)⟩ | exact ⟨fun _ => ⟨by omega, by assumption, by assumption, by omega⟩, fun _ => by first | rfl | assumption | (simp; omega)⟩ | exact ⟨fun h9 => (by cases h9), fun h9 => (by exfalso; obtain ⟨a1, a2, a3, a4⟩ := h9; first | omega | (simp_all; done))⟩⟩
        · intro z hz
          repeat' (first | (with_reducible first | refine cut_blk (id := 2) ?_ | refine AW_runReg ?_ | refine AW_runCond ?_) | simp only [WL, intF, WM, ne_eq, reduceCtorEq, not_false_eq_true] | simp (disch := first | omega | (simp only [LN_]; omega)) only [wrap_id] | ((with_reducible first | refine grd_cases (fun h => ?_) (fun h => ?_) | refine condC_split (fun h => ?_) (fun h => ?_)) <;> (try simp only [h]) <;> (try simp only [NR_, NRb] at h)))
          · have hz2 := hz.1 (by assumption)
            exact ⟨(i + 1, out, e + 1, j, tk), St_leW (by repeat (first | exact trivial | refine ⟨le_rfl, ?_⟩ | refine ⟨le_any, ?_⟩ | refine ⟨le_ro, ?_⟩ | refine ⟨le_nil (by decide), ?_⟩ | refine ⟨le_wrap (by omega) (by omega) (by omega), ?_⟩ | refine ⟨le_int (by omega), ?_⟩ | refine ⟨le_eq (by simp), ?_⟩)) (ResW.sub (List.sublist_cons_self _ _)) id, ⟨by dsimp only; omega, by dsimp only; rw [h2, hsk (by omega) hz2.1 hz2.2.1 hz2.2.2.1 hz2.2.2.2], by dsimp only; omega, fun e1 => by rw [hz2.2.2.1] at e1; cases e1⟩, by dsimp only; omega⟩
          have hz2 : ¬ (T.length = 0 ∧ L2 = false ∧ j = false ∧ i + 1 < l.length) := fun e1 => by rw [hz.2 e1] at *; contradiction
          rw [htk (by omega) hz2 rfl] at h2
          have ol2 := congrArg List.length h2
          simp only [List.length_append, List.length_replicate, List.length_map] at ol2
          refine midA (fun tk : Option (Nat × Nat) => ⟨(LLA o l :: .any :: .any :: SI (some tk) (out ++ S) :: I e :: B j :: I i :: .raw (.pointer (some ⟨b, 0, none⟩)) :: .any :: .any :: LLA o l :: I l.length :: I i :: .any :: .any :: .any :: .any :: .any :: .any :: .any :: .any :: .any :: .any :: .any :: .any :: .any :: .any :: .any :: .any :: .any :: .any :: .any :: .any :: .any :: .any :: .any :: .any :: .any :: .any :: .any :: .any :: .any :: .any :: .any :: .any :: .any :: .any :: .any :: .any :: .any :: .any :: .any :: .any :: .any :: .any :: .any :: .any :: .any :: .any :: .any :: .any :: .any :: .any :: .any :: .any :: .any :: .any :: .any :: .any :: .any :: .any :: .any :: .any :: .any :: .any :: .any :: .any :: .any :: .any :: .any :: []), .obj b [SG of T, B L2] :: .tip tk :: σ, true, []⟩) (fun _ => True) ?_ ?_
          ·
            repeat' (first | (with_reducible first | refine AW_block ?_ | refine AW_seq ?_ | refine AW_runCond ?_) | simp only [WL, intF, WM, reduceCtorEq, WLb, Nat.reduceAdd, and_true] | (with_reducible first | refine y_app (hlen := ?_) (hmax := ?_) (hK := fun tk => ?_) | refine y_bs (hK := ?_)) | ((with_reducible first | refine grd_cases (fun h => ?_) (fun h => ?_) | refine condC_split (fun h => ?_) (fun h => ?_)) <;> (try simp only [h]) <;> (try simp only [NR_, NRb] at h)) | omega | (refine maxLen_ok ?_; (first | omega | (simp only [LN_]; omega))))
            · obtain rfl : S = [] := by rw [← hS, if_neg (by simp [*])]
              exact ⟨tk, St_leW (by simp only [List.append_nil]; repeat (first | exact trivial | refine ⟨le_rfl, ?_⟩ | refine ⟨le_any, ?_⟩ | refine ⟨le_ro, ?_⟩ | refine ⟨le_nil (by decide), ?_⟩ | refine ⟨le_wrap (by omega) (by omega) (by omega), ?_⟩ | refine ⟨le_int (by omega), ?_⟩ | refine ⟨le_eq (by simp), ?_⟩)) (ResW.refl _) id⟩
            · obtain rfl : S = [32] := by rw [← hS, if_pos ⟨by assumption, by omega⟩]
              exact ⟨tk, St_leW (by repeat (first | exact trivial | refine ⟨le_rfl, ?_⟩ | refine ⟨le_any, ?_⟩ | refine ⟨le_ro, ?_⟩ | refine ⟨le_nil (by decide), ?_⟩ | refine ⟨le_wrap (by omega) (by omega) (by omega), ?_⟩ | refine ⟨le_int (by omega), ?_⟩ | refine ⟨le_eq (by simp), ?_⟩)) (ResW.refl _) id⟩
            · obtain rfl : S = [] := by rw [← hS, if_neg (by omega)]
              exact ⟨tk, St_leW (by simp only [List.append_nil]; repeat (first | exact trivial | refine ⟨le_rfl, ?_⟩ | refine ⟨le_any, ?_⟩ | refine ⟨le_ro, ?_⟩ | refine ⟨le_nil (by decide), ?_⟩ | refine ⟨le_wrap (by omega) (by omega) (by omega), ?_⟩ | refine ⟨le_int (by omega), ?_⟩ | refine ⟨le_eq (by simp), ?_⟩)) (ResW.refl _) id⟩
          · intro tk _
            repeat' (first | (with_reducible first | refine AW_block ?_ | refine cut_loop ?_ | refine AW_seqA (AW_seqA ?_) | refine AW_runReg ?_) | simp only [WL, WM])
            refine loopA (fun x : Nat × Option (Nat × Nat) => ⟨(LLA o l :: .any :: .any :: SI (some x.2) (out ++ S ++ List.replicate x.1 10) :: I e :: B j :: I i :: .raw (.pointer (some ⟨b, 0, none⟩)) :: .any :: .any :: LLA o l :: I l.length :: I i :: .any :: .any :: .any :: .any :: .any :: .any :: .any :: .any :: .any :: .any :: .any :: .any :: .any :: .any :: .any :: .any :: .any :: .any :: .any :: .any :: .any :: .any :: .any :: .any :: .any :: .any :: .any :: .any :: .any :: .any :: .any :: .any :: .any :: .any :: .any :: .any :: .any :: .any :: .any :: .any :: .any :: .any :: .any :: I e :: I x.1 :: .any :: .any :: .any :: .any :: .any :: .any :: .any :: .any :: .any :: .any :: .any :: .any :: .any :: .any :: .any :: .any :: .any :: .any :: .any :: .any :: .any :: .any :: []), .obj b [SG of T, B L2] :: .tip x.2 :: σ, true, []⟩) (fun x => x.1 ≤ e) (fun x => e - x.1) (0, tk) (St_leW (by simp only [List.replicate_zero, List.append_nil]; repeat (first | exact trivial | refine ⟨le_rfl, ?_⟩ | refine ⟨le_any, ?_⟩ | refine ⟨le_ro, ?_⟩ | refine ⟨le_nil (by decide), ?_⟩ | refine ⟨le_wrap (by omega) (by omega) (by omega), ?_⟩ | refine ⟨le_int (by omega), ?_⟩ | refine ⟨le_eq (by simp), ?_⟩)) (ResW.refl _) id) (Nat.zero_le _) ?_
            rintro ⟨m, tk⟩ h9
            dsimp only at h9 ⊢
            repeat' (first | (with_reducible first | refine AW_seqA (AW_block ?_) | refine AW_block ?_ | refine cut_loop ?_ | refine AW_seqA (AW_seqA ?_) | refine AW_seq ?_ | refine AW_runReg ?_) | simp only [WL, intF, WM, reduceCtorEq, WLb, Nat.reduceAdd, Nat.reduceEqDiff, true_and, T189, fR fl191_0] | simp (disch := first | omega | (simp only [LN_]; omega)) only [wrap_id] | (with_reducible first | refine andA (hb := ?_) | refine y_load (hK := ?_) | refine y_app (hlen := ?_) (hmax := ?_) (hK := fun tk => ?_) | refine y_bs (hK := ?_)) | ((with_reducible first | refine grd_cases (fun h => ?_) (fun h => ?_) | refine condC_split (fun h => ?_) (fun h => ?_)) <;> (try simp only [h]) <;> (try simp only [NR_, NRb] at h)) | (simp only [LN_]; omega) | (refine maxLen_ok ?_; (first | omega | (simp only [LN_]; omega))))
            · exact ⟨(m + 1, tk), St_leW (by simp only [List.replicate_succ', ← List.append_assoc]; repeat (first | exact trivial | refine ⟨le_rfl, ?_⟩ | refine ⟨le_any, ?_⟩ | refine ⟨le_ro, ?_⟩ | refine ⟨le_nil (by decide), ?_⟩ | refine ⟨le_wrap (by omega) (by omega) (by omega), ?_⟩ | refine ⟨le_int (by omega), ?_⟩ | refine ⟨le_eq (by simp), ?_⟩)) (ResW.refl _) id, by dsimp only; omega, by dsimp only; omega⟩
            obtain rfl : m = e := by omega
            refine loopA (fun x : Nat × Option (Nat × Nat) => ⟨(LLA o l :: .any :: .any :: SI (some x.2) (out ++ S ++ List.replicate m 10 ++ (T.take x.1).map (·.1)) :: I m :: B j :: I i :: .raw (.pointer (some ⟨b, 0, none⟩)) :: .any :: .any :: LLA o l :: I l.length :: I i :: .any :: .any :: .any :: .any :: .any :: .any :: .any :: .any :: .any :: .any :: .any :: .any :: .any :: .any :: .any :: .any :: .any :: .any :: .any :: .any :: .any :: .any :: .any :: .any :: .any :: .any :: .any :: .any :: .any :: .any :: .any :: .any :: .any :: .any :: .any :: .any :: .any :: .any :: .any :: .any :: .any :: .any :: .any :: .any :: .any :: .any :: .any :: .any :: .any :: .any :: .any :: SG none T :: I T.length :: I x.1 :: .any :: .any :: .any :: .any :: .any :: .any :: .any :: .any :: .any :: .any :: .any :: .any :: .any :: []), .obj b [SG of T, B L2] :: .tip x.2 :: σ, true, []⟩) (fun x => x.1 ≤ T.length) (fun x => T.length - x.1) (0, tk) (St_leW (by simp only [List.take_zero, List.map_nil, List.append_nil]; repeat (first | exact trivial | refine ⟨le_rfl, ?_⟩ | refine ⟨le_any, ?_⟩ | refine ⟨le_ro, ?_⟩ | refine ⟨le_nil (by decide), ?_⟩ | refine ⟨le_wrap (by omega) (by omega) (by omega), ?_⟩ | refine ⟨le_int (by omega), ?_⟩ | refine ⟨le_eq (by simp), ?_⟩)) (ResW.refl _) id) (Nat.zero_le _) ?_
            rintro ⟨k, tk⟩ h9
            dsimp only at h9 ⊢
            repeat' (first | (with_reducible first | refine AW_seqA (AW_block ?_) | refine AW_seq ?_ | refine AW_runReg ?_) | simp only [WL, intF, WM, reduceCtorEq, WLb, Nat.reduceAdd, Nat.reduceEqDiff, true_and, T3, T4, T189, T210, fR fl191_1, fR fl210_0] | simp (disch := first | omega | (simp only [LN_]; omega)) only [wrap_id, getG] | (with_reducible first | refine andA (hb := ?_) | refine y_load (hK := ?_) | refine y_storeA (hK := ?_) | refine y_new (hK := fun b => ?_) | refine y_app (hlen := ?_) (hmax := ?_) (hK := fun tk => ?_) | refine y_bs (hK := ?_)) | ((with_reducible first | refine grd_cases (fun h => ?_) (fun h => ?_) | refine condC_split (fun h => ?_) (fun h => ?_)) <;> (try simp only [h]) <;> (try simp only [NR_, NRb] at h)) | (simp only [LN_]; omega) | (refine maxLen_ok ?_; (first | omega | (simp only [LN_]; omega))))
            · exact ⟨(k + 1, tk), St_leW (by dsimp only; rw [mapfst_take (by omega)]; repeat (first | exact trivial | refine ⟨le_rfl, ?_⟩ | refine ⟨le_any, ?_⟩ | refine ⟨le_ro, ?_⟩ | refine ⟨le_nil (by decide), ?_⟩ | refine ⟨le_wrap (by omega) (by omega) (by omega), ?_⟩ | refine ⟨le_int (by omega), ?_⟩ | refine ⟨le_eq (by simp), ?_⟩)) (ResW.sub (List.sublist_cons_self _ _)) id, by dsimp only; omega, by dsimp only; omega⟩
            · exact ⟨(i + 1, out ++ S ++ List.replicate m 10 ++ T.map (·.1), 0, L2, tk), St_leW (by dsimp only; rw [List.take_of_length_le (show T.length ≤ k by omega)]; repeat (first | exact trivial | refine ⟨le_rfl, ?_⟩ | refine ⟨le_any, ?_⟩ | refine ⟨le_ro, ?_⟩ | refine ⟨le_nil (by decide), ?_⟩ | refine ⟨le_wrap (by omega) (by omega) (by omega), ?_⟩ | refine ⟨le_int (by omega), ?_⟩ | refine ⟨le_eq (by simp), ?_⟩)) (ResW.sub (List.sublist_cons_self _ _)) id, ⟨by dsimp only; omega, by dsimp only; rw [h2]; simp only [List.append_assoc], Nat.zero_le _, fun _ => rfl⟩, by dsimp only; omega⟩
  · rw [List.drop_eq_nil_of_le (by omega)] at h2
    exact leafL (sub_cons sub_rfl) (leT_le (by rw [h2]; simp only [foldG, List.append_nil]; exact le_ro)) hK
set_option maxHeartbeats 8000000 in
theorem dReadAll {l : List (List Int)} (hl : tot l ≤ 100000000) (hK : K (.ret (.tup [SI none (readD l).1, I (readD l).2])) σ) : ACallF κ Tryz.prog 117 [SSI o l] σ K := by
  have hlen := tot_len l
  refine ACallF.dropL (ACallF_introA Tryz.func117 rfl ?_)
  simp only [Tryz.ntmps117]
  repeat' (first | (with_reducible first | refine AW_block ?_ | refine cut_loop ?_ | refine AW_seqA (AW_seqA ?_) | refine AW_seq ?_ | refine AW_runReg ?_) | simp only [WL, WM, Nat.reduceAdd, Nat.reduceSub, true_and, T70])
  refine loopA (fun x : Nat × List (List (Int × Bool) × Bool) × Option (Nat × Nat) => ⟨(SSI o l :: .any :: .any :: .any :: LLA (some x.2.2) x.2.1 :: .any :: .any :: .any :: .any :: SSI o l :: I l.length :: I x.1 :: .any :: .any :: .any :: .any :: .any :: .any :: .any :: .any :: .any :: .any :: .any :: .any :: .any :: .any :: .any :: .any :: .any :: .any :: .any :: .any :: .any :: .any :: .any :: .any :: []), .tip x.2.2 :: σ, true, []⟩)
    (fun x => x.1 ≤ l.length ∧ x.2.1.length = x.1 ∧ (linesD l).2 = (linesD (l.drop x.1)).2 ∧ ((linesD (l.drop x.1)).2 = 0 → (linesD l).1 = x.2.1 ++ (linesD (l.drop x.1)).1)) (fun x => l.length - x.1) (0, [], none) (St_leW (by repeat (first | exact trivial | refine ⟨le_rfl, ?_⟩ | refine ⟨le_any, ?_⟩ | refine ⟨le_ro, ?_⟩ | refine ⟨le_nil (by decide), ?_⟩ | refine ⟨le_wrap (by omega) (by omega) (by omega), ?_⟩ | refine ⟨le_int (by omega), ?_⟩ | refine ⟨le_eq (by simp), ?_⟩)) ResW.void id) ⟨Nat.zero_le _, rfl, rfl, fun _ => rfl⟩ ?_
  rintro ⟨i, acc, tk⟩ hx
  dsimp only at hx ⊢
  have h1 := hx.1
  have h2 := hx.2.1
  have h3 := hx.2.2.1
  have h4 := hx.2.2.2
  have tg := tot_get (l := l) i
  rcases Nat.lt_or_ge i l.length with hi | hi
  · have hla := last_at hi
    have hd := drop_getDL hi
    rw [hd] at h3 h4
    have hbad := linesD_bad (t := l.getD i []) (r := l.drop (i + 1))
    have hok := linesD_ok (t := l.getD i []) (r := l.drop (i + 1))
    rw [← hla] at hbad hok
    generalize hX : readLine ((i : Int) + 1 == (l.length : Int)) (l.getD i []) = X at *
    repeat' (first | (with_reducible first | refine AW_seqA (AW_block ?_) | refine AW_seqA (AW_seqA ?_) | refine AW_seq ?_ | refine AW_runReg ?_ | refine AW_runCond ?_ | refine AW_runRet ?_) | simp only [WL, intF, WM, reduceCtorEq, WLb, Nat.reduceAdd, Nat.reduceLT, true_and, T39, T70, cok153, cok154, Tryz.results117, hX] | simp (disch := first | omega | (simp only [LN_]; omega)) only [wrap_id, getS] | (with_reducible first | refine andA (hb := ?_) | refine y_loadA (hK := ?_) | refine y_storeA (hK := ?_) | refine y_new (hK := fun b => ?_) | refine y_app (hlen := ?_) (hmax := ?_) (hK := fun tk => ?_) | refine y_bs (hK := ?_) | refine cD (dRead ?_ ?_) | refine cD (dFolded ?_ ?_)) | ((with_reducible first | refine grd_cases (fun h => ?_) (fun h => ?_) | refine condC_split (fun h => ?_) (fun h => ?_)) <;> (try simp only [h]) <;> (try simp only [NR_, NRb] at h)) | omega | (refine maxLen_ok ?_; (first | omega | (simp only [LN_]; omega))))
    · rw [readD_bad (h3.trans (by rw [hbad (by assumption)])) (by assumption)] at hK
      exact leafL (sub_cons (sub_cons sub_rfl)) (leT_tup (leL_two (le_nilro (by decide)) le_rfl)) hK
    · obtain ⟨k1, k2⟩ := hok (by assumption)
      exact ⟨(i + 1, acc ++ [(X.1, X.2.1)], tk), St_leW (by repeat (first | exact trivial | refine ⟨le_rfl, ?_⟩ | refine ⟨le_any, ?_⟩ | refine ⟨le_ro, ?_⟩ | refine ⟨le_nil (by decide), ?_⟩ | refine ⟨le_wrap (by omega) (by omega) (by omega), ?_⟩ | refine ⟨le_int (by omega), ?_⟩ | refine ⟨le_eq (by simp), ?_⟩)) (ResW.sub (List.sublist_cons_self _ _)) id, ⟨by dsimp only; omega, by simp [h2], h3.trans k1, fun h9 => by dsimp only at h9 ⊢; rw [h4 (by rw [k1]; exact h9), k2 h9]; simp⟩, by dsimp only; omega⟩
  · rw [List.drop_eq_nil_of_le hi] at h3 h4
    have hr := readD_ok h3
    have ha := h4 rfl
    have ht := linesD_tot l
    simp only [linesD, List.append_nil] at ha
    rw [ha] at hr ht
    repeat' (first | (with_reducible first | refine AW_seqA (AW_block ?_) | refine AW_seq ?_ | refine AW_runRet ?_) | simp only [WL, intF, WM, ne_eq, reduceCtorEq, not_false_eq_true, true_and, T39, T70, cok153, cok154, Tryz.results117] | simp (disch := first | omega | (simp only [LN_]; omega)) only [wrap_id] | (with_reducible first | refine andA (hb := ?_) | refine cD (dFolded ?_ ?_)) | ((with_reducible first | refine grd_cases (fun h => ?_) (fun h => ?_) | refine condC_split (fun h => ?_) (fun h => ?_)) <;> (try simp only [h]) <;> (try simp only [NR_, NRb] at h)) | omega)
    exact leafL (sub_cons sub_rfl) (leT_eq (by rw [hr])) hK
def aliasB (ls : List Ln) (p : Int × Int) (l : List Int) : Bool := (anchorI l).2.2 && endsF (restF ls (p.1, p.2 + ((anchorI l).2.1 + 1)))
set_option maxHeartbeats 8000000 in
theorem and2 {a b : Bool} (h1 : a = true) (h2 : b = true) : (a && b) = true := by rw [h1, h2]; rfl
set_option maxHeartbeats 8000000 in
theorem nand2 {a b : Bool} (h : a = false ∨ b = false) : (a && b) = false := by rcases h with h | h <;> rw [h] <;> simp
set_option maxHeartbeats 8000000 in
theorem jAlias0 {bj : Nat} {ls : List Ln} {n d : Int} {bk : Bool} {x y : AV} {op : List Int} {l : List EvV} {τ σ0 : List Res} {p : Int × Int} {t : List Int} (hJ : JX x y op l τ σ0) (hll : l.length ≤ 1000000000) (hs : Small ls) (hp : Pl ls p) (ht : t.length ≤ 2000)
    (h1 : aliasB ls p t = true → ∀ y' τ', JX x y' op (l ++ [⟨8, .empty, .empty, (anchorI t).1, 0, false⟩]) τ' σ0 → K (.ret (PLA (p.1, p.2 + ((anchorI t).2.1 + 1)))) (.obj bj (JC ls n bk d x y') :: τ'))
    (h2 : aliasB ls p t = false → K (.pan (wrongC 2)) (.obj bj (JC ls n bk d x y) :: τ)) : ACallF κ Tryz.prog 81 [JP bj, PLA p, SI o t] (.obj bj (JC ls n bk d x y) :: τ) K := by
  have ha := cnt_le nameI t
  have ha1 : (anchorI t).2.1 = (cnt nameI t : Nat) := rfl
  have hl := hs.1
  unfold Pl at hp
  have hA : In64 (p.1, p.2 + ((anchorI t).2.1 + 1)).1 ∧ In64 (p.1, p.2 + ((anchorI t).2.1 + 1)).2 := ⟨by dsimp only; omega, by dsimp only; omega⟩
  unfold aliasB at h1 h2
  refine ACallF.dropL (ACallF_intro Tryz.func81 rfl ?_)
  simp only [Tryz.ntmps81]
  repeat' (first | simp only [WL, intF, WM, reduceCtorEq, WLb, Nat.reduceAdd, Nat.reduceSub, Nat.reduceLT, Bool.not_true, true_and, reduceIte, Bool.false_eq_true, cok55, cok79, cok111, cok112, cok113, Tryz.results81] | simp (disch := first | omega | (simp only [LN_]; omega)) only [wrap_id] | (with_reducible first | refine andA (hb := ?_) | refine y_loadA (hK := ?_) | refine y_storeA (hK := ?_) | refine y_box (hK := fun b => ?_) | refine y_new (hK := fun b => ?_) | refine y_build (hK := ?_) | refine cD (jNeedF ?_) | refine cD (jEnds (p := (p.1, p.2 + ((anchorI t).2.1 + 1))) hs hA ?_) | refine cD (jPutV hJ hll (fun y' τ' hJ' => ?_)) | refine cD (jBehind ?_ ?_) | refine cD (jNeed (fun h => ?_) (fun h => ?_)) | refine cD (pAnchor ?_ ?_)) | ((with_reducible refine resL_id ?_); apply res_c (hf := Tryz.results81); exact y_load2) | ((with_reducible first | refine grd_cases (fun h => ?_) (fun h => ?_) | refine condC_split (fun h => ?_) (fun h => ?_)) <;> (try simp only [h]) <;> (try simp only [NR_, NRb] at h)) | omega)
  all_goals first
    | exact leafL (sub_cons (sub_cons (sub_cons sub_rfl))) (leT_eq rfl) (h1 (and2 (by assumption) (by assumption)) _ _ (by assumption))
    | exact leafP (sub_cons (sub_cons (sub_cons sub_rfl))) rfl (h2 (nand2 (by first | exact .inl (by assumption) | exact .inr (by assumption))))
    | trace_state
set_option maxHeartbeats 8000000 in
theorem jAlias {bj : Nat} {ls : List Ln} {n d : Int} {bk : Bool} {x y : AV} {op : List Int} {l : List EvV} {ρ τ σ0 : List Res} {p : Int × Int} {t : List Int} [hS : Split σ bj ρ (JC ls n bk d x y) τ] (hJ : JX x y op l τ σ0) (hll : l.length ≤ 1000000000) (hs : Small ls) (hp : Pl ls p) (ht : t.length ≤ 2000)
    (h1 : aliasB ls p t = true → ∀ y' τ', JX x y' op (l ++ [⟨8, .empty, .empty, (anchorI t).1, 0, false⟩]) τ' σ0 → K (.ret (PLA (p.1, p.2 + ((anchorI t).2.1 + 1)))) (ρ ++ .obj bj (JC ls n bk d x y') :: τ'))
    (h2 : aliasB ls p t = false → K (.pan (wrongC 2)) σ) : ACallF κ Tryz.prog 81 [JP bj, PLA p, SI o t] σ K :=
  ACallF.at_ (b := bj) (jAlias0 hJ hll hs hp ht h1 (fun h => by have := h2 h; rwa [hS.is] at this))
def closeI (l : List Int) (c : Int) : Int × Bool := if c = 34 then endD 0 l else endG 0 l
set_option maxHeartbeats 8000000 in
theorem jClosing {l : List Int} {c : Int} (hl : l.length ≤ 1000000000) (hK : K (.ret (.tup [I (closeI l c).1, B (closeI l c).2])) σ) : ACallF κ Tryz.prog 114 [SI o l, I c] σ K := by
  unfold closeI at hK
  refine ACallF.dropL (ACallF_intro Tryz.func114 rfl ?_)
  simp only [Tryz.ntmps114]
  repeat' (first | simp only [WL, intF, WM, reduceCtorEq, WLb, Nat.reduceAdd, Nat.reduceSub, Nat.reduceLT, true_and, cok149, cok150, Tryz.results114] | (with_reducible first | refine cD (dEnd ?_ ?_) | refine cD (sEnd ?_ ?_)) | ((with_reducible first | refine grd_cases (fun h => ?_) (fun h => ?_) | refine condC_split (fun h => ?_) (fun h => ?_)) <;> (try simp only [h]) <;> (try simp only [NR_, NRb] at h)) | omega)
  · rw [if_pos (by assumption)] at hK; exact leafL sub_rfl (leT_eq rfl) hK
  · rw [if_neg (by assumption)] at hK; exact leafL sub_rfl (leT_eq rfl) hK
set_option maxHeartbeats 8000000 in
theorem endD_in : ∀ (l : List Int) (k : Nat), (endD k l).2 = true → k ≤ (endD k l).1 ∧ (endD k l).1 < k + l.length
  | [], k, h => by simp [endD] at h
  | [c], k, h => by
    unfold endD at h ⊢
    split at h
    · rename_i h0; rw [if_pos h0]; simp only [List.length_cons, List.length_nil]; omega
    · cases h
  | c :: d :: r, k, h => by
    unfold endD at h ⊢
    split at h
    · rename_i h0
      rw [if_pos h0]
      have := endD_in r (k + 2) h
      simp only [List.length_cons] at *; omega
    · rename_i h0
      rw [if_neg h0]
      split at h
      · rename_i h1; rw [if_pos h1]; simp only [List.length_cons]; omega
      · rename_i h1
        rw [if_neg h1]
        have := endD_in (d :: r) (k + 1) h
        simp only [List.length_cons] at *; omega
set_option maxHeartbeats 8000000 in
theorem endG_in : ∀ (l : List Int) (k : Nat), (endG k l).2 = true → k ≤ (endG k l).1 ∧ (endG k l).1 < k + l.length
  | [], k, h => by simp [endG] at h
  | [c], k, h => by
    unfold endG at h ⊢
    split at h
    · rename_i h0; rw [if_pos h0]; simp only [List.length_cons, List.length_nil]; omega
    · cases h
  | c :: d :: r, k, h => by
    unfold endG at h ⊢
    split at h
    · rename_i h0
      rw [if_pos h0]
      split at h
      · rename_i h1
        rw [if_pos h1]
        have := endG_in r (k + 2) h
        simp only [List.length_cons] at *; omega
      · rename_i h1; rw [if_neg h1]; simp only [List.length_cons]; omega
    · rename_i h0
      rw [if_neg h0]
      have := endG_in (d :: r) (k + 1) h
      simp only [List.length_cons] at *; omega
set_option maxHeartbeats 8000000 in
theorem close_in {l : List Int} {c : Int} (h : (closeI l c).2 = true) : 0 ≤ (closeI l c).1 ∧ (closeI l c).1 < l.length := by
  unfold closeI at h ⊢
  split at h
  · rename_i h0; rw [if_pos h0]; have := endD_in l 0 h; omega
  · rename_i h0; rw [if_neg h0]; have := endG_in l 0 h; omega
def quotedN (ls : List Ln) (n c : Int) : Nat → Int × Int → List Int → List (List Int) → Except Int ((Int × Int) × List (List Int) × Int)
  | f, p, l, all =>
    if (closeI l c).2 then .ok (p, all ++ [l.take (closeI l c).1.toNat], (closeI l c).1)
    else if overF ls (p.1 + 1) then .error 2
    else if (ls.getD (p.1 + 1).toNat (0, [])).2.all blankI = false ∧ (ls.getD (p.1 + 1).toNat (0, [])).1 ≤ n then .error 7
    else match f with
      | 0 => .error 2
      | f + 1 => quotedN ls n c f (p.1 + 1, (ls.getD (p.1 + 1).toNat (0, [])).1) (ls.getD (p.1 + 1).toNat (0, [])).2 (all ++ [l])
def quotedF (ls : List Ln) (n c : Int) (q : Int × Int) : Except Int (List Int × Int × (Int × Int)) :=
  match quotedN ls n c ls.length (q.1, q.2 + 1) (restF ls (q.1, q.2 + 1)) [] with
  | .error e => .error e
  | .ok (p, all, k) =>
    if c = 34 then (if (readD all).2 = 0 then .ok ((readD all).1, 3, (p.1, p.2 + (k + 1))) else .error (readD all).2)
    else .ok (flowF (all.map und), 2, (p.1, p.2 + (k + 1)))
set_option maxHeartbeats 8000000 in
theorem quotedN_eq {ls : List Ln} {n c : Int} {f : Nat} {p : Int × Int} {l : List Int} {all : List (List Int)} : quotedN ls n c f p l all =
    if (closeI l c).2 then .ok (p, all ++ [l.take (closeI l c).1.toNat], (closeI l c).1)
    else if overF ls (p.1 + 1) then .error 2
    else if (ls.getD (p.1 + 1).toNat (0, [])).2.all blankI = false ∧ (ls.getD (p.1 + 1).toNat (0, [])).1 ≤ n then .error 7
    else match f with
      | 0 => .error 2
      | f + 1 => quotedN ls n c f (p.1 + 1, (ls.getD (p.1 + 1).toNat (0, [])).1) (ls.getD (p.1 + 1).toNat (0, [])).2 (all ++ [l]) := by
  cases f <;> rfl
set_option maxHeartbeats 8000000 in
theorem readD_len (l : List (List Int)) : (readD l).1.length ≤ tot l := by
  unfold readD
  split
  · simp
  · exact Nat.le_trans (foldD_len _) (linesD_tot l)
set_option maxHeartbeats 8000000 in
theorem tot_app (a b : List (List Int)) : tot (a ++ b) = tot a + tot b := by unfold tot; simp
set_option maxHeartbeats 8000000 in
theorem tot_one (t : List Int) : tot [t] = t.length + 1 := by unfold tot; simp
set_option maxHeartbeats 8000000 in
theorem app_ssi (a : List (List Int)) (t : List Int) : List.map (SI none) a ++ [AV.sl 1 none (List.map I t)] = List.map (SI none) (a ++ [t]) := by simp
set_option maxHeartbeats 8000000 in
theorem jQuoted0 {bj : Nat} {ls : List Ln} {n d c : Int} {bk : Bool} {x y : AV} {op : List Int} {l : List EvV} {τ σ0 : List Res} {v : TrV} {q : Int × Int} (hJ : JX x y op l τ σ0) (hll : l.length ≤ 1000000000) (hs : Small ls) (hp : Pl ls q)
    (h1 : ∀ t s e, quotedF ls n c q = .ok (t, s, e) → ∀ y' τ', JX x y' op (l ++ [⟨7, textI t, v.t, v.a, s, false⟩]) τ' σ0 → K (.ret (PLA e)) (.obj bj (JC ls n bk d x y') :: τ'))
    (h2 : ∀ e, quotedF ls n c q = .error e → K (.pan (wrongC e)) (.obj bj (JC ls n bk d x y) :: τ)) : ACallF κ Tryz.prog 82 [JP bj, PLA q, I c, TrA v] (.obj bj (JC ls n bk d x y) :: τ) K := by
  have hl := hs.1
  unfold Pl at hp
  have hq1 : In64 ((q.1, q.2 + 1) : Int × Int).1 ∧ In64 ((q.1, q.2 + 1) : Int × Int).2 := ⟨by dsimp only; omega, by dsimp only; omega⟩
  have hr := restF_len (p := (q.1, q.2 + 1)) hs
  refine ACallF.dropL (ACallF_intro Tryz.func82 rfl ?_)
  simp only [Tryz.ntmps82]
  repeat' (first | simp only [WL, WM, Nat.reduceAdd, Nat.reduceSub, Nat.reduceLT, true_and, cok33, cok55, cok114] | (with_reducible first | refine andA (hb := ?_) | refine y_loadA (hK := ?_) | refine y_storeA (hK := ?_) | refine y_box (hK := fun b => ?_) | refine y_new (hK := fun b => ?_) | refine cD (jRest (p := (q.1, q.2 + 1)) hs hq1 ?_) | refine cD (jBehind ?_ ?_) | refine cD (jClosing ?_ ?_)) | omega)
  rename_i b5 b7
  refine loop_by (fun z : (Int × Int) × List Int × List (List Int) × Option (Nat × Nat) => ⟨(JP bj :: PLA q :: I c :: TrA v :: .any :: JP b5 :: .any :: JP b7 :: JP b :: SSI (some z.2.2.2) z.2.2.1 :: SI none z.2.1 :: I (closeI z.2.1 c).1 :: B (closeI z.2.1 c).2 :: .any :: .any :: .any :: .any :: .any :: .any :: .any :: .any :: .any :: .any :: .any :: .any :: .any :: .any :: .any :: .any :: .any :: .any :: .any :: .any :: .any :: .any :: .any :: .any :: .any :: .any :: .any :: .any :: .any :: .any :: .any :: .any :: .any :: .any :: .any :: .any :: .any :: .any :: .any :: .any :: .any :: .any :: .any :: .any :: .any :: .any :: .any :: .any :: .any :: .any :: .any :: .any :: .any :: .any :: .any :: .any :: .any :: .any :: .any :: .any :: .any :: .any :: .any :: .any :: .any :: .any :: .any :: .any :: .any :: .any :: .any :: .any :: .any :: .any :: .any :: .any :: .any :: .any :: .any :: .any :: .any :: .any :: .any :: .any :: .any :: .any :: .any :: .any :: .any :: .any :: .any :: []), .tip z.2.2.2 :: .obj b [I 0, I 0] :: .obj b7 (TrC v) :: .obj b5 [I z.1.1, I z.1.2] :: .obj bj (JC ls n bk d x y) :: τ, true, []⟩)
    (fun z => (∃ f : Nat, (ls.length : Int) ≤ z.1.1 + 1 + f ∧ quotedN ls n c ls.length (q.1, q.2 + 1) (restF ls (q.1, q.2 + 1)) [] = quotedN ls n c f z.1 z.2.1 z.2.2.1) ∧ z.2.1.length ≤ 2000 ∧ tot z.2.2.1 ≤ 2001 * (z.1.1 - q.1).toNat ∧ q.1 ≤ z.1.1 ∧ z.1.1 < ls.length ∧ 0 ≤ z.1.2 ∧ z.1.2 ≤ 4001) (fun z => ((ls.length : Int) - z.1.1).toNat) ((q.1, q.2 + 1), restF ls (q.1, q.2 + 1), [], none) (St_leW (by repeat (first | exact trivial | refine ⟨le_rfl, ?_⟩ | refine ⟨le_any, ?_⟩ | refine ⟨le_ro, ?_⟩ | refine ⟨le_nil (by decide), ?_⟩ | refine ⟨le_wrap (by omega) (by omega) (by omega), ?_⟩ | refine ⟨le_int (by omega), ?_⟩ | refine ⟨le_eq (by simp), ?_⟩)) ResW.void id)
    ⟨⟨ls.length, by dsimp only; omega, rfl⟩, hr, by simp [tot], by dsimp only; omega, by dsimp only; omega, by dsimp only; omega, by dsimp only; omega⟩ ?_
  rintro ⟨⟨i, k⟩, cur, all, tk⟩ ⟨⟨f, hf, hR⟩, hc, ht, hi1, hi2, hk1, hk2⟩
  dsimp only at hf hR hc ht hi1 hi2 hk1 hk2 ⊢
  replace hR := hR.trans quotedN_eq
  dsimp only at hR
  have hal := tot_len all
  have ha := hs.at_ (i := (i + 1).toNat)
  have hac := tot_app all [cur.take (closeI cur c).1.toNat]
  rw [tot_one, List.length_take] at hac
  have hac2 := tot_app all [cur]
  rw [tot_one] at hac2
  have htt : tot all ≤ 4002000 := by omega
  cases hb : (closeI cur c).2
  · simp only [hb, Bool.false_eq_true, if_false] at hR
    cases ho : overF ls (i + 1)
    · simp only [ho, Bool.false_eq_true, if_false] at hR
      have hlt := over_in ho
      have ha := ha (by omega)
      repeat' (first | simp only [WL, intF, WM, reduceCtorEq, WLb, Nat.reduceAdd, Nat.reduceLT, Nat.reduceEqDiff, Bool.not_true, Bool.not_false, true_and, reduceIte, Bool.false_eq_true, T3, T22, T39, T52, fR fl52_0, fR fl52_1, fR fl64_0, fR fl64_1, fR fl67_0, cok79, cok110, cok114, cok115, cok116, ho, app_ssi] | simp (disch := first | omega | (simp only [LN_]; omega)) only [wrap_id, getL] | (with_reducible first | refine andA (hb := ?_) | refine y_load (hK := ?_) | refine y_loadA (hK := ?_) | refine y_storeA (hK := ?_) | refine y_new (hK := fun b => ?_) | refine y_app (hlen := ?_) (hmax := ?_) (hK := fun tk => ?_) | refine y_bs (hK := ?_) | refine y_build (hK := ?_) | refine cD (jNeedT ?_) | refine cD (jOver hs (by omega) ?_) | refine cD (jFail ?_) | refine cD (jClosing ?_ ?_) | refine cQ (lEmpty ?_ isR_mk) ?_) | ((with_reducible refine AW_phH (id := 9) [0, 1, 2, 3, 4, 5, 6, 7, 8] (some 9) [([], some 10), ([], none)] mixed ?_ ?_); kernel_rfl) | ((with_reducible apply phE_intro); intro σq hq; have hqi := has_of hq; clear hq) | (with_reducible exact isT_mk) | ((with_reducible apply phC_ops); rfl; rfl) | (with_reducible refine phQ_mk (by first | exact Has.refl | exact Has.cons Has.refl | exact Has.cons (Has.cons Has.refl)) ?_) | ((with_reducible refine AW_drawM (id := 10) 12 mixed ?_ ?_); kernel_rfl) | ((with_reducible refine AW_phS1 (id := 12) [0, 3, 4, 6, 7] (some 1) [([2, 5], some 8), ([9], none)] mixed ?_ ?_); kernel_rfl) | (with_reducible refine phQ_mk (has1 (by first | (simp; done) | fail)) ?_) | (with_reducible refine dmQ_mk ?_) | ((with_reducible first | refine grd_cases (fun h => ?_) (fun h => ?_) | refine condC_split (fun h => ?_) (fun h => ?_)) <;> (try simp only [h]) <;> (try simp only [NR_, NRb] at h)) | omega | (refine maxLen_ok ?_; (first | omega | (simp only [LN_]; omega))))
      all_goals first
        | (have he : quotedF ls n c q = .error 7 := by unfold quotedF; rw [hR, if_pos ⟨by assumption, by assumption⟩]
           exact leafP (sub_cons (sub_cons (sub_cons (sub_cons (sub_cons sub_rfl))))) rfl (h2 _ he))
        | skip
      all_goals
        rw [if_neg (by first | (intro h9; have := h9.2; omega) | exact fun h9 => Bool.false_ne_true (h9.1.symm.trans (by assumption)))] at hR
        cases f with
        | zero => exfalso; omega
        | succ f =>
        refine ⟨((i + 1, (ls.getD (i + 1).toNat (0, [])).1), (ls.getD (i + 1).toNat (0, [])).2, all ++ [cur], tk), St_leW (by repeat (first | exact trivial | refine ⟨le_rfl, ?_⟩ | refine ⟨le_any, ?_⟩ | refine ⟨le_ro, ?_⟩ | refine ⟨le_nil (by decide), ?_⟩ | refine ⟨le_wrap (by omega) (by omega) (by omega), ?_⟩ | refine ⟨le_int (by omega), ?_⟩ | refine ⟨le_eq (by simp), ?_⟩)) (ResW.sub (List.sublist_cons_self _ _)) id, ⟨⟨f, by dsimp only; omega, hR⟩, ?_, ?_, ?_, ?_, ?_, ?_⟩, ?_⟩ <;> dsimp only <;> omega
    · simp only [ho, if_true] at hR
      repeat' (first | simp only [WL, intF, WM, reduceCtorEq, WLb, Nat.reduceAdd, Nat.reduceEqDiff, Bool.not_true, Bool.not_false, true_and, T3, fR fl67_0, cok79, cok115, ho] | simp (disch := first | omega | (simp only [LN_]; omega)) only [wrap_id] | (with_reducible first | refine andA (hb := ?_) | refine y_load (hK := ?_) | refine y_app (hlen := ?_) (hmax := ?_) (hK := fun tk => ?_) | refine y_bs (hK := ?_) | refine cD (jNeedF ?_) | refine cD (jOver ?_ ?_ ?_)) | omega | (refine maxLen_ok ?_; (first | omega | (simp only [LN_]; omega))))
      have he : quotedF ls n c q = .error 2 := by unfold quotedF; rw [hR]
      exact leafP (sub_cons (sub_cons (sub_cons (sub_cons sub_rfl)))) rfl (h2 _ he)
  · simp only [hb, if_true] at hR
    have hin := close_in hb
    generalize hA : all ++ [cur.take (closeI cur c).1.toNat] = A at *
    have hac3 : tot A ≤ 100000000 := by omega
    have hrl := readD_len A
    have hfl := flowF_len (A.map und)
    have hfu := und_tot A
    have hE : quotedF ls n c q = if c = 34 then (if (readD A).2 = 0 then .ok ((readD A).1, 3, (i, k + ((closeI cur c).1 + 1))) else .error (readD A).2)
        else .ok (flowF (A.map und), 2, (i, k + ((closeI cur c).1 + 1))) := by unfold quotedF; rw [hR]
    clear hR ha hac hac2 hf
    repeat' (first | simp only [WL, intF, WM, Int.reduceToNat, reduceCtorEq, WLb, Nat.reduceAdd, Nat.reduceLT, Bool.not_true, true_and, T3, T39, cok55, cok117, cok118, cok119, cok120, Tryz.results82, app_ssi, hA] | simp (disch := first | omega | (simp only [LN_]; omega)) only [wrap_id] | (with_reducible first | refine andA (hb := ?_) | refine y_loadA (hK := ?_) | refine y_storeA (hK := ?_) | refine y_app (hlen := ?_) (hmax := ?_) (hK := fun tk => ?_) | refine y_bs (hK := ?_) | refine cD (dReadAll (l := A) hac3 ?_) | refine cD (jMustE (fun h => ?_) (fun h => ?_)) | refine cD (jScalar hJ hll (by omega) (fun y' τ' hJ' => ?_)) | refine cD (jBehind (p := (i, k)) (n := (closeI cur c).1 + 1) (by dsimp only; omega) ?_) | refine cQ (sRead ?_ isR_mk) ?_) | ((with_reducible refine resL_id ?_); apply res_c (hf := Tryz.results82); exact y_load2) | ((with_reducible apply phE_intro); intro σq hq) | (with_reducible exact isT_mk) | ((with_reducible apply phC_ops); rfl; rfl) | (with_reducible refine phQ_mk trivial ?_) | ((with_reducible refine AW_phE (id := 18) [0, 1, 2] (some 3) [([], some 4), ([], none)] (fun _ => True) trivial mixed ?_ ?_); kernel_rfl) | ((with_reducible first | refine grd_cases (fun h => ?_) (fun h => ?_) | refine condC_split (fun h => ?_) (fun h => ?_)) <;> (try simp only [h]) <;> (try simp only [NR_, NRb] at h)) | omega | (refine maxLen_ok ?_; (first | omega | (simp only [LN_]; omega))))
    all_goals first
      | exact leafP (sub_cons (sub_cons (sub_cons (sub_cons sub_rfl)))) rfl (h2 _ (hE.trans (by rw [if_pos (by assumption), if_neg (by assumption)])))
      | exact leafL (sub_cons (sub_cons (sub_cons (sub_cons sub_rfl)))) (leT_eq rfl) (h1 _ _ (i, k + ((closeI cur c).1 + 1)) (hE.trans (by rw [if_pos (by assumption), if_pos (by assumption)])) _ _ (by assumption))
      | exact leafL (sub_cons (sub_cons (sub_cons (sub_cons sub_rfl)))) (leT_eq rfl) (h1 _ _ (i, k + ((closeI cur c).1 + 1)) (hE.trans (by rw [if_neg (by assumption)])) _ _ (by assumption))
      | trace_state
set_option maxHeartbeats 8000000 in
theorem jQuoted {bj : Nat} {ls : List Ln} {n d c : Int} {bk : Bool} {x y : AV} {op : List Int} {l : List EvV} {ρ τ σ0 : List Res} {v : TrV} {q : Int × Int} [hS : Split σ bj ρ (JC ls n bk d x y) τ] (hJ : JX x y op l τ σ0) (hll : l.length ≤ 1000000000) (hs : Small ls) (hp : Pl ls q)
    (h1 : ∀ t s e, quotedF ls n c q = .ok (t, s, e) → ∀ y' τ', JX x y' op (l ++ [⟨7, textI t, v.t, v.a, s, false⟩]) τ' σ0 → K (.ret (PLA e)) (ρ ++ .obj bj (JC ls n bk d x y') :: τ'))
    (h2 : ∀ e, quotedF ls n c q = .error e → K (.pan (wrongC e)) σ) : ACallF κ Tryz.prog 82 [JP bj, PLA q, I c, TrA v] σ K :=
  ACallF.at_ (b := bj) (jQuoted0 hJ hll hs hp h1 (fun e h => by have := h2 e h; rwa [hS.is] at this))
end Go.Proofs.YtgoofaeifbfblaaGreat
/-
  The abstract layer, part H: elements that are nil.
-/

namespace Go.Abs
section
variable {κ : Ctx} {P : Program} {all rest : List Oper} {Q : Exit → St → Prop} {d : Option Tmp} {s : St} {m : MA} {x : AV} {o : Option (Option (Nat × Nat))} {sz : Nat}
theorem AAct.argsS {xs ys : List AV} {σ : List Res} {K : AV → List Res → Prop} (hl : leSL xs ys) (h : AAct κ P m ys σ K) : AAct κ P m xs σ K := fun φ g w vs hR hv => h φ g w vs hR (hv.leS hl)
/-- An element that is nil is an empty slice. -/
theorem actC_nilel (hsz : 0 < sz) (h : actC κ false P all Q d rest s m [x, .sl 1 o [.sl sz none []]]) : actC κ false P all Q d rest s m [x, .sl 1 o [nilS]] :=
  AAct.argsS (ys := [x, .sl 1 o [.sl sz none []]]) ⟨leS_rfl, leS_sl (leC_one rfl rfl (leS_le (le_nilro hsz)) trivial), trivial⟩ h
end
end Go.Abs
/-
  Walks: chapter 13, plain scalars.
-/


namespace Go.Proofs.YtgoofaeifbfblaaGreat
open Go.Abs
set_option linter.unusedVariables false
set_option linter.unusedSimpArgs false
variable {κ : Ctx} {σ : List Res} {K : Ret → List Res → Prop} {o o' : Option (Option (Nat × Nat))}
def nextL (ls : List Ln) : Nat → Int → Int
  | 0, i => i
  | f + 1, i => if overF ls i = false ∧ (ls.getD i.toNat (0, [])).2.all blankI = true then nextL ls f (i + 1) else i
set_option maxHeartbeats 8000000 in
theorem nextL_end {ls : List Ln} {i : Int} (h : ¬ (overF ls i = false ∧ (ls.getD i.toNat (0, [])).2.all blankI = true)) : ∀ f, nextL ls f i = i
  | 0 => rfl
  | f + 1 => by unfold nextL; rw [if_neg h]
set_option maxHeartbeats 8000000 in
theorem nextL_step {ls : List Ln} {i : Int} {f : Nat} (h : overF ls i = false ∧ (ls.getD i.toNat (0, [])).2.all blankI = true) (hf : (ls.length : Int) ≤ i + f) : ∃ f' : Nat, (ls.length : Int) ≤ i + 1 + f' ∧ nextL ls f i = nextL ls f' (i + 1) := by
  have h1 := over_in h.1
  cases f with
  | zero => omega
  | succ f => exact ⟨f, by omega, by rw [nextL, if_pos h]⟩
set_option maxHeartbeats 8000000 in
theorem nextL_ge {ls : List Ln} : ∀ (f : Nat) (i : Int), i ≤ nextL ls f i
  | 0, i => Int.le_refl _
  | f + 1, i => by
    unfold nextL
    split
    · have := nextL_ge (ls := ls) f (i + 1); omega
    · exact Int.le_refl _
set_option maxHeartbeats 8000000 in
theorem nextL_out {ls : List Ln} : ∀ (f : Nat) (i : Int), (ls.length : Int) ≤ i + f → overF ls (nextL ls f i) = true ∨ (ls.getD (nextL ls f i).toNat (0, [])).2.all blankI = false
  | 0, i, h => .inl (by unfold overF nextL; rw [decide_eq_true (by omega)]; rfl)
  | f + 1, i, h => by
    unfold nextL
    split
    · exact nextL_out f (i + 1) (by omega)
    · rename_i h1
      cases h2 : overF ls i
      · exact .inr (by cases h3 : (ls.getD i.toNat (0, [])).2.all blankI
                       · rfl
                       · exact absurd ⟨h2, h3⟩ h1)
      · exact .inl rfl
def furtherF (ls : List Ln) (n : Int) (ib : Bool) (line : Int) : (Int × Int) × Bool :=
  if overF ls (nextL ls ls.length (line + 1)) = true ∨ (ls.getD (nextL ls ls.length (line + 1)).toNat (0, [])).1 ≤ n then ((0, 0), false)
  else ((pastF ls (nextL ls ls.length (line + 1), 0)).1, !((pastF ls (nextL ls ls.length (line + 1), 0)).2.getD 0 0 == 35) && decide (0 < endI (pastF ls (nextL ls ls.length (line + 1), 0)).2 (!ib)))
set_option maxHeartbeats 8000000 in
theorem blN_lt {l : List Int} (h : l.all blankI = false) : blN l < l.length := by
  unfold blN
  induction l with
  | nil => simp at h
  | cons c l ih =>
    rw [List.takeWhile_cons]
    split
    · rename_i hc
      rw [List.all_cons, hc, Bool.true_and] at h
      have := ih h
      simp only [List.length_cons]; omega
    · simp
set_option maxHeartbeats 8000000 in
theorem past0 {ls : List Ln} {i : Int} (hs : Small ls) (h0 : 0 ≤ i) (h1 : i < ls.length) (h : (ls.getD i.toNat (0, [])).2.all blankI = false) : 0 < (pastF ls (i, 0)).2.length := by
  have ha := hs.at_ (i := i.toNat) (by omega)
  have hc : colF ls (i, 0) = (ls.getD i.toNat (0, [])).1 := by unfold colF; rw [if_pos ⟨h0, h1⟩]; dsimp only; omega
  have hr : restF ls (i, colF ls (i, 0)) = (ls.getD i.toNat (0, [])).2 := by
    rw [hc, restF_in (by dsimp only; omega) (by dsimp only; omega) (by dsimp only; omega), if_neg (by dsimp only; omega)]
    dsimp only
    rw [show (min ((ls.getD i.toNat (0, [])).1 - max 0 (ls.getD i.toNat (0, [])).1) ((ls.getD i.toNat (0, [])).2.length : Int)).toNat = 0 by omega, List.drop_zero]
  unfold pastF
  dsimp only
  rw [hr, List.length_drop]
  have := blN_lt h
  omega
set_option maxHeartbeats 8000000 in
theorem further_q {ls : List Ln} {n line : Int} {ib : Bool} {q : Int × Int} (hs : Small ls) (h0 : 0 ≤ line) (h : furtherF ls n ib line = (q, true)) : Pl ls q ∧ line < q.1 ∧ 0 < (restF ls q).length ∧ blankAt (restF ls q) = false := by
  unfold furtherF at h
  split at h
  · cases h
  · rename_i hn
    have h1 := nextL_ge (ls := ls) ls.length (line + 1)
    have h2 := nextL_out (ls := ls) ls.length (line + 1) (by omega)
    generalize nextL ls ls.length (line + 1) = i at *
    have h3 : overF ls i = false := by cases e : overF ls i
                                       · rfl
                                       · exact absurd (.inl e) hn
    have h4 := past0 hs (by omega) (over_in h3) (h2.resolve_left (by rw [h3]; decide))
    obtain ⟨rfl, -⟩ := Prod.mk.inj h
    have h5 := past_rest hs h4
    refine ⟨Pl.of_rest hs (by rw [h5]; exact h4), by rw [pastF_line]; dsimp only; omega, by rw [h5]; exact h4, by rw [h5]; exact blankAt_past⟩
set_option maxHeartbeats 8000000 in
theorem further_rng {ls : List Ln} {n line : Int} {ib : Bool} (hs : Small ls) (h0 : 0 ≤ line) : 0 ≤ (furtherF ls n ib line).1.1 ∧ (furtherF ls n ib line).1.1 ≤ 2000 := by
  unfold furtherF
  split
  · exact ⟨Int.le_refl _, by decide⟩
  · rename_i hn
    have h1 := nextL_ge (ls := ls) ls.length (line + 1)
    generalize nextL ls ls.length (line + 1) = i at *
    have h3 : overF ls i = false := by cases e : overF ls i
                                       · rfl
                                       · exact absurd (.inl e) hn
    have h4 := over_in h3
    have h5 := hs.1
    dsimp only
    rw [pastF_line]
    dsimp only
    omega
set_option maxHeartbeats 8000000 in
theorem jFurther {bj : Nat} {ls : List Ln} {n d : Int} {bk : Bool} {x y : AV} {op : List Int} {l : List EvV} {ρ τ σ0 : List Res} {i : Int} [hS : Split σ bj ρ (JC ls n bk d x y) τ] (hJ : JX x y op l τ σ0) (hl : op.length ≤ 1000000000) (hs : Small ls) (hi : 0 ≤ i ∧ i ≤ 1000000000)
    (hK : K (.ret (.tup [PLA (furtherF ls n (bk && decide (op.length = 0)) i).1, B (furtherF ls n (bk && decide (op.length = 0)) i).2])) σ) : ACallF κ Tryz.prog 132 [JP bj, I i] σ K := by
  haveI hH := split_hold hS
  have hlen := hs.1
  refine ACallF.dropL (ACallF_intro Tryz.func132 rfl ?_)
  simp only [Tryz.ntmps132]
  repeat' (first | simp only [WL, intF, WM, reduceCtorEq, WLb, Nat.reduceAdd, Nat.reduceSub] | simp (disch := first | omega | (simp only [LN_]; omega)) only [wrap_id] | with_reducible refine y_new (hK := fun b => ?_))
  refine loop_by (fun k : Int => ⟨(JP bj :: I k :: .any :: .any :: JP b :: B false :: .any :: .any :: .any :: .any :: .any :: .any :: .any :: .any :: .any :: .any :: .any :: .any :: .any :: .any :: .any :: .any :: .any :: .any :: .any :: .any :: .any :: .any :: .any :: .any :: .any :: .any :: .any :: .any :: .any :: .any :: .any :: .any :: .any :: .any :: .any :: .any :: .any :: .any :: .any :: .any :: .any :: .any :: .any :: .any :: .any :: .any :: .any :: .any :: .any :: .any :: .any :: .any :: .any :: .any :: .any :: .any :: .any :: .any :: .any :: []), .obj b [I 0, I 0] :: σ, true, []⟩) (fun k => (∃ f : Nat, (ls.length : Int) ≤ k + f ∧ nextL ls ls.length (i + 1) = nextL ls f k) ∧ 0 ≤ k ∧ k ≤ 1000000001) (fun k => ((ls.length : Int) - k).toNat) (i + 1) (St_le_same (by repeat (first | exact trivial | refine ⟨le_rfl, ?_⟩ | refine ⟨le_any, ?_⟩ | refine ⟨le_ro, ?_⟩ | refine ⟨le_nil (by decide), ?_⟩ | refine ⟨le_wrap (by omega) (by omega) (by omega), ?_⟩ | refine ⟨le_int (by omega), ?_⟩ | refine ⟨le_eq (by simp), ?_⟩)) id) ⟨⟨ls.length, by omega, rfl⟩, by omega, by omega⟩ ?_
  rintro k ⟨⟨f, hf, hR⟩, hk0, hk1⟩
  by_cases hc : overF ls k = false ∧ (ls.getD k.toNat (0, [])).2.all blankI = true
  · have hlt := over_in hc.1
    have ha := hs.at_ (i := k.toNat) (by omega)
    have ho := hc.1
    have he := hc.2
    repeat' (first | simp only [WL, intF, WM, reduceCtorEq, WLb, Nat.reduceAdd, Nat.reduceEqDiff, Bool.not_false, true_and, reduceIte, T22, T52, fR fl64_0, cok115, cok116, ho, he] | simp (disch := first | omega | (simp only [LN_]; omega)) only [wrap_id, getL] | (with_reducible first | refine andA (hb := ?_) | refine y_load (hK := ?_) | refine cD (jOver hs (by omega) ?_) | refine cD (lEmpty ?_ ?_)) | omega)
    obtain ⟨f', hf', hst⟩ := nextL_step hc hf
    exact ⟨k + 1, St_le_same (by repeat (first | exact trivial | refine ⟨le_rfl, ?_⟩ | refine ⟨le_any, ?_⟩ | refine ⟨le_ro, ?_⟩ | refine ⟨le_nil (by decide), ?_⟩ | refine ⟨le_wrap (by omega) (by omega) (by omega), ?_⟩ | refine ⟨le_int (by omega), ?_⟩ | refine ⟨le_eq (by simp), ?_⟩)) id, ⟨⟨f', hf', hR.trans hst⟩, by omega, by omega⟩, by omega⟩
  · rw [nextL_end hc] at hR
    unfold furtherF at hK
    rw [hR] at hK
    cases ho : overF ls k
    · have hlt := over_in ho
      have he : (ls.getD k.toNat (0, [])).2.all blankI = false := by
        cases e : (ls.getD k.toNat (0, [])).2.all blankI
        · rfl
        · exact absurd ⟨ho, e⟩ hc
      have ha := hs.at_ (i := k.toNat) (by omega)
      have hp0 := past0 hs hk0 hlt he
      have hpl := pastF_le (p := (k, 0)) hs
      have hin : In64 ((k, 0) : Int × Int).1 ∧ In64 ((k, 0) : Int × Int).2 := ⟨by dsimp only; omega, by dsimp only; omega⟩
      have hmem : Res.obj bj (JC ls n bk d x y) ∈ σ := by rw [hS.is]; simp
      obtain ⟨ρx, hR1⟩ := hJ.row
      cases e35 : ((pastF ls (k, 0)).2.getD 0 0 == 35)
      all_goals
        have e36 : ((pastF ls (k, 0)).2.getD 0 0 != 35) = !((pastF ls (k, 0)).2.getD 0 0 == 35) := rfl
        rw [e35] at e36
        repeat' (first | simp only [WL, intF, WM, Int.reduceToNat, reduceCtorEq, WLb, Nat.reduceAdd, Nat.reduceLT, Nat.reduceLeDiff, Nat.reduceEqDiff, Bool.not_true, Bool.not_false, true_and, reduceIte, Bool.false_eq_true, T3, T22, T39, T52, fC fl52_0, fR fl64_0, fR fl64_1, cok36, cok85, cok115, cok116, cok130, Tryz.results132, ho, he, e36] | simp (disch := first | omega | (simp only [LN_]; omega)) only [getI, getL, getI] | (with_reducible first | refine andA (hb := ?_) | refine y_load (hK := ?_) | refine y_loadA (hK := ?_) | refine y_storeA (hK := ?_) | refine y_new (hK := fun b => ?_) | refine y_build (hK := ?_) | refine cD (jOver hs (by omega) ?_) | refine cD (jPast (p := (k, 0)) hs hin ?_) | refine callD_q (jInBlockH hR1 hl isR_mk) ?_ | refine cQ (jOver ?_ ?_ isR_mk) ?_ | refine cD (lEmpty ?_ ?_) | refine cQ (pEnd ?_ isR_mk) ?_) | ((with_reducible refine resL_id ?_); apply res_ct (hf := Tryz.results132); exact y_load2) | ((with_reducible refine AW_drawM (id := 4) 18 mixed ?_ ?_); kernel_rfl) | ((with_reducible refine AW_phM (r2 := .obj bj (JC ls n bk d x y)) (id := 7) [0, 1, 2, 3, 4, 5, 6, 7, 8, 9, 10, 11, 12] (some 13) [([14], none)] (by simp [hmem]) mixed ?_ ?_); kernel_rfl) | ((with_reducible apply phE_intro); intro σq hq; have hqi := has_of hq; clear hq) | (with_reducible exact isT_mk) | ((with_reducible apply phC_ops); rfl; rfl) | (with_reducible refine phQ_mk (has2 (by first | (simp; done) | fail) (by first | (simp [hmem]; done) | fail)) ?_) | (with_reducible refine dmQ_mk ?_) | ((with_reducible first | refine grd_cases (fun h => ?_) (fun h => ?_) | refine condC_split (fun h => ?_) (fun h => ?_)) <;> (try simp only [h]) <;> (try simp only [NR_, NRb] at h)) | omega)
      all_goals first
        | (rw [if_pos (.inr (by assumption))] at hK
           exact leafL (sub_cons sub_rfl) (leT_eq rfl) hK)
        | (rw [if_neg (by rw [ho]; simp only [Bool.false_eq_true, false_or]; omega), e35] at hK
           exact leafL (sub_cons (sub_cons sub_rfl)) (leT_eq (by simp)) hK)
        | trace_state
    · rw [if_pos (.inl ho)] at hK
      repeat' (first | simp only [WL, WM, Nat.reduceAdd, Bool.not_true, true_and, reduceIte, Bool.false_eq_true, cok115, Tryz.results132, ho] | (with_reducible first | refine y_storeA (hK := ?_) | refine y_build (hK := ?_) | refine cD (jOver hs (by omega) ?_) | refine cQ (jOver ?_ ?_ isR_mk) ?_) | ((with_reducible refine resL_id ?_); apply res_ct (hf := Tryz.results132); exact y_load2) | ((with_reducible refine AW_drawM (id := 4) 18 mixed ?_ ?_); kernel_rfl) | (with_reducible refine dmQ_mk ?_) | omega)
      exact leafL (sub_cons sub_rfl) (leT_eq rfl) hK
def plainN (ls : List Ln) (n : Int) (ib : Bool) : Nat → Int × Int → List Int → List (List Int) → Except Int (List (List Int) × (Int × Int))
  | f, p, l, all =>
    if 0 < all.length ∧ ib = true ∧ 0 ≤ keyI l false then .error 2
    else if (pastF ls (p.1, p.2 + (endI l (!ib) : Nat))).2.length = 0 ∧ (furtherF ls n ib p.1).2 = true then
      (match f with
       | 0 => .error 2
       | f + 1 => plainN ls n ib f (furtherF ls n ib p.1).1 (restF ls (furtherF ls n ib p.1).1) (all ++ [l.take (endI l (!ib))] ++ List.replicate ((furtherF ls n ib p.1).1.1 - p.1 - 1).toNat []))
    else .ok (all ++ [l.take (endI l (!ib))], (p.1, p.2 + (endI l (!ib) : Nat)))
set_option maxHeartbeats 8000000 in
theorem plainN_eq {ls : List Ln} {n : Int} {ib : Bool} {f : Nat} {p : Int × Int} {l : List Int} {all : List (List Int)} : plainN ls n ib f p l all =
    if 0 < all.length ∧ ib = true ∧ 0 ≤ keyI l false then .error 2
    else if (pastF ls (p.1, p.2 + (endI l (!ib) : Nat))).2.length = 0 ∧ (furtherF ls n ib p.1).2 = true then
      (match f with
       | 0 => .error 2
       | f + 1 => plainN ls n ib f (furtherF ls n ib p.1).1 (restF ls (furtherF ls n ib p.1).1) (all ++ [l.take (endI l (!ib))] ++ List.replicate ((furtherF ls n ib p.1).1.1 - p.1 - 1).toNat []))
    else .ok (all ++ [l.take (endI l (!ib))], (p.1, p.2 + (endI l (!ib) : Nat))) := by
  cases f <;> rfl
def plainF (ls : List Ln) (n : Int) (ib : Bool) (p : Int × Int) (l : List Int) : Except Int (List Int × (Int × Int)) :=
  match plainN ls n ib ls.length p l [] with
  | .error e => .error e
  | .ok (all, e) => .ok (flowF all, e)
set_option maxHeartbeats 8000000 in
theorem jPlain0 {bj : Nat} {ls : List Ln} {n d : Int} {bk : Bool} {x y : AV} {op : List Int} {l : List EvV} {τ σ0 : List Res} {v : TrV} {q : Int × Int} {t : List Int} (hJ : JX x y op l τ σ0) (hll : l.length ≤ 1000000000) (hlo : op.length ≤ 1000000000) (hs : Small ls) (hp : Pl ls q) (ht : t.length ≤ 2000)
    (h1 : ∀ s e, plainF ls n (bk && decide (op.length = 0)) q t = .ok (s, e) → ∀ y' τ', JX x y' op (l ++ [⟨7, textI s, v.t, v.a, 1, false⟩]) τ' σ0 → K (.ret (PLA e)) (.obj bj (JC ls n bk d x y') :: τ'))
    (h2 : ∀ e, plainF ls n (bk && decide (op.length = 0)) q t = .error e → K (.pan (wrongC e)) (.obj bj (JC ls n bk d x y) :: τ)) : ACallF κ Tryz.prog 86 [JP bj, PLA q, SI o t, TrA v] (.obj bj (JC ls n bk d x y) :: τ) K := by
  have hl := hs.1
  unfold Pl at hp
  generalize hib : (bk && decide (op.length = 0)) = ib at *
  refine ACallF.dropL (ACallF_introA Tryz.func86 rfl ?_)
  simp only [Tryz.ntmps86]
  repeat' (first | (with_reducible first | refine AW_block ?_ | refine cut_loop ?_ | refine AW_seq ?_) | simp only [WL, WM, Nat.reduceAdd, Nat.reduceSub] | (with_reducible first | refine y_box (hK := fun b => ?_) | refine y_new (hK := fun b => ?_)))
  rename_i b5 b7
  obtain ⟨b8, hb8⟩ : ∃ b8, b8 = b := ⟨b, rfl⟩
  subst hb8
  refine loopA (fun z : (Int × Int) × List Int × List (List Int) × Option (Nat × Nat) => ⟨(JP bj :: PLA q :: SI none z.2.1 :: TrA v :: .any :: JP b5 :: .any :: JP b7 :: JP b8 :: SSI (some z.2.2.2) z.2.2.1 :: .any :: .any :: .any :: .any :: .any :: .any :: .any :: .any :: .any :: .any :: .any :: .any :: .any :: .any :: .any :: .any :: .any :: .any :: .any :: .any :: .any :: .any :: .any :: .any :: .any :: .any :: .any :: .any :: .any :: .any :: .any :: .any :: .any :: .any :: .any :: .any :: .any :: .any :: .any :: .any :: .any :: .any :: .any :: .any :: .any :: .any :: .any :: .any :: .any :: .any :: .any :: .any :: .any :: .any :: .any :: .any :: .any :: .any :: .any :: .any :: .any :: .any :: .any :: .any :: .any :: .any :: .any :: .any :: .any :: .any :: .any :: .any :: []), .tip z.2.2.2 :: .obj b8 [I 0, I 0] :: .obj b7 (TrC v) :: .obj b5 [I z.1.1, I z.1.2] :: .obj bj (JC ls n bk d x y) :: τ, true, []⟩)
    (fun z => (∃ f : Nat, (ls.length : Int) ≤ z.1.1 + f ∧ plainN ls n ib ls.length q t [] = plainN ls n ib f z.1 z.2.1 z.2.2.1) ∧ z.2.1.length ≤ 2000 ∧ tot z.2.2.1 ≤ 2001 * (z.1.1 - q.1).toNat ∧ q.1 ≤ z.1.1 ∧ z.1.1 < ls.length ∧ 0 ≤ z.1.2 ∧ z.1.2 ≤ 4000) (fun z => ((ls.length : Int) - z.1.1).toNat) (q, t, [], none) (St_leW (by repeat (first | exact trivial | refine ⟨le_rfl, ?_⟩ | refine ⟨le_any, ?_⟩ | refine ⟨le_ro, ?_⟩ | refine ⟨le_nil (by decide), ?_⟩ | refine ⟨le_wrap (by omega) (by omega) (by omega), ?_⟩ | refine ⟨le_int (by omega), ?_⟩ | refine ⟨le_eq (by simp), ?_⟩)) ResW.void id)
    ⟨⟨ls.length, by dsimp only; omega, rfl⟩, ht, by simp [tot], by dsimp only; omega, by dsimp only; omega, by dsimp only; omega, by dsimp only; omega⟩ ?_
  rintro ⟨⟨i, k⟩, cur, all, tk⟩ ⟨⟨f, hf, hR⟩, hc, htt, hi1, hi2, hk1, hk2⟩
  dsimp only at hf hR hc htt hi1 hi2 hk1 hk2 ⊢
  replace hR := hR.trans plainN_eq
  dsimp only at hR
  have hal := tot_len all
  have hen := endI_le (l := cur) (fl := !ib)
  repeat' (first | (with_reducible first | refine cut_unit (id := 3) ?_ | refine AW_block ?_ | refine AW_seq ?_) | simp only [WL, WM, true_and, cok85, cok130, hib] | (with_reducible first | refine cD (jInBlock hJ hlo ?_) | refine cD (pEnd ?_ ?_)) | omega)
  refine midA (fun _ : Unit => ⟨(JP bj :: PLA q :: SI none cur :: TrA v :: .any :: JP b5 :: .any :: JP b7 :: JP b8 :: SSI (some tk) all :: I (endI cur (!ib) : Nat) :: .any :: .any :: .any :: .any :: .any :: .any :: .any :: .any :: .any :: .any :: .any :: .any :: .any :: .any :: .any :: .any :: .any :: .any :: .any :: .any :: .any :: .any :: .any :: .any :: .any :: .any :: .any :: .any :: .any :: .any :: .any :: .any :: .any :: .any :: .any :: .any :: .any :: .any :: .any :: .any :: .any :: .any :: .any :: .any :: .any :: .any :: .any :: .any :: .any :: .any :: .any :: .any :: .any :: .any :: .any :: .any :: .any :: .any :: .any :: .any :: .any :: .any :: .any :: .any :: .any :: .any :: .any :: .any :: .any :: .any :: .any :: []), .tip tk :: .obj b8 [I 0, I 0] :: .obj b7 (TrC v) :: .obj b5 [I i, I k] :: .obj bj (JC ls n bk d x y) :: τ, true, []⟩) (fun _ => ¬ (0 < all.length ∧ ib = true ∧ 0 ≤ keyI cur false)) ?_ ?_
  · cases ib
    all_goals
      repeat' (first | (with_reducible first | refine AW_seq ?_ | refine AW_runCond ?_) | simp only [WL, intF, WM, ne_eq, reduceCtorEq, not_false_eq_true, Bool.not_true, Bool.not_false, true_and, reduceIte, Bool.false_eq_true, T70, cok79, cok85, cok131, hib] | (with_reducible first | refine cD (jInBlock hJ hlo ?_) | refine cD (jNeed (fun h => ?_) (fun h => ?_)) | refine cD (pKey ?_ ?_)) | ((with_reducible first | refine grd_cases (fun h => ?_) (fun h => ?_) | refine condC_split (fun h => ?_) (fun h => ?_)) <;> (try simp only [h]) <;> (try simp only [NR_, NRb] at h)) | omega)
    all_goals first
      | (have hk : 0 ≤ keyI cur false := by have := of_decide_eq_false (by assumption : decide (keyI cur false < 0) = false); omega
         rw [if_pos ⟨by omega, rfl, hk⟩] at hR
         exact leafP (sub_cons (sub_cons (sub_cons (sub_cons sub_rfl)))) rfl (h2 _ (by unfold plainF; rw [hR])))
      | exact ⟨(), St_le_same (by repeat (first | exact trivial | refine ⟨le_rfl, ?_⟩ | refine ⟨le_any, ?_⟩ | refine ⟨le_ro, ?_⟩ | refine ⟨le_nil (by decide), ?_⟩ | refine ⟨le_wrap (by omega) (by omega) (by omega), ?_⟩ | refine ⟨le_int (by omega), ?_⟩ | refine ⟨le_eq (by simp), ?_⟩)) id, fun h9 => by omega⟩
      | exact ⟨(), St_le_same (by repeat (first | exact trivial | refine ⟨le_rfl, ?_⟩ | refine ⟨le_any, ?_⟩ | refine ⟨le_ro, ?_⟩ | refine ⟨le_nil (by decide), ?_⟩ | refine ⟨le_wrap (by omega) (by omega) (by omega), ?_⟩ | refine ⟨le_int (by omega), ?_⟩ | refine ⟨le_eq (by simp), ?_⟩)) id, fun h9 => by simp at h9⟩
      | skip
    all_goals
      have h8 := of_decide_eq_true (by assumption : decide (keyI cur false < 0) = true)
      exact ⟨(), St_le_same (by repeat (first | exact trivial | refine ⟨le_rfl, ?_⟩ | refine ⟨le_any, ?_⟩ | refine ⟨le_ro, ?_⟩ | refine ⟨le_nil (by decide), ?_⟩ | refine ⟨le_wrap (by omega) (by omega) (by omega), ?_⟩ | refine ⟨le_int (by omega), ?_⟩ | refine ⟨le_eq (by simp), ?_⟩)) id, fun h9 => by omega⟩
  · intro _ hn
    rw [if_neg hn] at hR
    have hbe : In64 ((i, k + ((endI cur (!ib) : Nat) : Int)) : Int × Int).1 ∧ In64 ((i, k + ((endI cur (!ib) : Nat) : Int)) : Int × Int).2 := ⟨by dsimp only; omega, by dsimp only; omega⟩
    have hac := tot_app all [cur.take (endI cur (!ib))]
    rw [tot_one, List.length_take] at hac
    generalize hA : all ++ [cur.take (endI cur (!ib))] = A at *
    have hfl := flowF_len A
    have hfq := fun (e : (furtherF ls n ib i).2 = true) => further_q (q := (furtherF ls n ib i).1) hs (by omega) (Prod.ext rfl e)
    have hfr := further_rng (ls := ls) (n := n) (ib := ib) hs (show 0 ≤ i by omega)
    repeat' (first | (with_reducible first | refine AW_block ?_ | refine cut_loop ?_ | refine AW_seqA (AW_seqA ?_) | refine AW_seq ?_ | refine AW_runReg ?_ | refine AW_runCond ?_) | simp only [WL, intF, WM, Int.reduceToNat, reduceCtorEq, WLb, Nat.reduceAdd, Nat.reduceLT, Nat.reduceEqDiff, Bool.not_false, true_and, T3, T39, fR fl67_0, cok36, cok55, cok119, cok132, cok133, Tryz.results86, hib, app_ssi, hA] | simp (disch := first | omega | (simp only [LN_]; omega)) only [wrap_id] | (with_reducible first | refine andA (hb := ?_) | refine y_load (hK := ?_) | refine y_loadA (hK := ?_) | refine y_storeA (hK := ?_) | refine y_new (hK := fun b => ?_) | refine y_app (hlen := ?_) (hmax := ?_) (hK := fun tk => ?_) | refine y_bs (hK := ?_) | refine y_build (hK := ?_) | refine cD (jPast hs hbe ?_) | refine cD (jBehind (p := (i, k)) (n := ((endI cur (!ib) : Nat) : Int)) (by dsimp only; omega) ?_) | refine cD (jFurther hJ hlo hs (by omega) ?_) | refine cD (jScalar hJ hll (by omega) (fun y' τ' hJ' => ?_)) | refine cQ (flow ?_ isR_mk) ?_) | ((with_reducible refine resL_id ?_); apply res_c (hf := Tryz.results86); exact y_load2) | ((with_reducible refine AW_phE (id := 12) [0, 1, 2] (some 3) [([], some 4), ([], none)] (fun _ => True) trivial mixed ?_ ?_); kernel_rfl) | ((with_reducible apply phE_intro); intro σq hq) | (with_reducible exact isT_mk) | ((with_reducible apply phC_ops); rfl; rfl) | (with_reducible refine phQ_mk trivial ?_) | ((with_reducible first | refine grd_cases (fun h => ?_) (fun h => ?_) | refine condC_split (fun h => ?_) (fun h => ?_)) <;> (try simp only [h]) <;> (try simp only [NR_, NRb] at h)) | omega | (refine maxLen_ok ?_; (first | omega | (simp only [LN_]; omega))))
    all_goals first
      | (rw [if_neg (by first | (intro h9; have := h9.1; omega) | exact fun h9 => Bool.false_ne_true ((by assumption : (furtherF ls n ib i).2 = false).symm.trans h9.2))] at hR
         exact leafL (by repeat (first | exact sub_rfl | refine sub_cons ?_)) (leT_eq rfl) (h1 (flowF A) (i, k + (endI cur (!ib) : Nat)) (by unfold plainF; rw [hR]) _ _ (by assumption)))
      | skip
    rename_i c11 c12 hm
    obtain ⟨g1, g2, g3, -⟩ := hfq h
    rw [if_pos ⟨by omega, h⟩] at hR
    have g4 := restF_len (p := (furtherF ls n ib i).1) hs
    generalize hq2 : (furtherF ls n ib i).1 = q2 at *
    unfold Pl at g1
    cases f with
    | zero => exfalso; omega
    | succ f =>
    refine loopA (fun z : Nat × Option (Nat × Nat) => ⟨(JP bj :: PLA q :: SI none cur :: TrA v :: .any :: JP b5 :: .any :: JP b7 :: JP b8 :: SSI (some z.2) (A ++ List.replicate z.1 []) :: .any :: .any :: JP c12 :: .any :: .any :: .any :: .any :: .any :: .any :: .any :: .any :: .any :: .any :: .any :: .any :: .any :: .any :: .any :: .any :: .any :: .any :: .any :: .any :: .any :: .any :: .any :: .any :: .any :: .any :: .any :: .any :: .any :: .any :: .any :: .any :: .any :: .any :: .any :: .any :: .any :: .any :: .any :: .any :: .any :: .any :: .any :: .any :: .any :: .any :: .any :: .any :: .any :: .any :: .any :: .any :: .any :: .any :: .any :: .any :: .any :: .any :: I (q2.1 - i - 1) :: I z.1 :: .any :: .any :: .any :: .any :: .any :: .any :: .any :: .any :: .any :: []), .obj b [I (pastF ls (i, k + (endI cur (!ib) : Nat))).1.1, I (pastF ls (i, k + (endI cur (!ib) : Nat))).1.2] :: .obj c12 [I q2.1, I q2.2] :: .obj c11 [I i, I (k + (endI cur (!ib) : Nat))] :: .tip z.2 :: .obj b8 [I 0, I 0] :: .obj b7 (TrC v) :: .obj b5 [I i, I k] :: .obj bj (JC ls n bk d x y) :: τ, true, []⟩) (fun z => (z.1 : Int) ≤ q2.1 - i - 1) (fun z => (q2.1 - i - 1).toNat - z.1) (0, tk) ?_ (by dsimp only; omega) ?_
    · exact St_le_same (by simp only [List.replicate_zero, List.append_nil]; repeat (first | exact trivial | refine ⟨le_rfl, ?_⟩ | refine ⟨le_any, ?_⟩ | refine ⟨le_ro, ?_⟩ | refine ⟨le_nil (by decide), ?_⟩ | refine ⟨le_wrap (by omega) (by omega) (by omega), ?_⟩ | refine ⟨le_int (by omega), ?_⟩ | refine ⟨le_eq (by simp), ?_⟩)) id
    rintro ⟨m, tk2⟩ h9
    dsimp only at h9 ⊢
    have hAl := tot_len A
    have hAm : (A ++ List.replicate m ([] : List Int)).length ≤ 10000000 := by rw [List.length_append, List.length_replicate]; omega
    have hnx : List.map (SI none) (A ++ List.replicate m []) ++ [AV.sl 1 none []] = List.map (SI none) (A ++ List.replicate (m + 1) []) := by rw [List.replicate_succ', ← List.append_assoc, List.map_append (l₂ := [[]])]; rfl
    repeat' (first | ( with_reducible refine actC_nilel (sz := 1) (by decide) ?_) | (with_reducible first | refine AW_seqA (AW_block ?_) | refine AW_seq ?_ | refine AW_runReg ?_) | simp only [WL, intF, WM, reduceCtorEq, WLb, Nat.reduceAdd, true_and, cok33, hnx] | simp (disch := first | omega | (simp only [LN_]; omega)) only [wrap_id] | (with_reducible first | refine y_loadA (hK := ?_) | refine y_storeA (hK := ?_) | refine y_app (hlen := ?_) (hmax := ?_) (hK := fun tk => ?_) | refine y_bs (hK := ?_) | refine cD (jRest (p := q2) hs ⟨by omega, by omega⟩ ?_)) | ((with_reducible refine AW_phS2 (id := 18) [0, 1, 2] (some 3) [([], some 4), ([5], none)] mixed ?_ ?_); kernel_rfl) | ((with_reducible apply phE_intro); intro σq hq; have hqi := has_of hq; clear hq) | (with_reducible exact isT_mk) | ((with_reducible apply phC_ops); rfl; rfl) | (with_reducible refine phQ_mk (has2 (by first | (simp; done) | fail) (by first | (simp; done) | fail)) ?_) | ((with_reducible first | refine grd_cases (fun h => ?_) (fun h => ?_) | refine condC_split (fun h => ?_) (fun h => ?_)) <;> (try simp only [h]) <;> (try simp only [NR_, NRb] at h)) | omega | (refine maxLen_ok ?_; (first | omega | (simp only [LN_]; omega))))
    · exact ⟨(m + 1, tk), St_le_same (by repeat (first | exact trivial | refine ⟨le_rfl, ?_⟩ | refine ⟨le_any, ?_⟩ | refine ⟨le_ro, ?_⟩ | refine ⟨le_nil (by decide), ?_⟩ | refine ⟨le_wrap (by omega) (by omega) (by omega), ?_⟩ | refine ⟨le_int (by omega), ?_⟩ | refine ⟨le_eq (by simp), ?_⟩)) id, by dsimp only; omega, by dsimp only; omega⟩
    · obtain rfl : m = (q2.1 - i - 1).toNat := by omega
      have htA := tot_app A (List.replicate (q2.1 - i - 1).toNat [])
      have htr : tot (List.replicate (q2.1 - i - 1).toNat ([] : List Int)) = (q2.1 - i - 1).toNat := by simp [tot]
      exact ⟨(q2, restF ls q2, A ++ List.replicate (q2.1 - i - 1).toNat [], tk2), St_leW (by repeat (first | exact trivial | refine ⟨le_rfl, ?_⟩ | refine ⟨le_any, ?_⟩ | refine ⟨le_ro, ?_⟩ | refine ⟨le_nil (by decide), ?_⟩ | refine ⟨le_wrap (by omega) (by omega) (by omega), ?_⟩ | refine ⟨le_int (by omega), ?_⟩ | refine ⟨le_eq (by simp), ?_⟩)) (ResW.sub ((List.sublist_cons_self _ _).trans ((List.sublist_cons_self _ _).trans (List.sublist_cons_self _ _)))) id, ⟨⟨f, by dsimp only; omega, hR⟩, g4, by dsimp only; omega, by dsimp only; omega, by dsimp only; omega, by dsimp only; omega, by dsimp only; omega⟩, by dsimp only; omega⟩
set_option maxHeartbeats 8000000 in
theorem jPlain {bj : Nat} {ls : List Ln} {n d : Int} {bk : Bool} {x y : AV} {op : List Int} {l : List EvV} {ρ τ σ0 : List Res} {v : TrV} {q : Int × Int} {t : List Int} [hS : Split σ bj ρ (JC ls n bk d x y) τ] (hJ : JX x y op l τ σ0) (hll : l.length ≤ 1000000000) (hlo : op.length ≤ 1000000000) (hs : Small ls) (hp : Pl ls q) (ht : t.length ≤ 2000)
    (h1 : ∀ s e, plainF ls n (bk && decide (op.length = 0)) q t = .ok (s, e) → ∀ y' τ', JX x y' op (l ++ [⟨7, textI s, v.t, v.a, 1, false⟩]) τ' σ0 → K (.ret (PLA e)) (ρ ++ .obj bj (JC ls n bk d x y') :: τ'))
    (h2 : ∀ e, plainF ls n (bk && decide (op.length = 0)) q t = .error e → K (.pan (wrongC e)) σ) : ACallF κ Tryz.prog 86 [JP bj, PLA q, SI o t, TrA v] σ K :=
  ACallF.at_ (b := bj) (jPlain0 hJ hll hlo hs hp ht h1 (fun e h => by have := h2 e h; rwa [hS.is] at this))
end Go.Proofs.YtgoofaeifbfblaaGreat
/-
  Chapter 13: nodes, as plain functions; nothing of the program is walked here.
-/

namespace Go.Proofs.YtgoofaeifbfblaaGreat
open Go.Abs
set_option linter.unusedVariables false
set_option linter.unusedSimpArgs false
abbrev NodeR := Except Int (List EvV × (Int × Int) × Bool)
abbrev PartR := Except Int (List EvV × (Int × Int))
abbrev emptyE (v : TrV) : EvV := ⟨7, .empty, v.t, v.a, 1, false⟩
abbrev openE (k : Int) (v : TrV) : EvV := ⟨k, .empty, v.t, v.a, 0, true⟩
abbrev shutE (k : Int) : EvV := ⟨k, .empty, .empty, .empty, 0, false⟩
def mustF (ls : List Ln) (n : Int) (p : Int × Int) : Except Int (Int × Int) :=
  match onF ls n p with
  | none => .error 7
  | some none => .error 2
  | some (some q) => .ok q
def looseF (ls : List Ln) (p : Int × Int) (c : Int) : Bool := headF (restF ls p) c && !safeAt (restF ls p) 1 true
def signF (ls : List Ln) (p : Int × Int) (k : (Int × Int) × Bool) : Bool := looseF ls p 58 || (isF ls p 58 && k.2 && decide (k.1 = p))
def anyT (v : TrV) : Bool := !emptyS v.a || !emptyS v.t
def valueF (ls : List Ln) (n : Int) (N : Int × Int → NodeR) (key : (Int × Int) × Bool) (shut : Int) : PartR :=
  match mustF ls n key.1 with
  | .error e => .error e
  | .ok p =>
    if signF ls p key = false then .ok ([emptyE tr0], key.1)
    else match mustF ls n (p.1, p.2 + 1) with
      | .error e => .error e
      | .ok q =>
        if (isF ls q 44 || isF ls q shut) = true then .ok ([emptyE tr0], (p.1, p.2 + 1))
        else match N q with
          | .error e => .error e
          | .ok (ev, e, _) => .ok (ev, e)
def askedF (ls : List Ln) (n : Int) (N : Int × Int → NodeR) (p : Int × Int) (shut : Int) : NodeR :=
  match mustF ls n (p.1, p.2 + 1) with
  | .error e => .error e
  | .ok q =>
    if (isF ls q 44 || isF ls q shut || looseF ls q 58) = true then .ok ([emptyE tr0], (p.1, p.2 + 1), false)
    else N q
def keyedF (ls : List Ln) (n : Int) (N : Int × Int → NodeR) (r : NodeR) (shut : Int) : PartR :=
  match r with
  | .error e => .error e
  | .ok (ev, key) => match valueF ls n N key shut with
    | .error e => .error e
    | .ok (ev2, e) => .ok (ev ++ ev2, e)
def pairF (ls : List Ln) (n : Int) (N : Int × Int → NodeR) (p : Int × Int) : PartR :=
  if looseF ls p 63 = true then keyedF ls n N (askedF ls n N p 125) 125 else keyedF ls n N (N p) 125
def depthG : Int → Int → List EvV → Int
  | _, m, [] => m
  | d, m, e :: l => if e.k = 3 ∨ e.k = 5 then depthG (d + 1) (max m (d + 1)) l else if e.k = 4 ∨ e.k = 6 then depthG (d - 1) m l else depthG d m l
def depthF (l : List EvV) : Int := depthG 0 0 l
def wrapF (r : PartR) : PartR :=
  match r with
  | .error e => .error e
  | .ok (ev, e) => .ok (openE 5 tr0 :: (ev ++ [shutE 6]), e)
def keyB (ls : List Ln) (p q : Int × Int) (key : (Int × Int) × Bool) : Bool := decide (key.1.1 = p.1) && (decide (q.1 = p.1) && (decide (q.2 - p.2 ≤ 1024) && signF ls q key))
def itemF (ls : List Ln) (n d : Int) (k : Nat) (N N1 : Int × Int → NodeR) (p : Int × Int) : PartR :=
  if looseF ls p 63 = true then
    (if roomF d k 0 = false then .error 8 else wrapF (keyedF ls n N1 (askedF ls n N1 p 93) 93))
  else match N p with
    | .error e => .error e
    | .ok (ev, key) => match mustF ls n key.1 with
      | .error e => .error e
      | .ok q =>
        if keyB ls p q key = false then .ok (ev, key.1)
        else if roomF d k (depthF ev) = false then .error 8
        else wrapF (keyedF ls n N1 (.ok (ev, key)) 93)
def entriesF (ls : List Ln) (n : Int) (E : Int × Int → PartR) (shut : Int) : Nat → Int × Int → List EvV → PartR
  | 0, _, _ => .error 2
  | f + 1, q, acc =>
    if isF ls q shut = true then .ok (acc, q)
    else match E q with
      | .error e => .error e
      | .ok (ev, e) => match mustF ls n e with
        | .error e => .error e
        | .ok q2 =>
          if isF ls q2 44 = false then (if isF ls q2 shut = true then .ok (acc ++ ev, q2) else .error 2)
          else match mustF ls n (q2.1, q2.2 + 1) with
            | .error e => .error e
            | .ok q3 => entriesF ls n E shut f q3 (acc ++ ev)
def mu (p : Int × Int) : Nat := ((2001 - p.1) * 5000 + 4999 - min p.2 4999).toNat
def collF (ls : List Ln) (n d : Int) (k : Nat) (N : Nat → Int × Int → NodeR) (p : Int × Int) (c : Int) (v : TrV) : PartR :=
  if roomF d k 0 = false then .error 8
  else match mustF ls n (p.1, p.2 + 1) with
    | .error e => .error e
    | .ok q => match entriesF ls n (if c = 123 then pairF ls n (N (k + 1)) else itemF ls n d (k + 1) (N (k + 1)) (N (k + 2))) (if c = 123 then 125 else 93) (mu p + 1) q [] with
      | .error e => .error e
      | .ok (ev, e) => .ok (openE (if c = 123 then 5 else 3) v :: (ev ++ [shutE (if c = 123 then 6 else 4)]), (e.1, e.2 + 1))
def bodyF (ls : List Ln) (n d : Int) (bk : Bool) (N : Nat → Int × Int → NodeR) (k : Nat) (v : TrV) (q : Int × Int) (l : List Int) : NodeR :=
  if headF l 42 = true then
    (if anyT v = true then .error 2 else if aliasB ls q (l.drop 1) = true then .ok ([⟨8, .empty, .empty, (anchorI (l.drop 1)).1, 0, false⟩], (q.1, q.2 + ((anchorI (l.drop 1)).2.1 + 1)), false) else .error 2)
  else if headF l 34 = true ∨ headF l 39 = true then
    (match quotedF ls n (l.getD 0 0) q with
     | .error e => .error e
     | .ok (t, s, e) => .ok ([⟨7, textI t, v.t, v.a, s, false⟩], e, true))
  else if headF l 91 = true ∨ headF l 123 = true then
    (match collF ls n d k N q (l.getD 0 0) v with
     | .error e => .error e
     | .ok (ev, e) => .ok (ev, e, true))
  else if 0 < l.length ∧ beginsI l (!(bk && decide (k = 0))) = true then
    (match plainF ls n (bk && decide (k = 0)) q l with
     | .error e => .error e
     | .ok (t, e) => .ok ([⟨7, textI t, v.t, v.a, 1, false⟩], e, false))
  else if anyT v = true then .ok ([emptyE v], v.q, false) else .error 2
def nodeS (ls : List Ln) (n d : Int) (bk : Bool) (N : Nat → Int × Int → NodeR) (k : Nat) (p : Int × Int) : NodeR :=
  match traitsF ls n p with
  | .error e => .error e
  | .ok (v, q, ok) => bodyF ls n d bk N k v q (if ok = true then restF ls q else [])
def nodeF (ls : List Ln) (n d : Int) (bk : Bool) : Nat → Nat → Int × Int → NodeR
  | 0 => nodeS ls n d bk (fun _ _ => .error 8)
  | f + 1 => nodeS ls n d bk (nodeF ls n d bk f)
/-! ### What places there are -/
set_option maxHeartbeats 4000000 in
theorem mu_mono {p q : Int × Int} (h : Le2 p q) (h0 : 0 ≤ q.2) (h1 : 0 ≤ p.2) : mu q ≤ mu p := by
  unfold mu
  unfold Le2 at h
  omega
set_option maxHeartbeats 4000000 in
theorem mu_add {p : Int × Int} {k : Nat} (h0 : 0 ≤ p.2) (h1 : p.2 + k ≤ 4001) (h2 : p.1 ≤ 2000) : mu (p.1, p.2 + k) + k = mu p := by
  unfold mu
  dsimp only
  omega
set_option maxHeartbeats 4000000 in
theorem mu_le {p : Int × Int} (h : 0 ≤ p.1 ∧ 0 ≤ p.2) : mu p ≤ 10009999 := by
  unfold mu
  omega
end Go.Proofs.YtgoofaeifbfblaaGreat
/-
  The abstract layer, part I: structs of two numbers, held against each other.
-/

namespace Go.Abs
/-- A struct of two numbers. -/
class TTwo (P : Program) (t : TypeId) : Prop where
  ex : ∃ (f1 f2 : Field) (k1 k2 : IntKind), P.underlying t = some (.struct #[f1, f2]) ∧ f1.name ≠ "_" ∧ f2.name ≠ "_" ∧ f1.offset = 0 ∧ f2.offset = 1 ∧ P.underlying f1.type = some (.int k1) ∧ P.underlying f2.type = some (.int k2) ∧ aggT P f1.type = some false ∧ aggT P f2.type = some false
  stood : P.stoodInHeld t = false
  guard : P.eqGuardType P.depth t = false
section
variable {κ : Ctx} {P : Program} {all rest : List Oper} {Q : Exit → St → Prop} {d : Option Tmp} {t : List AV} {σ : List Res} {fr : Bool} {df : List Deferred}
theorem eqIn_int {ty : TypeId} {k : IntKind} (n : Nat) (h : P.underlying ty = some (.int k)) {a c : Int} {w : World} : (Op.equalIn (n + 1) ty (.int .i64 a) (.int .i64 c)).run P w = .ok (a == c) w := by
  simp [Op.equalIn, run_und h]
theorem eqIn_two {ty : TypeId} (n : Nat) (h : TTwo P ty) {a b c e : Int} {w : World} : (Op.equalIn (n + 1 + 1) ty (.agg #[.int .i64 a, .int .i64 b]) (.agg #[.int .i64 c, .int .i64 e])).run P w = .ok (a == c && b == e) w := by
  obtain ⟨f1, f2, k1, k2, h1, h2, h3, h4, h5, h6, h7, h8, h9⟩ := h.ex
  have hp : (program).run P w = .ok P w := rfl
  have s1 := eqIn_int n h6 (a := a) (c := c) (w := w)
  have s2 := eqIn_int n h7 (a := b) (c := e) (w := w)
  have p1 : ∀ x y : Int, (part f1.type #[.int .i64 x, .int .i64 y] f1.offset).run P w = .ok (.int .i64 x) w := fun x y => by simp [part, run_isAgg h8, h4]
  have p2 : ∀ x y : Int, (part f2.type #[.int .i64 x, .int .i64 y] f2.offset).run P w = .ok (.int .i64 y) w := fun x y => by simp [part, run_isAgg h9, h5]
  rw [Op.equalIn]
  simp only [Sem.run_bind, run_und h1, Result.andThen_ok, hp, h.stood]
  cases e1 : (a == c) <;> cases e2 : (b == e) <;> simp [h2, h3, s1, s2, p1, p2, e1, e2]
theorem equal_two {ty : TypeId} (h : TTwo P ty) {a b c e : Int} {w : World} : (Op.equal ty (.agg #[.int .i64 a, .int .i64 b]) (.agg #[.int .i64 c, .int .i64 e])).run P w = .ok (a == c && b == e) w := by
  have := eqIn_two (w := w) (a := a) (b := b) (c := c) (e := e) 9998 h
  simp only [Op.equal, show Op.maxDepth = 9998 + 1 + 1 from rfl, this]
theorem y_eq_two {ty : TypeId} {a b c e : Int} [h : TTwo P ty] (hK : goK κ false P all Q d rest ⟨t, σ, fr, df⟩ (B (a == c && b == e)) σ) : binC κ false P all Q d rest ⟨t, σ, fr, df⟩ .eql ty (.agg [I a, I b]) (.agg [I c, I e]) := by
  refine ⟨by unfold calmT; rw [h.guard]; rfl, ?_⟩
  show AAct κ P (.bin .eql ty) [.agg [I a, I b], .agg [I c, I e]] σ _
  intro φ g w vs hR hvs
  obtain ⟨v, u, rfl, hu, hv⟩ := two_vs hvs
  cases agg_raw_inv (l := [.int .i64 a, .int .i64 b]) hu
  cases agg_raw_inv (l := [.int .i64 c, .int .i64 e]) hv
  refine ⟨.bool (a == c && b == e), w, g, _, σ, ?_, hR, GE.refl _ _, .raw _, hK⟩
  show (binOp .eql ty (.agg #[.int .i64 a, .int .i64 b]) (.agg #[.int .i64 c, .int .i64 e])).run P w = _
  simp only [binOp, Sem.run_bind, equal_two h]
  rfl
end
end Go.Abs
