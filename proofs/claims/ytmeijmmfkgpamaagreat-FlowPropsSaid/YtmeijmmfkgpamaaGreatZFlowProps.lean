/-
  The statement FlowProps: for every input the law returns true, and each argument reads behind the call as it did: no condition. By evaluation at each input.
-/
import Derived.Test.YtmeijmmfkgpamaaGreatVFlowProps0
import Derived.Test.YtmeijmmfkgpamaaGreatVFlowProps1
import Derived.Test.YtmeijmmfkgpamaaGreatVFlowProps2
import Derived.Test.YtmeijmmfkgpamaaGreatVFlowProps3
import Derived.Test.YtmeijmmfkgpamaaGreatRows
namespace Go.Proofs.YtmeijmmfkgpamaaGreat.flowProps
open Go.ChangeShapes Go.WideShapes Go.ChangeAt Go.RowKit Go.Eva
set_option linter.unusedVariables false
set_option linter.unusedSimpArgs false

theorem own : ownKnob Tryz.prog.godebug = none := by kernel_rfl
theorem laid : laidOutB Tryz.prog = true := by kernel_rfl

theorem all : ∀ (i j : Int) (b c : Bool), isTrue (run Tryz.prog (oneTab 8 (.bool true)) 1000 100 5 ([.int .i64 i, .int .i64 j, .bool b, .bool c].map .raw)) = true
  | .ofNat 0, .ofNat 0, false, false => flowProps_p0_0_f_f
  | .ofNat 0, .ofNat 0, false, true => flowProps_p0_0_f_t
  | .ofNat 0, .ofNat 0, true, false => flowProps_p0_0_t_f
  | .ofNat 0, .ofNat 0, true, true => flowProps_p0_0_t_t
  | .ofNat 0, .ofNat 1, false, false => flowProps_p0_1_f_f
  | .ofNat 0, .ofNat 1, false, true => flowProps_p0_1_f_t
  | .ofNat 0, .ofNat 1, true, false => flowProps_p0_1_t_f
  | .ofNat 0, .ofNat 1, true, true => flowProps_p0_1_t_t
  | .ofNat 0, .ofNat 2, false, false => flowProps_p0_2_f_f
  | .ofNat 0, .ofNat 2, false, true => flowProps_p0_2_f_t
  | .ofNat 0, .ofNat 2, true, false => flowProps_p0_2_t_f
  | .ofNat 0, .ofNat 2, true, true => flowProps_p0_2_t_t
  | .ofNat 0, .ofNat 3, false, false => flowProps_p0_3_f_f
  | .ofNat 0, .ofNat 3, false, true => flowProps_p0_3_f_t
  | .ofNat 0, .ofNat 3, true, false => flowProps_p0_3_t_f
  | .ofNat 0, .ofNat 3, true, true => flowProps_p0_3_t_t
  | .ofNat 1, .ofNat 0, false, false => flowProps_p1_0_f_f
  | .ofNat 1, .ofNat 0, false, true => flowProps_p1_0_f_t
  | .ofNat 1, .ofNat 0, true, false => flowProps_p1_0_t_f
  | .ofNat 1, .ofNat 0, true, true => flowProps_p1_0_t_t
  | .ofNat 1, .ofNat 1, false, false => flowProps_p1_1_f_f
  | .ofNat 1, .ofNat 1, false, true => flowProps_p1_1_f_t
  | .ofNat 1, .ofNat 1, true, false => flowProps_p1_1_t_f
  | .ofNat 1, .ofNat 1, true, true => flowProps_p1_1_t_t
  | .ofNat 1, .ofNat 2, false, false => flowProps_p1_2_f_f
  | .ofNat 1, .ofNat 2, false, true => flowProps_p1_2_f_t
  | .ofNat 1, .ofNat 2, true, false => flowProps_p1_2_t_f
  | .ofNat 1, .ofNat 2, true, true => flowProps_p1_2_t_t
  | .ofNat 1, .ofNat 3, false, false => flowProps_p1_3_f_f
  | .ofNat 1, .ofNat 3, false, true => flowProps_p1_3_f_t
  | .ofNat 1, .ofNat 3, true, false => flowProps_p1_3_t_f
  | .ofNat 1, .ofNat 3, true, true => flowProps_p1_3_t_t
  | .ofNat 2, .ofNat 0, false, false => flowProps_p2_0_f_f
  | .ofNat 2, .ofNat 0, false, true => flowProps_p2_0_f_t
  | .ofNat 2, .ofNat 0, true, false => flowProps_p2_0_t_f
  | .ofNat 2, .ofNat 0, true, true => flowProps_p2_0_t_t
  | .ofNat 2, .ofNat 1, false, false => flowProps_p2_1_f_f
  | .ofNat 2, .ofNat 1, false, true => flowProps_p2_1_f_t
  | .ofNat 2, .ofNat 1, true, false => flowProps_p2_1_t_f
  | .ofNat 2, .ofNat 1, true, true => flowProps_p2_1_t_t
  | .ofNat 2, .ofNat 2, false, false => flowProps_p2_2_f_f
  | .ofNat 2, .ofNat 2, false, true => flowProps_p2_2_f_t
  | .ofNat 2, .ofNat 2, true, false => flowProps_p2_2_t_f
  | .ofNat 2, .ofNat 2, true, true => flowProps_p2_2_t_t
  | .ofNat 2, .ofNat 3, false, false => flowProps_p2_3_f_f
  | .ofNat 2, .ofNat 3, false, true => flowProps_p2_3_f_t
  | .ofNat 2, .ofNat 3, true, false => flowProps_p2_3_t_f
  | .ofNat 2, .ofNat 3, true, true => flowProps_p2_3_t_t
  | .ofNat 3, .ofNat 0, false, false => flowProps_p3_0_f_f
  | .ofNat 3, .ofNat 0, false, true => flowProps_p3_0_f_t
  | .ofNat 3, .ofNat 0, true, false => flowProps_p3_0_t_f
  | .ofNat 3, .ofNat 0, true, true => flowProps_p3_0_t_t
  | .ofNat 3, .ofNat 1, false, false => flowProps_p3_1_f_f
  | .ofNat 3, .ofNat 1, false, true => flowProps_p3_1_f_t
  | .ofNat 3, .ofNat 1, true, false => flowProps_p3_1_t_f
  | .ofNat 3, .ofNat 1, true, true => flowProps_p3_1_t_t
  | .ofNat 3, .ofNat 2, false, false => flowProps_p3_2_f_f
  | .ofNat 3, .ofNat 2, false, true => flowProps_p3_2_f_t
  | .ofNat 3, .ofNat 2, true, false => flowProps_p3_2_t_f
  | .ofNat 3, .ofNat 2, true, true => flowProps_p3_2_t_t
  | .ofNat 3, .ofNat 3, false, false => flowProps_p3_3_f_f
  | .ofNat 3, .ofNat 3, false, true => flowProps_p3_3_f_t
  | .ofNat 3, .ofNat 3, true, false => flowProps_p3_3_t_f
  | .ofNat 3, .ofNat 3, true, true => flowProps_p3_3_t_t
  | .ofNat 4, .ofNat 0, false, false => flowProps_p4_0_f_f
  | .ofNat 4, .ofNat 0, false, true => flowProps_p4_0_f_t
  | .ofNat 4, .ofNat 0, true, false => flowProps_p4_0_t_f
  | .ofNat 4, .ofNat 0, true, true => flowProps_p4_0_t_t
  | .ofNat 4, .ofNat 1, false, false => flowProps_p4_1_f_f
  | .ofNat 4, .ofNat 1, false, true => flowProps_p4_1_f_t
  | .ofNat 4, .ofNat 1, true, false => flowProps_p4_1_t_f
  | .ofNat 4, .ofNat 1, true, true => flowProps_p4_1_t_t
  | .ofNat 4, .ofNat 2, false, false => flowProps_p4_2_f_f
  | .ofNat 4, .ofNat 2, false, true => flowProps_p4_2_f_t
  | .ofNat 4, .ofNat 2, true, false => flowProps_p4_2_t_f
  | .ofNat 4, .ofNat 2, true, true => flowProps_p4_2_t_t
  | .ofNat 4, .ofNat 3, false, false => flowProps_p4_3_f_f
  | .ofNat 4, .ofNat 3, false, true => flowProps_p4_3_f_t
  | .ofNat 4, .ofNat 3, true, false => flowProps_p4_3_t_f
  | .ofNat 4, .ofNat 3, true, true => flowProps_p4_3_t_t
  | .ofNat 5, .ofNat 0, false, false => flowProps_p5_0_f_f
  | .ofNat 5, .ofNat 0, false, true => flowProps_p5_0_f_t
  | .ofNat 5, .ofNat 0, true, false => flowProps_p5_0_t_f
  | .ofNat 5, .ofNat 0, true, true => flowProps_p5_0_t_t
  | .ofNat 5, .ofNat 1, false, false => flowProps_p5_1_f_f
  | .ofNat 5, .ofNat 1, false, true => flowProps_p5_1_f_t
  | .ofNat 5, .ofNat 1, true, false => flowProps_p5_1_t_f
  | .ofNat 5, .ofNat 1, true, true => flowProps_p5_1_t_t
  | .ofNat 5, .ofNat 2, false, false => flowProps_p5_2_f_f
  | .ofNat 5, .ofNat 2, false, true => flowProps_p5_2_f_t
  | .ofNat 5, .ofNat 2, true, false => flowProps_p5_2_t_f
  | .ofNat 5, .ofNat 2, true, true => flowProps_p5_2_t_t
  | .ofNat 5, .ofNat 3, false, false => flowProps_p5_3_f_f
  | .ofNat 5, .ofNat 3, false, true => flowProps_p5_3_f_t
  | .ofNat 5, .ofNat 3, true, false => flowProps_p5_3_t_f
  | .ofNat 5, .ofNat 3, true, true => flowProps_p5_3_t_t
  | .ofNat 6, .ofNat 0, false, false => flowProps_p6_0_f_f
  | .ofNat 6, .ofNat 0, false, true => flowProps_p6_0_f_t
  | .ofNat 6, .ofNat 0, true, false => flowProps_p6_0_t_f
  | .ofNat 6, .ofNat 0, true, true => flowProps_p6_0_t_t
  | .ofNat 6, .ofNat 1, false, false => flowProps_p6_1_f_f
  | .ofNat 6, .ofNat 1, false, true => flowProps_p6_1_f_t
  | .ofNat 6, .ofNat 1, true, false => flowProps_p6_1_t_f
  | .ofNat 6, .ofNat 1, true, true => flowProps_p6_1_t_t
  | .ofNat 6, .ofNat 2, false, false => flowProps_p6_2_f_f
  | .ofNat 6, .ofNat 2, false, true => flowProps_p6_2_f_t
  | .ofNat 6, .ofNat 2, true, false => flowProps_p6_2_t_f
  | .ofNat 6, .ofNat 2, true, true => flowProps_p6_2_t_t
  | .ofNat 6, .ofNat 3, false, false => flowProps_p6_3_f_f
  | .ofNat 6, .ofNat 3, false, true => flowProps_p6_3_f_t
  | .ofNat 6, .ofNat 3, true, false => flowProps_p6_3_t_f
  | .ofNat 6, .ofNat 3, true, true => flowProps_p6_3_t_t
  | .ofNat 0, .ofNat (m + 4), b, c => flowProps_hi0 m b c
  | .ofNat 0, .negSucc m, b, c => flowProps_lo0 m b c
  | .ofNat 1, .ofNat (m + 4), b, c => flowProps_hi1 m b c
  | .ofNat 1, .negSucc m, b, c => flowProps_lo1 m b c
  | .ofNat 2, .ofNat (m + 4), b, c => flowProps_hi2 m b c
  | .ofNat 2, .negSucc m, b, c => flowProps_lo2 m b c
  | .ofNat 3, .ofNat (m + 4), b, c => flowProps_hi3 m b c
  | .ofNat 3, .negSucc m, b, c => flowProps_lo3 m b c
  | .ofNat 4, .ofNat (m + 4), b, c => flowProps_hi4 m b c
  | .ofNat 4, .negSucc m, b, c => flowProps_lo4 m b c
  | .ofNat 5, .ofNat (m + 4), b, c => flowProps_hi5 m b c
  | .ofNat 5, .negSucc m, b, c => flowProps_lo5 m b c
  | .ofNat 6, .ofNat (m + 4), b, c => flowProps_hi6 m b c
  | .ofNat 6, .negSucc m, b, c => flowProps_lo6 m b c
  | .ofNat (m + 7), j, b, c => flowProps_hi m j b c
  | .negSucc m, j, b, c => flowProps_lo m j b c

set_option maxRecDepth 100000 in
theorem lifted (os : Os) (started : os.Started) (H : Type) (enc : TypeId × Value → H) :
    ReturnsInHanded {} Tryz.checked os 5 .any (Rows.flowPropsSpec.pre6 enc Tryz.prog Tryz.f5 Rows.flowPropsRow.domain false) (Rows.flowPropsSpec.post enc Tryz.prog Tryz.f5 false true false false) := by
  refine returnsInHanded_of_change (C := Tryz.checked) own started (by kernel_rfl) Tryz.func5
    (ChangeSpec.witness6 (enc := enc) (C := Tryz.checked) false ⟨#[], #[.int .i64 0, .int .i64 0, .bool false, .bool false], []⟩ 8 (by kernel_rfl) (by kernel_rfl) (by kernel_rfl) (by kernel_rfl)) ?_
  intro W base args ds gs before hval0 hW hcnd _
  have hval : ∀ (j : Nat) t v, Tryz.f5.params[j]? = some t → args[j]? = some v → Value.okWide Tryz.prog W .any base t v := hval0
  have hW2 := hW
  obtain ⟨p, q, hA0, hV, rfl, hfz, hnd⟩ := hW
  have hA : DataW.TrodAll enc Tryz.prog W 0 (fun _ => true) true Tryz.f5.params.toList args.toList ds p := hA0
  rw [Tryz.params5] at hA hval
  obtain ⟨v0, vs0, d0, ds0, p0, q0, hargs, rfl, rfl, h0, r0⟩ := trodAll_cons hA
  obtain ⟨v1, vs1, d1, ds1, p1, q1, rfl, rfl, rfl, h1, r1⟩ := trodAll_cons r0
  obtain ⟨v2, vs2, d2, ds2, p2, q2, rfl, rfl, rfl, h2, r2⟩ := trodAll_cons r1
  obtain ⟨v3, vs3, d3, ds3, p3, q3, rfl, rfl, rfl, h3, r3⟩ := trodAll_cons r2
  obtain ⟨rfl, rfl, rfl⟩ := trodAll_nil r3
  obtain rfl : args = #[v0, v1, v2, v3] := by cases args; simp_all
  obtain ⟨rfl, rfl⟩ := trodVars_none hV
  have hlt := fun x hx => hW2.lt x hx
  obtain ⟨n0, rfl⟩ : ∃ n : Int, v0 = .int .i64 n := by obtain ⟨n, rfl, _⟩ := open_int Tryz.underlying3 (hval 0 3 v0 rfl rfl) h0; exact ⟨n, rfl⟩
  obtain ⟨n1, rfl⟩ : ∃ n : Int, v1 = .int .i64 n := by obtain ⟨n, rfl, _⟩ := open_int Tryz.underlying3 (hval 1 3 v1 rfl rfl) h1; exact ⟨n, rfl⟩
  obtain ⟨n2, rfl⟩ : ∃ n : Bool, v2 = .bool n := by obtain ⟨n, rfl, _⟩ := open_bool Tryz.underlying4 (hval 2 4 v2 rfl rfl) h2; exact ⟨n, rfl⟩
  obtain ⟨n3, rfl⟩ : ∃ n : Bool, v3 = .bool n := by obtain ⟨n, rfl, _⟩ := open_bool Tryz.underlying4 (hval 3 4 v3 rfl rfl) h3; exact ⟨n, rfl⟩
  refine (run_calls fit8 alive8 Tryz.func5 (b := _) rfl (vs := [.int .i64 n0, .int .i64 n1, .bool n2, .bool n3]) (all n0 n1 n2 n3) W).mono fun e W2 ⟨he, hb⟩ => ?_
  subst he
  simp only [List.append_nil] at hW2 hlt
  have k0 : ∀ sp : Nat → Bool, (∀ p ∈ p0, sp p.block = true) → DataW.Trod enc Tryz.prog W2 0 sp true 3 _ d0 p0 := fun sp hsp => WideElems.Trod_stays laid (by kernel_rfl) (of_decide_eq_true (by kernel_rfl)) h0 (fun x hx => hb.same (hlt x (by simp [hx]))) (fun x hx => hsp x hx)
  have k1 : ∀ sp : Nat → Bool, (∀ p ∈ p1, sp p.block = true) → DataW.Trod enc Tryz.prog W2 0 sp true 3 _ d1 p1 := fun sp hsp => WideElems.Trod_stays laid (by kernel_rfl) (of_decide_eq_true (by kernel_rfl)) h1 (fun x hx => hb.same (hlt x (by simp [hx]))) (fun x hx => hsp x hx)
  have k2 : ∀ sp : Nat → Bool, (∀ p ∈ p2, sp p.block = true) → DataW.Trod enc Tryz.prog W2 0 sp true 4 _ d2 p2 := fun sp hsp => WideElems.Trod_stays laid (by kernel_rfl) (of_decide_eq_true (by kernel_rfl)) h2 (fun x hx => hb.same (hlt x (by simp [hx]))) (fun x hx => hsp x hx)
  have k3 : ∀ sp : Nat → Bool, (∀ p ∈ p3, sp p.block = true) → DataW.Trod enc Tryz.prog W2 0 sp true 4 _ d3 p3 := fun sp hsp => WideElems.Trod_stays laid (by kernel_rfl) (of_decide_eq_true (by kernel_rfl)) h3 (fun x hx => hb.same (hlt x (by simp [hx]))) (fun x hx => hsp x hx)
  exact ⟨_, rfl, post_of_below (pa := _) (pv := []) hW2 (fun _ _ _ => trodAll_cons_mk (shut_bool Tryz.underlying4 _) trodAll_mk0) (fun sp hsp => (trodAll_cons_mk (k0 sp (fun p hp => hsp p (by simp [hp]))) (trodAll_cons_mk (k1 sp (fun p hp => hsp p (by simp [hp]))) (trodAll_cons_mk (k2 sp (fun p hp => hsp p (by simp [hp]))) (trodAll_cons_mk (k3 sp (fun p hp => hsp p (by simp [hp]))) (trodAll_mk0)))))) (fun _ _ => rfl) (by simp)
    hb (ok_one (by kernel_rfl) rfl (okWide_bool_mk Tryz.underlying4 _))⟩

theorem over : Rows.flowPropsRow.holds Tryz.pinned (OpenSpec.ofChange Rows.flowPropsSpec) :=
  OpenClaim.holds_of_wide 5 Tryz.f5 rfl rfl rfl rfl rfl rfl rfl ⟨rfl, rfl, rfl, rfl, rfl⟩ rfl rfl rfl rfl rfl (by kernel_rfl) Tryz.func5 (by kernel_rfl)
    (of_decide_eq_true (by kernel_rfl)) (by unfold Func.isWrapper; first | (rw [if_pos (by decide +kernel)]; kernel_rfl) | (rw [if_neg (by decide +kernel)]; exact ⟨rfl, rfl⟩))
    (fun os started H enc _ => lifted os started H enc)

/-- The statement. -/
theorem proved : Rows.FlowPropsSaid := over
end Go.Proofs.YtmeijmmfkgpamaaGreat.flowProps
