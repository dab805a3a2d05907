/-
  The statement StreamDirects: for every input the law returns true, and each argument reads behind the call as it did: no condition. Out of the contract j9.
-/
import Derived.Test.YthkabaiamcjdbaaGreatJ36
import Derived.Test.YthkabaiamcjdbaaGreatRows
import Derived.ProofKit
import Derived.OpenShut
import Derived.ChangeMaps5
namespace Go.Proofs.YthkabaiamcjdbaaGreat.streamDirects
open Go.ChangeShapes Go.WideShapes Go.ChangeAt Go.RowKit Go.Abs
set_option linter.unusedVariables false
set_option linter.unusedSimpArgs false

theorem own : ownKnob Tryz.prog.godebug = none := by kernel_rfl
theorem laid : laidOutB Tryz.prog = true := by kernel_rfl

set_option maxRecDepth 100000 in
theorem lifted (os : Os) (started : os.Started) (H : Type) (enc : TypeId × Value → H) :
    ReturnsInHanded {} Tryz.checked os 8 .any (Rows.streamDirectsSpec.pre6 enc Tryz.prog Tryz.f8 Rows.streamDirectsRow.domain false) (Rows.streamDirectsSpec.post enc Tryz.prog Tryz.f8 false true false false) := by
  refine vw (C := Tryz.checked) own started (by kernel_rfl) Tryz.func8
    (ChangeSpec.witness6 (enc := enc) (C := Tryz.checked) false ⟨#[], #[.string ByteArray.empty, .string ByteArray.empty, .string ByteArray.empty, .int .i64 0], []⟩ 8 (by kernel_rfl) (by kernel_rfl) (by kernel_rfl) (by kernel_rfl)) ?_
  intro W base args ds gs before hval0 hW hwt hcnd _
  have hval : ∀ (j : Nat) t v, Tryz.f8.params[j]? = some t → args[j]? = some v → Value.okWide Tryz.prog W .any base t v := hval0
  have hW2 := hW
  obtain ⟨p, q, hA0, hV, rfl, hfz, hnd⟩ := hW
  have hA : DataW.TrodAll enc Tryz.prog W 0 (fun _ => true) true Tryz.f8.params.toList args.toList ds p := hA0
  rw [Tryz.params8] at hA hval
  obtain ⟨v0, vs0, d0, ds0, p0, q0, hargs, rfl, rfl, h0, r0⟩ := trodAll_cons hA
  obtain ⟨v1, vs1, d1, ds1, p1, q1, rfl, rfl, rfl, h1, r1⟩ := trodAll_cons r0
  obtain ⟨v2, vs2, d2, ds2, p2, q2, rfl, rfl, rfl, h2, r2⟩ := trodAll_cons r1
  obtain ⟨v3, vs3, d3, ds3, p3, q3, rfl, rfl, rfl, h3, r3⟩ := trodAll_cons r2
  obtain ⟨rfl, rfl, rfl⟩ := trodAll_nil r3
  obtain rfl : args = #[v0, v1, v2, v3] := by cases args; simp_all
  obtain ⟨rfl, rfl⟩ := trodVars_none hV
  have hlt := fun x hx => hW2.lt x hx
  obtain ⟨n0, rfl⟩ : ∃ n : ByteArray, v0 = .string n := by obtain ⟨n, rfl, _⟩ := Go.ChangeMaps.open_string Tryz.underlying9 (hval 0 9 v0 rfl rfl) h0; exact ⟨n, rfl⟩
  obtain ⟨x0, ok0, vr0⟩ := OpensZ.one (kC UV) (fun _ => rfl) rfl h0 (lI (i := 0) hwt rfl rfl)
  obtain ⟨n1, rfl⟩ : ∃ n : ByteArray, v1 = .string n := by obtain ⟨n, rfl, _⟩ := Go.ChangeMaps.open_string Tryz.underlying9 (hval 1 9 v1 rfl rfl) h1; exact ⟨n, rfl⟩
  obtain ⟨x1, ok1, vr1⟩ := OpensZ.one (kC UV) (fun _ => rfl) rfl h1 (lI (i := 1) hwt rfl rfl)
  obtain ⟨n2, rfl⟩ : ∃ n : ByteArray, v2 = .string n := by obtain ⟨n, rfl, _⟩ := Go.ChangeMaps.open_string Tryz.underlying9 (hval 2 9 v2 rfl rfl) h2; exact ⟨n, rfl⟩
  obtain ⟨x2, ok2, vr2⟩ := OpensZ.one (kC UV) (fun _ => rfl) rfl h2 (lI (i := 2) hwt rfl rfl)
  obtain ⟨n3, rfl⟩ : ∃ n : Int, v3 = .int .i64 n := by obtain ⟨n, rfl, _⟩ := open_int Tryz.underlying3 (hval 3 3 v3 rfl rfl) h3; exact ⟨n, rfl⟩
  obtain ⟨x3, ok3, vr3⟩ := OpensZ.one (Opens.z (HJ z7)) (fun _ => rfl) rfl h3 (lI (i := 3) hwt rfl rfl)
  refine (Gx (fun κ => j9 κ x0 ok0 x1 ok1 x2 ok2 x3 ok3 ) (TR.cons vr0 (TR.cons vr1 (TR.cons vr2 (TR.cons vr3 (TR.nil)))))).mono fun e W2 ⟨he, hb⟩ => ?_
  subst he
  simp only [List.append_nil] at hW2 hlt
  have k0 : ∀ sp : Nat → Bool, (∀ p ∈ p0, sp p.block = true) → DataW.Trod enc Tryz.prog W2 0 sp true 9 _ d0 p0 := fun sp hsp => WideElems.Trod_stays laid (by kernel_rfl) (of_decide_eq_true (by kernel_rfl)) h0 (fun x hx => hb.same (hlt x (by simp [hx]))) (fun x hx => hsp x hx)
  have k1 : ∀ sp : Nat → Bool, (∀ p ∈ p1, sp p.block = true) → DataW.Trod enc Tryz.prog W2 0 sp true 9 _ d1 p1 := fun sp hsp => WideElems.Trod_stays laid (by kernel_rfl) (of_decide_eq_true (by kernel_rfl)) h1 (fun x hx => hb.same (hlt x (by simp [hx]))) (fun x hx => hsp x hx)
  have k2 : ∀ sp : Nat → Bool, (∀ p ∈ p2, sp p.block = true) → DataW.Trod enc Tryz.prog W2 0 sp true 9 _ d2 p2 := fun sp hsp => WideElems.Trod_stays laid (by kernel_rfl) (of_decide_eq_true (by kernel_rfl)) h2 (fun x hx => hb.same (hlt x (by simp [hx]))) (fun x hx => hsp x hx)
  have k3 : ∀ sp : Nat → Bool, (∀ p ∈ p3, sp p.block = true) → DataW.Trod enc Tryz.prog W2 0 sp true 3 _ d3 p3 := fun sp hsp => WideElems.Trod_stays laid (by kernel_rfl) (of_decide_eq_true (by kernel_rfl)) h3 (fun x hx => hb.same (hlt x (by simp [hx]))) (fun x hx => hsp x hx)
  exact ⟨_, rfl, vy (pa := _) (pv := []) hW2 (fun _ _ _ => trodAll_cons_mk (shut_bool Tryz.underlying4 _) trodAll_mk0) (fun sp hsp => (trodAll_cons_mk (k0 sp (fun p hp => hsp p (by simp [hp]))) (trodAll_cons_mk (k1 sp (fun p hp => hsp p (by simp [hp]))) (trodAll_cons_mk (k2 sp (fun p hp => hsp p (by simp [hp]))) (trodAll_cons_mk (k3 sp (fun p hp => hsp p (by simp [hp]))) (trodAll_mk0)))))) (fun _ _ => rfl) (by simp)
    hb (ok_one (by kernel_rfl) rfl (okWide_bool_mk Tryz.underlying4 _))⟩

theorem over : Rows.streamDirectsRow.holds Tryz.pinned (OpenSpec.ofChange Rows.streamDirectsSpec) :=
  OpenClaim.holds_of_wide 8 Tryz.f8 rfl rfl rfl rfl rfl rfl rfl ⟨rfl, rfl, rfl, rfl, rfl⟩ rfl rfl rfl rfl rfl (by kernel_rfl) Tryz.func8 (by kernel_rfl)
    (of_decide_eq_true (by kernel_rfl)) (by unfold Func.isWrapper; first | (rw [if_pos (by decide +kernel)]; kernel_rfl) | (rw [if_neg (by decide +kernel)]; exact ⟨rfl, rfl⟩))
    (fun os started H enc _ => lifted os started H enc)

/-- The statement. -/
theorem proved : Rows.StreamDirectsSaid := over
end Go.Proofs.YthkabaiamcjdbaaGreat.streamDirects
