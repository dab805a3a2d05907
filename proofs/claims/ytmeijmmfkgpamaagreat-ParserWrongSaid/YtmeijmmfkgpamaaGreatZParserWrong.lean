/-
  The statement ParserWrong: for every input the law returns true, and each argument reads behind the call as it did: no condition. By evaluation at each input.
-/
import Derived.Test.YtmeijmmfkgpamaaGreatVParserWrong0
import Derived.Test.YtmeijmmfkgpamaaGreatVParserWrong1
import Derived.Test.YtmeijmmfkgpamaaGreatVParserWrong2
import Derived.Test.YtmeijmmfkgpamaaGreatRows
namespace Go.Proofs.YtmeijmmfkgpamaaGreat.parserWrong
open Go.ChangeShapes Go.WideShapes Go.ChangeAt Go.RowKit Go.Eva
set_option linter.unusedVariables false
set_option linter.unusedSimpArgs false

theorem own : ownKnob Tryz.prog.godebug = none := by kernel_rfl
theorem laid : laidOutB Tryz.prog = true := by kernel_rfl

theorem all : ∀ (i : Int), isTrue (run Tryz.prog (oneTab 14 (.bool true)) 1000 100 6 ([.int .i64 i].map .raw)) = true
  | .ofNat 0 => parserWrong_p0
  | .ofNat 1 => parserWrong_p1
  | .ofNat 2 => parserWrong_p2
  | .ofNat 3 => parserWrong_p3
  | .ofNat 4 => parserWrong_p4
  | .ofNat 5 => parserWrong_p5
  | .ofNat 6 => parserWrong_p6
  | .ofNat 7 => parserWrong_p7
  | .ofNat 8 => parserWrong_p8
  | .ofNat 9 => parserWrong_p9
  | .ofNat 10 => parserWrong_p10
  | .ofNat 11 => parserWrong_p11
  | .ofNat 12 => parserWrong_p12
  | .ofNat 13 => parserWrong_p13
  | .ofNat 14 => parserWrong_p14
  | .ofNat 15 => parserWrong_p15
  | .ofNat 16 => parserWrong_p16
  | .ofNat 17 => parserWrong_p17
  | .ofNat 18 => parserWrong_p18
  | .ofNat 19 => parserWrong_p19
  | .ofNat 20 => parserWrong_p20
  | .ofNat 21 => parserWrong_p21
  | .ofNat 22 => parserWrong_p22
  | .ofNat 23 => parserWrong_p23
  | .ofNat 24 => parserWrong_p24
  | .ofNat (m + 25) => parserWrong_hi m
  | .negSucc m => parserWrong_lo m

set_option maxRecDepth 100000 in
theorem lifted (os : Os) (started : os.Started) (H : Type) (enc : TypeId × Value → H) :
    ReturnsInHanded {} Tryz.checked os 6 .any (Rows.parserWrongSpec.pre6 enc Tryz.prog Tryz.f6 Rows.parserWrongRow.domain false) (Rows.parserWrongSpec.post enc Tryz.prog Tryz.f6 false true false false) := by
  refine returnsInHanded_of_change (C := Tryz.checked) own started (by kernel_rfl) Tryz.func6
    (ChangeSpec.witness6 (enc := enc) (C := Tryz.checked) false ⟨#[], #[.int .i64 0], []⟩ 8 (by kernel_rfl) (by kernel_rfl) (by kernel_rfl) (by kernel_rfl)) ?_
  intro W base args ds gs before hval0 hW hcnd _
  have hval : ∀ (j : Nat) t v, Tryz.f6.params[j]? = some t → args[j]? = some v → Value.okWide Tryz.prog W .any base t v := hval0
  have hW2 := hW
  obtain ⟨p, q, hA0, hV, rfl, hfz, hnd⟩ := hW
  have hA : DataW.TrodAll enc Tryz.prog W 0 (fun _ => true) true Tryz.f6.params.toList args.toList ds p := hA0
  rw [Tryz.params6] at hA hval
  obtain ⟨v0, vs0, d0, ds0, p0, q0, hargs, rfl, rfl, h0, r0⟩ := trodAll_cons hA
  obtain ⟨rfl, rfl, rfl⟩ := trodAll_nil r0
  obtain rfl : args = #[v0] := by cases args; simp_all
  obtain ⟨rfl, rfl⟩ := trodVars_none hV
  have hlt := fun x hx => hW2.lt x hx
  obtain ⟨n0, rfl⟩ : ∃ n : Int, v0 = .int .i64 n := by obtain ⟨n, rfl, _⟩ := open_int Tryz.underlying3 (hval 0 3 v0 rfl rfl) h0; exact ⟨n, rfl⟩
  refine (run_calls fit14 alive14 Tryz.func6 (b := _) rfl (vs := [.int .i64 n0]) (all n0) W).mono fun e W2 ⟨he, hb⟩ => ?_
  subst he
  simp only [List.append_nil] at hW2 hlt
  have k0 : ∀ sp : Nat → Bool, (∀ p ∈ p0, sp p.block = true) → DataW.Trod enc Tryz.prog W2 0 sp true 3 _ d0 p0 := fun sp hsp => WideElems.Trod_stays laid (by kernel_rfl) (of_decide_eq_true (by kernel_rfl)) h0 (fun x hx => hb.same (hlt x (by simp [hx]))) (fun x hx => hsp x hx)
  exact ⟨_, rfl, post_of_below (pa := _) (pv := []) hW2 (fun _ _ _ => trodAll_cons_mk (shut_bool Tryz.underlying4 _) trodAll_mk0) (fun sp hsp => (trodAll_cons_mk (k0 sp (fun p hp => hsp p (by simp [hp]))) (trodAll_mk0))) (fun _ _ => rfl) (by simp)
    hb (ok_one (by kernel_rfl) rfl (okWide_bool_mk Tryz.underlying4 _))⟩

theorem over : Rows.parserWrongRow.holds Tryz.pinned (OpenSpec.ofChange Rows.parserWrongSpec) :=
  OpenClaim.holds_of_wide 6 Tryz.f6 rfl rfl rfl rfl rfl rfl rfl ⟨rfl, rfl, rfl, rfl, rfl⟩ rfl rfl rfl rfl rfl (by kernel_rfl) Tryz.func6 (by kernel_rfl)
    (of_decide_eq_true (by kernel_rfl)) (by unfold Func.isWrapper; first | (rw [if_pos (by decide +kernel)]; kernel_rfl) | (rw [if_neg (by decide +kernel)]; exact ⟨rfl, rfl⟩))
    (fun os started H enc _ => lifted os started H enc)

/-- The statement. -/
theorem proved : Rows.ParserWrongSaid := over
end Go.Proofs.YtmeijmmfkgpamaaGreat.parserWrong
