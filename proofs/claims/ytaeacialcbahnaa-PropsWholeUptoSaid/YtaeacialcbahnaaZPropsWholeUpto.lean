/-
  The statement PropsWhole: for every input the law returns true, and each argument reads behind the call as it did: no condition. Out of the contract law_PropsWhole.
-/
import Derived.Test.YtaeacialcbahnaaPw
import Derived.Test.YtaeacialcbahnaaMq
import Derived.Test.YtaeacialcbahnaaRows
import Derived.ProofKit
import Derived.OpenShut
import Derived.ChangeMaps5
import Derived.JoinedCond
namespace Go.Proofs.Ytaeacialcbahnaa.propsWholeUpto
open Go.ChangeShapes Go.WideShapes Go.ChangeAt Go.RowKit Go.Abs
set_option linter.unusedVariables false
set_option linter.unusedSimpArgs false

theorem own : ownKnob Try.prog.godebug = none := by kernel_rfl
theorem laid : laidOutB Try.prog = true := by kernel_rfl

theorem slice_bulk {H : Type} {enc : TypeId × Value → H} {w : World} {g : Nat → Nat} {t e : TypeId} {v : Value} {d : DataW H} {p : List MemPlace} {l : List AV} {sz : Nat} (hu : Try.prog.underlying t = some (.slice e)) (h : DataW.Trod enc Try.prog w 0 (fun _ => true) true t v d p) (hv : v.cells = #[v]) (vr : VR g w (.sl sz none l) v) : l.length ≤ Rows.uptoBulk d := by
  have hlen : ∀ l : List (DataW H), l.length ≤ Rows.uptoBulkAll l := by
    intro l
    induction l with
    | nil => simp [Rows.uptoBulkAll]
    | cons x r ih =>
      have : 1 ≤ Rows.uptoBulk x := by cases x with
        | lit l => cases l <;> simp [Rows.uptoBulk]
        | nil => simp [Rows.uptoBulk]
        | ptr d => simp [Rows.uptoBulk]
        | slice elems spare => simp [Rows.uptoBulk]
        | agg parts => simp [Rows.uptoBulk]
        | iface t d => simp [Rows.uptoBulk]
        | map entries => simp [Rows.uptoBulk]
        | held h => simp [Rows.uptoBulk]
      simp only [Rows.uptoBulkAll, List.length_cons]; omega
  obtain ⟨fuel, hf⟩ := h
  rw [hv] at hf
  rcases DataW.trod_slice hu hf with ⟨e1, e2⟩ | ⟨a, len, cap, elems, rest, n, _, e1, e2, _, _, _, hl, _⟩
  · obtain rfl : v = .slice none 0 0 := by simpa using e1
    cases vr; simp
  · obtain rfl : v = .slice (some a) len cap := by simpa using e1
    obtain rfl : d = _ := (Prod.mk.inj e2).1
    have h1 := hlen (elems.map (·.1))
    have h2 : len = l.length := by cases vr <;> rfl
    simp only [List.length_map] at h1
    simp only [Rows.uptoBulk]; omega

theorem string_bulk {H : Type} {enc : TypeId × Value → H} {w : World} {g : Nat → Nat} {t : TypeId} {v : Value} {d : DataW H} {p : List MemPlace} {x : ByteArray} (hu : Try.prog.underlying t = some .string) (h : DataW.Trod enc Try.prog w 0 (fun _ => true) true t v d p) (hv : v.cells = #[v]) (vr : VR g w (.raw (.string x)) v) : x.size ≤ Rows.uptoBulk d := by
  obtain ⟨fuel, hf⟩ := h
  rw [hv] at hf
  obtain ⟨s, e1, e2, _⟩ := DataW.trod_string hu hf
  cases vr
  have e3 : Value.string x = .string s := by simpa using e1
  cases e3
  obtain rfl : d = _ := (Prod.mk.inj e2).1
  simp only [Rows.uptoBulk, Array.length_toList]
  show x.data.size ≤ x.data.size + 1
  omega

set_option maxRecDepth 100000 in
theorem lifted (os : Os) (started : os.Started) (H : Type) (enc : TypeId × Value → H) (F : Stop.Interp) :
    ReturnsInHanded {} Try.checked os 3 .any ((Rows.OpenSpec.upto Rows.propsWholeSpec).pre6 enc Try.prog Try.f3 Rows.propsWholeUptoRow.domain false) (((Rows.OpenSpec.upto Rows.propsWholeSpec).at F).post enc Try.prog Try.f3 false true false false) := by
  refine returnsInHanded_of_cond (C := Try.checked) (s := Rows.OpenSpec.upto Rows.propsWholeSpec) (k := Rows.uptoSmall) rfl own started (by kernel_rfl) Try.func3
    (OpenSpec.witness (enc := enc) (C := Try.checked) (s := Rows.OpenSpec.upto Rows.propsWholeSpec) (k := Rows.uptoSmall) rfl false ⟨#[], #[.string ByteArray.empty, .bool false], []⟩ 8 (by kernel_rfl) (by kernel_rfl) (by kernel_rfl)
      (x := ([.lit (.string []), .lit (.bool false)], [], [])) (by kernel_rfl) rfl (by kernel_rfl)) ?_
  intro W base args ds gs before hval0 hW hcnd hk _
  have hval : ∀ (j : Nat) t v, Try.f3.params[j]? = some t → args[j]? = some v → Value.okWide Try.prog W .any base t v := hval0
  have hW2 := hW
  obtain ⟨p, q, hA0, hV, rfl, hfz, hnd⟩ := hW
  have hA : DataW.TrodAll enc Try.prog W 0 (fun _ => true) true Try.f3.params.toList args.toList ds p := hA0
  rw [Try.params3] at hA hval
  obtain ⟨v0, vs0, d0, ds0, p0, q0, hargs, rfl, rfl, h0, r0⟩ := trodAll_cons hA
  obtain ⟨v1, vs1, d1, ds1, p1, q1, rfl, rfl, rfl, h1, r1⟩ := trodAll_cons r0
  obtain ⟨rfl, rfl, rfl⟩ := trodAll_nil r1
  obtain rfl : args = #[v0, v1] := by cases args; simp_all
  obtain ⟨rfl, rfl⟩ := trodVars_none hV
  have hlt := fun x hx => hW2.lt x hx
  obtain ⟨n0, rfl⟩ : ∃ n : ByteArray, v0 = .string n := by obtain ⟨n, rfl, _⟩ := Go.ChangeMaps.open_string Try.underlying9 (hval 0 9 v0 rfl rfl) h0; exact ⟨n, rfl⟩
  obtain ⟨x0, ok0, vr0⟩ := Opens.one (opens_string st9) (fun _ => rfl) rfl h0
  obtain ⟨n1, rfl⟩ : ∃ n : Bool, v1 = .bool n := by obtain ⟨n, rfl, _⟩ := open_bool Try.underlying4 (hval 1 4 v1 rfl rfl) h1; exact ⟨n, rfl⟩
  obtain ⟨x1, ok1, vr1⟩ := Opens.one (opens_bool bo4) (fun _ => rfl) rfl h1
  have hkk : Rows.uptoBulkAll ([d0, d1] ++ ([] : List (DataW H))) ≤ 1048576 := of_decide_eq_true hk
  simp only [Rows.uptoBulkAll, List.append_nil] at hkk
  have u0 : x0.size ≤ 1048576 := by have := string_bulk Try.underlying9 h0 rfl vr0; omega
  refine (law_calls (fun κ => law_PropsWhole κ x0 ok0 x1 ok1 u0) (TR.cons vr0 (TR.cons vr1 (TR.nil)))).mono fun e W2 ⟨he, hb⟩ => ?_
  subst he
  simp only [List.append_nil] at hW2 hlt
  have k0 : ∀ sp : Nat → Bool, (∀ p ∈ p0, sp p.block = true) → DataW.Trod enc Try.prog W2 0 sp true 9 _ d0 p0 := fun sp hsp => WideElems.Trod_stays laid (by kernel_rfl) (of_decide_eq_true (by kernel_rfl)) h0 (fun x hx => hb.same (hlt x (by simp [hx]))) (fun x hx => hsp x hx)
  have k1 : ∀ sp : Nat → Bool, (∀ p ∈ p1, sp p.block = true) → DataW.Trod enc Try.prog W2 0 sp true 4 _ d1 p1 := fun sp hsp => WideElems.Trod_stays laid (by kernel_rfl) (of_decide_eq_true (by kernel_rfl)) h1 (fun x hx => hb.same (hlt x (by simp [hx]))) (fun x hx => hsp x hx)
  exact ⟨_, rfl, post_of_below (pa := _) (pv := []) hW2 (fun _ _ _ => trodAll_cons_mk (shut_bool Try.underlying4 _) trodAll_mk0) (fun sp hsp => (trodAll_cons_mk (k0 sp (fun p hp => hsp p (by simp [hp]))) (trodAll_cons_mk (k1 sp (fun p hp => hsp p (by simp [hp]))) (trodAll_mk0)))) (fun _ _ => rfl) (by simp)
    hb (ok_one (by kernel_rfl) rfl (okWide_bool_mk Try.underlying4 _))⟩

theorem over : Rows.propsWholeUptoRow.holds Try.pinned (Rows.OpenSpec.upto Rows.propsWholeSpec) :=
  OpenClaim.holds_of_cond 3 Try.f3 rfl rfl rfl rfl rfl rfl rfl ⟨rfl, rfl, rfl, rfl, rfl⟩ rfl rfl rfl rfl rfl (by kernel_rfl) Try.func3 (by kernel_rfl)
    (of_decide_eq_true (by kernel_rfl)) (by unfold Func.isWrapper; first | (rw [if_pos (by decide +kernel)]; kernel_rfl) | (rw [if_neg (by decide +kernel)]; exact ⟨rfl, rfl⟩))
    (fun os started H enc _ F => lifted os started H enc F)

/-- The statement. -/
theorem proved : Rows.PropsWholeUptoSaid := over
end Go.Proofs.Ytaeacialcbahnaa.propsWholeUpto
