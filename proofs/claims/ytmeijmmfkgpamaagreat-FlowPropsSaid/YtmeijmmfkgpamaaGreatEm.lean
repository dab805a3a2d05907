/-
  An evaluator of calls at closed inputs, part m: built-in functions, conversions, comparisons, ranges over texts.
-/
import Derived.Test.YtmeijmmfkgpamaaGreatEl
import Derived.Laws.BytesArg
namespace Go.Eva
open Go.RowKit
set_option linter.unusedVariables false
set_option linter.unusedSimpArgs false
section
variable {κ : Ctx} {P : Program} {ρ : Env} {s s' : ES} {w : World} {N : Nat} {tm : T EV} {a : Act} {x : EV} {C : CallFn} {o : Oper}

theorem denL_take {ys : List EV} {vs : List Value} (h : denL ρ ys = some vs) (k : Nat) : denL ρ (ys.take k) = some (vs.take k) := by
  have hl := denL_len h
  refine denL_mk (by simp [hl]) (fun j x hj => ?_)
  have hk : j < k := by
    rcases Nat.lt_or_ge j k with h | h
    · exact h
    · rw [List.getElem?_eq_none (by simp; omega)] at hj; cases hj
  rw [List.getElem?_take_of_lt hk] at hj ⊢
  exact denL_get h j x hj
theorem all_take {ys : List EV} (h : ys.all EV.one = true) (k : Nat) : (ys.take k).all EV.one = true := by
  rw [List.all_eq_true] at *
  exact fun x hx => h x (List.mem_of_mem_take hx)
/-- A slice that is copied to. -/
theorem copy_sound (hS : S κ P ρ s w) {t ty : TypeId} {x y : EV} {v1 v2 : Value} {r : EV} (hx : x.den ρ = some v1) (hy : y.den ρ = some v2) (h : Ans (copyE t x y ⟨P, C⟩ s) r s s') :
    Does κ P ρ w (Builtin.copy_ #[t, t] ty #[v1, v2]) r s' := by
  obtain ⟨e, h1, h⟩ := Ans.bR h
  obtain ⟨sz, h2, h⟩ := Ans.bR h
  obtain ⟨m, h5, h⟩ := Ans.bR h
  obtain ⟨ys, h6, h⟩ := Ans.bR h
  obtain ⟨h7, hA⟩ := Ans.cnd h
  clear h
  obtain ⟨c1, c2⟩ := band.1 h7
  have c1 := blt_lt c1
  have c2 := beq_n c2
  have hu := und_slT h1
  obtain ⟨news, n1, n2, n3, n4⟩ := src_cells hS hy h5 h6 c2
  cases x with
  | raw v =>
    obtain ⟨h8, hZ⟩ := Ans.cnd (show Ans (cnd (isNilSl v) (.val (.raw (.int .i64 0)) s) .bad) r s s' from hA)
    have hv : v = .slice none 0 0 := by
      unfold isNilSl at h8
      split at h8
      · rfl
      · cases h8
    subst hv
    cases (show some (Value.slice none 0 0) = some v1 from hx)
    obtain ⟨rfl, rfl⟩ := Ans.val hZ
    have hc := n4 0 (Nat.zero_le _) w (fun _ => rfl)
    refine Does.val hS (v := .int .i64 0) ?_ rfl
    simp [Builtin.copy_, run_underlying hu, n3, run_szT h2, hc]
    rfl
  | sl b i sz' n c =>
    obtain ⟨h8, hZ⟩ := Ans.cnd (show Ans (cnd (Nat.beq sz sz') (bR (storeAt s b (i * sz) (ys.take (Nat.min m n * sz))) fun s' => .val (.raw (.int .i64 (.ofNat (Nat.min m n)))) s') .bad) r s s' from hA)
    have h8 := beq_n h8
    subst h8
    obtain ⟨s2, h9, h⟩ := Ans.bR hZ
    obtain ⟨rfl, rfl⟩ := Ans.val h
    obtain ⟨re, hre, hrsz, hcap, rfl⟩ := den_sl hx
    have hc := n4 (Nat.min m n) (Nat.min_le_left _ _) w (fun _ => rfl)
    obtain ⟨e2, w', he2, hr, hS'⟩ := store_sound hS h9 (denL_take n1 _) (all_take n2 _)
    rw [hre] at he2; cases he2
    refine ⟨ρ, w', .int .i64 (Nat.min m n : Nat), ?_, Env.le_refl _, hS', rfl⟩
    simp [Builtin.copy_, run_underlying hu, n3, run_szT h2, hc, hr]
    rfl
  | _ => exact Ans.bad hA
theorem builtin_ex {c : Call} {b : Builtin} (ho : o.op = .call c) (hc : c.callee = .builtin b) : execOp a.eval o = Go.builtin b c.argTypes o.type (c.args.map fun | .const _ => true | _ => false) (c.args.map a.eval) := by
  obtain ⟨dst, op, ty, pos, af, gd⟩ := o
  cases ho
  obtain ⟨ce, args, ats⟩ := c
  cases hc
  rfl
theorem pureA (hS : S κ P ρ s w) (ht : TR ρ N tm a.tmps) (hsel : ∀ cs b, o.op ≠ .select cs b) (h : Ans (vO s (pureOp P tm o)) x s s') : DoesN κ P ρ w (execOp a.eval o) x s' := by
  obtain ⟨h1, rfl⟩ := Ans.vO h
  exact pure_sound hS ht hsel h1
theorem head_get {α : Type} {A : Array α} {x : α} (h : A.toList.head? = some x) : A[0]? = some x := by
  rw [List.head?_eq_getElem?] at h; simpa using h
theorem head_den (ht : TR ρ N tm a.tmps) {args : Array Operand} {vs : List EV} {x : EV} (h : evs tm args.toList = some vs) {k : Nat} (hx : vs[k]? = some x) : ∃ v, (args.map a.eval)[k]? = some v ∧ x.den ρ = some v := by
  obtain ⟨v, h1, h2⟩ := denL_get (evs_sound ht h) k x hx
  refine ⟨v, ?_, h2⟩
  rw [← Array.getElem?_toList, Array.toList_map]; exact h1
theorem lenX_run (hx' : EV) {t ty : TypeId} {n : Nat} {v : Value} {A : Array TypeId} {B : Array Value} (h : lenX t x P = some n) (hx : x.den ρ = some v) (hA : A[0]? = some t) (hB : B[0]? = some v) (w : World) : (Builtin.len_ A ty B).run P w = .ok (.int .i64 (n : Int)) w := by
  unfold lenX at h
  split at h
  · obtain ⟨e, h1, h2⟩ := bO_some.1 h
    cases h2
    obtain ⟨re, _, _, _, rfl⟩ := den_sl hx
    simp [Builtin.len_, hA, hB, run_underlying (und_slT h1)]; rfl
  · obtain ⟨e, h1, h2⟩ := bO_some.1 h
    cases h2
    simp only [EV.den, Option.bind_eq_some_iff] at hx
    obtain ⟨re, _, hx⟩ := hx
    split at hx
    · cases hx
      simp [Builtin.len_, hA, hB, run_underlying (und_slT h1)]; rfl
    · cases hx
  · obtain ⟨h1, h2⟩ := cnd_none.1 h
    cases h2
    cases (show some _ = some v from hx)
    rename_i b
    have : b.data.toList.length = b.size := by rw [Array.length_toList]; rfl
    rw [this]
    simp [Builtin.len_, hA, hB, run_underlying (und_strT h1)]; rfl
  · cases h
theorem capX_run {t ty : TypeId} {n : Nat} {v : Value} {A : Array TypeId} {B : Array Value} (h : capX t x P = some n) (hx : x.den ρ = some v) (hA : A[0]? = some t) (hB : B[0]? = some v) (w : World) : (Builtin.cap_ A ty B).run P w = .ok (.int .i64 (n : Int)) w := by
  unfold capX at h
  split at h
  · obtain ⟨e, h1, h2⟩ := bO_some.1 h
    obtain ⟨re, _, _, _, rfl⟩ := den_sl hx
    subst h2
    simp [Builtin.cap_, hA, hB, run_underlying (und_slT h1)]; rfl
  · cases h
theorem opBuiltin_sound (hS : S κ P ρ s w) (ht : TR ρ N tm a.tmps) {c : Call} {b : Builtin} {vs : List EV} (ho : o.op = .call c) (hc : c.callee = .builtin b) (hv : evs tm c.args.toList = some vs) (h : Ans (biTab b c.argTypes.toList vs ⟨P, C⟩ o tm s) x s s') : DoesN κ P ρ w (execOp a.eval o) x s' := by
  have hsel : ∀ cs b, o.op ≠ .select cs b := by rw [ho]; simp
  cases b with
  | len =>
    rcases Ans.rec h with ⟨_, h⟩ | ⟨n, h1, h⟩
    · exact pureA hS ht hsel h
    · obtain ⟨rfl, rfl⟩ := Ans.val h
      obtain ⟨t, h2, h3⟩ := bO_some.1 h1
      obtain ⟨y, h4, h5⟩ := bO_some.1 h3
      rw [List.head?_eq_getElem?] at h4
      obtain ⟨v, h6, h7⟩ := head_den ht hv h4
      rw [builtin_ex ho hc]
      exact Does.next (Does.val hS (lenX_run y h5 h7 (head_get h2) h6 w) rfl)
  | cap =>
    rcases Ans.rec h with ⟨_, h⟩ | ⟨n, h1, h⟩
    · exact pureA hS ht hsel h
    · obtain ⟨rfl, rfl⟩ := Ans.val h
      obtain ⟨t, h2, h3⟩ := bO_some.1 h1
      obtain ⟨y, h4, h5⟩ := bO_some.1 h3
      rw [List.head?_eq_getElem?] at h4
      obtain ⟨v, h6, h7⟩ := head_den ht hv h4
      rw [builtin_ex ho hc]
      exact Does.next (Does.val hS (capX_run h5 h7 (head_get h2) h6 w) rfl)
  | append =>
    obtain ⟨t, h1, h⟩ := Ans.bR h
    obtain ⟨u, h2, h⟩ := Ans.bR h
    obtain ⟨y, h3, h⟩ := Ans.bR h
    obtain ⟨z, h4, h⟩ := Ans.bR h
    obtain ⟨h5, h⟩ := Ans.cnd h
    obtain ⟨v1, h6, h7⟩ := head_den ht hv h3
    obtain ⟨v2, h8, h9⟩ := head_den ht hv h4
    rw [builtin_ex ho hc]
    have := append_sound (ty := o.type) hS h7 h9 h5 h
    rw [← append_two (by simpa using h1) (by simpa using h2) h6 h8] at this
    exact Does.next this
  | copy =>
    obtain ⟨t, h1, h⟩ := Ans.bR h
    obtain ⟨y, h3, h⟩ := Ans.bR h
    obtain ⟨z, h4, h⟩ := Ans.bR h
    obtain ⟨v1, h6, h7⟩ := head_den ht hv h3
    obtain ⟨v2, h8, h9⟩ := head_den ht hv h4
    rw [builtin_ex ho hc]
    have := copy_sound (ty := o.type) hS h7 h9 h
    rw [← copy_two (by simpa using h1) h6 h8] at this
    exact Does.next this
  | max => exact pureA hS ht hsel h
  | min => exact pureA hS ht hsel h
  | _ => exact Ans.bad h
end
end Go.Eva
