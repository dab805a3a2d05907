/-
  An evaluator of calls at closed inputs, part l: built-in functions.
-/
import Derived.Test.YtmeijmmfkgpamaaGreatEk
namespace Go.Eva
open Go.RowKit
set_option linter.unusedVariables false
set_option linter.unusedSimpArgs false
section
variable {κ : Ctx} {P : Program} {ρ : Env} {s s' : ES} {w : World} {N : Nat} {tm : T EV} {a : Act} {x : EV} {C : CallFn} {o : Oper}

/-- What an operation came to: a value, in a heap that is what it was, or another one. -/
def Ans (r : RO) (x : EV) (s s' : ES) : Prop := r = .val x s' ∨ (r = .keep x ∧ s' = s)
theorem Ans.bR {α : Type} {o : Option α} {f : α → RO} {x : EV} {s s' : ES} (h : Ans (bR o f) x s s') : ∃ y, o = some y ∧ Ans (f y) x s s' := by
  cases o with
  | none => rcases h with h | ⟨h, _⟩ <;> cases h
  | some y => exact ⟨y, rfl, h⟩
theorem Ans.cnd {b : Bool} {r : RO} {x : EV} {s s' : ES} (h : Ans (cnd b r .bad) x s s') : b = true ∧ Ans r x s s' := by
  cases b with
  | false => rcases h with h | ⟨h, _⟩ <;> cases h
  | true => exact ⟨rfl, h⟩
theorem Ans.val {y : EV} {t : ES} (h : Ans (.val y t) x s s') : y = x ∧ t = s' := by
  rcases h with h | ⟨h, _⟩
  · exact val_inj.1 h
  · cases h
theorem Ans.keep {y : EV} (h : Ans (.keep y) x s s') : y = x ∧ s' = s := by
  rcases h with h | ⟨h, h2⟩
  · cases h
  · cases h; exact ⟨rfl, h2⟩
theorem Ans.bad {X : Prop} (h : Ans .bad x s s') : X := by rcases h with h | ⟨h, _⟩ <;> cases h
theorem Ans.vO {q : ES} {o : Option EV} (h : Ans (vO q o) x s s') : o = some x ∧ q = s' := by
  cases o with
  | none => exact Ans.bad h
  | some y => obtain ⟨rfl, rfl⟩ := Ans.val h; exact ⟨rfl, rfl⟩
theorem Ans.rec {α : Type} {o' : Option α} {r : RO} {f : α → RO} (h : Ans (Option.rec r f o' : RO) x s s') : (o' = none ∧ Ans r x s s') ∨ ∃ z, o' = some z ∧ Ans (f z) x s s' := by
  cases o' with
  | none => exact .inl ⟨rfl, h⟩
  | some z => exact .inr ⟨z, rfl, h⟩

theorem append_two {A : Array TypeId} {B : Array Value} {t tx ty : TypeId} {v u : Value} (h0 : A[0]? = some t) (h1 : A[1]? = some tx) (h2 : B[0]? = some v) (h3 : B[1]? = some u) : Builtin.append_ A ty B = Builtin.append_ #[t, tx] ty #[v, u] := by
  simp [Builtin.append_, h0, h1, h2, h3]
theorem copy_two {A : Array TypeId} {B : Array Value} {t ty : TypeId} {v u : Value} (h0 : A[0]? = some t) (h2 : B[0]? = some v) (h3 : B[1]? = some u) : Builtin.copy_ A ty B = Builtin.copy_ #[t, t] ty #[v, u] := by
  simp [Builtin.copy_, h0, h2, h3]
theorem kind_of {u : TypeId} (h : ((slT P u).isSome || strT P u) = true) : (∃ e', P.underlying u = some (.slice e')) ∨ P.underlying u = some .string := by
  rcases Bool.or_eq_true_iff.1 h with h | h
  · obtain ⟨e', h⟩ := Option.isSome_iff_exists.1 h
    exact .inl ⟨e', und_slT h⟩
  · exact .inr (und_strT h)
/-- A slice that is appended to. -/
theorem append_sound (hS : S κ P ρ s w) {t u ty : TypeId} {x y : EV} {v1 v2 : Value} {r : EV} (hx : x.den ρ = some v1) (hy : y.den ρ = some v2) (hk : ((slT P u).isSome || strT P u) = true) (h : Ans (appendE t x y ⟨P, C⟩ s) r s s') :
    Does κ P ρ w (Builtin.append_ #[t, u] ty #[v1, v2]) r s' := by
  obtain ⟨e, h1, h⟩ := Ans.bR h
  obtain ⟨sz, h2, h⟩ := Ans.bR h
  obtain ⟨bt, h3, h⟩ := Ans.bR h
  obtain ⟨z, h4, h⟩ := Ans.bR h
  obtain ⟨m, h5, h⟩ := Ans.bR h
  obtain ⟨ys, h6, h⟩ := Ans.bR h
  obtain ⟨h7, hA⟩ := Ans.cnd h
  clear h
  obtain ⟨h7, c4⟩ := band.1 h7
  obtain ⟨h7, c3⟩ := band.1 h7
  obtain ⟨c1, c2⟩ := band.1 h7
  have c1 := blt_lt c1
  have c2 := beq_n c2
  have c3 := blt_lt c3
  have c4 := beq_n c4
  obtain ⟨i, zv, hi, hsz, hbt, hz, rfl⟩ := size_info h2 h3 h4
  have hu := und_slT h1
  obtain ⟨news, n1, n2, n3⟩ := src_mk hS (kind_of hk) hy h5 h6 c2
  have hzs : zv.cells.size = sz := by simpa using c4
  have hnl : news.length = m * sz := n3.newsLen
  subst hsz
  -- a new row
  have grown : ∀ (xs : List EV) (olds : List Value) (n sCap : Nat) (base : Option Addr), denL ρ xs = some olds → xs.all EV.one = true → xs.length = n * i.size → (Builtin.firstCells i.size n (.slice base n sCap)).run P w.drew = .ok olds.toArray w.drew → sCap < n + m →
      (n + m) * bt ≤ 140737488355328 → v1 = .slice base n sCap → ∀ {st : ES}, S κ P ρ st w → st.n = s.n → Ans (.val (.sl s.n 0 i.size (n + m) none) (newObj st (.row (xs ++ ys) s.n true true))) r s s' → Does κ P ρ w (Builtin.append_ #[t, u] ty #[v1, v2]) r s' := by
    intro xs olds n sCap base q1 q2 q3 q4 q5 q6 q7 st hst hn h
    obtain ⟨rfl, rfl⟩ := Ans.val h
    have hnm : n + m ≤ 140737488355328 := Nat.le_trans (Nat.le_mul_of_pos_right _ c3) q6
    have hr := run_append_grow_src (P := P) w t u ty e i zv hu hi hz base n sCap olds q4 v2 m news n3 q5 (by omega) (by rw [hbt]; exact growslice_fits q5 q6)
    have hge := grownCap_ge w (n + m) sCap e
    obtain ⟨ρ', r1, r2, r3⟩ := growNew_sound (e := e) hst q1 n1 q2 n2 q3 c2 hge (rest := Builtin.zeroCells zv.cells (grownCap w (n + m) sCap e - (n + m))) (by
      rw [size_zeroCells, hzs, ← Nat.add_mul]
      exact Nat.le_of_eq (by congr 1; omega))
    rw [hn] at r2 r3
    exact ⟨ρ', _, _, by rw [q7]; exact hr, r1, r2, r3⟩
  cases x with
  | raw v =>
    obtain ⟨h8, h⟩ := Ans.cnd (show Ans (cnd (isNilSl v) (cnd (Nat.beq m 0) (.keep (.raw v)) (cnd (Nat.ble (m * bt) 140737488355328) (growNew i.size 0 m [] ys s) .bad)) .bad) r s s' from hA)
    have hv : v = .slice none 0 0 := by
      unfold isNilSl at h8
      split at h8
      · rfl
      · cases h8
    subst hv
    cases (show some (Value.slice none 0 0) = some v1 from hx)
    cases hm : Nat.beq m 0 with
    | true =>
      have hm := beq_n hm
      subst hm
      obtain ⟨rfl, rfl⟩ := Ans.keep (show Ans (.keep _) r s s' from h)
      exact Does.val hS (app_keep hu hi n3 none 0 0 (Nat.le_refl _)) rfl
    | false =>
      rw [hm] at h
      obtain ⟨h9, h⟩ := Ans.cnd (show Ans (cnd (Nat.ble (m * bt) 140737488355328) (growNew i.size 0 m [] ys s) .bad) r s s' from h)
      have h9 := ble_le h9
      have hm0 : 0 < m := by
        rcases Nat.eq_zero_or_pos m with e0 | e0
        · subst e0; cases hm
        · exact e0
      exact grown [] [] 0 0 none rfl rfl (by simp) (by simp [Builtin.firstCells]) (by omega) (by rw [Nat.zero_add]; exact h9) rfl hS rfl h
  | sl b j sz' n c =>
    obtain ⟨h8, h⟩ := Ans.cnd (show Ans (cnd (Nat.beq i.size sz') (cnd (Nat.beq m 0) (cnd (roomOk n c) (.keep (.sl b j sz' n c)) .bad) (cnd (Nat.ble ((n + m) * bt) 140737488355328) (bR (slCells s (.sl b j sz' n c)) fun xs => growSl b j i.size n m c xs ys s) .bad)) .bad) r s s' from hA)
    have h8 := beq_n h8
    subst h8
    obtain ⟨re, hre, hrsz, hcap, rfl⟩ := den_sl hx
    cases hm : Nat.beq m 0 with
    | true =>
      rw [hm] at h
      have hm := beq_n hm
      subst hm
      obtain ⟨h9, h⟩ := Ans.cnd (show Ans (cnd (roomOk n c) (.keep (.sl b j i.size n c)) .bad) r s s' from h)
      obtain ⟨rfl, rfl⟩ := Ans.keep h
      refine Does.val hS (app_keep hu hi n3 _ _ _ ?_) hx
      cases c with
      | none => have := hcap rfl; simp only [Option.getD_none]; omega
      | some k => exact ble_le h9
    | false =>
      rw [hm] at h
      obtain ⟨h9, h⟩ := Ans.cnd (show Ans (cnd (Nat.ble ((n + m) * bt) 140737488355328) (bR (slCells s (.sl b j i.size n c)) fun xs => growSl b j i.size n m c xs ys s) .bad) r s s' from h)
      have h9 := ble_le h9
      obtain ⟨xs, h10, h⟩ := Ans.bR h
      obtain ⟨l, h11, h12⟩ := bO_some.1 (show bO (cellsAt s b) _ = some xs from h10)
      obtain ⟨h13, h14⟩ := cnd_none.1 h12
      have h13 := ble_le h13
      have hxs : xs = (l.drop (j * i.size)).take (n * i.size) := (Option.some.inj h14).symm
      obtain ⟨e', he', arr, t', fz, a1, a2, a3, a4, a5⟩ := cells_obj hS h11
      rw [hre] at he'; cases he'
      obtain ⟨olds, d1, d2, d3, d4⟩ := cr_list a5 (show j * i.size + n * i.size ≤ l.length by rw [← Nat.add_mul]; exact h13)
      have hxl : xs.length = n * i.size := by rw [hxs, List.length_take, List.length_drop]; have := Nat.add_mul j n i.size; omega
      have hfc : ∀ cap, (Builtin.firstCells i.size n (.slice (some ⟨re.b, re.base + j * i.size, none⟩) n cap)).run P w.drew = .ok olds.toArray w.drew := fun cap =>
        run_firstCells_some w.drew i.size n _ _ _ _ d2 (fun q u hq => by
          show w.cell? _ = _
          rw [Addr.add_lit, cell_at a1]
          exact d3 q u hq)
      rw [← hxs] at d1 d4
      cases c with
      | some k =>
        cases h15 : Nat.ble (n + m) k with
        | true =>
          have h : Ans (bR (storeAt s b ((j + n) * i.size) ys) fun s' => .val (.sl b j i.size (n + m) (some k)) s') r s s' := by
            have : growSl b j i.size n m (some k) xs ys s = cnd (Nat.ble (n + m) k) (bR (storeAt s b ((j + n) * i.size) ys) fun s' => .val (.sl b j i.size (n + m) (some k)) s') (growNew i.size n m xs ys s) := rfl
            rw [this, h15] at h; exact h
          obtain ⟨s2, h16, h⟩ := Ans.bR h
          obtain ⟨rfl, rfl⟩ := Ans.val h
          obtain ⟨e2, w', he2, hr, hS'⟩ := store_sound hS h16 n1 n2
          rw [hre] at he2; cases he2
          refine ⟨ρ, w', _, app_room hu hi n3 (show n + m ≤ (some k).getD (re.cap - j) from ble_le h15) (by rw [Nat.add_assoc, ← Nat.add_mul]; exact hr), Env.le_refl _, hS', ?_⟩
          simp only [EV.den, hre, Option.bind_some, hrsz, true_and, reduceCtorEq, false_implies, if_true, Option.getD_some]
        | false =>
          have h : Ans (growNew i.size n m xs ys s) r s s' := by
            have : growSl b j i.size n m (some k) xs ys s = cnd (Nat.ble (n + m) k) (bR (storeAt s b ((j + n) * i.size) ys) fun s' => .val (.sl b j i.size (n + m) (some k)) s') (growNew i.size n m xs ys s) := rfl
            rw [this, h15] at h; exact h
          refine grown xs olds n k _ d1 d4 hxl (hfc k) ?_ h9 rfl hS rfl h
          have : ¬ n + m ≤ k := fun e => by rw [Nat.ble_eq_true_of_le e] at h15; cases h15
          omega
      | none =>
        obtain ⟨y', h16, h⟩ := Ans.bR (show Ans (bR (T.get s.h b) fun x => growObj b j i.size n m xs ys s x) r s s' from h)
        cases y' with
        | row l' cl so ti =>
          cases ti with
          | false => exact Ans.bad h
          | true =>
            have hll : l' = l := by
              unfold cellsAt at h11
              rw [h16] at h11
              exact Option.some.inj h11
            subst hll
            have hcap := hcap rfl
            rcases Nat.lt_or_ge (re.cap - j) (n + m) with hr | hr
            · have hmv := grow_moved hS h16 (i := j) (n := n) (sz := i.size)
              -- it has moved: what is known of the new row is less
              obtain ⟨rfl, rfl⟩ := Ans.val (show Ans (.val _ _) r s s' from h)
              have hnm : n + m ≤ 140737488355328 := Nat.le_trans (Nat.le_mul_of_pos_right _ c3) h9
              have hrun := run_append_grow_src (P := P) w t u ty e i zv hu hi hz _ n (re.cap - j) olds (hfc _) v2 m news n3 hr (by omega) (by rw [hbt]; exact growslice_fits hr h9)
              have hge := grownCap_ge w (n + m) (re.cap - j) e
              have hd := denL_app d1 n1
              have hlen : (xs ++ ys).length = (n + m) * i.size := by rw [List.length_append, hxl, c2, Nat.add_mul]
              have := new_row (t := e) (rest := Builtin.zeroCells zv.cells (grownCap w (n + m) (re.cap - j) e - (n + m))) (cl := cl) (so := false) (ti := true) (n := n + m) (cap := grownCap w (n + m) (re.cap - j) e) (sz := i.size) (fz := (0, 0)) (hmv.drew (w.drawn + 1)) hd
                (by rw [List.all_append, d4, n2]; rfl) (by omega) hge (by
                  have := denL_len hd
                  rw [this, hlen, size_zeroCells, hzs, ← Nat.add_mul]
                  exact Nat.le_of_eq (by congr 1; omega)) Thaw.zero none (.inl rfl)
              exact ⟨_, _, _, hrun, this⟩
            · obtain ⟨w', ρ', r1, r2, r3, r4⟩ := grow_room hS h16 hre hrsz (show j + n + m ≤ re.cap by omega) h13 n1 n2 c2
              rw [← hxs] at r3
              obtain ⟨rfl, rfl⟩ := Ans.val (show Ans (.val _ _) r s s' from h)
              exact ⟨ρ', w', _, app_room hu hi n3 (show n + m ≤ (none : Option Nat).getD (re.cap - j) from hr) r1, r2, r3, r4⟩
        | _ => exact Ans.bad h
  | _ => exact Ans.bad hA
end
end Go.Eva
