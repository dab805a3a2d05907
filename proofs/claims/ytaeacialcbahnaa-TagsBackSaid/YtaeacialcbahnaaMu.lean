/-
  The abstract layer, part u: rows that are written in place, and become slices once they are done.
-/
import Derived.Test.YtaeacialcbahnaaMt
import Derived.Laws.MakeOwn
import Derived.Laws.CopyRow
namespace Go.Abs
open Go.RowKit

section
variable {κ : Ctx} {P : Program} {σ : List Res} {K : AV → List Res → Prop}

/-- A row of so many, as a value. -/
abbrev rowV (b o n c : Nat) : AV := .raw (.slice (some ⟨b, o, none⟩) n c)

theorem TR.replicate {g : Nat → Nat} {w : World} {x : AV} {v : Value} (h : VR g w x v) (n : Nat) : TR g w (List.replicate n x) (Array.replicate n v) :=
  ⟨by simp, fun k y hk => by
    rw [List.getElem?_replicate] at hk
    split at hk
    · rename_i hlt
      cases hk
      have : (Array.replicate n v).getD k undef = v := by simp [Array.getD_eq_getD_getElem?, hlt]
      rw [this]; exact h
    · cases hk⟩

theorem madeCells_one {z : Value} (h : z.oneCell' = true) (n : Nat) : madeCells z.cells n = Array.replicate n z := by
  rw [cells_one h]
  refine Array.ext (by simp [madeCells]) (fun i h1 h2 => ?_)
  simp [madeCells, Nat.mod_one]

theorem act_mkrow {t e : TypeId} {z : Value} {by_ n : Nat} (he : slE P t = some e) (hs : szT P e = some 1) (hb : byT P e = some by_) (hz : zrT P e = some z) (hz1 : z.oneCell' = true) (hz2 : oneA (ofV z) = true) (hn : n ≤ 1000000000) (hby : by_ ≤ 1000)
    (hK : ∀ b, K (rowV b 0 n n) (.obj b (List.replicate n (ofV z)) :: σ)) : AAct κ P (.mkslice t) [I n, I n] σ K := by
  intro φ g w vs hR hv
  obtain ⟨v, u, rfl, hv1, hv2⟩ := two_vs hv
  cases hv1.raw_eq
  cases hv2.raw_eq
  obtain ⟨inf, hi, hisz, hiby, hizr⟩ : ∃ inf, P.info? e = some inf ∧ inf.size = 1 ∧ inf.bytes = by_ ∧ inf.zero = some z := by
    unfold szT byT zrT at *
    cases hi : P.info? e with
    | none => simp [hi] at hs
    | some inf => exact ⟨inf, rfl, by simpa [hi] using hs, by simpa [hi] using hb, by simpa [hi] using hz⟩
  have hbn : (inf.bytes : Int) * (n : Int) ≤ 281474976710656 := by
    rw [hiby]
    have h1 : by_ * n ≤ 1000 * 1000000000 := Nat.mul_le_mul hby hn
    have h2 : ((by_ * n : Nat) : Int) ≤ 281474976710656 := by omega
    rwa [Int.natCast_mul] at h2
  have hrun := run_make (P := P) w t e inf z (und_of_slE he) hi hizr .i64 .i64 n n (Int.natCast_nonneg _) (Int.le_refl _) hbn (by omega)
  simp only [Int.toNat_natCast, hisz, Nat.mul_one, madeCells_one hz1] at hrun
  obtain ⟨a1, a2⟩ := hR.new_obj e (TR.replicate (g := g) (w := w) (ofV_sound z) n)
  exact ⟨_, _, g, _, _, hrun, a1.perm List.perm_middle.symm, a2, .raw _, hK _⟩

/-- Cells laid over a row's. -/
def lay (cs : List AV) (o : Nat) (xs : List AV) : List AV := cs.take o ++ xs ++ cs.drop (o + xs.length)

theorem TR.list {g : Nat → Nat} {w : World} {xs : List AV} {vs : Array Value} (h : TR g w xs vs) : TR g w xs vs.toList.toArray := by simpa using h
theorem TR.of_get {g : Nat → Nat} {w : World} {xs : List AV} {us : List Value} (hl : us.length = xs.length) (h : ∀ (k : Nat) (x : AV), xs[k]? = some x → ∃ u, us[k]? = some u ∧ VR g w x u) : TR g w xs us.toArray :=
  ⟨by simpa using hl, fun k x hk => by
    obtain ⟨u, h1, h2⟩ := h k x hk
    have : us.toArray.getD k undef = u := by simp [Array.getD_eq_getD_getElem?, h1]
    rw [this]; exact h2⟩
theorem TR.get' {g : Nat → Nat} {w : World} {xs : List AV} {us : List Value} (h : TR g w xs us.toArray) (k : Nat) (x : AV) (hk : xs[k]? = some x) : ∃ u, us[k]? = some u ∧ VR g w x u := by
  have h1 := h.get k x hk
  have hlt : k < us.length := by have := h.size; simp at this; rw [this]; exact lt_of_get hk
  refine ⟨us[k], List.getElem?_eq_getElem hlt, ?_⟩
  have h2 : us.toArray.getD k undef = us[k] := by
    have : us[k]? = some us[k] := List.getElem?_eq_getElem hlt
    simp [Array.getD_eq_getD_getElem?, this]
  rw [h2] at h1; exact h1

theorem TR.lay {g : Nat → Nat} {w : World} {cs xs : List AV} {cur us : List Value} {o : Nat} (hc : TR g w cs cur.toArray) (hx : TR g w xs us.toArray) : TR g w (Go.Abs.lay cs o xs) (cur.take o ++ us ++ cur.drop (o + us.length)).toArray := by
  have e1 : cur.length = cs.length := by have := hc.size; simpa using this
  have e2 : us.length = xs.length := by have := hx.size; simpa using this
  unfold Go.Abs.lay
  have t1 : TR g w (cs.take o) (cur.take o).toArray := TR.of_get (by simp [e1]) (fun k x hk => by
    rw [List.getElem?_take] at hk ⊢
    split at hk
    · rename_i hlt; rw [if_pos hlt]; exact hc.get' k x hk
    · cases hk)
  have t2 : TR g w (cs.drop (o + xs.length)) (cur.drop (o + us.length)).toArray := TR.of_get (by simp [e1, e2]) (fun k x hk => by
    rw [List.getElem?_drop] at hk ⊢
    rw [e2]; exact hc.get' _ x hk)
  have := (t1.append hx).append t2
  simpa using this

theorem setRow_other (w : World) (b c : Nat) (cs : Array Value) (h : c ≠ b) : (w.setRow b cs).heap[c]? = w.heap[c]? := by
  simp only [World.setRow, Array.getElem?_modify]
  rw [if_neg (fun e => h e.symm)]

/-- A row turns. -/
theorem row_turn {φ : List Res} {g : Nat → Nat} {w : World} {b i : Nat} {cs cs' : List AV} {cur' : Array Value} (hR : Rel κ g (φ ++ σ) w) (h : σ[i]? = some (.obj b cs)) {cur : Array Value} {ty : TypeId} (hh : w.heap[b]? = some (.cells cur ty (0, 0))) (hsz : cur'.size = cur.size) (ht : TR g w cs' cur') :
    Rel κ g (φ ++ σ.set i (.obj b cs')) (w.setRow b cur') ∧ GE g w g (w.setRow b cur') := by
  obtain ⟨h0, _⟩ := hR.holds _ (mem_right h)
  have hge : GE g w g (w.setRow b cur') := by
    refine ⟨by simp [World.setRow], fun _ => Nat.le_refl _, fun c o ho => ?_, fun c => ?_⟩
    · have hc : c ≠ b := fun e => by subst e; rw [h0] at ho; omega
      simp only [World.cell?]; rw [setRow_other w b c cur' hc]
    · by_cases e : c = b
      · subst e
        simp only [blockLen]; rw [setRow_heap w c cur cur' ty _ hh, hh]; simp [hsz]
      · simp only [blockLen]; rw [setRow_other w b c cur' e]; exact Nat.le_refl _
  refine ⟨?_, hge⟩
  have hR' := hR.perm (perm_front (φ := φ) (perm_get h))
  have hR2 : Rel κ g (.obj b cs' :: (φ ++ σ.eraseIdx i)) (w.setRow b cur') :=
    hR'.change hge rfl rfl rfl (by simp [World.setRow]) (fun c hc => setRow_other w b c cur' hc) (fun _ _ => rfl) rfl rfl ⟨h0, cur', ty, setRow_heap w b cur cur' ty _ hh, ht.mono hge⟩
  exact hR2.perm (List.perm_middle.symm.trans ((perm_set h).append_left φ))

/-- copy: a slice over a row. -/
theorem act_copy_row {ts : Array TypeId} {t e ty : TypeId} {own : Option (Option (Nat × Nat))} {l : List AV} {b o dl dc : Nat} {cs : List AV} (i : Nat) (h : σ[i]? = some (.obj b cs)) (hts : ts = #[t, t]) (he : slE P t = some e) (hs : szT P e = some 1) (hgood : goodL l = true) (hfit : o + min l.length dl ≤ cs.length)
    (hK : K (I (min l.length dl : Nat)) (σ.set i (.obj b (lay cs o ((l.take dl).flatMap AV.cells))))) : AAct κ P (.copy ts ty) [rowV b o dl dc, .sl 1 own l] σ K := by
  intro φ g w vs hR hvs
  subst hts
  obtain ⟨v, u, rfl, hv, hu⟩ := two_vs hvs
  cases hv.raw_eq
  have ht := und_of_slE he
  obtain ⟨h0, cur, ety, hh, hcs⟩ := hR.holds _ (mem_right h)
  have hinf : (P.info? e).map (·.size) = some 1 := hs
  have hcl : ∀ x ∈ l, x.cells.length = 1 → True := fun _ _ _ => trivial
  rcases hu.sl_inv with ⟨rfl, ⟨ad, cp, rfl, hcp, _⟩, _⟩ | ⟨b', off', cap', rfl, hcap, hmax, hpos, hel, _⟩
  · have hrow : Rel κ g (φ ++ σ.set i (.obj b cs)) w := by
      have e : σ.set i (.obj b cs) = σ := by
        apply List.ext_getElem?
        intro m
        rw [List.getElem?_set]
        split
        · rename_i e; subst e; split
          · rw [h]
          · rename_i hlt; exact (hlt (lt_of_get h)).elim
        · rfl
      rw [e]; exact hR
    refine ⟨goInt 0, w, g, I 0, _, ?_, hrow, GE.refl _ _, .raw _, by simpa [lay] using hK⟩
    cases hq : P.info? e with
    | none => simp [hq] at hinf
    | some inf =>
      have hi1 : inf.size = 1 := by simpa [hq] using hinf
      cases ad with
      | none =>
        have := hcp rfl; subst this
        simp [MA.sem, nth, Builtin.copy_, run_und ht, Builtin.lenOf, Builtin.firstCells, sizeOf, typeInfo, hq, storeCells]
      | some ad =>
        simp [MA.sem, nth, Builtin.copy_, run_und ht, Builtin.lenOf, Builtin.firstCells, sizeOf, typeInfo, hq, storeCells, loadCells, loadCellsFrom]
  · obtain ⟨us, hf, hus⟩ := hu.flat
    have husl : us.length = l.length := by have := hf.len; omega
    have h1 := hf.one hgood
    let m := min l.length dl
    have hmlen : (us.take m).length = m := by rw [List.length_take, husl]; omega
    have hrun := run_copy_row (P := P) w t t ty e b o dl dc ⟨b', off', none⟩ l.length cap' cur ety (us.take m) ht hinf hh (by rw [hmlen]) (fun j v hj => by
      have hlt := lt_of_get hj
      rw [hmlen] at hlt
      rw [List.getElem?_take_of_lt hlt] at hj
      rw [Addr.add_lit]; exact hus j v hj) (by rw [hmlen, hcs.size]; exact hfit) (fun v hv => h1 v (List.mem_of_mem_take hv))
    have hx : TR g w ((l.take dl).flatMap AV.cells) (us.take m).toArray := by
      have hflat : ∀ (l : List AV), (∀ x ∈ l, x.cells.length = 1) → ∀ k : Nat, (l.flatMap AV.cells)[k]? = (l[k]?).bind fun x : AV => x.cells[0]? := by
        intro l
        induction l with
        | nil => intro _ k; simp
        | cons x l ih =>
          intro hl k
          have hx1 := hl x (by simp)
          match hxc : x.cells, hx1 with
          | [y], _ =>
            cases k with
            | zero => simp [hxc]
            | succ k =>
              simp only [List.flatMap_cons, hxc, List.cons_append, List.nil_append, List.getElem?_cons_succ]
              exact ih (fun z hz => hl z (by simp [hz])) k
      have hl1 : ∀ x ∈ l.take dl, x.cells.length = 1 := fun x hx => by
        obtain ⟨j, hj⟩ := List.mem_iff_getElem?.1 (List.mem_of_mem_take hx)
        exact hel j x hj
      have hlen : ∀ (l : List AV), (∀ x ∈ l, x.cells.length = 1) → (l.flatMap AV.cells).length = l.length := by
        intro l
        induction l with
        | nil => intro _; rfl
        | cons x l ih => intro hl; simp only [List.flatMap_cons, List.length_append, hl x (by simp), ih (fun z hz => hl z (by simp [hz])), List.length_cons]; omega
      refine TR.of_get (by rw [hmlen, hlen _ hl1]; simp; omega) (fun k x hk => ?_)
      have hlt := lt_of_get hk
      rw [hlen _ hl1] at hlt
      rw [hflat _ hl1] at hk
      have hkm : k < m := by simp at hlt; omega
      rw [List.getElem?_take_of_lt (by simp at hlt; omega)] at hk
      cases hy : l[k]? with
      | none => simp [hy] at hk
      | some y =>
        simp [hy] at hk
        obtain ⟨u, h2, h3⟩ := hf.cell k y 0 x hy hk
        refine ⟨u, ?_, h3⟩
        rw [List.getElem?_take_of_lt hkm]
        simpa using h2
    have hcur : TR g w cs cur.toList.toArray := by simpa using hcs
    have hlay := TR.lay (o := o) hcur hx
    obtain ⟨r1, r2⟩ := row_turn hR h (cur' := (cur.toList.take o ++ us.take m ++ cur.toList.drop (o + (us.take m).length)).toArray) hh (by
      have : o + m ≤ cur.size := by rw [hcs.size]; exact hfit
      simp [husl]; omega) hlay
    refine ⟨_, _, g, I (min l.length dl : Nat), _, hrun, r1, r2, ?_, hK⟩
    rw [hmlen]; exact .raw _

/-- copy: a row's beginning over the same row. -/
theorem act_copy_self {ts : Array TypeId} {t e ty : TypeId} {b o dl dc m mc : Nat} {cs : List AV} (i : Nat) (h : σ[i]? = some (.obj b cs)) (hts : ts = #[t, t]) (he : slE P t = some e) (hs : szT P e = some 1) (hgood : cs.all oneA = true) (hm : m ≤ cs.length) (hfit : o + min m dl ≤ cs.length)
    (hK : K (I (min m dl : Nat)) (σ.set i (.obj b (lay cs o (cs.take (min m dl)))))) : AAct κ P (.copy ts ty) [rowV b o dl dc, rowV b 0 m mc] σ K := by
  intro φ g w vs hR hvs
  subst hts
  obtain ⟨v, u, rfl, hv, hu⟩ := two_vs hvs
  cases hv.raw_eq
  cases hu.raw_eq
  have ht := und_of_slE he
  obtain ⟨h0, cur, ety, hh, hcs⟩ := hR.holds _ (mem_right h)
  have hinf : (P.info? e).map (·.size) = some 1 := hs
  have hcsz := hcs.size
  have hlen : (cur.toList.take (min m dl)).length = min m dl := by rw [List.length_take, Array.length_toList]; omega
  have hcur : TR g w cs cur.toList.toArray := by simpa using hcs
  have hone : ∀ v ∈ cur.toList, v.oneCell' = true := fun v hv => by
    obtain ⟨j, hj⟩ := List.mem_iff_getElem?.1 hv
    have hlt := lt_of_get hj
    simp at hlt
    have hc : cs[j]? = some (cs[j]'(by omega)) := List.getElem?_eq_getElem _
    obtain ⟨u, h1, h2⟩ := hcur.get' j _ hc
    rw [hj] at h1; cases h1
    exact oneA_spec h2 (List.all_eq_true.1 hgood _ (List.getElem_mem _))
  have hrun := run_copy_row (P := P) w t t ty e b o dl dc ⟨b, 0, none⟩ m mc cur ety (cur.toList.take (min m dl)) ht hinf hh (by rw [hlen]) (fun j v hj => by
    have hlt := lt_of_get hj
    rw [hlen] at hlt
    rw [List.getElem?_take_of_lt hlt] at hj
    have : j < cur.size := by omega
    simp [Addr.add_lit, World.cell?, hh]
    simpa using hj) (by rw [hlen, hcsz]; exact hfit) (fun v hv => hone v (List.mem_of_mem_take hv))
  have hx : TR g w (cs.take (min m dl)) (cur.toList.take (min m dl)).toArray := TR.of_get (by simp [hcsz]) (fun k x hk => by
    rw [List.getElem?_take] at hk ⊢
    split at hk
    · rename_i hlt; rw [if_pos hlt]; exact hcur.get' k x hk
    · cases hk)
  have hlay := TR.lay (o := o) hcur hx
  obtain ⟨r1, r2⟩ := row_turn hR h (cur' := (cur.toList.take o ++ cur.toList.take (min m dl) ++ cur.toList.drop (o + (cur.toList.take (min m dl)).length)).toArray) hh (by simp; omega) hlay
  refine ⟨_, _, g, I (min m dl : Nat), _, hrun, r1, r2, ?_, hK⟩
  rw [hlen]; exact .raw _

/-- A part of a row. -/
theorem act_slice_lo {t e : TypeId} {b o n c a : Nat} (he : slE P t = some e) (hs : szT P e = some 1) (ha : a < n) (hc : n ≤ c) (hK : K (rowV b (o + a) (n - a) (c - a)) σ) : AAct κ P (.slice t true false false) [rowV b o n c, I a, .any, .any] σ K := by
  intro φ g w vs hR hv
  have h1 := hv.size
  match vs, h1 with
  | [v, u, x, y], _ =>
    have hv0 := hv.get 0 _ rfl
    have hv1 := hv.get 1 _ rfl
    simp at hv0 hv1
    cases hv0.raw_eq
    cases hv1.raw_eq
    have hl : OptR g w (some (I a)) (some (.int .i64 a)) := VR.raw _
    have hh : OptR g w none none := trivial
    have hsb := sliceBounds_run (P := P) (w := w) (g := g) (isS := true) (len := n) (cap := c) hl hh rfl rfl (Int.natCast_nonneg _) (by omega) (by omega)
    simp only [Int.toNat_natCast] at hsb
    refine ⟨.slice (some ⟨b, o + a, none⟩) (n - a) (c - a), w, g, _, σ, ?_, hR, GE.refl _ _, .raw _, hK⟩
    have hne : ¬ c = a := by omega
    simp [MA.sem, nth, Instr.sliceAt, run_und (und_of_slE he), Instr.slice, hsb, run_szT hs, Addr.add_lit, hne]

theorem act_slice_hi {t e : TypeId} {b o n c a : Nat} (he : slE P t = some e) (hs : szT P e = some 1) (ha : a ≤ n) (hc : n ≤ c) (h0 : 0 < c) (hK : K (rowV b o a c) σ) : AAct κ P (.slice t false true false) [rowV b o n c, .any, I a, .any] σ K := by
  intro φ g w vs hR hv
  have h1 := hv.size
  match vs, h1 with
  | [v, u, x, y], _ =>
    have hv0 := hv.get 0 _ rfl
    have hv1 := hv.get 2 _ rfl
    simp at hv0 hv1
    cases hv0.raw_eq
    cases hv1.raw_eq
    have hl : OptR g w none none := trivial
    have hh : OptR g w (some (I a)) (some (.int .i64 a)) := VR.raw _
    have hsb := sliceBounds_run (P := P) (w := w) (g := g) (isS := true) (len := n) (cap := c) hl hh rfl rfl (Int.le_refl _) (Int.natCast_nonneg _) (by omega)
    simp only [Int.toNat_natCast, Int.toNat_zero] at hsb
    refine ⟨.slice (some ⟨b, o, none⟩) a c, w, g, _, σ, ?_, hR, GE.refl _ _, .raw _, hK⟩
    have hne : ¬ c = 0 := by omega
    simp [MA.sem, nth, Instr.sliceAt, run_und (und_of_slE he), Instr.slice, hsb, run_szT hs, Addr.add_lit, hne]
end

/-! ### A row that is done -/
section
variable {κ : Ctx} {P : Program} {σ : List Res} {K : Ret → List Res → Prop}
/-- The result is a row that is not written to any more: a slice, which may be appended to. -/
def FreezeK (K : Ret → List Res → Prop) : Ret → List Res → Prop := fun r σ' => K r σ' ∨ ∃ b cs ρ, r = .ret (rowV b 0 cs.length cs.length) ∧ ResW σ' (.obj b cs :: ρ) ∧ (∀ x ∈ cs, x.cells = [x]) ∧ cs.length ≤ maxLen ∧ K (.ret (.sl 1 (some (some (b, cs.length))) cs)) (.tip (some (b, cs.length)) :: ρ)

theorem freeze_post {φ : List Res} {g : Nat → Nat} {w : World} {e : Ending} {w' : World} (h : CPost κ φ g w (FreezeK K) e w') : CPost κ φ g w K e w' := by
  obtain ⟨g', σ', r, h1, h2, h3, h4⟩ := h
  rcases h4 with h4 | ⟨b, cs, ρ, rfl, hw, hc1, hmax, hk⟩
  · exact ⟨g', σ', r, h1, h2, h3, h4⟩
  · have hR := (hw κ φ g' w' h1).perm List.perm_middle
    obtain ⟨h0, arr, ty, hh, hcs⟩ := hR.holds _ (List.mem_cons_self ..)
    have hge : GE g' w' (upd g' b cs.length) w' := by
      refine ⟨Nat.le_refl _, fun c => ?_, fun _ _ _ => rfl, fun _ => Nat.le_refl _⟩
      by_cases ec : c = b
      · subst ec; rw [h0]; exact Nat.zero_le _
      · rw [upd_other ec]; exact Nat.le_refl _
    have hR2 : Rel κ (upd g' b cs.length) (.tip (some (b, cs.length)) :: (φ ++ ρ)) w' :=
      hR.change hge rfl rfl rfl rfl (fun _ _ => rfl) (fun c hc => upd_other hc) rfl rfl ⟨upd_same _ _ _, arr, ty, hh⟩
    have hsz := hcs.size
    refine ⟨_, .tip (some (b, cs.length)) :: ρ, _, hR2.perm List.perm_middle.symm, h2.trans hge, ?_, hk⟩
    cases e with
    | returned v =>
      have := VR.raw_eq h3
      subst this
      refine VR.sl_mk rfl (Nat.le_refl _) hmax (by decide) (fun i x hi => by rw [hc1 x (List.mem_of_getElem? hi)]; rfl) (fun i x k y hi hk => ?_) (by simp [upd_same]) (fun t ht => ?_)
      · rw [hc1 x (List.mem_of_getElem? hi)] at hk
        have hk0 : k = 0 := by have := lt_of_get hk; simp at this; omega
        subst hk0
        simp at hk; subst hk
        have hg := hcs.get i x hi
        have hil : i < arr.size := by rw [hsz]; exact lt_of_get hi
        refine ⟨arr.getD i undef, ?_, hg.mono hge⟩
        simp [World.cell?, hh, hil]
      · cases ht
        refine ⟨by simp, ?_⟩
        simp [blockLen, hh, hsz]
    | panicked c => exact h3.elim
    | outgrown => exact h3.elim

theorem ACallF.freeze {f : FuncId} {args : List AV} (h : ACallF κ P f args σ (FreezeK K)) : ACallF κ P f args σ K :=
  fun φ g w vs hR hv => CallsIn.mono (h φ g w vs hR hv) fun _ _ => freeze_post
end
end Go.Abs
