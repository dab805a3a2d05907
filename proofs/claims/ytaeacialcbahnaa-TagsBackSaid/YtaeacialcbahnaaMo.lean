/-
  The abstract layer, part o: structs written out; resources that are let go, or left aside; functions that yield.
-/
import Derived.Test.YtaeacialcbahnaaMn
import Derived.Laws.Tables
namespace Go.Abs
open Go.RowKit

section
variable {κ : Ctx} {P : Program} {σ : List Res} {K : AV → List Res → Prop}

theorem setCells_fold {g : Nat → Nat} {w : World} {off : Nat} : ∀ (xs : List AV) (vs : List Value) (m : Nat) (cs : List AV) (arr : Array Value), TR g w xs vs.toArray → TR g w cs arr →
    TR g w (setCells cs (off + m) xs) ((vs.zipIdx m).foldl (fun cs (x : Value × Nat) => cs.setIfInBounds (off + x.2) x.1) arr)
  | [], vs, m, cs, arr, hv, hc => by
    have := nil_vs hv
    subst this
    simpa [setCells] using hc
  | x :: xs, vs, m, cs, arr, hv, hc => by
    match vs, hv.size with
    | v :: vs, hsz =>
      have hx : VR g w x v := by simpa using hv.get 0 x rfl
      have hxs : TR g w xs vs.toArray := ⟨by simpa using hsz, fun m y hm => by
        have := hv.get (m + 1) y (by simpa using hm)
        simpa [Array.getD_eq_getD_getElem?] using this⟩
      have h1 : TR g w (cs.set (off + m) x) (arr.setIfInBounds (off + m) v) := TR.put hc (some (off + m)) hx []
      have := setCells_fold (off := off) xs vs (m + 1) _ _ hxs h1
      simpa [setCells, List.zipIdx_cons, Nat.add_assoc] using this

theorem fill_A {g : Nat → Nat} {w : World} (places : List (Nat × Nat)) : ∀ (ix : List Nat) (xs : List AV) (vs : List Value) (cs : List AV) (cells : Array Value) (cs' : List AV), TR g w xs vs.toArray → TR g w cs cells →
    buildA places cs (ix.zip xs) = some cs' → ∃ cells', Instr.fill (places.toArray[·]?) cells (ix.zip vs) = some cells' ∧ TR g w cs' cells'
  | [], xs, vs, cs, cells, cs', _, hc, h => by
    simp only [List.zip_nil_left, buildA, Option.some.injEq] at h
    subst h
    exact ⟨cells, by simp [Instr.fill], hc⟩
  | i :: ix, [], vs, cs, cells, cs', hv, hc, h => by
    have := nil_vs hv
    subst this
    simp only [List.zip_nil_right, buildA, Option.some.injEq] at h
    subst h
    exact ⟨cells, by simp [Instr.fill], hc⟩
  | i :: ix, x :: xs, vs, cs, cells, cs', hv, hc, h => by
    match vs, hv.size with
    | v :: vs, hsz =>
      have hx : VR g w x v := by simpa using hv.get 0 x rfl
      have hxs : TR g w xs vs.toArray := ⟨by simpa using hsz, fun m y hm => by
        have := hv.get (m + 1) y (by simpa using hm)
        simpa [Array.getD_eq_getD_getElem?] using this⟩
      simp only [List.zip_cons_cons, buildA] at h
      cases hp : places[i]? with
      | none => simp [hp] at h
      | some p =>
        obtain ⟨off, n⟩ := p
        simp only [hp] at h
        split at h
        case isFalse => cases h
        case isTrue hh =>
          obtain ⟨h1, h2, h3⟩ := hh
          have hcell := TR.cells hx h3
          have hvs : v.cells.size = n := by rw [hcell.size, h1]
          have hcs : cells.size = cs.length := hc.size
          have hf := setCells_fold (off := off) x.cells v.cells.toList 0 cs cells (by simpa using hcell) hc
          obtain ⟨cells', e1, e2⟩ := fill_A places ix xs vs _ _ cs' hxs hf h
          refine ⟨cells', ?_, e2⟩
          simp only [List.zip_cons_cons, Instr.fill, List.getElem?_toArray, hp]
          rw [if_neg (by simp; omega)]
          rw [← Array.foldl_toList, Array.toList_zipIdx]
          simpa using e1

theorem act_build {t : TypeId} {ix : List Nat} {xs cs : List AV} {z : Value} {pl : List (Nat × Nat)} (hp : plT P t = some pl) (hz : zrT P t = some z) (hz1 : (ofV z).cells.all oneA = true) (hb : buildA pl (ofV z).cells (ix.zip xs) = some cs) (hK : K (.agg cs) σ) : AAct κ P (.build t ix) xs σ K := by
  intro φ g w vs hR hv
  obtain ⟨inf, hi, hiz⟩ : ∃ inf, P.info? t = some inf ∧ inf.zero = some z := by
    unfold zrT at hz
    cases hi : P.info? t with
    | none => simp [hi] at hz
    | some inf => exact ⟨inf, rfl, by simpa [hi] using hz⟩
  obtain ⟨fs, hu, hm⟩ : ∃ fs, P.underlying t = some (.struct fs) ∧ fs.toList.mapM (fun f => (P.info? f.type).map fun i => (f.offset, i.size)) = some pl := by
    unfold plT at hp
    split at hp
    · exact ⟨_, ‹_›, hp⟩
    · cases hp
  have hz0 : TR g w (ofV z).cells z.cells := TR.cells (ofV_sound z) hz1
  obtain ⟨cells', e1, e2⟩ := fill_A pl ix xs vs _ _ cs (by simpa using hv) hz0 hb
  have hrun := run_build (P := P) w t (ix.zip vs).toArray cells' (by simp only [Program.built, hi, hu, hiz, hm]; exact e1)
  exact ⟨_, _, _, _, _, hrun, hR, GE.refl _ _, .agg _ e2.size e2.get, hK⟩
end

/-! ### Resources let go -/
section
variable {κ : Ctx} {P : Program} {σ : List Res} {K : Ret → List Res → Prop}

/-- These are among those. -/
def Sub (ρ σ : List Res) : Prop := ∃ τ : List Res, τ.Perm ρ ∧ τ.Sublist σ
/-- What is left over may be let go. -/
def DropK (K : Ret → List Res → Prop) : Ret → List Res → Prop := fun r σ' => ∃ ρ : List Res, Sub ρ σ' ∧ K r ρ

theorem drop_post {φ : List Res} {g : Nat → Nat} {w : World} {e : Ending} {w' : World} (h : CPost κ φ g w (DropK K) e w') : CPost κ φ g w K e w' := by
  obtain ⟨g', σ', r, h1, h2, h3, ρ, ⟨τ, p, q⟩, h4⟩ := h
  exact ⟨g', ρ, r, (h1.sub ((List.Sublist.refl φ).append q)).perm (p.append_left φ), h2, h3, h4⟩

theorem ACallF.drop {f : FuncId} {args : List AV} (h : ACallF κ P f args σ (DropK K)) : ACallF κ P f args σ K :=
  fun φ g w vs hR hv => CallsIn.mono (h φ g w vs hR hv) fun _ _ => drop_post

theorem ACallY.mono {l : Nat} {args : List AV} {K' : Ret → List Res → Prop} (h : ACallY κ P l args σ K) (hk : ∀ r σ', K r σ' → K' r σ') : ACallY κ P l args σ K' := fun φ g w vs hR hv => by
  obtain ⟨f, tmps, assign, body, h1, h2⟩ := h φ g w vs hR hv
  exact ⟨f, tmps, assign, body, h1, RoundIn.mono h2 fun _ _ ⟨g', σ', r, h1, h2, h3, h4⟩ => ⟨g', σ', r, h1, h2, h3, hk r σ' h4⟩⟩
theorem ACallY.drop {l : Nat} {args : List AV} (h : ACallY κ P l args σ (DropK K)) : ACallY κ P l args σ K := fun φ g w vs hR hv => by
  obtain ⟨f, tmps, assign, body, h1, h2⟩ := h φ g w vs hR hv
  exact ⟨f, tmps, assign, body, h1, RoundIn.mono h2 fun _ _ => drop_post⟩
theorem ACallY.perm {l : Nat} {args : List AV} {σ2 : List Res} (p : σ.Perm σ2) (h : ACallY κ P l args σ2 K) : ACallY κ P l args σ K :=
  fun φ g w vs hR hv => h φ g w vs (hR.perm ((List.Perm.refl φ).append p)) hv

/-- What is left over may be let go, or told weaker. -/
def DropW (K : Ret → List Res → Prop) : Ret → List Res → Prop := fun r σ' => ∃ ρ : List Res, ResW σ' ρ ∧ K r ρ
theorem dropW_post {φ : List Res} {g : Nat → Nat} {w : World} {e : Ending} {w' : World} (h : CPost κ φ g w (DropW K) e w') : CPost κ φ g w K e w' := by
  obtain ⟨g', σ', r, h1, h2, h3, ρ, q, h4⟩ := h
  exact ⟨g', ρ, r, q κ φ g' w' h1, h2, h3, h4⟩
theorem ACallF.dropW {f : FuncId} {args : List AV} (h : ACallF κ P f args σ (DropW K)) : ACallF κ P f args σ K :=
  fun φ g w vs hR hv => CallsIn.mono (h φ g w vs hR hv) fun _ _ => dropW_post
theorem ACallY.dropW {l : Nat} {args : List AV} (h : ACallY κ P l args σ (DropW K)) : ACallY κ P l args σ K := fun φ g w vs hR hv => by
  obtain ⟨f, tmps, assign, body, h1, h2⟩ := h φ g w vs hR hv
  exact ⟨f, tmps, assign, body, h1, RoundIn.mono h2 fun _ _ => dropW_post⟩
theorem sub_resW {σ σ' : List Res} (h : Sub σ' σ) : ResW σ σ' := by
  obtain ⟨τ, p, q⟩ := h
  exact (ResW.sub q).trans (ResW.perm p)
theorem ACallF.weak {f : FuncId} {args : List AV} {σ2 : List Res} (p : ResW σ σ2) (h : ACallF κ P f args σ2 K) : ACallF κ P f args σ K :=
  fun φ g w vs hR hv => h φ g w vs (p κ φ g w hR) hv
theorem ACallY.weak {l : Nat} {args : List AV} {σ2 : List Res} (p : ResW σ σ2) (h : ACallY κ P l args σ2 K) : ACallY κ P l args σ K :=
  fun φ g w vs hR hv => h φ g w vs (p κ φ g w hR) hv
/-- An object's cells told weaker. -/
theorem ResW.obj {b : Nat} {cs cs' : List AV} {τ : List Res} (h : leL cs cs') : ResW (.obj b cs :: τ) (.obj b cs' :: τ) := fun κ φ g w hR => by
  have h1 : Rel κ g (.obj b cs :: (φ ++ τ)) w := hR.perm List.perm_middle
  have h2 : Rel κ g (.obj b cs' :: (φ ++ τ)) w := by
    refine ⟨h1.below, h1.hB, ?_, ?_, ?_, h1.new⟩
    · have := h1.nodup; rwa [fm_cons rfl] at this ⊢
    · intro r hr c hc
      rcases List.mem_cons.1 hr with rfl | hr
      · exact h1.bnd _ (List.mem_cons_self ..) c hc
      · exact h1.bnd r (by simp [hr]) c hc
    · intro r hr
      rcases List.mem_cons.1 hr with rfl | hr
      · obtain ⟨h0, arr, t, h3, h4⟩ := h1.holds _ (List.mem_cons_self ..)
        exact ⟨h0, arr, t, h3, TR.le h4 (leL_len h) (leL_get h)⟩
      · exact h1.holds r (by simp [hr])
  exact h2.perm List.perm_middle.symm

/-- What stands ahead stays. -/
def Front (ρ : List Res) (K : Ret → List Res → Prop) : Ret → List Res → Prop := fun r σ' => ∃ τ, σ' = ρ ++ τ ∧ K r τ

theorem front_post {ρ φ : List Res} {g : Nat → Nat} {w : World} {e : Ending} {w' : World} (h : CPost κ (φ ++ ρ) g w K e w') : CPost κ φ g w (Front ρ K) e w' := by
  obtain ⟨g', σ', r, h1, h2, h3, h4⟩ := h
  exact ⟨g', ρ ++ σ', r, by rw [← List.append_assoc]; exact h1, h2, h3, σ', rfl, h4⟩
theorem ACallY.front {l : Nat} {args : List AV} (ρ : List Res) (h : ACallY κ P l args σ K) : ACallY κ P l args (ρ ++ σ) (Front ρ K) := fun φ g w vs hR hv => by
  obtain ⟨f, tmps, assign, body, h1, h2⟩ := h (φ ++ ρ) g w vs (by rw [List.append_assoc]; exact hR) hv
  exact ⟨f, tmps, assign, body, h1, RoundIn.mono h2 fun _ _ => front_post⟩
theorem ACallF.front {f : FuncId} {args : List AV} (ρ : List Res) (h : ACallF κ P f args σ K) : ACallF κ P f args (ρ ++ σ) (Front ρ K) := fun φ g w vs hR hv =>
  CallsIn.mono (h (φ ++ ρ) g w vs (by rw [List.append_assoc]; exact hR) hv) fun _ _ => front_post

/-! ### Functions that yield -/
/-- What a call of yield comes to: on, or away. -/
def YK (C : List Res → Prop) (K : Ret → List Res → Prop) : Ret → List Res → Prop
  | .ret (.raw (.bool true)), σ => C σ
  | .ret (.raw (.bool false)), σ => K (.ret (.tup [])) σ
  | .pan c, σ => K (.pan c) σ
  | _, _ => False

/-- These are yielded, one by one, and K is come to, at their end or ahead of it. -/
def Iter (κ : Ctx) (P : Program) (L : Nat) (K : Ret → List Res → Prop) : List (List AV) → List Res → Prop
  | [], σ => K (.ret (.tup [])) σ
  | x :: xs, σ => ACallY κ P L x σ (YK (fun σ' => Iter κ P L K xs σ') K)

variable {all : List Oper} {Q : Exit → St → Prop} {d : Option Tmp} {rest : List Oper} {t : List AV} {fr : Bool} {df : List Deferred}
theorem ACallY.args {l : Nat} {xs ys : List AV} (hle : leL xs ys) (h : ACallY κ P l ys σ K) : ACallY κ P l xs σ K :=
  fun φ g w vs hR hv => h φ g w vs hR (TR.le hv (leL_len hle) (leL_get hle))
theorem callYD_iter {L : Nat} {x y : List AV} {C : List Res → Prop} (ρ : List Res) (hle : leL x y) (h : ACallY κ P L y σ (YK C K)) (h1 : ∀ σ', C σ' → goK κ false P all Q d rest ⟨t, ρ ++ σ, fr, df⟩ (B true) (ρ ++ σ'))
    (h2 : ∀ σ', K (.ret (.tup [])) σ' → goK κ false P all Q d rest ⟨t, ρ ++ σ, fr, df⟩ (B false) (ρ ++ σ')) (h3 : ∀ c σ', K (.pan c) σ' → goP Q ⟨t, ρ ++ σ, fr, df⟩ c (ρ ++ σ')) : callYD κ false P all Q d rest ⟨t, ρ ++ σ, fr, df⟩ L x := by
  refine callYD_mk (((h.args hle).front ρ).mono ?_)
  rintro r σ' ⟨τ, rfl, h⟩
  unfold YK at h
  split at h
  · exact h1 _ h
  · exact h2 _ h
  · exact h3 _ _ h
  · exact h.elim

/-- The rounds of a loop over what is yielded, by an invariant. -/
theorem Iter_by {L : Nat} (Inv : List (List AV) → List Res → Prop) (hend : ∀ σ, Inv [] σ → K (.ret (.tup [])) σ) (round : ∀ x xs σ, Inv (x :: xs) σ → ACallY κ P L x σ (YK (Inv xs) K)) : ∀ xs σ, Inv xs σ → Iter κ P L K xs σ
  | [], σ, h => hend σ h
  | x :: xs, σ, h => (round x xs σ h).mono fun r σ' hr => by
    unfold YK at hr ⊢
    split at hr
    · exact Iter_by Inv hend round xs _ hr
    · exact hr
    · exact hr
    · exact hr.elim
theorem sub_rfl {σ : List Res} : Sub σ σ := ⟨σ, List.Perm.refl _, List.Sublist.refl _⟩
theorem sub_cons {σ τ : List Res} {r : Res} (h : Sub σ τ) : Sub σ (r :: τ) := h.elim fun ρ hρ => ⟨ρ, hρ.1, hρ.2.cons r⟩
theorem sub_perm {σ τ τ' : List Res} (p : τ.Perm τ') (h : Sub σ τ) : Sub σ τ' := by
  obtain ⟨ρ, h1, h2⟩ := h
  obtain ⟨ρ', h3, h4⟩ := List.exists_perm_sublist h2 p
  exact ⟨ρ', h3.trans h1, h4⟩
end
end Go.Abs
