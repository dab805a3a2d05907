/-
  Own layer, part B: ranges over texts, and maps from texts to texts.
-/
import Derived.Test.YtaeacialcbahnaaMz
import Derived.MapKept
namespace Go.Abs
open Go.RowKit Go.MapKept
set_option linter.unusedVariables false
/-- An object that is no cells turns. -/
theorem Rel.set_blk {κ : Ctx} {g : Nat → Nat} {ρ : List Res} {w : World} {b : Nat} {o : Obj} (o' : Obj) (h : Rel κ g (.blk b o :: ρ) w) (ho : notCells o') :
    Rel κ g (.blk b o' :: ρ) { w with heap := w.heap.setIfInBounds b o' } ∧ GE g w g { w with heap := w.heap.setIfInBounds b o' } := by
  obtain ⟨hg, hb, hn⟩ := h.holds (.blk b o) (by simp)
  have hlt := (h.bnd (.blk b o) (by simp) b rfl).2
  have hsame : ∀ k, k ≠ b → (w.heap.setIfInBounds b o')[k]? = w.heap[k]? := fun k hk => by simp [Ne.symm hk]
  have hnew : (w.heap.setIfInBounds b o')[b]? = some o' := by simp [hlt]
  have H : GE g w g { w with heap := w.heap.setIfInBounds b o' } := by
    refine ⟨by simp, fun _ => Nat.le_refl _, fun k j hk => ?_, fun k => ?_⟩
    · by_cases e : k = b
      · subst e; rw [hg] at hk; omega
      · simp only [World.cell?]; rw [hsame k e]
    · by_cases e : k = b
      · subst e
        simp only [blockLen, hb]
        cases o <;> first | exact Nat.zero_le _ | exact absurd hn id
      · simp only [blockLen]; rw [hsame k e]; exact Nat.le_refl _
  exact ⟨h.change H rfl rfl rfl (by simp) hsame (fun _ _ => rfl) rfl rfl ⟨hg, hnew, ho⟩, H⟩
theorem VR.tup_raw {g : Nat → Nat} {w : World} {l : List Value} : VR g w (.tup (l.map .raw)) (.tuple l.toArray) :=
  .tup _ (by simp) (fun k y hy => by
    rw [List.getElem?_map] at hy
    cases h : l[k]? with
    | none => rw [h] at hy; cases hy
    | some v =>
      rw [h] at hy; cases hy
      have : l.toArray.getD k undef = v := by simp [Array.getD_eq_getD_getElem?, h]
      rw [this]; exact .raw _)
section
variable {κ : Ctx} {P : Program} {σ : List Res} {K : AV → List Res → Prop}
theorem act_range_str {t : TypeId} {s : ByteArray} (ht : isStr P t = true) (hK : ∀ b, K (.raw (.pointer (some ⟨b, 0, none⟩))) (.blk b (.stringIter s 0) :: σ)) : AAct κ P (.range t) [.raw (.string s)] σ K := by
  intro φ g w vs hR hvs
  obtain ⟨v, rfl, hu⟩ := one_vs hvs
  cases hu.raw_eq
  obtain ⟨a1, a2⟩ := hR.new_blk (.stringIter s 0) trivial
  refine ⟨.pointer (some ⟨w.heap.size, 0, none⟩), _, g, _, _, ?_, a1.perm List.perm_middle.symm, a2, .raw _, hK _⟩
  show (Instr.range t (.string s)).run P w = _
  simp [Instr.range, run_underlying (und_of_isStr ht)]
theorem act_next_end {t : TypeId} {s : ByteArray} {b pos : Nat} (i : Nat) (h : σ[i]? = some (.blk b (.stringIter s pos))) (hp : s.size ≤ pos) (hK : K (.tup [B false]) σ) :
    AAct κ P (.next true t) [.raw (.pointer (some ⟨b, 0, none⟩))] σ K := by
  intro φ g w vs hR hvs
  obtain ⟨v, rfl, hu⟩ := one_vs hvs
  cases hu.raw_eq
  have hR2 := hR.perm (perm_front (φ := φ) (perm_get h))
  obtain ⟨hg, hb, hn⟩ := hR2.holds (.blk b (.stringIter s pos)) (by simp)
  refine ⟨.tuple #[.bool false], w, g, _, σ, ?_, hR, GE.refl _ _, VR.tup_raw (l := [.bool false]), hK⟩
  show (Instr.next (.pointer (some ⟨b, 0, none⟩)) true t).run P w = _
  simp [Instr.next, getObj, Sem.run, hb, Nat.not_lt.2 hp]
theorem act_next_str {t : TypeId} {s : ByteArray} {b pos : Nat} (i : Nat) (h : σ[i]? = some (.blk b (.stringIter s pos))) (hp : pos < s.size)
    (hK : K (.tup [B true, I pos, .raw (.int .i32 (Utf8.decode s pos).1)]) (σ.set i (.blk b (.stringIter s (pos + (Utf8.decode s pos).2))))) :
    AAct κ P (.next true t) [.raw (.pointer (some ⟨b, 0, none⟩))] σ K := by
  intro φ g w vs hR hvs
  obtain ⟨v, rfl, hu⟩ := one_vs hvs
  cases hu.raw_eq
  have hR2 := hR.perm (perm_front (φ := φ) (perm_get h))
  obtain ⟨hg, hb, hn⟩ := hR2.holds (.blk b (.stringIter s pos)) (by simp)
  obtain ⟨a1, a2⟩ := hR2.set_blk (.stringIter s (pos + (Utf8.decode s pos).2)) trivial
  refine ⟨.tuple #[.bool true, .int .i64 pos, .int .i32 (Utf8.decode s pos).1], _, g, _, _, ?_, a1.perm (List.perm_middle.symm.trans ((perm_set h).append_left φ)), a2, VR.tup_raw (l := [.bool true, .int .i64 pos, .int .i32 (Utf8.decode s pos).1]), hK⟩
  show (Instr.next (.pointer (some ⟨b, 0, none⟩)) true t).run P w = _
  simp [Instr.next, getObj, setObj, Sem.run, hb, hp, goInt]

/-! ### Maps from texts to texts -/
abbrev MapL := List (ByteArray × ByteArray × Nat)
def mapE (l : MapL) : List MapEntry := l.map fun e => { key := .string e.1, val := .string e.2.1, born := e.2.2 }
theorem mapE_app (l : MapL) (k x : ByteArray) (c : Nat) : mapE (l ++ [(k, x, c)]) = mapE l ++ [{ key := .string k, val := .string x, born := c }] := by simp [mapE]
def mapO (l : MapL) (clock : Nat) : Obj := .map (mapE l).toArray clock
def lookL : MapL → ByteArray → Option ByteArray
  | [], _ => none
  | e :: l, k => if k = e.1 then some e.2.1 else lookL l k
theorem findNow_L (k : ByteArray) : ∀ (l : MapL) (i : Nat), ∃ j, Instr.findNow .string (.string k) (mapE l) i = some ((lookL l k).map fun v => (j, .string v))
  | [], _ => ⟨0, rfl⟩
  | e :: l, i => by
    obtain ⟨r, hr, hiff⟩ := sameNow_of_keys (d := .string) (a := .string k) (b := .string e.1) trivial trivial
    by_cases h : k = e.1
    · obtain rfl : r = true := hiff.2 (by rw [h])
      exact ⟨i, by simp only [mapE, List.map_cons, Instr.findNow, hr, lookL, if_pos h]; rfl⟩
    · obtain ⟨j, hj⟩ := findNow_L k l (i + 1)
      refine ⟨j, ?_⟩
      obtain rfl : r = false := by
        cases r with
        | false => rfl
        | true => exact absurd (Value.string.inj (hiff.1 rfl)) h
      simp only [mapE, List.map_cons, Instr.findNow, hr, lookL, if_neg h]
      exact hj
structure TMap (P : Program) (t kt et : TypeId) : Prop where
  map : P.underlying t = some (.map kt et)
  key : P.underlying kt = some .string
  elem : zrT P et = some (.string ByteArray.empty)
theorem run_zeroT {P : Program} {t : TypeId} {z : Value} {w : World} (hz : zrT P t = some z) : (zeroValue t).run P w = .ok z w := by
  unfold zrT at hz
  cases hi : P.info? t with
  | none => simp [hi] at hz
  | some i =>
    have : i.zero = some z := by simpa [hi] using hz
    simp [zeroValue, run_info hi, this]
theorem act_lookup_nil {t kt et : TypeId} {k : ByteArray} (T : TMap P t kt et) (hK : K (.tup [.raw (.string ByteArray.empty), B false]) σ) : AAct κ P (.lookup t true) [.raw (.map none), .raw (.string k)] σ K := by
  intro φ g w vs hR hvs
  obtain ⟨v, u, rfl, hu, hv⟩ := two_vs hvs
  cases hu.raw_eq
  cases hv.raw_eq
  refine ⟨.tuple #[.string ByteArray.empty, .bool false], w, g, _, σ, ?_, hR, GE.refl _ _, VR.tup_raw (l := [.string ByteArray.empty, .bool false]), hK⟩
  show (Instr.lookup t (.map none) (.string k) true).run P w = _
  have h1 := run_checkKey (P := P) (w := w) (k := .string k) T.key trivial true 9999
  have h2 := run_findKey (P := P) (w := w) (k := .string k) (l := []) (a := none) T.key rfl
  simp [Instr.lookup, run_underlying T.map, h1, h2, run_zeroT T.elem]
theorem act_lookup {t kt et : TypeId} {k : ByteArray} {l : MapL} {clock b : Nat} (i : Nat) (h : σ[i]? = some (.blk b (mapO l clock))) (T : TMap P t kt et)
    (hK : K (.tup [.raw (.string ((lookL l k).getD ByteArray.empty)), B (lookL l k).isSome]) σ) : AAct κ P (.lookup t true) [.raw (.map (some b)), .raw (.string k)] σ K := by
  intro φ g w vs hR hvs
  obtain ⟨v, u, rfl, hu, hv⟩ := two_vs hvs
  cases hu.raw_eq
  cases hv.raw_eq
  have hR2 := hR.perm (perm_front (φ := φ) (perm_get h))
  obtain ⟨hg, hb, hn⟩ := hR2.holds (.blk b (mapO l clock)) (by simp)
  refine ⟨.tuple #[.string ((lookL l k).getD ByteArray.empty), .bool (lookL l k).isSome], w, g, _, σ, ?_, hR, GE.refl _ _, VR.tup_raw (l := [.string ((lookL l k).getD ByteArray.empty), .bool (lookL l k).isSome]), hK⟩
  show (Instr.lookup t (.map (some b)) (.string k) true).run P w = _
  obtain ⟨j, hj⟩ := findNow_L k l 0
  have h1 := fun e => run_checkKey (P := P) (w := w) (k := .string k) T.key trivial e 9999
  have h2 := run_findKey (P := P) (w := w) (k := .string k) T.key hj
  have h3 : (getObj b).run P w = .ok (.map (mapE l).toArray clock) w := Go.MapKept.run_getObj_map hb
  cases hl : lookL l k <;> simp [Instr.lookup, run_underlying T.map, h1, h2, h3, hl, run_zeroT T.elem]
theorem act_mkmap {t : TypeId} (hK : ∀ b, K (.raw (.map (some b))) (.blk b (mapO [] 0) :: σ)) : AAct κ P (.makeMap t) [] σ K := by
  intro φ g w vs hR hvs
  have := nil_vs hvs
  subst this
  obtain ⟨a1, a2⟩ := hR.new_blk (mapO [] 0) trivial
  refine ⟨.map (some w.heap.size), _, g, _, _, ?_, a1.perm List.perm_middle.symm, a2, .raw _, hK _⟩
  show (Instr.makeMap t none).run P w = _
  simp [Instr.makeMap]
  rfl
theorem act_mapset {t kt et : TypeId} {k x : ByteArray} {l : MapL} {clock b : Nat} (i : Nat) (h : σ[i]? = some (.blk b (mapO l clock))) (T : TMap P t kt et) (hn : lookL l k = none)
    (hK : K .any (σ.set i (.blk b (mapO (l ++ [(k, x, clock)]) (clock + 1))))) : AAct κ P (.mapUpdate t) [.raw (.map (some b)), .raw (.string k), .raw (.string x)] σ K := by
  intro φ g w vs hR hvs
  obtain ⟨v, u, y, rfl, hu, hv, hy⟩ : ∃ v u y, vs = [v, u, y] ∧ VR g w (.raw (.map (some b))) v ∧ VR g w (.raw (.string k)) u ∧ VR g w (.raw (.string x)) y := by
    match vs, hvs.size with
    | [v, u, y], _ => exact ⟨v, u, y, rfl, hvs.get 0 _ rfl, hvs.get 1 _ rfl, hvs.get 2 _ rfl⟩
  cases hu.raw_eq
  cases hv.raw_eq
  cases hy.raw_eq
  have hR2 := hR.perm (perm_front (φ := φ) (perm_get h))
  obtain ⟨hg, hb, _⟩ := hR2.holds (.blk b (mapO l clock)) (by simp)
  obtain ⟨a1, a2⟩ := hR2.set_blk (mapO (l ++ [(k, x, clock)]) (clock + 1)) trivial
  refine ⟨undef, _, g, .any, _, ?_, a1.perm (List.perm_middle.symm.trans ((perm_set h).append_left φ)), a2, .any _, hK⟩
  obtain ⟨j, hj⟩ := findNow_L k l 0
  rw [hn, Option.map_none] at hj
  have h1 := fun e => run_checkKey (P := P) (w := w) (k := .string k) T.key trivial e 9999
  have h2 := run_findKey (P := P) (w := w) (k := .string k) T.key hj
  have h3 : (getObj b).run P w = .ok (.map (mapE l).toArray clock) w := Go.MapKept.run_getObj_map hb
  have h4 := fun o => Go.MapKept.run_setObj_map (P := P) o hb
  simp [MA.sem, nth, Instr.mapUpdate, run_underlying T.map, h1, h2, h3, h4, mapO, mapE_app]
theorem equalIn_nil {t kt et : TypeId} {m : Option Nat} {w : World} (n : Nat) (T : TMap P t kt et) : (Op.equalIn (n + 1) t (.map none) (.map m)).run P w = .ok m.isNone w := by
  simp [Op.equalIn, run_underlying T.map]
theorem equalIn_map {t kt et : TypeId} {b : Nat} {w : World} (n : Nat) (T : TMap P t kt et) : (Op.equalIn (n + 1) t (.map (some b)) (.map none)).run P w = .ok false w := by
  simp [Op.equalIn, run_underlying T.map]
theorem act_mapnil {t kt et : TypeId} {m : Option Nat} (T : TMap P t kt et) (hK : K (B m.isNone) σ) : AAct κ P (.bin .eql t) [.raw (.map none), .raw (.map m)] σ K := by
  intro φ g w vs hR hvs
  obtain ⟨v, u, rfl, hu, hv⟩ := two_vs hvs
  cases hu.raw_eq
  cases hv.raw_eq
  refine ⟨.bool m.isNone, w, g, _, σ, ?_, hR, GE.refl _ _, .raw _, hK⟩
  show (binOp .eql t (.map none) (.map m)).run P w = _
  have := equalIn_nil (w := w) (m := m) 9999 T
  simp only [binOp, Op.equal, show Op.maxDepth = 9999 + 1 from rfl, Sem.run_bind, this]
  rfl
theorem act_mapeq {t kt et : TypeId} {b : Nat} (T : TMap P t kt et) (hK : K (B false) σ) : AAct κ P (.bin .eql t) [.raw (.map (some b)), .raw (.map none)] σ K := by
  intro φ g w vs hR hvs
  obtain ⟨v, u, rfl, hu, hv⟩ := two_vs hvs
  cases hu.raw_eq
  cases hv.raw_eq
  refine ⟨.bool false, w, g, _, σ, ?_, hR, GE.refl _ _, .raw _, hK⟩
  show (binOp .eql t (.map (some b)) (.map none)).run P w = _
  have := equalIn_map (w := w) (b := b) 9999 T
  simp only [binOp, Op.equal, show Op.maxDepth = 9999 + 1 from rfl, Sem.run_bind, this]
  rfl
end
/-- What a proved summary of the library says of a call. -/
theorem ACallF_of_calls {κ : Ctx} {P : Program} {f : FuncId} {xs : List Value} {v : Value} {σ : List Res} {K : Ret → List Res → Prop} (h : ∀ w, Calls P f xs.toArray w fun e w' => e = .returned v ∧ w' = w)
    (hK : K (.ret (.raw v)) σ) : ACallF κ P f (xs.map .raw) σ K := by
  intro φ g w vs hR hvs
  have hvs2 : vs = xs.toArray := by
    apply Array.ext'
    apply List.ext_getElem?
    intro k
    have hs := hvs.size
    rw [List.length_map] at hs
    rcases Nat.lt_or_ge k xs.length with hk | hk
    · have := hvs.get k (.raw xs[k]) (by simp [hk])
      have e := this.raw_eq
      simp only [Array.getD_eq_getD_getElem?] at e
      have hk2 : k < vs.size := by omega
      simp [hk] at e ⊢
      simp [hk2] at e ⊢
      exact e
    · rw [List.getElem?_eq_none (by simpa [hs] using hk), List.getElem?_eq_none (by simpa using hk)]
  subst hvs2
  refine callsIn_wide.2 ?_
  intro cs
  obtain ⟨e, w', fr, ⟨rfl, rfl⟩, s, x⟩ := h w cs
  exact ⟨.returned v, w', fr, ⟨g, σ, .ret (.raw v), hR, GE.refl _ _, .raw _, hK⟩, s, x⟩
end Go.Abs
