/-
  The abstract layer, part p: copies by append, empty literals, results that lie in variables.
-/
import Derived.Test.YtaeacialcbahnaaMo
namespace Go.Abs
open Go.RowKit

section
variable {κ : Ctx} {P : Program} {σ : List Res} {K : AV → List Res → Prop}

/-- What nobody appends to any more. -/
theorem act_ro {m : MA} {xs : List AV} {sz : Nat} {l : List AV} (h : AAct κ P m xs σ (fun x σ' => (∃ o, x = .sl sz o l) ∧ ∃ t, σ' = .tip t :: σ)) (hK : K (.sl sz none l) σ) : AAct κ P m xs σ K := by
  intro φ g w vs hR hv
  obtain ⟨v, w', g', x, σ', h1, h2, h3, h4, ⟨o, rfl⟩, t, rfl⟩ := h φ g w vs hR hv
  exact ⟨v, w', g', _, σ, h1, h2.sub ((List.Sublist.refl φ).append (List.sublist_cons_self _ _)), h3, h4.le (.inr (.inr (.inl ⟨_, _, _, rfl, rfl⟩))), hK⟩

/-- A copy: append(nil, l..), which may be appended to. -/
theorem act_copy_own {t e : TypeId} {sz : Nat} {l : List AV} {o : Option (Option (Nat × Nat))} {z : Value} {by_ : Nat} (he : slE P t = some e) (hs : szT P e = some sz) (hb : byT P e = some by_) (hz : zrT P e = some z) (hzs : z.cells.size = sz) (hsz : 0 < sz)
    (hgood : goodL l = true) (hlen : l.length * by_ ≤ 140737488355328) (hmax : l.length ≤ maxLen) (hK : ∀ tk, K (.sl sz (some tk) l) (.tip tk :: σ)) : AAct κ P (.append t) [nilS, .sl sz o l] σ K := by
  refine act_append_nil hsz (act_append 0 rfl he hs hb hz hzs hgood (by simpa using hlen) (by simpa using hmax) (fun tk => ?_))
  exact hK tk

theorem act_copy {t e : TypeId} {sz : Nat} {l : List AV} {o : Option (Option (Nat × Nat))} {z : Value} {by_ : Nat} (he : slE P t = some e) (hs : szT P e = some sz) (hb : byT P e = some by_) (hz : zrT P e = some z) (hzs : z.cells.size = sz) (hsz : 0 < sz)
    (hgood : goodL l = true) (hlen : l.length * by_ ≤ 140737488355328) (hmax : l.length ≤ maxLen) (hK : K (.sl sz none l) σ) : AAct κ P (.append t) [nilS, .sl sz o l] σ K :=
  act_ro (act_copy_own he hs hb hz hzs hsz hgood hlen hmax (fun _ => ⟨⟨_, rfl⟩, _, rfl⟩)) hK

end

section
variable {κ : Ctx} {P : Program} {σ : List Res} {K : AV → List Res → Prop}
/-- An empty slice written out. -/
theorem act_bslice0_own {t e sz : Nat} (he : slE P t = some e) (hs : szT P e = some sz) (hsz : 0 < sz) (hK : ∀ b, K (.sl sz (some (some (b, 0))) []) (.tip (some (b, 0)) :: σ)) : AAct κ P (.bslice t 0 []) [] σ K := by
  intro φ g w vs hR hv
  have := nil_vs hv
  subst this
  have ht := und_of_slE he
  obtain ⟨inf, hi, hisz⟩ : ∃ inf, P.info? e = some inf ∧ inf.size = sz := by
    unfold szT at hs
    cases hi : P.info? e with
    | none => simp [hi] at hs
    | some inf => exact ⟨inf, rfl, by simpa [hi] using hs⟩
  have hrun : (Instr.buildSlice t 0 #[]).run P w = .ok (.slice (some ⟨w.heap.size, 0, none⟩) 0 0) (w.alloc (.cells #[] e)) := by
    simp [Instr.buildSlice, run_und ht, sizeOf, run_info hi, Instr.fill, newRow]
    rw [Array.eq_empty_of_size_eq_zero (xs := Array.map (fun _ => default) (Array.range 0)) (by simp)]
  obtain ⟨b1, b2, b3⟩ := row_new hR (FR.nil (g := g) (w := w) (sz := sz)) hsz #[] e (cap := 0) (Nat.le_refl _) (by unfold maxLen; omega) (by simp)
  have hrun' : ((MA.bslice t 0 []).sem []).run P w = .ok (.slice (some ⟨w.heap.size, 0, none⟩) 0 0) (w.alloc (.cells #[] e)) := hrun
  simp only [List.length_nil, Nat.zero_mul, Array.append_empty] at b1 b2 b3
  exact ⟨_, _, _, _, _, hrun', b1, b2, b3, hK _⟩
theorem act_bslice0 {t e sz : Nat} (he : slE P t = some e) (hs : szT P e = some sz) (hsz : 0 < sz) (hK : K (.sl sz none []) σ) : AAct κ P (.bslice t 0 []) [] σ K :=
  act_ro (act_bslice0_own he hs hsz (fun _ => ⟨⟨_, rfl⟩, _, rfl⟩)) hK
end

/-! ### Results in variables -/
def LoadsTo (P : Program) (κ : Ctx) (σ : List Res) (t : TypeId) (x y : AV) : Prop :=
  ∀ (φ : List Res) (g : Nat → Nat) (w : World) (v : Value), Rel κ g (φ ++ σ) w → VR g w x v → ∃ a u, v = .pointer (some a) ∧ (loadVar t a).run P w = .ok u w ∧ VR g w y u

section
variable {κ : Ctx} {P : Program} {σ : List Res}

theorem LoadsTo_one {t b k : Nat} {cs : List AV} {x : AV} (i : Nat) (h : σ[i]? = some (.obj b cs)) (ha : aggT P t = some false) (hc : cs[k]? = some x) : LoadsTo P κ σ t (.raw (.pointer (some ⟨b, k, none⟩))) x := by
  intro φ g w v hR hv
  cases hv.raw_eq
  obtain ⟨_, arr, ty, hh, hcs⟩ := hR.holds _ (mem_right h)
  have hx := hcs.get k x hc
  have hlt : k < arr.size := by rw [hcs.size]; exact lt_of_get hc
  have hcell : w.cell? ⟨b, k, none⟩ = some (arr.getD k undef) := by
    simp [World.cell?, hh, hlt]
  exact ⟨_, _, rfl, by simp [loadVar, run_isAgg ha, hcell], hx⟩

theorem LoadsTo_agg {t b k : Nat} {cs : List AV} {n : Nat} (i : Nat) (h : σ[i]? = some (.obj b cs)) (ha : aggT P t = some true) (hs : szT P t = some n) (hn : k + n ≤ cs.length) : LoadsTo P κ σ t (.raw (.pointer (some ⟨b, k, none⟩))) (.agg ((cs.drop k).take n)) := by
  intro φ g w v hR hv
  cases hv.raw_eq
  obtain ⟨_, arr, ty, hh, hcs⟩ := hR.holds _ (mem_right h)
  have hsz := hcs.size
  obtain ⟨arr2, h1, h2, h3⟩ := run_loadCells_cp (P := P) (w := w) b k n (fun j hj => ⟨arr.getD (k + j) undef, by
    have : k + j < arr.size := by omega
    simp [World.cell?, hh, this]⟩)
  refine ⟨_, .agg arr2, rfl, by simp [loadVar, run_isAgg ha, run_szT hs, h1], ?_⟩
  refine .agg arr2 (by simp [h2]; omega) (fun j y hy => ?_)
  have hjn : j < n := by have := lt_of_get hy; simp at this; omega
  rw [List.getElem?_take_of_lt hjn, List.getElem?_drop] at hy
  have h4 := h3 j hjn
  have : k + j < arr.size := by omega
  have h5 : w.cell? ⟨b, k + j, none⟩ = some (arr.getD (k + j) undef) := by simp [World.cell?, hh, this]
  rw [h5] at h4
  rw [← Option.some.inj h4]
  exact hcs.get _ y hy

variable {fn : Func} {K : Ret → List Res → Prop} {t : List AV} {fr : Bool} {df : List Deferred}

theorem evT {s : St} {g : Nat → Nat} {w : World} {tmps : Array Value} (ht : TR g w s.t tmps) (k : Tmp) : VR g w (s.t.getD k .any) (tmps.getD k undef) := ev_sound (a := ⟨tmps, []⟩) ht (.tmp k)

theorem res_c {a : Tmp} {ty : TypeId} {x : AV} (hf : fn.results = #[.cell a ty]) (h : LoadsTo P κ σ ty (t.getD a .any) x) (hK : K (.ret x) σ) : resL κ P fn K ⟨t, σ, fr, df⟩ [.cell a ty] := by
  intro φ g w tmps hR ht
  obtain ⟨p, u, h1, h2, h3⟩ := h φ g w _ hR (evT ht a)
  have h1' : tmps[a]?.getD undef = .pointer (some p) := by simpa using h1
  exact ⟨u, x, by simp [results, hf, h1', asAddr, h2], h3, hK⟩

theorem res_ct {a b : Tmp} {ty : TypeId} {x : AV} (hf : fn.results = #[.cell a ty, .tmp b]) (h : LoadsTo P κ σ ty (t.getD a .any) x) (hK : K (.ret (.tup [x, t.getD b .any])) σ) : resL κ P fn K ⟨t, σ, fr, df⟩ [.cell a ty, .tmp b] := by
  intro φ g w tmps hR ht
  obtain ⟨p, u, h1, h2, h3⟩ := h φ g w _ hR (evT ht a)
  have h1' : tmps[a]?.getD undef = .pointer (some p) := by simpa using h1
  have h4 := TR.two h3 (evT ht b)
  exact ⟨.tuple #[u, tmps.getD b undef], _, by simp [results, hf, h1', asAddr, h2], .tup _ h4.size h4.get, hK⟩

theorem res_tc {a b : Tmp} {ty : TypeId} {x : AV} (hf : fn.results = #[.tmp b, .cell a ty]) (h : LoadsTo P κ σ ty (t.getD a .any) x) (hK : K (.ret (.tup [t.getD b .any, x])) σ) : resL κ P fn K ⟨t, σ, fr, df⟩ [.tmp b, .cell a ty] := by
  intro φ g w tmps hR ht
  obtain ⟨p, u, h1, h2, h3⟩ := h φ g w _ hR (evT ht a)
  have h1' : tmps[a]?.getD undef = .pointer (some p) := by simpa using h1
  have h4 := TR.two (evT ht b) h3
  exact ⟨.tuple #[tmps.getD b undef, u], _, by simp [results, hf, h1', asAddr, h2], .tup _ h4.size h4.get, hK⟩

theorem res_cc {a b : Tmp} {ty ty' : TypeId} {x y : AV} (hf : fn.results = #[.cell a ty, .cell b ty']) (h : LoadsTo P κ σ ty (t.getD a .any) x) (h' : LoadsTo P κ σ ty' (t.getD b .any) y) (hK : K (.ret (.tup [x, y])) σ) : resL κ P fn K ⟨t, σ, fr, df⟩ [.cell a ty, .cell b ty'] := by
  intro φ g w tmps hR ht
  obtain ⟨p, u, h1, h2, h3⟩ := h φ g w _ hR (evT ht a)
  obtain ⟨q, v, k1, k2, k3⟩ := h' φ g w _ hR (evT ht b)
  have h1' : tmps[a]?.getD undef = .pointer (some p) := by simpa using h1
  have k1' : tmps[b]?.getD undef = .pointer (some q) := by simpa using k1
  have h4 := TR.two h3 k3
  exact ⟨.tuple #[u, v], _, by simp [results, hf, h1', k1', asAddr, h2, k2], .tup _ h4.size h4.get, hK⟩

end
end Go.Abs
