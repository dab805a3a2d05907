/-
  The abstract layer, part j: append, slices and structs written out.
-/
import Derived.Test.YtaeacialcbahnaaMi
import Derived.Deep.AppendSrc
import Derived.Great.BuildSlice
namespace Go.Abs
open Go.RowKit

/-- Every cell of every element is a value of one cell. -/
def goodL (l : List AV) : Bool := l.all fun x => x.cells.all oneA

/-- The cells of a slice's elements, one behind the other. -/
structure FR (g : Nat → Nat) (w : World) (sz : Nat) (l : List AV) (us : List Value) : Prop where
  len : us.length = l.length * sz
  el : ∀ (i : Nat) (x : AV), l[i]? = some x → x.cells.length = sz
  cell : ∀ (i : Nat) (x : AV) (k : Nat) (y : AV), l[i]? = some x → x.cells[k]? = some y → ∃ u, us[i * sz + k]? = some u ∧ VR g w y u

section
variable {g g' : Nat → Nat} {w w' : World} {sz : Nat}

theorem FR.mono (H : GE g w g' w') {l : List AV} {us : List Value} (h : FR g w sz l us) : FR g' w' sz l us :=
  ⟨h.len, h.el, fun i x k y hi hk => by obtain ⟨u, h1, h2⟩ := h.cell i x k y hi hk; exact ⟨u, h1, h2.mono H⟩⟩

theorem FR.nil : FR g w sz [] [] := ⟨by simp, fun i x h => by simp at h, fun i x k y h => by simp at h⟩

theorem FR.append {l1 l2 : List AV} {u1 u2 : List Value} (h1 : FR g w sz l1 u1) (h2 : FR g w sz l2 u2) : FR g w sz (l1 ++ l2) (u1 ++ u2) := by
  refine ⟨by simp [h1.len, h2.len, Nat.add_mul], fun i x hi => ?_, fun i x k y hi hk => ?_⟩
  · by_cases hlt : i < l1.length
    · rw [List.getElem?_append_left hlt] at hi; exact h1.el i x hi
    · rw [List.getElem?_append_right (by omega)] at hi; exact h2.el _ x hi
  · by_cases hlt : i < l1.length
    · rw [List.getElem?_append_left hlt] at hi
      obtain ⟨u, a1, a2⟩ := h1.cell i x k y hi hk
      exact ⟨u, by rw [List.getElem?_append_left (lt_of_get a1)]; exact a1, a2⟩
    · rw [List.getElem?_append_right (by omega)] at hi
      obtain ⟨u, a1, a2⟩ := h2.cell _ x k y hi hk
      refine ⟨u, ?_, a2⟩
      have hle : l1.length * sz ≤ i * sz := Nat.mul_le_mul_right sz (by omega)
      have hsub : (i - l1.length) * sz = i * sz - l1.length * sz := Nat.sub_mul _ _ _
      rw [List.getElem?_append_right (by rw [h1.len]; omega), h1.len, ← a1]
      congr 1
      omega

theorem FR.one {l : List AV} {us : List Value} (h : FR g w sz l us) (hg : goodL l = true) : ∀ u ∈ us, u.oneCell' = true := by
  intro u hu
  obtain ⟨j, hj, rfl⟩ := List.getElem_of_mem hu
  rw [h.len] at hj
  have hsz : 0 < sz := by rcases Nat.eq_zero_or_pos sz with e | e; · subst e; omega
                          · exact e
  have hi : j / sz < l.length := by
    rw [Nat.div_lt_iff_lt_mul hsz]; exact hj
  have hk : j % sz < sz := Nat.mod_lt _ hsz
  have e : j / sz * sz + j % sz = j := by rw [Nat.mul_comm]; exact Nat.div_add_mod j sz
  have hx : l[j / sz]? = some (l[j / sz]'hi) := List.getElem?_eq_getElem hi
  have hl := h.el _ _ hx
  have hy : (l[j / sz]'hi).cells[j % sz]? = some ((l[j / sz]'hi).cells[j % sz]'(by omega)) := List.getElem?_eq_getElem (by omega)
  obtain ⟨u, a1, a2⟩ := h.cell _ _ _ _ hx hy
  rw [e, List.getElem?_eq_getElem (by rw [h.len]; exact hj)] at a1
  have hu' := Option.some.inj a1
  rw [hu']
  refine oneA_spec a2 ?_
  have h1 := List.all_eq_true.1 hg _ (List.getElem_mem hi)
  exact List.all_eq_true.1 h1 _ (List.getElem_mem _)

/-- What a slice that is not nil holds. -/
theorem VR.flat {own : Option (Option (Nat × Nat))} {l : List AV} {b off cap : Nat} (h : VR g w (.sl sz own l) (.slice (some ⟨b, off, none⟩) l.length cap)) :
    ∃ us, FR g w sz l us ∧ ∀ j u, us[j]? = some u → w.cell? ⟨b, off + j, none⟩ = some u := by
  rcases h.sl_inv with ⟨rfl, _⟩ | ⟨b', off', cap', e, h1, h2, h3, h4, h5, h6, h7⟩
  · exact ⟨[], FR.nil, fun j u hj => by simp at hj⟩
  cases e
  refine ⟨(List.range (l.length * sz)).map fun j => (w.cell? ⟨b, off + j, none⟩).getD undef, ⟨by simp, h4, fun i x k y hi hk => ?_⟩, fun j u hj => ?_⟩
  · obtain ⟨u, a1, a2⟩ := h5 i x k y hi hk
    have hlt : i * sz + k < l.length * sz := idx_lt (lt_of_get hi) (by have := lt_of_get hk; rw [h4 i x hi] at this; exact this)
    refine ⟨u, ?_, a2⟩
    rw [List.getElem?_map, List.getElem?_range hlt]
    simp only [Option.map_some, ← Nat.add_assoc, a1, Option.getD_some]
  · have hlt := lt_of_get hj
    simp only [List.length_map, List.length_range] at hlt
    rw [List.getElem?_map, List.getElem?_range hlt] at hj
    simp only [Option.map_some, Option.some.injEq] at hj
    have hi : j / sz < l.length := by rw [Nat.div_lt_iff_lt_mul h3]; exact hlt
    have hk : j % sz < sz := Nat.mod_lt _ h3
    have e : j / sz * sz + j % sz = j := by rw [Nat.mul_comm]; exact Nat.div_add_mod j sz
    have hx : l[j / sz]? = some (l[j / sz]'hi) := List.getElem?_eq_getElem hi
    have hl := h4 _ _ hx
    have hy : (l[j / sz]'hi).cells[j % sz]? = some ((l[j / sz]'hi).cells[j % sz]'(by omega)) := List.getElem?_eq_getElem (by omega)
    obtain ⟨u', a1, _⟩ := h5 _ _ _ _ hx hy
    rw [Nat.add_assoc, e] at a1
    rw [a1] at hj ⊢
    simpa using hj

/-- A slice out of its cells. -/
theorem FR.slice {own : Option (Option (Nat × Nat))} {l : List AV} {us : List Value} {b off n cap : Nat} (h : FR g w sz l us) (hsz : 0 < sz) (hn : n = l.length) (h1 : l.length ≤ cap) (h2 : cap ≤ maxLen)
    (hc : ∀ j u, us[j]? = some u → w.cell? ⟨b, off + j, none⟩ = some u) (hg : off + l.length * sz ≤ g b) (ho : ∀ t, own = some t → t = some (b, off + l.length * sz) ∧ off + cap * sz ≤ blockLen w b) :
    VR g w (.sl sz own l) (.slice (some ⟨b, off, none⟩) n cap) :=
  VR.sl_mk hn h1 h2 hsz h.el (fun i x k y hi hk => by
    obtain ⟨u, a1, a2⟩ := h.cell i x k y hi hk
    exact ⟨u, by rw [Nat.add_assoc]; exact hc _ u a1, a2⟩) hg ho

end

section
variable {κ : Ctx} {P : Program} {σ : List Res} {K : AV → List Res → Prop}

/-- The source of an append: nil, or a slice. -/
theorem src_of {g : Nat → Nat} {w : World} {sz : Nat} {o : Option (Option (Nat × Nat))} {l : List AV} {v : Value} {t e : TypeId} (ht : P.underlying t = some (.slice e)) (hv : VR g w (.sl sz o l) v) (hgood : goodL l = true) :
    ∃ us, FR g w sz l us ∧ Src P sz t v l.length us w := by
  rcases hv.sl_inv with ⟨rfl, ⟨ad, cp, rfl, hcp, _⟩, _⟩ | ⟨b, off, cap, rfl, _⟩
  · cases ad with
    | none => rw [hcp rfl]; exact ⟨[], FR.nil, Src.ofNil w ht 0⟩
    | some ad => exact ⟨[], FR.nil, Src.ofSlice w ht _ _ _ [] (by simp) (fun j u hj => by simp at hj) (fun u hu => by cases hu)⟩
  · obtain ⟨us, h1, h2⟩ := hv.flat
    exact ⟨us, h1, Src.ofSlice w ht _ _ _ us h1.len (fun j u hj => by rw [Addr.add_lit]; exact h2 j u hj) (h1.one hgood)⟩

/-- A new row, laid behind a draw. -/
theorem row_new {φ : List Res} {g : Nat → Nat} {w : World} (hR : Rel κ g (φ ++ σ) w) {sz : Nat} {l : List AV} {us : List Value} (hf : FR g w sz l us) (hsz : 0 < sz) (rest : Array Value) (e : TypeId) {cap : Nat} (h1 : l.length ≤ cap) (h2 : cap ≤ maxLen) (h3 : rest.size = (cap - l.length) * sz) :
    Rel κ (upd g w.heap.size (l.length * sz)) (φ ++ (.tip (some (w.heap.size, l.length * sz)) :: σ)) (w.alloc (.cells (us.toArray ++ rest) e)) ∧ GE g w (upd g w.heap.size (l.length * sz)) (w.alloc (.cells (us.toArray ++ rest) e)) ∧
    VR (upd g w.heap.size (l.length * sz)) (w.alloc (.cells (us.toArray ++ rest) e)) (.sl sz (some (some (w.heap.size, l.length * sz))) l) (.slice (some ⟨w.heap.size, 0, none⟩) l.length cap) := by
  obtain ⟨a1, a2⟩ := hR.new_row (us.toArray ++ rest) e (l.length * sz)
  refine ⟨a1.perm List.perm_middle.symm, a2, (hf.mono a2).slice hsz rfl h1 h2 (fun j u hj => ?_) (by simp [upd_same]) (fun t ht => ?_)⟩
  · rw [Nat.zero_add, cell_new]
    have := lt_of_get hj
    rw [Array.getElem?_append_left (by simpa using this)]
    simpa using hj
  · cases ht
    refine ⟨by simp, ?_⟩
    rw [blockLen_new]
    have : cap * sz = l.length * sz + (cap - l.length) * sz := by rw [← Nat.add_mul]; congr 1; omega
    simp only [Array.size_append, List.size_toArray, hf.len, h3]
    omega

theorem setCells_at (b : Nat) (ty : TypeId) : ∀ (vs : List Value) (o : Nat) (w : World) (arr : Array Value), w.heap[b]? = some (.cells arr ty (0, 0)) → ∃ arr', (w.setCells b o vs).heap[b]? = some (.cells arr' ty (0, 0)) ∧ arr'.size = arr.size ∧
    (w.setCells b o vs).heap.size = w.heap.size ∧ (w.setCells b o vs).os = w.os ∧ (w.setCells b o vs).tape = w.tape ∧ (w.setCells b o vs).output = w.output ∧ ∀ c, c ≠ b → (w.setCells b o vs).heap[c]? = w.heap[c]?
  | [], o, w, arr, h => ⟨arr, h, rfl, rfl, rfl, rfl, rfl, fun _ _ => rfl⟩
  | v :: vs, o, w, arr, h => by
    obtain ⟨arr', h1, h2, h3, h4, h5, h6, h7⟩ := setCells_at b ty vs (o + 1) (w.setCell ⟨b, o, none⟩ v) _ (setCell_heap w b o v arr ty h)
    exact ⟨arr', h1, by rw [h2]; simp, by simpa [World.setCells, World.setCell] using h3, h4, h5, h6, fun c hc => (h7 c hc).trans (setCell_other w b o c v hc)⟩

/-- append: the destination is owned. -/
theorem act_append {t e : TypeId} {sz : Nat} {tk : Option (Nat × Nat)} {l1 l2 : List AV} {o2 : Option (Option (Nat × Nat))} {z : Value} {by_ : Nat} (i : Nat) (h : σ[i]? = some (.tip tk)) (he : slE P t = some e) (hs : szT P e = some sz) (hb : byT P e = some by_) (hz : zrT P e = some z) (hzs : z.cells.size = sz)
    (hgood : goodL l2 = true) (hlen : (l1.length + l2.length) * by_ ≤ 140737488355328) (hmax : l1.length + l2.length ≤ maxLen) (hK : ∀ tk', K (.sl sz (some tk') (l1 ++ l2)) (σ.set i (.tip tk'))) : AAct κ P (.append t) [.sl sz (some tk) l1, .sl sz o2 l2] σ K := by
  intro φ g w vs hR hvs
  obtain ⟨v, u, rfl, hv, hu⟩ := two_vs hvs
  have ht := und_of_slE he
  obtain ⟨inf, hi, hisz, hiby, hizr⟩ : ∃ inf, P.info? e = some inf ∧ inf.size = sz ∧ inf.bytes = by_ ∧ inf.zero = some z := by
    unfold szT byT zrT at *
    cases hi : P.info? e with
    | none => simp [hi] at hs
    | some inf => exact ⟨inf, rfl, by simpa [hi] using hs, by simpa [hi] using hb, by simpa [hi] using hz⟩
  obtain ⟨us2, hf2, hsrc⟩ := src_of ht hu hgood
  have hset : ∀ tk', (φ ++ σ.set i (.tip tk')).Perm (.tip tk' :: (φ ++ σ.eraseIdx i)) := fun tk' => ((perm_set h).symm.append_left φ).trans List.perm_middle
  have hR0 := hR.perm (perm_front (φ := φ) (perm_get h))
  have hRd : Rel κ g (φ ++ σ.eraseIdx i) w := hR0.sub (List.sublist_cons_self _ _)
  have hm63 : ((l1.length + l2.length : Nat) : Int) ≤ 9223372036854775807 := by unfold maxLen at hmax; omega
  -- a new row for both
  have grow : ∀ (base : Option Addr) (cap : Nat) (us1 : List Value), v = .slice base l1.length cap → FR g w sz l1 us1 → (Builtin.firstCells inf.size l1.length (.slice base l1.length cap)).run P w.drew = .ok us1.toArray w.drew → cap < l1.length + l2.length →
      ∃ v_1 w' g' x σ', Sem.run P ((MA.append t).sem [v, u]) w = Result.ok v_1 w' ∧ Rel κ g' (φ ++ σ') w' ∧ GE g w g' w' ∧ VR g' w' x v_1 ∧ K x σ' := by
    intro base cap us1 hv1 hf1 hold hlt
    subst hv1
    have hsz : 0 < sz := by
      rcases hv.sl_inv with ⟨_, _, _, h3⟩ | ⟨_, _, _, _, _, _, h3, _⟩ <;> exact h3
    have hrun := run_append_grow_src (P := P) w t t t e inf z ht hi hizr base l1.length cap us1 hold u l2.length us2 (hisz ▸ hsrc) hlt hm63 (by rw [hiby]; exact growslice_fits hlt hlen)
    have hcapge := grownCap_ge w (l1.length + l2.length) cap e
    have hcapmax := grownCap_le_maxLen w (l1.length + l2.length) cap e hmax
    have hRdr : Rel κ g (φ ++ σ.eraseIdx i) w.drew := hRd.of_heap rfl rfl rfl rfl
    have hfa : FR g w.drew sz (l1 ++ l2) (us1 ++ us2) := FR.mono (GE.of_heap (g := g) (w := w) (w' := w.drew) rfl) (hf1.append hf2)
    have hll : (l1 ++ l2).length = l1.length + l2.length := by simp
    obtain ⟨b1, b2, b3⟩ := row_new hRdr hfa hsz (Builtin.zeroCells z.cells (grownCap w (l1.length + l2.length) cap e - (l1.length + l2.length))) e (cap := grownCap w (l1.length + l2.length) cap e) (by rw [hll]; exact hcapge) hcapmax (by rw [size_zeroCells, hzs, hll])
    rw [hll] at b1 b2 b3
    refine ⟨_, _, _, _, _, hrun, (b1.perm (List.perm_middle.trans (hset _).symm)), (GE.of_heap (g := g) (w := w) (w' := w.drew) rfl).trans b2, b3, hK _⟩
  rcases hv.sl_inv with ⟨rfl, _, hnil, hsz⟩ | ⟨b, off, cap, rfl, hcap, hmaxc, hsz, _, _, hgle, hown⟩
  · -- the destination is nil
    obtain rfl := hnil rfl
    by_cases hl2 : l2 = []
    · subst hl2
      have hus : us2 = [] := by have := hf2.len; simpa using this
      subst hus
      refine ⟨.slice none 0 0, w, g, .sl sz (some none) ([] ++ []), σ.set i (.tip none), ?_, ?_, GE.refl _ _, .slnil hsz, hK none⟩
      · have hc0 : (Builtin.firstCells sz 0 u).run P w = .ok #[] w := hsrc.cells
        have hl0 : ∀ w' : World, (Builtin.lenOf u).run P w' = .ok 0 w' := hsrc.len
        simp [MA.sem, nth, Builtin.append_, run_und ht, sizeOf, run_info hi, hl0, hc0, hisz]
      · exact (hRd.void).perm (hset none).symm
    · refine grow none 0 [] rfl FR.nil ?_ ?_
      · simpa using run_firstCells_none w.drew inf.size 0 0 0
      · have : 0 < l2.length := List.length_pos_iff.2 hl2
        simpa using this
  · obtain ⟨us1, hf1, hc1⟩ := hv.flat
    by_cases hroom : l1.length + l2.length ≤ cap
    · -- in place
      obtain ⟨htk, hblk⟩ := hown tk rfl
      subst htk
      obtain ⟨hgb, arr, ty, hh⟩ := hR.holds _ (mem_right h)
      simp only at hgb hh
      have hlenb : blockLen w b = arr.size := by simp [blockLen, hh]
      have hmul : (l1.length + l2.length) * sz ≤ cap * sz := Nat.mul_le_mul_right sz hroom
      have hadd : (l1.length + l2.length) * sz = l1.length * sz + l2.length * sz := Nat.add_mul _ _ _
      have hrun := run_append_room_src (P := P) w t t t e inf ht hi b off l1.length cap u l2.length us2 (hisz ▸ hsrc) hroom (fun j hj => by
          have hj' := hf2.len
          have : off + l1.length * inf.size + j < arr.size := by rw [hisz]; omega
          simp [World.cell?, hh, this]) (fun j hj => by simp [World.frozen?, hh])
      rw [hisz] at hrun
      obtain ⟨arr', k1, k2, k3, k4, k5, k6, k7⟩ := setCells_at b ty us2 (off + l1.length * sz) w arr hh
      generalize hw' : w.setCells b (off + l1.length * sz) us2 = w' at *
      have hin := fun j (hj : j < us2.length) => World.cell?_setCells_in b us2 (off + l1.length * sz) w (fun j hj => by
          have hj' := hf2.len
          have : off + l1.length * sz + j < arr.size := by omega
          simp [World.cell?, hh, this]) j hj
      have hout : ∀ o, o < off + l1.length * sz → w'.cell? ⟨b, o, none⟩ = w.cell? ⟨b, o, none⟩ := fun o ho => by
        rw [← hw']; exact World.cell?_setCells_out b us2 _ w ⟨b, o, none⟩ (fun _ _ => .inl ho)
      have hge : GE g w (upd g b (off + (l1.length + l2.length) * sz)) w' := by
        refine ⟨by rw [k3]; exact Nat.le_refl _, fun c => ?_, fun c o ho => ?_, fun c => ?_⟩
        · by_cases ec : c = b
          · subst ec; rw [upd_same, hgb]; omega
          · rw [upd_other ec]; exact Nat.le_refl _
        · by_cases ec : c = b
          · subst ec; exact hout o (by omega)
          · simp only [World.cell?]; rw [k7 c ec]
        · by_cases ec : c = b
          · subst ec; simp only [blockLen, k1, hh]; omega
          · simp only [blockLen]; rw [k7 c ec]; exact Nat.le_refl _
      have hR2 : Rel κ (upd g b (off + (l1.length + l2.length) * sz)) (.tip (some (b, off + (l1.length + l2.length) * sz)) :: (φ ++ σ.eraseIdx i)) w' :=
        hR0.change hge k4 k5 k6 k3 k7 (fun c hc => upd_other hc) rfl rfl ⟨upd_same _ _ _, arr', ty, k1⟩
      refine ⟨_, w', _, _, _, hrun, hR2.perm (hset _).symm, hge, ?_, hK _⟩
      have hll : (l1 ++ l2).length = l1.length + l2.length := by simp
      refine ((hf1.append hf2).mono hge).slice hsz hll.symm (by rw [hll]; exact hroom) hmaxc (fun j x hj => ?_) (by rw [hll, upd_same]; exact Nat.le_refl _) (fun t' ht' => ?_)
      · by_cases hlt : j < us1.length
        · rw [List.getElem?_append_left hlt] at hj
          rw [hout _ (by have := hf1.len; omega)]
          exact hc1 j x hj
        · rw [List.getElem?_append_right (by omega)] at hj
          have hlt2 := lt_of_get hj
          have h5 := hin (j - us1.length) hlt2
          rw [hw'] at h5
          have h6 := hf1.len
          have h7 : off + j = off + l1.length * sz + (j - us1.length) := by omega
          rw [h7, h5, ← hj, List.getElem?_eq_getElem hlt2]
      · cases ht'
        refine ⟨by rw [hll], ?_⟩
        simp only [blockLen, k1, k2]
        omega
    · exact grow (some ⟨b, off, none⟩) cap us1 rfl hf1 (run_firstCells_some w.drew inf.size _ _ _ _ us1 (by rw [hisz]; exact hf1.len) (fun j u hj => by rw [Addr.add_lit]; simpa using hc1 j u hj)) (by omega)

end
end Go.Abs
