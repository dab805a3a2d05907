/-
  An evaluator of calls at closed inputs, part k: appending, copying.
-/
import Derived.Test.YtmeijmmfkgpamaaGreatEj
namespace Go.Eva
open Go.RowKit
set_option linter.unusedVariables false
set_option linter.unusedSimpArgs false
section
variable {κ : Ctx} {P : Program} {ρ : Env} {s s' : ES} {w : World} {N : Nat} {tm : T EV} {a : Act} {x : EV} {C : CallFn} {o : Oper}

/-- A new object in a block that is there. -/
theorem S.alias (h : S κ P ρ s w) {x : EO} {r : RE} (hb : κ.B ≤ r.b ∧ r.b < w.heap.size) (hx : OB P (ρ.ext s.n r) x r w) (hsh : ∀ u y eu, T.get s.h u = some y → ρ u = some eu → eu.b = r.b → Share y x eu r) :
    ρ.le (ρ.ext s.n r) ∧ S κ P (ρ.ext s.n r) (newObj s x) w := by
  have hle : ρ.le (ρ.ext s.n r) := Env.ext_le (h.none (Nat.le_refl _))
  have hext : ∀ u eu, (ρ.ext s.n r) u = some eu → (u = s.n ∧ eu = r) ∨ (u ≠ s.n ∧ ρ u = some eu) := by
    intro u eu hu
    unfold Env.ext at hu
    by_cases hn : u = s.n
    · rw [if_pos hn] at hu; cases hu; exact .inl ⟨hn, rfl⟩
    · rw [if_neg hn] at hu; exact .inr ⟨hn, hu⟩
  refine ⟨hle, h.below, h.hB, ?_, ?_, ?_⟩
  · intro u eu hu
    show u < s.n + 1 ∧ _
    rcases hext u eu hu with ⟨rfl, rfl⟩ | ⟨_, hu⟩
    · exact ⟨by omega, hb⟩
    · have := h.dom u eu hu; exact ⟨by omega, this.2⟩
  · intro u y hu
    rcases get_set hu with ⟨rfl, rfl⟩ | ⟨hne, hu⟩
    · exact ⟨_, Env.ext_same _ _ _, hx⟩
    · obtain ⟨eu, h1, h2⟩ := h.obj u y hu
      exact ⟨eu, hle _ _ h1, h2.mono hle⟩
  · intro p q x' y ep eq hpq hp hq hep heq hbb
    have old : ∀ u y eu, u ≠ s.n → T.get (T.set s.h s.n x) u = some y → (ρ.ext s.n r) u = some eu → T.get s.h u = some y ∧ ρ u = some eu := by
      intro u y eu hu h1 h2
      refine ⟨?_, ?_⟩
      · rcases get_set h1 with ⟨e, _⟩ | ⟨_, h1⟩
        · exact absurd e hu
        · exact h1
      · rcases hext u eu h2 with ⟨e, _⟩ | ⟨_, h2⟩
        · exact absurd e hu
        · exact h2
    have new : ∀ y eu, T.get (T.set s.h s.n x) s.n = some y → (ρ.ext s.n r) s.n = some eu → y = x ∧ eu = r := by
      intro y eu h1 h2
      refine ⟨?_, ?_⟩
      · rcases get_set h1 with ⟨_, e⟩ | ⟨e, _⟩
        · exact e.symm
        · exact absurd rfl e
      · rw [Env.ext_same] at h2; exact (Option.some.inj h2).symm
    by_cases e1 : p = s.n
    · subst e1
      obtain ⟨rfl, rfl⟩ := new _ _ hp hep
      obtain ⟨h3, h4⟩ := old q y eq (fun e => hpq e.symm) hq heq
      exact (hsh q y eq h3 h4 hbb.symm).symm
    · obtain ⟨h3, h4⟩ := old p x' ep e1 hp hep
      by_cases e2 : q = s.n
      · subst e2
        obtain ⟨rfl, rfl⟩ := new _ _ hq heq
        exact hsh p x' ep h3 h4 hbb
      · obtain ⟨h5, h6⟩ := old q y eq e2 hq heq
        exact h.sep p q x' y ep eq hpq h3 h5 h4 h6 hbb

/-! ### What is appended or copied -/
theorem one_list {ys : List EV} {vs : List Value} (h : denL ρ ys = some vs) (h1 : ys.all EV.one = true) : ∀ v ∈ vs, v.oneCell' = true := by
  intro v hv
  obtain ⟨k, hk⟩ := List.getElem?_of_mem hv
  have hlt : k < ys.length := by rw [← denL_len h]; exact (List.getElem?_eq_some_iff.1 hk).1
  obtain ⟨u, h2, h3⟩ := denL_get h k _ (List.getElem?_eq_getElem hlt)
  rw [hk] at h2; cases h2
  exact one_den (List.all_eq_true.1 h1 _ (List.getElem_mem hlt)) h3
theorem load0 (b : Addr) (w : World) : (loadCells b 0).run P w = .ok #[] w := by simpa using run_loadCells_list (P := P) w b [] (by simp)
theorem cr_list {l : List EV} {arr : Array Value} {base o n : Nat} (hc : CR ρ l arr base) (hn : o + n ≤ l.length) : ∃ vs, denL ρ ((l.drop o).take n) = some vs ∧ vs.length = n ∧ (∀ j v, vs[j]? = some v → arr[base + o + j]? = some v) ∧ ((l.drop o).take n).all EV.one = true := by
  have hd := denL_part hc hn
  refine ⟨_, hd, by simp, fun j v hj => ?_, ?_⟩
  · have hlt : j < n := by have := (List.getElem?_eq_some_iff.1 hj).1; simpa using this
    rw [List.getElem?_map, List.getElem?_range hlt, Option.map_some] at hj
    have : l[o + j]? = some (l[o + j]'(by omega)) := List.getElem?_eq_getElem (by omega)
    obtain ⟨_, u, h5, _⟩ := hc _ _ this
    rw [Array.getD_eq_getD_getElem?, Nat.add_assoc, h5] at hj
    rw [Nat.add_assoc, h5]; exact hj
  · rw [List.all_eq_true]
    intro x hx
    obtain ⟨k, hk⟩ := List.getElem?_of_mem hx
    obtain ⟨_, h9⟩ := drop_take_get hk
    exact (hc _ _ h9).1
theorem src_cells (hS : S κ P ρ s w) {v : Value} {m sz : Nat} {ys : List EV} (hx : x.den ρ = some v) (hl : slLen x = some m) (hc : slCells s x = some ys) (hy : ys.length = m * sz) :
    ∃ news, denL ρ ys = some news ∧ ys.all EV.one = true ∧ (∀ w', (Builtin.lenOf v).run P w' = .ok m w') ∧ ∀ k, k ≤ m → ∀ w' : World, (∀ q, w'.cell? q = w.cell? q) → (Builtin.firstCells sz k v).run P w' = .ok (news.take (k * sz)).toArray w' := by
  unfold slCells at hc
  split at hc
  · cases hc; cases (show some 0 = some m from hl); cases (show some _ = some v from hx)
    exact ⟨[], rfl, rfl, fun _ => rfl, fun k _ w' _ => by rw [List.take_nil]; rfl⟩
  · rename_i b i j sz'
    cases hc; cases (show some 0 = some m from hl)
    simp only [EV.den, Option.bind_eq_some_iff] at hx
    obtain ⟨e, _, hx⟩ := hx
    split at hx
    · cases hx
      refine ⟨[], rfl, rfl, fun _ => rfl, fun k hk w' _ => ?_⟩
      have : k = 0 := by omega
      subst this
      rw [List.take_nil]
      simp only [Builtin.firstCells, Nat.zero_mul, load0]
    · cases hx
  · rename_i b i sz' n c
    have hm : n = m := Option.some.inj hl
    subst hm
    obtain ⟨l, h1, h2⟩ := bO_some.1 hc
    obtain ⟨h3, h4⟩ := cnd_none.1 h2
    cases h4
    have h3 := ble_le h3
    obtain ⟨e, he, hsz, hcap, hv⟩ := den_sl hx
    obtain ⟨e', he', arr, t, fz, a1, a2, a3, a4, a5⟩ := cells_obj hS h1
    rw [he] at he'; cases he'
    have h3' : i * sz' + n * sz' ≤ l.length := by rw [← Nat.add_mul]; exact h3
    have hle : n * sz' = n * sz := by rw [← hy, List.length_take, List.length_drop]; omega
    obtain ⟨vs, d1, d2, d3, d4⟩ := cr_list a5 h3'
    refine ⟨vs, d1, d4, fun w' => by rw [hv]; rfl, fun k hk w' hw => ?_⟩
    rw [hv]
    refine run_firstCells_some w' sz k _ _ _ _ ?_ (fun j u hj => ?_)
    · rw [List.length_take, d2]
      have := Nat.mul_le_mul_right sz hk
      omega
    · have hj' : vs[j]? = some u := by
        rcases Nat.lt_or_ge j (k * sz) with h | h
        · rwa [List.getElem?_take_of_lt h] at hj
        · rw [List.getElem?_eq_none (by simp; omega)] at hj; cases hj
      rw [hw, Addr.add_lit, cell_at a1]
      exact d3 j u hj'
  · rename_i b
    cases hc
    cases (show some b.data.toList.length = some m from hl)
    cases (show some _ = some v from hx)
    have hlen : b.data.toList.length = b.size := by rw [Array.length_toList]; rfl
    refine ⟨b.data.toList.map fun c => .int .u8 c.toNat, ?_, ?_, fun w' => ?_, fun k hk w' _ => ?_⟩
    · have := raw_den (ρ := ρ) (b.data.toList.map fun c => Value.int .u8 c.toNat)
      rw [List.map_map] at this; exact this
    · rw [List.all_eq_true]
      intro y hy
      obtain ⟨c, _, rfl⟩ := List.mem_map.1 hy
      rfl
    · rw [hlen]; rfl
    · simp only [Builtin.firstCells, Sem.run_pure]
      congr 1
      apply Array.ext'
      rw [List.length_map] at hy
      have hks : k * sz = k ∨ (b.data.toList = []) := by
        rcases Nat.eq_zero_or_pos b.data.toList.length with h0 | h0
        · right; exact List.length_eq_zero_iff.1 h0
        · left
          have : sz = 1 := Nat.eq_of_mul_eq_mul_left h0 (by omega)
          rw [this, Nat.mul_one]
      rw [ext_toList]
      rcases hks with h | h
      · rw [h]; simp [List.map_take]
      · simp [h]
  · cases hc
/-- What is appended, as the kit's law asks. -/
theorem src_mk (hS : S κ P ρ s w) {v : Value} {m sz : Nat} {ys : List EV} {tx : TypeId} (hk : (∃ e', P.underlying tx = some (.slice e')) ∨ P.underlying tx = some .string) (hx : x.den ρ = some v) (hl : slLen x = some m) (hc : slCells s x = some ys) (hy : ys.length = m * sz) :
    ∃ news, denL ρ ys = some news ∧ ys.all EV.one = true ∧ Src P sz tx v m news w := by
  obtain ⟨news, h1, h2, h3, h4⟩ := src_cells hS hx hl hc hy
  have hlen := denL_len h1
  have ht : news.take (m * sz) = news := by rw [List.take_of_length_le]; omega
  refine ⟨news, h1, h2, hk, h3, ?_, ?_, by omega, one_list h1 h2⟩
  · have := h4 m (Nat.le_refl _) w (fun _ => rfl); rwa [ht] at this
  · have := h4 m (Nat.le_refl _) w.drew (fun _ => rfl); rwa [ht] at this

/-! ### append -/
section
variable {t tx ty e : TypeId} {i : TypeInfo} {u : Value} {m : Nat} {news : List Value}
theorem app_keep (ht : P.underlying t = some (.slice e)) (hi : P.info? e = some i) (hs : Src P i.size tx u 0 news w) (base : Option Addr) (sLen sCap : Nat) (hroom : sLen ≤ sCap) :
    (Builtin.append_ #[t, tx] ty #[.slice base sLen sCap, u]).run P w = .ok (.slice base sLen sCap) w := by
  have hn : news = [] := List.length_eq_zero_iff.1 (by rw [hs.newsLen, Nat.zero_mul])
  have hc := hs.cells
  rw [hn] at hc
  cases base <;> rcases hs.kind with ⟨e', hk⟩ | hk <;> simp [Builtin.append_, run_underlying ht, run_underlying hk, sizeOf, typeInfo, hi, hs.len, hroom, hc, Addr.add_lit, storeCells]
theorem app_room (ht : P.underlying t = some (.slice e)) (hi : P.info? e = some i) (hs : Src P i.size tx u m news w) {b off sLen sCap : Nat} {w' : World} (hroom : sLen + m ≤ sCap) (hst : (storeCells ⟨b, off + sLen * i.size, none⟩ news).run P w = .ok () w') :
    (Builtin.append_ #[t, tx] ty #[.slice (some ⟨b, off, none⟩) sLen sCap, u]).run P w = .ok (.slice (some ⟨b, off, none⟩) (sLen + m) sCap) w' := by
  rcases hs.kind with ⟨e', hk⟩ | hk <;> simp [Builtin.append_, run_underlying ht, run_underlying hk, sizeOf, typeInfo, hi, hs.len, hroom, hs.cells, Addr.add_lit, hst]
end
theorem size_info {e : TypeId} {sz bt : Nat} {z : List EV} (h1 : szT P e = some sz) (h2 : byT P e = some bt) (h3 : zrT P e = some z) : ∃ i v, P.info? e = some i ∧ i.size = sz ∧ i.bytes = bt ∧ i.zero = some v ∧ z = v.cells.toList.map .raw := by
  unfold szT at h1; unfold byT at h2; unfold zrT at h3; simp only [infoA_eq] at h1 h2 h3
  cases hi : P.info? e with
  | none => rw [hi] at h1; cases h1
  | some i =>
    rw [hi] at h1 h2 h3
    simp only [Option.map_some, Option.some.injEq, Option.bind_some, Option.map_eq_some_iff] at h1 h2 h3
    obtain ⟨v, h3, h4⟩ := h3
    exact ⟨i, v, rfl, h1, h2, h3, h4.symm⟩
/-- A row that has grown into a new block. -/
theorem growNew_sound (hS : S κ P ρ s w) {xs ys : List EV} {olds news : List Value} {n m sz cap : Nat} {e : TypeId} {rest : Array Value} (h1 : denL ρ xs = some olds) (h2 : denL ρ ys = some news) (a1 : xs.all EV.one = true) (a2 : ys.all EV.one = true)
    (l1 : xs.length = n * sz) (l2 : ys.length = m * sz) (hc : n + m ≤ cap) (hr : cap * sz ≤ (n + m) * sz + rest.size) :
    ∃ ρ', ρ.le ρ' ∧ S κ P ρ' (newObj s (.row (xs ++ ys) s.n true true)) (w.drew.alloc (.cells ((olds ++ news).toArray ++ rest) e)) ∧ (EV.sl s.n 0 sz (n + m) none).den ρ' = some (.slice (some ⟨w.heap.size, 0, none⟩) (n + m) cap) := by
  have hd := denL_app h1 h2
  have hlen : (xs ++ ys).length = (n + m) * sz := by rw [List.length_append, l1, l2, Nat.add_mul]
  have := new_row (t := e) (rest := rest) (cl := s.n) (so := true) (ti := true) (n := n + m) (cap := cap) (sz := sz) (fz := (0, 0)) (hS.drew (w.drawn + 1)) hd (by rw [List.all_append, a1, a2]; rfl) (by omega) hc (by have := denL_len hd; omega) Thaw.zero none (.inl rfl)
  exact ⟨_, this⟩
/-- A row that has grown where it lies. -/
theorem grow_room (hS : S κ P ρ s w) {b i sz n m cl : Nat} {so : Bool} {l ys : List EV} {news : List Value} {e : RE} (hg : T.get s.h b = some (.row l cl so true)) (he : ρ b = some e) (hsz : e.sz = sz) (hcap : i + n + m ≤ e.cap) (hin : (i + n) * sz ≤ l.length)
    (h2 : denL ρ ys = some news) (a2 : ys.all EV.one = true) (l2 : ys.length = m * sz) :
    ∃ w' ρ', (storeCells ⟨e.b, e.base + i * sz + n * sz, none⟩ news).run P w = .ok () w' ∧ ρ.le ρ' ∧
      S κ P ρ' (newObj { h := T.set (cnd (so || Nat.beq ((i + n) * sz) l.length) s.h (killAll cl b s.h)) b (.row (l.take ((i + n) * sz)) cl false false), n := s.n } (.row (((l.drop (i * sz)).take (n * sz)) ++ ys) cl false true)) w' ∧
      (EV.sl s.n 0 sz (n + m) none).den ρ' = some (.slice (some ⟨e.b, e.base + i * sz, none⟩) (n + m) (e.cap - i)) := by
  obtain ⟨e', he', arr, t, fz, a1, b2, a3, a4, a5⟩ := hS.obj b _ hg
  rw [he] at he'; cases he'
  subst hsz
  have hlen := denL_len h2
  have hmul : (i + n) * e.sz = i * e.sz + n * e.sz := Nat.add_mul ..
  have hmul2 : (i + n + m) * e.sz = i * e.sz + n * e.sz + m * e.sz := by rw [Nat.add_mul, Nat.add_mul]
  have hle : (i + n + m) * e.sz ≤ e.cap * e.sz := Nat.mul_le_mul_right _ hcap
  have hle2 : (e.cap - i) * e.sz = e.cap * e.sz - i * e.sz := Nat.sub_mul ..
  have hblt : e.b < w.heap.size := (Array.getElem?_eq_some_iff.1 a1).1
  obtain ⟨arr', r1, r2, r3⟩ := stores_run (P := P) e.b t fz news (e.base + i * e.sz + n * e.sz) 0 w arr a1 b2 (by omega) (one_list h2 a2)
  simp only [Nat.add_zero] at r3
  have old : ∀ k, k < e.base + (i + n) * e.sz → arr'[k]? = arr[k]? := fun k hk => by rw [r3, if_neg (by omega)]
  -- the others
  have oth : ∀ u y eu, u ≠ b → T.get (cnd (so || Nat.beq ((i + n) * e.sz) l.length) s.h (killAll cl b s.h)) u = some y → ρ u = some eu → eu.b = e.b →
      T.get s.h u = some y ∧ ∃ lu, y = .row lu cl false false ∧ eu.base + lu.length ≤ e.base + (i + n) * e.sz := by
    intro u y eu hne hu heu hbb
    have hu' : T.get s.h u = some y := by
      cases hc : (so || Nat.beq ((i + n) * e.sz) l.length)
      · rw [hc] at hu; exact (kill_get (b := b) hu).1
      · rw [hc] at hu; exact hu
    have hsh := hS.sep u b y _ eu e hne hu' hg heu he hbb
    cases y with
    | row lu cu su tu =>
      obtain ⟨e1, e2, e3, e4, _⟩ := hsh
      obtain ⟨e4, e5⟩ := e4 rfl
      subst e1; subst e2; subst e3; subst e4
      refine ⟨hu', lu, rfl, ?_⟩
      cases hc : (false || Nat.beq ((i + n) * e.sz) l.length)
      · rw [hc] at hu
        rcases (kill_get (show T.get (killAll cu b s.h) u = _ from hu)).2 _ _ _ _ rfl with h4 | h4
        · exact absurd h4 hne
        · exact absurd rfl h4
      · have := beq_n (by simpa using hc : Nat.beq ((i + n) * e.sz) l.length = true)
        omega
    | _ => exact hsh.elim
  have hS1 : S κ P ρ { h := T.set (cnd (so || Nat.beq ((i + n) * e.sz) l.length) s.h (killAll cl b s.h)) b (.row (l.take ((i + n) * e.sz)) cl false false), n := s.n } (setO w e.b (.cells arr' t fz)) := by
    refine hS.change (x' := .row (l.take ((i + n) * e.sz)) cl false false) he (fun u z hu => ?_) ⟨arr', t, fz, setO_same hblt, b2.size r2, ?_, by omega, fun k x hk => ?_⟩ (fun u y eu hne hu heu hbb => ?_)
    · rcases get_set hu with ⟨p, q⟩ | ⟨p, hu⟩
      · exact .inl ⟨p, q.symm⟩
      · refine .inr ⟨p, ?_⟩
        cases hc : (so || Nat.beq ((i + n) * e.sz) l.length)
        · rw [hc] at hu; exact (kill_get (b := b) hu).1
        · rw [hc] at hu; exact hu
    · rw [List.length_take]; omega
    · have hk2 : k < (i + n) * e.sz := by
        rcases Nat.lt_or_ge k ((i + n) * e.sz) with h | h
        · exact h
        · rw [List.getElem?_eq_none (by simp; omega)] at hk; cases hk
      rw [List.getElem?_take_of_lt hk2] at hk
      rw [old _ (by omega)]
      exact a5 k x hk
    · rcases get_set hu with ⟨p, _⟩ | ⟨_, hu⟩
      · exact absurd p hne
      · obtain ⟨hu', lu, rfl, hlu⟩ := oth u y eu hne hu heu hbb
        refine ⟨?_, rfl, rfl, rfl, fun h => (by cases h), fun h => (by cases h)⟩
        obtain ⟨eu', heu', arr2, t2, fz2, c1, c2, c3, c4, c5⟩ := hS.obj u _ hu'
        rw [heu] at heu'; cases heu'
        rw [hbb, a1] at c1; cases c1
        refine ⟨arr', t, fz, by rw [hbb]; exact setO_same hblt, b2.size r2, by omega, by omega, fun k x hk => ?_⟩
        have hk2 : k < lu.length := (List.getElem?_eq_some_iff.1 hk).1
        rw [old _ (by omega)]
        exact c5 k x hk
  have hxs : ((l.drop (i * e.sz)).take (n * e.sz)).length = n * e.sz := by rw [List.length_take, List.length_drop]; omega
  obtain ⟨vs, d1, d2, d3, d4⟩ := cr_list a5 (show i * e.sz + n * e.sz ≤ l.length by omega)
  have hd := denL_app d1 h2
  have hal := S.alias hS1 (x := .row (((l.drop (i * e.sz)).take (n * e.sz)) ++ ys) cl false true) (r := ⟨e.b, e.base + i * e.sz, e.cap - i, e.sz⟩) ⟨(hS.dom b e he).2.1, by rw [setO_size]; exact hblt⟩
    ⟨arr', t, fz, setO_same hblt, b2.size r2, by rw [List.length_append]; simp only; omega, by simp only; omega, fun k x hk => by
      refine ⟨List.all_eq_true.1 (by rw [List.all_append, d4, a2]; rfl : (((l.drop (i * e.sz)).take (n * e.sz)) ++ ys).all EV.one = true) x (List.mem_of_getElem? hk), ?_⟩
      obtain ⟨v, h5, h6⟩ := denL_get hd k x hk
      refine ⟨v, ?_, den_mono (Env.ext_le (hS1.none (Nat.le_refl _))) _ _ h6⟩
      simp only
      rcases Nat.lt_or_ge k vs.length with h | h
      · rw [List.getElem?_append_left h] at h5
        rw [old _ (by omega)]
        exact d3 k v h5
      · rw [List.getElem?_append_right h] at h5
        have hk3 : k - vs.length < news.length := (List.getElem?_eq_some_iff.1 h5).1
        rw [r3, if_pos (by omega), show e.base + i * e.sz + k - (e.base + i * e.sz + n * e.sz) = k - vs.length by omega]
        exact h5⟩ (fun u y eu hu heu hbb => by
      rcases get_set hu with ⟨rfl, q⟩ | ⟨hne, hu⟩
      · subst q
        rw [he] at heu; cases heu
        refine ⟨rfl, rfl, rfl, fun _ => ⟨rfl, ?_⟩, fun h => (by cases h)⟩
        simp only [List.length_append, List.length_take, List.length_drop]; omega
      · obtain ⟨_, lu, rfl, hlu⟩ := oth u y eu hne hu heu hbb
        refine ⟨rfl, rfl, rfl, fun _ => ⟨rfl, ?_⟩, fun h => (by cases h)⟩
        simp only [List.length_append]; omega)
  refine ⟨_, _, r1, hal.1, hal.2, ?_⟩
  simp only [EV.den, Env.ext_same, Option.bind_some, Nat.zero_mul, Nat.add_zero, true_and, Nat.zero_add, Option.getD_none, Nat.sub_zero]
  rw [if_pos (fun _ => by omega)]
/-- A row that may have grown where it lies, and has not. -/
theorem grow_moved (hS : S κ P ρ s w) {b i sz n cl : Nat} {so : Bool} {l : List EV} (hg : T.get s.h b = some (.row l cl so true)) :
    S κ P ρ { h := T.set (cnd (so || Nat.beq ((i + n) * sz) l.length) s.h (killAll cl b s.h)) b (.row (l.take ((i + n) * sz)) cl false false), n := s.n } w := by
  obtain ⟨e, he, arr, t, fz, a1, b2, a3, a4, a5⟩ := hS.obj b _ hg
  have hsub : ∀ u z, T.get (cnd (so || Nat.beq ((i + n) * sz) l.length) s.h (killAll cl b s.h)) u = some z → T.get s.h u = some z := by
    intro u z hu
    cases hc : (so || Nat.beq ((i + n) * sz) l.length)
    · rw [hc] at hu; exact (kill_get (b := b) hu).1
    · rw [hc] at hu; exact hu
  have hsame : setO w e.b (.cells arr t fz) = w := by
    have hlt : e.b < w.heap.size := (Array.getElem?_eq_some_iff.1 a1).1
    have hv := (Array.getElem?_eq_some_iff.1 a1).2
    unfold setO
    have : w.heap.setIfInBounds e.b (.cells arr t fz) = w.heap := by
      apply Array.ext
      · simp
      · intro k h1 h2
        rw [Array.getElem_setIfInBounds]
        split
        · rename_i e; subst e; exact hv.symm
        · rfl
    rw [this]
  have := hS.change (h' := T.set (cnd (so || Nat.beq ((i + n) * sz) l.length) s.h (killAll cl b s.h)) b (.row (l.take ((i + n) * sz)) cl false false)) (x' := .row (l.take ((i + n) * sz)) cl false false) (o' := .cells arr t fz) he
    (fun u z hu => (get_set hu).imp (fun ⟨p, q⟩ => ⟨p, q.symm⟩) (fun ⟨p, q⟩ => ⟨p, hsub _ _ q⟩)) (by
      rw [hsame]
      refine ⟨arr, t, fz, a1, b2, by rw [List.length_take]; omega, a4, fun k x hk => ?_⟩
      have hk2 : k < (i + n) * sz := by
        rcases Nat.lt_or_ge k ((i + n) * sz) with h | h
        · exact h
        · rw [List.getElem?_eq_none (by simp; omega)] at hk; cases hk
      rw [List.getElem?_take_of_lt hk2] at hk
      exact a5 k x hk) (fun u y eu hne hu heu hbb => by
      rw [hsame]
      rcases get_set hu with ⟨p, _⟩ | ⟨_, hu⟩
      · exact absurd p hne
      · have hu' := hsub _ _ hu
        have hsh := hS.sep u b y _ eu e hne hu' hg heu he hbb
        obtain ⟨eu', heu', hob⟩ := hS.obj u _ hu'
        rw [heu] at heu'; cases heu'
        refine ⟨hob, ?_⟩
        cases y with
        | row lu cu su tu =>
          obtain ⟨e1, e2, e3, e4, _⟩ := hsh
          obtain ⟨e4, e5⟩ := e4 rfl
          exact ⟨e1, e2, rfl, fun h => (by cases h), fun h => (by rw [e4] at h; cases h)⟩
        | _ => exact hsh.elim)
  rwa [hsame] at this
end
end Go.Eva
