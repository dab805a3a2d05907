/-
  The abstract layer, part q: what comes in, read as abstract values; the call of a law.
-/
import Derived.Test.YtaeacialcbahnaaMp
import Derived.Carry
import Derived.ChangeArms
import Derived.ChangeSame
import Derived.DataReads
namespace Go.Abs
open Go.RowKit Go.ChangeShapes Go.WideShapes

/-- All that is there when a call begins. -/
def gTop (w : World) : Nat → Nat := fun b => blockLen w b

theorem gTop_new {w : World} {b : Nat} (h : w.heap.size ≤ b) : gTop w b = 0 := by
  have : w.heap[b]? = none := Array.getElem?_eq_none h
  simp [gTop, blockLen, this]

theorem rel_start (w : World) : Rel ⟨w.heap.size, w⟩ (gTop w) [] w :=
  ⟨Below.refl _ _, Nat.le_refl _, by simp, by simp, by simp, fun _ h => gTop_new h⟩

theorem cell_lt {w : World} {b off : Nat} {v : Value} (h : w.cell? ⟨b, off, none⟩ = some v) : off + 1 ≤ gTop w b := by
  simp only [World.cell?] at h
  unfold gTop blockLen
  split at h
  · rename_i c t f hc
    simp only [Option.isSome_none, Bool.false_eq_true, if_false] at h
    rw [hc]
    rcases Nat.lt_or_ge off c.size with h' | h'
    · exact h'
    · rw [Array.getElem?_eq_none h'] at h; cases h
  · cases h

theorem spot_none {w : World} {a : Addr} {v : Value} (h : w.cell? a = some v) : a.spot = none := by
  simp only [World.cell?] at h
  split at h
  · split at h
    · cases h
    · rename_i h'; simpa using h'
  · cases h

def Opens (P : Program) (t : TypeId) {α : Type} (av : α → AV) (ok : α → Prop) : Prop :=
  ∀ {H : Type} (enc : TypeId × Value → H) (w : World) (fuel : Nat) (cs : List Value) (x : DataW H × List MemPlace), DataW.trod enc P w 0 (fun _ => true) true fuel t cs = some x → ∃ a : α, ok a ∧ TR (gTop w) w (av a).cells cs.toArray

section
variable {P : Program} {t : TypeId} {α β : Type} {av : α → AV} {ok : α → Prop}

theorem Opens.map {av' : β → AV} {ok' : β → Prop} (h : Opens P t av ok) (f : α → β) (h1 : ∀ a, av a = av' (f a)) (h2 : ∀ a, ok a → ok' (f a)) : Opens P t av' ok' :=
  fun enc w fuel cs x hx => by
    obtain ⟨a, ha, hv⟩ := h enc w fuel cs x hx
    exact ⟨f a, h2 a ha, by rw [← h1]; exact hv⟩

theorem opens_int {k : IntKind} (h : intT P t = some k) : Opens P t (fun n : Int => .raw (.int k n)) (fun n => k.min ≤ n ∧ n ≤ k.max) := by
  intro H enc w fuel cs x hx
  obtain ⟨n, rfl, _, hw⟩ := DataW.trod_int (und_of_intT h) hx
  refine ⟨n, ?_, TR.one (.raw _)⟩
  simpa [Lit.wf] using hw

theorem opens_bool (h : P.underlying t = some .bool) : Opens P t (fun b : Bool => .raw (.bool b)) (fun _ => True) := by
  intro H enc w fuel cs x hx
  obtain ⟨b, rfl, _⟩ := DataW.trod_bool h hx
  exact ⟨b, trivial, TR.one (.raw _)⟩

theorem opens_string (h : isStr P t = true) : Opens P t (fun s : ByteArray => .raw (.string s)) (fun s => s.size ≤ maxLen) := by
  intro H enc w fuel cs x hx
  obtain ⟨s, rfl, _, hs⟩ := DataW.trod_string (und_of_isStr h) hx
  exact ⟨s, hs, TR.one (.raw _)⟩

theorem cellsOf_szT {n : Nat} (h : szT P t = some n) : P.cellsOf t = n := by
  unfold szT at h
  unfold Program.cellsOf
  cases hi : P.info? t with
  | none => simp [hi] at h
  | some i => simp [hi] at h; simp [h]

theorem choose_list {γ : Type} {Q : Nat → γ → Prop} : ∀ (n : Nat), (∀ i, i < n → ∃ a, Q i a) → ∃ l : List γ, l.length = n ∧ ∀ (i : Nat) (a : γ), l[i]? = some a → Q i a
  | 0, _ => ⟨[], rfl, fun i a h => by simp at h⟩
  | n + 1, h => by
    obtain ⟨l, h1, h2⟩ := choose_list n (fun i hi => h i (by omega))
    obtain ⟨a, ha⟩ := h n (by omega)
    refine ⟨l ++ [a], by simp [h1], fun i b hb => ?_⟩
    by_cases hi : i < n
    · rw [List.getElem?_append_left (by omega)] at hb; exact h2 i b hb
    · rw [List.getElem?_append_right (by omega)] at hb
      have := lt_of_get hb
      simp at this
      have e : i = n := by omega
      subst e
      simp [h1] at hb
      subst hb
      exact ha

theorem opens_slice {e sz : Nat} (h : slE P t = some e) (hs : szT P e = some sz) (h0 : 0 < sz) (he : Opens P e av ok) (hc : ∀ a, (av a).cells.length = sz) :
    Opens P t (fun l : List α => .sl sz none (l.map av)) (fun l => l.length ≤ maxLen ∧ ∀ a ∈ l, ok a) := by
  intro H enc w fuel cs x hx
  rcases DataW.trod_slice (und_of_slE h) hx with ⟨rfl, _⟩ | ⟨a, len, cap, elems, rest, n, _, rfl, _, _, hl, hm, hlen, hel, _⟩
  · exact ⟨[], ⟨Nat.zero_le _, by simp⟩, TR.one (.slnil h0)⟩
  · rw [cellsOf_szT hs] at hel
    have each : ∀ i, i < len → ∃ b : α, ok b ∧ ∃ us : List Value, us.length = sz ∧ (∀ k, k < sz → w.cell? ((a.add (i * sz)).add k) = us[k]?) ∧ TR (gTop w) w (av b).cells us.toArray := by
      intro i hi
      have h1 := hel i hi
      have hei : elems[i]? = some (elems[i]'(by omega)) := List.getElem?_eq_getElem (by omega)
      rw [hei, Option.bind_eq_some_iff] at h1
      obtain ⟨us, h2, h3⟩ := h1
      obtain ⟨_, h4, h5⟩ := World.cells?_some h2
      obtain ⟨b, h6, h7⟩ := he enc w n us _ h3
      exact ⟨b, h6, us, h4, h5, h7⟩
    obtain ⟨l, hll, hl2⟩ := choose_list len each
    refine ⟨l, ⟨by omega, fun b hb => ?_⟩, TR.one ?_⟩
    · obtain ⟨i, hi⟩ := List.getElem?_of_mem hb
      exact (hl2 i b hi).1
    · rcases Nat.eq_zero_or_pos len with hz | hpos
      · subst hz
        have : l = [] := List.eq_nil_of_length_eq_zero hll
        subst this
        exact .slzero hm h0
      · have ha : a.spot = none := by
          obtain ⟨_, _, us, h4, h5, _⟩ := each 0 hpos
          have := h5 0 h0
          rw [List.getElem?_eq_getElem (by omega)] at this
          simp only [Nat.zero_mul, Addr.add_zero'] at this
          exact spot_none this
        obtain ⟨b, off, sp⟩ := a
        simp only at ha
        subst ha
        have hcell : ∀ (i : Nat) (x : α) (k : Nat) (y : AV), l[i]? = some x → (av x).cells[k]? = some y → ∃ u, w.cell? ⟨b, off + i * sz + k, none⟩ = some u ∧ VR (gTop w) w y u := by
          intro i x k y hi hk
          obtain ⟨_, us, h4, h5, h6⟩ := hl2 i x hi
          have hks : k < sz := by rw [← hc x]; exact lt_of_get hk
          have h7 := h5 k hks
          rw [Addr.add_lit, Addr.add_lit] at h7
          refine ⟨us[k]'(by omega), by rw [h7, List.getElem?_eq_getElem (by omega)], ?_⟩
          have := h6.get k y hk
          have h8 : us.toArray.getD k undef = us[k]'(by omega) := by
            have : us[k]? = some (us[k]'(by omega)) := List.getElem?_eq_getElem (by omega)
            simp [Array.getD_eq_getD_getElem?, this]
          rw [h8] at this; exact this
        refine VR.sl_mk (by simp [hll]) (by simp [hll, hl]) hm h0 (fun i x hi => ?_) (fun i x k y hi hk => ?_) ?_ (fun t ht => by cases ht)
        · rw [List.getElem?_map] at hi
          cases hx : l[i]? with
          | none => simp [hx] at hi
          | some z => simp [hx] at hi; subst hi; exact hc z
        · rw [List.getElem?_map] at hi
          cases hx : l[i]? with
          | none => simp [hx] at hi
          | some z => simp [hx] at hi; subst hi; exact hcell i z k y hx hk
        · obtain ⟨m, rfl⟩ : ∃ m, len = m + 1 := ⟨len - 1, by omega⟩
          have hx : l[m]? = some (l[m]'(by omega)) := List.getElem?_eq_getElem (by omega)
          have hk : (av (l[m]'(by omega))).cells[sz - 1]? = some ((av (l[m]'(by omega))).cells[sz - 1]'(by rw [hc]; omega)) := List.getElem?_eq_getElem (by rw [hc]; omega)
          obtain ⟨u, h1, _⟩ := hcell m _ (sz - 1) _ hx hk
          have := cell_lt h1
          simp only [List.length_map, hll, Nat.add_mul]
          omega

def OpensF (P : Program) (t : TypeId) (_ off : Nat) {α : Type} (avs : α → List AV) (ok : α → Prop) : Prop :=
  ∀ {H : Type} (enc : TypeId × Value → H) (w : World) (fuel : Nat) (cs : List Value) (x : DataW H × List MemPlace), DataW.trod enc P w 0 (fun _ => true) true fuel t cs = some x → ∃ a : α, ok a ∧ TR (gTop w) w (avs a) (cs.drop off).toArray

theorem opensF_nil {i off f0 o0 : Nat} {t0 : TypeId} (hf : fldT P t f0 = some (o0, t0)) (h : szT P t = some off) : OpensF P t i off (fun _ : Unit => []) (fun _ => True) := by
  intro H enc w fuel cs x hx
  obtain ⟨fs, _, hu, _⟩ := und_of_fldT hf
  obtain ⟨xs, n, _, _, hl, _⟩ := DataW.trod_struct hu hx
  rw [cellsOf_szT h] at hl
  refine ⟨(), trivial, ?_⟩
  rw [List.drop_eq_nil_of_le (by omega)]
  exact TR.nil

theorem opensF_cons {i off sz : Nat} {ft : TypeId} {avs : β → List AV} {ok' : β → Prop} (hf : fldT P t i = some (off, ft)) (hs : szT P ft = some sz) (h : Opens P ft av ok) (hr : OpensF P t (i + 1) (off + sz) avs ok') :
    OpensF P t i off (fun p : α × β => (av p.1).cells ++ avs p.2) (fun p => ok p.1 ∧ ok' p.2) := by
  intro H enc w fuel cs x hx
  obtain ⟨b, hb1, hb2⟩ := hr enc w fuel cs x hx
  obtain ⟨fs, f, hu, hfi, rfl, rfl⟩ := und_of_fldT hf
  obtain ⟨xs, n, _, _, hl, hlen, hel⟩ := DataW.trod_struct hu hx
  have h1 := hel i f hfi
  have hi : i < xs.length := by
    rw [hlen]
    rcases Nat.lt_or_ge i fs.size with h' | h'
    · exact h'
    · rw [Array.getElem?_eq_none h'] at hfi; cases hfi
  rw [List.getElem?_eq_getElem hi, cellsOf_szT hs] at h1
  obtain ⟨a, ha1, ha2⟩ := h enc w n _ _ h1
  refine ⟨(a, b), ⟨ha1, hb1⟩, ?_⟩
  have := ha2.append hb2
  have e : ((cs.drop f.offset).take sz).toArray ++ (cs.drop (f.offset + sz)).toArray = (cs.drop f.offset).toArray := by
    rw [List.append_toArray]
    congr 1
    rw [← List.drop_drop]
    exact List.take_append_drop _ _
  rw [e] at this
  exact this

theorem opens_struct {avs : α → List AV} (h : OpensF P t 0 0 avs ok) : Opens P t (fun a => .agg (avs a)) ok := by
  intro H enc w fuel cs x hx
  obtain ⟨a, h1, h2⟩ := h enc w fuel cs x hx
  exact ⟨a, h1, by simpa [AV.cells] using h2⟩

/-- A parameter of one cell. -/
theorem Opens.one {H : Type} {enc : TypeId × Value → H} {w : World} {v : Value} {d : DataW H} {ps : List MemPlace} (h : Opens P t av ok) (hc : ∀ a, (av a).cells = [av a]) (hv : v.cells = #[v]) (hd : DataW.Trod enc P w 0 (fun _ => true) true t v d ps) : ∃ a, ok a ∧ VR (gTop w) w (av a) v := by
  obtain ⟨fuel, hf⟩ := hd
  obtain ⟨a, h1, h2⟩ := h enc w fuel _ _ hf
  refine ⟨a, h1, ?_⟩
  rw [hv, hc a] at h2
  simpa using h2.get 0 (av a) rfl

/-- A parameter that is a struct. -/
theorem Opens.agg {H : Type} {enc : TypeId × Value → H} {w : World} {v : Value} {d : DataW H} {ps : List MemPlace} {avs : α → List AV} (h : Opens P t (fun a => .agg (avs a)) ok) (hv : ∃ cs, v = .agg cs) (hd : DataW.Trod enc P w 0 (fun _ => true) true t v d ps) : ∃ a, ok a ∧ VR (gTop w) w (.agg (avs a)) v := by
  obtain ⟨fuel, hf⟩ := hd
  obtain ⟨a, h1, h2⟩ := h enc w fuel _ _ hf
  obtain ⟨cs, rfl⟩ := hv
  have h3 : TR (gTop w) w (avs a) cs := by simpa [Value.cells, AV.cells] using h2
  exact ⟨a, h1, .agg cs h3.size h3.get⟩
end

/-! ### The call of a law -/
theorem law_calls {P : Program} {f : FuncId} {xs : List AV} {vs : Array Value} {W : World} (h : ∀ κ, ACallF κ P f xs [] (fun r _ => r = .ret (B true))) (hv : TR (gTop W) W xs vs) :
    Calls P f vs W fun e w' => e = .returned (.bool true) ∧ Below W.heap.size W w' := by
  have h1 := h ⟨W.heap.size, W⟩ [] (gTop W) W vs (rel_start W) hv
  refine (callsIn_wide.1 h1).mono ?_
  rintro e w' ⟨g', σ', r, hR, _, her, rfl⟩
  cases e with
  | returned v => cases VR.raw_eq her; exact ⟨rfl, hR.below⟩
  | panicked c => exact her.elim
  | outgrown => exact her.elim

section
variable {H : Type} {enc : TypeId × Value → H} {P : Program}
theorem post_of_below {f : Func} {s : ChangeSpec} {apart fresh handsOn again : Bool} {W W' : World} {args : Array Value} {v : Value} {ds gs : List (DataW H)} {before pa pv : List MemPlace}
    (hW : DataW.Whole enc P f.params.toList s.vars apart W args.toList ds gs before)
    (hres : ∀ (b : Nat) (sp : Nat → Bool) (hd : Bool), DataW.TrodAll enc P W' b sp hd f.resultTypes.toList (v.resultList f.resultTypes.size) (s.fn H (ds ++ gs)).results [])
    (hargs : ∀ sp : Nat → Bool, (∀ p ∈ before, sp p.block = true) → DataW.TrodAll enc P W' 0 sp true f.params.toList args.toList (s.fn H (ds ++ gs)).args pa)
    (hvars : ∀ sp : Nat → Bool, (∀ p ∈ before, sp p.block = true) → DataW.TrodVars enc P W' sp s.vars (s.fn H (ds ++ gs)).vars pv)
    (hps : before = pa ++ pv) (hb : Below W.heap.size W W')
    (hok : ∀ (j : Nat) (t : TypeId) (r : Value), f.resultTypes[j]? = some t → (v.resultList f.resultTypes.size)[j]? = some r → Value.okWide P W' .any 0 t r) :
    s.post enc P f apart fresh handsOn again W args v W' := by
  have hlt : ∀ p ∈ before, p.block < W.heap.size := fun p hp => hW.lt p hp
  have hold : ∀ p ∈ before, (fun b => decide (b < W.heap.size)) p.block = true := fun p hp => by simpa using hlt p hp
  refine ⟨ds, gs, before, [], pa, pv, hW, hres _ _ _, hargs _ hold, hvars _ hold, World.keptBut_mono (fun p hp => ⟨hp, ?_⟩) (hb.frame (· ∈ before)), fun _ => ?_⟩
  · rw [hps, List.mem_append] at hp
    exact Or.inr hp
  · obtain ⟨_, _, _, _, _, hz, hn⟩ := hW
    refine ⟨hok, _, _, ([] ++ pa) ++ pv, ⟨[] ++ pa, pv, trodAll_append (hargs _ (fun _ _ => rfl)) (hres _ _ _), hvars _ (fun _ _ => rfl), rfl, ?_, ?_⟩, ?_⟩
    · intro b off hp
      have hin : MemPlace.cell b off ∈ before := by rw [hps]; simpa using hp
      rw [hb.frozen (hlt _ hin)]
      exact hz b off hin
    · intro ha
      have := hn ha
      rw [hps] at this
      simpa using this
    · intro p hp _
      rw [hps]
      simpa using hp
end
end Go.Abs
