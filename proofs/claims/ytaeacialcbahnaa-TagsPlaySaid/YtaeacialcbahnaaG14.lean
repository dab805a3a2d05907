/-
  Texts MC, Tk, one behind the other.
-/
import Derived.Test.YtaeacialcbahnaaG13
import Derived.Handed
/-
  Own layer, part C: what comes in, with the sizes of its texts: a text is no longer than the weights of the argument say.
-/


namespace Go.Abs
open Go.RowKit Go.ChangeShapes Go.WideShapes
set_option linter.unusedVariables false

def OpensZ (P : Program) (N : Nat) (t : TypeId) {α : Type} (av : α → AV) (ok : α → Prop) : Prop :=
  ∀ {H : Type} (enc : TypeId × Value → H) (w : World) (fuel : Nat) (cs : List Value) (x : DataW H × List MemPlace), DataW.trod enc P w 0 (fun _ => true) true fuel t cs = some x → (∀ n ∈ DataW.weights P t x.1, n ≤ N) → ∃ a : α, ok a ∧ TR (gTop w) w (av a).cells cs.toArray

section
variable {P : Program} {N : Nat} {t : TypeId} {α β : Type} {av : α → AV} {ok : α → Prop}
theorem Opens.z (h : Opens P t av ok) : OpensZ P N t av ok := fun enc w fuel cs x hx _ => h enc w fuel cs x hx
theorem opensZ_string (h : isStr P t = true) : OpensZ P N t (fun s : ByteArray => .raw (.string s)) (fun s => s.size ≤ N) := by
  intro H enc w fuel cs x hx hz
  obtain ⟨s, rfl, rfl, hs⟩ := DataW.trod_string (und_of_isStr h) hx
  exact ⟨s, by have := hz s.data.toList.length (by simp [DataW.weights]); simpa using this, TR.one (.raw _)⟩
theorem weightsAll_mem {H : Type} {e : TypeId} {l : List (DataW H)} {d : DataW H} (h : d ∈ l) : ∀ n ∈ DataW.weights P e d, n ∈ DataW.weightsAll P e l := by
  induction l with
  | nil => cases h
  | cons x r ih =>
    intro n hn
    simp only [DataW.weightsAll, List.mem_append]
    rcases List.mem_cons.1 h with rfl | h
    · exact .inl hn
    · exact .inr (ih h n hn)
theorem weightsEach_mem {H : Type} : ∀ {ts : List TypeId} {l : List (DataW H)} {i : Nat} {e : TypeId} {d : DataW H}, ts[i]? = some e → l[i]? = some d → ∀ n ∈ DataW.weights P e d, n ∈ DataW.weightsEach P ts l
  | [], _, i, e, d, h, _ => by simp at h
  | _ :: _, [], i, e, d, _, h => by simp at h
  | t :: ts, x :: r, 0, e, d, h, h2 => by
    intro n hn
    simp at h h2; subst h; subst h2
    simp only [DataW.weightsEach, List.mem_append]; exact .inl hn
  | t :: ts, x :: r, i + 1, e, d, h, h2 => by
    intro n hn
    simp only [DataW.weightsEach, List.mem_append]; exact .inr (weightsEach_mem (by simpa using h) (by simpa using h2) n hn)

theorem opensZ_slice {e sz : Nat} (h : slE P t = some e) (hs : szT P e = some sz) (h0 : 0 < sz) (he : OpensZ P N e av ok) (hc : ∀ a, (av a).cells.length = sz) :
    OpensZ P N t (fun l : List α => .sl sz none (l.map av)) (fun l => l.length ≤ maxLen ∧ ∀ a ∈ l, ok a) := by
  intro H enc w fuel cs x hx hz
  rcases DataW.trod_slice (und_of_slE h) hx with ⟨rfl, _⟩ | ⟨a, len, cap, elems, rest, n, _, rfl, rfl, _, hl, hm, hlen, hel, _⟩
  · exact ⟨[], ⟨Nat.zero_le _, by simp⟩, TR.one (.slnil h0)⟩
  · rw [cellsOf_szT hs] at hel
    have each : ∀ i, i < len → ∃ b : α, ok b ∧ ∃ us : List Value, us.length = sz ∧ (∀ k, k < sz → w.cell? ((a.add (i * sz)).add k) = us[k]?) ∧ TR (gTop w) w (av b).cells us.toArray := by
      intro i hi
      have h1 := hel i hi
      have hei : elems[i]? = some (elems[i]'(by omega)) := List.getElem?_eq_getElem (by omega)
      rw [hei, Option.bind_eq_some_iff] at h1
      obtain ⟨us, h2, h3⟩ := h1
      obtain ⟨_, h4, h5⟩ := World.cells?_some h2
      obtain ⟨b, h6, h7⟩ := he enc w n us _ h3 (fun m hm => hz m (by
        simp only [DataW.weights, und_of_slE h, List.mem_cons, List.mem_append]
        exact .inr (.inl (weightsAll_mem (List.mem_map_of_mem (List.getElem_mem _)) m hm))))
      exact ⟨b, h6, us, h4, h5, h7⟩
    obtain ⟨l, hll, hl2⟩ := choose_list len each
    refine ⟨l, ⟨by omega, fun b hb => ?_⟩, TR.one ?_⟩
    · obtain ⟨i, hi⟩ := List.getElem?_of_mem hb
      exact (hl2 i b hi).1
    · rcases Nat.eq_zero_or_pos len with hz | hpos
      · subst hz
        have : l = [] := List.eq_nil_of_length_eq_zero hll
        subst this
        exact .slzero hm h0
      · have ha : a.spot = none := by
          obtain ⟨_, _, us, h4, h5, _⟩ := each 0 hpos
          have := h5 0 h0
          rw [List.getElem?_eq_getElem (by omega)] at this
          simp only [Nat.zero_mul, Addr.add_zero'] at this
          exact spot_none this
        obtain ⟨b, off, sp⟩ := a
        simp only at ha
        subst ha
        have hcell : ∀ (i : Nat) (x : α) (k : Nat) (y : AV), l[i]? = some x → (av x).cells[k]? = some y → ∃ u, w.cell? ⟨b, off + i * sz + k, none⟩ = some u ∧ VR (gTop w) w y u := by
          intro i x k y hi hk
          obtain ⟨_, us, h4, h5, h6⟩ := hl2 i x hi
          have hks : k < sz := by rw [← hc x]; exact lt_of_get hk
          have h7 := h5 k hks
          rw [Addr.add_lit, Addr.add_lit] at h7
          refine ⟨us[k]'(by omega), by rw [h7, List.getElem?_eq_getElem (by omega)], ?_⟩
          have := h6.get k y hk
          have h8 : us.toArray.getD k undef = us[k]'(by omega) := by
            have : us[k]? = some (us[k]'(by omega)) := List.getElem?_eq_getElem (by omega)
            simp [Array.getD_eq_getD_getElem?, this]
          rw [h8] at this; exact this
        refine VR.sl_mk (by simp [hll]) (by simp [hll, hl]) hm h0 (fun i x hi => ?_) (fun i x k y hi hk => ?_) ?_ (fun t ht => by cases ht)
        · rw [List.getElem?_map] at hi
          cases hx : l[i]? with
          | none => simp [hx] at hi
          | some z => simp [hx] at hi; subst hi; exact hc z
        · rw [List.getElem?_map] at hi
          cases hx : l[i]? with
          | none => simp [hx] at hi
          | some z => simp [hx] at hi; subst hi; exact hcell i z k y hx hk
        · obtain ⟨m, rfl⟩ : ∃ m, len = m + 1 := ⟨len - 1, by omega⟩
          have hx : l[m]? = some (l[m]'(by omega)) := List.getElem?_eq_getElem (by omega)
          have hk : (av (l[m]'(by omega))).cells[sz - 1]? = some ((av (l[m]'(by omega))).cells[sz - 1]'(by rw [hc]; omega)) := List.getElem?_eq_getElem (by rw [hc]; omega)
          obtain ⟨u, h1, _⟩ := hcell m _ (sz - 1) _ hx hk
          have := cell_lt h1
          simp only [List.length_map, hll, Nat.add_mul]
          omega

def OpensZF (P : Program) (N : Nat) (t : TypeId) (_ off : Nat) {α : Type} (avs : α → List AV) (ok : α → Prop) : Prop :=
  ∀ {H : Type} (enc : TypeId × Value → H) (w : World) (fuel : Nat) (cs : List Value) (x : DataW H × List MemPlace), DataW.trod enc P w 0 (fun _ => true) true fuel t cs = some x → (∀ n ∈ DataW.weights P t x.1, n ≤ N) → ∃ a : α, ok a ∧ TR (gTop w) w (avs a) (cs.drop off).toArray

theorem opensZF_nil {i off f0 o0 : Nat} {t0 : TypeId} (hf : fldT P t f0 = some (o0, t0)) (h : szT P t = some off) : OpensZF P N t i off (fun _ : Unit => []) (fun _ => True) :=
  fun enc w fuel cs x hx _ => opensF_nil (i := i) hf h enc w fuel cs x hx

theorem opensZF_cons {i off sz : Nat} {ft : TypeId} {avs : β → List AV} {ok' : β → Prop} (hf : fldT P t i = some (off, ft)) (hs : szT P ft = some sz) (h : OpensZ P N ft av ok) (hr : OpensZF P N t (i + 1) (off + sz) avs ok') :
    OpensZF P N t i off (fun p : α × β => (av p.1).cells ++ avs p.2) (fun p => ok p.1 ∧ ok' p.2) := by
  intro H enc w fuel cs x hx hz
  obtain ⟨b, hb1, hb2⟩ := hr enc w fuel cs x hx hz
  obtain ⟨fs, f, hu, hfi, rfl, rfl⟩ := und_of_fldT hf
  obtain ⟨xs, n, _, rfl, hl, hlen, hel⟩ := DataW.trod_struct hu hx
  have h1 := hel i f hfi
  have hi : i < xs.length := by
    rw [hlen]
    rcases Nat.lt_or_ge i fs.size with h' | h'
    · exact h'
    · rw [Array.getElem?_eq_none h'] at hfi; cases hfi
  rw [List.getElem?_eq_getElem hi, cellsOf_szT hs] at h1
  obtain ⟨a, ha1, ha2⟩ := h enc w n _ _ h1 (fun m hm => hz m (by
    simp only [DataW.weights, hu]
    exact weightsEach_mem (i := i) (e := f.type) (d := (xs[i]).1) (by simp [hfi]) (by simp [hi]) m hm))
  refine ⟨(a, b), ⟨ha1, hb1⟩, ?_⟩
  have := ha2.append hb2
  have e : ((cs.drop f.offset).take sz).toArray ++ (cs.drop (f.offset + sz)).toArray = (cs.drop f.offset).toArray := by
    rw [List.append_toArray]
    congr 1
    rw [← List.drop_drop]
    exact List.take_append_drop _ _
  rw [e] at this
  exact this

theorem opensZ_struct {avs : α → List AV} (h : OpensZF P N t 0 0 avs ok) : OpensZ P N t (fun a => .agg (avs a)) ok := by
  intro H enc w fuel cs x hx hz
  obtain ⟨a, h1, h2⟩ := h enc w fuel cs x hx hz
  exact ⟨a, h1, by simpa [AV.cells] using h2⟩

/-- A parameter of one cell. -/
theorem OpensZ.one {H : Type} {enc : TypeId × Value → H} {w : World} {v : Value} {d : DataW H} {ps : List MemPlace} (h : OpensZ P N t av ok) (hc : ∀ a, (av a).cells = [av a]) (hv : v.cells = #[v]) (hd : DataW.Trod enc P w 0 (fun _ => true) true t v d ps) (hz : ∀ n ∈ DataW.weights P t d, n ≤ N) : ∃ a, ok a ∧ VR (gTop w) w (av a) v := by
  obtain ⟨fuel, hf⟩ := hd
  obtain ⟨a, h1, h2⟩ := h enc w fuel _ _ hf hz
  refine ⟨a, h1, ?_⟩
  rw [hv, hc a] at h2
  simpa using h2.get 0 (av a) rfl
theorem weights_at {H : Type} {ts : List TypeId} {l : List (DataW H)} (h : (DataW.weightsEach P ts l).all (· ≤ N) = true) {i : Nat} {e : TypeId} {d : DataW H} (h1 : ts[i]? = some e) (h2 : l[i]? = some d) : ∀ n ∈ DataW.weights P e d, n ≤ N :=
  fun n hn => by simpa using List.all_eq_true.1 h n (weightsEach_mem h1 h2 n hn)
end

/-- As 'returnsInHanded_of_change', and the weights of the arguments are told. -/
theorem returns_sized {H : Type} {enc : TypeId × Value → H} {a : Assume} {C : Checked} {os : Os} {f : FuncId} {fn : Func} {s : ChangeSpec} {conds : List PathCond} {apart fresh handsOn again : Bool}
    (own : ownKnob C.prog.godebug = none) (started : os.Started) (noInit : C.prog.inits.idxOf? f = none) (hfn : C.prog.funcs[f]? = some fn)
    (witness : ∃ (w : World) (tape : Tape) (i : Input), w.os = os ∧ (w.forCall tape i).Shaped C.prog ∧ i.vars = [] ∧ Input.okWide C.prog (w.forCall tape i) .any w.heap.size f i ∧
      s.pre6 enc C.prog fn conds apart (w.forCall tape i).memory i.args ∧ a.holds C.prog (lone (Frame.enter C.prog f i.args .normal) [] (w.forCall tape i)))
    (contract : ∀ (W : World) (base : Nat) (args : Array Value) (ds gs : List (DataW H)) (before : List MemPlace),
      (∀ (j : Nat) t v, fn.params[j]? = some t → args[j]? = some v → Value.okWide C.prog W .any base t v) →
      DataW.Whole enc C.prog fn.params.toList s.vars apart W args.toList ds gs before →
      (DataW.weightsEach C.prog (fn.params.toList ++ s.plain.varTypes C.prog) (ds ++ gs)).all (· ≤ reachBytes) = true →
      conds.all (PathCond.test C.prog ⟨fn.params.toList, ds, s.plain.varTypes C.prog, gs⟩) = true →
      a.holds C.prog (lone (Frame.enter C.prog f args .normal) [] W) →
      Calls C.prog f args W fun e W' => ∃ v, e = .returned v ∧ s.post enc C.prog fn apart fresh handsOn again W args v W') :
    ReturnsInHanded a C os f .any (s.pre6 enc C.prog fn conds apart) (s.post enc C.prog fn apart fresh handsOn again) := by
  refine returnsInHanded_of_calls own started noInit witness ?_
  intro w tape i _ _ _ hok hpre hholds
  obtain ⟨_, _, _, fn', hfn', _, _, _, _, hval⟩ := hok
  have e : fn' = fn := Option.some.inj (hfn'.symm.trans hfn)
  subst e
  obtain ⟨⟨ds, gs, before, hw, hc⟩, hz⟩ := hpre
  have hw' := DataW.Whole.of_heap (w' := w.forCall tape i) (by rfl) hw
  refine (contract (w.forCall tape i) w.heap.size i.args ds gs before hval hw' (hz.weights hw) hc hholds).mono fun e W' ⟨v, he, hp⟩ => ?_
  subst he
  exact ChangeSpec.post_blind hp
end Go.Abs
/-
  The law TagsPlay.
-/



namespace Go.Proofs.Ytaeacialcbahnaa
open Go.Abs
set_option linter.unusedVariables false
set_option linter.unusedSimpArgs false
-- hb: 8000000
-- rd: 20000
variable {κ : Ctx} {σ : List Res} {K : Ret → List Res → Prop} {o o' : Option (Option (Nat × Nat))}
set_option maxHeartbeats 8000000 in
set_option maxRecDepth 20000 in
theorem rot4 {a b c d : Res} : [a, b, c, d].Perm [d, a, b, c] := List.perm_append_comm (l₁ := [a, b, c]) (l₂ := [d])
set_option maxHeartbeats 8000000 in
set_option maxRecDepth 20000 in
theorem rot5 {a b c d e : Res} : [a, b, c, d, e].Perm [e, a, b, c, d] := List.perm_append_comm (l₁ := [a, b, c, d]) (l₂ := [e])
set_option maxHeartbeats 8000000 in
set_option maxRecDepth 20000 in
theorem rot6 {a b c d e f : Res} : [a, b, c, d, e, f].Perm [e, f, a, b, c, d] := List.perm_append_comm (l₁ := [a, b, c, d]) (l₂ := [e, f])
set_option maxHeartbeats 8000000 in
set_option maxRecDepth 20000 in
theorem obj_nil {b sz : Nat} (h : 0 < sz) {σ : List Res} : ResW (.obj b [nilS] :: σ) (.tip none :: .obj b [.sl sz (some none) []] :: σ) := by
  refine ResW.trans ?_ ResW.void
  intro κ φ g w hR
  have hp := hR.perm List.perm_middle
  obtain ⟨hg, arr, t, hb, ht⟩ := hp.holds _ (List.mem_cons_self ..)
  refine Rel.perm (σ := .obj b [.sl sz (some none) []] :: (φ ++ σ)) ⟨hp.below, hp.hB, hp.nodup, ?_, ?_, hp.new⟩ List.perm_middle.symm
  · intro r hr
    rcases List.mem_cons.1 hr with rfl | hr
    · exact hp.bnd (.obj b [nilS]) (List.mem_cons_self ..)
    · exact hp.bnd r (List.mem_cons_of_mem _ hr)
  · intro r hr
    rcases List.mem_cons.1 hr with rfl | hr
    · refine ⟨hg, arr, t, hb, ⟨ht.size, fun k x hk => ?_⟩⟩
      match k, hk with
      | 0, hk =>
        simp at hk; subst hk
        have := (ht.get 0 nilS rfl).raw_eq
        rw [this]; exact .slnil h
      | k + 1, hk => simp at hk
    · exact hp.holds r (List.mem_cons_of_mem _ hr)
set_option maxHeartbeats 8000000 in
set_option maxRecDepth 20000 in
theorem ACallF.re {P : Program} {f : FuncId} {args : List AV} {σ σ2 : List Res} {K : Ret → List Res → Prop} (p : σ.Perm σ2) (h : ACallF κ P f args σ2 K) : ACallF κ P f args σ K := ACallF.perm p h

abbrev PP := ByteArray × ByteArray × Unit
abbrev PA (e : PP) : AV := .agg [.raw (.string e.1), .raw (.string e.2.1)]
set_option maxHeartbeats 8000000 in
set_option maxRecDepth 20000 in
theorem getPA {l : List PP} {k : Nat} (h : k < l.length) : (l.map PA).getD k .any = PA (l.getD k (ByteArray.empty, ByteArray.empty, ())) := by
  simp [List.getD_eq_getElem?_getD, h]
set_option maxHeartbeats 8000000 in
set_option maxRecDepth 20000 in
theorem getST {l : List ByteArray} {k : Nat} (h : k < l.length) : (l.map fun s => (.raw (.string s) : AV)).getD k .any = .raw (.string (l.getD k ByteArray.empty)) := by
  simp [List.getD_eq_getElem?_getD, h]
def xB : ByteArray := { data := #[120] }
set_option maxHeartbeats 8000000 in
set_option maxRecDepth 20000 in
theorem lt_x : ({ data := #[120] } : ByteArray) = xB := rfl
set_option maxHeartbeats 8000000 in
set_option maxRecDepth 20000 in
theorem look_mem {l : MapL} {h p : ByteArray} (hl : lookL l h = some p) : ∃ e ∈ l, e.2.1 = p := by
  induction l with
  | nil => cases hl
  | cons e l ih =>
    unfold lookL at hl
    split at hl
    · exact ⟨e, List.mem_cons_self .., Option.some.inj hl⟩
    · obtain ⟨x, hx, hp⟩ := ih hl; exact ⟨x, List.mem_cons_of_mem _ hx, hp⟩
set_option maxHeartbeats 8000000 in
set_option maxRecDepth 20000 in
theorem preM_size {l : MapL} (hl : ∀ e ∈ l, e.2.1.size ≤ 140737488355328) (h : ByteArray) : (preM l h).1.size ≤ 1152921504606846976 := by
  unfold preM
  cases hq : lookL l h with
  | none => have := pre0_size h; simp only; omega
  | some p => obtain ⟨e, he, hp⟩ := look_mem hq; have := hl e he; rw [hp] at this; simp only; omega
set_option maxHeartbeats 8000000 in
set_option maxRecDepth 20000 in
theorem whole_nil (s : ByteArray) : wholeM [] s = whole0 s := rfl

set_option maxHeartbeats 8000000 in
set_option maxRecDepth 20000 in
theorem rotc4 {a b c d : Res} : [a, b, c, d].Perm [c, a, b, d] := (List.perm_append_comm (l₁ := [a, b]) (l₂ := [c])).append_right [d]
set_option maxHeartbeats 8000000 in
set_option maxRecDepth 20000 in
theorem rotb4 {a b c d : Res} : [a, b, c, d].Perm [b, c, a, d] := (List.perm_append_comm (l₁ := [a]) (l₂ := [b, c])).append_right [d]
set_option maxHeartbeats 8000000 in
set_option maxRecDepth 20000 in
theorem rotc6 {a b c d e f : Res} : [a, b, c, d, e, f].Perm [c, d, a, b, e, f] := (List.perm_append_comm (l₁ := [a, b]) (l₂ := [c, d])).append_right [e, f]
/-- The scopes: of the program, of the program beside it, of the reference. -/
def sgR (br bs bo : Nat) : Option (Nat × Nat × Option (Nat × Nat) × MapL × Nat) → List Res
  | none => [.tip none, .obj br [.sl 2 (some none) (([] : MapL).map HP)], .obj bs [.raw (.map none)], .obj bo [.raw (.map none)]]
  | some (ms, mo, tk, L, c) => [.tip tk, .obj br [.sl 2 (some tk) (L.map HP)], .blk ms (mapO L c), .obj bs [.raw (.map (some ms))], .blk mo (mapO [(bangB, xB, 0)] 1), .obj bo [.raw (.map (some mo))]]
def CR (n : Nat) : Nat × Option (Nat × Nat × Option (Nat × Nat) × MapL × Nat) → Prop
  | (i, none) => i = 0
  | (i, some (_, _, _, L, _)) => i ≤ n ∧ L.length ≤ i ∧ ∀ e ∈ L, e.2.1.size ≤ 140737488355328

-- tags.Scope).Whole
set_option maxHeartbeats 8000000 in
set_option maxRecDepth 20000 in
theorem tWholeE {s : ByteArray} {b : Nat} (hs : (s.toList == ({ data := #[] } : ByteArray).toList) = true) (hK : K (.ret (.tup [.raw (.string s), I 0])) σ) : ACallF κ Try.prog 25 [.raw (.pointer (some ⟨b, 0, none⟩)), .raw (.string s)] σ K := by
  refine ACallF.dropL (ACallF_intro Try.func25 rfl ?_)
  simp only [Try.ntmps25]
  repeat' (first
    | simp only [WL, intF, strF, WM, Int.reduceToNat, ne_eq, reduceCtorEq, not_false_eq_true, Nat.reduceAdd, Nat.reduceSub, Nat.reduceLT, Nat.reduceLeDiff, Nat.reduceEqDiff, Bool.not_true, Bool.not_false, beq_self_eq_true, true_and, and_true, reduceIte, Bool.false_eq_true, T3, T4, T5, T9, T40, T42, T50, T86, cok56, cok57, cok58, cok59, Try.results25, hs]
    | simp (disch := first | omega | (simp only [LN_]; omega)) only [wrap_id, getI]
    | with_reducible first | refine andA (hb := ?_) | refine cD (tTold ?_ ?_) | refine cD (sCutP ?_) | refine cD (sIndexB ?_) | refine cD (tPrefix0 ?_) | refine cD (tPrefix0 ?_) | refine cD (tPrefixM ?_)
    | with_reducible refine y_nil (hK := ?_)
    | (with_reducible refine nilTC_split (fun h => ?_) (fun h bn => ?_) <;> (try simp only [List.length_map] at h))
    | ((with_reducible first | refine grd_cases (fun h => ?_) (fun h => ?_) | refine condC_split (fun h => ?_) (fun h => ?_)) <;> (try simp only [h]) <;> (try simp only [NR_, Bool.not_true, Bool.not_false, Bool.not_eq_eq_eq_not, ne_eq] at h))
    | omega | (simp only [LN_]; omega))
  all_goals exact leafL sub_rfl (leT_eq rfl) hK
-- marginaliaref13.Scope).Whole
set_option maxHeartbeats 8000000 in
set_option maxRecDepth 20000 in
theorem rWholeE {s : ByteArray} {b : Nat} (hs : (s.toList == ({ data := #[] } : ByteArray).toList) = true) (hK : K (.ret (.tup [.raw (.string s), I 0])) σ) : ACallF κ Try.prog 26 [.raw (.pointer (some ⟨b, 0, none⟩)), .raw (.string s)] σ K := by
  refine ACallF.dropL (ACallF_intro Try.func26 rfl ?_)
  simp only [Try.ntmps26]
  repeat' (first
    | simp only [WL, intF, strF, WM, Int.reduceToNat, ne_eq, reduceCtorEq, not_false_eq_true, Nat.reduceAdd, Nat.reduceSub, Nat.reduceLT, Nat.reduceLeDiff, Nat.reduceEqDiff, Bool.not_true, Bool.not_false, beq_self_eq_true, true_and, and_true, reduceIte, Bool.false_eq_true, T3, T4, T5, T9, T43, T44, T46, T88, cok60, cok61, Try.results26, hs]
    | simp (disch := first | omega | (simp only [LN_]; omega)) only [wrap_id, getI]
    | with_reducible first | refine andA (hb := ?_) | refine cD (rTold ?_ ?_) | refine cD (rFind ?_ ?_)
    | with_reducible refine y_nil (hK := ?_)
    | (with_reducible refine nilTC_split (fun h => ?_) (fun h bn => ?_) <;> (try simp only [List.length_map] at h))
    | ((with_reducible first | refine grd_cases (fun h => ?_) (fun h => ?_) | refine condC_split (fun h => ?_) (fun h => ?_)) <;> (try simp only [h]) <;> (try simp only [NR_, Bool.not_true, Bool.not_false, Bool.not_eq_eq_eq_not, ne_eq] at h))
    | omega | (simp only [LN_]; omega))
  all_goals exact leafL sub_rfl (leT_eq rfl) hK
set_option maxHeartbeats 8000000 in
set_option maxRecDepth 20000 in
theorem idx_b {s : ByteArray} (h : s.size ≤ 200) : -1 ≤ idxB (s.extract 1 s.size) 33 ∧ idxB (s.extract 1 s.size) 33 ≤ 1000000 := by
  have h1 := idxB_lt (s.extract 1 s.size) 33
  have h2 := z_ext (s := s) 1
  exact ⟨h1.1, by omega⟩
set_option maxHeartbeats 8000000 in
set_option maxRecDepth 20000 in
theorem size_pos {s : ByteArray} (h : (s.toList == ({ data := #[] } : ByteArray).toList) = false) : 1 ≤ s.size := by
  rcases Nat.eq_zero_or_pos s.size with h1 | h1
  · have : s = ByteArray.empty := ByteArray.size_eq_zero_iff.mp h1
    subst this
    revert h; decide +kernel
  · exact h1
set_option maxHeartbeats 8000000 in
set_option maxRecDepth 20000 in
theorem rSetN {h p : ByteArray} {b : Nat} {tk : Option (Nat × Nat)} (hK : ∀ tk', K (.ret (B true)) (.tip tk' :: .obj b [.sl 2 (some tk') [HP (h, p, 0)]] :: σ)) : ACallF κ Try.prog 24 [.raw (.pointer (some ⟨b, 0, none⟩)), .raw (.string h), .raw (.string p)] (.tip tk :: .obj b [.sl 2 (some tk) []] :: σ) K :=
  rSet (l := []) (c := 0) (by simp) (fun tk' _ => hK tk') (fun e => by cases e)
set_option maxHeartbeats 8000000 in
set_option maxRecDepth 20000 in
theorem rWholeN {s : ByteArray} {b : Nat} {tk : Option (Nat × Nat)} (hs : s.size ≤ 1000000) (hK : K (.ret (.tup [.raw (.string (whole0 s).1), I (whole0 s).2])) (.tip tk :: .obj b [.sl 2 (some tk) []] :: σ)) : ACallF κ Try.prog 26 [.raw (.pointer (some ⟨b, 0, none⟩)), .raw (.string s)] (.tip tk :: .obj b [.sl 2 (some tk) []] :: σ) K :=
  rWhole (l := []) (by simp) (preM_size (by simp)) hs hK

-- marginalialaw16.TagsPlay
set_option maxHeartbeats 8000000 in
set_option maxRecDepth 20000 in
theorem law_TagsPlay (κ : Ctx) (l : List PP) (hl : l.length ≤ maxLen ∧ ∀ a ∈ l, a.1.size ≤ reachBytes ∧ a.2.1.size ≤ reachBytes ∧ True) (names : List ByteArray) (hn : names.length ≤ maxLen ∧ ∀ a ∈ names, a.size ≤ reachBytes) :
    ACallF κ Try.prog 7 [.sl 2 none (l.map PA), .sl 1 none (names.map fun s => .raw (.string s))] [] (fun r _ => r = .ret (B true)) := by
  have hw : ∀ a ∈ l, a.2.1.size ≤ 140737488355328 := fun a ha => Nat.le_trans (hl.2 a ha).2.1 (by decide)
  have hl0 := hl.1
  have hn0 := hn.1
  clear hl hn
  by_cases hbig : 20 < l.length ∨ 20 < names.length
  · skip
    refine ACallF.dropL (ACallF_introA Try.func7 rfl ?_)
    simp only [Try.ntmps7]
    repeat' (first
      | with_reducible first | refine AW_seqA (AW_block ?_) | refine AW_block ?_ | refine cut_seqloop ?_ | refine cut_loop ?_ | refine AW_seqA (AW_seqA ?_) | refine AW_seq ?_ | refine AW_runReg ?_ | refine AW_runCond ?_ | refine AW_runExit ?_ | refine AW_runRet ?_ | refine AW_runSkip ?_ | refine AW_runLabel ?_
      | simp only [WL, intF, strF, WM, Int.reduceToNat, ne_eq, reduceCtorEq, not_false_eq_true, Nat.reduceAdd, Nat.reduceSub, Nat.reduceLT, Nat.reduceLeDiff, Nat.reduceEqDiff, Bool.not_true, Bool.not_false, beq_self_eq_true, true_and, and_true, reduceIte, Bool.false_eq_true, T3, T4, T9, T37, T39, T40, T42, T43, T44, T46, T49, T50, T88, fC fl49_0, fR fl49_0, fC fl49_1, fR fl49_1, cok22, cok23, cok24, cok25, cok26, cok27, Try.results7]
      | simp (disch := first | omega | (simp only [LN_]; omega)) only [wrap_id, getI]
      | with_reducible first | refine andA (hb := ?_) | refine y_load (hK := ?_) | refine y_box (hK := fun b => ?_) | refine y_new (hK := fun b => ?_) | refine y_build (hK := ?_) | refine cQ (lAlive16 isR_mk) ?_ | refine cD (lAlive16 ?_) | refine cD (tSet0 (fun mb => ?_)) | refine cQ (tSet ?_ isR_mk) ?_ | refine cD (tSet ?_ ?_) | refine cD (rSet0 (fun tk => ?_)) | refine cQ (rSet ?_ (fun tk => ?_) isR_mk) ?_ | refine cD (rSet ?_ (fun tk => ?_) ?_) | refine cQ (tWhole0 ?_ ?_ ?_ isR_mk) ?_ | refine cD (tWhole0 ?_ ?_ ?_ ?_) | refine cQ (tWhole0 ?_ ?_ ?_ isR_mk) ?_ | refine cD (tWhole0 ?_ ?_ ?_ ?_) | refine cQ (tWholeM ?_ ?_ ?_ ?_ isR_mk) ?_ | refine cD (tWholeM ?_ ?_ ?_ ?_ ?_) | refine cQ (tWholeE ?_ isR_mk) ?_ | refine cD (tWholeE ?_ ?_) | refine cQ (rWhole ?_ ?_ ?_ isR_mk) ?_ | refine cD (rWhole ?_ ?_ ?_ ?_) | refine cQ (rWholeE ?_ isR_mk) ?_ | refine cD (rWholeE ?_ ?_) | refine cQ (lNum isR_mk) ?_ | refine cD (lNum ?_)
      | ((with_reducible refine AW_drawM (id := 11) 24 mixed ?_ ?_); kernel_rfl)
      | (with_reducible refine dmQ_mk ?_)
      | with_reducible refine y_nil (hK := ?_)
      | (with_reducible refine nilTC_split (fun h => ?_) (fun h bn => ?_) <;> (try simp only [List.length_map] at h))
      | ((with_reducible first | refine grd_cases (fun h => ?_) (fun h => ?_) | refine condC_split (fun h => ?_) (fun h => ?_)) <;> (try simp only [h]) <;> (try simp only [NR_, Bool.not_true, Bool.not_false, Bool.not_eq_eq_eq_not, ne_eq] at h))
      | omega | (simp only [LN_]; omega))
    all_goals first
      | exact leafLaw rfl
      | exact absurd trivial (by assumption)
      | (exfalso; omega)
      | trace_state
  have hl1 : l.length ≤ 20 := by omega
  have hn1 : names.length ≤ 20 := by omega
  clear hl0 hn0 hbig
  refine ACallF.dropL (ACallF_introA Try.func7 rfl ?_)
  simp only [Try.ntmps7]
  repeat' (first
    | with_reducible first | refine AW_seqA (AW_block ?_) | refine AW_block ?_ | refine cut_seqloop ?_ | refine cut_loop ?_ | refine AW_seqA (AW_seqA ?_) | refine AW_seq ?_ | refine AW_runReg ?_ | refine AW_runCond ?_ | refine AW_runExit ?_ | refine AW_runRet ?_ | refine AW_runSkip ?_ | refine AW_runLabel ?_
    | simp only [WL, intF, strF, WM, Int.reduceToNat, ne_eq, reduceCtorEq, not_false_eq_true, Nat.reduceAdd, Nat.reduceSub, Nat.reduceLT, Nat.reduceLeDiff, Nat.reduceEqDiff, Bool.not_true, Bool.not_false, beq_self_eq_true, true_and, and_true, reduceIte, Bool.false_eq_true, T3, T4, T9, T37, T39, T40, T42, T43, T44, T46, T49, T50, T88, fC fl49_0, fR fl49_0, fC fl49_1, fR fl49_1, cok22, cok23, cok24, cok25, cok26, cok27, Try.results7]
    | simp (disch := first | omega | (simp only [LN_]; omega)) only [wrap_id, getI]
    | with_reducible first | refine andA (hb := ?_) | refine y_load (hK := ?_) | refine y_box (hK := fun b => ?_) | refine y_new (hK := fun b => ?_) | refine y_build (hK := ?_) | refine cQ (lAlive16 isR_mk) ?_ | refine cD (lAlive16 ?_) | refine cD (tSet0 (fun mb => ?_)) | refine cQ (tSet ?_ isR_mk) ?_ | refine cD (tSet ?_ ?_) | refine cD (rSet0 (fun tk => ?_)) | refine cQ (rSet ?_ (fun tk => ?_) isR_mk) ?_ | refine cD (rSet ?_ (fun tk => ?_) ?_) | refine cQ (tWhole0 ?_ ?_ ?_ isR_mk) ?_ | refine cD (tWhole0 ?_ ?_ ?_ ?_) | refine cQ (tWhole0 ?_ ?_ ?_ isR_mk) ?_ | refine cD (tWhole0 ?_ ?_ ?_ ?_) | refine cQ (tWholeM ?_ ?_ ?_ ?_ isR_mk) ?_ | refine cD (tWholeM ?_ ?_ ?_ ?_ ?_) | refine cQ (tWholeE ?_ isR_mk) ?_ | refine cD (tWholeE ?_ ?_) | refine cQ (rWhole ?_ ?_ ?_ isR_mk) ?_ | refine cD (rWhole ?_ ?_ ?_ ?_) | refine cQ (rWholeE ?_ isR_mk) ?_ | refine cD (rWholeE ?_ ?_) | refine cQ (lNum isR_mk) ?_ | refine cD (lNum ?_)
    | ((with_reducible refine AW_drawM (id := 11) 24 mixed ?_ ?_); kernel_rfl)
    | (with_reducible refine dmQ_mk ?_)
    | with_reducible refine y_nil (hK := ?_)
    | (with_reducible refine nilTC_split (fun h => ?_) (fun h bn => ?_) <;> (try simp only [List.length_map] at h))
    | ((with_reducible first | refine grd_cases (fun h => ?_) (fun h => ?_) | refine condC_split (fun h => ?_) (fun h => ?_)) <;> (try simp only [h]) <;> (try simp only [NR_, Bool.not_true, Bool.not_false, Bool.not_eq_eq_eq_not, ne_eq] at h))
    | omega | (simp only [LN_]; omega))
  all_goals first
    | (exfalso; omega)
    | skip
  rename_i q1 bs bo
  refine loopA (fun x : Nat × Option (Nat × Nat × Option (Nat × Nat) × MapL × Nat) => ⟨(.sl 2 none (l.map PA) :: .sl 1 none (names.map fun s => .raw (.string s)) :: .any :: .any :: .any :: B true :: .raw (.pointer (some ⟨bs, 0, none⟩)) :: .raw (.pointer (some ⟨bo, 0, none⟩)) :: .raw (.pointer (some ⟨b, 0, none⟩)) :: I x.1 :: .any :: .any :: .any :: .any :: .any :: .any :: .any :: .any :: .any :: .any :: .any :: .any :: .any :: .any :: .any :: .any :: .any :: .any :: .any :: .any :: .any :: .any :: .any :: .any :: .any :: .any :: .any :: .any :: .any :: .any :: .any :: .any :: .any :: .any :: .any :: .any :: .any :: .any :: .any :: .any :: .any :: .any :: .any :: .any :: .any :: .any :: .any :: .any :: .any :: .any :: .any :: .any :: .any :: .any :: .any :: .any :: .any :: .any :: .any :: .any :: .any :: .any :: .any :: .any :: .any :: .any :: .any :: .any :: .any :: .any :: .any :: .any :: .any :: .any :: .any :: .any :: .any :: .any :: .any :: .any :: .any :: .any :: .any :: .any :: .any :: .any :: .any :: .any :: .any :: .any :: []), sgR b bs bo x.2, true, []⟩) (CR l.length) (fun x => l.length - x.1) (0, none) (St_leW (by repeat (first | exact trivial | refine ⟨le_rfl, ?_⟩ | refine ⟨le_any, ?_⟩ | refine ⟨le_ro, ?_⟩ | refine ⟨le_nil (by decide), ?_⟩ | refine ⟨le_wrap (by omega) (by omega) (by omega), ?_⟩ | refine ⟨le_int (by omega), ?_⟩ | refine ⟨le_eq (by simp), ?_⟩)) ((obj_nil (sz := 2) (by decide)).trans (ResW.perm (List.Perm.cons _ (List.Perm.cons _ (List.Perm.swap _ _ _))))) id) rfl ?_
  rintro ⟨i, _ | ⟨ms, mo, tk, L, c⟩⟩ hC
  · obtain rfl : i = 0 := hC
    simp only [sgR]
    rcases Nat.lt_or_ge 0 l.length with hlt | hge
    · have hwi := hw (l.getD 0 (ByteArray.empty, ByteArray.empty, ())) (by rw [List.getD_eq_getElem?_getD, List.getElem?_eq_getElem hlt]; exact List.getElem_mem hlt)
      repeat' (first
        | with_reducible first | refine AW_seqA (AW_block ?_) | refine AW_block ?_ | refine cut_seqloop ?_ | refine cut_loop ?_ | refine AW_seqA (AW_seqA ?_) | refine AW_seq ?_ | refine AW_runReg ?_ | refine AW_runCond ?_ | refine AW_runExit ?_ | refine AW_runRet ?_ | refine AW_runSkip ?_ | refine AW_runLabel ?_
        | simp only [WL, intF, strF, WM, Int.reduceToNat, ne_eq, reduceCtorEq, not_false_eq_true, Nat.reduceAdd, Nat.reduceSub, Nat.reduceLT, Nat.reduceLeDiff, Nat.reduceEqDiff, Bool.not_true, Bool.not_false, beq_self_eq_true, true_and, and_true, reduceIte, Bool.false_eq_true, T3, T4, T9, T37, T39, T40, T42, T43, T44, T46, T49, T50, T88, fC fl49_0, fR fl49_0, fC fl49_1, fR fl49_1, cok22, cok23, cok24, cok25, cok26, cok27, Try.results7, lt_b, lt_x]
        | simp (disch := first | omega | (simp only [LN_]; omega)) only [wrap_id, getI, getPA]
        | with_reducible first | refine andA (hb := ?_) | refine y_load (hK := ?_) | refine y_box (hK := fun b => ?_) | refine y_new (hK := fun b => ?_) | refine y_build (hK := ?_) | refine callD_mk (ACallF.re rot4 (tSet0 (b := bo) (fun mb => ?_))) | refine callD_mk (ACallF.re rot5 (tSet0 (b := bs) (fun mb => ?_))) | refine callD_mk (ACallF.re rot6 (rSetN (b := b) (fun tk' => ?_))) | refine cQ (lAlive16 isR_mk) ?_ | refine cD (lAlive16 ?_) | refine cD (tSet0 (fun mb => ?_)) | refine cQ (tSet ?_ isR_mk) ?_ | refine cD (tSet ?_ ?_) | refine cD (rSet0 (fun tk => ?_)) | refine cQ (rSet ?_ (fun tk => ?_) isR_mk) ?_ | refine cD (rSet ?_ (fun tk => ?_) ?_) | refine cQ (tWhole0 ?_ ?_ ?_ isR_mk) ?_ | refine cD (tWhole0 ?_ ?_ ?_ ?_) | refine cQ (tWhole0 ?_ ?_ ?_ isR_mk) ?_ | refine cD (tWhole0 ?_ ?_ ?_ ?_) | refine cQ (tWholeM ?_ ?_ ?_ ?_ isR_mk) ?_ | refine cD (tWholeM ?_ ?_ ?_ ?_ ?_) | refine cQ (tWholeE ?_ isR_mk) ?_ | refine cD (tWholeE ?_ ?_) | refine cQ (rWhole ?_ ?_ ?_ isR_mk) ?_ | refine cD (rWhole ?_ ?_ ?_ ?_) | refine cQ (rWholeE ?_ isR_mk) ?_ | refine cD (rWholeE ?_ ?_) | refine cQ (lNum isR_mk) ?_ | refine cD (lNum ?_)
        | ((with_reducible refine AW_phE (id := 11) [0, 1, 2, 3, 4, 5, 6, 7, 8, 9, 11, 12, 13, 14, 15, 16, 17, 18, 19, 20, 21] (some 10) [([], some 22), ([23], none)] (fun _ => True) trivial mixed ?_ ?_); kernel_rfl)
        | ((with_reducible apply phE_intro); intro σq hq)
        | (with_reducible exact isT_mk)
        | ((with_reducible apply phC_ops); rfl; rfl)
        | (with_reducible refine phQ_mk trivial ?_)
        | (with_reducible refine dmQ_mk ?_)
        | with_reducible refine y_nil (hK := ?_)
        | (with_reducible refine nilTC_split (fun h => ?_) (fun h bn => ?_) <;> (try simp only [List.length_map] at h))
        | ((with_reducible first | refine grd_cases (fun h => ?_) (fun h => ?_) | refine condC_split (fun h => ?_) (fun h => ?_)) <;> (try simp only [h]) <;> (try simp only [NR_, Bool.not_true, Bool.not_false, Bool.not_eq_eq_eq_not, ne_eq] at h))
        | omega | (simp only [LN_]; omega))
      all_goals first
        | exact ⟨(1, some (_, _, tk', [((l.getD 0 (ByteArray.empty, ByteArray.empty, ())).1, (l.getD 0 (ByteArray.empty, ByteArray.empty, ())).2.1, 0)], 1)), St_leW (by repeat (first | exact trivial | refine ⟨le_rfl, ?_⟩ | refine ⟨le_any, ?_⟩ | refine ⟨le_ro, ?_⟩ | refine ⟨le_nil (by decide), ?_⟩ | refine ⟨le_wrap (by omega) (by omega) (by omega), ?_⟩ | refine ⟨le_int (by omega), ?_⟩ | refine ⟨le_eq (by simp), ?_⟩)) (ResW.refl _) id, ⟨by omega, by simp, by intro e he; simp at he; subst he; exact hwi⟩, by dsimp only; omega⟩
        | (exfalso; omega)
        | trace_state
    · skip
      repeat' (first
        | with_reducible first | refine AW_seqA (AW_block ?_) | refine AW_block ?_ | refine cut_seqloop ?_ | refine cut_loop ?_ | refine AW_seqA (AW_seqA ?_) | refine AW_seq ?_ | refine AW_runReg ?_ | refine AW_runCond ?_ | refine AW_runExit ?_ | refine AW_runRet ?_ | refine AW_runSkip ?_ | refine AW_runLabel ?_
        | simp only [WL, intF, strF, WM, Int.reduceToNat, ne_eq, reduceCtorEq, not_false_eq_true, Nat.reduceAdd, Nat.reduceSub, Nat.reduceLT, Nat.reduceLeDiff, Nat.reduceEqDiff, Bool.not_true, Bool.not_false, beq_self_eq_true, true_and, and_true, reduceIte, Bool.false_eq_true, T3, T4, T9, T37, T39, T40, T42, T43, T44, T46, T49, T50, T88, fC fl49_0, fR fl49_0, fC fl49_1, fR fl49_1, cok22, cok23, cok24, cok25, cok26, cok27, Try.results7]
        | simp (disch := first | omega | (simp only [LN_]; omega)) only [wrap_id, getI]
        | with_reducible first | refine andA (hb := ?_) | refine y_load (hK := ?_) | refine y_box (hK := fun b => ?_) | refine y_new (hK := fun b => ?_) | refine y_build (hK := ?_) | refine cQ (lAlive16 isR_mk) ?_ | refine cD (lAlive16 ?_) | refine cD (tSet0 (fun mb => ?_)) | refine cQ (tSet ?_ isR_mk) ?_ | refine cD (tSet ?_ ?_) | refine cD (rSet0 (fun tk => ?_)) | refine cQ (rSet ?_ (fun tk => ?_) isR_mk) ?_ | refine cD (rSet ?_ (fun tk => ?_) ?_) | refine cQ (tWhole0 ?_ ?_ ?_ isR_mk) ?_ | refine cD (tWhole0 ?_ ?_ ?_ ?_) | refine cQ (tWhole0 ?_ ?_ ?_ isR_mk) ?_ | refine cD (tWhole0 ?_ ?_ ?_ ?_) | refine cQ (tWholeM ?_ ?_ ?_ ?_ isR_mk) ?_ | refine cD (tWholeM ?_ ?_ ?_ ?_ ?_) | refine cQ (tWholeE ?_ isR_mk) ?_ | refine cD (tWholeE ?_ ?_) | refine cQ (rWhole ?_ ?_ ?_ isR_mk) ?_ | refine cD (rWhole ?_ ?_ ?_ ?_) | refine cQ (rWholeE ?_ isR_mk) ?_ | refine cD (rWholeE ?_ ?_) | refine cQ (lNum isR_mk) ?_ | refine cD (lNum ?_)
        | ((with_reducible refine AW_drawM (id := 11) 24 mixed ?_ ?_); kernel_rfl)
        | (with_reducible refine dmQ_mk ?_)
        | with_reducible refine y_nil (hK := ?_)
        | (with_reducible refine nilTC_split (fun h => ?_) (fun h bn => ?_) <;> (try simp only [List.length_map] at h))
        | ((with_reducible first | refine grd_cases (fun h => ?_) (fun h => ?_) | refine condC_split (fun h => ?_) (fun h => ?_)) <;> (try simp only [h]) <;> (try simp only [NR_, Bool.not_true, Bool.not_false, Bool.not_eq_eq_eq_not, ne_eq] at h))
        | omega | (simp only [LN_]; omega))
      refine loopA (fun j : Nat => ⟨(.sl 2 none (l.map PA) :: .sl 1 none (names.map fun s => .raw (.string s)) :: .any :: .any :: .any :: B true :: .raw (.pointer (some ⟨bs, 0, none⟩)) :: .raw (.pointer (some ⟨bo, 0, none⟩)) :: .raw (.pointer (some ⟨b, 0, none⟩)) :: .any :: I j :: .any :: .any :: .any :: .any :: .any :: .any :: .any :: .any :: .any :: .any :: .any :: .any :: .any :: .any :: .any :: .any :: .any :: .any :: .any :: .any :: .any :: .any :: .any :: .any :: .any :: .any :: .any :: .any :: .any :: .any :: .any :: .any :: .any :: .any :: .any :: .any :: .any :: .any :: .any :: .any :: .any :: .any :: .any :: .any :: .any :: .any :: .any :: .any :: .any :: .any :: .any :: .any :: .any :: .any :: .any :: .any :: .any :: .any :: .any :: .any :: .any :: .any :: .any :: .any :: .any :: .any :: .any :: .any :: .any :: .any :: .any :: .any :: .any :: .any :: .any :: .any :: .any :: .any :: .any :: .any :: .any :: .any :: .any :: .any :: .any :: .any :: .any :: .any :: .any :: []), [.tip none, .obj b [.sl 2 (some none) []], .obj bs [.raw (.map none)], .obj bo [.raw (.map none)]], true, []⟩) (fun j => j ≤ names.length) (fun j => names.length - j) 0 (St_le_same (by repeat (first | exact trivial | refine ⟨le_rfl, ?_⟩ | refine ⟨le_any, ?_⟩ | refine ⟨le_ro, ?_⟩ | refine ⟨le_nil (by decide), ?_⟩ | refine ⟨le_wrap (by omega) (by omega) (by omega), ?_⟩ | refine ⟨le_int (by omega), ?_⟩ | refine ⟨le_eq (by simp), ?_⟩)) id) (Nat.zero_le _) ?_
      intro j hj
      rcases Nat.lt_or_ge j names.length with hlt2 | hge2
      · by_cases h200 : 200 < (names.getD j ByteArray.empty).size
        · skip
          repeat' (first
            | with_reducible first | refine AW_seqA (AW_block ?_) | refine AW_block ?_ | refine cut_seqloop ?_ | refine cut_loop ?_ | refine AW_seqA (AW_seqA ?_) | refine AW_seq ?_ | refine AW_runReg ?_ | refine AW_runCond ?_ | refine AW_runExit ?_ | refine AW_runRet ?_ | refine AW_runSkip ?_ | refine AW_runLabel ?_
            | simp only [WL, intF, strF, WM, Int.reduceToNat, ne_eq, reduceCtorEq, not_false_eq_true, Nat.reduceAdd, Nat.reduceSub, Nat.reduceLT, Nat.reduceLeDiff, Nat.reduceEqDiff, Bool.not_true, Bool.not_false, beq_self_eq_true, true_and, and_true, reduceIte, Bool.false_eq_true, T3, T4, T9, T37, T39, T40, T42, T43, T44, T46, T49, T50, T88, fC fl49_0, fR fl49_0, fC fl49_1, fR fl49_1, cok22, cok23, cok24, cok25, cok26, cok27, Try.results7]
            | simp (disch := first | omega | (simp only [LN_]; omega)) only [wrap_id, getI, getST]
            | with_reducible first | refine andA (hb := ?_) | refine y_load (hK := ?_) | refine y_box (hK := fun b => ?_) | refine y_new (hK := fun b => ?_) | refine y_build (hK := ?_) | refine cQ (lAlive16 isR_mk) ?_ | refine cD (lAlive16 ?_) | refine cD (tSet0 (fun mb => ?_)) | refine cQ (tSet ?_ isR_mk) ?_ | refine cD (tSet ?_ ?_) | refine cD (rSet0 (fun tk => ?_)) | refine cQ (rSet ?_ (fun tk => ?_) isR_mk) ?_ | refine cD (rSet ?_ (fun tk => ?_) ?_) | refine cQ (tWhole0 ?_ ?_ ?_ isR_mk) ?_ | refine cD (tWhole0 ?_ ?_ ?_ ?_) | refine cQ (tWhole0 ?_ ?_ ?_ isR_mk) ?_ | refine cD (tWhole0 ?_ ?_ ?_ ?_) | refine cQ (tWholeM ?_ ?_ ?_ ?_ isR_mk) ?_ | refine cD (tWholeM ?_ ?_ ?_ ?_ ?_) | refine cQ (tWholeE ?_ isR_mk) ?_ | refine cD (tWholeE ?_ ?_) | refine cQ (rWhole ?_ ?_ ?_ isR_mk) ?_ | refine cD (rWhole ?_ ?_ ?_ ?_) | refine cQ (rWholeE ?_ isR_mk) ?_ | refine cD (rWholeE ?_ ?_) | refine cQ (lNum isR_mk) ?_ | refine cD (lNum ?_)
            | ((with_reducible refine AW_drawM (id := 11) 24 mixed ?_ ?_); kernel_rfl)
            | (with_reducible refine dmQ_mk ?_)
            | with_reducible refine y_nil (hK := ?_)
            | (with_reducible refine nilTC_split (fun h => ?_) (fun h bn => ?_) <;> (try simp only [List.length_map] at h))
            | ((with_reducible first | refine grd_cases (fun h => ?_) (fun h => ?_) | refine condC_split (fun h => ?_) (fun h => ?_)) <;> (try simp only [h]) <;> (try simp only [NR_, Bool.not_true, Bool.not_false, Bool.not_eq_eq_eq_not, ne_eq] at h))
            | omega | (simp only [LN_]; omega))
          all_goals first
            | exact leafLaw rfl
            | exact absurd trivial (by assumption)
            | (exfalso; omega)
            | trace_state
        have hs2 : (names.getD j ByteArray.empty).size ≤ 200 := by omega
        cases he : ((names.getD j ByteArray.empty).toList == ({ data := #[] } : ByteArray).toList)
        · have hcn := cutN_le (size_pos he)
          have hix := idx_b hs2
          repeat' (first
            | with_reducible first | refine AW_seqA (AW_block ?_) | refine AW_block ?_ | refine cut_seqloop ?_ | refine cut_loop ?_ | refine AW_seqA (AW_seqA ?_) | refine AW_seq ?_ | refine AW_runReg ?_ | refine AW_runCond ?_ | refine AW_runExit ?_ | refine AW_runRet ?_ | refine AW_runSkip ?_ | refine AW_runLabel ?_
            | simp only [WL, intF, strF, WM, Int.reduceToNat, ne_eq, reduceCtorEq, not_false_eq_true, Nat.reduceAdd, Nat.reduceSub, Nat.reduceLT, Nat.reduceLeDiff, Nat.reduceEqDiff, Bool.not_true, Bool.not_false, beq_self_eq_true, true_and, and_true, reduceIte, Bool.false_eq_true, T3, T4, T9, T37, T39, T40, T42, T43, T44, T46, T49, T50, T88, fC fl49_0, fR fl49_0, fC fl49_1, fR fl49_1, cok22, cok23, cok24, cok25, cok26, cok27, Try.results7]
            | simp (disch := first | omega | (simp only [LN_]; omega)) only [wrap_id, getI, getST]
            | with_reducible first | refine andA (hb := ?_) | refine y_load (hK := ?_) | refine y_box (hK := fun b => ?_) | refine y_new (hK := fun b => ?_) | refine y_build (hK := ?_) | refine callD_mk (ACallF.re rotc4 (tWhole0 (b := bs) (by omega) hcn hix ?_)) | refine callD_mk (ACallF.re rotb4 (rWholeN (b := b) (by omega) ?_)) | refine cQ (lAlive16 isR_mk) ?_ | refine cD (lAlive16 ?_) | refine cD (tSet0 (fun mb => ?_)) | refine cQ (tSet ?_ isR_mk) ?_ | refine cD (tSet ?_ ?_) | refine cD (rSet0 (fun tk => ?_)) | refine cQ (rSet ?_ (fun tk => ?_) isR_mk) ?_ | refine cD (rSet ?_ (fun tk => ?_) ?_) | refine cQ (tWhole0 ?_ ?_ ?_ isR_mk) ?_ | refine cD (tWhole0 ?_ ?_ ?_ ?_) | refine cQ (tWhole0 ?_ ?_ ?_ isR_mk) ?_ | refine cD (tWhole0 ?_ ?_ ?_ ?_) | refine cQ (tWholeM ?_ ?_ ?_ ?_ isR_mk) ?_ | refine cD (tWholeM ?_ ?_ ?_ ?_ ?_) | refine cQ (tWholeE ?_ isR_mk) ?_ | refine cD (tWholeE ?_ ?_) | refine cQ (rWhole ?_ ?_ ?_ isR_mk) ?_ | refine cD (rWhole ?_ ?_ ?_ ?_) | refine cQ (rWholeE ?_ isR_mk) ?_ | refine cD (rWholeE ?_ ?_) | refine cQ (lNum isR_mk) ?_ | refine cD (lNum ?_)
            | ((with_reducible refine AW_drawM (id := 11) 24 mixed ?_ ?_); kernel_rfl)
            | (with_reducible refine dmQ_mk ?_)
            | with_reducible refine y_nil (hK := ?_)
            | (with_reducible refine nilTC_split (fun h => ?_) (fun h bn => ?_) <;> (try simp only [List.length_map] at h))
            | ((with_reducible first | refine grd_cases (fun h => ?_) (fun h => ?_) | refine condC_split (fun h => ?_) (fun h => ?_)) <;> (try simp only [h]) <;> (try simp only [NR_, Bool.not_true, Bool.not_false, Bool.not_eq_eq_eq_not, ne_eq] at h))
            | omega | (simp only [LN_]; omega))
          all_goals first
            | exact absurd trivial (by assumption)
            | exact ⟨j + 1, St_le_same (by repeat (first | exact trivial | refine ⟨le_rfl, ?_⟩ | refine ⟨le_any, ?_⟩ | refine ⟨le_ro, ?_⟩ | refine ⟨le_nil (by decide), ?_⟩ | refine ⟨le_wrap (by omega) (by omega) (by omega), ?_⟩ | refine ⟨le_int (by omega), ?_⟩ | refine ⟨le_eq (by simp), ?_⟩)) id, by omega, by omega⟩
            | (exfalso; omega)
            | trace_state
        · skip
          repeat' (first
            | with_reducible first | refine AW_seqA (AW_block ?_) | refine AW_block ?_ | refine cut_seqloop ?_ | refine cut_loop ?_ | refine AW_seqA (AW_seqA ?_) | refine AW_seq ?_ | refine AW_runReg ?_ | refine AW_runCond ?_ | refine AW_runExit ?_ | refine AW_runRet ?_ | refine AW_runSkip ?_ | refine AW_runLabel ?_
            | simp only [WL, intF, strF, WM, Int.reduceToNat, ne_eq, reduceCtorEq, not_false_eq_true, Nat.reduceAdd, Nat.reduceSub, Nat.reduceLT, Nat.reduceLeDiff, Nat.reduceEqDiff, Bool.not_true, Bool.not_false, beq_self_eq_true, true_and, and_true, reduceIte, Bool.false_eq_true, T3, T4, T9, T37, T39, T40, T42, T43, T44, T46, T49, T50, T88, fC fl49_0, fR fl49_0, fC fl49_1, fR fl49_1, cok22, cok23, cok24, cok25, cok26, cok27, Try.results7]
            | simp (disch := first | omega | (simp only [LN_]; omega)) only [wrap_id, getI, getST]
            | with_reducible first | refine andA (hb := ?_) | refine y_load (hK := ?_) | refine y_box (hK := fun b => ?_) | refine y_new (hK := fun b => ?_) | refine y_build (hK := ?_) | refine callD_mk (tWholeE he ?_) | refine callD_mk (rWholeE he ?_) | refine cQ (lAlive16 isR_mk) ?_ | refine cD (lAlive16 ?_) | refine cD (tSet0 (fun mb => ?_)) | refine cQ (tSet ?_ isR_mk) ?_ | refine cD (tSet ?_ ?_) | refine cD (rSet0 (fun tk => ?_)) | refine cQ (rSet ?_ (fun tk => ?_) isR_mk) ?_ | refine cD (rSet ?_ (fun tk => ?_) ?_) | refine cQ (tWhole0 ?_ ?_ ?_ isR_mk) ?_ | refine cD (tWhole0 ?_ ?_ ?_ ?_) | refine cQ (tWhole0 ?_ ?_ ?_ isR_mk) ?_ | refine cD (tWhole0 ?_ ?_ ?_ ?_) | refine cQ (tWholeM ?_ ?_ ?_ ?_ isR_mk) ?_ | refine cD (tWholeM ?_ ?_ ?_ ?_ ?_) | refine cQ (tWholeE ?_ isR_mk) ?_ | refine cD (tWholeE ?_ ?_) | refine cQ (rWhole ?_ ?_ ?_ isR_mk) ?_ | refine cD (rWhole ?_ ?_ ?_ ?_) | refine cQ (rWholeE ?_ isR_mk) ?_ | refine cD (rWholeE ?_ ?_) | refine cQ (lNum isR_mk) ?_ | refine cD (lNum ?_)
            | ((with_reducible refine AW_drawM (id := 11) 24 mixed ?_ ?_); kernel_rfl)
            | (with_reducible refine dmQ_mk ?_)
            | with_reducible refine y_nil (hK := ?_)
            | (with_reducible refine nilTC_split (fun h => ?_) (fun h bn => ?_) <;> (try simp only [List.length_map] at h))
            | ((with_reducible first | refine grd_cases (fun h => ?_) (fun h => ?_) | refine condC_split (fun h => ?_) (fun h => ?_)) <;> (try simp only [h]) <;> (try simp only [NR_, Bool.not_true, Bool.not_false, Bool.not_eq_eq_eq_not, ne_eq] at h))
            | omega | (simp only [LN_]; omega))
          all_goals first
            | exact absurd trivial (by assumption)
            | exact ⟨j + 1, St_le_same (by repeat (first | exact trivial | refine ⟨le_rfl, ?_⟩ | refine ⟨le_any, ?_⟩ | refine ⟨le_ro, ?_⟩ | refine ⟨le_nil (by decide), ?_⟩ | refine ⟨le_wrap (by omega) (by omega) (by omega), ?_⟩ | refine ⟨le_int (by omega), ?_⟩ | refine ⟨le_eq (by simp), ?_⟩)) id, by omega, by omega⟩
            | (exfalso; omega)
            | trace_state
      · obtain rfl : j = names.length := by omega
        repeat' (first
          | with_reducible first | refine AW_seqA (AW_block ?_) | refine AW_block ?_ | refine cut_seqloop ?_ | refine cut_loop ?_ | refine AW_seqA (AW_seqA ?_) | refine AW_seq ?_ | refine AW_runReg ?_ | refine AW_runCond ?_ | refine AW_runExit ?_ | refine AW_runRet ?_ | refine AW_runSkip ?_ | refine AW_runLabel ?_
          | simp only [WL, intF, strF, WM, Int.reduceToNat, ne_eq, reduceCtorEq, not_false_eq_true, Nat.reduceAdd, Nat.reduceSub, Nat.reduceLT, Nat.reduceLeDiff, Nat.reduceEqDiff, Bool.not_true, Bool.not_false, beq_self_eq_true, true_and, and_true, reduceIte, Bool.false_eq_true, T3, T4, T9, T37, T39, T40, T42, T43, T44, T46, T49, T50, T88, fC fl49_0, fR fl49_0, fC fl49_1, fR fl49_1, cok22, cok23, cok24, cok25, cok26, cok27, Try.results7]
          | simp (disch := first | omega | (simp only [LN_]; omega)) only [wrap_id, getI]
          | with_reducible first | refine andA (hb := ?_) | refine y_load (hK := ?_) | refine y_box (hK := fun b => ?_) | refine y_new (hK := fun b => ?_) | refine y_build (hK := ?_) | refine cQ (lAlive16 isR_mk) ?_ | refine cD (lAlive16 ?_) | refine cD (tSet0 (fun mb => ?_)) | refine cQ (tSet ?_ isR_mk) ?_ | refine cD (tSet ?_ ?_) | refine cD (rSet0 (fun tk => ?_)) | refine cQ (rSet ?_ (fun tk => ?_) isR_mk) ?_ | refine cD (rSet ?_ (fun tk => ?_) ?_) | refine cQ (tWhole0 ?_ ?_ ?_ isR_mk) ?_ | refine cD (tWhole0 ?_ ?_ ?_ ?_) | refine cQ (tWhole0 ?_ ?_ ?_ isR_mk) ?_ | refine cD (tWhole0 ?_ ?_ ?_ ?_) | refine cQ (tWholeM ?_ ?_ ?_ ?_ isR_mk) ?_ | refine cD (tWholeM ?_ ?_ ?_ ?_ ?_) | refine cQ (tWholeE ?_ isR_mk) ?_ | refine cD (tWholeE ?_ ?_) | refine cQ (rWhole ?_ ?_ ?_ isR_mk) ?_ | refine cD (rWhole ?_ ?_ ?_ ?_) | refine cQ (rWholeE ?_ isR_mk) ?_ | refine cD (rWholeE ?_ ?_) | refine cQ (lNum isR_mk) ?_ | refine cD (lNum ?_)
          | ((with_reducible refine AW_drawM (id := 11) 24 mixed ?_ ?_); kernel_rfl)
          | (with_reducible refine dmQ_mk ?_)
          | with_reducible refine y_nil (hK := ?_)
          | (with_reducible refine nilTC_split (fun h => ?_) (fun h bn => ?_) <;> (try simp only [List.length_map] at h))
          | ((with_reducible first | refine grd_cases (fun h => ?_) (fun h => ?_) | refine condC_split (fun h => ?_) (fun h => ?_)) <;> (try simp only [h]) <;> (try simp only [NR_, Bool.not_true, Bool.not_false, Bool.not_eq_eq_eq_not, ne_eq] at h))
          | omega | (simp only [LN_]; omega))
        all_goals first
          | exact leafLaw rfl
          | exact absurd trivial (by assumption)
          | (exfalso; omega)
          | trace_state
  · obtain ⟨hi, hLi, hL⟩ := hC
    simp only [sgR]
    rcases Nat.lt_or_ge i l.length with hlt | hge
    · have hwi := hw (l.getD i (ByteArray.empty, ByteArray.empty, ())) (by rw [List.getD_eq_getElem?_getD, List.getElem?_eq_getElem hlt]; exact List.getElem_mem hlt)
      cases hn : lookL L (l.getD i (ByteArray.empty, ByteArray.empty, ())).1
      · skip
        repeat' (first
          | with_reducible first | refine AW_seqA (AW_block ?_) | refine AW_block ?_ | refine cut_seqloop ?_ | refine cut_loop ?_ | refine AW_seqA (AW_seqA ?_) | refine AW_seq ?_ | refine AW_runReg ?_ | refine AW_runCond ?_ | refine AW_runExit ?_ | refine AW_runRet ?_ | refine AW_runSkip ?_ | refine AW_runLabel ?_
          | simp only [WL, intF, strF, WM, Int.reduceToNat, ne_eq, reduceCtorEq, not_false_eq_true, Nat.reduceAdd, Nat.reduceSub, Nat.reduceLT, Nat.reduceLeDiff, Nat.reduceEqDiff, Bool.not_true, Bool.not_false, beq_self_eq_true, true_and, and_true, reduceIte, Bool.false_eq_true, T3, T4, T9, T37, T39, T40, T42, T43, T44, T46, T49, T50, T88, fC fl49_0, fR fl49_0, fC fl49_1, fR fl49_1, cok22, cok23, cok24, cok25, cok26, cok27, Try.results7, lt_b, lt_x]
          | simp (disch := first | omega | (simp only [LN_]; omega)) only [wrap_id, getI, getPA]
          | with_reducible first | refine andA (hb := ?_) | refine y_load (hK := ?_) | refine y_box (hK := fun b => ?_) | refine y_new (hK := fun b => ?_) | refine y_build (hK := ?_) | refine callD_mk (ACallF.re rot6 (tSet (b := bo) (l := [(bangB, xB, 0)]) (fun e => absurd e (by simp [lookL])) (fun _ => ?_))) | refine callD_mk (ACallF.re rot6 (tSet (b := bs) (fun _ => ?_) (fun e => absurd e (by rw [hn]; decide)))) | refine callD_mk (ACallF.re rot6 (rSet (b := b) (c := c) (by omega) (fun tk' _ => ?_) (fun e => absurd e (by rw [hn]; decide)))) | refine cQ (lAlive16 isR_mk) ?_ | refine cD (lAlive16 ?_) | refine cD (tSet0 (fun mb => ?_)) | refine cQ (tSet ?_ isR_mk) ?_ | refine cD (tSet ?_ ?_) | refine cD (rSet0 (fun tk => ?_)) | refine cQ (rSet ?_ (fun tk => ?_) isR_mk) ?_ | refine cD (rSet ?_ (fun tk => ?_) ?_) | refine cQ (tWhole0 ?_ ?_ ?_ isR_mk) ?_ | refine cD (tWhole0 ?_ ?_ ?_ ?_) | refine cQ (tWhole0 ?_ ?_ ?_ isR_mk) ?_ | refine cD (tWhole0 ?_ ?_ ?_ ?_) | refine cQ (tWholeM ?_ ?_ ?_ ?_ isR_mk) ?_ | refine cD (tWholeM ?_ ?_ ?_ ?_ ?_) | refine cQ (tWholeE ?_ isR_mk) ?_ | refine cD (tWholeE ?_ ?_) | refine cQ (rWhole ?_ ?_ ?_ isR_mk) ?_ | refine cD (rWhole ?_ ?_ ?_ ?_) | refine cQ (rWholeE ?_ isR_mk) ?_ | refine cD (rWholeE ?_ ?_) | refine cQ (lNum isR_mk) ?_ | refine cD (lNum ?_)
          | ((with_reducible refine AW_phE (id := 11) [0, 1, 2, 3, 4, 5, 6, 7, 8, 9, 11, 12, 13, 14, 15, 16, 17, 18, 19, 20, 21] (some 10) [([], some 22), ([23], none)] (fun _ => True) trivial mixed ?_ ?_); kernel_rfl)
          | ((with_reducible apply phE_intro); intro σq hq)
          | (with_reducible exact isT_mk)
          | ((with_reducible apply phC_ops); rfl; rfl)
          | (with_reducible refine phQ_mk trivial ?_)
          | (with_reducible refine dmQ_mk ?_)
          | with_reducible refine y_nil (hK := ?_)
          | (with_reducible refine nilTC_split (fun h => ?_) (fun h bn => ?_) <;> (try simp only [List.length_map] at h))
          | ((with_reducible first | refine grd_cases (fun h => ?_) (fun h => ?_) | refine condC_split (fun h => ?_) (fun h => ?_)) <;> (try simp only [h]) <;> (try simp only [NR_, Bool.not_true, Bool.not_false, Bool.not_eq_eq_eq_not, ne_eq] at h))
          | omega | (simp only [LN_]; omega))
        all_goals first
          | exact ⟨(i + 1, some (ms, mo, tk', L ++ [((l.getD i (ByteArray.empty, ByteArray.empty, ())).1, (l.getD i (ByteArray.empty, ByteArray.empty, ())).2.1, c)], c + 1)), St_leW (by repeat (first | exact trivial | refine ⟨le_rfl, ?_⟩ | refine ⟨le_any, ?_⟩ | refine ⟨le_ro, ?_⟩ | refine ⟨le_nil (by decide), ?_⟩ | refine ⟨le_wrap (by omega) (by omega) (by omega), ?_⟩ | refine ⟨le_int (by omega), ?_⟩ | refine ⟨le_eq (by simp), ?_⟩)) (ResW.refl _) id, ⟨by omega, by simp; omega, by intro e he; rw [List.mem_append] at he; rcases he with he | he; exact hL e he; simp at he; subst he; exact hwi⟩, by dsimp only; omega⟩
          | (exfalso; omega)
          | trace_state
      · skip
        repeat' (first
          | with_reducible first | refine AW_seqA (AW_block ?_) | refine AW_block ?_ | refine cut_seqloop ?_ | refine cut_loop ?_ | refine AW_seqA (AW_seqA ?_) | refine AW_seq ?_ | refine AW_runReg ?_ | refine AW_runCond ?_ | refine AW_runExit ?_ | refine AW_runRet ?_ | refine AW_runSkip ?_ | refine AW_runLabel ?_
          | simp only [WL, intF, strF, WM, Int.reduceToNat, ne_eq, reduceCtorEq, not_false_eq_true, Nat.reduceAdd, Nat.reduceSub, Nat.reduceLT, Nat.reduceLeDiff, Nat.reduceEqDiff, Bool.not_true, Bool.not_false, beq_self_eq_true, true_and, and_true, reduceIte, Bool.false_eq_true, T3, T4, T9, T37, T39, T40, T42, T43, T44, T46, T49, T50, T88, fC fl49_0, fR fl49_0, fC fl49_1, fR fl49_1, cok22, cok23, cok24, cok25, cok26, cok27, Try.results7, lt_b, lt_x]
          | simp (disch := first | omega | (simp only [LN_]; omega)) only [wrap_id, getI, getPA]
          | with_reducible first | refine andA (hb := ?_) | refine y_load (hK := ?_) | refine y_box (hK := fun b => ?_) | refine y_new (hK := fun b => ?_) | refine y_build (hK := ?_) | refine callD_mk (ACallF.re rot6 (tSet (b := bo) (l := [(bangB, xB, 0)]) (fun e => absurd e (by simp [lookL])) (fun _ => ?_))) | refine callD_mk (ACallF.re rot6 (tSet (b := bs) (fun e => absurd e (by rw [hn]; simp)) (fun _ => ?_))) | refine callD_mk (ACallF.re rot6 (rSet (b := b) (c := c) (by omega) (fun tk' e => absurd e (by rw [hn]; simp)) (fun _ => ?_))) | refine cQ (lAlive16 isR_mk) ?_ | refine cD (lAlive16 ?_) | refine cD (tSet0 (fun mb => ?_)) | refine cQ (tSet ?_ isR_mk) ?_ | refine cD (tSet ?_ ?_) | refine cD (rSet0 (fun tk => ?_)) | refine cQ (rSet ?_ (fun tk => ?_) isR_mk) ?_ | refine cD (rSet ?_ (fun tk => ?_) ?_) | refine cQ (tWhole0 ?_ ?_ ?_ isR_mk) ?_ | refine cD (tWhole0 ?_ ?_ ?_ ?_) | refine cQ (tWhole0 ?_ ?_ ?_ isR_mk) ?_ | refine cD (tWhole0 ?_ ?_ ?_ ?_) | refine cQ (tWholeM ?_ ?_ ?_ ?_ isR_mk) ?_ | refine cD (tWholeM ?_ ?_ ?_ ?_ ?_) | refine cQ (tWholeE ?_ isR_mk) ?_ | refine cD (tWholeE ?_ ?_) | refine cQ (rWhole ?_ ?_ ?_ isR_mk) ?_ | refine cD (rWhole ?_ ?_ ?_ ?_) | refine cQ (rWholeE ?_ isR_mk) ?_ | refine cD (rWholeE ?_ ?_) | refine cQ (lNum isR_mk) ?_ | refine cD (lNum ?_)
          | ((with_reducible refine AW_phE (id := 11) [0, 1, 2, 3, 4, 5, 6, 7, 8, 9, 11, 12, 13, 14, 15, 16, 17, 18, 19, 20, 21] (some 10) [([], some 22), ([23], none)] (fun _ => True) trivial mixed ?_ ?_); kernel_rfl)
          | ((with_reducible apply phE_intro); intro σq hq)
          | (with_reducible exact isT_mk)
          | ((with_reducible apply phC_ops); rfl; rfl)
          | (with_reducible refine phQ_mk trivial ?_)
          | (with_reducible refine dmQ_mk ?_)
          | with_reducible refine y_nil (hK := ?_)
          | (with_reducible refine nilTC_split (fun h => ?_) (fun h bn => ?_) <;> (try simp only [List.length_map] at h))
          | ((with_reducible first | refine grd_cases (fun h => ?_) (fun h => ?_) | refine condC_split (fun h => ?_) (fun h => ?_)) <;> (try simp only [h]) <;> (try simp only [NR_, Bool.not_true, Bool.not_false, Bool.not_eq_eq_eq_not, ne_eq] at h))
          | omega | (simp only [LN_]; omega))
        all_goals first
          | exact ⟨(i + 1, some (ms, mo, tk, L, c)), St_leW (by repeat (first | exact trivial | refine ⟨le_rfl, ?_⟩ | refine ⟨le_any, ?_⟩ | refine ⟨le_ro, ?_⟩ | refine ⟨le_nil (by decide), ?_⟩ | refine ⟨le_wrap (by omega) (by omega) (by omega), ?_⟩ | refine ⟨le_int (by omega), ?_⟩ | refine ⟨le_eq (by simp), ?_⟩)) (ResW.refl _) id, ⟨by omega, by omega, hL⟩, by dsimp only; omega⟩
          | (exfalso; omega)
          | trace_state
    · skip
      repeat' (first
        | with_reducible first | refine AW_seqA (AW_block ?_) | refine AW_block ?_ | refine cut_seqloop ?_ | refine cut_loop ?_ | refine AW_seqA (AW_seqA ?_) | refine AW_seq ?_ | refine AW_runReg ?_ | refine AW_runCond ?_ | refine AW_runExit ?_ | refine AW_runRet ?_ | refine AW_runSkip ?_ | refine AW_runLabel ?_
        | simp only [WL, intF, strF, WM, Int.reduceToNat, ne_eq, reduceCtorEq, not_false_eq_true, Nat.reduceAdd, Nat.reduceSub, Nat.reduceLT, Nat.reduceLeDiff, Nat.reduceEqDiff, Bool.not_true, Bool.not_false, beq_self_eq_true, true_and, and_true, reduceIte, Bool.false_eq_true, T3, T4, T9, T37, T39, T40, T42, T43, T44, T46, T49, T50, T88, fC fl49_0, fR fl49_0, fC fl49_1, fR fl49_1, cok22, cok23, cok24, cok25, cok26, cok27, Try.results7]
        | simp (disch := first | omega | (simp only [LN_]; omega)) only [wrap_id, getI]
        | with_reducible first | refine andA (hb := ?_) | refine y_load (hK := ?_) | refine y_box (hK := fun b => ?_) | refine y_new (hK := fun b => ?_) | refine y_build (hK := ?_) | refine cQ (lAlive16 isR_mk) ?_ | refine cD (lAlive16 ?_) | refine cD (tSet0 (fun mb => ?_)) | refine cQ (tSet ?_ isR_mk) ?_ | refine cD (tSet ?_ ?_) | refine cD (rSet0 (fun tk => ?_)) | refine cQ (rSet ?_ (fun tk => ?_) isR_mk) ?_ | refine cD (rSet ?_ (fun tk => ?_) ?_) | refine cQ (tWhole0 ?_ ?_ ?_ isR_mk) ?_ | refine cD (tWhole0 ?_ ?_ ?_ ?_) | refine cQ (tWhole0 ?_ ?_ ?_ isR_mk) ?_ | refine cD (tWhole0 ?_ ?_ ?_ ?_) | refine cQ (tWholeM ?_ ?_ ?_ ?_ isR_mk) ?_ | refine cD (tWholeM ?_ ?_ ?_ ?_ ?_) | refine cQ (tWholeE ?_ isR_mk) ?_ | refine cD (tWholeE ?_ ?_) | refine cQ (rWhole ?_ ?_ ?_ isR_mk) ?_ | refine cD (rWhole ?_ ?_ ?_ ?_) | refine cQ (rWholeE ?_ isR_mk) ?_ | refine cD (rWholeE ?_ ?_) | refine cQ (lNum isR_mk) ?_ | refine cD (lNum ?_)
        | ((with_reducible refine AW_drawM (id := 11) 24 mixed ?_ ?_); kernel_rfl)
        | (with_reducible refine dmQ_mk ?_)
        | with_reducible refine y_nil (hK := ?_)
        | (with_reducible refine nilTC_split (fun h => ?_) (fun h bn => ?_) <;> (try simp only [List.length_map] at h))
        | ((with_reducible first | refine grd_cases (fun h => ?_) (fun h => ?_) | refine condC_split (fun h => ?_) (fun h => ?_)) <;> (try simp only [h]) <;> (try simp only [NR_, Bool.not_true, Bool.not_false, Bool.not_eq_eq_eq_not, ne_eq] at h))
        | omega | (simp only [LN_]; omega))
      have hpm := preM_size hL
      refine loopA (fun j : Nat => ⟨(.sl 2 none (l.map PA) :: .sl 1 none (names.map fun s => .raw (.string s)) :: .any :: .any :: .any :: B true :: .raw (.pointer (some ⟨bs, 0, none⟩)) :: .raw (.pointer (some ⟨bo, 0, none⟩)) :: .raw (.pointer (some ⟨b, 0, none⟩)) :: .any :: I j :: .any :: .any :: .any :: .any :: .any :: .any :: .any :: .any :: .any :: .any :: .any :: .any :: .any :: .any :: .any :: .any :: .any :: .any :: .any :: .any :: .any :: .any :: .any :: .any :: .any :: .any :: .any :: .any :: .any :: .any :: .any :: .any :: .any :: .any :: .any :: .any :: .any :: .any :: .any :: .any :: .any :: .any :: .any :: .any :: .any :: .any :: .any :: .any :: .any :: .any :: .any :: .any :: .any :: .any :: .any :: .any :: .any :: .any :: .any :: .any :: .any :: .any :: .any :: .any :: .any :: .any :: .any :: .any :: .any :: .any :: .any :: .any :: .any :: .any :: .any :: .any :: .any :: .any :: .any :: .any :: .any :: .any :: .any :: .any :: .any :: .any :: .any :: .any :: .any :: []), [.tip tk, .obj b [.sl 2 (some tk) (L.map HP)], .blk ms (mapO L c), .obj bs [.raw (.map (some ms))], .blk mo (mapO [(bangB, xB, 0)] 1), .obj bo [.raw (.map (some mo))]], true, []⟩) (fun j => j ≤ names.length) (fun j => names.length - j) 0 (St_le_same (by repeat (first | exact trivial | refine ⟨le_rfl, ?_⟩ | refine ⟨le_any, ?_⟩ | refine ⟨le_ro, ?_⟩ | refine ⟨le_nil (by decide), ?_⟩ | refine ⟨le_wrap (by omega) (by omega) (by omega), ?_⟩ | refine ⟨le_int (by omega), ?_⟩ | refine ⟨le_eq (by simp), ?_⟩)) id) (Nat.zero_le _) ?_
      intro j hj
      rcases Nat.lt_or_ge j names.length with hlt2 | hge2
      · by_cases h200 : 200 < (names.getD j ByteArray.empty).size
        · skip
          repeat' (first
            | with_reducible first | refine AW_seqA (AW_block ?_) | refine AW_block ?_ | refine cut_seqloop ?_ | refine cut_loop ?_ | refine AW_seqA (AW_seqA ?_) | refine AW_seq ?_ | refine AW_runReg ?_ | refine AW_runCond ?_ | refine AW_runExit ?_ | refine AW_runRet ?_ | refine AW_runSkip ?_ | refine AW_runLabel ?_
            | simp only [WL, intF, strF, WM, Int.reduceToNat, ne_eq, reduceCtorEq, not_false_eq_true, Nat.reduceAdd, Nat.reduceSub, Nat.reduceLT, Nat.reduceLeDiff, Nat.reduceEqDiff, Bool.not_true, Bool.not_false, beq_self_eq_true, true_and, and_true, reduceIte, Bool.false_eq_true, T3, T4, T9, T37, T39, T40, T42, T43, T44, T46, T49, T50, T88, fC fl49_0, fR fl49_0, fC fl49_1, fR fl49_1, cok22, cok23, cok24, cok25, cok26, cok27, Try.results7]
            | simp (disch := first | omega | (simp only [LN_]; omega)) only [wrap_id, getI, getST]
            | with_reducible first | refine andA (hb := ?_) | refine y_load (hK := ?_) | refine y_box (hK := fun b => ?_) | refine y_new (hK := fun b => ?_) | refine y_build (hK := ?_) | refine cQ (lAlive16 isR_mk) ?_ | refine cD (lAlive16 ?_) | refine cD (tSet0 (fun mb => ?_)) | refine cQ (tSet ?_ isR_mk) ?_ | refine cD (tSet ?_ ?_) | refine cD (rSet0 (fun tk => ?_)) | refine cQ (rSet ?_ (fun tk => ?_) isR_mk) ?_ | refine cD (rSet ?_ (fun tk => ?_) ?_) | refine cQ (tWhole0 ?_ ?_ ?_ isR_mk) ?_ | refine cD (tWhole0 ?_ ?_ ?_ ?_) | refine cQ (tWhole0 ?_ ?_ ?_ isR_mk) ?_ | refine cD (tWhole0 ?_ ?_ ?_ ?_) | refine cQ (tWholeM ?_ ?_ ?_ ?_ isR_mk) ?_ | refine cD (tWholeM ?_ ?_ ?_ ?_ ?_) | refine cQ (tWholeE ?_ isR_mk) ?_ | refine cD (tWholeE ?_ ?_) | refine cQ (rWhole ?_ ?_ ?_ isR_mk) ?_ | refine cD (rWhole ?_ ?_ ?_ ?_) | refine cQ (rWholeE ?_ isR_mk) ?_ | refine cD (rWholeE ?_ ?_) | refine cQ (lNum isR_mk) ?_ | refine cD (lNum ?_)
            | ((with_reducible refine AW_drawM (id := 11) 24 mixed ?_ ?_); kernel_rfl)
            | (with_reducible refine dmQ_mk ?_)
            | with_reducible refine y_nil (hK := ?_)
            | (with_reducible refine nilTC_split (fun h => ?_) (fun h bn => ?_) <;> (try simp only [List.length_map] at h))
            | ((with_reducible first | refine grd_cases (fun h => ?_) (fun h => ?_) | refine condC_split (fun h => ?_) (fun h => ?_)) <;> (try simp only [h]) <;> (try simp only [NR_, Bool.not_true, Bool.not_false, Bool.not_eq_eq_eq_not, ne_eq] at h))
            | omega | (simp only [LN_]; omega))
          all_goals first
            | exact leafLaw rfl
            | exact absurd trivial (by assumption)
            | (exfalso; omega)
            | trace_state
        have hs2 : (names.getD j ByteArray.empty).size ≤ 200 := by omega
        cases he : ((names.getD j ByteArray.empty).toList == ({ data := #[] } : ByteArray).toList)
        · have hcn := cutN_le (size_pos he)
          have hix := idx_b hs2
          repeat' (first
            | with_reducible first | refine AW_seqA (AW_block ?_) | refine AW_block ?_ | refine cut_seqloop ?_ | refine cut_loop ?_ | refine AW_seqA (AW_seqA ?_) | refine AW_seq ?_ | refine AW_runReg ?_ | refine AW_runCond ?_ | refine AW_runExit ?_ | refine AW_runRet ?_ | refine AW_runSkip ?_ | refine AW_runLabel ?_
            | simp only [WL, intF, strF, WM, Int.reduceToNat, ne_eq, reduceCtorEq, not_false_eq_true, Nat.reduceAdd, Nat.reduceSub, Nat.reduceLT, Nat.reduceLeDiff, Nat.reduceEqDiff, Bool.not_true, Bool.not_false, beq_self_eq_true, true_and, and_true, reduceIte, Bool.false_eq_true, T3, T4, T9, T37, T39, T40, T42, T43, T44, T46, T49, T50, T88, fC fl49_0, fR fl49_0, fC fl49_1, fR fl49_1, cok22, cok23, cok24, cok25, cok26, cok27, Try.results7]
            | simp (disch := first | omega | (simp only [LN_]; omega)) only [wrap_id, getI, getST]
            | with_reducible first | refine andA (hb := ?_) | refine y_load (hK := ?_) | refine y_box (hK := fun b => ?_) | refine y_new (hK := fun b => ?_) | refine y_build (hK := ?_) | refine callD_mk (ACallF.re rotc6 (tWholeM (b := bs) hpm (by omega) hcn hix ?_)) | refine callD_mk (ACallF.re rotc6 (rWhole (b := b) (by omega) hpm (by omega) ?_)) | refine cQ (lAlive16 isR_mk) ?_ | refine cD (lAlive16 ?_) | refine cD (tSet0 (fun mb => ?_)) | refine cQ (tSet ?_ isR_mk) ?_ | refine cD (tSet ?_ ?_) | refine cD (rSet0 (fun tk => ?_)) | refine cQ (rSet ?_ (fun tk => ?_) isR_mk) ?_ | refine cD (rSet ?_ (fun tk => ?_) ?_) | refine cQ (tWhole0 ?_ ?_ ?_ isR_mk) ?_ | refine cD (tWhole0 ?_ ?_ ?_ ?_) | refine cQ (tWhole0 ?_ ?_ ?_ isR_mk) ?_ | refine cD (tWhole0 ?_ ?_ ?_ ?_) | refine cQ (tWholeM ?_ ?_ ?_ ?_ isR_mk) ?_ | refine cD (tWholeM ?_ ?_ ?_ ?_ ?_) | refine cQ (tWholeE ?_ isR_mk) ?_ | refine cD (tWholeE ?_ ?_) | refine cQ (rWhole ?_ ?_ ?_ isR_mk) ?_ | refine cD (rWhole ?_ ?_ ?_ ?_) | refine cQ (rWholeE ?_ isR_mk) ?_ | refine cD (rWholeE ?_ ?_) | refine cQ (lNum isR_mk) ?_ | refine cD (lNum ?_)
            | ((with_reducible refine AW_drawM (id := 11) 24 mixed ?_ ?_); kernel_rfl)
            | (with_reducible refine dmQ_mk ?_)
            | with_reducible refine y_nil (hK := ?_)
            | (with_reducible refine nilTC_split (fun h => ?_) (fun h bn => ?_) <;> (try simp only [List.length_map] at h))
            | ((with_reducible first | refine grd_cases (fun h => ?_) (fun h => ?_) | refine condC_split (fun h => ?_) (fun h => ?_)) <;> (try simp only [h]) <;> (try simp only [NR_, Bool.not_true, Bool.not_false, Bool.not_eq_eq_eq_not, ne_eq] at h))
            | omega | (simp only [LN_]; omega))
          all_goals first
            | exact absurd trivial (by assumption)
            | exact ⟨j + 1, St_le_same (by repeat (first | exact trivial | refine ⟨le_rfl, ?_⟩ | refine ⟨le_any, ?_⟩ | refine ⟨le_ro, ?_⟩ | refine ⟨le_nil (by decide), ?_⟩ | refine ⟨le_wrap (by omega) (by omega) (by omega), ?_⟩ | refine ⟨le_int (by omega), ?_⟩ | refine ⟨le_eq (by simp), ?_⟩)) id, by omega, by omega⟩
            | (exfalso; omega)
            | trace_state
        · skip
          repeat' (first
            | with_reducible first | refine AW_seqA (AW_block ?_) | refine AW_block ?_ | refine cut_seqloop ?_ | refine cut_loop ?_ | refine AW_seqA (AW_seqA ?_) | refine AW_seq ?_ | refine AW_runReg ?_ | refine AW_runCond ?_ | refine AW_runExit ?_ | refine AW_runRet ?_ | refine AW_runSkip ?_ | refine AW_runLabel ?_
            | simp only [WL, intF, strF, WM, Int.reduceToNat, ne_eq, reduceCtorEq, not_false_eq_true, Nat.reduceAdd, Nat.reduceSub, Nat.reduceLT, Nat.reduceLeDiff, Nat.reduceEqDiff, Bool.not_true, Bool.not_false, beq_self_eq_true, true_and, and_true, reduceIte, Bool.false_eq_true, T3, T4, T9, T37, T39, T40, T42, T43, T44, T46, T49, T50, T88, fC fl49_0, fR fl49_0, fC fl49_1, fR fl49_1, cok22, cok23, cok24, cok25, cok26, cok27, Try.results7]
            | simp (disch := first | omega | (simp only [LN_]; omega)) only [wrap_id, getI, getST]
            | with_reducible first | refine andA (hb := ?_) | refine y_load (hK := ?_) | refine y_box (hK := fun b => ?_) | refine y_new (hK := fun b => ?_) | refine y_build (hK := ?_) | refine callD_mk (tWholeE he ?_) | refine callD_mk (rWholeE he ?_) | refine cQ (lAlive16 isR_mk) ?_ | refine cD (lAlive16 ?_) | refine cD (tSet0 (fun mb => ?_)) | refine cQ (tSet ?_ isR_mk) ?_ | refine cD (tSet ?_ ?_) | refine cD (rSet0 (fun tk => ?_)) | refine cQ (rSet ?_ (fun tk => ?_) isR_mk) ?_ | refine cD (rSet ?_ (fun tk => ?_) ?_) | refine cQ (tWhole0 ?_ ?_ ?_ isR_mk) ?_ | refine cD (tWhole0 ?_ ?_ ?_ ?_) | refine cQ (tWhole0 ?_ ?_ ?_ isR_mk) ?_ | refine cD (tWhole0 ?_ ?_ ?_ ?_) | refine cQ (tWholeM ?_ ?_ ?_ ?_ isR_mk) ?_ | refine cD (tWholeM ?_ ?_ ?_ ?_ ?_) | refine cQ (tWholeE ?_ isR_mk) ?_ | refine cD (tWholeE ?_ ?_) | refine cQ (rWhole ?_ ?_ ?_ isR_mk) ?_ | refine cD (rWhole ?_ ?_ ?_ ?_) | refine cQ (rWholeE ?_ isR_mk) ?_ | refine cD (rWholeE ?_ ?_) | refine cQ (lNum isR_mk) ?_ | refine cD (lNum ?_)
            | ((with_reducible refine AW_drawM (id := 11) 24 mixed ?_ ?_); kernel_rfl)
            | (with_reducible refine dmQ_mk ?_)
            | with_reducible refine y_nil (hK := ?_)
            | (with_reducible refine nilTC_split (fun h => ?_) (fun h bn => ?_) <;> (try simp only [List.length_map] at h))
            | ((with_reducible first | refine grd_cases (fun h => ?_) (fun h => ?_) | refine condC_split (fun h => ?_) (fun h => ?_)) <;> (try simp only [h]) <;> (try simp only [NR_, Bool.not_true, Bool.not_false, Bool.not_eq_eq_eq_not, ne_eq] at h))
            | omega | (simp only [LN_]; omega))
          all_goals first
            | exact absurd trivial (by assumption)
            | exact ⟨j + 1, St_le_same (by repeat (first | exact trivial | refine ⟨le_rfl, ?_⟩ | refine ⟨le_any, ?_⟩ | refine ⟨le_ro, ?_⟩ | refine ⟨le_nil (by decide), ?_⟩ | refine ⟨le_wrap (by omega) (by omega) (by omega), ?_⟩ | refine ⟨le_int (by omega), ?_⟩ | refine ⟨le_eq (by simp), ?_⟩)) id, by omega, by omega⟩
            | (exfalso; omega)
            | trace_state
      · obtain rfl : j = names.length := by omega
        repeat' (first
          | with_reducible first | refine AW_seqA (AW_block ?_) | refine AW_block ?_ | refine cut_seqloop ?_ | refine cut_loop ?_ | refine AW_seqA (AW_seqA ?_) | refine AW_seq ?_ | refine AW_runReg ?_ | refine AW_runCond ?_ | refine AW_runExit ?_ | refine AW_runRet ?_ | refine AW_runSkip ?_ | refine AW_runLabel ?_
          | simp only [WL, intF, strF, WM, Int.reduceToNat, ne_eq, reduceCtorEq, not_false_eq_true, Nat.reduceAdd, Nat.reduceSub, Nat.reduceLT, Nat.reduceLeDiff, Nat.reduceEqDiff, Bool.not_true, Bool.not_false, beq_self_eq_true, true_and, and_true, reduceIte, Bool.false_eq_true, T3, T4, T9, T37, T39, T40, T42, T43, T44, T46, T49, T50, T88, fC fl49_0, fR fl49_0, fC fl49_1, fR fl49_1, cok22, cok23, cok24, cok25, cok26, cok27, Try.results7]
          | simp (disch := first | omega | (simp only [LN_]; omega)) only [wrap_id, getI]
          | with_reducible first | refine andA (hb := ?_) | refine y_load (hK := ?_) | refine y_box (hK := fun b => ?_) | refine y_new (hK := fun b => ?_) | refine y_build (hK := ?_) | refine cQ (lAlive16 isR_mk) ?_ | refine cD (lAlive16 ?_) | refine cD (tSet0 (fun mb => ?_)) | refine cQ (tSet ?_ isR_mk) ?_ | refine cD (tSet ?_ ?_) | refine cD (rSet0 (fun tk => ?_)) | refine cQ (rSet ?_ (fun tk => ?_) isR_mk) ?_ | refine cD (rSet ?_ (fun tk => ?_) ?_) | refine cQ (tWhole0 ?_ ?_ ?_ isR_mk) ?_ | refine cD (tWhole0 ?_ ?_ ?_ ?_) | refine cQ (tWhole0 ?_ ?_ ?_ isR_mk) ?_ | refine cD (tWhole0 ?_ ?_ ?_ ?_) | refine cQ (tWholeM ?_ ?_ ?_ ?_ isR_mk) ?_ | refine cD (tWholeM ?_ ?_ ?_ ?_ ?_) | refine cQ (tWholeE ?_ isR_mk) ?_ | refine cD (tWholeE ?_ ?_) | refine cQ (rWhole ?_ ?_ ?_ isR_mk) ?_ | refine cD (rWhole ?_ ?_ ?_ ?_) | refine cQ (rWholeE ?_ isR_mk) ?_ | refine cD (rWholeE ?_ ?_) | refine cQ (lNum isR_mk) ?_ | refine cD (lNum ?_)
          | ((with_reducible refine AW_drawM (id := 11) 24 mixed ?_ ?_); kernel_rfl)
          | (with_reducible refine dmQ_mk ?_)
          | with_reducible refine y_nil (hK := ?_)
          | (with_reducible refine nilTC_split (fun h => ?_) (fun h bn => ?_) <;> (try simp only [List.length_map] at h))
          | ((with_reducible first | refine grd_cases (fun h => ?_) (fun h => ?_) | refine condC_split (fun h => ?_) (fun h => ?_)) <;> (try simp only [h]) <;> (try simp only [NR_, Bool.not_true, Bool.not_false, Bool.not_eq_eq_eq_not, ne_eq] at h))
          | omega | (simp only [LN_]; omega))
        all_goals first
          | exact leafLaw rfl
          | exact absurd trivial (by assumption)
          | (exfalso; omega)
          | trace_state
end Go.Proofs.Ytaeacialcbahnaa
