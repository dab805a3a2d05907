/-
  Own layer, part x: bytes and strings.
-/
import Derived.Test.YtaeacialcbahnaaMw
import Derived.Laws.BytesArg
import Derived.Laws.IdiomStrings
namespace Go.Abs
variable {P : Program} {κ : Ctx} {σ : List Res} {K : AV → List Res → Prop}
/-- A byte. -/
abbrev U8 (n : Int) : AV := .raw (.int .u8 n)

theorem strOfNums_nil : strOfNums [] = ByteArray.empty := rfl
/-- string(b): a row of bytes becomes a text. -/
theorem act_bytes_str {s d e : TypeId} {own : Option (Option (Nat × Nat))} {l : List Int} (hs : slE P s = some e) (he : intT P e = some .u8) (hd : isStr P d = true)
    (hK : K (.raw (.string (strOfNums l))) σ) : AAct κ P (.conv s d) [.sl 1 own (l.map U8)] σ K := by
  intro φ g w vs hR hvs
  obtain ⟨v, rfl, hu⟩ := one_vs hvs
  have hsl := und_of_slE hs
  have hint := und_of_intT he
  have hst := und_of_isStr hd
  refine ⟨.string (strOfNums l), w, g, _, σ, ?_, hR, GE.refl _ _, .raw _, hK⟩
  show (convert s d v).run P w = _
  rcases hu.sl_inv with ⟨h0, ⟨ad, cp, rfl, hcp, _⟩, _⟩ | ⟨b, off, cap, rfl, hcap, hmax, hpos, hc, hel, _⟩
  · obtain rfl : l = [] := by simpa using h0
    cases ad with
    | none => exact run_convert_bytes_nil w s e hsl hint 0 cp d hst
    | some a =>
      rw [run_convert_bytes_string w s d e _ 0 cp hsl hint hst, run_bytesToString w a 0 cp [] (by simp [loadCells, loadCellsFrom])]
      rfl
  · rw [List.length_map]
    refine run_convert_bytes_arg w s e hsl hint b off l.length cap l rfl (fun i hi => ?_) d hst
    obtain ⟨u, h1, h2⟩ := hel i (U8 (l.getD i 0)) 0 (U8 (l.getD i 0)) (by simp [List.getD_eq_getElem?_getD, hi]) rfl
    cases h2.raw_eq
    simpa using h1

/-- A row of bytes. -/
abbrev SU (o : Option (Option (Nat × Nat))) (l : List Int) : AV := .sl 1 o (l.map U8)
theorem getU {l : List Int} {k : Nat} (h : k < l.length) : (l.map U8).getD k .any = U8 (l.getD k 0) := by
  simp [List.getD_eq_getElem?_getD, h]
theorem goodU (l : List Int) : goodL (l.map U8) = true := by
  unfold goodL
  rw [List.all_map, List.all_eq_true]
  intro x _
  rfl
/-- A text's bytes. -/
def bytesI (s : ByteArray) : List Int := s.data.toList.map fun b => (b.toNat : Int)
theorem bytesI_len (s : ByteArray) : (bytesI s).length = s.size := by rw [bytesI, List.length_map, Array.length_toList]; rfl
theorem bytesI_byte (s : ByteArray) : ∀ c ∈ bytesI s, 0 ≤ c ∧ c ≤ 255 := by
  intro c hc
  simp only [bytesI, List.mem_map] at hc
  obtain ⟨b, _, rfl⟩ := hc
  have := b.toNat_lt
  omega
theorem getB {s : ByteArray} {k : Nat} : (((s.data.toList.getD k 0).toNat : Nat) : Int) = (bytesI s).getD k 0 := by
  simp only [bytesI, List.getD_eq_getElem?_getD, List.getElem?_map]
  cases s.data.toList[k]? <;> rfl
theorem strOfNums_bytesI (s : ByteArray) : strOfNums (bytesI s) = s := by
  apply ByteArray.ext
  apply Array.ext'
  rw [strOfNums_data, bytesI, List.map_map]
  conv => rhs; rw [← List.map_id s.data.toList]
  apply List.map_congr_left
  intro b _
  simp
theorem bytesI_strOfNums {l : List Int} (h : ∀ c ∈ l, 0 ≤ c ∧ c ≤ 255) : bytesI (strOfNums l) = l := by
  rw [bytesI, strOfNums_data, List.map_map]
  conv => rhs; rw [← List.map_id l]
  apply List.map_congr_left
  intro c hc
  have := h c hc
  simp only [Function.comp, UInt8.toNat_ofNat', id]
  omega
theorem strOfNums_inj {a b : List Int} (ha : ∀ c ∈ a, 0 ≤ c ∧ c ≤ 255) (hb : ∀ c ∈ b, 0 ≤ c ∧ c ≤ 255) (h : strOfNums a = strOfNums b) : a = b := by
  rw [← bytesI_strOfNums ha, h, bytesI_strOfNums hb]
theorem strOfNums_app (a b : List Int) : strOfNums a ++ strOfNums b = strOfNums (a ++ b) := by
  apply ByteArray.ext
  apply Array.ext'
  rw [ByteArray.data_append, Array.toList_append, strOfNums_data, strOfNums_data, strOfNums_data, List.map_append]
theorem toList_beq (a b : ByteArray) : (a.toList == b.toList) = decide (a = b) := by
  rw [Bool.eq_iff_iff, beq_iff_eq, decide_eq_true_eq]
  refine ⟨fun h => ?_, fun h => by rw [h]⟩
  rw [ByteArray.toList_eq, ByteArray.toList_eq] at h
  exact ByteArray.ext (Array.ext' h)
/-- []byte(s): a text's bytes, to be read. -/
theorem act_str_bytes {s d e : TypeId} {x : ByteArray} (hs : isStr P s = true) (hd : slE P d = some e) (he : intT P e = some .u8) (hx : x.size ≤ maxLen)
    (hK : K (SU none (bytesI x)) σ) : AAct κ P (.conv s d) [.raw (.string x)] σ K := by
  intro φ g w vs hR hvs
  obtain ⟨v, rfl, hu⟩ := one_vs hvs
  cases hu.raw_eq
  have hrun := run_bytes_of_string (P := P) w s d e x (und_of_isStr hs) (und_of_slE hd) (und_of_intT he)
  have hcap := grownCap_ge w x.size 0 e
  have hcapm := grownCap_le_maxLen w x.size 0 e hx
  generalize grownCap w x.size 0 e = c at hrun hcap hcapm
  generalize hfz : ((bytesRow x c).size, (bytesRow x c).size + 1) = fz at hrun
  have hRd : Rel κ g (φ ++ σ) w.drew := hR.drew _
  have hge0 : GE g w g w.drew := GE.drew _
  have H := GE.alloc hRd (.cells (bytesRow x c) e fz) x.size
  have hsize : w.drew.heap.size = w.heap.size := rfl
  refine ⟨_, _, upd g w.heap.size x.size, SU none (bytesI x), σ, hrun, ?_, hge0.trans H, ?_, hK⟩
  · exact hRd.lost H rfl rfl rfl (by simp) (fun b hb => get_push_lt _ _ b hb) (fun b hb => upd_other hb)
  · refine VR.sl_mk (by rw [List.length_map, bytesI_len]) (by rw [List.length_map, bytesI_len]; exact hcap) hcapm (by decide) ?_ ?_ ?_ (fun t ht => by cases ht)
    · intro i y hy
      rw [List.getElem?_map] at hy
      cases h : (bytesI x)[i]? with
      | none => rw [h] at hy; cases hy
      | some z => rw [h] at hy; cases hy; rfl
    · intro i y k z hy hz
      rw [List.getElem?_map] at hy
      cases h : (bytesI x)[i]? with
      | none => rw [h] at hy; cases hy
      | some n =>
        rw [h] at hy; cases hy
        cases k with
        | succ k => simp [AV.cells] at hz
        | zero =>
          simp [AV.cells] at hz
          subst hz
          refine ⟨.int .u8 n, ?_, .raw _⟩
          have hi : i < x.data.size := by
            have := lt_of_get h; rw [bytesI_len] at this; exact this
          simp only [World.cell?]
          rw [show (w.drew.alloc (Obj.cells (bytesRow x c) e fz)).heap[w.heap.size]? = _ from get_push_eq w.drew _]
          simp only [Option.isSome_none, Bool.false_eq_true, if_false, Nat.zero_add, Nat.mul_one, Nat.add_zero, bytesRow]
          rw [Array.getElem?_append_left (by simpa using hi)]
          simp only [bytesI, List.getElem?_map] at h
          simp only [Array.getElem?_map]
          cases hb : x.data.toList[i]? with
          | none => rw [hb] at h; cases h
          | some b => 
            rw [hb] at h
            simp only [Option.map_some, Option.some.injEq] at h
            have : x.data[i]? = some b := by simpa using hb
            rw [this, ← h]
            rfl
    · rw [List.length_map, bytesI_len, upd_same]; omega

/-- An array's place. -/
theorem act_idx_arr {t e n sz b o : Nat} {k : IntKind} {i : Int} (ha : arrT P t = some (n, e)) (hs : szT P e = some sz) (h0 : 0 ≤ i) (h1 : i < n) (hK : K (.raw (.pointer (some ⟨b, o + i.toNat * sz, none⟩))) σ) :
    AAct κ P (.indexAddr t) [.raw (.pointer (some ⟨b, o, none⟩)), .raw (.int k i)] σ K := by
  intro φ g w vs hR hvs
  obtain ⟨v, u, rfl, hv, hu⟩ := two_vs hvs
  cases hv.raw_eq
  cases hu.raw_eq
  have hun : P.underlying t = some (.array n e) := by
    unfold arrT at ha
    split at ha
    · rename_i h; cases ha; exact h
    · cases ha
  refine ⟨_, w, g, _, σ, ?_, hR, GE.refl _ _, .raw _, hK⟩
  simp [MA.sem, nth, Instr.indexAt, asIntOf, run_und hun, Instr.sureAddr, h0, h1, run_szT hs, Addr.add_lit]

section
variable {dm : Bool} {all rest : List Oper} {Q : Exit → St → Prop} {d : Option Tmp} {t : List AV} {fr : Bool} {df : List Deferred} {a b : TypeId}
theorem convC_sl {sz : Nat} {o : Option (Option (Nat × Nat))} {l : List AV} : convC κ dm P all Q d rest ⟨t, σ, fr, df⟩ a b (.sl sz o l) = actC κ dm P all Q d rest ⟨t, σ, fr, df⟩ (.conv a b) [.sl sz o l] := rfl
theorem idxC_ptr {p : Option Addr} {k : IntKind} {i : Int} : idxC κ dm P all Q d rest ⟨t, σ, fr, df⟩ a (.raw (.pointer p)) (.raw (.int k i)) = actC κ dm P all Q d rest ⟨t, σ, fr, df⟩ (.indexAddr a) [.raw (.pointer p), .raw (.int k i)] := rfl
theorem convC_str {x : ByteArray} : convC κ dm P all Q d rest ⟨t, σ, fr, df⟩ a b (.raw (.string x)) = actC κ dm P all Q d rest ⟨t, σ, fr, df⟩ (.conv a b) [.raw (.string x)] := rfl
end
theorem leS_rfl {x : AV} : leS x x := fun _ _ _ h => h
theorem leS_tup {xs ys : List AV} (h : leSL xs ys) : leS (.tup xs) (.tup ys) := fun g w v hv => by
  cases hv with
  | tup vs hs hv =>
    have ht : TR g w xs vs := ⟨hs, hv⟩
    have h2 := ht.leS h
    exact .tup vs h2.size h2.get
theorem leS_agg {xs ys : List AV} (h : leSL xs ys) : leS (.agg xs) (.agg ys) := fun g w v hv => by
  cases hv with
  | agg vs hs hv =>
    have ht : TR g w xs vs := ⟨hs, hv⟩
    have h2 := ht.leS h
    exact .agg vs h2.size h2.get
theorem leS_eq {x y : AV} (h : x = y) : leS x y := h ▸ leS_rfl
theorem leS_trans {x y z : AV} (h : leS x y) (k : leS y z) : leS x z := fun g w v hv => k g w v (h g w v hv)
/-- What is left, told weaker by what it reads as. -/
def RetS : Ret → Ret → Prop
  | .ret x, .ret y => leS x y
  | .pan c, .pan d => c = d
  | _, _ => False
def DropS (K : Ret → List Res → Prop) : Ret → List Res → Prop := fun r σ' => ∃ (ρ : List Res) (r' : Ret), Sub ρ σ' ∧ RetS r r' ∧ K r' ρ
theorem dropS_post {K : Ret → List Res → Prop} {φ : List Res} {g : Nat → Nat} {w : World} {e : Ending} {w' : World} (h : CPost κ φ g w (DropS K) e w') : CPost κ φ g w K e w' := by
  obtain ⟨g', σ', r, h1, h2, h3, ρ, r', ⟨σ2, hp, hs⟩, hle, hk⟩ := h
  refine ⟨g', ρ, r', ?_, h2, ?_, hk⟩
  · exact (h1.sub ((List.Sublist.refl φ).append hs)).perm (hp.append_left φ)
  · cases r with
    | ret x =>
      cases r' with
      | ret y =>
        cases e with
        | returned v => exact hle _ _ _ h3
        | panicked c => exact h3.elim
        | _ => exact h3.elim
      | pan d => exact hle.elim
    | pan c =>
      cases r' with
      | ret y => exact hle.elim
      | pan d => cases hle; exact h3
theorem ACallF.dropS {f : FuncId} {args : List AV} {K : Ret → List Res → Prop} (h : ACallF κ P f args σ (DropS K)) : ACallF κ P f args σ K :=
  fun φ g w vs hR hv => CallsIn.mono (h φ g w vs hR hv) (fun _ _ hp => dropS_post hp)
theorem leafS {K : Ret → List Res → Prop} {σ σ' : List Res} {x y : AV} (hs : Sub σ σ') (h : leS x y) (hK : K (.ret y) σ) : DropS K (.ret x) σ' := ⟨σ, .ret y, hs, h, hK⟩
theorem ResW.of_eq {σ τ : List Res} (h : σ = τ) : ResW σ τ := h ▸ ResW.refl _
theorem leSL_nil : leSL [] [] := trivial
theorem leSL_cons {x y : AV} {xs ys : List AV} (h : leS x y) (h2 : leSL xs ys) : leSL (x :: xs) (y :: ys) := ⟨h, h2⟩
/-! ### Where a walk is cut -/
def Cut (p : Prop) : Prop := p
section
variable {rd : Option Nat} {Q : Exit → St → Prop} {s : St}
theorem cut_at {id : Nat} {ops : Array Oper} {d : Bool} {y : Code} (h : Cut (AW κ rd P (.seq (.region id ops d) y) Q s)) : AW κ rd P (.seq (.region id ops d) y) Q s := h
theorem cut_unit {id : Nat} {ops : Array Oper} {d : Bool} {x y : Code} (h : Cut (AW κ rd P (.seq (.seq (.region id ops d) x) y) Q s)) : AW κ rd P (.seq (.seq (.region id ops d) x) y) Q s := h
theorem cut_one {id : Nat} {ops : Array Oper} {d : Bool} (h : Cut (AW κ rd P (.region id ops d) Q s)) : AW κ rd P (.region id ops d) Q s := h
theorem cut_blk {id : Nat} {x y : Code} (h : Cut (AW κ rd P (.seq (.block id x) y) Q s)) : AW κ rd P (.seq (.block id x) y) Q s := h
theorem cut_loop {c : Code} (h : Cut (AW κ rd P (.loop c) Q s)) : AW κ rd P (.loop c) Q s := h
theorem cut_seqloop {c y : Code} (h : Cut (AW κ rd P (.loop c) (thenQ (AW κ rd P y Q) Q) s)) : AW κ rd P (.seq (.loop c) y) Q s := AW_seqA h
/-- A round's loop, in pieces. -/
theorem loopA {X : Type} (st : X → St) (C : X → Prop) (μ : X → Nat) {c : Code} (x0 : X) (hle0 : s.le (st x0)) (hC0 : C x0)
    (hround : ∀ x, C x → AW κ rd P c (thenQ (fun s' => ∃ y, s'.le (st y) ∧ C y ∧ μ y < μ x) Q) (st x)) : Cut (AW κ rd P (.loop c) Q s) := AW_loop st C μ x0 hle0 hC0 hround
/-- What the second piece begins with; the first one, in pieces. -/
theorem midA {X : Type} (st : X → St) (C : X → Prop) {x y : Code} (h1 : AW κ rd P x (thenQ (fun s' => ∃ z, s'.le (st z) ∧ C z) Q) s) (h2 : ∀ z, C z → AW κ rd P y Q (st z)) : Cut (AW κ rd P (.seq x y) Q s) := AW_midA st C h1 h2
/-- What a piece begins with is told weaker. -/
theorem cut_le {c : Code} {s' : St} (hle : s.le s') (h : AW κ rd P c Q s') : Cut (AW κ rd P c Q s) := AW_le hle h
end
/-! ### A scope through which the run goes straight -/
theorem stepR_scope {P : Program} {b : Frame} {a : Act} {k : List Item} {cs : List Frame} {w : World} {c : Code} :
    step P (lone (b.atR a (.code (.scope c) :: k)) cs w) = .next (lone (b.atR a (.code c :: .inScope c :: k)) cs w) :=
  step_lone_go (by simp [stepG, stepG.exec, Frame.atR])
theorem stepR_inScope {P : Program} {b : Frame} {a : Act} {k : List Item} {cs : List Frame} {w : World} {c : Code} :
    step P (lone (b.atR a (.inScope c :: k)) cs w) = .next (lone (b.atR a k) cs w) :=
  step_lone_go (by simp [stepG, stepG.exec, Frame.atR])
def scopeQ (Q : Exit → St → Prop) : Exit → St → Prop
  | .goto _, _ => False
  | e, s => Q e s
section
variable {Q : Exit → St → Prop} {s : St} {rd : Option Nat}
theorem scope_normal : scopeQ Q .normal s = Q .normal s := rfl
theorem scope_ret : scopeQ Q .ret s = Q .ret s := rfl
theorem scope_exit {id : Nat} : scopeQ Q (.exit id) s = Q (.exit id) s := rfl
theorem scope_panic {c : List PanicEntry} : scopeQ Q (.panic c) s = Q (.panic c) s := rfl
theorem run_scope {c : Code} : run κ P rd (.scope c) Q s = AW κ rd P (.scope c) Q s := rfl
theorem AW_scope {c : Code} (h : AW κ rd P c (scopeQ Q) s) : AW κ rd P (.scope c) Q s := fun φ g a w hs => by
  intro b k cs hro hb hr
  obtain ⟨e, a₁, w₁, hq, harr⟩ := h φ g a w hs b (.inScope c :: k) cs hro hb hr
  have h0 : (lone (b.atR a (.code (.scope c) :: k)) cs w).fenced P (FD rd) := fenced_calm hb hr rfl
  obtain ⟨g', s', hs', hge, hq⟩ := hq
  cases e with
  | normal => exact ⟨.normal, a₁, w₁, ⟨g', s', hs', hge, hq⟩, .head h0 stepR_scope (StepsIn.trans harr (.one (fenced_calm hb hr rfl) stepR_inScope))⟩
  | exit id => exact ⟨.exit id, a₁, w₁, ⟨g', s', hs', hge, hq⟩, .of_steps (.one h0 stepR_scope) ⟨fun k' hk => harr.1 k' (by simpa [exitTo] using hk), fun hr hk => harr.2 hr (by simpa [exitTo] using hk)⟩⟩
  | goto l => exact hq.elim
  | ret => exact ⟨.ret, a₁, w₁, ⟨g', s', hs', hge, hq⟩, .of_steps (.one h0 stepR_scope) harr⟩
  | panic ch => exact ⟨.panic ch, a₁, w₁, ⟨g', s', hs', hge, hq⟩, .of_steps (.one h0 stepR_scope) harr⟩
  | outgrown => exact ⟨.outgrown, a₁, w₁, ⟨g', s', hs', hge, hq⟩, .of_steps (.one h0 stepR_scope) harr⟩
end
/-! ### The greater and the smaller of two numbers -/
theorem act_max2 {ts : Array TypeId} {t : TypeId} {k : IntKind} {a b : Int} (hK : K (.raw (.int k (max a b))) σ) : AAct κ P (.minmax true ts t) [.raw (.int k a), .raw (.int k b)] σ K := by
  intro φ g w vs hR hvs
  obtain ⟨v, u, rfl, hv, hu⟩ := two_vs hvs
  cases hv.raw_eq
  cases hu.raw_eq
  have e : (if b > a then b else a) = max a b := by split <;> omega
  refine ⟨_, w, g, _, σ, ?_, hR, GE.refl _ _, .raw _, hK⟩
  show (Builtin.max_ ts t #[.int k a, .int k b]).run P w = _
  rw [← e]
  simp [Builtin.max_, Builtin.max2]
theorem act_min2 {ts : Array TypeId} {t : TypeId} {k : IntKind} {a b : Int} (hK : K (.raw (.int k (min a b))) σ) : AAct κ P (.minmax false ts t) [.raw (.int k a), .raw (.int k b)] σ K := by
  intro φ g w vs hR hvs
  obtain ⟨v, u, rfl, hv, hu⟩ := two_vs hvs
  cases hv.raw_eq
  cases hu.raw_eq
  have e : (if b < a then b else a) = min a b := by split <;> omega
  refine ⟨_, w, g, _, σ, ?_, hR, GE.refl _ _, .raw _, hK⟩
  show (Builtin.min_ ts t #[.int k a, .int k b]).run P w = _
  rw [← e]
  simp [Builtin.min_, Builtin.min2]
section
variable {fn : Func} {t : List AV} {fr : Bool} {df : List Deferred} {K : Ret → List Res → Prop}
theorem TR.three {g : Nat → Nat} {w : World} {x y z : AV} {v u r : Value} (h : VR g w x v) (h2 : VR g w y u) (h3 : VR g w z r) : TR g w [x, y, z] #[v, u, r] := by
  have := TR.cons (vs := [u, r]) h (TR.cons (vs := [r]) h2 (TR.cons (vs := []) h3 TR.nil))
  exact this
theorem res_ctt {a b c : Tmp} {ty : TypeId} {x : AV} (hf : fn.results = #[.cell a ty, .tmp b, .tmp c]) (h : LoadsTo P κ σ ty (t.getD a .any) x) (hK : K (.ret (.tup [x, t.getD b .any, t.getD c .any])) σ) : resL κ P fn K ⟨t, σ, fr, df⟩ [.cell a ty, .tmp b, .tmp c] := by
  intro φ g w tmps hR ht
  obtain ⟨p, u, h1, h2, h3⟩ := h φ g w _ hR (evT ht a)
  have h1' : tmps[a]?.getD undef = .pointer (some p) := by simpa using h1
  have h4 := TR.three h3 (evT ht b) (evT ht c)
  exact ⟨.tuple #[u, tmps.getD b undef, tmps.getD c undef], _, by simp [results, hf, h1', asAddr, h2], .tup _ h4.size h4.get, hK⟩
end
section
variable {rd : Option Nat} {Q : Exit → St → Prop} {s : St}
theorem AW_runReg {id : Nat} {ops : Array Oper} (h : run κ P rd (.region id ops false) Q s) : AW κ rd P (.region id ops false) Q s := AW_run h
theorem AW_runCond {c : Operand} {x y : Code} (h : run κ P rd (.cond c x y) Q s) : AW κ rd P (.cond c x y) Q s := AW_run h
theorem AW_runExit {id : Nat} (h : run κ P rd (.exit id) Q s) : AW κ rd P (.exit id) Q s := AW_run h
theorem AW_runRet (h : run κ P rd .ret Q s) : AW κ rd P .ret Q s := AW_run h
theorem AW_runSkip (h : run κ P rd .skip Q s) : AW κ rd P .skip Q s := AW_run h
theorem AW_runLabel {l : Nat} (h : run κ P rd (.label l) Q s) : AW κ rd P (.label l) Q s := AW_run h
end
end Go.Abs
