/-
  The abstract layer, part h: lists of operations, code, functions.
-/
import Derived.Test.YtaeacialcbahnaaMg
import Derived.LoopNIn
namespace Go.Abs
open Go.RowKit

section
variable {κ : Ctx} {P : Program} {φ : List Res} {g : Nat → Nat} {w : World} {rd : Option Nat}

theorem Post.mono {g' : Nat → Nat} {w' : World} {Q : Exit → St → Prop} {e : Exit} {a : Act} {w2 : World} (h : Post κ φ g' w' Q e a w2) (hg : GE g w g' w') : Post κ φ g w Q e a w2 := by
  obtain ⟨g2, s, h1, h2, h3⟩ := h
  exact ⟨g2, s, h1, hg.trans h2, h3⟩

theorem SR.skip {s : St} {a : Act} (h : SR κ φ g s a w) (dst : Option Tmp) : SR κ φ g { s with t := setT s.t dst U } (a.put dst undef) w := by
  obtain ⟨ds, hd, hfr, hR, ht⟩ := h
  refine ⟨ds, ?_, hfr, hR, ?_⟩
  · have : (a.put dst undef).defers = a.defers := by cases dst <;> rfl
    rw [this]; exact hd
  · obtain ⟨tm, df⟩ := a
    exact TR.put ht dst (.raw undef) df

theorem opsR_sound {dm : Bool} {all : List Oper} {Q : Exit → St → Prop} {g0 : Nat → Nat} {w0 : World} : ∀ (l : List Oper) (s : St) (g : Nat → Nat) (a : Act) (w : World), opsR κ dm P all Q l s → SR κ φ g s a w → GE g0 w0 g w → wpListIn (FD rd) 0 P all.toArray (Post κ φ g0 w0 Q) l a w
  | [], s, g, a, w, h, hs, hg => ⟨g, s, hs, hg, h⟩
  | o :: rest, s, g, a, w, h, hs, hg => by
    have yes : opR κ dm P o s (fun x σ' => opsR κ dm P all Q rest { s with t := setT s.t o.dst x, σ := σ' }) (fun c σ' => Q (.panic c) { s with σ := σ' }) → o.wpIn (FD rd) 0 P a w (wpListIn (FD rd) 0 P all.toArray (Post κ φ g0 w0 Q) rest) (Post κ φ g0 w0 Q) := by
      intro h
      refine opR_sound h hs (fun g' a' w' x σ' hs' hge hk => ?_) (fun g' w' c σ' hs' hge hk => ?_)
      · exact opsR_sound rest _ g' a' w' hk hs' (hg.trans hge)
      · exact ⟨g', _, hs', hg.trans hge, hk⟩
    have no : opsR κ dm P all Q rest { s with t := setT s.t o.dst U } → (∀ f, o.about P w a.eval = some f → (FD rd).fn f) ∧ wpListIn (FD rd) 0 P all.toArray (Post κ φ g0 w0 Q) rest (a.put o.dst undef) w :=
      fun h => ⟨fun f _ => FD_fn rd f, opsR_sound rest _ g _ w h (hs.skip o.dst) hg⟩
    simp only [opsR, guardR] at h
    simp only [wpListIn]
    split at h
    · rename_i hgd
      have : Region.wanted o (yielded all.toArray a.tmps) = true := by simp [Region.wanted, hgd]
      rw [if_pos this]
      exact yes h
    · rename_i j want hgd
      split at h
      · rename_i d hd
        split at h
        · rename_i b hb
          have hv := ev_sound hs.tr (.tmp d)
          have hv' : VR g w (.raw (.bool b)) (a.tmps.getD d undef) := by rw [← hb]; exact hv
          have he := hv'.raw_eq
          have hy : yielded all.toArray a.tmps j = some b := by
            have h1 : (all.toArray[j]?).bind (·.dst) = some d := by simpa using hd
            have h2 : a.tmps[d]? = some (.bool b) := by
              rw [Array.getD_eq_getD_getElem?] at he
              cases hx : a.tmps[d]? with
              | none => rw [hx] at he; cases he
              | some u => rw [hx] at he; simp at he; rw [he]
            unfold yielded
            rw [h1]
            simp only [Option.bind_some, h2]
          have hw : Region.wanted o (yielded all.toArray a.tmps) = (b == want) := by
            simp only [Region.wanted, hgd, hy]
            cases b <;> cases want <;> rfl
          rw [hw]
          cases hbw : (b == want) with
          | true => rw [if_pos rfl]; exact yes (h.1 hbw)
          | false => rw [if_neg (by simp)]; exact no (h.2 hbw)
        · rename_i vs hb
          have hv := ev_sound hs.tr (.tmp d)
          have hv' : VR g w (.raw (.tuple vs)) (a.tmps.getD d undef) := by rw [← hb]; exact hv
          have he := hv'.raw_eq
          have hy : yielded all.toArray a.tmps j = none := by
            have h1 : (all.toArray[j]?).bind (·.dst) = some d := by simpa using hd
            unfold yielded
            rw [h1]
            simp only [Option.bind_some]
            rw [Array.getD_eq_getD_getElem?] at he
            cases hx : a.tmps[d]? with
            | none => rfl
            | some u => rw [hx] at he; simp at he; rw [he]
          have hw : Region.wanted o (yielded all.toArray a.tmps) = false := by
            simp only [Region.wanted, hgd, hy]
            cases want <;> rfl
          rw [hw, if_neg (by simp)]
          exact no h
        · exact h.elim
      · exact h.elim

theorem VR.le {x y : AV} {v : Value} (h : x.le y) (hv : VR g w x v) : VR g w y v := by
  rcases h with rfl | rfl | ⟨sz, o, l, rfl, rfl⟩ | ⟨sz, o, rfl, hsz, rfl⟩
  · exact .any v
  · exact hv
  · rcases hv.sl_inv with ⟨rfl, ⟨ad, cp, rfl, hcp, hcpm⟩, _, h3⟩ | ⟨b, off, cap, rfl, h1, h2, h3, h4, h5, h6, h7⟩
    · cases ad with
      | none => rw [hcp rfl]; exact .slnil h3
      | some ad => exact .slzero hcpm h3
    · exact VR.sl_mk rfl h1 h2 h3 h4 h5 h6 (fun t ht => by cases ht)
  · cases hv.raw_eq
    exact .slnil hsz

theorem SR.le {s s' : St} {a : Act} (h : SR κ φ g s a w) (hl : s.le s') : SR κ φ g s' a w := by
  obtain ⟨ds, hd, hfr, hR, ht⟩ := h
  obtain ⟨h1, h2, h3, h5, h6⟩ := hl
  refine ⟨ds, by rw [h6]; exact hd, fun e => hfr (h5 e), ?_, ⟨by rw [ht.size, h1], fun k y hk => ?_⟩⟩
  · exact (h3.app (ds.map dres)) κ φ g w hR
  · have hlt : k < s.t.length := by rw [← h1]; exact lt_of_get hk
    have h0 : s.t[k]? = some (s.t[k]'hlt) := List.getElem?_eq_getElem hlt
    exact (ht.get k _ h0).le (h2 k _ _ h0 hk)

theorem run_sound : ∀ (c : Code) (Q : Exit → St → Prop) (s : St), run κ P rd c Q s → AW κ rd P c Q s
  | .skip, Q, s, h => fun φ g a w hs => wpIn_skip ⟨g, s, hs, GE.refl _ _, h⟩
  | .label _, Q, s, h => fun φ g a w hs => wpIn_label ⟨g, s, hs, GE.refl _ _, h⟩
  | .seq x y, Q, s, h => fun φ g a w hs => by
    refine wpIn_seq (wpIn_mono (run_sound x _ s h φ g a w hs) ?_)
    rintro e a' w' ⟨g', s', hs', hge, hq⟩
    cases e with
    | normal => exact wpIn_mono (run_sound y Q s' hq φ g' a' w' hs') (fun e a2 w2 hp => hp.mono hge)
    | exit id => exact ⟨g', s', hs', hge, hq⟩
    | goto id => exact ⟨g', s', hs', hge, hq⟩
    | ret => exact ⟨g', s', hs', hge, hq⟩
    | panic ch => exact ⟨g', s', hs', hge, hq⟩
    | outgrown => exact ⟨g', s', hs', hge, hq⟩
  | .cond c x y, Q, s, h => fun φ g a w hs => by
    simp only [run] at h
    split at h
    · rename_i b hb
      have hv := ev_sound hs.tr c
      rw [hb] at hv
      have hv' := hv.raw_eq
      refine wpIn_cond hv' ?_
      cases b with
      | true => exact run_sound x Q s (h.1 rfl) φ g a w hs
      | false => exact run_sound y Q s (h.2 rfl) φ g a w hs
    · exact h.elim
  | .block id c, Q, s, h => fun φ g a w hs => by
    refine wpIn_block (wpIn_mono (run_sound c _ s h φ g a w hs) ?_)
    rintro e a' w' ⟨g', s', hs', hge, hq⟩
    cases e with
    | exit id' =>
      simp only [blockQ] at hq
      simp only [Exit.inBlock]
      split at hq
      · rename_i e; rw [if_pos e]; exact ⟨g', s', hs', hge, hq⟩
      · rename_i e; rw [if_neg e]; exact ⟨g', s', hs', hge, hq⟩
    | normal => exact ⟨g', s', hs', hge, hq⟩
    | goto id => exact ⟨g', s', hs', hge, hq⟩
    | ret => exact ⟨g', s', hs', hge, hq⟩
    | panic ch => exact ⟨g', s', hs', hge, hq⟩
    | outgrown => exact ⟨g', s', hs', hge, hq⟩
  | .loop c, Q, s, h => fun φ g a w hs => by
    obtain ⟨X, st, C, μ, x0, hle0, hC0, hround⟩ := h
    have key : ∀ (m : Nat) (x : X) (g1 : Nat → Nat) (a1 : Act) (w1 : World), C x → μ x < m → SR κ φ g1 (st x) a1 w1 → GE g w g1 w1 → Code.roundsIn (FD rd) 0 P c (Post κ φ g w Q) m a1 w1 := by
      intro m
      induction m with
      | zero => intro x g1 a1 w1 _ h0; omega
      | succ m ih =>
        intro x g1 a1 w1 hC hm hs1 hg1
        rw [roundsIn_succ]
        refine wpIn_mono (run_sound c _ _ (hround x hC) φ g1 a1 w1 hs1) ?_
        rintro e a' w' ⟨g', s', hs', hge, hq⟩
        cases e with
        | normal =>
          obtain ⟨y, hle, hCy, hlt⟩ := hq
          exact ih y g' a' w' hCy (by omega) (hs'.le hle) (hg1.trans hge)
        | exit id => exact ⟨g', s', hs', hg1.trans hge, hq⟩
        | goto id => exact ⟨g', s', hs', hg1.trans hge, hq⟩
        | ret => exact ⟨g', s', hs', hg1.trans hge, hq⟩
        | panic ch => exact ⟨g', s', hs', hg1.trans hge, hq⟩
        | outgrown => exact ⟨g', s', hs', hg1.trans hge, hq⟩
    exact wpIn_loop_rounds (μ x0 + 1) (key (μ x0 + 1) x0 g a w hC0 (Nat.lt_succ_self _) (hs.le hle0) (GE.refl _ _))
  | .region id ops false, Q, s, h => fun φ g a w hs => by
    refine wpIn_region_list ?_
    have := opsR_sound (rd := rd) (φ := φ) ops.toList s g a w h hs (GE.refl g w)
    simpa using this
  | .region id ops true, Q, s, h => h
  | .exit id, Q, s, h => fun φ g a w hs => wpIn_exit ⟨g, s, hs, GE.refl _ _, h⟩
  | .ret, Q, s, h => fun φ g a w hs => wpIn_ret ⟨g, s, hs, GE.refl _ _, h⟩
  | .rangeFunc f ps x y, Q, s, h => h
  | .scope c, Q, s, h => h
  | .goto l, Q, s, h => h
  | .refuse m, Q, s, h => h

/-! ### Rules for what a piece of code comes to, where a walk is cut -/
theorem AW_run {c : Code} {Q : Exit → St → Prop} {s : St} (h : run κ P rd c Q s) : AW κ rd P c Q s := run_sound c Q s h
theorem AW_le {c : Code} {Q : Exit → St → Prop} {s s' : St} (hle : s.le s') (h : AW κ rd P c Q s') : AW κ rd P c Q s := fun φ g a w hs => h φ g a w (hs.le hle)
/-- Between two pieces: what the second one begins with. -/
theorem AW_seqA {x y : Code} {Q : Exit → St → Prop} {s : St} (h : AW κ rd P x (thenQ (AW κ rd P y Q) Q) s) : AW κ rd P (.seq x y) Q s := fun φ g a w hs => by
  refine wpIn_seq (wpIn_mono (h φ g a w hs) ?_)
  rintro e a' w' ⟨g', s', hs', hge, hq⟩
  cases e with
  | normal => exact wpIn_mono (hq φ g' a' w' hs') (fun e a2 w2 hp => hp.mono hge)
  | exit id => exact ⟨g', s', hs', hge, hq⟩
  | goto id => exact ⟨g', s', hs', hge, hq⟩
  | ret => exact ⟨g', s', hs', hge, hq⟩
  | panic ch => exact ⟨g', s', hs', hge, hq⟩
  | outgrown => exact ⟨g', s', hs', hge, hq⟩
theorem AW_seq {x y : Code} {Q : Exit → St → Prop} {s : St} (h : run κ P rd x (thenQ (AW κ rd P y Q) Q) s) : AW κ rd P (.seq x y) Q s := AW_seqA (run_sound x _ s h)
theorem AW_mono {c : Code} {Q Q' : Exit → St → Prop} {s : St} (h : AW κ rd P c Q s) (hq : ∀ e s', Q e s' → Q' e s') : AW κ rd P c Q' s := fun φ g a w hs =>
  wpIn_mono (h φ g a w hs) (fun _ _ _ ⟨g', s', h1, h2, h3⟩ => ⟨g', s', h1, h2, hq _ _ h3⟩)
theorem AW_midA {X : Type} (st : X → St) (C : X → Prop) {x y : Code} {Q : Exit → St → Prop} {s : St} (h1 : AW κ rd P x (thenQ (fun s' => ∃ z, s'.le (st z) ∧ C z) Q) s) (h2 : ∀ z, C z → AW κ rd P y Q (st z)) : AW κ rd P (.seq x y) Q s :=
  AW_seqA (AW_mono h1 (fun e s' hq => by
    cases e with
    | normal => obtain ⟨z, hle, hC⟩ := hq; exact AW_le hle (h2 z hC)
    | exit id => exact hq
    | goto id => exact hq
    | ret => exact hq
    | panic ch => exact hq
    | outgrown => exact hq))
theorem AW_mid {X : Type} (st : X → St) (C : X → Prop) {x y : Code} {Q : Exit → St → Prop} {s : St} (h1 : run κ P rd x (thenQ (fun s' => ∃ z, s'.le (st z) ∧ C z) Q) s) (h2 : ∀ z, C z → AW κ rd P y Q (st z)) : AW κ rd P (.seq x y) Q s :=
  AW_midA st C (run_sound x _ s h1) h2
theorem AW_block {id : Nat} {c : Code} {Q : Exit → St → Prop} {s : St} (h : AW κ rd P c (blockQ id Q) s) : AW κ rd P (.block id c) Q s := fun φ g a w hs => by
  refine wpIn_block (wpIn_mono (h φ g a w hs) ?_)
  rintro e a' w' ⟨g', s', hs', hge, hq⟩
  cases e with
  | exit id' =>
    simp only [blockQ] at hq
    simp only [Exit.inBlock]
    split at hq
    · rename_i e; rw [if_pos e]; exact ⟨g', s', hs', hge, hq⟩
    · rename_i e; rw [if_neg e]; exact ⟨g', s', hs', hge, hq⟩
  | normal => exact ⟨g', s', hs', hge, hq⟩
  | goto id => exact ⟨g', s', hs', hge, hq⟩
  | ret => exact ⟨g', s', hs', hge, hq⟩
  | panic ch => exact ⟨g', s', hs', hge, hq⟩
  | outgrown => exact ⟨g', s', hs', hge, hq⟩
theorem AW_cond {c : Operand} {x y : Code} {b : Bool} {Q : Exit → St → Prop} {s : St} (hb : s.ev c = .raw (.bool b)) (h1 : b = true → AW κ rd P x Q s) (h2 : b = false → AW κ rd P y Q s) : AW κ rd P (.cond c x y) Q s := fun φ g a w hs => by
  have hv := ev_sound hs.tr c
  rw [hb] at hv
  have hv' := hv.raw_eq
  refine wpIn_cond hv' ?_
  cases b with
  | true => exact h1 rfl φ g a w hs
  | false => exact h2 rfl φ g a w hs
theorem AW_loop {X : Type} (st : X → St) (C : X → Prop) (μ : X → Nat) {c : Code} {Q : Exit → St → Prop} {s : St} (x0 : X) (hle0 : s.le (st x0)) (hC0 : C x0)
    (hround : ∀ x, C x → AW κ rd P c (thenQ (fun s' => ∃ y, s'.le (st y) ∧ C y ∧ μ y < μ x) Q) (st x)) : AW κ rd P (.loop c) Q s := fun φ g a w hs => by
  have key : ∀ (m : Nat) (x : X) (g1 : Nat → Nat) (a1 : Act) (w1 : World), C x → μ x < m → SR κ φ g1 (st x) a1 w1 → GE g w g1 w1 → Code.roundsIn (FD rd) 0 P c (Post κ φ g w Q) m a1 w1 := by
    intro m
    induction m with
    | zero => intro x g1 a1 w1 _ h0; omega
    | succ m ih =>
      intro x g1 a1 w1 hC hm hs1 hg1
      rw [roundsIn_succ]
      refine wpIn_mono (hround x hC φ g1 a1 w1 hs1) ?_
      rintro e a' w' ⟨g', s', hs', hge, hq⟩
      cases e with
      | normal =>
        obtain ⟨y, hle, hCy, hlt⟩ := hq
        exact ih y g' a' w' hCy (by omega) (hs'.le hle) (hg1.trans hge)
      | exit id => exact ⟨g', s', hs', hg1.trans hge, hq⟩
      | goto id => exact ⟨g', s', hs', hg1.trans hge, hq⟩
      | ret => exact ⟨g', s', hs', hg1.trans hge, hq⟩
      | panic ch => exact ⟨g', s', hs', hg1.trans hge, hq⟩
      | outgrown => exact ⟨g', s', hs', hg1.trans hge, hq⟩
  exact wpIn_loop_rounds (μ x0 + 1) (key (μ x0 + 1) x0 g a w hC0 (Nat.lt_succ_self _) (hs.le hle0) (GE.refl _ _))

/-! ### A function -/
def ARes (κ : Ctx) (P : Program) (fn : Func) (s : St) (K : Ret → List Res → Prop) : Prop :=
  ∀ (φ : List Res) (g : Nat → Nat) (w : World) (tmps : Array Value), Rel κ g (φ ++ s.σ) w → TR g w s.t tmps → ∃ v x, (results fn tmps).run P w = .ok v w ∧ VR g w x v ∧ K (.ret x) s.σ

def resK (κ : Ctx) (P : Program) (fn : Func) (s : St) (K : Ret → List Res → Prop) : Prop :=
  match fn.results.toList with
  | [] => K (.ret (.tup [])) s.σ
  | [.tmp a] => K (.ret (s.ev (.tmp a))) s.σ
  | [.tmp a, .tmp b] => K (.ret (.tup [s.ev (.tmp a), s.ev (.tmp b)])) s.σ
  | [.tmp a, .tmp b, .tmp c] => K (.ret (.tup [s.ev (.tmp a), s.ev (.tmp b), s.ev (.tmp c)])) s.σ
  | [.tmp a, .tmp b, .tmp c, .tmp d] => K (.ret (.tup [s.ev (.tmp a), s.ev (.tmp b), s.ev (.tmp c), s.ev (.tmp d)])) s.σ
  | _ => ARes κ P fn s K

def LeaveQ (κ : Ctx) (P : Program) (fn : Func) (K : Ret → List Res → Prop) : Exit → St → Prop
  | .normal, s => s.df = [] ∧ resK κ P fn s K
  | .ret, s => s.df = [] ∧ resK κ P fn s K
  | .panic c, s => s.df = [] ∧ K (.pan c) s.σ
  | _, _ => False

theorem resK_sound {fn : Func} {s : St} {K : Ret → List Res → Prop} (h : resK κ P fn s K) : ARes κ P fn s K := by
  unfold resK at h
  have hres : fn.results = fn.results.toList.toArray := by simp
  have tup : ∀ {g : Nat → Nat} {w : World} (xs : List AV) (vs : List Value), TR g w xs vs.toArray → VR g w (.tup xs) (.tuple vs.toArray) := fun xs vs h => .tup _ h.size h.get
  intro φ g w tmps hR ht
  have hev : ∀ k, VR g w (s.ev (.tmp k)) (tmps.getD k undef) := fun k => ev_sound (a := ⟨tmps, []⟩) ht (.tmp k)
  split at h
  · rename_i e; rw [e] at hres
    exact ⟨.tuple #[], .tup [], by simp [results, hres], tup [] [] TR.nil, h⟩
  · rename_i a e; rw [e] at hres
    exact ⟨tmps.getD a undef, _, by simp [results, hres], hev a, h⟩
  · rename_i a b e; rw [e] at hres
    exact ⟨.tuple #[tmps.getD a undef, tmps.getD b undef], _, by simp [results, hres], tup _ [_, _] (TR.two (hev a) (hev b)), h⟩
  · rename_i a b c e; rw [e] at hres
    exact ⟨.tuple #[tmps.getD a undef, tmps.getD b undef, tmps.getD c undef], _, by simp [results, hres], tup _ [_, _, _] (TR.cons (hev a) (TR.two (hev b) (hev c))), h⟩
  · rename_i a b c d e; rw [e] at hres
    exact ⟨.tuple #[tmps.getD a undef, tmps.getD b undef, tmps.getD c undef, tmps.getD d undef], _, by simp [results, hres], tup _ [_, _, _, _] (TR.cons (hev a) (TR.cons (hev b) (TR.two (hev c) (hev d)))), h⟩
  · exact h φ g w tmps hR ht

/-- The marks of loops over functions are taken, one by one. -/
theorem leave_marks {fn : Func} {tmps : Array Value} {R : Ending → World → Prop} {σ : List Res} (u : FrameMode) (hu : u ≠ .run) :
    ∀ (ds : List Nat) (g : Nat → Nat) (w : World), Rel κ g (φ ++ (ds.map dres ++ σ)) w → (∀ w', Rel κ g (φ ++ σ) w' → GE g w g w' → LeavesIn Fence.wide 0 P fn tmps R [] u w') → LeavesInM Fence.wide 0 P fn tmps R (ds.map mkMark) u w
  | [], g, w, hR, h => h w hR (GE.refl _ _)
  | r :: ds, g, w, hR, h => by
    have hp : (φ ++ ((r :: ds).map dres ++ σ)).Perm (dres r :: (φ ++ (ds.map dres ++ σ))) := by
      simp only [List.map_cons, List.cons_append]
      exact List.perm_middle
    have hR' := hR.perm hp
    have hr := hR'.holds (dres r) (by simp)
    obtain ⟨h0, h1, _⟩ := hr
    have hlt : r < w.heap.size := (hR'.bnd (dres r) (by simp) r rfl).2
    refine ⟨hu, .inl ⟨r, { w with heap := w.heap.setIfInBounds r (.deferred none) }, rfl, ?_, ?_⟩⟩
    · simp [Instr.takeDeferred, getObj, setObj, Sem.run, h1, bind, Sem.bind, pure]
    · have hsame : ∀ b, b ≠ r → ({ w with heap := w.heap.setIfInBounds r (.deferred none) } : World).heap[b]? = w.heap[b]? := fun b hb => by
        simp only [Array.getElem?_setIfInBounds]
        rw [if_neg (fun e => hb e.symm)]
      have hge : GE g w g { w with heap := w.heap.setIfInBounds r (.deferred none) } := by
        refine ⟨by simp, fun _ => Nat.le_refl _, fun b o ho => ?_, fun b => ?_⟩
        · have hb : b ≠ r := fun e => by subst e; rw [h0] at ho; omega
          simp only [World.cell?]
          rw [hsame b hb]
        · by_cases hb : b = r
          · subst hb; simp [blockLen, h1]
          · simp only [blockLen]; rw [hsame b hb]; exact Nat.le_refl _
      have hR2 : Rel κ g (.blk r (.deferred none) :: (φ ++ (ds.map dres ++ σ))) { w with heap := w.heap.setIfInBounds r (.deferred none) } :=
        hR'.change hge rfl rfl rfl (by simp) (fun b hb => hsame b hb) (fun b _ => rfl) rfl rfl ⟨h0, by simp [hlt], trivial⟩
      exact leave_marks u hu ds g _ (hR2.sub (List.sublist_cons_self _ _)) (fun w' h2 h3 => h w' h2 (hge.trans h3))

theorem ACallF_introA {f : FuncId} {fn : Func} {c : Code} {args : List AV} {σ : List Res} {K : Ret → List Res → Prop} (hf : P.funcs[f]? = some fn) (hb : fn.body = some c)
    (h : AW κ none P c (LeaveQ κ P fn K) { t := args ++ List.replicate (fn.ntmps - args.length) .any, σ := σ }) : ACallF κ P f args σ K := by
  intro φ g w vs hR hv
  refine callsIn_of_wp_marks hf hb trivial ?_
  have hs : SR κ φ g { t := args ++ List.replicate (fn.ntmps - args.length) .any, σ := σ } { tmps := vs ++ Array.replicate (fn.ntmps - vs.size) undef, defers := [] } w := by
    refine ⟨[], rfl, fun _ => rfl, hR, hv.append ⟨by simp [hv.size], fun k x hk => ?_⟩⟩
    rw [List.getElem?_replicate] at hk
    split at hk
    · cases hk; exact .any _
    · cases hk
  refine wpIn_mono (h φ g _ w hs) ?_
  have leave : ∀ (g' : Nat → Nat) (s' : St) (a' : Act) (w' : World), SR κ φ g' s' a' w' → GE g w g' w' → s'.df = [] → resK κ P fn s' K → LeavesInM Fence.wide 0 P fn a'.tmps (CPost κ φ g w K) a'.defers .returning w' := by
    intro g' s' a' w' hs' hge hdf hk
    obtain ⟨ds, hd, hfr, hR', ht'⟩ := hs'
    rw [hd, hdf, List.append_nil]
    refine leave_marks (κ := κ) (φ := φ) (σ := s'.σ) .returning (by simp) ds g' w' hR' (fun w2 hR2 hge2 => ?_)
    obtain ⟨v, x, h1, h2, h3⟩ := resK_sound hk φ g' w2 a'.tmps hR2 (ht'.mono hge2)
    exact ⟨v, h1, g', s'.σ, .ret x, hR2, hge.trans hge2, h2, h3⟩
  rintro e a' w' ⟨g', s', hs', hge, hq⟩
  cases e with
  | normal => exact leave g' s' a' w' hs' hge hq.1 hq.2
  | ret => exact leave g' s' a' w' hs' hge hq.1 hq.2
  | panic ch =>
    obtain ⟨hdf, hk⟩ := hq
    obtain ⟨ds, hd, hfr, hR', ht'⟩ := hs'
    show LeavesInM Fence.wide 0 P fn a'.tmps (CPost κ φ g w K) a'.defers (.panicking ch) w'
    rw [hd, hdf, List.append_nil]
    refine leave_marks (κ := κ) (φ := φ) (σ := s'.σ) (.panicking ch) (by simp) ds g' w' hR' (fun w2 hR2 hge2 => ?_)
    exact ⟨g', s'.σ, .pan ch, hR2, hge.trans hge2, rfl, hk⟩
  | exit id => exact hq.elim
  | goto id => exact hq.elim
  | outgrown => exact hq.elim

theorem ACallF_intro {f : FuncId} {fn : Func} {c : Code} {args : List AV} {σ : List Res} {K : Ret → List Res → Prop} (hf : P.funcs[f]? = some fn) (hb : fn.body = some c)
    (h : run κ P none c (LeaveQ κ P fn K) { t := args ++ List.replicate (fn.ntmps - args.length) .any, σ := σ }) : ACallF κ P f args σ K := ACallF_introA hf hb (run_sound c _ _ h)

theorem ACallF.mono {f : FuncId} {args : List AV} {σ : List Res} {K K' : Ret → List Res → Prop} (h : ACallF κ P f args σ K) (hk : ∀ r σ', K r σ' → K' r σ') : ACallF κ P f args σ K' :=
  fun φ g w vs hR hv => CallsIn.mono (h φ g w vs hR hv) (fun _ _ ⟨g', σ', r, h1, h2, h3, h4⟩ => ⟨g', σ', r, h1, h2, h3, hk r σ' h4⟩)

theorem ACallF.perm {f : FuncId} {args : List AV} {σ σ2 : List Res} {K : Ret → List Res → Prop} (p : σ.Perm σ2) (h : ACallF κ P f args σ2 K) : ACallF κ P f args σ K :=
  fun φ g w vs hR hv => h φ g w vs (hR.perm ((List.Perm.refl φ).append p)) hv

end
end Go.Abs
