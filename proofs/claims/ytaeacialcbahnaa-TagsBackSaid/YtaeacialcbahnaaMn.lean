/-
  The abstract layer, part n: a region that draws its order: operations that each have one value whatever is done first, and behind them some in the text's order.
-/
import Derived.Test.YtaeacialcbahnaaMm
namespace Go.Abs
open Go.RowKit

/-- The operations that stand directly ahead of one. -/
def predsOf (o : Oper) : List Nat := (o.after.toList.filter (Region.binds .any)).map (·.on)

/-- All operations that stand ahead of some, as far as so many steps tell. -/
def closeP (ops : List Oper) : Nat → List Nat → List Nat
  | 0, l => l
  | n + 1, l => closeP ops n (l ++ (l.flatMap fun i => (ops[i]?).elim [] predsOf).eraseDups).eraseDups

/-- Operand slots of operation i are written by operations ahead of it alone. -/
def drawOk (ops : List Oper) (nA : Nat) : Bool :=
  ops.zipIdx.all (fun (o, i) => (predsOf o).all (fun j => decide (j < i))) &&
  (ops.take nA).all (fun o => o.dst.isSome && (o.looksAt ops.toArray).all (fun t => ops.zipIdx.all (fun (o', j) => o'.dst != some t || (predsOf o).contains j))) &&
  (ops.take nA).zipIdx.all (fun (o, i) => (ops.take nA).zipIdx.all (fun (o', j) => i == j || o.dst != o'.dst)) &&
  (ops.zipIdx.drop nA).all (fun (o, i) => if i == nA then (List.range nA).all (fun j => (closeP ops ops.length (predsOf o)).contains j) else (predsOf o).contains (i - 1)) &&
  decide (nA ≤ ops.length)

def blank (ds : List (Option Tmp)) (t : List AV) : List AV := ds.foldl (fun t d => setT t d .any) t

def isF (tF : List AV) (σ : List Res) (fr : Bool) (df : List Deferred) (e : Exit) (s : St) : Prop := e = .normal ∧ s = ⟨tF, σ, fr, df⟩

def idem (κ : Ctx) (P : Program) (all : List Oper) (tF : List AV) (σ : List Res) (fr : Bool) (df : List Deferred) : List Oper → Prop
  | [] => True
  | o :: r => opsR κ false P all (isF tF σ fr df) [o] ⟨tF, σ, fr, df⟩ ∧ idem κ P all tF σ fr df r

section
variable {κ : Ctx} {P : Program} {rd : Option Nat}

theorem opR_congr {o : Oper} {s s' : St} {K : AV → List Res → Prop} {KP : List PanicEntry → List Res → Prop} (hσ : s.σ = s'.σ) (h : ∀ x ∈ o.op.operands.toList, s.ev x = s'.ev x) (hr : opR κ false P o s K KP) : opR κ false P o s' K KP := by
  obtain ⟨dst, op, ty, pos, af, gd⟩ := o
  have hl : ∀ xs : List Operand, (∀ x ∈ xs, x ∈ op.operands.toList) → xs.map s.ev = xs.map s'.ev := fun xs hx => List.map_congr_left fun x hm => h x (hx x hm)
  have ho : ∀ o : Option Operand, (∀ x ∈ o, x ∈ op.operands.toList) → o.map s.ev = o.map s'.ev := fun o hx => by
    cases o with
    | none => rfl
    | some x => simp [h x (hx x rfl)]
  cases op with
  | move x => simp only [opR, ← hσ, ← h x (by simp [Op.operands])] at hr ⊢; exact hr
  | assign x => simp only [opR, ← hσ, ← h x (by simp [Op.operands])] at hr ⊢; exact hr
  | pick c x y => simp only [opR, ← hσ, ← h c (by simp [Op.operands]), ← h x (by simp [Op.operands]), ← h y (by simp [Op.operands])] at hr ⊢; exact hr
  | binOp b t x y u => simp only [opR, ← hσ, ← h x (by simp [Op.operands]), ← h y (by simp [Op.operands])] at hr ⊢; exact hr
  | unOp b t x => simp only [opR, ← hσ, ← h x (by simp [Op.operands])] at hr ⊢; exact hr
  | extract x i => simp only [opR, ← hσ, ← h x (by simp [Op.operands])] at hr ⊢; exact hr
  | load t x => simp only [opR, ← hσ, ← h x (by simp [Op.operands])] at hr ⊢; exact hr
  | store t x y => simp only [opR, ← hσ, ← h x (by simp [Op.operands]), ← h y (by simp [Op.operands])] at hr ⊢; exact hr
  | alloc t => simp only [opR, ← hσ] at hr ⊢; exact hr
  | box t x => simp only [opR, ← hσ, ← h x (by simp [Op.operands])] at hr ⊢; exact hr
  | build t ps =>
    have e : (ps.toList.map fun p => s.ev p.2) = ps.toList.map fun p => s'.ev p.2 := List.map_congr_left fun p hm => h p.2 (by simp only [Op.operands]; exact List.mem_map.2 ⟨p, hm, rfl⟩)
    simp only [opR, ← hσ, ← e] at hr ⊢; exact hr
  | buildSlice t n ps =>
    have e : (ps.toList.map fun p => s.ev p.2) = ps.toList.map fun p => s'.ev p.2 := List.map_congr_left fun p hm => h p.2 (by simp only [Op.operands]; exact List.mem_map.2 ⟨p, hm, rfl⟩)
    simp only [opR, ← hσ, ← e] at hr ⊢; exact hr
  | fieldAddr t x f => simp only [opR, ← hσ, ← h x (by simp [Op.operands])] at hr ⊢; exact hr
  | field t x f => simp only [opR, ← hσ, ← h x (by simp [Op.operands])] at hr ⊢; exact hr
  | indexAddr t x y => simp only [opR, ← hσ, ← h x (by simp [Op.operands]), ← h y (by simp [Op.operands])] at hr ⊢; exact hr
  | index t x y => simp only [opR, ← hσ, ← h x (by simp [Op.operands]), ← h y (by simp [Op.operands])] at hr ⊢; exact hr
  | slice t x lo hi mx => simp only [opR, ← hσ, ← h x (by simp [Op.operands]), ← ho lo (fun y hy => by simp only [Option.mem_def] at hy; simp [Op.operands, hy]), ← ho hi (fun y hy => by simp only [Option.mem_def] at hy; simp [Op.operands, hy]), ← ho mx (fun y hy => by simp only [Option.mem_def] at hy; simp [Op.operands, hy])] at hr ⊢; exact hr
  | convert a b x => simp only [opR, ← hσ, ← h x (by simp [Op.operands])] at hr ⊢; exact hr
  | makeFunc f a b => simp only [opR, ← hσ, ← hl a.toList (fun y hy => by simp [Op.operands]; left; simpa using hy), ← hl b.toList (fun y hy => by simp [Op.operands]; right; simpa using hy)] at hr ⊢; exact hr
  | makeSlice t x y => simp only [opR, ← hσ, ← h x (by simp [Op.operands]), ← h y (by simp [Op.operands])] at hr ⊢; exact hr
  | lookup t x y b => simp only [opR, ← hσ, ← h x (by simp [Op.operands]), ← h y (by simp [Op.operands])] at hr ⊢; exact hr
  | mapUpdate t x y z => simp only [opR, ← hσ, ← h x (by simp [Op.operands]), ← h y (by simp [Op.operands]), ← h z (by simp [Op.operands])] at hr ⊢; exact hr
  | makeMap t r => cases r <;> simp only [opR, ← hσ] at hr ⊢ <;> exact hr
  | typeAssert x a b c => simp only [opR, ← hσ, ← h x (by simp [Op.operands])] at hr ⊢; exact hr
  | range t x => simp only [opR, ← hσ, ← h x (by simp [Op.operands])] at hr ⊢; exact hr
  | next x b => simp only [opR, ← hσ, ← h x (by simp [Op.operands])] at hr ⊢; exact hr
  | makeInterface t x => simp only [opR, ← hσ, ← h x (by simp [Op.operands])] at hr ⊢; exact hr
  | nilCheck x => simp only [opR, ← hσ, ← h x (by simp [Op.operands])] at hr ⊢; exact hr
  | panic x => simp only [opR, ← hσ, ← h x (by simp [Op.operands])] at hr ⊢; exact hr
  | call c =>
    obtain ⟨callee, xs, ts⟩ := c
    cases callee with
    | value f => simp only [opR, ← hσ, ← h f (by simp [Op.operands, Call.operands]), ← hl xs.toList (fun y hy => by simp [Op.operands, Call.operands]; right; simpa using hy)] at hr ⊢; exact hr
    | invoke r m => exact hr.elim
    | builtin b =>
      have hm : ∀ x ∈ xs.toList, x ∈ (Op.call { callee := .builtin b, args := xs, argTypes := ts }).operands.toList := fun x hx => by simp [Op.operands, Call.operands]; simpa using hx
      have hget : ∀ k, k < xs.size → s.ev (xs.getD k (.tmp 0)) = s'.ev (xs.getD k (.tmp 0)) := fun k hk => h _ (hm _ (by simp [hk]))
      cases b with
      | len => simp only [opR, ← hσ] at hr ⊢; obtain ⟨h1, h2, h3⟩ := hr; rw [hget 0 (by omega)] at h3; exact ⟨h1, h2, h3⟩
      | cap => simp only [opR, ← hσ] at hr ⊢; obtain ⟨h1, h2, h3⟩ := hr; rw [hget 0 (by omega)] at h3; exact ⟨h1, h2, h3⟩
      | append => simp only [opR, ← hσ] at hr ⊢; obtain ⟨h1, h2, h4, h3⟩ := hr; rw [hget 0 (by omega), hget 1 (by omega)] at h3; exact ⟨h1, h2, h4, h3⟩
      | copy => simp only [opR, ← hσ] at hr ⊢; obtain ⟨h2, h3⟩ := hr; rw [hget 0 (by omega), hget 1 (by omega)] at h3; exact ⟨h2, h3⟩
      | max => simp only [opR, ← hσ, ← hl xs.toList hm] at hr ⊢; exact hr
      | min => simp only [opR, ← hσ, ← hl xs.toList hm] at hr ⊢; exact hr
      | _ => exact hr.elim
  | _ => exact hr.elim


theorem mem_preds {o : Oper} {j : Nat} (h : j ∈ predsOf o) : ∃ e ∈ o.after.toList, Region.binds .any e = true ∧ e.on = j := by
  unfold predsOf at h
  obtain ⟨e, he, rfl⟩ := List.mem_map.1 h
  obtain ⟨h1, h2⟩ := List.mem_filter.1 he
  exact ⟨e, h1, h2, rfl⟩

theorem mem_ready {ops : Array Oper} {listed : Array Bool} {i : Nat} : i ∈ Region.ready .any ops listed ↔ i < ops.size ∧ listed.getD i true = false ∧ ∀ o, ops[i]? = some o → ∀ j ∈ predsOf o, listed.getD j false = true := by
  unfold Region.ready
  rw [List.mem_filter, List.mem_range]
  constructor
  · rintro ⟨h1, h2⟩
    simp only [Bool.and_eq_true, Bool.not_eq_true'] at h2
    refine ⟨h1, h2.1, fun o ho j hj => ?_⟩
    obtain ⟨e, he, hb, rfl⟩ := mem_preds hj
    have h3 := h2.2
    rw [ho] at h3
    simp only [Option.map_some, Option.getD_some, Array.all_eq_true'] at h3
    have := h3 e (by simpa using he)
    simpa [hb] using this
  · rintro ⟨h1, h2, h3⟩
    refine ⟨h1, ?_⟩
    have ho : ops[i]? = some (ops[i]'h1) := Array.getElem?_eq_getElem h1
    rw [ho]
    simp only [h2, Bool.not_false, Bool.true_and, Option.map_some, Option.getD_some, Array.all_eq_true']
    intro e he
    by_cases hb : Region.binds .any e = true
    · have : e.on ∈ predsOf (ops[i]'h1) := List.mem_map.2 ⟨e, List.mem_filter.2 ⟨by simpa using he, hb⟩, rfl⟩
      simp [h3 _ ho _ this]
    · simp [hb]

theorem closeP_listed {ops : List Oper} {L : Nat → Prop} (hcl : ∀ i o, L i → ops[i]? = some o → ∀ j ∈ predsOf o, L j) : ∀ (n : Nat) (l : List Nat), (∀ i ∈ l, L i) → ∀ j ∈ closeP ops n l, L j
  | 0, l, h => h
  | n + 1, l, h => by
    refine closeP_listed hcl n _ (fun i hi => ?_)
    rcases List.mem_append.1 (List.mem_eraseDups.1 hi) with hi | hi
    · exact h i hi
    · have hi := List.mem_eraseDups.1 hi
      obtain ⟨k, hk, hik⟩ := List.mem_flatMap.1 hi
      cases ho : ops[k]? with
      | none => simp [ho] at hik
      | some o => simp [ho] at hik; exact hcl k o (h k hk) ho i hik

theorem idem_get {all : List Oper} {tF : List AV} {σ : List Res} {fr : Bool} {df : List Deferred} : ∀ {l : List Oper}, idem κ P all tF σ fr df l → ∀ (i : Nat) (o : Oper), l[i]? = some o → opsR κ false P all (isF tF σ fr df) [o] ⟨tF, σ, fr, df⟩
  | [], _, i, o, h => by simp at h
  | x :: l, h, 0, o, ho => by simp at ho; subst ho; exact h.1
  | x :: l, h, i + 1, o, ho => idem_get h.2 i o (by simpa using ho)

/-- How many operations are still to come. -/
def unl (listed : Array Bool) (n : Nat) : Nat := ((List.range n).filter fun i => !listed.getD i false).length

theorem unl_set {listed : Array Bool} {n i : Nat} (hsz : listed.size = n) (hi : i < n) (hl : listed.getD i true = false) : unl (listed.setIfInBounds i true) n + 1 ≤ unl listed n := by
  unfold unl
  have hl' : listed.getD i false = false := by
    have : i < listed.size := by omega
    simp only [Array.getD_eq_getD_getElem?, Array.getElem?_eq_getElem this, Option.getD_some] at hl ⊢
    exact hl
  have e : (List.range n).filter (fun k => !(listed.setIfInBounds i true).getD k false) = ((List.range n).filter fun k => !listed.getD k false).filter fun k => k != i := by
    rw [List.filter_filter]
    apply List.filter_congr
    intro k hk
    have hkn : k < n := List.mem_range.1 hk
    by_cases e : k = i
    · subst e
      have : k < listed.size := by omega
      simp [Array.getD_eq_getD_getElem?, this]
    · have hne : i ≠ k := fun h => e h.symm
      simp [Array.getD_eq_getD_getElem?, Array.getElem?_setIfInBounds_ne hne, e]
  rw [e]
  have hm : i ∈ (List.range n).filter fun k => !listed.getD k false := List.mem_filter.2 ⟨List.mem_range.2 hi, by simp [hl']⟩
  have hnd : ((List.range n).filter fun k => !listed.getD k false).Nodup := List.nodup_range.filter _
  have e2 : (((List.range n).filter fun k => !listed.getD k false).filter fun k => k != i) = ((List.range n).filter fun k => !listed.getD k false).erase i := (hnd.erase_eq_filter i).symm
  rw [e2, List.length_erase_of_mem hm]
  have := List.length_pos_of_mem hm
  omega

theorem unl_zero {listed : Array Bool} {n : Nat} (h : unl listed n = 0) : ∀ i, i < n → listed.getD i false = true := by
  intro i hi
  unfold unl at h
  have h2 := List.length_eq_zero_iff.1 h
  have h3 := List.filter_eq_nil_iff.1 h2 i (List.mem_range.2 hi)
  simpa using h3


/-- One operation of a list, wherever it is taken. -/
theorem ops_stepG {all : List Oper} {o : Oper} {s : St} {φ : List Res} {g : Nat → Nat} {a : Act} {w : World} {next : Act → World → Prop} {Qp : Exit → Act → World → Prop} {K : AV → List Res → Prop} {KP : List PanicEntry → List Res → Prop} {Y : Prop}
    (h : guardR all o s (opR κ false P o s K KP) Y) (hs : SR κ φ g s a w) (hn : NextR κ φ g w s o.dst K next)
    (hno : Y → SR κ φ g { s with t := setT s.t o.dst U } (a.put o.dst undef) w → next (a.put o.dst undef) w)
    (hp : ∀ g' w' c σ', SR κ φ g' { s with σ := σ' } a w' → GE g w g' w' → KP c σ' → Qp (.panic c) a w') :
    if Region.wanted o (yielded all.toArray a.tmps) then o.wpIn (FD rd) 0 P a w next Qp else (∀ f, o.about P w a.eval = some f → (FD rd).fn f) ∧ next (a.put o.dst undef) w := by
  have yes : opR κ false P o s K KP → o.wpIn (FD rd) 0 P a w next Qp := fun h => opR_sound h hs hn hp
  have no : Y → (∀ f, o.about P w a.eval = some f → (FD rd).fn f) ∧ next (a.put o.dst undef) w := fun h => ⟨fun f _ => FD_fn rd f, hno h (hs.skip o.dst)⟩
  simp only [guardR] at h
  split at h
  · rename_i hgd
    have : Region.wanted o (yielded all.toArray a.tmps) = true := by simp [Region.wanted, hgd]
    rw [if_pos this]
    exact yes h
  · rename_i j want hgd
    split at h
    · rename_i d hd
      split at h
      · rename_i b hb
        have hv := ev_sound hs.tr (.tmp d)
        have hv' : VR g w (.raw (.bool b)) (a.tmps.getD d undef) := by rw [← hb]; exact hv
        have he := hv'.raw_eq
        have hy : yielded all.toArray a.tmps j = some b := by
          have h1 : (all.toArray[j]?).bind (·.dst) = some d := by simpa using hd
          have h2 : a.tmps[d]? = some (.bool b) := by
            rw [Array.getD_eq_getD_getElem?] at he
            cases hx : a.tmps[d]? with
            | none => rw [hx] at he; cases he
            | some u => rw [hx] at he; simp at he; rw [he]
          unfold yielded
          rw [h1]
          simp only [Option.bind_some, h2]
        have hw : Region.wanted o (yielded all.toArray a.tmps) = (b == want) := by
          simp only [Region.wanted, hgd, hy]
          cases b <;> cases want <;> rfl
        rw [hw]
        cases hbw : (b == want) with
        | true => rw [if_pos rfl]; exact yes (h.1 hbw)
        | false => rw [if_neg (by simp)]; exact no (h.2 hbw)
      · rename_i vs hb
        have hv := ev_sound hs.tr (.tmp d)
        have hv' : VR g w (.raw (.tuple vs)) (a.tmps.getD d undef) := by rw [← hb]; exact hv
        have he := hv'.raw_eq
        have hy : yielded all.toArray a.tmps j = none := by
          have h1 : (all.toArray[j]?).bind (·.dst) = some d := by simpa using hd
          unfold yielded
          rw [h1]
          simp only [Option.bind_some]
          rw [Array.getD_eq_getD_getElem?] at he
          cases hx : a.tmps[d]? with
          | none => rfl
          | some u => rw [hx] at he; simp at he; rw [he]
        have hw : Region.wanted o (yielded all.toArray a.tmps) = false := by
          simp only [Region.wanted, hgd, hy]
          cases want <;> rfl
        rw [hw, if_neg (by simp)]
        exact no h
      · exact h.elim
    · exact h.elim

theorem ops_step {all : List Oper} {Q : Exit → St → Prop} {o : Oper} {rest : List Oper} {s : St} {φ : List Res} {g : Nat → Nat} {a : Act} {w : World} {next : Act → World → Prop} {Qp : Exit → Act → World → Prop}
    (h : opsR κ false P all Q (o :: rest) s) (hs : SR κ φ g s a w)
    (hn : ∀ g' a' w' x σ', SR κ φ g' ⟨setT s.t o.dst x, σ', s.fr, s.df⟩ a' w' → GE g w g' w' → opsR κ false P all Q rest ⟨setT s.t o.dst x, σ', s.fr, s.df⟩ → next a' w')
    (hp : ∀ g' w' c σ', SR κ φ g' { s with σ := σ' } a w' → GE g w g' w' → Q (.panic c) { s with σ := σ' } → Qp (.panic c) a w') :
    if Region.wanted o (yielded all.toArray a.tmps) then o.wpIn (FD rd) 0 P a w next Qp else (∀ f, o.about P w a.eval = some f → (FD rd).fn f) ∧ next (a.put o.dst undef) w :=
  ops_stepG h hs (fun g' a' w' x σ' hs' hge hk => hn g' a' w' x σ' hs' hge hk) (fun hy hs' => hn g _ w U s.σ hs' (GE.refl _ _) hy) (fun g' w' c σ' hs' hge hk => hp g' w' c σ' hs' hge hk)

theorem guardR_congr {all : List Oper} {o : Oper} {s s' : St} {X X' Y : Prop} (h : ∀ j want d, o.guard = some (j, want) → (all[j]?).bind (·.dst) = some d → s.t.getD d .any = s'.t.getD d .any) (hX : X → X') (hg : guardR all o s X Y) : guardR all o s' X' Y := by
  unfold guardR at hg ⊢
  split at hg
  · exact hX hg
  · rename_i j want hgd
    cases hd : (all[j]?).bind (·.dst) with
    | none => rw [hd] at hg; exact hg.elim
    | some d =>
      rw [hd] at hg
      simp only at hg ⊢
      rw [← h j want d hgd hd]
      split at hg
      · exact ⟨fun e => hX (hg.1 e), hg.2⟩
      · exact hg
      · exact hg.elim

theorem blank_length : ∀ (ds : List (Option Tmp)) (t : List AV), (blank ds t).length = t.length
  | [], _ => rfl
  | d :: ds, t => by
    have := blank_length ds (setT t d .any)
    simp only [blank, List.foldl_cons] at this ⊢
    rw [this]
    cases d <;> simp [setT]

theorem blank_get : ∀ (ds : List (Option Tmp)) (t : List AV) (k : Nat), (∀ d ∈ ds, d ≠ some k) → (blank ds t)[k]? = t[k]?
  | [], _, _, _ => rfl
  | d :: ds, t, k, h => by
    have := blank_get ds (setT t d .any) k (fun d' hd => h d' (by simp [hd]))
    simp only [blank, List.foldl_cons] at this ⊢
    rw [this]
    cases d with
    | none => rfl
    | some d =>
      have hne : d ≠ k := fun e => h (some d) (by simp) (by rw [e])
      simp [setT, List.getElem?_set_ne hne]

theorem getD_tt {listed : Array Bool} {n i : Nat} (hsz : listed.size = n) (hi : i < n) : listed.getD i true = listed.getD i false := by
  have : i < listed.size := by omega
  simp [Array.getD_eq_getD_getElem?, this]

theorem listed_set {listed : Array Bool} {n i j : Nat} (hsz : listed.size = n) (hi : i < n) : (listed.setIfInBounds i true).getD j false = (if j = i then true else listed.getD j false) := by
  by_cases e : j = i
  · subst e
    have : j < listed.size := by omega
    simp [Array.getD_eq_getD_getElem?, this]
  · have hne : i ≠ j := fun h => e h.symm
    simp [Array.getD_eq_getD_getElem?, Array.getElem?_setIfInBounds_ne hne, e]

/-- If some operation is still to come, one is ready. -/
theorem ready_some {l : List Oper} {listed : Array Bool} (hsz : listed.size = l.length) (hlt : ∀ i o, l[i]? = some o → ∀ j ∈ predsOf o, j < i) : ∀ (m i : Nat), i ≤ m → i < l.length → listed.getD i false = false → ∃ k, k ∈ Region.ready .any l.toArray listed := by
  intro m
  induction m with
  | zero =>
    intro i him hi hl
    refine ⟨i, mem_ready.2 ⟨by simpa using hi, by rw [getD_tt hsz hi]; exact hl, fun o ho j hj => ?_⟩⟩
    have := hlt i o (by simpa using ho) j hj
    omega
  | succ m ih =>
    intro i him hi hl
    by_cases hall : ∀ o, l[i]? = some o → ∀ j ∈ predsOf o, listed.getD j false = true
    · exact ⟨i, mem_ready.2 ⟨by simpa using hi, by rw [getD_tt hsz hi]; exact hl, fun o ho j hj => hall o (by simpa using ho) j hj⟩⟩
    · have ho : l[i]? = some (l[i]'hi) := List.getElem?_eq_getElem hi
      have : ∃ j ∈ predsOf (l[i]'hi), listed.getD j false = false := by
        refine Classical.byContradiction fun hc => hall fun o ho' j hj => ?_
        rw [ho] at ho'; cases ho'
        cases hv : listed.getD j false with
        | true => rfl
        | false => exact (hc ⟨j, hj, hv⟩).elim
      obtain ⟨j, hj, hv⟩ := this
      have hji := hlt i _ ho j hj
      exact ih j (by omega) (by omega) hv

theorem AW_draw {id : Nat} {l : List Oper} {Q : Exit → St → Prop} {t : List AV} {σ : List Res} {fr : Bool} {df : List Deferred} (nA : Nat) (tF : List AV) (hm : P.follows .mixedOrders = true) (hok : drawOk l nA = true)
    (hbl : blank ((l.take nA).map (·.dst)) tF = blank ((l.take nA).map (·.dst)) t)
    (hid : idem κ P l tF σ fr df (l.take nA)) (hrest : opsR κ false P l Q (l.drop nA) ⟨tF, σ, fr, df⟩) : AW κ rd P (.region id l.toArray true) Q ⟨t, σ, fr, df⟩ := by
  unfold drawOk at hok
  simp only [Bool.and_eq_true] at hok
  obtain ⟨⟨⟨⟨c1, c2⟩, c3⟩, c4⟩, c5⟩ := hok
  have hnA : nA ≤ l.length := by simpa using c5
  have hlt : ∀ i o, l[i]? = some o → ∀ j ∈ predsOf o, j < i := by
    intro i o ho j hj
    have := List.all_eq_true.1 c1 (o, i) (List.mem_iff_getElem?.2 ⟨i, by simp [List.getElem?_zipIdx, ho]⟩)
    simpa using List.all_eq_true.1 this j hj
  have hA : ∀ i o, l[i]? = some o → i < nA → (l.take nA)[i]? = some o := fun i o ho hi => by rw [List.getElem?_take_of_lt hi]; exact ho
  have hdst : ∀ i o, l[i]? = some o → i < nA → ∃ d, o.dst = some d := by
    intro i o ho hi
    have := List.all_eq_true.1 c2 o (List.mem_of_getElem? (hA i o ho hi))
    simp only [Bool.and_eq_true] at this
    exact Option.isSome_iff_exists.1 this.1
  have hsee : ∀ i o, l[i]? = some o → i < nA → ∀ k ∈ o.looksAt l.toArray, ∀ j o', l[j]? = some o' → o'.dst = some k → j ∈ predsOf o := by
    intro i o ho hi k hk j o' ho' hd
    have := List.all_eq_true.1 c2 o (List.mem_of_getElem? (hA i o ho hi))
    simp only [Bool.and_eq_true] at this
    have := List.all_eq_true.1 this.2 k hk
    have := List.all_eq_true.1 this (o', j) (List.mem_iff_getElem?.2 ⟨j, by simp [List.getElem?_zipIdx, ho']⟩)
    simpa [hd] using this
  have huniq : ∀ i o j o', l[i]? = some o → i < nA → l[j]? = some o' → j < nA → o.dst = o'.dst → i = j := by
    intro i o j o' ho hi ho' hj he
    have h1 := List.all_eq_true.1 c3 (o, i) (List.mem_iff_getElem?.2 ⟨i, by simp [List.getElem?_zipIdx, hA i o ho hi]⟩)
    have h2 := List.all_eq_true.1 h1 (o', j) (List.mem_iff_getElem?.2 ⟨j, by simp [List.getElem?_zipIdx, hA j o' ho' hj]⟩)
    simpa [he] using h2
  have hlate : ∀ i o, l[i]? = some o → nA ≤ i → (if i = nA then ∀ j, j < nA → j ∈ closeP l l.length (predsOf o) else i - 1 ∈ predsOf o) := by
    intro i o ho hi
    have h1 := List.all_eq_true.1 c4 (o, i) (List.mem_iff_getElem?.2 ⟨i - nA, by rw [List.getElem?_drop, List.getElem?_zipIdx, show nA + (i - nA) = i by omega, ho]; simp⟩)
    by_cases e : i = nA
    · subst e
      simp only [beq_self_eq_true, if_true] at h1 ⊢
      intro j hj
      simpa using List.all_eq_true.1 h1 j (List.mem_range.2 hj)
    · simp only [beq_iff_eq, e, if_false] at h1 ⊢
      simpa using h1
  have hlenF : tF.length = t.length := by have := congrArg List.length hbl; rwa [blank_length, blank_length] at this
  intro φ g0 a0 w0 hs0
  refine wpIn_region_any hm ?_
  -- behind the first ones: in the text's order
  have phase2 : ∀ (fuel k : Nat) (listed : Array Bool) (s : St) (g : Nat → Nat) (a : Act) (w : World), listed.size = l.length → (∀ i, i < l.length → listed.getD i false = decide (i < nA + k)) → unl listed l.length ≤ fuel → SR κ φ g s a w → GE g0 w0 g w → opsR κ false P l Q (l.drop (nA + k)) s →
      wpAnyIn (FD rd) 0 P .any l.toArray (Post κ φ g0 w0 Q) fuel listed a w := by
    intro fuel
    induction fuel with
    | zero =>
      intro k listed s g a w hsz hl hu hs hg hops
      have hall := unl_zero (Nat.le_zero.1 hu)
      have hge : l.length ≤ nA + k := by
        refine Classical.byContradiction fun hc => ?_
        have h1 := hall (nA + k) (by omega)
        rw [hl _ (by omega)] at h1
        simp at h1
      rw [List.drop_eq_nil_of_le hge] at hops
      refine ⟨List.eq_nil_iff_forall_not_mem.2 fun i hi => ?_, g, s, hs, hg, hops⟩
      obtain ⟨h1, h2, _⟩ := mem_ready.1 hi
      rw [getD_tt hsz (by simpa using h1), hall i (by simpa using h1)] at h2
      cases h2
    | succ fuel ih =>
      intro k listed s g a w hsz hl hu hs hg hops
      refine ⟨fun hr => ?_, fun i hi => ?_⟩
      · have hge : l.length ≤ nA + k := by
          refine Classical.byContradiction fun hc => ?_
          obtain ⟨i, hi⟩ := ready_some hsz hlt (nA + k) (nA + k) (Nat.le_refl _) (by omega) (by rw [hl _ (by omega)]; simp)
          rw [hr] at hi; cases hi
        rw [List.drop_eq_nil_of_le hge] at hops
        exact ⟨g, s, hs, hg, hops⟩
      · obtain ⟨h1, h2, h3⟩ := mem_ready.1 hi
        have hil : i < l.length := by simpa using h1
        rw [getD_tt hsz hil, hl i hil] at h2
        have hik : nA + k ≤ i := by simpa using h2
        have ho : l[i]? = some (l[i]'hil) := List.getElem?_eq_getElem hil
        have hi2 : i = nA + k := by
          refine Classical.byContradiction fun hc => ?_
          have h4 := hlate i _ ho (by omega)
          rw [if_neg (by omega)] at h4
          have h5 := h3 _ (by simp) _ h4
          rw [hl (i - 1) (by omega)] at h5
          simp at h5
          omega
        subst hi2
        have hdrop : l.drop (nA + k) = l[nA + k]'hil :: l.drop (nA + k + 1) := List.drop_eq_getElem_cons hil
        rw [hdrop] at hops
        unfold wpOpIn
        have ho' : l.toArray[nA + k]? = some (l[nA + k]'hil) := by simp
        rw [ho']
        refine ops_step hops hs (fun g' a' w' x σ' hs' hge' hk => ?_) (fun g' w' c σ' hs' hge' hk => ⟨g', _, hs', hg.trans hge', hk⟩)
        refine ih (k + 1) _ _ g' a' w' (by simp [hsz]) (fun j hj => ?_) ?_ hs' (hg.trans hge') hk
        · rw [listed_set hsz hil, hl j hj]
          by_cases e : j = nA + k
          · rw [if_pos e]; subst e; simp
          · rw [if_neg e]
            congr 1
            simp only [eq_iff_iff]
            omega
        · have := unl_set hsz hil (by rw [getD_tt hsz hil, hl _ hil]; simp)
          omega
  -- the first ones, in whatever order
  have phase1 : ∀ (fuel : Nat) (listed : Array Bool) (g : Nat → Nat) (a : Act) (w : World) (ds : List Nat), listed.size = l.length → (∀ i, listed.getD i false = true → i < nA) → (∀ i o, listed.getD i false = true → l[i]? = some o → ∀ j ∈ predsOf o, listed.getD j false = true) → unl listed l.length ≤ fuel →
      a.defers = ds.map mkMark ++ df → (fr = true → ds = []) → Rel κ g (φ ++ (ds.map dres ++ σ)) w → GE g0 w0 g w → a.tmps.size = tF.length →
      (∀ (k : Nat) (x : AV), tF[k]? = some x → (∀ i o, i < nA → l[i]? = some o → o.dst = some k → listed.getD i false = true) → VR g w x (a.tmps.getD k undef)) →
      wpAnyIn (FD rd) 0 P .any l.toArray (Post κ φ g0 w0 Q) fuel listed a w := by
    intro fuel
    induction fuel with
    | zero =>
      intro listed g a w ds hsz hin hcl hu hd hfr hR hg hts hv
      have hall := unl_zero (Nat.le_zero.1 hu)
      have hAl : l.length ≤ nA := by
        refine Classical.byContradiction fun hc => ?_
        have := hin nA (hall nA (by omega))
        omega
      exact phase2 0 0 listed ⟨tF, σ, fr, df⟩ g a w hsz (fun i hi => by rw [hall i hi]; simp; omega) hu ⟨ds, hd, hfr, hR, hts, fun k x hx => hv k x hx (fun i o hi ho _ => hall i (lt_of_get ho))⟩ hg (by simpa using hrest)
    | succ fuel ih =>
      intro listed g a w ds hsz hin hcl hu hd hfr hR hg hts hv
      by_cases hall : ∀ i, i < nA → listed.getD i false = true
      · refine phase2 (fuel + 1) 0 listed ⟨tF, σ, fr, df⟩ g a w hsz (fun i hi => ?_) hu ⟨ds, hd, hfr, hR, hts, fun k x hx => hv k x hx (fun i o hi ho _ => hall i hi)⟩ hg (by simpa using hrest)
        by_cases e : i < nA
        · rw [hall i e]; simp [e]
        · cases hli : listed.getD i false with
          | true => exact (e (hin i hli)).elim
          | false => simp [e]
      · have : ∃ i, i < nA ∧ listed.getD i false = false := by
          refine Classical.byContradiction fun hc => hall fun i hi => ?_
          cases hv : listed.getD i false with
          | true => rfl
          | false => exact (hc ⟨i, hi, hv⟩).elim
        obtain ⟨i0, hi0, hl0⟩ := this
        refine ⟨fun hr => ?_, fun i hi => ?_⟩
        · obtain ⟨k, hk⟩ := ready_some hsz hlt i0 i0 (Nat.le_refl _) (by omega) hl0
          rw [hr] at hk; cases hk
        · obtain ⟨h1, h2, h3⟩ := mem_ready.1 hi
          have hil : i < l.length := by simpa using h1
          have ho : l[i]? = some (l[i]'hil) := List.getElem?_eq_getElem hil
          have ho' : l.toArray[i]? = some (l[i]'hil) := by simp
          have hpre : ∀ j ∈ predsOf (l[i]'hil), listed.getD j false = true := h3 _ ho'
          have hiA : i < nA := by
            refine Classical.byContradiction fun hc => ?_
            have h4 := hlate i _ ho (by omega)
            by_cases e : i = nA
            · rw [if_pos e] at h4
              have := closeP_listed (L := fun j => listed.getD j false = true) (fun j o hj ho => hcl j o hj ho) l.length (predsOf (l[i]'hil)) hpre i0 (h4 i0 hi0)
              rw [hl0] at this; cases this
            · rw [if_neg e] at h4
              have := hin _ (hpre _ h4)
              omega
          obtain ⟨d, hdd⟩ := hdst i _ ho hiA
          have hid' := idem_get hid i _ (hA i _ ho hiA)
          -- what is known of the temporaries
          have key : ∃ tM : List AV, tM.length = tF.length ∧ (∀ (k : Nat) (x : AV), tM[k]? = some x → x = .any ∨ ((∀ i o, i < nA → l[i]? = some o → o.dst = some k → listed.getD i false = true) ∧ tF[k]? = some x)) ∧ (∀ k, (∀ i o, i < nA → l[i]? = some o → o.dst = some k → listed.getD i false = true) → tM[k]? = tF[k]?) := by
            refine ⟨tF.zipIdx.map fun p => @ite _ (∀ i o, i < nA → l[i]? = some o → o.dst = some p.2 → listed.getD i false = true) (Classical.propDecidable _) p.1 .any, by simp, fun k x hx => ?_, fun k hk => ?_⟩
            · rw [List.getElem?_map, List.getElem?_zipIdx] at hx
              cases hy : tF[k]? with
              | none => simp [hy] at hx
              | some y =>
                simp only [hy, Option.map_some, Nat.zero_add, Option.some.injEq] at hx
                split at hx
                · rename_i hc; subst hx; exact .inr ⟨hc, rfl⟩
                · exact .inl hx.symm
            · rw [List.getElem?_map, List.getElem?_zipIdx]
              cases hy : tF[k]? with
              | none => rfl
              | some y =>
                simp only [Option.map_some, Nat.zero_add, Option.some.injEq]
                rw [if_pos hk]
          obtain ⟨tM, hM1, hM2, hM3⟩ := key
          have hsM : SR κ φ g ⟨tM, σ, fr, df⟩ a w := by
            refine ⟨ds, hd, hfr, hR, by rw [hts, hM1], fun k x hx => ?_⟩
            rcases hM2 k x hx with rfl | ⟨hc, hx'⟩
            · exact .any _
            · exact hv k x hx' hc
          have hsame : ∀ k ∈ (l[i]'hil).looksAt l.toArray, tM.getD k .any = tF.getD k .any := by
            intro k hk
            have := hM3 k (fun j o hj hoj hdj => hpre j (hsee i _ ho hiA k hk j o hoj hdj))
            simp [List.getD_eq_getElem?_getD, this]
          have hops : ∀ K KP, opR κ false P (l[i]'hil) ⟨tF, σ, fr, df⟩ K KP → opR κ false P (l[i]'hil) ⟨tM, σ, fr, df⟩ K KP := by
            intro K KP h
            refine opR_congr (s := ⟨tF, σ, fr, df⟩) rfl (fun x hx => ?_) h
            cases x with
            | tmp k => exact (hsame k (by unfold Oper.looksAt; exact List.mem_append.2 (.inl (List.mem_filterMap.2 ⟨.tmp k, hx, rfl⟩)))).symm
            | const v => rfl
            | global b => rfl
            | func f => rfl
          have hgM := guardR_congr (s' := ⟨tM, σ, fr, df⟩) (fun j want k hgd hk => (hsame k (by
            unfold Oper.looksAt
            refine List.mem_append.2 (.inr ?_)
            rw [hgd]
            have : (l.toArray[j]?).bind (·.dst) = some k := by simpa using hk
            show k ∈ ((l.toArray[j]?).bind (·.dst)).toList
            rw [this]
            simp)).symm) (hops _ _) hid'
          unfold wpOpIn
          rw [ho']
          have fin : ∀ (g' : Nat → Nat) (a' : Act) (w' : World) (x : AV) (σ' : List Res), SR κ φ g' ⟨setT tM (l[i]'hil).dst x, σ', fr, df⟩ a' w' → GE g w g' w' → isF tF σ fr df .normal ⟨setT tF (l[i]'hil).dst x, σ', fr, df⟩ → wpAnyIn (FD rd) 0 P .any l.toArray (Post κ φ g0 w0 Q) fuel (listed.setIfInBounds i true) a' w' := by
            intro g' a' w' x σ' hs' hge' hk
            obtain ⟨_, hk⟩ := hk
            simp only [St.mk.injEq] at hk
            obtain ⟨hy2, rfl, _, _⟩ := hk
            rw [hdd] at hy2
            obtain ⟨ds', hd', hfr', hR', ht'⟩ := hs'
            refine ih _ g' a' w' ds' (by simpa using hsz) (fun j hj => ?_) (fun j o hj hoj k hk => ?_) ?_ hd' hfr' hR' (hg.trans hge') (by rw [ht'.size, hdd]; simp [setT, hM1]) (fun k z hz hw => ?_)
            · rw [listed_set hsz hil] at hj
              split at hj
              · omega
              · exact hin j hj
            · rw [listed_set hsz hil] at hj ⊢
              split
              · rfl
              · split at hj
                · rename_i e; subst e
                  rw [ho] at hoj; cases hoj
                  exact hpre k hk
                · exact hcl j o hj hoj k hk
            · have := unl_set hsz hil h2
              omega
            · refine ht'.get k z ?_
              simp only [hdd]
              simp only [setT] at hy2 ⊢
              by_cases e : d = k
              · subst e
                have hlen : d < tF.length := lt_of_get hz
                have h5 : tF[d]? = some x := by
                  have := congrArg (fun l : List AV => l[d]?) hy2
                  simp only [List.getElem?_set_self hlen] at this
                  exact this.symm
                rw [hz] at h5; cases h5
                rw [List.getElem?_set_self (by rw [hM1]; exact hlen)]
              · rw [List.getElem?_set_ne e]
                rw [hM3 k (fun j o hj hoj hdj => ?_)]
                · exact hz
                · have h6 := hw j o hj hoj hdj
                  rw [listed_set hsz hil] at h6
                  split at h6
                  · rename_i e2; subst e2
                    rw [ho] at hoj; cases hoj
                    rw [hdd] at hdj
                    exact (e (Option.some.inj hdj)).elim
                  · exact h6
          exact ops_stepG hgM hsM (fun g' a' w' x σ' hs' hge' hk => fin g' a' w' x σ' hs' hge' hk) (fun hy hs' => fin g _ w U σ hs' (GE.refl _ _) hy) (fun g' w' c σ' hs' hge' hk => (by cases hk.1))
  obtain ⟨ds, hd, hfr, hR, ht⟩ := hs0
  have hsz0 : (Array.replicate l.toArray.size false).size = l.length := by simp
  have hf0 : ∀ i, (Array.replicate l.toArray.size false).getD i false = false := fun i => by
    simp only [Array.getD_eq_getD_getElem?, Array.getElem?_replicate]
    split <;> rfl
  refine phase1 l.toArray.size _ g0 a0 _ ds hsz0 (fun i hi => by rw [hf0] at hi; cases hi) (fun i o hi => by rw [hf0] at hi; cases hi) ?_ hd hfr (hR.of_heap rfl rfl rfl rfl) (GE.of_heap rfl) (by rw [ht.size, hlenF]) (fun k x hx hw => ?_)
  · unfold unl
    refine Nat.le_trans (List.length_filter_le _ _) (by simp)
  · have hno : ∀ d ∈ (l.take nA).map (·.dst), d ≠ some k := by
      intro d hd' e
      subst e
      obtain ⟨o, ho, hod⟩ := List.mem_map.1 hd'
      obtain ⟨i, hi⟩ := List.mem_iff_getElem?.1 ho
      have hiA : i < nA := by have := lt_of_get hi; simp at this; omega
      rw [List.getElem?_take_of_lt hiA] at hi
      have := hw i o hiA hi hod
      rw [hf0] at this; cases this
    have h1 := blank_get _ tF k hno
    have h2 := blank_get _ t k hno
    rw [hbl, h2] at h1
    rw [← h1] at hx
    exact VR.mono (GE.of_heap (g := g0) (w := w0) (w' := { w0 with drawn := w0.drawn + 1 }) rfl) (ht.get k x hx)

end
end Go.Abs
