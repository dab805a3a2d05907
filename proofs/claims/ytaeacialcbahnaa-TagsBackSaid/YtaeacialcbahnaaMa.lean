/-
  The abstract layer, part a: abstract values, how they read in a world, resources, extension. No program in sight.
-/
import Derived.WalkKit
import Derived.WalkSpells
import Derived.OrdersIn
import Derived.RangeFuncLeaves
namespace Go.Abs
open Go.RowKit

/-- Abstract values. 'any': nothing is known. 'raw': just this value. 'sl': a slice with elements of so many cells, nil only if it has none; 'own': by which resource it may be appended to. 'cp': a pointer to cells that never change. -/
inductive AV where
  | any
  | raw (v : Value)
  | sl (sz : Nat) (own : Option (Option (Nat × Nat))) (l : List AV)
  | cp (l : List AV)
  | agg (l : List AV)
  | tup (l : List AV)
  | ifc (t : TypeId) (x : AV)
  deriving Inhabited

/-- The cells of an element. -/
def AV.cells : AV → List AV
  | .agg l => l
  | x => [x]

/-- How many cells a block has. -/
def blockLen (w : World) (b : Nat) : Nat :=
  match w.heap[b]? with
  | some (.cells c _ _) => c.size
  | _ => 0

/-- How an abstract value reads, where of block b the first 'g b' cells are protected. -/
inductive VR (g : Nat → Nat) (w : World) : AV → Value → Prop where
  | any (v : Value) : VR g w .any v
  | raw (v : Value) : VR g w (.raw v) v
  | slnil {sz : Nat} {own : Option (Option (Nat × Nat))} (hsz : 0 < sz) : VR g w (.sl sz own []) (.slice none 0 0)
  | slzero {sz cap : Nat} {a : Addr} (h2 : cap ≤ maxLen) (hsz : 0 < sz) : VR g w (.sl sz none []) (.slice (some a) 0 cap)
  | sl {sz : Nat} {own : Option (Option (Nat × Nat))} {l : List AV} {b off cap : Nat} (u : Nat → Nat → Value) (h1 : l.length ≤ cap) (h2 : cap ≤ maxLen) (hsz : 0 < sz)
      (hc : ∀ (i : Nat) (x : AV), l[i]? = some x → x.cells.length = sz)
      (hr : ∀ (i : Nat) (x : AV) (k : Nat) (y : AV), l[i]? = some x → x.cells[k]? = some y → w.cell? ⟨b, off + i * sz + k, none⟩ = some (u i k))
      (hv : ∀ (i : Nat) (x : AV) (k : Nat) (y : AV), l[i]? = some x → x.cells[k]? = some y → VR g w y (u i k))
      (hg : off + l.length * sz ≤ g b)
      (ho : ∀ t, own = some t → t = some (b, off + l.length * sz) ∧ off + cap * sz ≤ blockLen w b) :
      VR g w (.sl sz own l) (.slice (some ⟨b, off, none⟩) l.length cap)
  | cp {l : List AV} {b off : Nat} (u : Nat → Value)
      (hr : ∀ (k : Nat) (y : AV), l[k]? = some y → w.cell? ⟨b, off + k, none⟩ = some (u k))
      (hv : ∀ (k : Nat) (y : AV), l[k]? = some y → VR g w y (u k))
      (hg : off + l.length ≤ g b) : VR g w (.cp l) (.pointer (some ⟨b, off, none⟩))
  | agg {l : List AV} (vs : Array Value) (hs : vs.size = l.length) (hv : ∀ (k : Nat) (y : AV), l[k]? = some y → VR g w y (vs.getD k undef)) : VR g w (.agg l) (.agg vs)
  | tup {l : List AV} (vs : Array Value) (hs : vs.size = l.length) (hv : ∀ (k : Nat) (y : AV), l[k]? = some y → VR g w y (vs.getD k undef)) : VR g w (.tup l) (.tuple vs)
  | ifc {t : TypeId} {x : AV} {v : Value} (h : VR g w x v) : VR g w (.ifc t x) (.iface t v)

/-- From (g, w) on to (g', w'): blocks stay, protected cells stay as they are. -/
structure GE (g : Nat → Nat) (w : World) (g' : Nat → Nat) (w' : World) : Prop where
  size : w.heap.size ≤ w'.heap.size
  mono : ∀ b, g b ≤ g' b
  cell : ∀ b o, o < g b → w'.cell? ⟨b, o, none⟩ = w.cell? ⟨b, o, none⟩
  len : ∀ b, blockLen w b ≤ blockLen w' b

theorem GE.refl (g : Nat → Nat) (w : World) : GE g w g w := ⟨Nat.le_refl _, fun _ => Nat.le_refl _, fun _ _ _ => rfl, fun _ => Nat.le_refl _⟩
theorem GE.trans {g g' g'' : Nat → Nat} {w w' w'' : World} (h : GE g w g' w') (k : GE g' w' g'' w'') : GE g w g'' w'' :=
  ⟨Nat.le_trans h.size k.size, fun b => Nat.le_trans (h.mono b) (k.mono b), fun b o ho => (k.cell b o (Nat.lt_of_lt_of_le ho (h.mono b))).trans (h.cell b o ho), fun b => Nat.le_trans (h.len b) (k.len b)⟩

theorem idx_lt {i n k sz : Nat} (hi : i < n) (hk : k < sz) : i * sz + k < n * sz := by
  have : (i + 1) * sz ≤ n * sz := Nat.mul_le_mul_right sz hi
  rw [Nat.add_mul] at this
  omega

theorem lt_of_get {α : Type} {l : List α} {i : Nat} {x : α} (h : l[i]? = some x) : i < l.length := by
  rcases Nat.lt_or_ge i l.length with h' | h'
  · exact h'
  · rw [List.getElem?_eq_none h'] at h; cases h

theorem VR.mono {g g' : Nat → Nat} {w w' : World} (H : GE g w g' w') {x : AV} {v : Value} (h : VR g w x v) : VR g' w' x v := by
  induction h with
  | any v => exact .any v
  | raw v => exact .raw v
  | slnil hsz => exact .slnil hsz
  | slzero h2 hsz => exact .slzero h2 hsz
  | @sl sz own l b off cap u h1 h2 hsz hc hr hv hg ho ih =>
    refine .sl u h1 h2 hsz hc (fun i x k y hi hk => ?_) ih (Nat.le_trans hg (H.mono b)) (fun t ht => ⟨(ho t ht).1, Nat.le_trans (ho t ht).2 (H.len b)⟩)
    rw [H.cell _ _ ?_]
    · exact hr i x k y hi hk
    · have h3 := hc i x hi
      have h4 := lt_of_get hi
      have h5 := lt_of_get hk
      have h6 := idx_lt h4 (h3 ▸ h5)
      omega
  | @cp l b off u hr hv hg ih =>
    refine .cp u (fun k y hk => ?_) ih (Nat.le_trans hg (H.mono b))
    rw [H.cell _ _ ?_]
    · exact hr k y hk
    · have := lt_of_get hk; omega
  | agg vs hs hv ih => exact .agg vs hs ih
  | tup vs hs hv ih => exact .tup vs hs ih
  | ifc h ih => exact .ifc ih

/-- What a call's activation may write: 'obj': a block whose cells read so; 'tip': the end of a block to which may be appended (none: no block); 'blk': an object as it is; 'loop': a range over a function that runs. -/
inductive Res where
  | obj (b : Nat) (cs : List AV)
  | tip (t : Option (Nat × Nat))
  | blk (b : Nat) (o : Obj)
  | loop (l : Nat) (st : LoopState) (pend : Option Code) (t : List AV) (ps : Array Tmp) (assign body : Code) (d : Nat)

def Res.block : Res → Option Nat
  | .obj b _ => some b
  | .tip t => t.map (·.1)
  | .blk b _ => some b
  | .loop l .. => some l

def notCells : Obj → Prop
  | .cells .. => False
  | _ => True

/-- Temporaries that read so. -/
structure TR (g : Nat → Nat) (w : World) (t : List AV) (tmps : Array Value) : Prop where
  size : tmps.size = t.length
  get : ∀ (k : Nat) (x : AV), t[k]? = some x → VR g w x (tmps.getD k undef)

theorem TR.mono {g g' : Nat → Nat} {w w' : World} (H : GE g w g' w') {t : List AV} {tmps : Array Value} (h : TR g w t tmps) : TR g' w' t tmps :=
  ⟨h.size, fun k x hk => (h.get k x hk).mono H⟩

def Res.holds (g : Nat → Nat) (w : World) : Res → Prop
  | .obj b cs => g b = 0 ∧ ∃ arr t, w.heap[b]? = some (.cells arr t (0, 0)) ∧ TR g w cs arr
  | .tip none => True
  | .tip (some t) => g t.1 = t.2 ∧ ∃ arr ty, w.heap[t.1]? = some (.cells arr ty (0, 0))
  | .blk b o => g b = 0 ∧ w.heap[b]? = some o ∧ notCells o
  | .loop l st pend t ps assign body d => g l = 0 ∧ ∃ r, w.heap[l]? = some (.loop r) ∧ r.state = st ∧ r.pending = pend ∧ r.params = ps ∧ r.assign = assign ∧ r.body = body ∧ r.defers = d ∧ TR g w t r.tmps

/-- The world in which the outermost call began, and its number of blocks. -/
structure Ctx where
  B : Nat
  w0 : World

structure Rel (κ : Ctx) (g : Nat → Nat) (σ : List Res) (w : World) : Prop where
  below : Below κ.B κ.w0 w
  hB : κ.B ≤ w.heap.size
  nodup : (σ.filterMap Res.block).Nodup
  bnd : ∀ r ∈ σ, ∀ b, r.block = some b → κ.B ≤ b ∧ b < w.heap.size
  holds : ∀ r ∈ σ, r.holds g w
  new : ∀ b, w.heap.size ≤ b → g b = 0

theorem Rel.perm {κ : Ctx} {g : Nat → Nat} {σ σ' : List Res} {w : World} (h : Rel κ g σ w) (p : σ.Perm σ') : Rel κ g σ' w :=
  ⟨h.below, h.hB, (p.filterMap _).nodup_iff.1 h.nodup, fun r hr => h.bnd r (p.mem_iff.2 hr), fun r hr => h.holds r (p.mem_iff.2 hr), h.new⟩

theorem Rel.sub {κ : Ctx} {g : Nat → Nat} {σ σ' : List Res} {w : World} (h : Rel κ g σ w) (p : σ'.Sublist σ) : Rel κ g σ' w :=
  ⟨h.below, h.hB, (p.filterMap _).nodup h.nodup, fun r hr => h.bnd r (p.mem hr), fun r hr => h.holds r (p.mem hr), h.new⟩

theorem Rel.drop_left {κ : Ctx} {g : Nat → Nat} {φ σ : List Res} {w : World} (h : Rel κ g (φ ++ σ) w) : Rel κ g σ w := h.sub (List.sublist_append_right _ _)

end Go.Abs
