/-
  The abstract layer, part b: how resources fare when one block turns, or a new one is laid.
-/
import Derived.Test.YtaeacialcbahnaaMa
namespace Go.Abs
open Go.RowKit

theorem perm_get {α : Type} {r : α} : ∀ {σ : List α} {i : Nat}, σ[i]? = some r → σ.Perm (r :: σ.eraseIdx i)
  | [], _, h => by simp at h
  | x :: σ, 0, h => by simp at h; subst h; exact List.Perm.refl _
  | x :: σ, i + 1, h => by
    simp at h
    exact ((perm_get h).cons x).trans (List.Perm.swap _ _ _)

theorem perm_set {α : Type} {r r' : α} : ∀ {σ : List α} {i : Nat}, σ[i]? = some r → (r' :: σ.eraseIdx i).Perm (σ.set i r')
  | [], _, h => by simp at h
  | x :: σ, 0, h => by exact List.Perm.refl _
  | x :: σ, i + 1, h => by
    simp at h
    exact (List.Perm.swap _ _ _).trans ((perm_set h).cons x)

theorem perm_front {α : Type} {φ σ ρ : List α} {r : α} (h : σ.Perm (r :: ρ)) : (φ ++ σ).Perm (r :: (φ ++ ρ)) :=
  (h.append_left φ).trans List.perm_middle

theorem Res.holds_keep {g g' : Nat → Nat} {w w' : World} (H : GE g w g' w') {r : Res} (hb : ∀ b, r.block = some b → w'.heap[b]? = w.heap[b]?) (hg : ∀ b, r.block = some b → g' b = g b) (h : r.holds g w) : r.holds g' w' := by
  cases r with
  | obj b cs => obtain ⟨h0, arr, t, h1, h2⟩ := h; exact ⟨(hg _ rfl).trans h0, arr, t, (hb _ rfl).trans h1, h2.mono H⟩
  | tip t =>
    cases t with
    | none => exact trivial
    | some t => obtain ⟨h0, arr, ty, h1⟩ := h; exact ⟨(hg _ rfl).trans h0, arr, ty, (hb _ rfl).trans h1⟩
  | blk b o => obtain ⟨h0, h1, h2⟩ := h; exact ⟨(hg _ rfl).trans h0, (hb _ rfl).trans h1, h2⟩
  | loop l st pend t ps assign body d =>
    obtain ⟨h0, r, h1, a1, a2, a3, a4, a5, a6, h2⟩ := h
    exact ⟨(hg _ rfl).trans h0, r, (hb _ rfl).trans h1, a1, a2, a3, a4, a5, a6, h2.mono H⟩

theorem fm_cons {r : Res} {ρ : List Res} {b : Nat} (h : r.block = some b) : (r :: ρ).filterMap Res.block = b :: ρ.filterMap Res.block := by simp [h]
theorem fm_none {r : Res} {ρ : List Res} (h : r.block = none) : (r :: ρ).filterMap Res.block = ρ.filterMap Res.block := by simp [h]

/-- One block of one's own turns. -/
theorem Rel.change {κ : Ctx} {g g' : Nat → Nat} {r r' : Res} {ρ : List Res} {w w' : World} {c : Nat} (h : Rel κ g (r :: ρ) w) (H : GE g w g' w')
    (hos : w'.os = w.os) (htape : w'.tape = w.tape) (hout : w'.output = w.output) (hsize : w'.heap.size = w.heap.size)
    (hsame : ∀ b, b ≠ c → w'.heap[b]? = w.heap[b]?) (hg : ∀ b, b ≠ c → g' b = g b) (hc : r.block = some c) (hb : r'.block = some c) (hr : r'.holds g' w') : Rel κ g' (r' :: ρ) w' := by
  have hnd := h.nodup
  rw [fm_cons hc] at hnd
  have hn : ∀ x ∈ ρ, ∀ b, x.block = some b → b ≠ c := by
    intro x hx b hxb e
    subst e
    exact (List.nodup_cons.1 hnd).1 (List.mem_filterMap.2 ⟨x, hx, hxb⟩)
  obtain ⟨hB, hlt⟩ := h.bnd r (by simp) c hc
  refine ⟨h.below.trans ⟨hos, htape, hout, by omega, fun k hk => hsame k (by omega)⟩, by rw [hsize]; exact h.hB, ?_, ?_, ?_, ?_⟩
  · rw [fm_cons hb]; exact hnd
  · intro x hx b hxb
    rcases List.mem_cons.1 hx with rfl | hx
    · rw [hb] at hxb; cases hxb; rw [hsize]; exact ⟨hB, hlt⟩
    · rw [hsize]; exact h.bnd x (by simp [hx]) b hxb
  · intro x hx
    rcases List.mem_cons.1 hx with rfl | hx
    · exact hr
    · exact Res.holds_keep H (fun b hxb => hsame _ (hn x hx b hxb)) (fun b hxb => hg _ (hn x hx b hxb)) (h.holds x (by simp [hx]))
  · intro b hb'
    rw [hsize] at hb'
    rw [hg b (by omega)]
    exact h.new b hb'

/-- A new block is laid. -/
theorem Rel.fresh {κ : Ctx} {g g' : Nat → Nat} {r' : Res} {ρ : List Res} {w w' : World} (h : Rel κ g ρ w) (H : GE g w g' w')
    (hos : w'.os = w.os) (htape : w'.tape = w.tape) (hout : w'.output = w.output) (hsize : w'.heap.size = w.heap.size + 1)
    (hsame : ∀ b, b < w.heap.size → w'.heap[b]? = w.heap[b]?) (hg : ∀ b, b ≠ w.heap.size → g' b = g b) (hb : r'.block = some w.heap.size) (hr : r'.holds g' w') : Rel κ g' (r' :: ρ) w' := by
  refine ⟨h.below.trans ⟨hos, htape, hout, by omega, fun k hk => hsame k (by have := h.hB; omega)⟩, by have := h.hB; omega, ?_, ?_, ?_, ?_⟩
  · rw [fm_cons hb]
    refine List.nodup_cons.2 ⟨fun hm => ?_, h.nodup⟩
    obtain ⟨x, hx, hxb⟩ := List.mem_filterMap.1 hm
    have := (h.bnd x hx _ hxb).2
    omega
  · intro x hx b hxb
    rcases List.mem_cons.1 hx with rfl | hx
    · rw [hb] at hxb; cases hxb; rw [hsize]; exact ⟨h.hB, by omega⟩
    · have := h.bnd x hx b hxb; rw [hsize]; exact ⟨this.1, by omega⟩
  · intro x hx
    rcases List.mem_cons.1 hx with rfl | hx
    · exact hr
    · refine Res.holds_keep H (fun b hxb => hsame _ (h.bnd x hx b hxb).2) (fun b hxb => hg _ ?_) (h.holds x hx)
      have := (h.bnd x hx b hxb).2
      omega
  · intro b hb'
    rw [hg b (by omega)]
    exact h.new b (by omega)

/-- A new block nobody owns. -/
theorem Rel.lost {κ : Ctx} {g g' : Nat → Nat} {ρ : List Res} {w w' : World} (h : Rel κ g ρ w) (H : GE g w g' w')
    (hos : w'.os = w.os) (htape : w'.tape = w.tape) (hout : w'.output = w.output) (hsize : w'.heap.size = w.heap.size + 1)
    (hsame : ∀ b, b < w.heap.size → w'.heap[b]? = w.heap[b]?) (hg : ∀ b, b ≠ w.heap.size → g' b = g b) : Rel κ g' ρ w' := by
  refine ⟨h.below.trans ⟨hos, htape, hout, by omega, fun k hk => hsame k (by have := h.hB; omega)⟩, by have := h.hB; omega, h.nodup, ?_, ?_, ?_⟩
  · intro x hx b hxb
    have := h.bnd x hx b hxb; rw [hsize]; exact ⟨this.1, by omega⟩
  · intro x hx
    refine Res.holds_keep H (fun b hxb => hsame _ (h.bnd x hx b hxb).2) (fun b hxb => hg _ ?_) (h.holds x hx)
    have := (h.bnd x hx b hxb).2
    omega
  · intro b hb'
    rw [hg b (by omega)]
    exact h.new b (by omega)

/-- A resource without a block comes and goes. -/
theorem Rel.void {κ : Ctx} {g : Nat → Nat} {ρ : List Res} {w : World} (h : Rel κ g ρ w) : Rel κ g (.tip none :: ρ) w := by
  refine ⟨h.below, h.hB, by rw [fm_none rfl]; exact h.nodup, ?_, ?_, h.new⟩
  · intro x hx b hxb
    rcases List.mem_cons.1 hx with rfl | hx
    · cases hxb
    · exact h.bnd x hx b hxb
  · intro x hx
    rcases List.mem_cons.1 hx with rfl | hx
    · exact trivial
    · exact h.holds x hx

/-- A draw turns nothing. -/
theorem GE.of_heap {g : Nat → Nat} {w w' : World} (h : w'.heap = w.heap) : GE g w g w' :=
  ⟨by rw [h]; exact Nat.le_refl _, fun _ => Nat.le_refl _, fun _ _ _ => by simp [World.cell?, h], fun _ => by simp [blockLen, h]⟩

theorem Rel.of_heap {κ : Ctx} {g : Nat → Nat} {ρ : List Res} {w w' : World} (h : Rel κ g ρ w) (hh : w'.heap = w.heap) (hos : w'.os = w.os) (htape : w'.tape = w.tape) (hout : w'.output = w.output) : Rel κ g ρ w' := by
  refine ⟨h.below.trans ⟨hos, htape, hout, by rw [hh]; exact Nat.le_refl _, fun k _ => by rw [hh]⟩, by rw [hh]; exact h.hB, h.nodup, by rw [hh]; exact h.bnd, fun r hr => ?_, by rw [hh]; exact h.new⟩
  exact Res.holds_keep (GE.of_heap hh) (fun _ _ => by rw [hh]) (fun _ _ => rfl) (h.holds r hr)

theorem Rel.drew {κ : Ctx} {g : Nat → Nat} {ρ : List Res} {w : World} (h : Rel κ g ρ w) (n : Nat) : Rel κ g ρ { w with drawn := n } := h.of_heap rfl rfl rfl rfl
theorem GE.drew {g : Nat → Nat} {w : World} (n : Nat) : GE g w g { w with drawn := n } := GE.of_heap rfl

/-- A new block: protected as far as said. -/
def upd (g : Nat → Nat) (b n : Nat) : Nat → Nat := fun x => if x = b then n else g x
theorem upd_same (g : Nat → Nat) (b n : Nat) : upd g b n b = n := by simp [upd]
theorem upd_other {g : Nat → Nat} {b n x : Nat} (h : x ≠ b) : upd g b n x = g x := by simp [upd, h]

theorem get_push_lt (w : World) (o : Obj) (b : Nat) (h : b < w.heap.size) : (w.alloc o).heap[b]? = w.heap[b]? := by
  show (w.heap.push o)[b]? = _
  rw [Array.getElem?_push, if_neg (by omega)]
theorem get_push_eq (w : World) (o : Obj) : (w.alloc o).heap[w.heap.size]? = some o := by
  show (w.heap.push o)[w.heap.size]? = _
  rw [Array.getElem?_push, if_pos rfl]

theorem GE.alloc {κ : Ctx} {g : Nat → Nat} {ρ : List Res} {w : World} (h : Rel κ g ρ w) (o : Obj) (n : Nat) : GE g w (upd g w.heap.size n) (w.alloc o) := by
  refine ⟨by simp, fun b => ?_, fun b k hk => ?_, fun b => ?_⟩
  · by_cases e : b = w.heap.size
    · subst e; rw [h.new _ (Nat.le_refl _)]; exact Nat.zero_le _
    · rw [upd_other e]; exact Nat.le_refl _
  · have hlt : b < w.heap.size := by
      rcases Nat.lt_or_ge b w.heap.size with h' | h'
      · exact h'
      · rw [h.new _ h'] at hk; omega
    simp only [World.cell?]
    rw [get_push_lt w o b hlt]
  · rcases Nat.lt_or_ge b w.heap.size with h' | h'
    · simp only [blockLen]; rw [get_push_lt w o b h']; exact Nat.le_refl _
    · have : w.heap[b]? = none := Array.getElem?_eq_none h'
      simp [blockLen, this]

theorem upd_zero {κ : Ctx} {g : Nat → Nat} {ρ : List Res} {w : World} (h : Rel κ g ρ w) : upd g w.heap.size 0 = g := by
  funext x
  by_cases e : x = w.heap.size
  · subst e; rw [upd_same, h.new _ (Nat.le_refl _)]
  · rw [upd_other e]

/-- A new variable. -/
theorem Rel.new_obj {κ : Ctx} {g : Nat → Nat} {ρ : List Res} {w : World} (h : Rel κ g ρ w) {cs : List AV} {arr : Array Value} (t : TypeId) (hc : TR g w cs arr) :
    Rel κ g (.obj w.heap.size cs :: ρ) (w.alloc (.cells arr t)) ∧ GE g w g (w.alloc (.cells arr t)) := by
  have H := GE.alloc h (.cells arr t) 0
  rw [upd_zero h] at H
  refine ⟨h.fresh H rfl rfl rfl (by simp) (fun b hb => get_push_lt w _ b hb) (fun b _ => rfl) rfl ?_, H⟩
  exact ⟨h.new _ (Nat.le_refl _), arr, t, get_push_eq w _, hc.mono H⟩

/-- A new object that is no cells. -/
theorem Rel.new_blk {κ : Ctx} {g : Nat → Nat} {ρ : List Res} {w : World} (h : Rel κ g ρ w) (o : Obj) (ho : notCells o) :
    Rel κ g (.blk w.heap.size o :: ρ) (w.alloc o) ∧ GE g w g (w.alloc o) := by
  have H := GE.alloc h o 0
  rw [upd_zero h] at H
  exact ⟨h.fresh H rfl rfl rfl (by simp) (fun b hb => get_push_lt w _ b hb) (fun b _ => rfl) rfl ⟨h.new _ (Nat.le_refl _), get_push_eq w _, ho⟩, H⟩

theorem cell_new (w : World) (arr : Array Value) (t : TypeId) (k : Nat) : (w.alloc (.cells arr t)).cell? ⟨w.heap.size, k, none⟩ = arr[k]? := by
  simp only [World.cell?]
  rw [get_push_eq]
  simp

theorem blockLen_new (w : World) (arr : Array Value) (t : TypeId) : blockLen (w.alloc (.cells arr t)) w.heap.size = arr.size := by
  simp only [blockLen]
  rw [get_push_eq]

/-- A new row, protected as far as said, to which may be appended. -/
theorem Rel.new_row {κ : Ctx} {g : Nat → Nat} {ρ : List Res} {w : World} (h : Rel κ g ρ w) (arr : Array Value) (t : TypeId) (n : Nat) :
    Rel κ (upd g w.heap.size n) (.tip (some (w.heap.size, n)) :: ρ) (w.alloc (.cells arr t)) ∧ GE g w (upd g w.heap.size n) (w.alloc (.cells arr t)) := by
  have H := GE.alloc h (.cells arr t) n
  exact ⟨h.fresh H rfl rfl rfl (by simp) (fun b hb => get_push_lt w _ b hb) (fun b hb => upd_other hb) rfl ⟨upd_same _ _ _, arr, t, get_push_eq w _⟩, H⟩

/-! ### Resources told weaker -/
/-- Whatever these say, those say, too. -/
def ResW (σ σ' : List Res) : Prop := ∀ (κ : Ctx) (φ : List Res) (g : Nat → Nat) (w : World), Rel κ g (φ ++ σ) w → Rel κ g (φ ++ σ') w
theorem ResW.refl (σ : List Res) : ResW σ σ := fun _ _ _ _ h => h
theorem ResW.trans {σ σ' σ'' : List Res} (h : ResW σ σ') (k : ResW σ' σ'') : ResW σ σ'' := fun κ φ g w hR => k κ φ g w (h κ φ g w hR)
theorem ResW.perm {σ σ' : List Res} (p : σ.Perm σ') : ResW σ σ' := fun _ φ _ _ h => h.perm (p.append_left φ)
theorem ResW.sub {σ σ' : List Res} (p : σ'.Sublist σ) : ResW σ σ' := fun _ φ _ _ h => h.sub ((List.Sublist.refl φ).append p)
theorem ResW.void {σ : List Res} : ResW σ (.tip none :: σ) := fun _ _ _ _ h => h.void.perm List.perm_middle.symm
theorem ResW.cons {σ σ' : List Res} (r : Res) (h : ResW σ σ') : ResW (r :: σ) (r :: σ') := fun κ φ g w hR => by
  have := h κ (φ ++ [r]) g w (by simpa using hR)
  simpa using this
theorem ResW.app {σ σ' : List Res} (ρ : List Res) (h : ResW σ σ') : ResW (ρ ++ σ) (ρ ++ σ') := fun κ φ g w hR => by
  have := h κ (φ ++ ρ) g w (by simpa using hR)
  simpa using this
theorem ResW.voids {σ : List Res} : ∀ n, ResW σ (List.replicate n (Res.tip none) ++ σ)
  | 0 => by simpa using ResW.refl σ
  | n + 1 => by rw [List.replicate_succ, List.cons_append]; exact (ResW.voids n).trans ResW.void

end Go.Abs
