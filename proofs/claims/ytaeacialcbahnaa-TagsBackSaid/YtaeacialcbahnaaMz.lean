/-
  Own layer, part z: rows that are marked.
-/
import Derived.Test.YtaeacialcbahnaaMy
namespace Go.Abs
open Go.RowKit
set_option linter.unusedVariables false
/-- A block of one's own turns, and is let go. -/
theorem Rel.letgo {κ : Ctx} {g : Nat → Nat} {r : Res} {ρ : List Res} {w w' : World} {c : Nat} (h : Rel κ g (r :: ρ) w) (H : GE g w g w')
    (hos : w'.os = w.os) (htape : w'.tape = w.tape) (hout : w'.output = w.output) (hsize : w'.heap.size = w.heap.size)
    (hsame : ∀ b, b ≠ c → w'.heap[b]? = w.heap[b]?) (hc : r.block = some c) : Rel κ g ρ w' := by
  have hnd := h.nodup
  rw [fm_cons hc] at hnd
  have hn : ∀ x ∈ ρ, ∀ b, x.block = some b → b ≠ c := by
    intro x hx b hxb e
    subst e
    exact (List.nodup_cons.1 hnd).1 (List.mem_filterMap.2 ⟨x, hx, hxb⟩)
  obtain ⟨hB, hlt⟩ := h.bnd r (by simp) c hc
  refine ⟨h.below.trans ⟨hos, htape, hout, by omega, fun k hk => hsame k (by omega)⟩, by rw [hsize]; exact h.hB, (List.nodup_cons.1 hnd).2, ?_, ?_, ?_⟩
  · intro x hx b hxb
    rw [hsize]; exact h.bnd x (by simp [hx]) b hxb
  · intro x hx
    exact Res.holds_keep H (fun b hxb => hsame _ (hn x hx b hxb)) (fun _ _ => rfl) (h.holds x (by simp [hx]))
  · intro b hb'
    rw [hsize] at hb'
    exact h.new b hb'

/-- A row written out is marked: nothing more is appended to it. -/
theorem act_mark {κ : Ctx} {P : Program} {σ : List Res} {K : AV → List Res → Prop} {t e : TypeId} {sz b n : Nat} {l : List AV} (i : Nat) (h : σ[i]? = some (.tip (some (b, n)))) (ht : slE P t = some e) (he : intT P e = some .u8) (hl : 0 < l.length)
    (hK : K (.sl sz none l) (σ.eraseIdx i)) : AAct κ P (.conv t t) [.sl sz (some (some (b, n))) l] σ K := by
  intro φ g w vs hR hvs
  obtain ⟨v, rfl, hu⟩ := one_vs hvs
  have hsl := und_of_slE ht
  have hint := und_of_intT he
  have hR2 : Rel κ g (.tip (some (b, n)) :: (φ ++ σ.eraseIdx i)) w := hR.perm (perm_front (perm_get h))
  obtain ⟨hg, arr, ty, hb⟩ := hR2.holds (.tip (some (b, n))) (by simp)
  rcases hu.sl_inv with ⟨h0, _⟩ | ⟨b', off, cap, rfl, hcap, hmax, hpos, hc, hel, hgg, ho⟩
  · rw [h0] at hl; simp at hl
  · have hbb : b' = b := by
      have := (ho _ rfl).1
      simp at this; exact this.1.symm
    subst hbb
    have hlt : b' < w.heap.size := (hR2.bnd (.tip (some (b', n))) (by simp) b' rfl).2
    have hget : w.heap[b'] = .cells arr ty (0, 0) := by
      rw [Array.getElem?_eq_getElem hlt] at hb
      exact Option.some.inj hb
    have hmod : ∀ (f : Obj → Obj) (k : Nat), (w.heap.modify b' f)[k]? = if b' = k then (w.heap[k]?).map f else w.heap[k]? := by
      intro f k
      by_cases e : b' = k
      · subst e
        simp [Array.getElem?_modify]
      · simp [Array.getElem?_modify, e]
    have hcell : ∀ x, (w.freeze ⟨b', arr.size, none⟩ 1).cell? x = w.cell? x := by
      intro x
      simp only [World.cell?, World.freeze]
      rw [if_neg (by decide)]
      simp only [hmod]
      by_cases e : b' = x.block
      · rw [if_pos e, ← e, hb]; simp
      · rw [if_neg e]
    have hsame : ∀ k, k ≠ b' → (w.freeze ⟨b', arr.size, none⟩ 1).heap[k]? = w.heap[k]? := by
      intro k hk
      simp only [World.freeze]
      rw [if_neg (by decide)]
      simp only [hmod]
      rw [if_neg (fun e => hk e.symm)]
    have hlen : ∀ k, blockLen (w.freeze ⟨b', arr.size, none⟩ 1) k = blockLen w k := by
      intro k
      by_cases e : k = b'
      · subst e
        simp only [blockLen, World.freeze]
        rw [if_neg (by decide)]
        simp only [hmod, if_true, hb]
        simp
      · simp only [blockLen]; rw [hsame k e]
    have H : GE g w g (w.freeze ⟨b', arr.size, none⟩ 1) := ⟨by simp [World.freeze], fun _ => Nat.le_refl _, fun k o _ => hcell _, fun k => by rw [hlen]; exact Nat.le_refl _⟩
    refine ⟨.slice (some ⟨b', off, none⟩) l.length cap, w.freeze ⟨b', arr.size, none⟩ 1, g, .sl sz none l, σ.eraseIdx i, ?_, ?_, H, ?_, hK⟩
    · have hsh : w.shape? b' = some (ty, arr.size) := by simp [World.shape?, hb]
      show (convert t t (.slice (some ⟨b', off, none⟩) l.length cap)).run P w = _
      simp [convert, run_underlying hsl, run_underlying hint, markStringish, hsh]
    · exact hR2.letgo H rfl rfl rfl (by simp [World.freeze]) hsame rfl
    · exact VR.sl_mk rfl hcap hmax hpos hc (fun i x k y hx hy => by
        obtain ⟨u, a1, a2⟩ := hel i x k y hx hy
        exact ⟨u, by rw [hcell]; exact a1, a2.mono H⟩) hgg (fun t ht => by cases ht)
section
variable {κ : Ctx} {P : Program} {all rest : List Oper} {Q : Exit → St → Prop} {d : Option Tmp} {t : List AV} {σ : List Res} {fr : Bool} {df : List Deferred}
theorem y_mark {ty e : TypeId} {sz by_ i b n sz' : Nat} {z : Value} {l : List AV} [hs : TSl P ty e sz' by_ z] [he : TIn P e .u8] [h : HasTip σ (some (b, n)) i] (hl : 0 < l.length := by first | decide | (focus (simp; done)) | omega)
    (hK : goK κ false P all Q d rest ⟨t, σ, fr, df⟩ (.sl sz none l) (σ.eraseIdx i)) : actC κ false P all Q d rest ⟨t, σ, fr, df⟩ (.conv ty ty) [.sl sz (some (some (b, n))) l] :=
  actC_mk (act_mark i h.get hs.sl he.int hl hK)
end
theorem tn1 {i : Nat} : ((i : Int) + 1).toNat = i + 1 := by omega
theorem tn2 {i : Nat} : ((i : Int) + 2).toNat = i + 2 := by omega
end Go.Abs
