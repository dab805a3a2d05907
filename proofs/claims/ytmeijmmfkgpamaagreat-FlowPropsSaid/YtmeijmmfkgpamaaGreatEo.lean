/-
  An evaluator of calls at closed inputs, part o: conversions, ranges over texts.
-/
import Derived.Test.YtmeijmmfkgpamaaGreatEn
import Derived.Laws.IdiomStrings
namespace Go.Eva
open Go.RowKit
set_option linter.unusedVariables false
set_option linter.unusedSimpArgs false
section
variable {κ : Ctx} {P : Program} {ρ : Env} {s s' : ES} {w : World} {N : Nat} {tm : T EV} {a : Act} {x : EV} {C : CallFn} {o : Oper}

/-- Cells that no value is in are frozen. -/
theorem S.frz (h : S κ P ρ s w) {b : Nat} {arr : Array Value} {t : TypeId} {fz fz' : Nat × Nat} (hb : κ.B ≤ b) (ho : w.heap[b]? = some (.cells arr t fz)) (hf : Thaw arr fz → Thaw arr fz') : S κ P ρ s (setO w b (.cells arr t fz')) := by
  have hlt : b < w.heap.size := (Array.getElem?_eq_some_iff.1 ho).1
  have key : ∀ (l : List EV) (e : RE), OBc ρ l e w → OBc ρ l e (setO w b (.cells arr t fz')) := by
    rintro l e ⟨arr2, t2, fz2, a1, a2, a3, a4, a5⟩
    by_cases hbb : e.b = b
    · rw [hbb, ho] at a1; cases a1
      exact ⟨arr, t, fz', by rw [hbb]; exact setO_same hlt, hf a2, a3, a4, a5⟩
    · exact ⟨arr2, t2, fz2, by rw [setO_other hbb]; exact a1, a2, a3, a4, a5⟩
  refine ⟨h.below.trans ⟨rfl, rfl, rfl, by rw [setO_size]; exact Nat.le_refl _, fun k hk => setO_other (by omega)⟩, by rw [setO_size]; exact h.hB, fun u eu hu => by rw [setO_size]; exact h.dom u eu hu, ?_, h.sep⟩
  intro u y hu
  obtain ⟨e, he, hob⟩ := h.obj u y hu
  refine ⟨e, he, ?_⟩
  have oth : ∀ ob, w.heap[e.b]? = some ob → (∀ c t f, ob ≠ .cells c t f) → (setO w b (.cells arr t fz')).heap[e.b]? = w.heap[e.b]? := by
    intro ob h1 h2
    refine setO_other (fun hbb => ?_)
    rw [hbb, ho] at h1; cases h1
    exact h2 _ _ _ rfl
  cases y with
  | var l => exact key l e hob
  | row l _ _ _ => exact key l e hob
  | loop L => obtain ⟨r, e', a1, a2⟩ := hob; exact ⟨r, e', by rw [oth _ a1 (by simp)]; exact a1, a2⟩
  | iter v p => obtain ⟨a1, a2⟩ := hob; exact ⟨a1, by rw [oth _ a2 (by simp)]; exact a2⟩
  | dfr => exact (oth _ hob (by simp)).trans hob
  | map es c => exact hob
theorem und_some {src : TypeId} (h : (P.underlying src).isSome = true) : ∃ d, P.underlying src = some d := Option.isSome_iff_exists.1 h
theorem byteV_some {x : EV} {b : UInt8} (h : byteV x = some b) : x = .raw (.int .u8 b.toNat) := by
  unfold byteV at h
  split at h
  · rename_i n
    obtain ⟨h1, h2⟩ := cnd_none.1 h
    have h1 := blt_lt h1
    cases h2
    have : (UInt8.ofNat n).toNat = n := by rw [UInt8.toNat_ofNat']; exact Nat.mod_eq_of_lt h1
    rw [this]; rfl
  · cases h
theorem bytesV_some : ∀ {l : List EV} {bs : List UInt8}, bytesV l = some bs → l = bs.map fun b => .raw (.int .u8 b.toNat)
  | [], bs, h => by cases (show some [] = some bs from h); rfl
  | x :: r, bs, h => by
    obtain ⟨b, h1, h2⟩ := bO_some.1 (show (bO (byteV x) fun b => bO (bytesV r) fun bs => some (b :: bs)) = some bs from h)
    obtain ⟨cs, h3, h4⟩ := bO_some.1 h2
    cases h4
    rw [byteV_some h1, bytesV_some h3]; rfl
theorem isSl_some {x : EV} (h : isSl x = true) : ∃ b i sz n c, x = .sl b i sz n c := by cases x <;> first | (cases h; done) | exact ⟨_, _, _, _, _, rfl⟩
theorem opConv_sound (hS : S κ P ρ s w) (ht : TR ρ N tm a.tmps) {src dst : TypeId} {y : Operand} (ho : o.op = .convert src dst y) (h : opConv src dst y ⟨P, C⟩ o tm s = .val x s') : DoesN κ P ρ w (execOp a.eval o) x s' := by
  obtain ⟨v, h1, h⟩ := bR_val.1 h
  have hsel : ∀ cs b, o.op ≠ .select cs b := by rw [ho]; simp
  have e1 := ev_sound ht h1
  have hex : execOp a.eval o = (do pure (Next.value (← convert src dst (a.eval y)))) := by
    obtain ⟨od, op, ty, pos, af, gd⟩ := o
    cases ho; rfl
  rcases optRec_val h with ⟨_, h⟩ | ⟨p, h2, h⟩
  · rcases cnd_val.1 h with ⟨h2, h⟩ | ⟨h2, h⟩
    · -- a slice of bytes
      obtain ⟨e, h3, h⟩ := bR_val.1 h
      obtain ⟨kd, h4, h⟩ := bR_val.1 h
      obtain ⟨h5, hZ⟩ := cnd_bad.1 h
      have h5 := kindEq_eq h5
      subst h5
      obtain ⟨b, i, sz, n, c, rfl⟩ := isSl_some h2
      obtain ⟨re, hre, hrsz, hcap, hv⟩ := den_sl e1
      rw [hex, hv]
      rcases cnd_val.1 hZ with ⟨h6, hZ⟩ | ⟨h6, hZ⟩
      · obtain ⟨l, h7, h⟩ := bR_val.1 hZ
        obtain ⟨bs, h8, h⟩ := bR_val.1 h
        obtain ⟨n', h9, h⟩ := bR_val.1 h
        obtain ⟨h10, h⟩ := cnd_bad.1 h
        obtain ⟨rfl, rfl⟩ := val_inj.1 h
        have h10 := beq_n h10
        cases (show some n = some n' from h9)
        obtain ⟨l', h11, h12⟩ := bO_some.1 (show bO (cellsAt s b) _ = some l from h7)
        obtain ⟨h13, h14⟩ := cnd_none.1 h12
        have h13 := ble_le h13
        obtain ⟨e', he', arr, t', fz, a1, a2, a3, a4, a5⟩ := cells_obj hS h11
        rw [hre] at he'; cases he'
        rw [Nat.add_mul] at h13
        obtain ⟨olds, d1, d2, d3, d4⟩ := cr_list a5 h13
        have hl := Option.some.inj h14
        rw [hl, bytesV_some h8] at d1
        have := raw_den (ρ := ρ) (bs.map fun b => Value.int .u8 b.toNat)
        rw [List.map_map] at this
        have hol : olds = bs.map fun b => Value.int .u8 (b.toNat : Int) := by
          have h := d1.symm.trans this
          exact Option.some.inj h
        subst hol
        refine Does.next (Does.val (v := .string ⟨bs.toArray⟩) hS ?_ rfl)
        rw [← h10]
        refine run_convert_bytes_back w src dst e _ _ bs (und_slT h3) (und_intT h4) (und_strT h6) (fun j hj => ?_)
        rw [Addr.add_lit, cell_at a1]
        exact d3 j _ (by simp [hj])
      · obtain ⟨h7, h⟩ := cnd_bad.1 hZ
        obtain ⟨rfl, rfl⟩ := val_inj.1 h
        have h7 := beq_n h7
        subst h7
        have hd := hS.dom b re hre
        -- what lies there is marked, where it is a row
        have hmark : ∃ w', (markStringish ⟨re.b, re.base + i * sz, none⟩).run P w = .ok () w' ∧ S κ P ρ s w' := by
          unfold markStringish
          cases hob : w.heap[re.b]? with
          | none => exact ⟨w, by simp [World.shape?, hob], hS⟩
          | some ob =>
            cases ob with
            | cells arr t fz =>
              have hm : w.freeze ⟨re.b, arr.size, none⟩ 1 = setO w re.b (.cells arr t (if fz.1 == fz.2 then (arr.size, arr.size + 1) else (min fz.1 arr.size, max fz.2 (arr.size + 1)))) := by
                have hv := (Array.getElem?_eq_some_iff.1 hob).2
                unfold World.freeze setO
                rw [if_neg (by decide)]
                congr 1
                apply Array.ext
                · simp
                · intro k h1 h2
                  rw [Array.getElem_modify, Array.getElem_setIfInBounds]
                  by_cases e : re.b = k
                  · subst e; rw [if_pos rfl, if_pos rfl, hv]
                  · rw [if_neg e, if_neg e]
              refine ⟨_, by simp only [Sem.run_bind, run_shape, World.shape?, hob, Result.andThen_ok, run_freeze]; rfl, ?_⟩
              rw [hm]
              refine hS.frz hd.2.1 hob (fun hf => ?_)
              split
              · exact .inr (Nat.le_refl _)
              · rename_i hne
                rcases hf with hf | hf
                · exact absurd (by rw [hf]; exact beq_self_eq_true _) hne
                · exact .inr (by show arr.size ≤ min fz.1 arr.size; omega)
            | _ => exact ⟨w, by simp [World.shape?, hob], hS⟩
        obtain ⟨w', hr, hS'⟩ := hmark
        refine Does.next ⟨ρ, w', _, ?_, Env.le_refl _, hS', e1.trans (by rw [hv])⟩
        simp [convert, run_und (und_slT h3), run_und (und_intT h4), hr]
    · rcases optRec_val h with ⟨_, h⟩ | ⟨b, h3, h⟩
      · exact pureR hS ht hsel h
      · rcases optRec_val h with ⟨_, h⟩ | ⟨r, h4, h⟩
        · obtain ⟨h5, h⟩ := cnd_bad.1 h
          obtain ⟨e, h6, h⟩ := bR_val.1 h
          obtain ⟨kd, h7, h⟩ := bR_val.1 h
          obtain ⟨sz, h8, h⟩ := bR_val.1 h
          obtain ⟨h9, h⟩ := cnd_bad.1 h
          obtain ⟨h9, h10⟩ := band.1 h9
          have h9 := kindEq_eq h9
          have h10 := beq_n h10
          subst h9; subst h10
          obtain ⟨rfl, rfl⟩ := val_inj.1 h
          have hb := asStr_some h3
          subst hb
          have hlen : b.data.toList.length = b.size := by rw [Array.length_toList]; rfl
          have hr := run_bytes_of_string (P := P) w src dst e b (und_strT h5) (und_slT h6) (und_intT h7)
          have hd := raw_den (ρ := ρ) (b.data.toList.map fun b => Value.int .u8 b.toNat)
          rw [List.map_map] at hd
          have hge : b.size ≤ grownCap w b.size 0 e := grownCap_ge w b.size 0 e
          have hrow : bytesRow b (grownCap w b.size 0 e) = (b.data.toList.map fun b => Value.int .u8 b.toNat).toArray ++ Array.replicate (grownCap w b.size 0 e - b.size) (.int .u8 0) := by
            unfold bytesRow; congr 1; apply Array.ext'; simp
          have hnew := new_row (t := e) (rest := Array.replicate (grownCap w b.size 0 e - b.size) (.int .u8 0)) (cl := s.n) (so := true) (ti := true) (n := b.size) (cap := grownCap w b.size 0 e) (sz := 1)
            (fz := ((bytesRow b (grownCap w b.size 0 e)).size, (bytesRow b (grownCap w b.size 0 e)).size + 1)) (hS.drew (w.drawn + 1)) hd (by rw [List.all_eq_true]; intro y hy; obtain ⟨c, _, rfl⟩ := List.mem_map.1 hy; rfl) (by rw [List.length_map, hlen, Nat.mul_one]; exact Nat.le_refl _) hge (by simp [hlen]; show _ ≤ b.size + _; omega)
            (.inr (by rw [← hrow]; exact Nat.le_refl _)) none (.inl rfl)
          rw [hex, ← Option.some.inj (show some _ = some _ from e1), hlen]
          rw [hrow] at hr hnew
          exact Does.next ⟨_, _, _, hr, hnew⟩
        · obtain ⟨rfl, rfl⟩ := val_inj.1 h
          exact pure_sound hS ht hsel h4
  · obtain ⟨h3, h⟩ := cnd_bad.1 h
    obtain ⟨d, hd⟩ := und_some (by rw [← undA_eq]; exact h3)
    rcases optRec_val h with ⟨_, h⟩ | ⟨kd, h4, h⟩
    · exact pureR hS ht hsel h
    · obtain ⟨rfl, rfl⟩ := val_inj.1 h
      have hb := asInt_some h2
      subst hb
      rw [hex, ← Option.some.inj (show some _ = some _ from e1), wrapI_eq]
      refine Does.next (Does.val hS (v := .int kd (kd.wrap p.2)) ?_ rfl)
      simp only [convert, Sem.run_bind, run_und hd, run_und (und_intT h4), Result.andThen_ok, Conv.intToInt, Sem.run_pure]
theorem opRange_sound (hS : S κ P ρ s w) (ht : TR ρ N tm a.tmps) {t : TypeId} {y : Operand} (ho : o.op = .range t y) (h : opRange t y ⟨P, C⟩ o tm s = .val x s') : DoesN κ P ρ w (execOp a.eval o) x s' := by
  obtain ⟨v, h1, h⟩ := bR_val.1 h
  obtain ⟨h2, h⟩ := cnd_bad.1 h
  obtain ⟨rfl, rfl⟩ := val_inj.1 h
  obtain ⟨u, h5, h6⟩ := bO_some.1 h1
  have hu := asStr_some h6
  subst hu
  have hy : a.eval y = .string v := (Option.some.inj (ev_sound ht h5)).symm
  have hex : execOp a.eval o = (do pure (Next.value (← Instr.range t (a.eval y)))) := by
    obtain ⟨dst, op, ty, pos, af, gd⟩ := o
    cases ho; rfl
  have hle : ρ.le (ρ.ext s.n ⟨w.heap.size, 0, 0, 0⟩) := Env.ext_le (hS.none (Nat.le_refl _))
  rw [hex, hy]
  refine Does.next ⟨_, w.alloc (.stringIter v 0), .pointer (some ⟨w.heap.size, 0, none⟩), ?_, hle, hS.fresh (cap := 0) (sz := 0) (show OB P _ (.iter v 0) _ _ from ⟨rfl, alloc_eq⟩), ?_⟩
  · simp only [Instr.range, Sem.run_bind, run_und (und_strT h2), Result.andThen_ok, Sem.run_pure, run_newObj]; rfl
  · simp only [EV.den, Env.ext_same, Option.map_some]
theorem opNext_sound (hS : S κ P ρ s w) (ht : TR ρ N tm a.tmps) {y : Operand} {str : Bool} (ho : o.op = .next y str) (h : opNext y str ⟨P, C⟩ o tm s = .val x s') : DoesN κ P ρ w (execOp a.eval o) x s' := by
  obtain ⟨h1, h⟩ := cnd_bad.1 h
  subst h1
  obtain ⟨p, h2, h⟩ := bR_val.1 h
  obtain ⟨h3, h⟩ := cnd_bad.1 h
  obtain ⟨ob, h4, h⟩ := bR_val.1 h
  obtain ⟨u, h5, h6⟩ := bO_some.1 h2
  have hu := asPtr_some h6
  subst hu
  have h3 := beq_n h3
  obtain ⟨e, he, hv⟩ := den_ptr (ev_sound ht h5)
  cases ob with
  | iter v q =>
    obtain ⟨e', he', hb, hob⟩ := hS.obj _ _ h4
    rw [he] at he'; cases he'
    have hlen : v.data.toList.length = v.size := by rw [Array.length_toList]; rfl
    have hex : execOp a.eval o = (do pure (Next.value (← Instr.next (a.eval y) true o.type))) := by
      obtain ⟨dst, op, ty, pos, af, gd⟩ := o
      cases ho; rfl
    have hget : (getObj e.b).run P w = .ok (.stringIter v q) w := by simp [getObj, Sem.run, hob]
    rw [hex, hv, h3, hb]
    rcases cnd_val.1 (show cnd (Nat.blt q v.data.toList.length) (.val (.tup [.raw (.bool true), .raw (.int .i64 (.ofNat q)), .raw (.int .i32 (.ofNat (Utf8.decode v q).1))]) { h := T.set s.h p.1 (.iter v (q + (Utf8.decode v q).2)), n := s.n }) (RO.val (.tup [.raw (.bool false)]) s) = .val x s' from h) with ⟨h7, h⟩ | ⟨h7, h⟩
    · obtain ⟨rfl, rfl⟩ := val_inj.1 h
      have h7 := blt_lt h7
      rw [hlen] at h7
      have hset : (setObj e.b (.stringIter v (q + (Utf8.decode v q).2))).run P w = .ok () (setO w e.b (.stringIter v (q + (Utf8.decode v q).2))) := by simp [setObj, Sem.run, hob, setO]
      refine Does.next ⟨ρ, setO w e.b (.stringIter v (q + (Utf8.decode v q).2)), .tuple #[.bool true, .int .i64 q, .int .i32 (Utf8.decode v q).1], ?_, Env.le_refl _, ?_, rfl⟩
      · simp only [Instr.next, Sem.run_bind, hget, Result.andThen_ok, h7, if_true, hset, Sem.run_pure]; rfl
      · exact hS.change (x' := .iter v (q + (Utf8.decode v q).2)) he (fun u z hu => (get_set hu).imp (fun ⟨p, q⟩ => ⟨p, q.symm⟩) id) ⟨hb, setO_same (hS.dom _ _ he).2.2⟩ (fun u z eu hne hu heu hbb => by
          rcases get_set hu with ⟨p, _⟩ | ⟨_, hu⟩
          · exact absurd p hne
          · have := hS.sep u _ z _ eu e hne hu h4 heu he hbb
            cases z <;> exact this.elim)
    · obtain ⟨rfl, rfl⟩ := val_inj.1 h
      have h7 : ¬ q < v.size := by
        intro hlt
        rw [hlen] at h7
        rw [Nat.blt_eq.mpr hlt] at h7; cases h7
      refine Does.next (Does.val (v := .tuple #[.bool false]) hS ?_ rfl)
      simp only [Instr.next, Sem.run_bind, hget, Result.andThen_ok, h7, if_false, Sem.run_pure]
  | _ => cases h

/-! ### Operations that call nothing -/
theorem onlyV_val {r : RO} {x : EV} {s : ES} (h : onlyV r = .val x s) : r = .val x s := by cases r <;> first | (cases h; done) | exact h
theorem opFlat_sound (hS : S κ P ρ s w) (ht : TR ρ N tm a.tmps) (h : opFlat o.op ⟨P, C⟩ o tm s = .val x s') : DoesN κ P ρ w (execOp a.eval o) x s' := by
  cases ho : o.op with
  | move y => rw [ho] at h; exact opMove_sound hS ht (.inl ho) (show opMove y ⟨P, C⟩ o tm s = .val x s' from h)
  | assign y => rw [ho] at h; exact opMove_sound hS ht (.inr ho) (show opMove y ⟨P, C⟩ o tm s = .val x s' from h)
  | pick c y z => rw [ho] at h; exact opPick_sound hS ht ho (show opPick c y z ⟨P, C⟩ o tm s = .val x s' from h)
  | alloc t => rw [ho] at h; exact opAlloc_sound hS ht ho (show opAlloc t ⟨P, C⟩ o tm s = .val x s' from h)
  | box t y => rw [ho] at h; exact opBox_sound hS ht ho (show opBox t y ⟨P, C⟩ o tm s = .val x s' from h)
  | build t ps => rw [ho] at h; exact opBuild_sound hS ht ho (show opBuild t ps ⟨P, C⟩ o tm s = .val x s' from h)
  | buildSlice t n ps => rw [ho] at h; exact opBuildSlice_sound hS ht ho (show opBuildSlice t n ps ⟨P, C⟩ o tm s = .val x s' from h)
  | load t y => rw [ho] at h; exact opLoad_sound hS ht ho (show opLoad t y ⟨P, C⟩ o tm s = .val x s' from h)
  | store t y z => rw [ho] at h; exact opStore_sound hS ht ho (show opStore t y z ⟨P, C⟩ o tm s = .val x s' from h)
  | nilCheck y => rw [ho] at h; exact opNilCheck_sound hS ht ho (show opNilCheck y ⟨P, C⟩ o tm s = .val x s' from h)
  | binOp op t y z u => rw [ho] at h; exact opBin_sound hS ht ho (show opBin op t y z u ⟨P, C⟩ o tm s = .val x s' from h)
  | unOp op t y => rw [ho] at h; exact opUn_sound hS ht ho (show opUn op t y ⟨P, C⟩ o tm s = .val x s' from h)
  | convert p q y => rw [ho] at h; exact opConv_sound hS ht ho (show opConv p q y ⟨P, C⟩ o tm s = .val x s' from h)
  | makeInterface t y => rw [ho] at h; exact opMakeIface_sound hS ht ho (show opMakeIface t y ⟨P, C⟩ o tm s = .val x s' from h)
  | makeFunc f p q => rw [ho] at h; exact opMakeFunc_sound hS ht ho (show opMakeFunc f p q ⟨P, C⟩ o tm s = .val x s' from h)
  | makeSlice t y z => rw [ho] at h; exact opMakeSlice_sound hS ht ho (show opMakeSlice t y z ⟨P, C⟩ o tm s = .val x s' from h)
  | slice t y l u m => rw [ho] at h; exact opSlice_sound hS ht ho (show opSlice t y l u m ⟨P, C⟩ o tm s = .val x s' from h)
  | fieldAddr t y f => rw [ho] at h; exact opFieldAddr_sound hS ht ho (show opFieldAddr t y f ⟨P, C⟩ o tm s = .val x s' from h)
  | field t y f => rw [ho] at h; exact opField_sound hS ht ho (show opField t y f ⟨P, C⟩ o tm s = .val x s' from h)
  | indexAddr t y i => rw [ho] at h; exact opIndexAddr_sound hS ht ho (show opIndexAddr t y i ⟨P, C⟩ o tm s = .val x s' from h)
  | index t y i => rw [ho] at h; exact opIndex_sound hS ht ho (show opIndex t y i ⟨P, C⟩ o tm s = .val x s' from h)
  | lookup t y i b => rw [ho] at h; exact pureR hS ht (by rw [ho]; simp) (show opPure ⟨P, C⟩ o tm s = .val x s' from h)
  | range t y => rw [ho] at h; exact opRange_sound hS ht ho (show opRange t y ⟨P, C⟩ o tm s = .val x s' from h)
  | next y b => rw [ho] at h; exact opNext_sound hS ht ho (show opNext y b ⟨P, C⟩ o tm s = .val x s' from h)
  | typeAssert y t u b => rw [ho] at h; exact opAssert_sound hS ht ho (show opAssert y t u b ⟨P, C⟩ o tm s = .val x s' from h)
  | extract y i => rw [ho] at h; exact opExtract_sound hS ht ho (show opExtract y i ⟨P, C⟩ o tm s = .val x s' from h)
  | _ => rw [ho] at h; cases h
theorem onlyB_ans {r : RO} {x : EV} {s s' : ES} (h : Ans (onlyB r) x s s') : Ans r x s s' := by
  cases r <;> first | exact Ans.bad h | exact h
end
end Go.Eva
