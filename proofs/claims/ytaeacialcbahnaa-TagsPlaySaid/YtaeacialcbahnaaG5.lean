/-
  Texts Mw, Mx, S, Sb, Su, Sc, Sl, Sm, Sw, Sp, Sr, one behind the other.
-/
import Derived.Test.YtaeacialcbahnaaG4
import Derived.Laws.BytesArg
import Derived.Laws.IdiomStrings
/-
  The abstract layer, part w: the rows that a walk rewrites by, under one name.
-/

namespace Go.Abs
theorem cells_raw {v : Value} : (AV.raw v).cells = [.raw v] := id rfl
theorem cells_agg {l : List AV} : (AV.agg l).cells = l := id rfl
theorem cells_sl {n : Nat} {o : Option (Option (Nat × Nat))} {l : List AV} : (AV.sl n o l).cells = [.sl n o l] := id rfl
theorem cells_cp {l : List AV} : (AV.cp l).cells = [.cp l] := id rfl
theorem setPs_cons {t xs : List AV} {p : Tmp} {x : AV} {qs : List Tmp} : setPs t (p :: qs) (x :: xs) = setPs (t.set p x) qs xs := rfl
theorem setPs_nil {t : List AV} : setPs t [] [] = t := rfl
theorem ofV_slice {a : Option Addr} {n m : Nat} : ofV (.slice a n m) = .raw (.slice a n m) := rfl
theorem ofV_int {k : IntKind} {n : Int} : ofV (.int k n) = .raw (.int k n) := rfl
theorem ofV_bool {b : Bool} : ofV (.bool b) = .raw (.bool b) := rfl
theorem ofV_string {s : ByteArray} : ofV (.string s) = .raw (.string s) := rfl
theorem ofV_pointer {a : Option Addr} : ofV (.pointer a) = .raw (.pointer a) := rfl
theorem ofV_map {a : Option Nat} : ofV (.map a) = .raw (.map a) := rfl
theorem ofV_nilFunc : ofV .nilFunc = .raw .nilFunc := rfl
theorem ofV_nilIface : ofV .nilIface = .raw .nilIface := rfl
theorem ofV_agg {l : List Value} : ofV (.agg l.toArray) = .agg (l.map .raw) := by simp [ofV]
theorem setCells_nil {cs : List AV} {k : Nat} : setCells cs k [] = cs := rfl
theorem setCells_cons {cs xs : List AV} {k : Nat} {x : AV} : setCells cs k (x :: xs) = setCells (cs.set k x) (k + 1) xs := rfl
section
variable {κ : Ctx} {dm : Bool} {P : Program} {all rest : List Oper} {Q : Exit → St → Prop} {d : Option Tmp} {ty : TypeId} {pos : String} {af : Array Edge} {t : List AV} {σ : List Res} {fr : Bool} {df : List Deferred} {x y z : Operand}
theorem op_copy {ts : Array TypeId} : opsR κ dm P all Q (⟨d, .call ⟨.builtin .copy, #[x, y], ts⟩, ty, pos, af, none⟩ :: rest) ⟨t, σ, fr, df⟩ = actC κ dm P all Q d rest ⟨t, σ, fr, df⟩ (.copy ts ty) [(St.ev ⟨t, σ, fr, df⟩ x), (St.ev ⟨t, σ, fr, df⟩ y)] := by simp only [opsR, guardR, opR]; simp [actC]; exact Iff.rfl
theorem op_lookup {a : TypeId} {ok : Bool} : opsR κ dm P all Q (⟨d, .lookup a x y ok, ty, pos, af, none⟩ :: rest) ⟨t, σ, fr, df⟩ = actC κ dm P all Q d rest ⟨t, σ, fr, df⟩ (.lookup a ok) [(St.ev ⟨t, σ, fr, df⟩ x), (St.ev ⟨t, σ, fr, df⟩ y)] := propext Iff.rfl
theorem op_makeMap {a : TypeId} : opsR κ dm P all Q (⟨d, .makeMap a none, ty, pos, af, none⟩ :: rest) ⟨t, σ, fr, df⟩ = actC κ dm P all Q d rest ⟨t, σ, fr, df⟩ (.makeMap a) [] := propext Iff.rfl
theorem op_typeAssert {a b : TypeId} {ok : Bool} : opsR κ dm P all Q (⟨d, .typeAssert x a b ok, ty, pos, af, none⟩ :: rest) ⟨t, σ, fr, df⟩ = actC κ dm P all Q d rest ⟨t, σ, fr, df⟩ (.typeAssert a b ok) [(St.ev ⟨t, σ, fr, df⟩ x)] := propext Iff.rfl
end
section
variable {κ : Ctx} {dm : Bool} {P : Program} {all rest : List Oper} {Q : Exit → St → Prop} {d : Option Tmp} {t : List AV} {σ : List Res} {fr : Bool} {df : List Deferred} {xt : TypeId} {a : Addr} {n m : Nat} {x y : AV}
theorem sliceC_row1 : sliceC κ dm P all Q d rest ⟨t, σ, fr, df⟩ xt (.raw (.slice (some a) n m)) (some x) none none = actC κ dm P all Q d rest ⟨t, σ, fr, df⟩ (.slice xt true false false) [.raw (.slice (some a) n m), x, .any, .any] := rfl
theorem sliceC_row2 : sliceC κ dm P all Q d rest ⟨t, σ, fr, df⟩ xt (.raw (.slice (some a) n m)) none (some x) none = actC κ dm P all Q d rest ⟨t, σ, fr, df⟩ (.slice xt false true false) [.raw (.slice (some a) n m), .any, x, .any] := rfl
theorem sliceC_row3 : sliceC κ dm P all Q d rest ⟨t, σ, fr, df⟩ xt (.raw (.slice (some a) n m)) (some x) (some y) none = actC κ dm P all Q d rest ⟨t, σ, fr, df⟩ (.slice xt true true false) [.raw (.slice (some a) n m), x, y, .any] := rfl
theorem idxC_row {k : IntKind} {i : Int} : idxC κ dm P all Q d rest ⟨t, σ, fr, df⟩ xt (.raw (.slice (some a) n m)) (.raw (.int k i)) = actC κ dm P all Q d rest ⟨t, σ, fr, df⟩ (.indexAddr xt) [.raw (.slice (some a) n m), .raw (.int k i)] := rfl
end
theorem WL : type_of% (And.intro @phK_nil <| And.intro @phK_cons <| And.intro @phC_none <| And.intro @pick_nil <| And.intro @pick_cons <| And.intro @pickO_some <| And.intro @sliceC_row1 <| And.intro @sliceC_row2 <| And.intro @sliceC_row3 <| And.intro @idxC_row <| And.intro @op_copy <| And.intro @op_lookup <| And.intro @op_makeMap <| And.intro @op_typeAssert <| And.intro @setCells_nil <| And.intro @setCells_cons <| And.intro @ofV_slice <| And.intro @ofV_int <| And.intro @ofV_bool <| And.intro @ofV_string <| And.intro @ofV_pointer <| And.intro @ofV_map <| And.intro @ofV_nilFunc <| And.intro @ofV_nilIface <| And.intro @ofV_agg <| And.intro @rng_normal <| And.intro @rng_ret <| And.intro @rng_exit <| And.intro @setPs_cons <| And.intro @setPs_nil <| And.intro @run_seq (And.intro @run_cond (And.intro @run_block (And.intro @run_loop (And.intro @run_region (And.intro @run_draw (And.intro @run_rangeFunc (And.intro @run_exit (And.intro @run_ret (And.intro @run_skip (And.intro @run_label (And.intro @condC_true (And.intro @condC_false (And.intro @then_normal (And.intro @then_exit (And.intro @then_ret (And.intro @then_panic (And.intro @block_normal (And.intro @block_same (And.intro @block_exit (And.intro @block_ret (And.intro @block_panic (And.intro @ops_nil (And.intro @ops_some (And.intro @gdC_some (And.intro @goK_eq (And.intro @goP_eq (And.intro @grdC_U (And.intro @grdC_tt (And.intro @grdC_ff (And.intro @grdC_tf (And.intro @grdC_ft (And.intro @setT_some (And.intro @setT_none (And.intro @ev_tmp (And.intro @ev_int (And.intro @ev_bool (And.intro @ev_string (And.intro @ev_slice (And.intro @ev_ptr (And.intro @ev_nilFunc (And.intro @ev_nilIface (And.intro @ev_map (And.intro @ev_agg (And.intro @ev_func (And.intro @ev_global (And.intro @op_move (And.intro @op_assign (And.intro @op_pick (And.intro @op_bin (And.intro @op_un (And.intro @op_extract (And.intro @op_load (And.intro @op_store (And.intro @op_alloc (And.intro @op_box (And.intro @op_build (And.intro @op_bslice (And.intro @op_fieldAddr (And.intro @op_field (And.intro @op_indexAddr (And.intro @op_index (And.intro @op_slice (And.intro @op_conv (And.intro @op_makeFunc (And.intro @op_makeSlice (And.intro @op_nilCheck (And.intro @op_panic (And.intro @op_makeIface (And.intro @op_range (And.intro @op_next (And.intro @op_call (And.intro @op_len (And.intro @op_append (And.intro @op_max (And.intro @op_min (And.intro @retK_ret (And.intro @retK_pan (And.intro @okC_some (And.intro @binC_int (And.intro @binC_shl (And.intro @binC_shr (And.intro @binC_str (And.intro @binC_beql (And.intro @binC_bneq (And.intro @binC_snil (And.intro @binC_snn (And.intro @binC_nnil (And.intro @binC_nnn (And.intro @unC_not (And.intro @unC_neg (And.intro @pickC_bool (And.intro @extC_tup (And.intro @loadC_cp (And.intro @loadCC_agg (And.intro @loadCC_one (And.intro @loadC_raw (And.intro @idxC_sl (And.intro @strIdxC_str (And.intro @sliceC_sl (And.intro @sl2C_eq (And.intro @sliceC_str (And.intro @sl3C_eq (And.intro @loN_none (And.intro @loN_int (And.intro @hiN_none (And.intro @hiN_int (And.intro @mkFuncC_0 (And.intro @mkFuncC_1 (And.intro @mkFuncC_2 (And.intro @mkFuncC_3 (And.intro @mkFuncC_m (And.intro @nilC_cp (And.intro @nilC_ptr (And.intro @nilC_func (And.intro @nilC_yield (And.intro @panC_iface (And.intro @lenC_sl (And.intro @lenC_raw (And.intro @lenC_str (And.intro @callC_func (And.intro @callC_clos (And.intro @callC_yield (And.intro @leave_ret (And.intro @leave_normal (And.intro @leave_panic (And.intro @res_0 (And.intro @res_1 (And.intro @res_2 (And.intro @res_3 (And.intro @res_4 (And.intro @cells_raw (And.intro @cells_agg (And.intro @cells_sl (@cells_cp))))))))))))))))))))))))))))))))))))))))))))))))))))))))))))))))))))))))))))))))))))))))))))))))))))))))))))))))))))))))))))))))))))))) := And.intro @phK_nil <| And.intro @phK_cons <| And.intro @phC_none <| And.intro @pick_nil <| And.intro @pick_cons <| And.intro @pickO_some <| And.intro @sliceC_row1 <| And.intro @sliceC_row2 <| And.intro @sliceC_row3 <| And.intro @idxC_row <| And.intro @op_copy <| And.intro @op_lookup <| And.intro @op_makeMap <| And.intro @op_typeAssert <| And.intro @setCells_nil <| And.intro @setCells_cons <| And.intro @ofV_slice <| And.intro @ofV_int <| And.intro @ofV_bool <| And.intro @ofV_string <| And.intro @ofV_pointer <| And.intro @ofV_map <| And.intro @ofV_nilFunc <| And.intro @ofV_nilIface <| And.intro @ofV_agg <| And.intro @rng_normal <| And.intro @rng_ret <| And.intro @rng_exit <| And.intro @setPs_cons <| And.intro @setPs_nil <| And.intro @run_seq (And.intro @run_cond (And.intro @run_block (And.intro @run_loop (And.intro @run_region (And.intro @run_draw (And.intro @run_rangeFunc (And.intro @run_exit (And.intro @run_ret (And.intro @run_skip (And.intro @run_label (And.intro @condC_true (And.intro @condC_false (And.intro @then_normal (And.intro @then_exit (And.intro @then_ret (And.intro @then_panic (And.intro @block_normal (And.intro @block_same (And.intro @block_exit (And.intro @block_ret (And.intro @block_panic (And.intro @ops_nil (And.intro @ops_some (And.intro @gdC_some (And.intro @goK_eq (And.intro @goP_eq (And.intro @grdC_U (And.intro @grdC_tt (And.intro @grdC_ff (And.intro @grdC_tf (And.intro @grdC_ft (And.intro @setT_some (And.intro @setT_none (And.intro @ev_tmp (And.intro @ev_int (And.intro @ev_bool (And.intro @ev_string (And.intro @ev_slice (And.intro @ev_ptr (And.intro @ev_nilFunc (And.intro @ev_nilIface (And.intro @ev_map (And.intro @ev_agg (And.intro @ev_func (And.intro @ev_global (And.intro @op_move (And.intro @op_assign (And.intro @op_pick (And.intro @op_bin (And.intro @op_un (And.intro @op_extract (And.intro @op_load (And.intro @op_store (And.intro @op_alloc (And.intro @op_box (And.intro @op_build (And.intro @op_bslice (And.intro @op_fieldAddr (And.intro @op_field (And.intro @op_indexAddr (And.intro @op_index (And.intro @op_slice (And.intro @op_conv (And.intro @op_makeFunc (And.intro @op_makeSlice (And.intro @op_nilCheck (And.intro @op_panic (And.intro @op_makeIface (And.intro @op_range (And.intro @op_next (And.intro @op_call (And.intro @op_len (And.intro @op_append (And.intro @op_max (And.intro @op_min (And.intro @retK_ret (And.intro @retK_pan (And.intro @okC_some (And.intro @binC_int (And.intro @binC_shl (And.intro @binC_shr (And.intro @binC_str (And.intro @binC_beql (And.intro @binC_bneq (And.intro @binC_snil (And.intro @binC_snn (And.intro @binC_nnil (And.intro @binC_nnn (And.intro @unC_not (And.intro @unC_neg (And.intro @pickC_bool (And.intro @extC_tup (And.intro @loadC_cp (And.intro @loadCC_agg (And.intro @loadCC_one (And.intro @loadC_raw (And.intro @idxC_sl (And.intro @strIdxC_str (And.intro @sliceC_sl (And.intro @sl2C_eq (And.intro @sliceC_str (And.intro @sl3C_eq (And.intro @loN_none (And.intro @loN_int (And.intro @hiN_none (And.intro @hiN_int (And.intro @mkFuncC_0 (And.intro @mkFuncC_1 (And.intro @mkFuncC_2 (And.intro @mkFuncC_3 (And.intro @mkFuncC_m (And.intro @nilC_cp (And.intro @nilC_ptr (And.intro @nilC_func (And.intro @nilC_yield (And.intro @panC_iface (And.intro @lenC_sl (And.intro @lenC_raw (And.intro @lenC_str (And.intro @callC_func (And.intro @callC_clos (And.intro @callC_yield (And.intro @leave_ret (And.intro @leave_normal (And.intro @leave_panic (And.intro @res_0 (And.intro @res_1 (And.intro @res_2 (And.intro @res_3 (And.intro @res_4 (And.intro @cells_raw (And.intro @cells_agg (And.intro @cells_sl (@cells_cp))))))))))))))))))))))))))))))))))))))))))))))))))))))))))))))))))))))))))))))))))))))))))))))))))))))))))))))))))))))))))))))))))))))
section
variable {κ : Ctx} {dm : Bool} {P : Program} {all rest : List Oper} {Q : Exit → St → Prop} {d : Option Tmp} {t : List AV} {σ : List Res} {fr : Bool} {df : List Deferred}
theorem wk_load {ty b k : Nat} {cs : List AV} {x : AV} (i : Nat) (h : σ[i]? = some (.obj b cs)) (ha : aggT P ty = some false) (hc : cs[k]? = some x) (hk : goK κ dm P all Q d rest ⟨t, σ, fr, df⟩ x σ) : actC κ dm P all Q d rest ⟨t, σ, fr, df⟩ (.load ty) [.raw (.pointer (some ⟨b, k, none⟩))] :=
  actC_q (act_load i h ha hc isA_mk) hk
theorem wk_load_agg {ty b k : Nat} {cs : List AV} {n : Nat} (i : Nat) (h : σ[i]? = some (.obj b cs)) (ha : aggT P ty = some true) (hs : szT P ty = some n) (hn : k + n ≤ cs.length) (hk : goK κ dm P all Q d rest ⟨t, σ, fr, df⟩ (.agg ((cs.drop k).take n)) σ) : actC κ dm P all Q d rest ⟨t, σ, fr, df⟩ (.load ty) [.raw (.pointer (some ⟨b, k, none⟩))] :=
  actC_q (act_load_agg i h ha hs hn isA_mk) hk
theorem wk_build {ty : TypeId} {ix : List Nat} {xs cs : List AV} {z : Value} {pl : List (Nat × Nat)} (hp : plT P ty = some pl) (hz : zrT P ty = some z) (hz1 : (ofV z).cells.all oneA = true) (hb : buildA pl (ofV z).cells (ix.zip xs) = some cs) (hk : goK κ dm P all Q d rest ⟨t, σ, fr, df⟩ (.agg cs) σ) : actC κ dm P all Q d rest ⟨t, σ, fr, df⟩ (.build ty ix) xs :=
  actC_q (act_build hp hz hz1 hb isA_mk) hk
theorem wk_bslice {ty e n sz : Nat} {ix : List Nat} {xs : List AV} {z : Value} (he : slE P ty = some e) (hs : szT P e = some sz) (hz : zrT P e = some z) (hsz : 0 < sz) (hn : 0 < n) (hsm : n * sz ≤ 16777216) (hix : ix = List.range n) (hlen : xs.length = n)
    (hgood : goodL xs = true) (hc : ∀ x ∈ xs, x.cells.length = sz) (hk : goK κ dm P all Q d rest ⟨t, σ, fr, df⟩ (.sl sz none xs) σ) : actC κ dm P all Q d rest ⟨t, σ, fr, df⟩ (.bslice ty n ix) xs :=
  actC_q (act_bslice he hs hz hsz hn hsm hix hlen hgood hc isA_mk) hk
theorem wk_bslice0 {ty e sz : Nat} (he : slE P ty = some e) (hs : szT P e = some sz) (hsz : 0 < sz) (hk : goK κ dm P all Q d rest ⟨t, σ, fr, df⟩ (.sl sz none []) σ) : actC κ dm P all Q d rest ⟨t, σ, fr, df⟩ (.bslice ty 0 []) [] :=
  actC_q (act_bslice0 he hs hsz isA_mk) hk
end
theorem leafLaw {b : Bool} {σ' : List Res} (h : b = true) : DropL (fun r _ => r = .ret (B true)) (.ret (B b)) σ' := ⟨[], .ret (B true), ⟨[], List.Perm.refl _, List.nil_sublist _⟩, leT_eq (by rw [h]), rfl⟩
theorem resL_id {κ : Ctx} {P : Program} {fn : Func} {K : Ret → List Res → Prop} {s : St} {l : List ResultVar} (h : resL κ P fn K s l) : resL κ P fn K s l := h
/-- Whatever reads as this, reads as that. -/
def leS (x y : AV) : Prop := ∀ (g : Nat → Nat) (w : World) (v : Value), VR g w x v → VR g w y v
theorem leS_le {x y : AV} (h : x.le y) : leS x y := fun _ _ _ hv => hv.le h
def leSL : List AV → List AV → Prop
  | [], [] => True
  | x :: xs, y :: ys => leS x y ∧ leSL xs ys
  | _, _ => False
theorem leSL_len : ∀ {xs ys : List AV}, leSL xs ys → ys.length = xs.length
  | [], [], _ => rfl
  | _ :: _, _ :: _, h => by simp [leSL_len h.2]
  | [], _ :: _, h => h.elim
  | _ :: _, [], h => h.elim
theorem leSL_get : ∀ {xs ys : List AV}, leSL xs ys → ∀ (k : Nat) (x y : AV), xs[k]? = some x → ys[k]? = some y → leS x y
  | [], [], _, k, x, y, h, _ => by simp at h
  | _ :: _, _ :: _, h, 0, x, y, h1, h2 => by simp at h1 h2; subst h1; subst h2; exact h.1
  | _ :: _, _ :: _, h, k + 1, x, y, h1, h2 => leSL_get h.2 k x y (by simpa using h1) (by simpa using h2)
  | [], _ :: _, h, _, _, _, _, _ => h.elim
  | _ :: _, [], h, _, _, _, _, _ => h.elim
theorem leSL_rfl : ∀ {xs : List AV}, leSL xs xs
  | [] => trivial
  | _ :: _ => ⟨fun _ _ _ h => h, leSL_rfl⟩
theorem TR.leS {g : Nat → Nat} {w : World} {xs ys : List AV} {vs : Array Value} (h : TR g w xs vs) (hl : leSL xs ys) : TR g w ys vs :=
  ⟨by rw [h.size, leSL_len hl], fun k y hy => by
    have hlt : k < xs.length := by rw [← leSL_len hl]; exact lt_of_get hy
    have hx : xs[k]? = some (xs[k]'hlt) := List.getElem?_eq_getElem hlt
    exact leSL_get hl k _ _ hx hy g w _ (h.get k _ hx)⟩
theorem ACallF.argsS {κ : Ctx} {P : Program} {f : FuncId} {xs ys : List AV} {σ : List Res} {K : Ret → List Res → Prop} (hl : leSL xs ys) (h : ACallF κ P f ys σ K) : ACallF κ P f xs σ K :=
  fun φ g w vs hR hv => h φ g w vs hR (hv.leS hl)
/-- A slice whose elements are told weaker. -/
def leC : List AV → List AV → Prop
  | [], [] => True
  | x :: xs, y :: ys => leSL x.cells y.cells ∧ leC xs ys
  | _, _ => False
theorem leC_len : ∀ {xs ys : List AV}, leC xs ys → ys.length = xs.length
  | [], [], _ => rfl
  | _ :: _, _ :: _, h => by simp [leC_len h.2]
  | [], _ :: _, h => h.elim
  | _ :: _, [], h => h.elim
theorem leC_get : ∀ {xs ys : List AV}, leC xs ys → ∀ (k : Nat) (y : AV), ys[k]? = some y → ∃ x, xs[k]? = some x ∧ leSL x.cells y.cells
  | [], [], _, k, y, h => by simp at h
  | x :: _, _ :: _, h, 0, y, h2 => by simp at h2; subst h2; exact ⟨x, rfl, h.1⟩
  | _ :: _, _ :: _, h, k + 1, y, h2 => by
    obtain ⟨x, h3, h4⟩ := leC_get h.2 k y (by simpa using h2)
    exact ⟨x, by simpa using h3, h4⟩
  | [], _ :: _, h, _, _, _ => h.elim
  | _ :: _, [], h, _, _, _ => h.elim
theorem leS_sl {sz : Nat} {o : Option (Option (Nat × Nat))} {l l' : List AV} (h : leC l l') : leS (.sl sz o l) (.sl sz o l') := by
  intro g w v hv
  have hlen := leC_len h
  rcases hv.sl_inv with ⟨rfl, _⟩ | ⟨b, off, cap, rfl, h1, h2, h3, h4, h5, h6, h7⟩
  · cases l' with
    | nil => exact hv
    | cons => exact h.elim
  · refine VR.sl_mk hlen.symm (by rw [hlen]; exact h1) h2 h3 (fun i y hy => ?_) (fun i y k z hy hz => ?_) (by rw [hlen]; exact h6) (fun t ht => by rw [hlen]; exact h7 t ht)
    · obtain ⟨x, hx, hl⟩ := leC_get h i y hy
      rw [leSL_len hl]; exact h4 i x hx
    · obtain ⟨x, hx, hl⟩ := leC_get h i y hy
      have hk : k < x.cells.length := by rw [← leSL_len hl]; exact lt_of_get hz
      have hxk : x.cells[k]? = some (x.cells[k]'hk) := List.getElem?_eq_getElem hk
      obtain ⟨u, a1, a2⟩ := h5 i x k _ hx hxk
      exact ⟨u, a1, leSL_get hl k _ _ hxk hz g w u a2⟩
theorem leC_one {x y : AV} {xs ys : List AV} (h1 : x.cells = [x]) (h2 : y.cells = [y]) (h : leS x y) (hr : leC xs ys) : leC (x :: xs) (y :: ys) := ⟨by rw [h1, h2]; exact ⟨h, trivial⟩, hr⟩
theorem le_nilro {sz : Nat} (h : 0 < sz) : nilS.le (.sl sz none []) := .inr (.inr (.inr ⟨_, _, rfl, h, rfl⟩))
theorem maxLen_ok {n : Nat} (h : n ≤ 9223372036854775807) : n ≤ maxLen := by unfold maxLen; omega
theorem leL_one {x y : AV} (h : x.le y) : leL [x] [y] := ⟨h, trivial⟩
theorem leL_two {x y x' y' : AV} (h : x.le y) (h' : x'.le y') : leL [x, x'] [y, y'] := ⟨h, h', trivial⟩
theorem wrap_id {n : Int} (h : -9223372036854775808 ≤ n) (h2 : n ≤ 9223372036854775807) : IntKind.i64.wrap n = n := by
  rw [IntKind.wrap_i64] <;> omega
theorem le_wrap {m n : Int} (h : -9223372036854775808 ≤ m) (h2 : m ≤ 9223372036854775807) (e : n = m) : (AV.raw (.int .i64 (IntKind.i64.wrap m))).le (I n) := by
  rw [wrap_id h h2, e]; exact le_rfl
theorem le_int {m n : Int} (e : n = m) : (I m).le (I n) := by
  rw [e]; exact le_rfl
end Go.Abs
/-
  Own layer, part x: bytes and strings.
-/



namespace Go.Abs
variable {P : Program} {κ : Ctx} {σ : List Res} {K : AV → List Res → Prop}
/-- A byte. -/
abbrev U8 (n : Int) : AV := .raw (.int .u8 n)

theorem strOfNums_nil : strOfNums [] = ByteArray.empty := rfl
/-- string(b): a row of bytes becomes a text. -/
theorem act_bytes_str {s d e : TypeId} {own : Option (Option (Nat × Nat))} {l : List Int} (hs : slE P s = some e) (he : intT P e = some .u8) (hd : isStr P d = true)
    (hK : K (.raw (.string (strOfNums l))) σ) : AAct κ P (.conv s d) [.sl 1 own (l.map U8)] σ K := by
  intro φ g w vs hR hvs
  obtain ⟨v, rfl, hu⟩ := one_vs hvs
  have hsl := und_of_slE hs
  have hint := und_of_intT he
  have hst := und_of_isStr hd
  refine ⟨.string (strOfNums l), w, g, _, σ, ?_, hR, GE.refl _ _, .raw _, hK⟩
  show (convert s d v).run P w = _
  rcases hu.sl_inv with ⟨h0, ⟨ad, cp, rfl, hcp, _⟩, _⟩ | ⟨b, off, cap, rfl, hcap, hmax, hpos, hc, hel, _⟩
  · obtain rfl : l = [] := by simpa using h0
    cases ad with
    | none => exact run_convert_bytes_nil w s e hsl hint 0 cp d hst
    | some a =>
      rw [run_convert_bytes_string w s d e _ 0 cp hsl hint hst, run_bytesToString w a 0 cp [] (by simp [loadCells, loadCellsFrom])]
      rfl
  · rw [List.length_map]
    refine run_convert_bytes_arg w s e hsl hint b off l.length cap l rfl (fun i hi => ?_) d hst
    obtain ⟨u, h1, h2⟩ := hel i (U8 (l.getD i 0)) 0 (U8 (l.getD i 0)) (by simp [List.getD_eq_getElem?_getD, hi]) rfl
    cases h2.raw_eq
    simpa using h1

/-- A row of bytes. -/
abbrev SU (o : Option (Option (Nat × Nat))) (l : List Int) : AV := .sl 1 o (l.map U8)
theorem getU {l : List Int} {k : Nat} (h : k < l.length) : (l.map U8).getD k .any = U8 (l.getD k 0) := by
  simp [List.getD_eq_getElem?_getD, h]
theorem goodU (l : List Int) : goodL (l.map U8) = true := by
  unfold goodL
  rw [List.all_map, List.all_eq_true]
  intro x _
  rfl
/-- A text's bytes. -/
def bytesI (s : ByteArray) : List Int := s.data.toList.map fun b => (b.toNat : Int)
theorem bytesI_len (s : ByteArray) : (bytesI s).length = s.size := by rw [bytesI, List.length_map, Array.length_toList]; rfl
theorem bytesI_byte (s : ByteArray) : ∀ c ∈ bytesI s, 0 ≤ c ∧ c ≤ 255 := by
  intro c hc
  simp only [bytesI, List.mem_map] at hc
  obtain ⟨b, _, rfl⟩ := hc
  have := b.toNat_lt
  omega
theorem getB {s : ByteArray} {k : Nat} : (((s.data.toList.getD k 0).toNat : Nat) : Int) = (bytesI s).getD k 0 := by
  simp only [bytesI, List.getD_eq_getElem?_getD, List.getElem?_map]
  cases s.data.toList[k]? <;> rfl
theorem strOfNums_bytesI (s : ByteArray) : strOfNums (bytesI s) = s := by
  apply ByteArray.ext
  apply Array.ext'
  rw [strOfNums_data, bytesI, List.map_map]
  conv => rhs; rw [← List.map_id s.data.toList]
  apply List.map_congr_left
  intro b _
  simp
theorem bytesI_strOfNums {l : List Int} (h : ∀ c ∈ l, 0 ≤ c ∧ c ≤ 255) : bytesI (strOfNums l) = l := by
  rw [bytesI, strOfNums_data, List.map_map]
  conv => rhs; rw [← List.map_id l]
  apply List.map_congr_left
  intro c hc
  have := h c hc
  simp only [Function.comp, UInt8.toNat_ofNat', id]
  omega
theorem strOfNums_inj {a b : List Int} (ha : ∀ c ∈ a, 0 ≤ c ∧ c ≤ 255) (hb : ∀ c ∈ b, 0 ≤ c ∧ c ≤ 255) (h : strOfNums a = strOfNums b) : a = b := by
  rw [← bytesI_strOfNums ha, h, bytesI_strOfNums hb]
theorem strOfNums_app (a b : List Int) : strOfNums a ++ strOfNums b = strOfNums (a ++ b) := by
  apply ByteArray.ext
  apply Array.ext'
  rw [ByteArray.data_append, Array.toList_append, strOfNums_data, strOfNums_data, strOfNums_data, List.map_append]
theorem toList_beq (a b : ByteArray) : (a.toList == b.toList) = decide (a = b) := by
  rw [Bool.eq_iff_iff, beq_iff_eq, decide_eq_true_eq]
  refine ⟨fun h => ?_, fun h => by rw [h]⟩
  rw [ByteArray.toList_eq, ByteArray.toList_eq] at h
  exact ByteArray.ext (Array.ext' h)
/-- []byte(s): a text's bytes, to be read. -/
theorem act_str_bytes {s d e : TypeId} {x : ByteArray} (hs : isStr P s = true) (hd : slE P d = some e) (he : intT P e = some .u8) (hx : x.size ≤ maxLen)
    (hK : K (SU none (bytesI x)) σ) : AAct κ P (.conv s d) [.raw (.string x)] σ K := by
  intro φ g w vs hR hvs
  obtain ⟨v, rfl, hu⟩ := one_vs hvs
  cases hu.raw_eq
  have hrun := run_bytes_of_string (P := P) w s d e x (und_of_isStr hs) (und_of_slE hd) (und_of_intT he)
  have hcap := grownCap_ge w x.size 0 e
  have hcapm := grownCap_le_maxLen w x.size 0 e hx
  generalize grownCap w x.size 0 e = c at hrun hcap hcapm
  generalize hfz : ((bytesRow x c).size, (bytesRow x c).size + 1) = fz at hrun
  have hRd : Rel κ g (φ ++ σ) w.drew := hR.drew _
  have hge0 : GE g w g w.drew := GE.drew _
  have H := GE.alloc hRd (.cells (bytesRow x c) e fz) x.size
  have hsize : w.drew.heap.size = w.heap.size := rfl
  refine ⟨_, _, upd g w.heap.size x.size, SU none (bytesI x), σ, hrun, ?_, hge0.trans H, ?_, hK⟩
  · exact hRd.lost H rfl rfl rfl (by simp) (fun b hb => get_push_lt _ _ b hb) (fun b hb => upd_other hb)
  · refine VR.sl_mk (by rw [List.length_map, bytesI_len]) (by rw [List.length_map, bytesI_len]; exact hcap) hcapm (by decide) ?_ ?_ ?_ (fun t ht => by cases ht)
    · intro i y hy
      rw [List.getElem?_map] at hy
      cases h : (bytesI x)[i]? with
      | none => rw [h] at hy; cases hy
      | some z => rw [h] at hy; cases hy; rfl
    · intro i y k z hy hz
      rw [List.getElem?_map] at hy
      cases h : (bytesI x)[i]? with
      | none => rw [h] at hy; cases hy
      | some n =>
        rw [h] at hy; cases hy
        cases k with
        | succ k => simp [AV.cells] at hz
        | zero =>
          simp [AV.cells] at hz
          subst hz
          refine ⟨.int .u8 n, ?_, .raw _⟩
          have hi : i < x.data.size := by
            have := lt_of_get h; rw [bytesI_len] at this; exact this
          simp only [World.cell?]
          rw [show (w.drew.alloc (Obj.cells (bytesRow x c) e fz)).heap[w.heap.size]? = _ from get_push_eq w.drew _]
          simp only [Option.isSome_none, Bool.false_eq_true, if_false, Nat.zero_add, Nat.mul_one, Nat.add_zero, bytesRow]
          rw [Array.getElem?_append_left (by simpa using hi)]
          simp only [bytesI, List.getElem?_map] at h
          simp only [Array.getElem?_map]
          cases hb : x.data.toList[i]? with
          | none => rw [hb] at h; cases h
          | some b => 
            rw [hb] at h
            simp only [Option.map_some, Option.some.injEq] at h
            have : x.data[i]? = some b := by simpa using hb
            rw [this, ← h]
            rfl
    · rw [List.length_map, bytesI_len, upd_same]; omega

/-- An array's place. -/
theorem act_idx_arr {t e n sz b o : Nat} {k : IntKind} {i : Int} (ha : arrT P t = some (n, e)) (hs : szT P e = some sz) (h0 : 0 ≤ i) (h1 : i < n) (hK : K (.raw (.pointer (some ⟨b, o + i.toNat * sz, none⟩))) σ) :
    AAct κ P (.indexAddr t) [.raw (.pointer (some ⟨b, o, none⟩)), .raw (.int k i)] σ K := by
  intro φ g w vs hR hvs
  obtain ⟨v, u, rfl, hv, hu⟩ := two_vs hvs
  cases hv.raw_eq
  cases hu.raw_eq
  have hun : P.underlying t = some (.array n e) := by
    unfold arrT at ha
    split at ha
    · rename_i h; cases ha; exact h
    · cases ha
  refine ⟨_, w, g, _, σ, ?_, hR, GE.refl _ _, .raw _, hK⟩
  simp [MA.sem, nth, Instr.indexAt, asIntOf, run_und hun, Instr.sureAddr, h0, h1, run_szT hs, Addr.add_lit]

section
variable {dm : Bool} {all rest : List Oper} {Q : Exit → St → Prop} {d : Option Tmp} {t : List AV} {fr : Bool} {df : List Deferred} {a b : TypeId}
theorem convC_sl {sz : Nat} {o : Option (Option (Nat × Nat))} {l : List AV} : convC κ dm P all Q d rest ⟨t, σ, fr, df⟩ a b (.sl sz o l) = actC κ dm P all Q d rest ⟨t, σ, fr, df⟩ (.conv a b) [.sl sz o l] := rfl
theorem idxC_ptr {p : Option Addr} {k : IntKind} {i : Int} : idxC κ dm P all Q d rest ⟨t, σ, fr, df⟩ a (.raw (.pointer p)) (.raw (.int k i)) = actC κ dm P all Q d rest ⟨t, σ, fr, df⟩ (.indexAddr a) [.raw (.pointer p), .raw (.int k i)] := rfl
theorem convC_str {x : ByteArray} : convC κ dm P all Q d rest ⟨t, σ, fr, df⟩ a b (.raw (.string x)) = actC κ dm P all Q d rest ⟨t, σ, fr, df⟩ (.conv a b) [.raw (.string x)] := rfl
end
theorem leS_rfl {x : AV} : leS x x := fun _ _ _ h => h
theorem leS_tup {xs ys : List AV} (h : leSL xs ys) : leS (.tup xs) (.tup ys) := fun g w v hv => by
  cases hv with
  | tup vs hs hv =>
    have ht : TR g w xs vs := ⟨hs, hv⟩
    have h2 := ht.leS h
    exact .tup vs h2.size h2.get
theorem leS_agg {xs ys : List AV} (h : leSL xs ys) : leS (.agg xs) (.agg ys) := fun g w v hv => by
  cases hv with
  | agg vs hs hv =>
    have ht : TR g w xs vs := ⟨hs, hv⟩
    have h2 := ht.leS h
    exact .agg vs h2.size h2.get
theorem leS_eq {x y : AV} (h : x = y) : leS x y := h ▸ leS_rfl
theorem leS_trans {x y z : AV} (h : leS x y) (k : leS y z) : leS x z := fun g w v hv => k g w v (h g w v hv)
/-- What is left, told weaker by what it reads as. -/
def RetS : Ret → Ret → Prop
  | .ret x, .ret y => leS x y
  | .pan c, .pan d => c = d
  | _, _ => False
def DropS (K : Ret → List Res → Prop) : Ret → List Res → Prop := fun r σ' => ∃ (ρ : List Res) (r' : Ret), Sub ρ σ' ∧ RetS r r' ∧ K r' ρ
theorem dropS_post {K : Ret → List Res → Prop} {φ : List Res} {g : Nat → Nat} {w : World} {e : Ending} {w' : World} (h : CPost κ φ g w (DropS K) e w') : CPost κ φ g w K e w' := by
  obtain ⟨g', σ', r, h1, h2, h3, ρ, r', ⟨σ2, hp, hs⟩, hle, hk⟩ := h
  refine ⟨g', ρ, r', ?_, h2, ?_, hk⟩
  · exact (h1.sub ((List.Sublist.refl φ).append hs)).perm (hp.append_left φ)
  · cases r with
    | ret x =>
      cases r' with
      | ret y =>
        cases e with
        | returned v => exact hle _ _ _ h3
        | panicked c => exact h3.elim
        | _ => exact h3.elim
      | pan d => exact hle.elim
    | pan c =>
      cases r' with
      | ret y => exact hle.elim
      | pan d => cases hle; exact h3
theorem ACallF.dropS {f : FuncId} {args : List AV} {K : Ret → List Res → Prop} (h : ACallF κ P f args σ (DropS K)) : ACallF κ P f args σ K :=
  fun φ g w vs hR hv => CallsIn.mono (h φ g w vs hR hv) (fun _ _ hp => dropS_post hp)
theorem leafS {K : Ret → List Res → Prop} {σ σ' : List Res} {x y : AV} (hs : Sub σ σ') (h : leS x y) (hK : K (.ret y) σ) : DropS K (.ret x) σ' := ⟨σ, .ret y, hs, h, hK⟩
theorem ResW.of_eq {σ τ : List Res} (h : σ = τ) : ResW σ τ := h ▸ ResW.refl _
theorem leSL_nil : leSL [] [] := trivial
theorem leSL_cons {x y : AV} {xs ys : List AV} (h : leS x y) (h2 : leSL xs ys) : leSL (x :: xs) (y :: ys) := ⟨h, h2⟩
/-! ### Where a walk is cut -/
def Cut (p : Prop) : Prop := p
section
variable {rd : Option Nat} {Q : Exit → St → Prop} {s : St}
theorem cut_at {id : Nat} {ops : Array Oper} {d : Bool} {y : Code} (h : Cut (AW κ rd P (.seq (.region id ops d) y) Q s)) : AW κ rd P (.seq (.region id ops d) y) Q s := h
theorem cut_unit {id : Nat} {ops : Array Oper} {d : Bool} {x y : Code} (h : Cut (AW κ rd P (.seq (.seq (.region id ops d) x) y) Q s)) : AW κ rd P (.seq (.seq (.region id ops d) x) y) Q s := h
theorem cut_one {id : Nat} {ops : Array Oper} {d : Bool} (h : Cut (AW κ rd P (.region id ops d) Q s)) : AW κ rd P (.region id ops d) Q s := h
theorem cut_blk {id : Nat} {x y : Code} (h : Cut (AW κ rd P (.seq (.block id x) y) Q s)) : AW κ rd P (.seq (.block id x) y) Q s := h
theorem cut_loop {c : Code} (h : Cut (AW κ rd P (.loop c) Q s)) : AW κ rd P (.loop c) Q s := h
theorem cut_seqloop {c y : Code} (h : Cut (AW κ rd P (.loop c) (thenQ (AW κ rd P y Q) Q) s)) : AW κ rd P (.seq (.loop c) y) Q s := AW_seqA h
/-- A round's loop, in pieces. -/
theorem loopA {X : Type} (st : X → St) (C : X → Prop) (μ : X → Nat) {c : Code} (x0 : X) (hle0 : s.le (st x0)) (hC0 : C x0)
    (hround : ∀ x, C x → AW κ rd P c (thenQ (fun s' => ∃ y, s'.le (st y) ∧ C y ∧ μ y < μ x) Q) (st x)) : Cut (AW κ rd P (.loop c) Q s) := AW_loop st C μ x0 hle0 hC0 hround
/-- What the second piece begins with; the first one, in pieces. -/
theorem midA {X : Type} (st : X → St) (C : X → Prop) {x y : Code} (h1 : AW κ rd P x (thenQ (fun s' => ∃ z, s'.le (st z) ∧ C z) Q) s) (h2 : ∀ z, C z → AW κ rd P y Q (st z)) : Cut (AW κ rd P (.seq x y) Q s) := AW_midA st C h1 h2
/-- What a piece begins with is told weaker. -/
theorem cut_le {c : Code} {s' : St} (hle : s.le s') (h : AW κ rd P c Q s') : Cut (AW κ rd P c Q s) := AW_le hle h
end
/-! ### A scope through which the run goes straight -/
theorem stepR_scope {P : Program} {b : Frame} {a : Act} {k : List Item} {cs : List Frame} {w : World} {c : Code} :
    step P (lone (b.atR a (.code (.scope c) :: k)) cs w) = .next (lone (b.atR a (.code c :: .inScope c :: k)) cs w) :=
  step_lone_go (by simp [stepG, stepG.exec, Frame.atR])
theorem stepR_inScope {P : Program} {b : Frame} {a : Act} {k : List Item} {cs : List Frame} {w : World} {c : Code} :
    step P (lone (b.atR a (.inScope c :: k)) cs w) = .next (lone (b.atR a k) cs w) :=
  step_lone_go (by simp [stepG, stepG.exec, Frame.atR])
def scopeQ (Q : Exit → St → Prop) : Exit → St → Prop
  | .goto _, _ => False
  | e, s => Q e s
section
variable {Q : Exit → St → Prop} {s : St} {rd : Option Nat}
theorem scope_normal : scopeQ Q .normal s = Q .normal s := rfl
theorem scope_ret : scopeQ Q .ret s = Q .ret s := rfl
theorem scope_exit {id : Nat} : scopeQ Q (.exit id) s = Q (.exit id) s := rfl
theorem scope_panic {c : List PanicEntry} : scopeQ Q (.panic c) s = Q (.panic c) s := rfl
theorem run_scope {c : Code} : run κ P rd (.scope c) Q s = AW κ rd P (.scope c) Q s := rfl
theorem AW_scope {c : Code} (h : AW κ rd P c (scopeQ Q) s) : AW κ rd P (.scope c) Q s := fun φ g a w hs => by
  intro b k cs hro hb hr
  obtain ⟨e, a₁, w₁, hq, harr⟩ := h φ g a w hs b (.inScope c :: k) cs hro hb hr
  have h0 : (lone (b.atR a (.code (.scope c) :: k)) cs w).fenced P (FD rd) := fenced_calm hb hr rfl
  obtain ⟨g', s', hs', hge, hq⟩ := hq
  cases e with
  | normal => exact ⟨.normal, a₁, w₁, ⟨g', s', hs', hge, hq⟩, .head h0 stepR_scope (StepsIn.trans harr (.one (fenced_calm hb hr rfl) stepR_inScope))⟩
  | exit id => exact ⟨.exit id, a₁, w₁, ⟨g', s', hs', hge, hq⟩, .of_steps (.one h0 stepR_scope) ⟨fun k' hk => harr.1 k' (by simpa [exitTo] using hk), fun hr hk => harr.2 hr (by simpa [exitTo] using hk)⟩⟩
  | goto l => exact hq.elim
  | ret => exact ⟨.ret, a₁, w₁, ⟨g', s', hs', hge, hq⟩, .of_steps (.one h0 stepR_scope) harr⟩
  | panic ch => exact ⟨.panic ch, a₁, w₁, ⟨g', s', hs', hge, hq⟩, .of_steps (.one h0 stepR_scope) harr⟩
  | outgrown => exact ⟨.outgrown, a₁, w₁, ⟨g', s', hs', hge, hq⟩, .of_steps (.one h0 stepR_scope) harr⟩
end
/-! ### The greater and the smaller of two numbers -/
theorem act_max2 {ts : Array TypeId} {t : TypeId} {k : IntKind} {a b : Int} (hK : K (.raw (.int k (max a b))) σ) : AAct κ P (.minmax true ts t) [.raw (.int k a), .raw (.int k b)] σ K := by
  intro φ g w vs hR hvs
  obtain ⟨v, u, rfl, hv, hu⟩ := two_vs hvs
  cases hv.raw_eq
  cases hu.raw_eq
  have e : (if b > a then b else a) = max a b := by split <;> omega
  refine ⟨_, w, g, _, σ, ?_, hR, GE.refl _ _, .raw _, hK⟩
  show (Builtin.max_ ts t #[.int k a, .int k b]).run P w = _
  rw [← e]
  simp [Builtin.max_, Builtin.max2]
theorem act_min2 {ts : Array TypeId} {t : TypeId} {k : IntKind} {a b : Int} (hK : K (.raw (.int k (min a b))) σ) : AAct κ P (.minmax false ts t) [.raw (.int k a), .raw (.int k b)] σ K := by
  intro φ g w vs hR hvs
  obtain ⟨v, u, rfl, hv, hu⟩ := two_vs hvs
  cases hv.raw_eq
  cases hu.raw_eq
  have e : (if b < a then b else a) = min a b := by split <;> omega
  refine ⟨_, w, g, _, σ, ?_, hR, GE.refl _ _, .raw _, hK⟩
  show (Builtin.min_ ts t #[.int k a, .int k b]).run P w = _
  rw [← e]
  simp [Builtin.min_, Builtin.min2]
section
variable {fn : Func} {t : List AV} {fr : Bool} {df : List Deferred} {K : Ret → List Res → Prop}
theorem TR.three {g : Nat → Nat} {w : World} {x y z : AV} {v u r : Value} (h : VR g w x v) (h2 : VR g w y u) (h3 : VR g w z r) : TR g w [x, y, z] #[v, u, r] := by
  have := TR.cons (vs := [u, r]) h (TR.cons (vs := [r]) h2 (TR.cons (vs := []) h3 TR.nil))
  exact this
theorem res_ctt {a b c : Tmp} {ty : TypeId} {x : AV} (hf : fn.results = #[.cell a ty, .tmp b, .tmp c]) (h : LoadsTo P κ σ ty (t.getD a .any) x) (hK : K (.ret (.tup [x, t.getD b .any, t.getD c .any])) σ) : resL κ P fn K ⟨t, σ, fr, df⟩ [.cell a ty, .tmp b, .tmp c] := by
  intro φ g w tmps hR ht
  obtain ⟨p, u, h1, h2, h3⟩ := h φ g w _ hR (evT ht a)
  have h1' : tmps[a]?.getD undef = .pointer (some p) := by simpa using h1
  have h4 := TR.three h3 (evT ht b) (evT ht c)
  exact ⟨.tuple #[u, tmps.getD b undef, tmps.getD c undef], _, by simp [results, hf, h1', asAddr, h2], .tup _ h4.size h4.get, hK⟩
end
section
variable {rd : Option Nat} {Q : Exit → St → Prop} {s : St}
theorem AW_runReg {id : Nat} {ops : Array Oper} (h : run κ P rd (.region id ops false) Q s) : AW κ rd P (.region id ops false) Q s := AW_run h
theorem AW_runCond {c : Operand} {x y : Code} (h : run κ P rd (.cond c x y) Q s) : AW κ rd P (.cond c x y) Q s := AW_run h
theorem AW_runExit {id : Nat} (h : run κ P rd (.exit id) Q s) : AW κ rd P (.exit id) Q s := AW_run h
theorem AW_runRet (h : run κ P rd .ret Q s) : AW κ rd P .ret Q s := AW_run h
theorem AW_runSkip (h : run κ P rd .skip Q s) : AW κ rd P .skip Q s := AW_run h
theorem AW_runLabel {l : Nat} (h : run κ P rd (.label l) Q s) : AW κ rd P (.label l) Q s := AW_run h
end
end Go.Abs
/-
  Plain specifications for chapters 2, 3, 6 and 8. No program in sight.
-/

namespace Go.Abs
set_option linter.unusedSimpArgs false
set_option linter.unusedVariables false
open Go.RowKit

theorem leafB {K : Ret → List Res → Prop} {σ : List Res} {b b' : Bool} (h : b = b') (hK : K (.ret (B b')) σ) : K (.ret (B b)) σ := h ▸ hK
theorem leafI {K : Ret → List Res → Prop} {σ : List Res} {b b' : Int} (h : b = b') (hK : K (.ret (I b')) σ) : K (.ret (I b)) σ := h ▸ hK
theorem leaf {K : Ret → List Res → Prop} {σ : List Res} {x y : AV} (h : x = y) (hK : K (.ret y) σ) : K (.ret x) σ := h ▸ hK

def printI (c : Int) : Bool := decide (c = 9 ∨ c = 10 ∨ c = 13 ∨ c = 133 ∨ (32 ≤ c ∧ c ≤ 126) ∨ (160 ≤ c ∧ c ≤ 55295) ∨ (57344 ≤ c ∧ c ≤ 65533) ∨ (65536 ≤ c ∧ c ≤ 1114111))
def blankI (c : Int) : Bool := decide (c = 32 ∨ c = 9)

/-- A list of numbers as a slice. -/
abbrev SI (o : Option (Option (Nat × Nat))) (l : List Int) : AV := .sl 1 o (l.map I)

theorem getI {l : List Int} {k : Nat} (h : k < l.length) : (l.map I).getD k .any = I (l.getD k 0) := by
  simp [List.getD_eq_getElem?_getD, h]

theorem goodI (l : List Int) : goodL (l.map I) = true := by
  unfold goodL
  rw [List.all_map, List.all_eq_true]
  intro x _
  rfl

theorem tw_step {α : Type} {p : α → Bool} {d : α} : ∀ {l : List α} {k : Nat}, k ≤ (l.takeWhile p).length → k < l.length → p (l.getD k d) = true → k + 1 ≤ (l.takeWhile p).length
  | [], _, _, h, _ => by simp at h
  | x :: l, 0, _, _, h => by
    have : p x = true := by simpa using h
    simp [List.takeWhile_cons, this]
  | x :: l, k + 1, h, h1, h2 => by
    by_cases e : p x = true
    · simp only [List.takeWhile_cons, e, if_true, List.length_cons] at h ⊢
      have := tw_step (p := p) (d := d) (l := l) (k := k) (by omega) (by simpa using h1) (by simpa using h2)
      omega
    · simp [List.takeWhile_cons, e] at h
theorem tw_stop {α : Type} {p : α → Bool} {d : α} : ∀ {l : List α} {k : Nat}, k ≤ (l.takeWhile p).length → k < l.length → p (l.getD k d) = false → k = (l.takeWhile p).length
  | [], _, _, h, _ => by simp at h
  | x :: l, 0, _, _, h => by
    have : p x = false := by simpa using h
    simp [List.takeWhile_cons, this]
  | x :: l, k + 1, h, h1, h2 => by
    by_cases e : p x = true
    · simp only [List.takeWhile_cons, e, if_true, List.length_cons] at h ⊢
      have := tw_stop (p := p) (d := d) (l := l) (k := k) (by omega) (by simpa using h1) (by simpa using h2)
      omega
    · simp [List.takeWhile_cons, e] at h
theorem tw_end {α : Type} {p : α → Bool} {l : List α} {k : Nat} (h : k ≤ (l.takeWhile p).length) (h1 : l.length ≤ k) : k = (l.takeWhile p).length := by
  have := (List.takeWhile_prefix p (l := l)).length_le
  omega
theorem leafDB {K : Ret → List Res → Prop} {σ σ' : List Res} {b b' : Bool} (hs : Sub σ σ') (h : b = b') (hK : K (.ret (B b')) σ) : DropK K (.ret (B b)) σ' := ⟨σ, hs, h ▸ hK⟩
theorem leafDI {K : Ret → List Res → Prop} {σ σ' : List Res} {b b' : Int} (hs : Sub σ σ') (h : b = b') (hK : K (.ret (I b')) σ) : DropK K (.ret (I b)) σ' := ⟨σ, hs, h ▸ hK⟩
theorem leafD {K : Ret → List Res → Prop} {σ σ' : List Res} {b b' : AV} (hs : Sub σ σ') (h : b = b') (hK : K (.ret b') σ) : DropK K (.ret b) σ' := ⟨σ, hs, h ▸ hK⟩
def bareI (l : List Int) : Bool := l.all blankI || (l.dropWhile blankI).getD 0 0 == 35
def markerI (n : Int) (t : List Int) : Int := if n = 0 ∧ 3 ≤ t.length ∧ t.getD 0 0 = t.getD 1 0 ∧ t.getD 1 0 = t.getD 2 0 ∧ (3 < t.length → blankI (t.getD 3 0) = true) then (if t.getD 0 0 = 45 then 1 else if t.getD 0 0 = 46 then 2 else 0) else 0
theorem markerI_bad {n : Int} {t : List Int} (hb : blankI (t.getD 3 0) = false) (h : 3 < t.length) : markerI n t = 0 := by
  unfold markerI
  rw [if_neg]
  rintro ⟨_, _, _, _, h5⟩
  rw [h5 h] at hb
  cases hb
theorem dw_step {p : Int → Bool} : ∀ {l : List Int}, 0 < l.length → p (l.getD 0 0) = true → l.dropWhile p = (l.drop 1).dropWhile p
  | [], h, _ => by simp at h
  | x :: l, _, h => by
    have : p x = true := by simpa using h
    simp [List.dropWhile_cons, this]
theorem dw_stop {p : Int → Bool} : ∀ {l : List Int}, 0 < l.length → p (l.getD 0 0) = false → l.dropWhile p = l
  | [], h, _ => by simp at h
  | x :: l, _, h => by
    have : p x = false := by simpa using h
    simp [List.dropWhile_cons, this]
theorem dw_all {p : Int → Bool} : ∀ {l : List Int}, ((l.dropWhile p).length = 0) = (l.all p = true)
  | [] => by simp
  | x :: l => by
    by_cases e : p x = true
    · simp only [List.dropWhile_cons, e, if_true, List.all_cons, Bool.true_and]; exact dw_all
    · simp [List.dropWhile_cons, e]
theorem tw_all {p : Int → Bool} : ∀ {l : List Int}, ((l.takeWhile p).length = l.length) = (l.all p = true)
  | [] => by simp
  | x :: l => by
    by_cases e : p x = true
    · simp only [List.takeWhile_cons, e, if_true, List.all_cons, Bool.true_and, List.length_cons, Nat.add_right_cancel_iff]; exact tw_all
    · simp [List.takeWhile_cons, e]
theorem tw_dw {p : Int → Bool} : ∀ {l : List Int}, l.drop (l.takeWhile p).length = l.dropWhile p
  | [] => by simp
  | x :: l => by
    by_cases e : p x = true
    · simp only [List.takeWhile_cons, e, if_true, List.length_cons, List.dropWhile_cons, List.drop_succ_cons]; exact tw_dw
    · simp [List.takeWhile_cons, List.dropWhile_cons, e]
theorem getD_mid {a r : List Int} {c d : Int} : (a ++ c :: r).getD a.length d = c := by simp
theorem getD_mid1 {a r : List Int} {c d : Int} : (a ++ c :: r).getD (a.length + 1) d = r.getD 0 d := by
  simp only [List.getD_eq_getElem?_getD]
  rw [List.getElem?_append_right (by omega)]
  simp [show a.length + 1 - a.length = 1 by omega]
theorem take_mid {a r : List Int} {c : Int} : (a ++ c :: r).take a.length = a := by simp
theorem drop_mid {a r : List Int} {c : Int} : (a ++ c :: r).drop (a.length + 1) = r := by
  rw [List.drop_append]; simp [show a.length + 1 - a.length = 1 by omega]
theorem drop_mid2 {a r : List Int} {c : Int} : (a ++ c :: r).drop (a.length + 2) = r.drop 1 := by
  rw [List.drop_append]; simp [show a.length + 2 - a.length = 2 by omega]
theorem tn1 {n : Nat} : ((n : Int) + 1).toNat = n + 1 := by omega
theorem tn2 {n : Nat} : ((n : Int) + 2).toNat = n + 2 := by omega
theorem tn11 {n : Int} : n + 1 + 1 = n + 2 := by omega
/-- Where the first one stands that is so; -1: none is. -/
def idxI (p : Int → Bool) : List Int → Int
  | [] => -1
  | c :: r => if p c then 0 else if idxI p r < 0 then -1 else idxI p r + 1
theorem idxI_hit {p : Int → Bool} : ∀ {l : List Int} {k : Nat}, k < l.length → (∀ j, j < k → p (l.getD j 0) = false) → p (l.getD k 0) = true → idxI p l = k
  | [], _, h, _, _ => by simp at h
  | c :: r, 0, _, _, h => by simp at h; simp [idxI, h]
  | c :: r, k + 1, h, h1, h2 => by
    have h0 : p c = false := by simpa using h1 0 (by omega)
    have := idxI_hit (p := p) (l := r) (k := k) (by simpa using h) (fun j hj => by simpa using h1 (j + 1) (by omega)) (by simpa using h2)
    simp only [idxI, h0, this]
    rw [if_neg (by simp), if_neg (by omega)]
    omega
theorem idxI_none {p : Int → Bool} : ∀ {l : List Int}, (∀ j, j < l.length → p (l.getD j 0) = false) → idxI p l = -1
  | [], _ => rfl
  | c :: r, h => by
    have h0 : p c = false := by simpa using h 0 (by simp)
    have := idxI_none (p := p) (l := r) (fun j hj => by simpa using h (j + 1) (by simpa using hj))
    simp [idxI, h0, this]
/-- Either none is so, or the list falls in two there. -/
theorem idxI_spec (p : Int → Bool) : ∀ (l : List Int), (idxI p l = -1 ∧ ∀ c ∈ l, p c = false) ∨ ∃ a c r, l = a ++ c :: r ∧ idxI p l = (a.length : Nat) ∧ p c = true ∧ ∀ x ∈ a, p x = false
  | [] => .inl ⟨rfl, fun _ h => by simp at h⟩
  | c :: r => by
    cases hc : p c with
    | true => exact .inr ⟨[], c, r, rfl, by simp [idxI, hc], hc, fun _ h => by simp at h⟩
    | false =>
      rcases idxI_spec p r with ⟨h1, h2⟩ | ⟨a, d, s, rfl, h2, h3, h4⟩
      · exact .inl ⟨by simp [idxI, hc, h1], fun x hx => by rcases List.mem_cons.1 hx with rfl | hx; exact hc; exact h2 x hx⟩
      · refine .inr ⟨c :: a, d, s, rfl, ?_, h3, fun x hx => by rcases List.mem_cons.1 hx with rfl | hx; exact hc; exact h4 x hx⟩
        simp only [idxI, hc, h2]
        rw [if_neg (by simp), if_neg (by omega)]
        simp

theorem bare_all {l : List Int} (h : l.all blankI = true) : bareI l = true := by simp [bareI, h]
theorem marker_bare {n : Int} {l : List Int} (h : bareI l = true) : markerI n l = 0 := by
  unfold markerI
  split
  case isFalse => rfl
  case isTrue hh =>
    obtain ⟨_, h3, h01, h12, _⟩ := hh
    cases l with
    | nil => simp at h3
    | cons c r =>
      simp only [List.getD_cons_zero] at h01 ⊢
      by_cases hb : blankI c = true
      · simp [blankI] at hb
        rw [if_neg (by omega), if_neg (by omega)]
      · simp [bareI, hb, List.dropWhile_cons] at h
        rw [if_neg (by omega), if_neg (by omega)]

theorem ext_getD {a b : List Int} (h : a.length = b.length) (hj : ∀ j, j < a.length → a.getD j 0 = b.getD j 0) : a = b := by
  refine List.ext_getElem h (fun j h1 h2 => ?_)
  have := hj j h1
  simpa [List.getD_eq_getElem?_getD, h1, h2] using this

end Go.Abs
/-
  Numbers, bit by bit. No program in sight.
-/

namespace Go.Abs
def andI (a b : Int) : Int := IntKind.i64.wrap ((BitVec.ofInt 64 a &&& BitVec.ofInt 64 b).toNat : Nat)
def orI (a b : Int) : Int := IntKind.i64.wrap ((BitVec.ofInt 64 a ||| BitVec.ofInt 64 b).toNat : Nat)
theorem fold_and {a b : Int} : IntKind.i64.wrap ((BitVec.ofInt IntKind.i64.bits a &&& BitVec.ofInt IntKind.i64.bits b).toNat : Nat) = andI a b := rfl
theorem fold_or {a b : Int} : IntKind.i64.wrap ((BitVec.ofInt IntKind.i64.bits a ||| BitVec.ofInt IntKind.i64.bits b).toNat : Nat) = orI a b := rfl
theorem andI_le {a : Int} {m : Nat} (hm : m < 9223372036854775808) : 0 ≤ andI a m ∧ andI a m ≤ m := by
  unfold andI
  have h1 : (BitVec.ofInt 64 a &&& BitVec.ofInt 64 (m : Int)).toNat ≤ m := by
    rw [BitVec.toNat_and]
    refine Nat.le_trans Nat.and_le_right ?_
    have : (BitVec.ofInt 64 (m : Int)).toNat = m := by
      rw [BitVec.toNat_ofInt]
      have : ((m : Int) % ((2 ^ 64 : Nat) : Int)).toNat = m := by omega
      exact this
    omega
  rw [wrap_id (by omega) (by omega)]
  omega
/-- The low bits: a rest. -/
theorem andI_mod {a : Int} (k : Nat) (hk : k < 63) : andI a ((2 ^ k - 1 : Nat) : Int) = a % (2 ^ k : Nat) := by
  have hp : 2 ^ k < 9223372036854775808 := by
    have := Nat.pow_lt_pow_right (a := 2) (by decide) hk
    simpa using this
  have hb := andI_le (a := a) (m := 2 ^ k - 1) (by omega)
  unfold andI at *
  have h0 : (BitVec.ofInt 64 ((2 ^ k - 1 : Nat) : Int)).toNat = 2 ^ k - 1 := by
    rw [BitVec.toNat_ofInt]
    have h2 : 2 ^ k - 1 < 2 ^ 64 := by omega
    have : (((2 ^ k - 1 : Nat) : Int) % ((2 ^ 64 : Nat) : Int)).toNat = 2 ^ k - 1 := by omega
    exact this
  have h1 : (BitVec.ofInt 64 a &&& BitVec.ofInt 64 ((2 ^ k - 1 : Nat) : Int)).toNat = (a % ((2 ^ 64 : Nat) : Int)).toNat % 2 ^ k := by
    rw [BitVec.toNat_and, h0, BitVec.toNat_ofInt, Nat.and_two_pow_sub_one_eq_mod]
  rw [h1]
  have h3 : (a % ((2 ^ 64 : Nat) : Int)).toNat % 2 ^ k < 2 ^ k := Nat.mod_lt _ (by omega)
  rw [wrap_id (by omega) (by omega)]
  have h4 : (((a % ((2 ^ 64 : Nat) : Int)).toNat % 2 ^ k : Nat) : Int) = (a % ((2 ^ 64 : Nat) : Int)) % ((2 ^ k : Nat) : Int) := by
    rw [Int.natCast_emod, Int.toNat_of_nonneg (by omega)]
  rw [h4]
  refine Int.emod_emod_of_dvd a ?_
  refine Int.natCast_dvd_natCast.2 (Nat.pow_dvd_pow 2 (by omega))
theorem and1 {a : Int} : andI a 1 = a % 2 := andI_mod (a := a) 1 (by decide)
theorem and3 {a : Int} : andI a 3 = a % 4 := andI_mod (a := a) 2 (by decide)
theorem and7 {a : Int} : andI a 7 = a % 8 := andI_mod (a := a) 3 (by decide)
theorem and15 {a : Int} : andI a 15 = a % 16 := andI_mod (a := a) 4 (by decide)
theorem and31 {a : Int} : andI a 31 = a % 32 := andI_mod (a := a) 5 (by decide)
theorem and63 {a : Int} : andI a 63 = a % 64 := andI_mod (a := a) 6 (by decide)
theorem and127 {a : Int} : andI a 127 = a % 128 := andI_mod (a := a) 7 (by decide)
theorem and255 {a : Int} : andI a 255 = a % 256 := andI_mod (a := a) 8 (by decide)
/-! ### Shifts, and numbers without a sign -/
theorem shr_i {a b : Int} (h : 0 ≤ b) (h2 : b < 64) : shF .shr .i64 a b = some (.int .i64 (a / 2 ^ b.toNat)) := by
  have e : min b.toNat IntKind.i64.bits = b.toNat := by show min b.toNat 64 = _; omega
  simp only [shF, e]
  rw [if_neg (by omega), Int.fdiv_eq_ediv_of_nonneg _ (Int.pow_nonneg (by decide))]
theorem shr_u {a b : Int} (h : 0 ≤ b) (h2 : b < 64) : shF .shr .u64 a b = some (.int .u64 (a / 2 ^ b.toNat)) := by
  have e : min b.toNat IntKind.u64.bits = b.toNat := by show min b.toNat 64 = _; omega
  simp only [shF, e]
  rw [if_neg (by omega), Int.fdiv_eq_ediv_of_nonneg _ (Int.pow_nonneg (by decide))]
theorem shl_i {a b : Int} (h : 0 ≤ b) (h2 : b < 64) : shF .shl .i64 a b = some (.int .i64 (IntKind.i64.wrap (a * 2 ^ b.toNat))) := by
  have e : min b.toNat IntKind.i64.bits = b.toNat := by show min b.toNat 64 = _; omega
  simp only [shF, e]
  rw [if_neg (by omega)]
theorem wrapu_id {n : Int} (h : 0 ≤ n) (h2 : n ≤ 18446744073709551615) : IntKind.u64.wrap n = n := by
  show n % (2 ^ 64 : Int) = n
  omega
def andU (a b : Int) : Int := IntKind.u64.wrap ((BitVec.ofInt 64 a &&& BitVec.ofInt 64 b).toNat : Nat)
theorem fold_andu {a b : Int} : IntKind.u64.wrap ((BitVec.ofInt IntKind.u64.bits a &&& BitVec.ofInt IntKind.u64.bits b).toNat : Nat) = andU a b := rfl
theorem andu32 {a : Int} (h : 0 ≤ a) (h2 : a ≤ 4294967295) : andU a 4294967295 = a := by
  obtain ⟨n, rfl⟩ := Int.eq_ofNat_of_zero_le h
  unfold andU
  have e1 : (BitVec.ofInt 64 (n : Int)).toNat = n := by
    rw [BitVec.toNat_ofInt]
    have : ((n : Int) % ((2 ^ 64 : Nat) : Int)).toNat = n := by omega
    exact this
  have e2 : (BitVec.ofInt 64 (4294967295 : Int)).toNat = 2 ^ 32 - 1 := rfl
  have e : (BitVec.ofInt 64 (n : Int) &&& BitVec.ofInt 64 (4294967295 : Int)).toNat = n := by
    rw [BitVec.toNat_and, e1, e2, Nat.and_two_pow_sub_one_eq_mod]
    omega
  rw [e]
  exact wrapu_id (by omega) (by omega)
theorem ediv0 {a b : Int} (h : 0 ≤ a) (h2 : a < b) : a / b = 0 := Int.ediv_eq_zero_of_lt h h2
end Go.Abs
/-
  Plain specifications: code points as bytes. No program in sight.
-/



namespace Go.Abs
set_option linter.unusedSimpArgs false
def rightI (c : Int) : Bool := decide (0 ≤ c ∧ c ≤ 1114111 ∧ (c < 55296 ∨ 57343 < c))
/-- The bytes of a code point. -/
def encR (c : Int) : List Int :=
  if c < 128 then [c] else if c < 2048 then [192 + c / 64, 128 + c % 64] else if c < 65536 then [224 + c / 4096, 128 + c / 64 % 64, 128 + c % 64] else [240 + c / 262144, 128 + c / 4096 % 64, 128 + c / 64 % 64, 128 + c % 64]
def fixI (c : Int) : Int := if rightI c then c else 65533
def encC (c : Int) : List Int := encR (fixI c)
def encL (l : List Int) : List Int := l.flatMap encC
/-- Code points as a text. -/
def textI (l : List Int) : ByteArray := strOfNums (encL l)
theorem right_yes {c : Int} (h : 0 ≤ c) (h1 : c ≤ 1114111) (h2 : c < 55296 ∨ 57343 < c) : rightI c = true := decide_eq_true ⟨h, h1, h2⟩
theorem rightI_iff {c : Int} : rightI c = true ↔ 0 ≤ c ∧ c ≤ 1114111 ∧ (c < 55296 ∨ 57343 < c) := by unfold rightI; exact decide_eq_true_iff
theorem rightI_not {c : Int} : rightI c = false ↔ ¬ (0 ≤ c ∧ c ≤ 1114111 ∧ (c < 55296 ∨ 57343 < c)) := by unfold rightI; exact decide_eq_false_iff_not
theorem fix_right (c : Int) : 0 ≤ fixI c ∧ fixI c ≤ 1114111 ∧ (fixI c < 55296 ∨ 57343 < fixI c) := by
  unfold fixI
  split
  · rename_i h; exact rightI_iff.1 h
  · omega
theorem fix_id {c : Int} (h : rightI c = true) : fixI c = c := by unfold fixI; rw [if_pos h]
theorem fix_no {c : Int} (h : rightI c = false) : fixI c = 65533 := by unfold fixI; rw [if_neg (by rw [h]; decide)]
theorem encR_len (c : Int) : 1 ≤ (encR c).length ∧ (encR c).length ≤ 4 := by unfold encR; (repeat' split) <;> simp
theorem encC_len (c : Int) : 1 ≤ (encC c).length ∧ (encC c).length ≤ 4 := encR_len _
theorem encL_len (l : List Int) : (encL l).length ≤ 4 * l.length := by
  induction l with
  | nil => simp [encL]
  | cons c r ih =>
    have := encC_len c
    simp only [encL, List.flatMap_cons, List.length_append, List.length_cons] at *
    omega
theorem encL_app (a b : List Int) : encL (a ++ b) = encL a ++ encL b := by simp [encL]
theorem encL_one (c : Int) : encL [c] = encC c := by simp [encL]
theorem encL_take {l : List Int} {k : Nat} (h : k < l.length) : encL (l.take (k + 1)) = encL (l.take k) ++ encC (l.getD k 0) := by
  rw [List.take_succ_eq_append_getElem h, encL_app, encL_one]
  simp [List.getD_eq_getElem?_getD, h]
theorem encC_byte (c : Int) : ∀ x ∈ encC c, 0 ≤ x ∧ x ≤ 255 := by
  have h := fix_right c
  unfold encC encR
  generalize fixI c = d at *
  intro x hx
  (repeat' split at hx) <;> simp only [List.mem_cons, List.not_mem_nil, or_false] at hx <;> omega
theorem encL_byte (l : List Int) : ∀ x ∈ encL l, 0 ≤ x ∧ x ≤ 255 := by
  intro x hx
  obtain ⟨c, _, h⟩ := List.mem_flatMap.1 hx
  exact encC_byte c x h
theorem textI_app (a b : List Int) : textI a ++ textI b = textI (a ++ b) := by unfold textI; rw [strOfNums_app, encL_app]
theorem textI_nil : textI [] = ByteArray.empty := rfl
theorem bytesI_text (l : List Int) : bytesI (textI l) = encL l := bytesI_strOfNums (encL_byte l)
theorem encC_ascii {c : Int} (h : 0 ≤ c) (h2 : c < 128) : encC c = [c] := by
  unfold encC; rw [fix_id (right_yes h (by omega) (by omega))]; unfold encR; rw [if_pos h2]
theorem encL_ascii {l : List Int} (h : ∀ c ∈ l, 0 ≤ c ∧ c < 128) : encL l = l := by
  induction l with
  | nil => rfl
  | cons c r ih =>
    have := h c (by simp)
    simp only [encL, List.flatMap_cons]
    rw [encC_ascii this.1 this.2]
    have := ih (fun x hx => h x (by simp [hx]))
    simp only [encL] at this
    rw [this]; rfl
/-! ### Bits -/
theorem natOr {m b : Nat} (hm : m < 256) (hb : b < 256) : IntKind.i64.wrap ((BitVec.ofInt 64 (m : Int) ||| BitVec.ofInt 64 (b : Int)).toNat : Nat) = ((m ||| b : Nat) : Int) := by
  have e : ∀ n : Nat, n < 256 → (BitVec.ofInt 64 (n : Int)).toNat = n := fun n hn => by
    rw [BitVec.toNat_ofInt]
    have : ((n : Int) % ((2 ^ 64 : Nat) : Int)).toNat = n := by omega
    exact this
  rw [BitVec.toNat_or, e m hm, e b hb]
  have : m ||| b < 2 ^ 8 := Nat.or_lt_two_pow hm hb
  exact wrap_id (by omega) (by omega)
theorem orI_nat {m b : Nat} (hm : m < 256) (hb : b < 256) : orI m b = ((m ||| b : Nat) : Int) := natOr hm hb
theorem or128 {b : Int} (h : 0 ≤ b) (h2 : b < 64) : orI 128 b = 128 + b := by
  obtain ⟨n, rfl⟩ := Int.eq_ofNat_of_zero_le h
  have := orI_nat (m := 128) (b := n) (by decide) (by omega)
  have h3 : ∀ n : Fin 64, 128 ||| n.1 = 128 + n.1 := by decide
  have h4 := h3 ⟨n, by omega⟩
  simp only at h4
  rw [h4] at this
  have e : ((128 : Nat) : Int) = 128 := rfl
  rw [e] at this
  rw [this]; omega
theorem or192 {b : Int} (h : 0 ≤ b) (h2 : b < 64) : orI 192 b = 192 + b := by
  obtain ⟨n, rfl⟩ := Int.eq_ofNat_of_zero_le h
  have := orI_nat (m := 192) (b := n) (by decide) (by omega)
  have h3 : ∀ n : Fin 64, 192 ||| n.1 = 192 + n.1 := by decide
  have h4 := h3 ⟨n, by omega⟩
  simp only at h4
  rw [h4] at this
  have e : ((192 : Nat) : Int) = 192 := rfl
  rw [e] at this
  rw [this]; omega
theorem or224 {b : Int} (h : 0 ≤ b) (h2 : b < 32) : orI 224 b = 224 + b := by
  obtain ⟨n, rfl⟩ := Int.eq_ofNat_of_zero_le h
  have := orI_nat (m := 224) (b := n) (by decide) (by omega)
  have h3 : ∀ n : Fin 32, 224 ||| n.1 = 224 + n.1 := by decide
  have h4 := h3 ⟨n, by omega⟩
  simp only at h4
  rw [h4] at this
  have e : ((224 : Nat) : Int) = 224 := rfl
  rw [e] at this
  rw [this]; omega
theorem or240 {b : Int} (h : 0 ≤ b) (h2 : b < 16) : orI 240 b = 240 + b := by
  obtain ⟨n, rfl⟩ := Int.eq_ofNat_of_zero_le h
  have := orI_nat (m := 240) (b := n) (by decide) (by omega)
  have h3 : ∀ n : Fin 16, 240 ||| n.1 = 240 + n.1 := by decide
  have h4 := h3 ⟨n, by omega⟩
  simp only at h4
  rw [h4] at this
  have e : ((240 : Nat) : Int) = 240 := rfl
  rw [e] at this
  rw [this]; omega
theorem wrapu8 {n : Int} (h : 0 ≤ n) (h2 : n ≤ 255) : IntKind.u8.wrap n = n := by
  show n % (2 ^ 8 : Int) = n
  omega
theorem wrapu32 {n : Int} (h : 0 ≤ n) (h2 : n ≤ 4294967295) : IntKind.u32.wrap n = n := by
  show n % (2 ^ 32 : Int) = n
  omega
theorem wrapi32 {n : Int} (h : 0 ≤ n) (h2 : n ≤ 2147483647) : IntKind.i32.wrap n = n := by
  rw [IntKind.wrap_i32]; omega
theorem shr_i32 {a b : Int} (h : 0 ≤ b) (h2 : b < 32) : shF .shr .i32 a b = some (.int .i32 (a / 2 ^ b.toNat)) := by
  have e : min b.toNat IntKind.i32.bits = b.toNat := by show min b.toNat 32 = _; omega
  simp only [shF, e]
  rw [if_neg (by omega), Int.fdiv_eq_ediv_of_nonneg _ (Int.pow_nonneg (by decide))]
def or8 (a b : Int) : Int := IntKind.u8.wrap ((BitVec.ofInt 8 a ||| BitVec.ofInt 8 b).toNat : Nat)
def and8 (a b : Int) : Int := IntKind.u8.wrap ((BitVec.ofInt 8 a &&& BitVec.ofInt 8 b).toNat : Nat)
theorem fold_or8 {a b : Int} : IntKind.u8.wrap ((BitVec.ofInt IntKind.u8.bits a ||| BitVec.ofInt IntKind.u8.bits b).toNat : Nat) = or8 a b := rfl
theorem fold_and8 {a b : Int} : IntKind.u8.wrap ((BitVec.ofInt IntKind.u8.bits a &&& BitVec.ofInt IntKind.u8.bits b).toNat : Nat) = and8 a b := rfl
theorem or8_nat {m b : Nat} (hm : m < 256) (hb : b < 256) : or8 m b = ((m ||| b : Nat) : Int) := by
  unfold or8
  have e : ∀ n : Nat, n < 256 → (BitVec.ofInt 8 (n : Int)).toNat = n := fun n hn => by
    rw [BitVec.toNat_ofInt]
    have : ((n : Int) % ((2 ^ 8 : Nat) : Int)).toNat = n := by omega
    exact this
  rw [BitVec.toNat_or, e m hm, e b hb]
  have : m ||| b < 2 ^ 8 := Nat.or_lt_two_pow hm hb
  exact wrapu8 (by omega) (by omega)
theorem or8_128 {b : Int} (h : 0 ≤ b) (h2 : b < 64) : or8 128 b = 128 + b := by
  obtain ⟨n, rfl⟩ := Int.eq_ofNat_of_zero_le h
  have h5 := orI_nat (m := 128) (b := n) (by decide) (by omega)
  have h6 := or8_nat (m := 128) (b := n) (by decide) (by omega)
  exact (h6.trans h5.symm).trans (or128 h h2)
theorem or8_192 {b : Int} (h : 0 ≤ b) (h2 : b < 64) : or8 192 b = 192 + b := by
  obtain ⟨n, rfl⟩ := Int.eq_ofNat_of_zero_le h
  have h5 := orI_nat (m := 192) (b := n) (by decide) (by omega)
  have h6 := or8_nat (m := 192) (b := n) (by decide) (by omega)
  exact (h6.trans h5.symm).trans (or192 h h2)
theorem or8_224 {b : Int} (h : 0 ≤ b) (h2 : b < 32) : or8 224 b = 224 + b := by
  obtain ⟨n, rfl⟩ := Int.eq_ofNat_of_zero_le h
  have h5 := orI_nat (m := 224) (b := n) (by decide) (by omega)
  have h6 := or8_nat (m := 224) (b := n) (by decide) (by omega)
  exact (h6.trans h5.symm).trans (or224 h h2)
theorem or8_240 {b : Int} (h : 0 ≤ b) (h2 : b < 16) : or8 240 b = 240 + b := by
  obtain ⟨n, rfl⟩ := Int.eq_ofNat_of_zero_le h
  have h5 := orI_nat (m := 240) (b := n) (by decide) (by omega)
  have h6 := or8_nat (m := 240) (b := n) (by decide) (by omega)
  exact (h6.trans h5.symm).trans (or240 h h2)
theorem and8_63 {a : Int} : and8 (IntKind.u8.wrap a) 63 = a % 64 := by
  unfold and8
  have e1 : (BitVec.ofInt 8 (IntKind.u8.wrap a)).toNat = (a % 256).toNat := by
    show (BitVec.ofInt 8 (a % (2 ^ 8 : Int))).toNat = _
    rw [BitVec.toNat_ofInt]
    have : ((a % (2 ^ 8 : Int)) % ((2 ^ 8 : Nat) : Int)).toNat = (a % 256).toNat := by omega
    exact this
  have e2 : (BitVec.ofInt 8 (63 : Int)).toNat = 2 ^ 6 - 1 := rfl
  rw [BitVec.toNat_and, e1, e2, Nat.and_two_pow_sub_one_eq_mod]
  rw [wrapu8 (by omega) (by omega)]
  omega
end Go.Abs
/-
  Plain specifications for chapter 2: kinds of code points. No program in sight.
-/

namespace Go.Abs
def flowI (c : Int) : Bool := decide (c = 44 ∨ c = 91 ∨ c = 93 ∨ c = 123 ∨ c = 125)
def nameI (c : Int) : Bool := printI c && !blankI c && !(c == 10) && !(c == 13) && !(c == 65279) && !flowI c
def wordI (c : Int) : Bool := decide ((48 ≤ c ∧ c ≤ 57) ∨ (97 ≤ c ∧ c ≤ 122) ∨ (65 ≤ c ∧ c ≤ 90) ∨ c = 45)
def hexI (c : Int) : Int := if 48 ≤ c ∧ c ≤ 57 then c - 48 else if 97 ≤ c ∧ c ≤ 102 then c - 97 + 10 else if 65 ≤ c ∧ c ≤ 70 then c - 65 + 10 else -1
theorem hexI_le (c : Int) : -1 ≤ hexI c ∧ hexI c ≤ 15 := by unfold hexI; (repeat' split) <;> omega
theorem mem_getD {l : List Int} {c : Int} {k : Nat} (h : k < l.length) (e : l.getD k 0 = c) : c ∈ l := by
  rw [← e, List.getD_eq_getElem?_getD, List.getElem?_eq_getElem h]
  exact List.getElem_mem h
theorem not_mem_getD {l : List Int} {c : Int} (h : ∀ j, j < l.length → ¬ l.getD j 0 = c) : ¬ c ∈ l := by
  intro hm
  obtain ⟨j, hj, e⟩ := List.getElem_of_mem hm
  refine h j hj ?_
  rw [List.getD_eq_getElem?_getD, List.getElem?_eq_getElem hj]
  exact e
theorem flow_mem {s : ByteArray} (hs : bytesI s = [44, 91, 93, 123, 125]) (c : Int) : decide (c ∈ bytesI s) = flowI c := by
  rw [hs, Bool.eq_iff_iff, decide_eq_true_eq]
  simp [flowI]
end Go.Abs
/-
  Plain specifications for chapter 3: lines. No program in sight.
-/

namespace Go.Abs
set_option linter.unusedSimpArgs false
set_option linter.unusedVariables false

def brk (c : Int) : Bool := c == 10 || c == 13

/-- The texts of lines; 'acc': what stands on this line already. -/
def tx : List Int → List Int → List (List Int)
  | acc, [] => if acc.isEmpty then [] else [acc]
  | acc, [c] => if brk c then [acc] else [acc ++ [c]]
  | acc, c :: d :: r => if c == 13 && d == 10 then acc :: tx [] r else if brk c then acc :: tx [] (d :: r) else tx (acc ++ [c]) (d :: r)

theorem tx_push {acc r : List Int} {c : Int} (h : brk c = false) : tx acc (c :: r) = tx (acc ++ [c]) r := by
  have h13 : (c == 13) = false := by simp [brk] at h; simp [h]
  cases r with
  | nil => simp [tx, h]
  | cons d r => simp [tx, h, h13]

theorem tx_brk {acc r : List Int} {c : Int} (h : brk c = true) (h2 : ¬ (c = 13 ∧ r.head? = some 10)) : tx acc (c :: r) = acc :: tx [] r := by
  cases r with
  | nil => simp [tx, h]
  | cons d r =>
    have : (c == 13 && d == 10) = false := by
      rw [Bool.eq_false_iff]; intro e; simp at e; exact h2 (by simp [e])
    simp [tx, h, this]

theorem tx_crlf {acc r : List Int} : tx acc (13 :: 10 :: r) = acc :: tx [] r := by simp [tx]

theorem tx_none : ∀ {l acc : List Int}, (∀ c ∈ l, brk c = false) → tx acc l = if (acc ++ l).isEmpty then [] else [acc ++ l]
  | [], acc, _ => by simp [tx]
  | c :: r, acc, h => by
    rw [tx_push (h c (by simp)), tx_none (fun x hx => h x (by simp [hx]))]
    simp

theorem tx_app : ∀ {p acc r : List Int}, (∀ c ∈ p, brk c = false) → tx acc (p ++ r) = tx (acc ++ p) r
  | [], acc, r, _ => by simp
  | c :: p, acc, r, h => by
    rw [List.cons_append, tx_push (h c (by simp)), tx_app (fun x hx => h x (by simp [hx]))]
    simp

theorem tx_stepA {a r : List Int} (ha : ∀ x ∈ a, brk x = false) (h : 0 < r.length) (h10 : r.getD 0 0 = 10) : tx [] (a ++ 13 :: r) = a :: tx [] (r.drop 1) := by
  rw [tx_app ha, List.nil_append]
  match r, h, h10 with
  | x :: r, _, h => simp at h; subst h; exact tx_crlf
theorem tx_stepB {a r : List Int} {c : Int} (ha : ∀ x ∈ a, brk x = false) (hc : brk c = true) (h : ¬ (c = 13 ∧ 0 < r.length ∧ r.getD 0 0 = 10)) : tx [] (a ++ c :: r) = a :: tx [] r := by
  rw [tx_app ha, List.nil_append]
  refine tx_brk hc (fun ⟨h1, h2⟩ => h ⟨h1, ?_⟩)
  cases r with
  | nil => cases h2
  | cons x r => simp at h2; simp [h2]

/-- A line: how far it is set in, and its text. -/
def lineOf (t : List Int) : Int × List Int := (((t.takeWhile (· == 32)).length : Nat), t.dropWhile (· == 32))
def linesOf (l : List Int) : List (Int × List Int) := (tx [] l).map lineOf
def goodC (c : Int) : Bool := printI c && !(c == 65279)
theorem goodC_no {c : Int} (h : printI c = false ∨ c = 65279) : goodC c = false := by
  rcases h with h | rfl
  · simp [goodC, h]
  · simp [goodC]
theorem goodC_yes {c : Int} (h : printI c = true) (h2 : ¬ c = 65279) : goodC c = true := by simp [goodC, h, h2]
def readOk (l : List Int) : Bool := l.all goodC

def readR (l : List Int) : List (Int × List Int) × Int := if readOk l then (linesOf l, 0) else ([], 4)
theorem readR_bad {l : List Int} {k : Nat} (hk : k < l.length) (h : goodC (l.getD k 0) = false) : readR l = ([], 4) := by
  unfold readR
  rw [if_neg]
  intro hc
  have := List.all_eq_true.1 hc (l.getD k 0) (by simp [List.getD_eq_getElem?_getD, hk])
  rw [h] at this; cases this
theorem readR_ok {l : List Int} (h : ∀ j, j < l.length → goodC (l.getD j 0) = true) : readR l = (linesOf l, 0) := by
  unfold readR
  rw [if_pos]
  refine List.all_eq_true.2 fun x hx => ?_
  obtain ⟨j, hj, rfl⟩ := List.getElem_of_mem hx
  have := h j hj
  simpa [List.getD_eq_getElem?_getD, hj] using this

abbrev LN (x : Int × List Int) : AV := .agg [I x.1, SI none x.2]
abbrev SL (o : Option (Option (Nat × Nat))) (l : List (Int × List Int)) : AV := .sl 2 o (l.map LN)

theorem goodSL (l : List (Int × List Int)) : goodL (l.map LN) = true := by
  unfold goodL
  rw [List.all_map, List.all_eq_true]
  intro x _
  rfl

theorem getL {l : List (Int × List Int)} {k : Nat} (h : k < l.length) : (l.map LN).getD k .any = LN (l.getD k (0, [])) := by
  simp [List.getD_eq_getElem?_getD, h]

theorem tx_length : ∀ (l acc : List Int), (tx acc l).length ≤ acc.length + l.length
  | [], acc => by
    unfold tx
    split
    · simp
    · rename_i h; cases acc <;> simp at h ⊢
  | [c], acc => by
    unfold tx; split <;> simp
  | c :: d :: r, acc => by
    have h1 := tx_length r []
    have h2 := tx_length (d :: r) []
    have h3 := tx_length (d :: r) (acc ++ [c])
    unfold tx
    simp only [List.length_nil, List.length_cons, List.length_append] at *
    split
    · simp only [List.length_cons]; omega
    · split
      · simp only [List.length_cons]; omega
      · omega

theorem tx_each : ∀ (l acc : List Int), ∀ t ∈ tx acc l, t.length ≤ acc.length + l.length
  | [], acc => by
    unfold tx
    split <;> intro t ht <;> simp at ht
    subst ht; simp
  | [c], acc => by
    unfold tx; split <;> intro t ht <;> simp at ht <;> subst ht <;> simp
  | c :: d :: r, acc => by
    have h1 := tx_each r []
    have h2 := tx_each (d :: r) []
    have h3 := tx_each (d :: r) (acc ++ [c])
    intro t ht
    unfold tx at ht
    simp only [List.length_nil, List.length_cons, List.length_append] at *
    split at ht
    · rcases List.mem_cons.1 ht with rfl | ht
      · omega
      · have := h1 t ht; omega
    · split at ht
      · rcases List.mem_cons.1 ht with rfl | ht
        · omega
        · have := h2 t ht; omega
      · have := h3 t ht; omega

/-- Texts one behind the other, with a line's end between. -/
theorem tx_parts {e : List Int} (he : e = [10] ∨ e = [13] ∨ e = [13, 10]) {b : List Int} (hb : e = [13] → b.head? ≠ some 10) : ∀ (a acc : List Int), (a = [] → acc ≠ []) → (∀ c, a.getLast? = some c → brk c = false) → tx acc (a ++ e ++ b) = tx acc a ++ tx [] b
  | [], acc, h1, _ => by
    have hacc : acc.isEmpty = false := by cases acc with
      | nil => exact absurd rfl (h1 rfl)
      | cons x acc => rfl
    have ht : tx acc [] = [acc] := by simp [tx, hacc]
    rw [ht]
    rcases he with rfl | rfl | rfl
    · exact tx_brk rfl (fun h => by cases h.1)
    · exact tx_brk rfl (fun h => hb rfl h.2)
    · exact tx_crlf
  | [c], acc, h1, h2 => by
    have hc := h2 c rfl
    have := tx_parts he hb [] (acc ++ [c]) (fun _ => by simp) (fun c h => by cases h)
    rw [List.cons_append, List.cons_append, tx_push hc, tx_push hc]
    exact this
  | c :: d :: r, acc, h1, h2 => by
    have ih1 := tx_parts he hb (d :: r) [] (fun h => by cases h) (fun x hx => h2 x (by simpa using hx))
    have ih2 := tx_parts he hb (d :: r) (acc ++ [c]) (fun h => by cases h) (fun x hx => h2 x (by simpa using hx))
    by_cases hcd : c = 13 ∧ d = 10
    · obtain ⟨rfl, rfl⟩ := hcd
      cases r with
      | nil => exact absurd (h2 10 rfl) (by decide)
      | cons x r =>
        have ih3 := tx_parts he hb (x :: r) [] (fun h => by cases h) (fun y hy => h2 y (by simpa using hy))
        simp only [List.cons_append] at ih3 ⊢
        rw [tx_crlf, tx_crlf, ih3, List.cons_append]
    · cases hb' : brk c with
      | true =>
        simp only [List.cons_append] at ih1 ⊢
        rw [tx_brk hb' (by simpa using hcd), tx_brk hb' (by simpa using hcd), ih1, List.cons_append]
      | false =>
        simp only [List.cons_append] at ih2 ⊢
        rw [tx_push hb', tx_push hb', ih2]

end Go.Abs
/-
  Plain specifications for chapter 3: more on lines. No program in sight.
-/

namespace Go.Abs
theorem ext_getDL {a b : List (Int × List Int)} (h : a.length = b.length) (hj : ∀ j, j < a.length → a.getD j (0, []) = b.getD j (0, [])) : a = b := by
  refine List.ext_getElem h (fun j h1 h2 => ?_)
  have := hj j h1
  simpa [List.getD_eq_getElem?_getD, h1, h2] using this
theorem drop_getD {l : List Int} {k : Nat} (h : k < l.length) : l.drop k = l.getD k 0 :: l.drop (k + 1) := by
  rw [List.drop_eq_getElem_cons h]
  simp [List.getD_eq_getElem?_getD, h]
theorem take_getD {l : List Int} {k f : Nat} (h : k < l.length) (hf : f ≤ k) : (l.take (k + 1)).drop f = (l.take k).drop f ++ [l.getD k 0] := by
  rw [List.take_succ_eq_append_getElem h, List.drop_append_of_le_length (by simp; omega)]
  simp [List.getD_eq_getElem?_getD, h]
theorem tx_at_push {l : List Int} {k f : Nat} (h : k < l.length) (hf : f ≤ k) (hb : brk (l.getD k 0) = false) : tx ((l.take k).drop f) (l.drop k) = tx ((l.take (k + 1)).drop f) (l.drop (k + 1)) := by
  rw [drop_getD h, tx_push hb, take_getD h hf]
theorem tx_at_brk {l : List Int} {k f : Nat} (h : k < l.length) (hb : brk (l.getD k 0) = true) (hn : ¬ (l.getD k 0 = 13 ∧ k + 1 < l.length ∧ l.getD (k + 1) 0 = 10)) : tx ((l.take k).drop f) (l.drop k) = (l.take k).drop f :: tx [] (l.drop (k + 1)) := by
  rw [drop_getD h]
  refine tx_brk hb (fun ⟨h1, h2⟩ => hn ⟨h1, ?_⟩)
  by_cases hk : k + 1 < l.length
  · rw [drop_getD hk] at h2
    exact ⟨hk, by simpa using h2⟩
  · rw [List.drop_eq_nil_of_le (by omega)] at h2
    cases h2
theorem tx_at_crlf {l : List Int} {k f : Nat} (h : k + 1 < l.length) (h13 : l.getD k 0 = 13) (h10 : l.getD (k + 1) 0 = 10) : tx ((l.take k).drop f) (l.drop k) = (l.take k).drop f :: tx [] (l.drop (k + 2)) := by
  rw [drop_getD (show k < l.length by omega), drop_getD h, h13, h10]
  exact tx_crlf
theorem tx_at_end {l : List Int} {k f : Nat} (h : l.length ≤ k) : tx ((l.take k).drop f) (l.drop k) = if f < l.length then [l.drop f] else [] := by
  rw [List.drop_eq_nil_of_le h, List.take_of_length_le h]
  by_cases hf : f < l.length
  · rw [if_pos hf]
    have : (l.drop f).isEmpty = false := by
      rw [drop_getD hf]; rfl
    simp [tx, this]
  · rw [if_neg hf, List.drop_eq_nil_of_le (by omega)]; rfl
theorem take_drop_self {l : List Int} {k : Nat} : (l.take k).drop k = [] := List.drop_eq_nil_of_le (by simp; omega)
theorem brk_no {c : Int} (h : ¬ c = 10) (h2 : ¬ c = 13) : brk c = false := by simp [brk, h, h2]
theorem brk_yes {c : Int} (h : c = 10 ∨ c = 13) : brk c = true := by rcases h with h | h <;> simp [brk, h]
theorem readR_len (l : List Int) : (readR l).1.length ≤ l.length := by
  unfold readR
  split
  · have := tx_length l []
    simpa [linesOf] using this
  · simp
theorem readR_each (l : List Int) : ∀ x ∈ (readR l).1, x.2.length ≤ l.length := by
  unfold readR
  split
  · intro x hx
    simp only [linesOf, List.mem_map] at hx
    obtain ⟨t, ht, rfl⟩ := hx
    have h1 := tx_each l [] t ht
    have h2 := (List.dropWhile_suffix (· == 32) (l := t)).length_le
    simp only [lineOf, List.length_nil] at *
    omega
  · intro x hx; simp at hx
end Go.Abs
/-
  Plain specifications: bytes as code points. No program in sight.
-/


namespace Go.Abs
set_option linter.unusedSimpArgs false
set_option linter.unusedVariables false
/-- So many bytes that go on. -/
def contGo : Nat → Int → List Int → Option Int
  | 0, c, _ => some c
  | _ + 1, _, [] => none
  | n + 1, c, y :: r => if 128 ≤ y ∧ y ≤ 191 then contGo n (c * 64 + y % 64) r else none
def ptEnd (n : Nat) (least : Int) : Option Int → Int × Nat
  | none => (0, 0)
  | some c => if c < least ∨ rightI c = false then (0, 0) else (c, n)
/-- The code point that bytes begin with, and how many there are; 0: none. -/
def pointI : List Int → Int × Nat
  | [] => (0, 0)
  | x :: r =>
    if x < 128 then (x, 1)
    else if 194 ≤ x ∧ x < 224 then ptEnd 2 128 (contGo 1 (x % 32) r)
    else if 224 ≤ x ∧ x < 240 then ptEnd 3 2048 (contGo 2 (x % 16) r)
    else if 240 ≤ x ∧ x < 245 then ptEnd 4 65536 (contGo 3 (x % 8) r)
    else (0, 0)
theorem ptEnd_yes {n : Nat} {least : Int} {o : Option Int} {c : Int} {m : Nat} (h : ptEnd n least o = (c, m)) (hm : 0 < m) : o = some c ∧ least ≤ c ∧ rightI c = true ∧ m = n := by
  unfold ptEnd at h
  cases o with
  | none => simp only [Prod.mk.injEq] at h; omega
  | some d =>
    simp only at h
    split at h
    · simp only [Prod.mk.injEq] at h; omega
    · rename_i hn
      simp only [Prod.mk.injEq] at h
      obtain ⟨rfl, rfl⟩ := h
      refine ⟨rfl, by omega, ?_, rfl⟩
      cases hr : rightI d
      · exact absurd (.inr hr) hn
      · rfl
theorem pointI_n (b : List Int) : (pointI b).2 ≤ 4 := by
  have he : ∀ n least o, n ≤ 4 → (ptEnd n least o).2 ≤ 4 := by
    intro n least o h
    unfold ptEnd
    cases o with
    | none => simp
    | some c => simp only; split <;> simp <;> omega
  cases b with
  | nil => simp [pointI]
  | cons x r =>
    simp only [pointI]
    (repeat' split) <;> first | exact he _ _ _ (by decide) | (simp; done) | decide
/-- What is read of bytes is what they are written for. -/
theorem point_enc {b : List Int} (hb : ∀ x ∈ b, 0 ≤ x ∧ x ≤ 255) {c : Int} {n : Nat} (h : pointI b = (c, n)) (hn : 0 < n) : n ≤ b.length ∧ encC c = b.take n ∧ rightI c = true := by
  cases b with
  | nil => simp only [pointI, Prod.mk.injEq] at h; omega
  | cons x r =>
    have hx := hb x (by simp)
    simp only [pointI] at h
    split at h
    · rename_i h1
      simp only [Prod.mk.injEq] at h
      obtain ⟨rfl, rfl⟩ := h
      exact ⟨by simp, by rw [encC_ascii hx.1 h1]; rfl, right_yes hx.1 (by omega) (by omega)⟩
    split at h
    · rename_i h0 h1
      obtain ⟨h2, h3, h4, rfl⟩ := ptEnd_yes h hn
      match r, hb, h2 with
      | y :: r, hb, h2 =>
        simp only [contGo] at h2
        split at h2
        · rename_i hy
          simp only [Option.some.injEq] at h2
          subst h2
          refine ⟨by simp, ?_, h4⟩
          unfold encC
          rw [fix_id h4]
          unfold encR
          rw [if_neg (by omega), if_pos (by omega)]
          simp only [List.take_succ_cons, List.take_zero, List.cons.injEq, and_true]
          omega
        · cases h2
    split at h
    · rename_i h00 h0 h1
      obtain ⟨h2, h3, h4, rfl⟩ := ptEnd_yes h hn
      match r, hb, h2 with
      | y :: z :: r, hb, h2 =>
        simp only [contGo] at h2
        split at h2
        · split at h2
          · rename_i hy hz
            simp only [Option.some.injEq] at h2
            subst h2
            refine ⟨by simp, ?_, h4⟩
            unfold encC
            rw [fix_id h4]
            unfold encR
            rw [if_neg (by omega), if_neg (by omega), if_pos (by omega)]
            simp only [List.take_succ_cons, List.take_zero, List.cons.injEq, and_true]
            omega
          · cases h2
        · cases h2
      | [y], hb, h2 => simp only [contGo] at h2; split at h2 <;> cases h2
    split at h
    · rename_i h000 h00 h0 h1
      obtain ⟨h2, h3, h4, rfl⟩ := ptEnd_yes h hn
      match r, hb, h2 with
      | y :: z :: u :: r, hb, h2 =>
        simp only [contGo] at h2
        split at h2
        · split at h2
          · split at h2
            · rename_i hy hz hu
              simp only [Option.some.injEq] at h2
              subst h2
              have h5 := rightI_iff.1 h4
              refine ⟨by simp, ?_, h4⟩
              unfold encC
              rw [fix_id h4]
              unfold encR
              rw [if_neg (by omega), if_neg (by omega), if_neg (by omega)]
              simp only [List.take_succ_cons, List.take_zero, List.cons.injEq, and_true]
              omega
            · cases h2
          · cases h2
        · cases h2
      | [y, z], hb, h2 => simp only [contGo] at h2; (repeat' split at h2) <;> cases h2
      | [y], hb, h2 => simp only [contGo] at h2; split at h2 <;> cases h2
    · simp only [Prod.mk.injEq] at h; omega
/-- All code points; none: bytes are wrong. -/
def smallGo : Nat → List Int → List Int → Option (List Int)
  | _, acc, [] => some acc
  | 0, _, _ => none
  | f + 1, acc, x :: r => if (pointI (x :: r)).2 = 0 then none else smallGo f (acc ++ [(pointI (x :: r)).1]) ((x :: r).drop (pointI (x :: r)).2)
def smallI (l : List Int) : Option (List Int) := smallGo l.length [] l
theorem smallGo_fuel : ∀ (f f' : Nat) (acc l : List Int), l.length ≤ f → l.length ≤ f' → smallGo f acc l = smallGo f' acc l
  | 0, 0, _, _, _, _ => rfl
  | 0, f' + 1, acc, l, h, _ => by
    obtain rfl := List.eq_nil_of_length_eq_zero (by omega : l.length = 0)
    rfl
  | f + 1, 0, acc, l, _, h => by
    obtain rfl := List.eq_nil_of_length_eq_zero (by omega : l.length = 0)
    rfl
  | f + 1, f' + 1, acc, [], _, _ => rfl
  | f + 1, f' + 1, acc, x :: r, h, h' => by
    simp only [List.length_cons] at h h'
    simp only [smallGo]
    split
    · rfl
    · rename_i hn
      exact smallGo_fuel f f' _ _ (by simp only [List.length_drop, List.length_cons]; omega) (by simp only [List.length_drop, List.length_cons]; omega)
theorem smallGo_enc : ∀ (f : Nat) (acc l m : List Int), (∀ x ∈ l, 0 ≤ x ∧ x ≤ 255) → smallGo f acc l = some m → ∃ d, m = acc ++ d ∧ encL d = l ∧ ∀ c ∈ d, rightI c = true
  | _, acc, [], m, _, h => by
    have : some acc = some m := by cases ‹Nat› <;> simpa [smallGo] using h
    exact ⟨[], by simpa using (Option.some.inj this).symm, rfl, by simp⟩
  | 0, acc, x :: r, m, _, h => by simp [smallGo] at h
  | f + 1, acc, x :: r, m, hb, h => by
    simp only [smallGo] at h
    split at h
    · cases h
    · rename_i hn
      obtain ⟨h1, h2, h3⟩ := point_enc hb (c := (pointI (x :: r)).1) (n := (pointI (x :: r)).2) rfl (by omega)
      obtain ⟨d, hd, he, hr⟩ := smallGo_enc f _ _ m (fun y hy => hb y (List.mem_of_mem_drop hy)) h
      refine ⟨(pointI (x :: r)).1 :: d, by rw [hd]; simp, ?_, fun c hc => ?_⟩
      · have : encL ((pointI (x :: r)).1 :: d) = encC (pointI (x :: r)).1 ++ encL d := by simp [encL]
        rw [this, h2, he, List.take_append_drop]
      · rcases List.mem_cons.1 hc with rfl | hc
        · exact h3
        · exact hr c hc
theorem smallI_enc {l m : List Int} (hb : ∀ x ∈ l, 0 ≤ x ∧ x ≤ 255) (h : smallI l = some m) : encL m = l ∧ ∀ c ∈ m, rightI c = true := by
  obtain ⟨d, hd, he, hr⟩ := smallGo_enc _ _ _ _ hb h
  rw [List.nil_append] at hd
  subst hd
  exact ⟨he, hr⟩
theorem smallGo_ascii : ∀ (f : Nat) (acc l : List Int), l.length ≤ f → (∀ x ∈ l, 0 ≤ x ∧ x < 128) → smallGo f acc l = some (acc ++ l)
  | f, acc, [], _, _ => by cases f <;> simp [smallGo]
  | 0, acc, x :: r, h, _ => by simp at h
  | f + 1, acc, x :: r, h, ha => by
    have hx := ha x (by simp)
    have hp : pointI (x :: r) = (x, 1) := by simp only [pointI]; rw [if_pos hx.2]
    simp only [smallGo, hp]
    rw [if_neg (by decide), List.drop_succ_cons, List.drop_zero, smallGo_ascii f _ r (by simpa using h) (fun y hy => ha y (by simp [hy]))]
    simp
theorem smallI_ascii {l : List Int} (h : ∀ x ∈ l, 0 ≤ x ∧ x < 128) : smallI l = some l := by
  unfold smallI
  rw [smallGo_ascii _ _ _ (Nat.le_refl _) h]; rfl
end Go.Abs
/-
  Plain specifications for chapter 11: anchors, tags, directives. No program in sight.
-/

namespace Go.Abs
set_option linter.unusedSimpArgs false
set_option linter.unusedVariables false
def uriL : List Int := [35, 59, 47, 63, 58, 64, 38, 61, 43, 36, 44, 95, 46, 33, 126, 42, 39, 40, 41, 91, 93]
def uriC (c : Int) : Bool := decide (c ∈ uriL)
/-- How many code points the URI sign at a list's beginning has. -/
def signN (l : List Int) : Nat :=
  match l with
  | [] => 0
  | c :: r => if c = 37 then (if 2 ≤ r.length ∧ 0 ≤ hexI (r.getD 0 0) ∧ 0 ≤ hexI (r.getD 1 0) then 3 else 0) else if wordI c || uriC c then 1 else 0
theorem signN_nil : signN [] = 0 := rfl
theorem signN_at {l : List Int} {i : Nat} (h : i < l.length) : signN (l.drop i) = if l.getD i 0 = 37 then (if i + 2 < l.length ∧ 0 ≤ hexI (l.getD (i + 1) 0) ∧ 0 ≤ hexI (l.getD (i + 2) 0) then 3 else 0) else if wordI (l.getD i 0) || uriC (l.getD i 0) then 1 else 0 := by
  rw [drop_getD h]
  simp only [signN]
  have e1 : (l.drop (i + 1)).getD 0 0 = l.getD (i + 1) 0 := by simp [List.getD_eq_getElem?_getD]
  have e2 : (l.drop (i + 1)).getD 1 0 = l.getD (i + 2) 0 := by simp [List.getD_eq_getElem?_getD]
  have e3 : (2 ≤ (l.drop (i + 1)).length) = (i + 2 < l.length) := by simp; omega
  simp only [e1, e2, e3]
theorem signN_le (l : List Int) : signN l ≤ 3 ∧ signN l ≤ l.length := by
  unfold signN
  split
  · simp
  · rename_i c r
    (repeat' split) <;> simp <;> omega
/-- How many code points at a list's beginning are URI signs of a kind. -/
def uriGo (may : Int → Bool) : Nat → List Int → Nat
  | 0, _ => 0
  | f + 1, l => if signN l = 0 ∨ may (l.getD 0 0) = false then 0 else signN l + uriGo may f (l.drop (signN l))
def uriN (may : Int → Bool) (l : List Int) : Nat := uriGo may l.length l
theorem uriGo_le (may : Int → Bool) : ∀ (f : Nat) (l : List Int), uriGo may f l ≤ l.length
  | 0, _ => Nat.zero_le _
  | f + 1, l => by
    have h1 := (signN_le l).2
    have h2 := uriGo_le may f (l.drop (signN l))
    rw [List.length_drop] at h2
    simp only [uriGo]
    split <;> omega
theorem uriN_le (may : Int → Bool) (l : List Int) : uriN may l ≤ l.length := uriGo_le may _ l
theorem uriGo_fuel (may : Int → Bool) : ∀ (f f' : Nat) (l : List Int), l.length ≤ f → l.length ≤ f' → uriGo may f l = uriGo may f' l
  | 0, 0, _, _, _ => rfl
  | 0, f' + 1, l, h, _ => by
    obtain rfl := List.eq_nil_of_length_eq_zero (by omega : l.length = 0)
    simp [uriGo, signN]
  | f + 1, 0, l, _, h => by
    obtain rfl := List.eq_nil_of_length_eq_zero (by omega : l.length = 0)
    simp [uriGo, signN]
  | f + 1, f' + 1, l, h, h' => by
    simp only [uriGo]
    split
    · rfl
    · rename_i hn
      rw [uriGo_fuel may f f' _ (by rw [List.length_drop]; omega) (by rw [List.length_drop]; omega)]
/-- From a place on: where the signs end. -/
theorem uriN_at (may : Int → Bool) (l : List Int) : uriN may l = if signN l = 0 ∨ may (l.getD 0 0) = false then 0 else signN l + uriN may (l.drop (signN l)) := by
  unfold uriN
  cases l with
  | nil => simp [uriGo, signN]
  | cons c r =>
    have : ∀ n, 0 < n → uriGo may r.length ((c :: r).drop n) = uriGo may ((c :: r).drop n).length ((c :: r).drop n) := fun n hn => uriGo_fuel may _ _ _ (by simp only [List.length_drop, List.length_cons]; omega) (Nat.le_refl _)
    rw [List.length_cons]
    simp only [uriGo]
    split
    · rfl
    · rename_i h
      rw [this _ (by omega)]
def anyC (c : Int) : Bool := true
def shortC (c : Int) : Bool := !(c == 33) && !flowI c
/-- Which texts may be tags. -/
def validI (l : List Int) : Bool := decide (0 < l.length ∧ uriN anyC l = l.length)
theorem word_ascii {c : Int} (h : wordI c = true) : 0 ≤ c ∧ c < 128 := by
  unfold wordI at h
  have := of_decide_eq_true h
  omega
theorem uri_ascii {c : Int} (h : uriC c = true) : 0 ≤ c ∧ c < 128 := by
  unfold uriC at h
  have := of_decide_eq_true h
  simp only [uriL, List.mem_cons, List.not_mem_nil, or_false] at this
  omega
theorem hex_ascii {c : Int} (h : 0 ≤ hexI c) : 0 ≤ c ∧ c < 128 := by
  unfold hexI at h
  (repeat' split at h) <;> omega
/-- Whatever stands in URI signs is ASCII. -/
theorem uri_all : ∀ (n : Nat) (l : List Int), l.length ≤ n → uriN anyC l = l.length → ∀ c ∈ l, 0 ≤ c ∧ c < 128
  | n, [], _, _ => by simp
  | 0, c :: r, h, _ => by simp at h
  | n + 1, c :: r, h, hu => by
    rw [uriN_at] at hu
    split at hu
    · simp at hu
    · rename_i hn
      have hs : ¬ signN (c :: r) = 0 := fun e => hn (.inl e)
      have ih := uri_all n ((c :: r).drop (signN (c :: r))) (by simp only [List.length_drop, List.length_cons] at *; omega) (by rw [List.length_drop]; omega)
      intro x hx
      rw [← List.take_append_drop (signN (c :: r)) (c :: r)] at hx
      rcases List.mem_append.1 hx with hx | hx
      · clear ih hu hn
        unfold signN at hs hx
        simp only at hs hx
        split at hs
        · rename_i h37
          simp only [h37, if_true] at hx
          split at hs
          · rename_i hh
            simp only [hh, and_self, if_true] at hx
            match r, hh with
            | y :: z :: r, hh =>
              have hy := hex_ascii hh.2.1
              have hz := hex_ascii hh.2.2
              simp at hx hy hz
              omega
            | [y], hh => exact absurd hh.1 (by simp)
            | [], hh => exact absurd hh.1 (by simp)
          · exact absurd rfl hs
        · rename_i h37
          simp only [h37, if_false] at hx
          split at hs
          · rename_i hw
            simp only [hw, if_true] at hx
            simp at hx
            subst hx
            rcases Bool.or_eq_true_iff.1 hw with h | h
            · exact word_ascii h
            · exact uri_ascii h
          · exact absurd rfl hs
      · exact ih x hx
theorem valid_ascii {l : List Int} (h : validI l = true) : ∀ c ∈ l, 0 ≤ c ∧ c < 128 := uri_all _ l (Nat.le_refl _) (of_decide_eq_true h).2
/-- Read as code points or as bytes, a text is one that may be a tag, or not. -/
theorem valid_small {l : List Int} (hb : ∀ x ∈ l, 0 ≤ x ∧ x ≤ 255) : validI l = match smallI l with | none => false | some m => validI m := by
  cases h : smallI l with
  | none =>
    simp only
    cases hv : validI l with
    | false => rfl
    | true => rw [smallI_ascii (valid_ascii hv)] at h; cases h
  | some m =>
    simp only
    obtain ⟨he, _⟩ := smallI_enc hb h
    cases hv : validI l with
    | true =>
      rw [smallI_ascii (valid_ascii hv)] at h
      rw [← Option.some.inj h, hv]
    | false =>
      cases hm : validI m with
      | false => rfl
      | true =>
        rw [encL_ascii (valid_ascii hm)] at he
        rw [he, hv] at hm; cases hm
end Go.Abs
/-
  Plain specifications for chapter 11: anchors and tags. No program in sight.
-/

namespace Go.Abs
set_option linter.unusedSimpArgs false
set_option linter.unusedVariables false
/-- How many code points at a list's beginning are of a kind. -/
def cnt (p : Int → Bool) (l : List Int) : Nat := (l.takeWhile p).length
theorem cnt_le (p : Int → Bool) (l : List Int) : cnt p l ≤ l.length := (List.takeWhile_prefix p).length_le
theorem cnt_step {p : Int → Bool} {l : List Int} {k : Nat} (h : k ≤ cnt p l) (h1 : k < l.length) (h2 : p (l.getD k 0) = true) : k + 1 ≤ cnt p l := tw_step h h1 h2
theorem cnt_stop {p : Int → Bool} {l : List Int} {k : Nat} (h : k ≤ cnt p l) (h1 : l.length ≤ k ∨ p (l.getD k 0) = false) : k = cnt p l := by
  rcases Nat.lt_or_ge k l.length with hk | hk
  · exact tw_stop h hk (by rcases h1 with h1 | h1; · omega
                           · exact h1)
  · have := cnt_le p l; omega
theorem cnt_nil (p : Int → Bool) : cnt p [] = 0 := rfl
theorem cnt_in {p : Int → Bool} {l : List Int} {k : Nat} (h : k < cnt p l) : p (l.getD k 0) = true := by
  induction l generalizing k with
  | nil => simp [cnt] at h
  | cons c r ih =>
    unfold cnt at h ih
    by_cases e : p c = true
    · simp only [List.takeWhile_cons, e, if_true, List.length_cons] at h
      cases k with
      | zero => simpa using e
      | succ k => simpa using ih (k := k) (by omega)
    · simp [List.takeWhile_cons, e] at h
theorem cnt_out {p : Int → Bool} {l : List Int} (h : cnt p l < l.length) : p (l.getD (cnt p l) 0) = false := by
  cases e : p (l.getD (cnt p l) 0)
  · rfl
  · have := cnt_step (Nat.le_refl _) h e; omega
/-- Does a code point stand at a place? -/
def atI (l : List Int) (i : Nat) (c : Int) : Bool := decide (i < l.length ∧ l.getD i 0 = c)
theorem atI_lt {l : List Int} {i : Nat} {c : Int} (h : atI l i c = true) : i < l.length ∧ l.getD i 0 = c := of_decide_eq_true h
theorem atI_no {l : List Int} {i : Nat} {c : Int} (h : atI l i c = false) : ¬ (i < l.length ∧ l.getD i 0 = c) := of_decide_eq_false h
theorem w37 : wordI 37 = false := by decide
theorem u37 : uriC 37 = false := by decide
theorem sign_w {l : List Int} {i : Nat} (h : i < l.length) (hw : wordI (l.getD i 0) = true) : signN (l.drop i) = 1 := by
  rw [signN_at h, if_neg (fun e => by rw [e, w37] at hw; cases hw), hw]; rfl
theorem sign_u {l : List Int} {i : Nat} (h : i < l.length) (hw : uriC (l.getD i 0) = true) : signN (l.drop i) = 1 := by
  rw [signN_at h, if_neg (fun e => by rw [e, u37] at hw; cases hw), hw, Bool.or_true]; rfl
theorem sign_p {l : List Int} {i : Nat} (h : i + 2 < l.length) (h1 : l.getD i 0 = 37) (h2 : 0 ≤ hexI (l.getD (i + 1) 0)) (h3 : 0 ≤ hexI (l.getD (i + 2) 0)) : signN (l.drop i) = 3 := by
  rw [signN_at (by omega), if_pos h1, if_pos ⟨h, h2, h3⟩]
theorem sign_pn {l : List Int} {i : Nat} (h : i < l.length) (h1 : l.getD i 0 = 37) (h2 : l.length ≤ i + 2 ∨ hexI (l.getD (i + 1) 0) < 0 ∨ hexI (l.getD (i + 2) 0) < 0) : signN (l.drop i) = 0 := by
  rw [signN_at h, if_pos h1, if_neg (by omega)]
theorem sign_n {l : List Int} {i : Nat} (h : i < l.length) (h1 : ¬ l.getD i 0 = 37) (h2 : wordI (l.getD i 0) = false) (h3 : uriC (l.getD i 0) = false) : signN (l.drop i) = 0 := by
  rw [signN_at h, if_neg h1, h2, h3]; rfl
theorem sign_e {l : List Int} {i : Nat} (h : l.length ≤ i) : signN (l.drop i) = 0 := by rw [List.drop_eq_nil_of_le h]; rfl
theorem uriC_iff {c : Int} : uriC c = true ↔ c ∈ uriL := by unfold uriC; exact decide_eq_true_iff
/-- The signs, one behind the other: where each stands, and where it ends. -/
def signsL : Nat → Nat → List Int → List (Nat × Nat)
  | 0, _, _ => []
  | f + 1, i, l => if signN (l.drop i) = 0 then [] else (i, i + signN (l.drop i)) :: signsL f (i + signN (l.drop i)) l
def signsAt (l : List Int) (i : Nat) : List (Nat × Nat) := signsL (l.length - i + 1) i l
theorem signN_drop_le {l : List Int} {i : Nat} : signN (l.drop i) ≤ l.length - i := by
  have := (signN_le (l.drop i)).2; rwa [List.length_drop] at this
theorem signsL_fuel : ∀ (f f' i : Nat) (l : List Int), l.length - i < f → l.length - i < f' → signsL f i l = signsL f' i l
  | 0, _, _, _, h, _ => by omega
  | _, 0, _, _, _, h => by omega
  | f + 1, f' + 1, i, l, h, h' => by
    have := signN_drop_le (l := l) (i := i)
    simp only [signsL]
    split
    · rfl
    · rw [signsL_fuel f f' _ l (by omega) (by omega)]
theorem signsAt_no {l : List Int} {i : Nat} (h : signN (l.drop i) = 0) : signsAt l i = [] := by
  unfold signsAt signsL; rw [if_pos h]
theorem signsAt_yes {l : List Int} {i : Nat} (h : ¬ signN (l.drop i) = 0) : signsAt l i = (i, i + signN (l.drop i)) :: signsAt l (i + signN (l.drop i)) := by
  have := signN_drop_le (l := l) (i := i)
  unfold signsAt
  rw [signsL, if_neg h, signsL_fuel (l.length - i) (l.length - (i + signN (l.drop i)) + 1) _ _ (by omega) (by omega)]
theorem uriN_no {may : Int → Bool} {l : List Int} (h : signN l = 0 ∨ may (l.getD 0 0) = false) : uriN may l = 0 := by rw [uriN_at, if_pos h]
theorem uriN_yes {may : Int → Bool} {l : List Int} (h : ¬ signN l = 0) (h1 : may (l.getD 0 0) = true) : uriN may l = signN l + uriN may (l.drop (signN l)) := by
  rw [uriN_at, if_neg]; rw [h1]; simp [h]
theorem getD_drop0 {l : List Int} {i : Nat} : (l.drop i).getD 0 0 = l.getD i 0 := by simp [List.getD_eq_getElem?_getD]
/-- A handle of two !. -/
def handleN (l : List Int) : Nat := if atI l (1 + cnt wordI (l.drop 1)) 33 then 1 + cnt wordI (l.drop 1) + 1 else 0
theorem handleN_le (l : List Int) : handleN l ≤ l.length := by
  unfold handleN
  split
  · rename_i h; have := (atI_lt h).1; omega
  · omega
def anchorI (l : List Int) : ByteArray × Int × Bool := (textI (l.take (cnt nameI l)), (cnt nameI l : Nat), decide (0 < cnt nameI l))
def noneT : ByteArray × Int × Bool := (ByteArray.empty, 0, false)
def wholeI (l : List Int) : ByteArray × Int × Bool :=
  if uriN anyC (l.drop 2) = 0 ∨ atI l (uriN anyC (l.drop 2) + 2) 62 = false then noneT else (textI ((l.take (uriN anyC (l.drop 2) + 2)).drop 1), (uriN anyC (l.drop 2) + 3 : Nat), true)
def shortI (l : List Int) : ByteArray × Int × Bool :=
  if 0 < handleN l ∧ uriN shortC (l.drop (max (handleN l) 1)) = 0 then noneT else (textI (l.take (uriN shortC (l.drop (max (handleN l) 1)) + max (handleN l) 1)), (uriN shortC (l.drop (max (handleN l) 1)) + max (handleN l) 1 : Nat), true)
def tagI (l : List Int) : ByteArray × Int × Bool := if atI l 0 33 = false then noneT else if atI l 1 60 then wholeI l else shortI l
/-! ### Directives -/
def digitC (c : Int) : Bool := decide (48 ≤ c ∧ c ≤ 57)
def tailI (l : List Int) : Bool := decide (cnt blankI l = l.length ∨ (0 < cnt blankI l ∧ l.getD (cnt blankI l) 0 = 35))
def versP (l : List Int) (i : Nat) : ByteArray × ByteArray × Bool :=
  if cnt digitC (l.drop i) = 0 ∨ atI l (i + cnt digitC (l.drop i)) 46 = false then (ByteArray.empty, ByteArray.empty, false)
  else (textI ((l.take (i + cnt digitC (l.drop i))).drop i), textI ((l.take (i + cnt digitC (l.drop i) + 1 + cnt digitC (l.drop (i + cnt digitC (l.drop i) + 1)))).drop (i + cnt digitC (l.drop i) + 1)),
    decide (0 < cnt digitC (l.drop (i + cnt digitC (l.drop i) + 1))) && tailI (l.drop (i + cnt digitC (l.drop i) + 1 + cnt digitC (l.drop (i + cnt digitC (l.drop i) + 1)))))
theorem versP_yes {l : List Int} {i : Nat} (h : ¬ (cnt digitC (l.drop i) = 0 ∨ atI l (i + cnt digitC (l.drop i)) 46 = false)) : versP l i =
    (textI ((l.take (i + cnt digitC (l.drop i))).drop i), textI ((l.take (i + cnt digitC (l.drop i) + 1 + cnt digitC (l.drop (i + cnt digitC (l.drop i) + 1)))).drop (i + cnt digitC (l.drop i) + 1)),
    decide (0 < cnt digitC (l.drop (i + cnt digitC (l.drop i) + 1))) && tailI (l.drop (i + cnt digitC (l.drop i) + 1 + cnt digitC (l.drop (i + cnt digitC (l.drop i) + 1))))) := by rw [versP, if_neg h]
def preH (l : List Int) (i : Nat) : Nat := i + max 1 (handleN (l.drop i))
def preF (l : List Int) (i : Nat) : Nat := preH l i + cnt blankI (l.drop (preH l i))
def preU (l : List Int) (i : Nat) : Nat := uriN anyC (l.drop (preF l i))
def preP (l : List Int) (i : Nat) : ByteArray × ByteArray × Bool :=
  if atI l i 33 = false then (ByteArray.empty, ByteArray.empty, false)
  else (textI ((l.take (preH l i)).drop i), textI ((l.take (preF l i + preU l i)).drop (preF l i)), decide (preH l i < preF l i) && (decide (0 < preU l i) && tailI (l.drop (preF l i + preU l i))))
theorem preP_yes {l : List Int} {i : Nat} (h : atI l i 33 = true) : preP l i = (textI ((l.take (preH l i)).drop i), textI ((l.take (preF l i + preU l i)).drop (preF l i)), decide (preH l i < preF l i) && (decide (0 < preU l i) && tailI (l.drop (preF l i + preU l i)))) := by
  rw [preP, if_neg (by rw [h]; decide)]
abbrev litY : ByteArray := { data := #[89, 65, 77, 76] }
abbrev litT : ByteArray := { data := #[84, 65, 71] }
def noneD : ByteArray × ByteArray × ByteArray × Bool := (ByteArray.empty, ByteArray.empty, ByteArray.empty, false)
def dirN (l : List Int) : Nat := 1 + cnt nameI (l.drop 1)
def dirM (l : List Int) : Nat := cnt blankI (l.drop (dirN l))
def dirT (l : List Int) : ByteArray := textI ((l.take (dirN l)).drop 1)
def dirI (l : List Int) : ByteArray × ByteArray × ByteArray × Bool :=
  if atI l 0 37 = false then noneD
  else if (dirT l).toList = litY.toList then (if (versP l (dirN l + dirM l)).2.2 = true ∧ 0 < dirM l then (dirT l, (versP l (dirN l + dirM l)).1, (versP l (dirN l + dirM l)).2.1, true) else noneD)
  else if (dirT l).toList = litT.toList then (if (preP l (dirN l + dirM l)).2.2 = true ∧ 0 < dirM l then (dirT l, (preP l (dirN l + dirM l)).1, (preP l (dirN l + dirM l)).2.1, true) else noneD)
  else if ¬ (dirT l).toList = ({ data := #[] } : ByteArray).toList ∧ (dirN l = l.length ∨ 0 < dirM l) then (dirT l, ByteArray.empty, ByteArray.empty, true) else noneD
theorem dirN_le {l : List Int} (h : 0 < l.length) : dirN l ≤ l.length := by
  have := cnt_le nameI (l.drop 1)
  rw [List.length_drop] at this
  unfold dirN; omega
theorem dirM_le (l : List Int) : dirM l ≤ l.length - dirN l := by
  have := cnt_le blankI (l.drop (dirN l))
  rwa [List.length_drop] at this
theorem preH_le {l : List Int} {i : Nat} (h : i < l.length) : i + 1 ≤ preH l i ∧ preH l i ≤ l.length := by
  have := handleN_le (l.drop i)
  rw [List.length_drop] at this
  unfold preH; omega
theorem preF_le {l : List Int} {i : Nat} (h : i < l.length) : preH l i ≤ preF l i ∧ preF l i ≤ l.length := by
  have h1 := preH_le h
  have := cnt_le blankI (l.drop (preH l i))
  rw [List.length_drop] at this
  unfold preF; omega
theorem preU_le {l : List Int} {i : Nat} (h : i < l.length) : preF l i + preU l i ≤ l.length := by
  have h1 := preF_le h
  have := uriN_le anyC (l.drop (preF l i))
  rw [List.length_drop] at this
  unfold preU; omega
end Go.Abs
