/-
  The abstract layer, part w: the rows that a walk rewrites by, under one name.
-/
import Derived.Test.YtaeacialcbahnaaMv
namespace Go.Abs
theorem cells_raw {v : Value} : (AV.raw v).cells = [.raw v] := id rfl
theorem cells_agg {l : List AV} : (AV.agg l).cells = l := id rfl
theorem cells_sl {n : Nat} {o : Option (Option (Nat × Nat))} {l : List AV} : (AV.sl n o l).cells = [.sl n o l] := id rfl
theorem cells_cp {l : List AV} : (AV.cp l).cells = [.cp l] := id rfl
theorem setPs_cons {t xs : List AV} {p : Tmp} {x : AV} {qs : List Tmp} : setPs t (p :: qs) (x :: xs) = setPs (t.set p x) qs xs := rfl
theorem setPs_nil {t : List AV} : setPs t [] [] = t := rfl
theorem ofV_slice {a : Option Addr} {n m : Nat} : ofV (.slice a n m) = .raw (.slice a n m) := rfl
theorem ofV_int {k : IntKind} {n : Int} : ofV (.int k n) = .raw (.int k n) := rfl
theorem ofV_bool {b : Bool} : ofV (.bool b) = .raw (.bool b) := rfl
theorem ofV_string {s : ByteArray} : ofV (.string s) = .raw (.string s) := rfl
theorem ofV_pointer {a : Option Addr} : ofV (.pointer a) = .raw (.pointer a) := rfl
theorem ofV_map {a : Option Nat} : ofV (.map a) = .raw (.map a) := rfl
theorem ofV_nilFunc : ofV .nilFunc = .raw .nilFunc := rfl
theorem ofV_nilIface : ofV .nilIface = .raw .nilIface := rfl
theorem ofV_agg {l : List Value} : ofV (.agg l.toArray) = .agg (l.map .raw) := by simp [ofV]
theorem setCells_nil {cs : List AV} {k : Nat} : setCells cs k [] = cs := rfl
theorem setCells_cons {cs xs : List AV} {k : Nat} {x : AV} : setCells cs k (x :: xs) = setCells (cs.set k x) (k + 1) xs := rfl
section
variable {κ : Ctx} {dm : Bool} {P : Program} {all rest : List Oper} {Q : Exit → St → Prop} {d : Option Tmp} {ty : TypeId} {pos : String} {af : Array Edge} {t : List AV} {σ : List Res} {fr : Bool} {df : List Deferred} {x y z : Operand}
theorem op_copy {ts : Array TypeId} : opsR κ dm P all Q (⟨d, .call ⟨.builtin .copy, #[x, y], ts⟩, ty, pos, af, none⟩ :: rest) ⟨t, σ, fr, df⟩ = actC κ dm P all Q d rest ⟨t, σ, fr, df⟩ (.copy ts ty) [(St.ev ⟨t, σ, fr, df⟩ x), (St.ev ⟨t, σ, fr, df⟩ y)] := by simp only [opsR, guardR, opR]; simp [actC]; exact Iff.rfl
theorem op_lookup {a : TypeId} {ok : Bool} : opsR κ dm P all Q (⟨d, .lookup a x y ok, ty, pos, af, none⟩ :: rest) ⟨t, σ, fr, df⟩ = actC κ dm P all Q d rest ⟨t, σ, fr, df⟩ (.lookup a ok) [(St.ev ⟨t, σ, fr, df⟩ x), (St.ev ⟨t, σ, fr, df⟩ y)] := propext Iff.rfl
theorem op_makeMap {a : TypeId} : opsR κ dm P all Q (⟨d, .makeMap a none, ty, pos, af, none⟩ :: rest) ⟨t, σ, fr, df⟩ = actC κ dm P all Q d rest ⟨t, σ, fr, df⟩ (.makeMap a) [] := propext Iff.rfl
theorem op_typeAssert {a b : TypeId} {ok : Bool} : opsR κ dm P all Q (⟨d, .typeAssert x a b ok, ty, pos, af, none⟩ :: rest) ⟨t, σ, fr, df⟩ = actC κ dm P all Q d rest ⟨t, σ, fr, df⟩ (.typeAssert a b ok) [(St.ev ⟨t, σ, fr, df⟩ x)] := propext Iff.rfl
end
section
variable {κ : Ctx} {dm : Bool} {P : Program} {all rest : List Oper} {Q : Exit → St → Prop} {d : Option Tmp} {t : List AV} {σ : List Res} {fr : Bool} {df : List Deferred} {xt : TypeId} {a : Addr} {n m : Nat} {x y : AV}
theorem sliceC_row1 : sliceC κ dm P all Q d rest ⟨t, σ, fr, df⟩ xt (.raw (.slice (some a) n m)) (some x) none none = actC κ dm P all Q d rest ⟨t, σ, fr, df⟩ (.slice xt true false false) [.raw (.slice (some a) n m), x, .any, .any] := rfl
theorem sliceC_row2 : sliceC κ dm P all Q d rest ⟨t, σ, fr, df⟩ xt (.raw (.slice (some a) n m)) none (some x) none = actC κ dm P all Q d rest ⟨t, σ, fr, df⟩ (.slice xt false true false) [.raw (.slice (some a) n m), .any, x, .any] := rfl
theorem sliceC_row3 : sliceC κ dm P all Q d rest ⟨t, σ, fr, df⟩ xt (.raw (.slice (some a) n m)) (some x) (some y) none = actC κ dm P all Q d rest ⟨t, σ, fr, df⟩ (.slice xt true true false) [.raw (.slice (some a) n m), x, y, .any] := rfl
theorem idxC_row {k : IntKind} {i : Int} : idxC κ dm P all Q d rest ⟨t, σ, fr, df⟩ xt (.raw (.slice (some a) n m)) (.raw (.int k i)) = actC κ dm P all Q d rest ⟨t, σ, fr, df⟩ (.indexAddr xt) [.raw (.slice (some a) n m), .raw (.int k i)] := rfl
end
theorem WL : type_of% (And.intro @phK_nil <| And.intro @phK_cons <| And.intro @phC_none <| And.intro @pick_nil <| And.intro @pick_cons <| And.intro @pickO_some <| And.intro @sliceC_row1 <| And.intro @sliceC_row2 <| And.intro @sliceC_row3 <| And.intro @idxC_row <| And.intro @op_copy <| And.intro @op_lookup <| And.intro @op_makeMap <| And.intro @op_typeAssert <| And.intro @setCells_nil <| And.intro @setCells_cons <| And.intro @ofV_slice <| And.intro @ofV_int <| And.intro @ofV_bool <| And.intro @ofV_string <| And.intro @ofV_pointer <| And.intro @ofV_map <| And.intro @ofV_nilFunc <| And.intro @ofV_nilIface <| And.intro @ofV_agg <| And.intro @rng_normal <| And.intro @rng_ret <| And.intro @rng_exit <| And.intro @setPs_cons <| And.intro @setPs_nil <| And.intro @run_seq (And.intro @run_cond (And.intro @run_block (And.intro @run_loop (And.intro @run_region (And.intro @run_draw (And.intro @run_rangeFunc (And.intro @run_exit (And.intro @run_ret (And.intro @run_skip (And.intro @run_label (And.intro @condC_true (And.intro @condC_false (And.intro @then_normal (And.intro @then_exit (And.intro @then_ret (And.intro @then_panic (And.intro @block_normal (And.intro @block_same (And.intro @block_exit (And.intro @block_ret (And.intro @block_panic (And.intro @ops_nil (And.intro @ops_some (And.intro @gdC_some (And.intro @goK_eq (And.intro @goP_eq (And.intro @grdC_U (And.intro @grdC_tt (And.intro @grdC_ff (And.intro @grdC_tf (And.intro @grdC_ft (And.intro @setT_some (And.intro @setT_none (And.intro @ev_tmp (And.intro @ev_int (And.intro @ev_bool (And.intro @ev_string (And.intro @ev_slice (And.intro @ev_ptr (And.intro @ev_nilFunc (And.intro @ev_nilIface (And.intro @ev_map (And.intro @ev_agg (And.intro @ev_func (And.intro @ev_global (And.intro @op_move (And.intro @op_assign (And.intro @op_pick (And.intro @op_bin (And.intro @op_un (And.intro @op_extract (And.intro @op_load (And.intro @op_store (And.intro @op_alloc (And.intro @op_box (And.intro @op_build (And.intro @op_bslice (And.intro @op_fieldAddr (And.intro @op_field (And.intro @op_indexAddr (And.intro @op_index (And.intro @op_slice (And.intro @op_conv (And.intro @op_makeFunc (And.intro @op_makeSlice (And.intro @op_nilCheck (And.intro @op_panic (And.intro @op_makeIface (And.intro @op_range (And.intro @op_next (And.intro @op_call (And.intro @op_len (And.intro @op_append (And.intro @op_max (And.intro @op_min (And.intro @retK_ret (And.intro @retK_pan (And.intro @okC_some (And.intro @binC_int (And.intro @binC_shl (And.intro @binC_shr (And.intro @binC_str (And.intro @binC_beql (And.intro @binC_bneq (And.intro @binC_snil (And.intro @binC_snn (And.intro @binC_nnil (And.intro @binC_nnn (And.intro @unC_not (And.intro @unC_neg (And.intro @pickC_bool (And.intro @extC_tup (And.intro @loadC_cp (And.intro @loadCC_agg (And.intro @loadCC_one (And.intro @loadC_raw (And.intro @idxC_sl (And.intro @strIdxC_str (And.intro @sliceC_sl (And.intro @sl2C_eq (And.intro @sliceC_str (And.intro @sl3C_eq (And.intro @loN_none (And.intro @loN_int (And.intro @hiN_none (And.intro @hiN_int (And.intro @mkFuncC_0 (And.intro @mkFuncC_1 (And.intro @mkFuncC_2 (And.intro @mkFuncC_3 (And.intro @mkFuncC_m (And.intro @nilC_cp (And.intro @nilC_ptr (And.intro @nilC_func (And.intro @nilC_yield (And.intro @panC_iface (And.intro @lenC_sl (And.intro @lenC_raw (And.intro @lenC_str (And.intro @callC_func (And.intro @callC_clos (And.intro @callC_yield (And.intro @leave_ret (And.intro @leave_normal (And.intro @leave_panic (And.intro @res_0 (And.intro @res_1 (And.intro @res_2 (And.intro @res_3 (And.intro @res_4 (And.intro @cells_raw (And.intro @cells_agg (And.intro @cells_sl (@cells_cp))))))))))))))))))))))))))))))))))))))))))))))))))))))))))))))))))))))))))))))))))))))))))))))))))))))))))))))))))))))))))))))))))))))) := And.intro @phK_nil <| And.intro @phK_cons <| And.intro @phC_none <| And.intro @pick_nil <| And.intro @pick_cons <| And.intro @pickO_some <| And.intro @sliceC_row1 <| And.intro @sliceC_row2 <| And.intro @sliceC_row3 <| And.intro @idxC_row <| And.intro @op_copy <| And.intro @op_lookup <| And.intro @op_makeMap <| And.intro @op_typeAssert <| And.intro @setCells_nil <| And.intro @setCells_cons <| And.intro @ofV_slice <| And.intro @ofV_int <| And.intro @ofV_bool <| And.intro @ofV_string <| And.intro @ofV_pointer <| And.intro @ofV_map <| And.intro @ofV_nilFunc <| And.intro @ofV_nilIface <| And.intro @ofV_agg <| And.intro @rng_normal <| And.intro @rng_ret <| And.intro @rng_exit <| And.intro @setPs_cons <| And.intro @setPs_nil <| And.intro @run_seq (And.intro @run_cond (And.intro @run_block (And.intro @run_loop (And.intro @run_region (And.intro @run_draw (And.intro @run_rangeFunc (And.intro @run_exit (And.intro @run_ret (And.intro @run_skip (And.intro @run_label (And.intro @condC_true (And.intro @condC_false (And.intro @then_normal (And.intro @then_exit (And.intro @then_ret (And.intro @then_panic (And.intro @block_normal (And.intro @block_same (And.intro @block_exit (And.intro @block_ret (And.intro @block_panic (And.intro @ops_nil (And.intro @ops_some (And.intro @gdC_some (And.intro @goK_eq (And.intro @goP_eq (And.intro @grdC_U (And.intro @grdC_tt (And.intro @grdC_ff (And.intro @grdC_tf (And.intro @grdC_ft (And.intro @setT_some (And.intro @setT_none (And.intro @ev_tmp (And.intro @ev_int (And.intro @ev_bool (And.intro @ev_string (And.intro @ev_slice (And.intro @ev_ptr (And.intro @ev_nilFunc (And.intro @ev_nilIface (And.intro @ev_map (And.intro @ev_agg (And.intro @ev_func (And.intro @ev_global (And.intro @op_move (And.intro @op_assign (And.intro @op_pick (And.intro @op_bin (And.intro @op_un (And.intro @op_extract (And.intro @op_load (And.intro @op_store (And.intro @op_alloc (And.intro @op_box (And.intro @op_build (And.intro @op_bslice (And.intro @op_fieldAddr (And.intro @op_field (And.intro @op_indexAddr (And.intro @op_index (And.intro @op_slice (And.intro @op_conv (And.intro @op_makeFunc (And.intro @op_makeSlice (And.intro @op_nilCheck (And.intro @op_panic (And.intro @op_makeIface (And.intro @op_range (And.intro @op_next (And.intro @op_call (And.intro @op_len (And.intro @op_append (And.intro @op_max (And.intro @op_min (And.intro @retK_ret (And.intro @retK_pan (And.intro @okC_some (And.intro @binC_int (And.intro @binC_shl (And.intro @binC_shr (And.intro @binC_str (And.intro @binC_beql (And.intro @binC_bneq (And.intro @binC_snil (And.intro @binC_snn (And.intro @binC_nnil (And.intro @binC_nnn (And.intro @unC_not (And.intro @unC_neg (And.intro @pickC_bool (And.intro @extC_tup (And.intro @loadC_cp (And.intro @loadCC_agg (And.intro @loadCC_one (And.intro @loadC_raw (And.intro @idxC_sl (And.intro @strIdxC_str (And.intro @sliceC_sl (And.intro @sl2C_eq (And.intro @sliceC_str (And.intro @sl3C_eq (And.intro @loN_none (And.intro @loN_int (And.intro @hiN_none (And.intro @hiN_int (And.intro @mkFuncC_0 (And.intro @mkFuncC_1 (And.intro @mkFuncC_2 (And.intro @mkFuncC_3 (And.intro @mkFuncC_m (And.intro @nilC_cp (And.intro @nilC_ptr (And.intro @nilC_func (And.intro @nilC_yield (And.intro @panC_iface (And.intro @lenC_sl (And.intro @lenC_raw (And.intro @lenC_str (And.intro @callC_func (And.intro @callC_clos (And.intro @callC_yield (And.intro @leave_ret (And.intro @leave_normal (And.intro @leave_panic (And.intro @res_0 (And.intro @res_1 (And.intro @res_2 (And.intro @res_3 (And.intro @res_4 (And.intro @cells_raw (And.intro @cells_agg (And.intro @cells_sl (@cells_cp))))))))))))))))))))))))))))))))))))))))))))))))))))))))))))))))))))))))))))))))))))))))))))))))))))))))))))))))))))))))))))))))))))))
section
variable {κ : Ctx} {dm : Bool} {P : Program} {all rest : List Oper} {Q : Exit → St → Prop} {d : Option Tmp} {t : List AV} {σ : List Res} {fr : Bool} {df : List Deferred}
theorem wk_load {ty b k : Nat} {cs : List AV} {x : AV} (i : Nat) (h : σ[i]? = some (.obj b cs)) (ha : aggT P ty = some false) (hc : cs[k]? = some x) (hk : goK κ dm P all Q d rest ⟨t, σ, fr, df⟩ x σ) : actC κ dm P all Q d rest ⟨t, σ, fr, df⟩ (.load ty) [.raw (.pointer (some ⟨b, k, none⟩))] :=
  actC_q (act_load i h ha hc isA_mk) hk
theorem wk_load_agg {ty b k : Nat} {cs : List AV} {n : Nat} (i : Nat) (h : σ[i]? = some (.obj b cs)) (ha : aggT P ty = some true) (hs : szT P ty = some n) (hn : k + n ≤ cs.length) (hk : goK κ dm P all Q d rest ⟨t, σ, fr, df⟩ (.agg ((cs.drop k).take n)) σ) : actC κ dm P all Q d rest ⟨t, σ, fr, df⟩ (.load ty) [.raw (.pointer (some ⟨b, k, none⟩))] :=
  actC_q (act_load_agg i h ha hs hn isA_mk) hk
theorem wk_build {ty : TypeId} {ix : List Nat} {xs cs : List AV} {z : Value} {pl : List (Nat × Nat)} (hp : plT P ty = some pl) (hz : zrT P ty = some z) (hz1 : (ofV z).cells.all oneA = true) (hb : buildA pl (ofV z).cells (ix.zip xs) = some cs) (hk : goK κ dm P all Q d rest ⟨t, σ, fr, df⟩ (.agg cs) σ) : actC κ dm P all Q d rest ⟨t, σ, fr, df⟩ (.build ty ix) xs :=
  actC_q (act_build hp hz hz1 hb isA_mk) hk
theorem wk_bslice {ty e n sz : Nat} {ix : List Nat} {xs : List AV} {z : Value} (he : slE P ty = some e) (hs : szT P e = some sz) (hz : zrT P e = some z) (hsz : 0 < sz) (hn : 0 < n) (hsm : n * sz ≤ 16777216) (hix : ix = List.range n) (hlen : xs.length = n)
    (hgood : goodL xs = true) (hc : ∀ x ∈ xs, x.cells.length = sz) (hk : goK κ dm P all Q d rest ⟨t, σ, fr, df⟩ (.sl sz none xs) σ) : actC κ dm P all Q d rest ⟨t, σ, fr, df⟩ (.bslice ty n ix) xs :=
  actC_q (act_bslice he hs hz hsz hn hsm hix hlen hgood hc isA_mk) hk
theorem wk_bslice0 {ty e sz : Nat} (he : slE P ty = some e) (hs : szT P e = some sz) (hsz : 0 < sz) (hk : goK κ dm P all Q d rest ⟨t, σ, fr, df⟩ (.sl sz none []) σ) : actC κ dm P all Q d rest ⟨t, σ, fr, df⟩ (.bslice ty 0 []) [] :=
  actC_q (act_bslice0 he hs hsz isA_mk) hk
end
theorem leafLaw {b : Bool} {σ' : List Res} (h : b = true) : DropL (fun r _ => r = .ret (B true)) (.ret (B b)) σ' := ⟨[], .ret (B true), ⟨[], List.Perm.refl _, List.nil_sublist _⟩, leT_eq (by rw [h]), rfl⟩
theorem resL_id {κ : Ctx} {P : Program} {fn : Func} {K : Ret → List Res → Prop} {s : St} {l : List ResultVar} (h : resL κ P fn K s l) : resL κ P fn K s l := h
/-- Whatever reads as this, reads as that. -/
def leS (x y : AV) : Prop := ∀ (g : Nat → Nat) (w : World) (v : Value), VR g w x v → VR g w y v
theorem leS_le {x y : AV} (h : x.le y) : leS x y := fun _ _ _ hv => hv.le h
def leSL : List AV → List AV → Prop
  | [], [] => True
  | x :: xs, y :: ys => leS x y ∧ leSL xs ys
  | _, _ => False
theorem leSL_len : ∀ {xs ys : List AV}, leSL xs ys → ys.length = xs.length
  | [], [], _ => rfl
  | _ :: _, _ :: _, h => by simp [leSL_len h.2]
  | [], _ :: _, h => h.elim
  | _ :: _, [], h => h.elim
theorem leSL_get : ∀ {xs ys : List AV}, leSL xs ys → ∀ (k : Nat) (x y : AV), xs[k]? = some x → ys[k]? = some y → leS x y
  | [], [], _, k, x, y, h, _ => by simp at h
  | _ :: _, _ :: _, h, 0, x, y, h1, h2 => by simp at h1 h2; subst h1; subst h2; exact h.1
  | _ :: _, _ :: _, h, k + 1, x, y, h1, h2 => leSL_get h.2 k x y (by simpa using h1) (by simpa using h2)
  | [], _ :: _, h, _, _, _, _, _ => h.elim
  | _ :: _, [], h, _, _, _, _, _ => h.elim
theorem leSL_rfl : ∀ {xs : List AV}, leSL xs xs
  | [] => trivial
  | _ :: _ => ⟨fun _ _ _ h => h, leSL_rfl⟩
theorem TR.leS {g : Nat → Nat} {w : World} {xs ys : List AV} {vs : Array Value} (h : TR g w xs vs) (hl : leSL xs ys) : TR g w ys vs :=
  ⟨by rw [h.size, leSL_len hl], fun k y hy => by
    have hlt : k < xs.length := by rw [← leSL_len hl]; exact lt_of_get hy
    have hx : xs[k]? = some (xs[k]'hlt) := List.getElem?_eq_getElem hlt
    exact leSL_get hl k _ _ hx hy g w _ (h.get k _ hx)⟩
theorem ACallF.argsS {κ : Ctx} {P : Program} {f : FuncId} {xs ys : List AV} {σ : List Res} {K : Ret → List Res → Prop} (hl : leSL xs ys) (h : ACallF κ P f ys σ K) : ACallF κ P f xs σ K :=
  fun φ g w vs hR hv => h φ g w vs hR (hv.leS hl)
/-- A slice whose elements are told weaker. -/
def leC : List AV → List AV → Prop
  | [], [] => True
  | x :: xs, y :: ys => leSL x.cells y.cells ∧ leC xs ys
  | _, _ => False
theorem leC_len : ∀ {xs ys : List AV}, leC xs ys → ys.length = xs.length
  | [], [], _ => rfl
  | _ :: _, _ :: _, h => by simp [leC_len h.2]
  | [], _ :: _, h => h.elim
  | _ :: _, [], h => h.elim
theorem leC_get : ∀ {xs ys : List AV}, leC xs ys → ∀ (k : Nat) (y : AV), ys[k]? = some y → ∃ x, xs[k]? = some x ∧ leSL x.cells y.cells
  | [], [], _, k, y, h => by simp at h
  | x :: _, _ :: _, h, 0, y, h2 => by simp at h2; subst h2; exact ⟨x, rfl, h.1⟩
  | _ :: _, _ :: _, h, k + 1, y, h2 => by
    obtain ⟨x, h3, h4⟩ := leC_get h.2 k y (by simpa using h2)
    exact ⟨x, by simpa using h3, h4⟩
  | [], _ :: _, h, _, _, _ => h.elim
  | _ :: _, [], h, _, _, _ => h.elim
theorem leS_sl {sz : Nat} {o : Option (Option (Nat × Nat))} {l l' : List AV} (h : leC l l') : leS (.sl sz o l) (.sl sz o l') := by
  intro g w v hv
  have hlen := leC_len h
  rcases hv.sl_inv with ⟨rfl, _⟩ | ⟨b, off, cap, rfl, h1, h2, h3, h4, h5, h6, h7⟩
  · cases l' with
    | nil => exact hv
    | cons => exact h.elim
  · refine VR.sl_mk hlen.symm (by rw [hlen]; exact h1) h2 h3 (fun i y hy => ?_) (fun i y k z hy hz => ?_) (by rw [hlen]; exact h6) (fun t ht => by rw [hlen]; exact h7 t ht)
    · obtain ⟨x, hx, hl⟩ := leC_get h i y hy
      rw [leSL_len hl]; exact h4 i x hx
    · obtain ⟨x, hx, hl⟩ := leC_get h i y hy
      have hk : k < x.cells.length := by rw [← leSL_len hl]; exact lt_of_get hz
      have hxk : x.cells[k]? = some (x.cells[k]'hk) := List.getElem?_eq_getElem hk
      obtain ⟨u, a1, a2⟩ := h5 i x k _ hx hxk
      exact ⟨u, a1, leSL_get hl k _ _ hxk hz g w u a2⟩
theorem leC_one {x y : AV} {xs ys : List AV} (h1 : x.cells = [x]) (h2 : y.cells = [y]) (h : leS x y) (hr : leC xs ys) : leC (x :: xs) (y :: ys) := ⟨by rw [h1, h2]; exact ⟨h, trivial⟩, hr⟩
theorem le_nilro {sz : Nat} (h : 0 < sz) : nilS.le (.sl sz none []) := .inr (.inr (.inr ⟨_, _, rfl, h, rfl⟩))
theorem maxLen_ok {n : Nat} (h : n ≤ 9223372036854775807) : n ≤ maxLen := by unfold maxLen; omega
theorem leL_one {x y : AV} (h : x.le y) : leL [x] [y] := ⟨h, trivial⟩
theorem leL_two {x y x' y' : AV} (h : x.le y) (h' : x'.le y') : leL [x, x'] [y, y'] := ⟨h, h', trivial⟩
theorem wrap_id {n : Int} (h : -9223372036854775808 ≤ n) (h2 : n ≤ 9223372036854775807) : IntKind.i64.wrap n = n := by
  rw [IntKind.wrap_i64] <;> omega
theorem le_wrap {m n : Int} (h : -9223372036854775808 ≤ m) (h2 : m ≤ 9223372036854775807) (e : n = m) : (AV.raw (.int .i64 (IntKind.i64.wrap m))).le (I n) := by
  rw [wrap_id h h2, e]; exact le_rfl
theorem le_int {m n : Int} (e : n = m) : (I m).le (I n) := by
  rw [e]; exact le_rfl
end Go.Abs
