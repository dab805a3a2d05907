/-
  Texts My, Mz, one behind the other.
-/
import Derived.Test.YtaeacialcbahnaaG5
/-
  Own layer, part y: the rules of a walk, told short: where a variable lies and what a type is, is found by instances.
-/

namespace Go.Abs
set_option linter.unusedVariables false
/-- Where a variable lies among the resources. -/
class Hold (σ : List Res) (b : Nat) (i : outParam Nat) (cs : outParam (List AV)) : Prop where
  get : σ[i]? = some (.obj b cs)
instance (priority := low) Hold.there {σ : List Res} {b i : Nat} {cs : List AV} {r : Res} [h : Hold σ b i cs] : Hold (r :: σ) b (i + 1) cs := ⟨by simpa using h.get⟩
instance Hold.here {σ : List Res} {b : Nat} {cs : List AV} : Hold (.obj b cs :: σ) b 0 cs := ⟨rfl⟩
class HasTip (σ : List Res) (tk : Option (Nat × Nat)) (i : outParam Nat) : Prop where
  get : σ[i]? = some (.tip tk)
instance (priority := low) HasTip.there {σ : List Res} {tk : Option (Nat × Nat)} {i : Nat} {r : Res} [h : HasTip σ tk i] : HasTip (r :: σ) tk (i + 1) := ⟨by simpa using h.get⟩
instance HasTip.here {σ : List Res} {tk : Option (Nat × Nat)} : HasTip (.tip tk :: σ) tk 0 := ⟨rfl⟩
/-- What types are. -/
class TOne (P : Program) (t : TypeId) : Prop where
  ag : aggT P t = some false
  sz : szT P t = some 1
class TAgg (P : Program) (t : TypeId) (n : outParam Nat) : Prop where
  ag : aggT P t = some true
  sz : szT P t = some n
class TZr (P : Program) (t : TypeId) (z : outParam Value) : Prop where
  zr : zrT P t = some z
class TSl (P : Program) (t : TypeId) (e : outParam TypeId) (sz by_ : outParam Nat) (z : outParam Value) : Prop where
  sl : slE P t = some e
  hz : szT P e = some sz
  by' : byT P e = some by_
  zr : zrT P e = some z
  pos : 0 < sz
  one : z.cells.size = sz
class TPl (P : Program) (t : TypeId) (pl : outParam (List (Nat × Nat))) : Prop where
  pl : plT P t = some pl
class TAr (P : Program) (t : TypeId) (n : outParam Nat) (e : outParam TypeId) (sz : outParam Nat) : Prop where
  ar : arrT P t = some (n, e)
  hz : szT P e = some sz
class TIn (P : Program) (t : TypeId) (k : outParam IntKind) : Prop where
  int : intT P t = some k
class TStr (P : Program) (t : TypeId) : Prop where
  str : isStr P t = true
class Good (l : List AV) : Prop where
  ok : goodL l = true
theorem good_app {a b : List AV} (h1 : goodL a = true) (h2 : goodL b = true) : goodL (a ++ b) = true := by
  simp only [goodL, List.all_append, Bool.and_eq_true] at *
  exact ⟨h1, h2⟩
theorem goodIu (l : List Int) : goodL (l.map fun n => (.raw (.int .i64 n) : AV)) = true := by
  simp [goodL, AV.cells, oneA, Value.oneCell']
instance {l : List Int} : Good (l.map I) := ⟨goodIu l⟩
instance {l : List Int} : Good (l.map U8) := ⟨goodU l⟩
instance {a b : List AV} [ha : Good a] [hb : Good b] : Good (a ++ b) := ⟨good_app ha.ok hb.ok⟩

def cellsB (sz : Nat) (xs : List AV) : Bool := xs.all fun x => x.cells.length == sz
theorem cellsB_all {sz : Nat} {xs : List AV} (h : cellsB sz xs = true) : ∀ x ∈ xs, x.cells.length = sz := fun x hx => by simpa using List.all_eq_true.1 h x hx
theorem andA {a b : Prop} (h : a := by first | omega | exact ⟨_, rfl⟩ | (focus (simp; done)) | (simp; omega)) (hb : b) : a ∧ b := ⟨h, hb⟩

section
variable {κ : Ctx} {dm : Bool} {P : Program} {all rest : List Oper} {Q : Exit → St → Prop} {d : Option Tmp} {t : List AV} {σ : List Res} {fr : Bool} {df : List Deferred}
theorem y_load {ty b k i : Nat} {cs : List AV} {x : AV} [ha : TOne P ty] [h : Hold σ b i cs] (hc : cs[k]? = some x := by with_unfolding_all rfl) (hK : goK κ dm P all Q d rest ⟨t, σ, fr, df⟩ x σ) : actC κ dm P all Q d rest ⟨t, σ, fr, df⟩ (.load ty) [.raw (.pointer (some ⟨b, k, none⟩))] :=
  actC_q (act_load i h.get ha.ag hc isA_mk) hK
theorem y_loadA {ty b k i n : Nat} {cs : List AV} [ha : TAgg P ty n] [h : Hold σ b i cs] (hn : k + n ≤ cs.length := by first | decide | (focus (simp; done)) | omega) (hK : goK κ dm P all Q d rest ⟨t, σ, fr, df⟩ (.agg ((cs.drop k).take n)) σ) : actC κ dm P all Q d rest ⟨t, σ, fr, df⟩ (.load ty) [.raw (.pointer (some ⟨b, k, none⟩))] :=
  actC_q (act_load_agg i h.get ha.ag ha.sz hn isA_mk) hK
theorem y_store {ty b k i : Nat} {cs : List AV} {x : AV} [ha : TOne P ty] [h : Hold σ b i cs] (hk : k < cs.length := by first | decide | (focus (simp; done)) | omega) (h1 : oneA x = true := by with_unfolding_all rfl) (hK : goK κ false P all Q d rest ⟨t, σ, fr, df⟩ .any (σ.set i (.obj b (cs.set k x)))) : storeC κ false P all Q d rest ⟨t, σ, fr, df⟩ ty (.raw (.pointer (some ⟨b, k, none⟩))) x :=
  storeC_mk (act_store i h.get ha.sz hk h1 hK)
theorem y_storeA {ty b k i n : Nat} {cs xs : List AV} [ha : TAgg P ty n] [h : Hold σ b i cs] (hx : xs.length = n := by with_unfolding_all rfl) (hn : k + n ≤ cs.length := by first | decide | (focus (simp; done)) | omega) (h1 : xs.all oneA = true := by with_unfolding_all rfl) (hK : goK κ false P all Q d rest ⟨t, σ, fr, df⟩ .any (σ.set i (.obj b (setCells cs k xs)))) : storeC κ false P all Q d rest ⟨t, σ, fr, df⟩ ty (.raw (.pointer (some ⟨b, k, none⟩))) (.agg xs) :=
  storeC_mk (act_store_agg i h.get (by rw [hx]; exact ha.sz) (by rw [hx]; exact hn) h1 hK)
theorem y_box {ty : TypeId} {x : AV} (h1 : x.cells.all oneA = true := by with_unfolding_all rfl) (hK : ∀ b, goK κ false P all Q d rest ⟨t, σ, fr, df⟩ (.raw (.pointer (some ⟨b, 0, none⟩))) (.obj b x.cells :: σ)) : actC κ false P all Q d rest ⟨t, σ, fr, df⟩ (.box ty) [x] :=
  actC_mk (act_box h1 hK)
theorem y_new {ty : TypeId} {z : Value} [hz : TZr P ty z] (h1 : (ofV z).cells.all oneA = true := by with_unfolding_all rfl) (hK : ∀ b, goK κ false P all Q d rest ⟨t, σ, fr, df⟩ (.raw (.pointer (some ⟨b, 0, none⟩))) (.obj b (ofV z).cells :: σ)) : actC κ false P all Q d rest ⟨t, σ, fr, df⟩ (.new ty) [] :=
  actC_mk (act_new hz.zr h1 hK)
theorem y_appN {ty e : TypeId} {sz by_ : Nat} {z : Value} {y : AV} [hs : TSl P ty e sz by_ z] (hK : actC κ false P all Q d rest ⟨t, .tip none :: σ, fr, df⟩ (.append ty) [.sl sz (some none) [], y]) : actC κ false P all Q d rest ⟨t, σ, fr, df⟩ (.append ty) [nilS, y] :=
  actC_mk (act_append_nil hs.pos hK)
theorem y_appS {ty e : TypeId} {sz by_ : Nat} {z : Value} {x : AV} [hs : TSl P ty e sz by_ z] (hK : actC κ false P all Q d rest ⟨t, σ, fr, df⟩ (.append ty) [x, .sl sz none []]) : actC κ false P all Q d rest ⟨t, σ, fr, df⟩ (.append ty) [x, nilS] :=
  actC_mk (act_append_src_nil hs.pos hK)
theorem y_app {ty e : TypeId} {sz by_ i : Nat} {z : Value} {tk : Option (Nat × Nat)} {l1 l2 : List AV} {o2 : Option (Option (Nat × Nat))} [hs : TSl P ty e sz by_ z] [h : HasTip σ tk i]
    (hg : goodL l2 = true := by first | exact Good.ok | with_unfolding_all rfl | (focus (simp [goodL, oneA, AV.cells]; done))) (hlen : (l1.length + l2.length) * by_ ≤ 140737488355328) (hmax : l1.length + l2.length ≤ maxLen)
    (hK : ∀ tk', goK κ false P all Q d rest ⟨t, σ, fr, df⟩ (.sl sz (some tk') (l1 ++ l2)) (σ.set i (.tip tk'))) : actC κ false P all Q d rest ⟨t, σ, fr, df⟩ (.append ty) [.sl sz (some tk) l1, .sl sz o2 l2] :=
  actC_mk (act_append i h.get hs.sl hs.hz hs.by' hs.zr hs.one hg hlen hmax hK)
theorem y_bs0 {ty e : TypeId} {sz by_ : Nat} {z : Value} [hs : TSl P ty e sz by_ z] (hK : goK κ dm P all Q d rest ⟨t, σ, fr, df⟩ (.sl sz none []) σ) : actC κ dm P all Q d rest ⟨t, σ, fr, df⟩ (.bslice ty 0 []) [] :=
  wk_bslice0 hs.sl hs.hz hs.pos hK
theorem y_bs0o {ty e : TypeId} {sz by_ : Nat} {z : Value} [hs : TSl P ty e sz by_ z] (hK : ∀ b, goK κ false P all Q d rest ⟨t, σ, fr, df⟩ (.sl sz (some (some (b, 0))) []) (.tip (some (b, 0)) :: σ)) : actC κ false P all Q d rest ⟨t, σ, fr, df⟩ (.bslice ty 0 []) [] :=
  actC_mk (act_bslice0_own hs.sl hs.hz hs.pos hK)
theorem y_bs {ty e : TypeId} {n sz by_ : Nat} {z : Value} {ix : List Nat} {xs : List AV} [hs : TSl P ty e sz by_ z] (hn : 0 < n := by decide) (hsm : n * sz ≤ 16777216 := by decide) (hix : ix = List.range n := by with_unfolding_all rfl) (hlen : xs.length = n := by with_unfolding_all rfl)
    (hg : goodL xs = true := by first | exact Good.ok | with_unfolding_all rfl | (focus (simp [goodL, oneA, AV.cells]; done))) (hc : cellsB sz xs = true := by with_unfolding_all rfl)
    (hK : goK κ dm P all Q d rest ⟨t, σ, fr, df⟩ (.sl sz none xs) σ) : actC κ dm P all Q d rest ⟨t, σ, fr, df⟩ (.bslice ty n ix) xs :=
  wk_bslice hs.sl hs.hz hs.zr hs.pos hn hsm hix hlen hg (cellsB_all hc) hK
theorem y_bso {ty e : TypeId} {n sz by_ : Nat} {z : Value} {ix : List Nat} {xs : List AV} [hs : TSl P ty e sz by_ z] (hn : 0 < n := by decide) (hsm : n * sz ≤ 16777216 := by decide) (hix : ix = List.range n := by with_unfolding_all rfl) (hlen : xs.length = n := by with_unfolding_all rfl)
    (hg : goodL xs = true := by first | exact Good.ok | with_unfolding_all rfl | (focus (simp [goodL, oneA, AV.cells]; done))) (hc : cellsB sz xs = true := by with_unfolding_all rfl)
    (hK : ∀ b, goK κ false P all Q d rest ⟨t, σ, fr, df⟩ (.sl sz (some (some (b, n * sz))) xs) (.tip (some (b, n * sz)) :: σ)) : actC κ false P all Q d rest ⟨t, σ, fr, df⟩ (.bslice ty n ix) xs :=
  actC_mk (act_bslice_own hs.sl hs.hz hs.zr hs.pos hn hsm hix hlen hg (cellsB_all hc) hK)
theorem y_build {ty : TypeId} {ix : List Nat} {xs cs : List AV} {z : Value} {pl : List (Nat × Nat)} [hp : TPl P ty pl] [hz : TZr P ty z] (hz1 : (ofV z).cells.all oneA = true := by with_unfolding_all rfl) (hb : buildA pl (ofV z).cells (ix.zip xs) = some cs := by with_unfolding_all rfl) (hK : goK κ dm P all Q d rest ⟨t, σ, fr, df⟩ (.agg cs) σ) : actC κ dm P all Q d rest ⟨t, σ, fr, df⟩ (.build ty ix) xs :=
  wk_build hp.pl hz.zr hz1 hb hK
theorem y_idx {ty e : TypeId} {n sz b o : Nat} {k : IntKind} {i : Int} [ha : TAr P ty n e sz] (h0 : 0 ≤ i := by first | decide | omega) (h1 : i < n := by first | decide | omega) (hK : goK κ dm P all Q d rest ⟨t, σ, fr, df⟩ (.raw (.pointer (some ⟨b, o + i.toNat * sz, none⟩))) σ) : actC κ dm P all Q d rest ⟨t, σ, fr, df⟩ (.indexAddr ty) [.raw (.pointer (some ⟨b, o, none⟩)), .raw (.int k i)] :=
  actC_q (act_idx_arr ha.ar ha.hz h0 h1 isA_mk) hK
theorem y_bytes {s dd e : TypeId} {sz by_ : Nat} {z : Value} {own : Option (Option (Nat × Nat))} {l : List Int} [hs : TSl P s e sz by_ z] [he : TIn P e .u8] [hd : TStr P dd] (hK : goK κ dm P all Q d rest ⟨t, σ, fr, df⟩ (.raw (.string (strOfNums l))) σ) : actC κ dm P all Q d rest ⟨t, σ, fr, df⟩ (.conv s dd) [.sl 1 own (l.map U8)] :=
  actC_q (act_bytes_str hs.sl he.int hd.str isA_mk) hK
theorem y_str {s dd e : TypeId} {sz by_ : Nat} {z : Value} {x : ByteArray} [hs : TStr P s] [hd : TSl P dd e sz by_ z] [he : TIn P e .u8] (hx : x.size ≤ maxLen) (hK : goK κ dm P all Q d rest ⟨t, σ, fr, df⟩ (SU none (bytesI x)) σ) : actC κ dm P all Q d rest ⟨t, σ, fr, df⟩ (.conv s dd) [.raw (.string x)] :=
  actC_q (act_str_bytes hs.str hd.sl he.int hx isA_mk) hK
theorem y_max {ts : Array TypeId} {ty : TypeId} {k : IntKind} {a b : Int} (hK : goK κ dm P all Q d rest ⟨t, σ, fr, df⟩ (.raw (.int k (max a b))) σ) : actC κ dm P all Q d rest ⟨t, σ, fr, df⟩ (.minmax true ts ty) [.raw (.int k a), .raw (.int k b)] := actC_q (act_max2 isA_mk) hK
theorem y_min {ts : Array TypeId} {ty : TypeId} {k : IntKind} {a b : Int} (hK : goK κ dm P all Q d rest ⟨t, σ, fr, df⟩ (.raw (.int k (min a b))) σ) : actC κ dm P all Q d rest ⟨t, σ, fr, df⟩ (.minmax false ts ty) [.raw (.int k a), .raw (.int k b)] := actC_q (act_min2 isA_mk) hK
theorem y_nil {t' : List AV} {l : List AV} {v : Bool} (h : 0 < l.length := by simp; omega) (hK : goK κ dm P all Q d rest ⟨t', σ, fr, df⟩ (B v) σ) : nilTC κ dm P all Q d rest ⟨t', σ, fr, df⟩ l v := nilTC_pos h hK
theorem y_load1 {ty b k i : Nat} {cs : List AV} {x : AV} [ha : TOne P ty] [h : Hold σ b i cs] (hc : cs[k]? = some x := by with_unfolding_all rfl) : LoadsTo P κ σ ty (.raw (.pointer (some ⟨b, k, none⟩))) x := LoadsTo_one i h.get ha.ag hc
theorem y_load2 {ty b k i n : Nat} {cs : List AV} [ha : TAgg P ty n] [h : Hold σ b i cs] (hn : k + n ≤ cs.length := by first | decide | (focus (simp; done)) | omega) : LoadsTo P κ σ ty (.raw (.pointer (some ⟨b, k, none⟩))) (.agg ((cs.drop k).take n)) := LoadsTo_agg i h.get ha.ag ha.sz hn
end
/-! ### Rows under one name -/
theorem take_map_ {α β : Type} {f : α → β} {l : List α} {n : Nat} : (l.map f).take n = (l.take n).map f := List.map_take.symm
theorem drop_map_ {α β : Type} {f : α → β} {l : List α} {n : Nat} : (l.map f).drop n = (l.drop n).map f := List.map_drop.symm
theorem WM : type_of% (And.intro @List.toList_toArray.{0} <| And.intro @List.set_cons_succ.{0} <| And.intro @List.set_cons_zero.{0} <| And.intro @List.getD_cons_succ.{0} <| And.intro @List.getD_cons_zero.{0} <| And.intro @List.getElem?_cons_succ.{0} <| And.intro @List.getElem?_cons_zero.{0} <| And.intro @List.length_cons.{0} <| And.intro @List.length_nil.{0} <| And.intro @List.replicate_succ.{0} <| And.intro @List.replicate_zero.{0} <| And.intro @List.cons_append.{0} <| And.intro @List.nil_append.{0} <| And.intro @List.append_nil.{0} <| And.intro @List.map_cons.{0,0} <| And.intro @List.map_nil.{0,0} <| And.intro @Option.bind_some.{0,0} <| And.intro @Option.map_some.{0,0} <| And.intro @Option.map_none.{0,0} <| And.intro @List.drop_succ_cons.{0} <| And.intro @List.drop_zero.{0} <| And.intro @List.take_succ_cons.{0} <| And.intro @List.take_zero.{0} <| And.intro @take_map_ <| And.intro @drop_map_ <| And.intro @List.take_length.{0} <| And.intro @Nat.zero_lt_succ <| And.intro @Option.isSome_some.{0} <| And.intro @Option.isSome_none.{0} <| And.intro @Int.toNat_natCast <| And.intro @List.length_map.{0,0} <| And.intro @Nat.le_refl <| And.intro @Option.some.injEq.{0} <| And.intro @exists_eq_left'.{1} <| And.intro @Nat.add_right_cancel_iff <| And.intro @List.take_nil.{0} @List.drop_nil.{0}) :=
  ⟨@List.toList_toArray.{0}, @List.set_cons_succ.{0}, @List.set_cons_zero.{0}, @List.getD_cons_succ.{0}, @List.getD_cons_zero.{0}, @List.getElem?_cons_succ.{0}, @List.getElem?_cons_zero.{0}, @List.length_cons.{0}, @List.length_nil.{0}, @List.replicate_succ.{0}, @List.replicate_zero.{0}, @List.cons_append.{0}, @List.nil_append.{0}, @List.append_nil.{0}, @List.map_cons.{0,0}, @List.map_nil.{0,0}, @Option.bind_some.{0,0}, @Option.map_some.{0,0}, @Option.map_none.{0,0}, @List.drop_succ_cons.{0}, @List.drop_zero.{0}, @List.take_succ_cons.{0}, @List.take_zero.{0}, @take_map_, @drop_map_, @List.take_length.{0}, @Nat.zero_lt_succ, @Option.isSome_some.{0}, @Option.isSome_none.{0}, @Int.toNat_natCast, @List.length_map.{0,0}, @Nat.le_refl, @Option.some.injEq.{0}, @exists_eq_left'.{1}, @Nat.add_right_cancel_iff, @List.take_nil.{0}, @List.drop_nil.{0}⟩
theorem LN_ : type_of% (And.intro @List.length_append.{0} <| And.intro @List.length_map.{0,0} <| And.intro @List.length_cons.{0} <| And.intro @List.length_nil.{0} <| And.intro @List.length_drop.{0} <| And.intro @List.length_take.{0} @List.length_replicate.{0}) :=
  ⟨@List.length_append.{0}, @List.length_map.{0,0}, @List.length_cons.{0}, @List.length_nil.{0}, @List.length_drop.{0}, @List.length_take.{0}, @List.length_replicate.{0}⟩
theorem NR_ : type_of% (And.intro @beq_iff_eq.{0} <| And.intro @beq_eq_false_iff_ne.{0} <| And.intro @bne_iff_ne.{0} <| And.intro @bne_eq_false_iff_eq.{0} <| And.intro @decide_eq_true_eq <| And.intro @decide_eq_false_iff_not <| And.intro @Bool.not_eq_true' <| And.intro @Bool.not_eq_false' <| And.intro @Int.not_lt <| And.intro @Int.not_le <| And.intro @gt_iff_lt.{0} <| And.intro @ge_iff_le.{0} @Decidable.not_not) :=
  ⟨@beq_iff_eq.{0}, @beq_eq_false_iff_ne.{0}, @bne_iff_ne.{0}, @bne_eq_false_iff_eq.{0}, @decide_eq_true_eq, @decide_eq_false_iff_not, @Bool.not_eq_true', @Bool.not_eq_false', @Int.not_lt, @Int.not_le, @gt_iff_lt.{0}, @ge_iff_le.{0}, @Decidable.not_not⟩
theorem maxLenL {n : Nat} (h : n ≤ 9223372036854775807 := by first | omega | (simp only [LN_]; omega)) : n ≤ maxLen := maxLen_ok h
theorem fC : type_of% @fieldAddrC_cp := @fieldAddrC_cp
theorem fR : type_of% @fieldAddrC_raw := @fieldAddrC_raw
theorem fA : type_of% @fieldC_agg := @fieldC_agg
theorem fO : type_of% @fieldC_one := @fieldC_one
theorem cI : type_of% @convC_int := @convC_int
theorem cD : type_of% @callD_mk := @callD_mk
theorem cQ : type_of% @callD_q := @callD_q
end Go.Abs
/-
  Own layer, part z: rows that are marked.
-/

namespace Go.Abs
open Go.RowKit
set_option linter.unusedVariables false
/-- A block of one's own turns, and is let go. -/
theorem Rel.letgo {κ : Ctx} {g : Nat → Nat} {r : Res} {ρ : List Res} {w w' : World} {c : Nat} (h : Rel κ g (r :: ρ) w) (H : GE g w g w')
    (hos : w'.os = w.os) (htape : w'.tape = w.tape) (hout : w'.output = w.output) (hsize : w'.heap.size = w.heap.size)
    (hsame : ∀ b, b ≠ c → w'.heap[b]? = w.heap[b]?) (hc : r.block = some c) : Rel κ g ρ w' := by
  have hnd := h.nodup
  rw [fm_cons hc] at hnd
  have hn : ∀ x ∈ ρ, ∀ b, x.block = some b → b ≠ c := by
    intro x hx b hxb e
    subst e
    exact (List.nodup_cons.1 hnd).1 (List.mem_filterMap.2 ⟨x, hx, hxb⟩)
  obtain ⟨hB, hlt⟩ := h.bnd r (by simp) c hc
  refine ⟨h.below.trans ⟨hos, htape, hout, by omega, fun k hk => hsame k (by omega)⟩, by rw [hsize]; exact h.hB, (List.nodup_cons.1 hnd).2, ?_, ?_, ?_⟩
  · intro x hx b hxb
    rw [hsize]; exact h.bnd x (by simp [hx]) b hxb
  · intro x hx
    exact Res.holds_keep H (fun b hxb => hsame _ (hn x hx b hxb)) (fun _ _ => rfl) (h.holds x (by simp [hx]))
  · intro b hb'
    rw [hsize] at hb'
    exact h.new b hb'

/-- A row written out is marked: nothing more is appended to it. -/
theorem act_mark {κ : Ctx} {P : Program} {σ : List Res} {K : AV → List Res → Prop} {t e : TypeId} {sz b n : Nat} {l : List AV} (i : Nat) (h : σ[i]? = some (.tip (some (b, n)))) (ht : slE P t = some e) (he : intT P e = some .u8) (hl : 0 < l.length)
    (hK : K (.sl sz none l) (σ.eraseIdx i)) : AAct κ P (.conv t t) [.sl sz (some (some (b, n))) l] σ K := by
  intro φ g w vs hR hvs
  obtain ⟨v, rfl, hu⟩ := one_vs hvs
  have hsl := und_of_slE ht
  have hint := und_of_intT he
  have hR2 : Rel κ g (.tip (some (b, n)) :: (φ ++ σ.eraseIdx i)) w := hR.perm (perm_front (perm_get h))
  obtain ⟨hg, arr, ty, hb⟩ := hR2.holds (.tip (some (b, n))) (by simp)
  rcases hu.sl_inv with ⟨h0, _⟩ | ⟨b', off, cap, rfl, hcap, hmax, hpos, hc, hel, hgg, ho⟩
  · rw [h0] at hl; simp at hl
  · have hbb : b' = b := by
      have := (ho _ rfl).1
      simp at this; exact this.1.symm
    subst hbb
    have hlt : b' < w.heap.size := (hR2.bnd (.tip (some (b', n))) (by simp) b' rfl).2
    have hget : w.heap[b'] = .cells arr ty (0, 0) := by
      rw [Array.getElem?_eq_getElem hlt] at hb
      exact Option.some.inj hb
    have hmod : ∀ (f : Obj → Obj) (k : Nat), (w.heap.modify b' f)[k]? = if b' = k then (w.heap[k]?).map f else w.heap[k]? := by
      intro f k
      by_cases e : b' = k
      · subst e
        simp [Array.getElem?_modify]
      · simp [Array.getElem?_modify, e]
    have hcell : ∀ x, (w.freeze ⟨b', arr.size, none⟩ 1).cell? x = w.cell? x := by
      intro x
      simp only [World.cell?, World.freeze]
      rw [if_neg (by decide)]
      simp only [hmod]
      by_cases e : b' = x.block
      · rw [if_pos e, ← e, hb]; simp
      · rw [if_neg e]
    have hsame : ∀ k, k ≠ b' → (w.freeze ⟨b', arr.size, none⟩ 1).heap[k]? = w.heap[k]? := by
      intro k hk
      simp only [World.freeze]
      rw [if_neg (by decide)]
      simp only [hmod]
      rw [if_neg (fun e => hk e.symm)]
    have hlen : ∀ k, blockLen (w.freeze ⟨b', arr.size, none⟩ 1) k = blockLen w k := by
      intro k
      by_cases e : k = b'
      · subst e
        simp only [blockLen, World.freeze]
        rw [if_neg (by decide)]
        simp only [hmod, if_true, hb]
        simp
      · simp only [blockLen]; rw [hsame k e]
    have H : GE g w g (w.freeze ⟨b', arr.size, none⟩ 1) := ⟨by simp [World.freeze], fun _ => Nat.le_refl _, fun k o _ => hcell _, fun k => by rw [hlen]; exact Nat.le_refl _⟩
    refine ⟨.slice (some ⟨b', off, none⟩) l.length cap, w.freeze ⟨b', arr.size, none⟩ 1, g, .sl sz none l, σ.eraseIdx i, ?_, ?_, H, ?_, hK⟩
    · have hsh : w.shape? b' = some (ty, arr.size) := by simp [World.shape?, hb]
      show (convert t t (.slice (some ⟨b', off, none⟩) l.length cap)).run P w = _
      simp [convert, run_underlying hsl, run_underlying hint, markStringish, hsh]
    · exact hR2.letgo H rfl rfl rfl (by simp [World.freeze]) hsame rfl
    · exact VR.sl_mk rfl hcap hmax hpos hc (fun i x k y hx hy => by
        obtain ⟨u, a1, a2⟩ := hel i x k y hx hy
        exact ⟨u, by rw [hcell]; exact a1, a2.mono H⟩) hgg (fun t ht => by cases ht)
section
variable {κ : Ctx} {P : Program} {all rest : List Oper} {Q : Exit → St → Prop} {d : Option Tmp} {t : List AV} {σ : List Res} {fr : Bool} {df : List Deferred}
theorem y_mark {ty e : TypeId} {sz by_ i b n sz' : Nat} {z : Value} {l : List AV} [hs : TSl P ty e sz' by_ z] [he : TIn P e .u8] [h : HasTip σ (some (b, n)) i] (hl : 0 < l.length := by first | decide | (focus (simp; done)) | omega)
    (hK : goK κ false P all Q d rest ⟨t, σ, fr, df⟩ (.sl sz none l) (σ.eraseIdx i)) : actC κ false P all Q d rest ⟨t, σ, fr, df⟩ (.conv ty ty) [.sl sz (some (some (b, n))) l] :=
  actC_mk (act_mark i h.get hs.sl he.int hl hK)
end
end Go.Abs
