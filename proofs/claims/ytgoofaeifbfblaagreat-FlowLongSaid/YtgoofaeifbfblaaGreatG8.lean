/-
  Texts MG, Hf, Hg, Hh, Hj, Hi, Fe, St, Sv, Si, Sd, one behind the other.
-/
import Derived.Test.YtgoofaeifbfblaaGreatG7
set_option linter.unusedVariables false
set_option linter.unusedSimpArgs false
/-
  The abstract layer, part G: contracts that write a variable, wherever it lies.
-/

namespace Go.Abs
open Go.RowKit
section
variable {κ : Ctx} {P : Program}
/-- A variable, what lies ahead of it, and what lies behind it. -/
class Split (σ : List Res) (b : Nat) (ρ : outParam (List Res)) (cs : outParam (List AV)) (τ : outParam (List Res)) : Prop where
  is : σ = ρ ++ (.obj b cs :: τ)
instance (priority := low) Split.there {σ ρ τ : List Res} {b : Nat} {cs : List AV} {r : Res} [h : Split σ b ρ cs τ] : Split (r :: σ) b (r :: ρ) cs τ := ⟨by rw [h.is]; rfl⟩
instance Split.here {σ : List Res} {b : Nat} {cs : List AV} : Split (.obj b cs :: σ) b [] cs σ := ⟨rfl⟩
/-- A contract of what lies from a variable on. -/
theorem ACallF.at_ {f : FuncId} {args : List AV} {σ ρ τ : List Res} {b : Nat} {cs : List AV} {K : Ret → List Res → Prop} [h : Split σ b ρ cs τ] (hc : ACallF κ P f args (.obj b cs :: τ) (fun r σ' => K r (ρ ++ σ'))) : ACallF κ P f args σ K := by
  rw [h.is]
  refine (hc.front ρ).mono ?_
  rintro r σ' ⟨τ', rfl, hk⟩
  exact hk
theorem AW_phS2 {rd : Option Nat} {l : List Oper} {Q : Exit → St → Prop} {t : List AV} {r1 r2 : Res} {σ : List Res} {fr : Bool} {df : List Deferred} {id : Nat} (A0 : List Nat) (c0 : Option Nat) (r0 : Ph) (hm : P.follows .mixedOrders = true) (hok : phOk l ((A0, c0) :: r0) = true) (h : phE κ P l (Has [r1, r2]) fr df Q A0 c0 r0 t (r1 :: r2 :: σ)) : AW κ rd P (.region id l.toArray true) Q ⟨t, r1 :: r2 :: σ, fr, df⟩ :=
  AW_phE A0 c0 r0 (Has [r1, r2]) ⟨fun r hr => by simp at hr; rcases hr with h | h <;> simp [h]⟩ hm hok h
theorem AW_phS1 {rd : Option Nat} {l : List Oper} {Q : Exit → St → Prop} {t : List AV} {r1 : Res} {σ : List Res} {fr : Bool} {df : List Deferred} {id : Nat} (A0 : List Nat) (c0 : Option Nat) (r0 : Ph) (hm : P.follows .mixedOrders = true) (hok : phOk l ((A0, c0) :: r0) = true) (h : phE κ P l (Has [r1]) fr df Q A0 c0 r0 t (r1 :: σ)) : AW κ rd P (.region id l.toArray true) Q ⟨t, r1 :: σ, fr, df⟩ :=
  AW_phE A0 c0 r0 (Has [r1]) ⟨fun r hr => by simp at hr; simp [hr]⟩ hm hok h
/-- As AW_phS2: the first resource, and one that is told. -/
theorem AW_phM {rd : Option Nat} {l : List Oper} {Q : Exit → St → Prop} {t : List AV} {r1 r2 : Res} {σ : List Res} {fr : Bool} {df : List Deferred} {id : Nat} (A0 : List Nat) (c0 : Option Nat) (r0 : Ph) (h2 : r2 ∈ σ) (hm : P.follows .mixedOrders = true) (hok : phOk l ((A0, c0) :: r0) = true) (h : phE κ P l (Has [r1, r2]) fr df Q A0 c0 r0 t (r1 :: σ)) : AW κ rd P (.region id l.toArray true) Q ⟨t, r1 :: σ, fr, df⟩ :=
  AW_phE A0 c0 r0 (Has [r1, r2]) ⟨fun r hr => by simp at hr; rcases hr with h | h <;> simp [h, h2]⟩ hm hok h
theorem has1 {r1 : Res} {σ : List Res} (h1 : r1 ∈ σ) : Has [r1] σ := ⟨fun r hr => by simp at hr; rw [hr]; exact h1⟩
theorem has2 {r1 r2 : Res} {σ : List Res} (h1 : r1 ∈ σ) (h2 : r2 ∈ σ) : Has [r1, r2] σ := ⟨fun r hr => by simp at hr; rcases hr with h | h <;> rw [h] <;> assumption⟩
/-- A row of one's own, and its resources. -/
inductive RowR (sz : Nat) : AV → List AV → List Res → Prop where
  | nil : RowR sz nilS [] []
  | row {b c : Nat} {cs l : List AV} (h0 : 0 < c) (hn : l.length ≤ c) (hc : cs.length = c * sz) (ht : cs.take (l.length * sz) = cellsL l) : RowR sz (rowV b 0 l.length c) l [.obj b cs]
section
variable {all rest : List Oper} {Q : Exit → St → Prop} {d : Option Tmp} {t : List AV} {σ : List Res} {fr : Bool} {df : List Deferred}
theorem y_app_first {ty e : TypeId} {sz by_ : Nat} {z : Value} {l2 : List AV} {o2 : Option (Option (Nat × Nat))} [hS : TSl P ty e sz by_ z] (hgood : goodL l2 = true) (hne : 0 < l2.length) (hlen : l2.length * by_ ≤ 140737488355328) (hmax : l2.length ≤ maxLen)
    (hK : ∀ b' c' cs', cs'.length = c' * sz → l2.length ≤ c' → cs'.take (l2.length * sz) = cellsL l2 → goK κ false P all Q d rest ⟨t, σ, fr, df⟩ (rowV b' 0 l2.length c') (.obj b' cs' :: σ)) : actC κ false P all Q d rest ⟨t, σ, fr, df⟩ (.append ty) [nilS, .sl sz o2 l2] :=
  actC_mk (act_append_first hS.sl hS.hz hS.by' hS.zr hS.one hS.pos hgood hne hlen hmax hK)
theorem y_app_row {ty e : TypeId} {sz by_ b n c i : Nat} {z : Value} {cs l2 : List AV} {o2 : Option (Option (Nat × Nat))} [hS : TSl P ty e sz by_ z] [hH : Hold σ b i cs] (hgood : goodL l2 = true) (hcs : cs.length = c * sz) (hn : n ≤ c) (hlen : (n + l2.length) * by_ ≤ 140737488355328) (hmax : n + l2.length ≤ maxLen)
    (hK : ∀ b' c' cs', cs'.length = c' * sz → n + l2.length ≤ c' → cs'.take ((n + l2.length) * sz) = cs.take (n * sz) ++ cellsL l2 → goK κ false P all Q d rest ⟨t, σ, fr, df⟩ (rowV b' 0 (n + l2.length) c') (σ.set i (.obj b' cs'))) : actC κ false P all Q d rest ⟨t, σ, fr, df⟩ (.append ty) [rowV b 0 n c, .sl sz o2 l2] :=
  actC_mk (act_append_row i hH.get hS.sl hS.hz hS.by' hS.zr hS.one hS.pos hgood hcs hn hlen hmax hK)
theorem y_cut {dm : Bool} {ty e : TypeId} {sz by_ b o n c : Nat} {i : Int} (a : Nat) {z : Value} [hS : TSl P ty e sz by_ z] (hi : i = a) (ha : a ≤ n) (hc : n ≤ c) (h0 : 0 < c) (hK : goK κ dm P all Q d rest ⟨t, σ, fr, df⟩ (rowV b o a c) σ) : actC κ dm P all Q d rest ⟨t, σ, fr, df⟩ (.slice ty false true false) [rowV b o n c, .any, I i, .any] := by
  subst hi
  exact actC_q (act_slice_cut hS.sl hS.hz ha hc h0 isA_mk) hK
end
end
section
variable {κ : Ctx} {P : Program} {σ : List Res} {fn : Func} {t : List AV} {fr : Bool} {df : List Deferred} {K : Ret → List Res → Prop}
theorem res_cct {a b c : Tmp} {ty ty' : TypeId} {x y : AV} (hf : fn.results = #[.cell a ty, .cell b ty', .tmp c]) (h : LoadsTo P κ σ ty (t.getD a .any) x) (h' : LoadsTo P κ σ ty' (t.getD b .any) y) (hK : K (.ret (.tup [x, y, t.getD c .any])) σ) : resL κ P fn K ⟨t, σ, fr, df⟩ [.cell a ty, .cell b ty', .tmp c] := by
  intro φ g w tmps hR ht
  obtain ⟨p, u, h1, h2, h3⟩ := h φ g w _ hR (evT ht a)
  obtain ⟨q, v, k1, k2, k3⟩ := h' φ g w _ hR (evT ht b)
  have h1' : tmps[a]?.getD undef = .pointer (some p) := by simpa using h1
  have k1' : tmps[b]?.getD undef = .pointer (some q) := by simpa using k1
  have h4 := TR.three h3 k3 (evT ht c)
  exact ⟨.tuple #[u, v, tmps.getD c undef], _, by simp [results, hf, h1', k1', asAddr, h2, k2], .tup _ h4.size h4.get, hK⟩
end
end Go.Abs
/-
  Walks: chapter 13, what is put.
-/


namespace Go.Proofs.YtgoofaeifbfblaaGreat
open Go.Abs
set_option linter.unusedVariables false
set_option linter.unusedSimpArgs false
variable {κ : Ctx} {σ : List Res} {K : Ret → List Res → Prop} {o o' : Option (Option (Nat × Nat))}
/-- An event. -/
structure EvV where
  k : Int
  x : ByteArray
  t : ByteArray
  a : ByteArray
  s : Int
  f : Bool
abbrev EVA (e : EvV) : AV := .agg [I e.k, .raw (.string e.x), .raw (.string e.t), .raw (.string e.a), I e.s, B e.f]
set_option maxHeartbeats 8000000 in
theorem jPut0 {bj : Nat} {ls : List Ln} {n d : Int} {bk : Bool} {x y : AV} {l : List EvV} {ρ : List Res} {e : EvV} (hR : RowR 6 y (l.map EVA) ρ) (hl : l.length ≤ 1000000000)
    (hK : ∀ y' ρ', RowR 6 y' ((l ++ [e]).map EVA) ρ' → K (.ret (.tup [])) (.obj bj (JC ls n bk d x y') :: (ρ' ++ σ))) : ACallF κ Tryz.prog 113 [JP bj, EVA e] (.obj bj (JC ls n bk d x y) :: (ρ ++ σ)) K := by
  rw [List.map_append] at hK
  generalize hm : l.map EVA = m at *
  have hml : m.length ≤ 1000000000 := by rw [← hm, List.length_map]; exact hl
  cases hR with
  | nil =>
    rw [List.nil_append]
    refine ACallF.dropL (ACallF_intro Tryz.func113 rfl ?_)
    simp only [Tryz.ntmps113]
    repeat' (first | ( ((with_reducible refine AW_phS1 (id := 1) [0, 1, 2, 3, 5, 6] (some 4) [([], some 7), ([8, 9], some 10), ([], none)] mixed ?_ ?_); kernel_rfl)) | ( with_reducible refine phQ_mk (has1 (by first | (simp; done) | fail)) ?_) | simp only [WL, WM, Nat.reduceAdd, Nat.reduceSub, Nat.reduceEqDiff, true_and, T27, fR fl64_5, Tryz.results113] | (with_reducible first | refine andA (hb := ?_) | refine y_load (hK := ?_) | refine y_loadA (hK := ?_) | refine y_store (hK := ?_) | refine y_box (hK := fun b => ?_) | refine y_bs (hK := ?_)) | ( refine y_app_first (hgood := by rfl) (hne := by simp) (hlen := by simp) (hmax := by simp [maxLen]) (hK := fun b' c' cs' q1 q2 q3 => ?_)) | ((with_reducible apply phE_intro); intro σq hq; have hqi := has_of hq; clear hq) | (with_reducible exact isT_mk) | ((with_reducible apply phC_ops); rfl; rfl))
    refine leafL ⟨.obj b' cs' :: .obj bj (JC ls n bk d x (rowV b' 0 1 c')) :: σ, List.Perm.swap _ _ _, ((List.Sublist.refl _).cons _).cons_cons _⟩ (leT_eq rfl) (hK (rowV b' 0 1 c') [.obj b' cs'] (RowR.row (l := [EVA e]) (by simp at q2; omega) q2 q1 q3))
  | @row rb rc cs _ h0 hn hc ht =>
    rw [List.cons_append, List.nil_append]
    refine ACallF.dropL (ACallF_intro Tryz.func113 rfl ?_)
    simp only [Tryz.ntmps113]
    repeat' (first | ( ((with_reducible refine AW_phS1 (id := 1) [0, 1, 2, 3, 5, 6] (some 4) [([], some 7), ([8, 9], some 10), ([], none)] mixed ?_ ?_); kernel_rfl)) | ( with_reducible refine phQ_mk (has1 (by first | (simp; done) | fail)) ?_) | simp only [WL, WM, Nat.reduceAdd, Nat.reduceSub, Nat.reduceEqDiff, true_and, T27, fR fl64_5, Tryz.results113] | (with_reducible first | refine andA (hb := ?_) | refine y_load (hK := ?_) | refine y_loadA (hK := ?_) | refine y_store (hK := ?_) | refine y_box (hK := fun b => ?_) | refine y_bs (hK := ?_)) | ( refine y_app_row (hgood := by rfl) (hcs := hc) (hn := hn) (hlen := by first | (simp; omega) | fail) (hmax := by first | (simp [maxLen]; omega) | fail) (hK := fun b' c' cs' q1 q2 q3 => ?_)) | ((with_reducible apply phE_intro); intro σq hq; have hqi := has_of hq; clear hq) | (with_reducible exact isT_mk) | ((with_reducible apply phC_ops); rfl; rfl))
    have hr : RowR 6 (rowV b' 0 (m.length + 1) c') (m ++ [EVA e]) [.obj b' cs'] := by
      have := RowR.row (sz := 6) (b := b') (c := c') (cs := cs') (l := m ++ [EVA e]) (by have : m.length + 1 ≤ c' := q2; omega) (by simpa using q2) q1 (by rw [List.length_append, q3, ht]; simp)
      rwa [List.length_append] at this
    exact leafL (sub_cons sub_rfl) (leT_eq rfl) (hK _ _ hr)
/-- What a job has beside its cells: what is open (numbers) and what is put. -/
def JX (x y : AV) (op : List Int) (l : List EvV) (τ σ0 : List Res) : Prop := ∃ ρx ρy, RowR 1 x (op.map I) ρx ∧ RowR 6 y (l.map EVA) ρy ∧ τ.Perm (ρx ++ (ρy ++ σ0))
set_option maxHeartbeats 8000000 in
theorem jPut {bj : Nat} {ls : List Ln} {n d : Int} {bk : Bool} {x y : AV} {op : List Int} {l : List EvV} {ρ τ σ0 : List Res} {e : EvV} [hS : Split σ bj ρ (JC ls n bk d x y) τ] (hJ : JX x y op l τ σ0) (hl : l.length ≤ 1000000000)
    (hK : ∀ y' τ', JX x y' op (l ++ [e]) τ' σ0 → K (.ret (.tup [])) (ρ ++ .obj bj (JC ls n bk d x y') :: τ')) : ACallF κ Tryz.prog 113 [JP bj, EVA e] σ K := by
  obtain ⟨ρx, ρy, h1, h2, hp⟩ := hJ
  have sw : ∀ ρ' : List Res, (ρ' ++ (ρx ++ σ0)).Perm (ρx ++ (ρ' ++ σ0)) := fun ρ' => by
    rw [← List.append_assoc, ← List.append_assoc]
    exact List.perm_append_comm.append_right _
  refine ACallF.at_ (b := bj) (ACallF.perm (σ2 := .obj bj (JC ls n bk d x y) :: (ρy ++ (ρx ++ σ0))) (List.Perm.cons _ (hp.trans (sw ρy).symm)) (jPut0 h2 hl (fun y' ρ' h3 => ?_)))
  exact hK y' _ ⟨ρx, ρ', h1, h3, sw ρ'⟩
abbrev JO (b : Nat) : AV := .raw (.pointer (some ⟨b, 4, none⟩))
set_option maxHeartbeats 8000000 in
theorem jPush0 {bj : Nat} {ls : List Ln} {n d : Int} {bk : Bool} {x y : AV} {l : List Int} {ρ : List Res} {e : Int} (hR : RowR 1 x (l.map I) ρ) (hl : l.length ≤ 1000000000)
    (hK : ∀ x' ρ', RowR 1 x' ((l ++ [e]).map I) ρ' → K (.ret (.tup [])) (.obj bj (JC ls n bk d x' y) :: (ρ' ++ σ))) : ACallF κ Tryz.prog 164 [JO bj, I e] (.obj bj (JC ls n bk d x y) :: (ρ ++ σ)) K := by
  rw [List.map_append] at hK
  generalize hm : l.map I = m at *
  have hml : m.length ≤ 1000000000 := by rw [← hm, List.length_map]; exact hl
  cases hR with
  | nil =>
    rw [List.nil_append]
    refine ACallF.dropL (ACallF_intro Tryz.func164 rfl ?_)
    simp only [Tryz.ntmps164]
    repeat' (first | simp only [WL, WM, Nat.reduceAdd, Nat.reduceSub, Nat.reduceEqDiff, true_and, T39, fR fl62_0, Tryz.results164] | (with_reducible first | refine andA (hb := ?_) | refine y_load (hK := ?_) | refine y_store (hK := ?_) | refine y_bs (hK := ?_)) | ( refine y_app_first (hgood := by rfl) (hne := by simp) (hlen := by simp) (hmax := by simp [maxLen]) (hK := fun b' c' cs' q1 q2 q3 => ?_)))
    exact leafL ⟨_, List.Perm.swap _ _ _, List.Sublist.refl _⟩ (leT_eq rfl) (hK (rowV b' 0 1 c') [.obj b' cs'] (RowR.row (l := [I e]) (by simp at q2; omega) q2 q1 q3))
  | @row rb rc cs _ h0 hn hc ht =>
    rw [List.cons_append, List.nil_append]
    refine ACallF.dropL (ACallF_intro Tryz.func164 rfl ?_)
    simp only [Tryz.ntmps164]
    repeat' (first | simp only [WL, WM, Nat.reduceAdd, Nat.reduceSub, Nat.reduceEqDiff, true_and, T39, fR fl62_0, Tryz.results164] | (with_reducible first | refine andA (hb := ?_) | refine y_load (hK := ?_) | refine y_store (hK := ?_) | refine y_bs (hK := ?_)) | ( refine y_app_row (hgood := by rfl) (hcs := hc) (hn := hn) (hlen := by first | (simp; omega) | fail) (hmax := by first | (simp [maxLen]; omega) | fail) (hK := fun b' c' cs' q1 q2 q3 => ?_)))
    have hr : RowR 1 (rowV b' 0 (m.length + 1) c') (m ++ [I e]) [.obj b' cs'] := by
      have := RowR.row (sz := 1) (b := b') (c := c') (cs := cs') (l := m ++ [I e]) (by have : m.length + 1 ≤ c' := q2; omega) (by simpa using q2) q1 (by rw [List.length_append, q3, ht]; simp)
      rwa [List.length_append] at this
    exact leafL sub_rfl (leT_eq rfl) (hK _ _ hr)
set_option maxHeartbeats 8000000 in
theorem jPush {bj : Nat} {ls : List Ln} {n d : Int} {bk : Bool} {x y : AV} {op : List Int} {l : List EvV} {ρ τ σ0 : List Res} {e : Int} [hS : Split σ bj ρ (JC ls n bk d x y) τ] (hJ : JX x y op l τ σ0) (hl : op.length ≤ 1000000000)
    (hK : ∀ x' τ', JX x' y (op ++ [e]) l τ' σ0 → K (.ret (.tup [])) (ρ ++ .obj bj (JC ls n bk d x' y) :: τ')) : ACallF κ Tryz.prog 164 [JO bj, I e] σ K := by
  obtain ⟨ρx, ρy, h1, h2, hp⟩ := hJ
  refine ACallF.at_ (b := bj) (ACallF.perm (σ2 := .obj bj (JC ls n bk d x y) :: (ρx ++ (ρy ++ σ0))) (List.Perm.cons _ hp) (jPush0 h1 hl (fun x' ρ' h3 => ?_)))
  exact hK x' _ ⟨ρ', ρy, h3, h2, List.Perm.refl _⟩
set_option maxHeartbeats 8000000 in
theorem jLen0 {bj ix : Nat} {ls : List Ln} {n d : Int} {bk : Bool} {x y : AV} {l : List Int} {ρ : List Res} [hJ : Hold σ bj ix (JC ls n bk d x y)] (hR : RowR 1 x (l.map I) ρ) (hl : l.length ≤ 1000000000) (hK : K (.ret (I l.length)) σ) : ACallF κ Tryz.prog 129 [JO bj] σ K := by
  have hml : (l.map I).length = l.length := List.length_map _
  generalize l.map I = m at *
  cases hR with
  | nil =>
    refine ACallF.dropL (ACallF_intro Tryz.func129 rfl ?_)
    simp only [Tryz.ntmps129]
    repeat' (first | simp only [WL, WM, Nat.reduceAdd, Nat.reduceSub, Nat.reduceEqDiff, true_and, T39, fR fl62_0, Tryz.results129] | (with_reducible first | refine andA (hb := ?_) | refine y_load (hK := ?_)))
    exact leafL sub_rfl (leT_eq rfl) (by simpa [← hml] using hK)
  | @row rb rc cs _ h0 hn hc ht =>
    refine ACallF.dropL (ACallF_intro Tryz.func129 rfl ?_)
    simp only [Tryz.ntmps129]
    repeat' (first | simp only [WL, WM, Nat.reduceAdd, Nat.reduceSub, Nat.reduceEqDiff, true_and, T39, fR fl62_0, Tryz.results129] | (with_reducible first | refine andA (hb := ?_) | refine y_load (hK := ?_)))
    exact leafL sub_rfl (leT_eq rfl) (by simpa [← hml] using hK)
set_option maxHeartbeats 8000000 in
theorem jLen {bj : Nat} {ls : List Ln} {n d : Int} {bk : Bool} {x y : AV} {op : List Int} {l : List EvV} {ρ τ σ0 : List Res} [hS : Split σ bj ρ (JC ls n bk d x y) τ] (hJ : JX x y op l τ σ0) (hl : op.length ≤ 1000000000)
    (hK : K (.ret (I op.length)) σ) : ACallF κ Tryz.prog 129 [JO bj] σ K := by
  obtain ⟨ρx, ρy, h1, h2, hp⟩ := hJ
  haveI : Hold σ bj ρ.length (JC ls n bk d x y) := ⟨by rw [hS.is]; simp⟩
  exact jLen0 h1 hl hK
set_option maxHeartbeats 8000000 in
theorem cellsI : ∀ l : List Int, cellsL (l.map I) = l.map I
  | [] => rfl
  | x :: l => by
    show (I x).cells ++ cellsL (l.map I) = _
    rw [cellsI l]; rfl
set_option maxHeartbeats 8000000 in
theorem jDrop0 {bj : Nat} {ls : List Ln} {n d : Int} {bk : Bool} {x y : AV} {l : List Int} {ρ : List Res} {e : Int} (hR : RowR 1 x ((l ++ [e]).map I) ρ) (hl : l.length ≤ 1000000000)
    (hK : ∀ x' ρ', RowR 1 x' (l.map I) ρ' → K (.ret (.tup [])) (.obj bj (JC ls n bk d x' y) :: (ρ' ++ σ))) : ACallF κ Tryz.prog 165 [JO bj] (.obj bj (JC ls n bk d x y) :: (ρ ++ σ)) K := by
  generalize hm2 : (l ++ [e]).map I = m2 at *
  cases hR with
  | nil => simp at hm2
  | @row rb rc cs _ h0 hn hc ht =>
    have h9 : m2.length = l.length + 1 := by rw [← hm2]; simp
    rw [List.cons_append, List.nil_append, h9]
    have hn2 : l.length + 1 ≤ rc := by omega
    have hr : RowR 1 (rowV rb 0 l.length rc) (l.map I) [.obj rb cs] := by
      have h8 : cs.take l.length = l.map I := by
        rw [← hm2, cellsI, List.map_append, List.length_append, List.length_map] at ht
        have h7 := congrArg (List.take l.length) ht
        rw [List.take_take, List.take_append_of_le_length (by simp)] at h7
        have h6 : min l.length ((l.length + (List.map I [e]).length) * 1) = l.length := by omega
        rw [h6, List.take_of_length_le (l := l.map I) (by simp)] at h7
        exact h7
      have := RowR.row (sz := 1) (b := rb) (c := rc) (cs := cs) (l := l.map I) h0 (by rw [List.length_map]; omega) hc (by
        rw [cellsI, List.length_map, Nat.mul_one]; exact h8)
      rwa [List.length_map] at this
    refine ACallF.dropL (ACallF_intro Tryz.func165 rfl ?_)
    simp only [Tryz.ntmps165]
    repeat' (first | simp only [WL, intF, WM, reduceCtorEq, WLb, Nat.reduceAdd, Nat.reduceSub, Nat.reduceEqDiff, true_and, T39, fR fl62_0, Tryz.results165] | simp (disch := first | omega | (simp only [LN_]; omega)) only [wrap_id] | (with_reducible first | refine andA (hb := ?_) | refine y_load (hK := ?_) | refine y_store (hK := ?_)) | ( refine y_cut l.length (by omega) (Nat.le_succ _) hn2 h0 ?_) | ((with_reducible refine AW_drawM (id := 0) 14 mixed ?_ ?_); kernel_rfl) | (with_reducible refine dmQ_mk ?_))
    exact leafL sub_rfl (leT_eq rfl) (hK _ _ hr)
set_option maxHeartbeats 8000000 in
theorem jDrop {bj : Nat} {ls : List Ln} {n d : Int} {bk : Bool} {x y : AV} {op : List Int} {l : List EvV} {ρ τ σ0 : List Res} {e : Int} [hS : Split σ bj ρ (JC ls n bk d x y) τ] (hJ : JX x y (op ++ [e]) l τ σ0) (hl : op.length ≤ 1000000000)
    (hK : ∀ x' τ', JX x' y op l τ' σ0 → K (.ret (.tup [])) (ρ ++ .obj bj (JC ls n bk d x' y) :: τ')) : ACallF κ Tryz.prog 165 [JO bj] σ K := by
  obtain ⟨ρx, ρy, h1, h2, hp⟩ := hJ
  refine ACallF.at_ (b := bj) (ACallF.perm (σ2 := .obj bj (JC ls n bk d x y) :: (ρx ++ (ρy ++ σ0))) (List.Perm.cons _ hp) (jDrop0 h1 hl (fun x' ρ' h3 => ?_)))
  exact hK x' _ ⟨ρ', ρy, h3, h2, List.Perm.refl _⟩
def roomF (d : Int) (k : Nat) (w : Int) : Bool := decide (d < 200) && decide (d + k + w < 200)
set_option maxHeartbeats 8000000 in
theorem split_hold {σ ρ τ : List Res} {b : Nat} {cs : List AV} (h : Split σ b ρ cs τ) : Hold σ b ρ.length cs := ⟨by rw [h.is]; simp⟩
set_option maxHeartbeats 8000000 in
theorem jPutV {bj : Nat} {ls : List Ln} {n d : Int} {bk : Bool} {x y : AV} {op : List Int} {l : List EvV} {ρ τ σ0 : List Res} {k s : Int} {ex et ea : ByteArray} {f : Bool} [hS : Split σ bj ρ (JC ls n bk d x y) τ] (hJ : JX x y op l τ σ0) (hl : l.length ≤ 1000000000)
    (hK : ∀ y' τ', JX x y' op (l ++ [⟨k, ex, et, ea, s, f⟩]) τ' σ0 → K (.ret (.tup [])) (ρ ++ .obj bj (JC ls n bk d x y') :: τ')) : ACallF κ Tryz.prog 113 [JP bj, .agg [I k, .raw (.string ex), .raw (.string et), .raw (.string ea), I s, B f]] σ K :=
  jPut (e := ⟨k, ex, et, ea, s, f⟩) hJ hl hK
set_option maxHeartbeats 8000000 in
theorem len0_beq {k : Nat} : ((k : Int) == 0) = decide (k = 0) := by
  rw [Bool.eq_iff_iff]; simp only [beq_iff_eq, decide_eq_true_eq]; omega
set_option maxHeartbeats 8000000 in
theorem jRoom {bj : Nat} {ls : List Ln} {n d : Int} {bk : Bool} {x y : AV} {op : List Int} {l : List EvV} {ρ τ σ0 : List Res} {w : Int} [hS : Split σ bj ρ (JC ls n bk d x y) τ] (hJ : JX x y op l τ σ0) (hl : op.length ≤ 1000000000) (hd : 0 ≤ d ∧ d ≤ 1000000000) (hw : 0 ≤ w ∧ w ≤ 1000000000)
    (h1 : roomF d op.length w = true → K (.ret (.tup [])) σ) (h2 : roomF d op.length w = false → K (.pan (wrongC 8)) σ) : ACallF κ Tryz.prog 162 [JP bj, I w] σ K := by
  haveI hH := split_hold hS
  unfold roomF at h1 h2
  refine ACallF.dropL (ACallF_intro Tryz.func162 rfl ?_)
  simp only [Tryz.ntmps162]
  repeat' (first | simp only [WL, intF, WM, reduceCtorEq, WLb, Nat.reduceAdd, Nat.reduceSub, Nat.reduceEqDiff, Bool.not_false, true_and, reduceIte, Bool.false_eq_true, T3, T62, fR fl64_3, fR fl64_4, cok110, cok129, Tryz.results162] | simp (disch := first | omega | (simp only [LN_]; omega)) only [wrap_id] | (with_reducible first | refine andA (hb := ?_) | refine y_load (hK := ?_) | refine cD (jFail ?_) | refine cQ (jLen (by assumption) ?_ isR_mk) ?_) | ((with_reducible refine AW_drawM (id := 0) 19 mixed ?_ ?_); kernel_rfl) | (with_reducible refine dmQ_mk ?_) | ((with_reducible first | refine grd_cases (fun h => ?_) (fun h => ?_) | refine condC_split (fun h => ?_) (fun h => ?_)) <;> (try simp only [h]) <;> (try simp only [NR_, NRb] at h)) | omega)
  all_goals first
    | exact leafP sub_rfl rfl (h2 (by simp; omega))
    | exact leafL sub_rfl (leT_eq rfl) (h1 (by simp; omega))
set_option maxHeartbeats 8000000 in
theorem jBegin0 {bj : Nat} {ls : List Ln} {n d : Int} {bk : Bool} {x y : AV} {op : List Int} {l : List EvV} {τ σ0 : List Res} {e : EvV} (hJ : JX x y op l τ σ0) (hl : op.length ≤ 1000000000) (hll : l.length ≤ 1000000000) (hd : 0 ≤ d ∧ d ≤ 1000000000)
    (h1 : roomF d op.length 0 = true → ∀ x' y' τ', JX x' y' (op ++ [e.k]) (l ++ [e]) τ' σ0 → K (.ret (.tup [])) (.obj bj (JC ls n bk d x' y') :: τ')) (h2 : roomF d op.length 0 = false → K (.pan (wrongC 8)) (.obj bj (JC ls n bk d x y) :: τ)) : ACallF κ Tryz.prog 123 [JP bj, EVA e] (.obj bj (JC ls n bk d x y) :: τ) K := by
  refine ACallF.dropL (ACallF_intro Tryz.func123 rfl ?_)
  simp only [Tryz.ntmps123]
  repeat' (first | simp only [WL, WM, Nat.reduceAdd, Nat.reduceSub, Nat.reduceEqDiff, true_and, T3, T62, fR fl41_0, fR fl64_4, cok113, cok162, cok164, Tryz.results123] | (with_reducible first | refine andA (hb := ?_) | refine y_load (hK := ?_) | refine y_loadA (hK := ?_) | refine y_box (hK := fun b => ?_) | refine cD (jRoom hJ hl hd (w := 0) (by omega) (fun h => ?_) (fun h => ?_)) | refine cD (jPut hJ hll (fun y' τ' hJ' => ?_)) | refine cD (jPush (by assumption) ?_ (fun x' τ' hJ' => ?_))) | ((with_reducible refine AW_drawM (id := 3) 5 mixed ?_ ?_); kernel_rfl) | (with_reducible refine dmQ_mk ?_) | omega)
  · exact leafL (sub_cons sub_rfl) (leT_eq rfl) (h1 h _ _ _ (by assumption))
  · exact leafP (sub_cons sub_rfl) rfl (h2 h)
set_option maxHeartbeats 8000000 in
theorem jBegin {bj : Nat} {ls : List Ln} {n d : Int} {bk : Bool} {x y : AV} {op : List Int} {l : List EvV} {ρ τ σ0 : List Res} {e : EvV} [hS : Split σ bj ρ (JC ls n bk d x y) τ] (hJ : JX x y op l τ σ0) (hl : op.length ≤ 1000000000) (hll : l.length ≤ 1000000000) (hd : 0 ≤ d ∧ d ≤ 1000000000)
    (h1 : roomF d op.length 0 = true → ∀ x' y' τ', JX x' y' (op ++ [e.k]) (l ++ [e]) τ' σ0 → K (.ret (.tup [])) (ρ ++ .obj bj (JC ls n bk d x' y') :: τ')) (h2 : roomF d op.length 0 = false → K (.pan (wrongC 8)) σ) : ACallF κ Tryz.prog 123 [JP bj, EVA e] σ K :=
  ACallF.at_ (b := bj) (jBegin0 hJ hl hll hd h1 (fun h => by have := h2 h; rwa [hS.is] at this))
set_option maxHeartbeats 8000000 in
theorem jEnd0 {bj : Nat} {ls : List Ln} {n d : Int} {bk : Bool} {x y : AV} {op : List Int} {l : List EvV} {τ σ0 : List Res} {e k : Int} (hJ : JX x y (op ++ [e]) l τ σ0) (hl : op.length ≤ 1000000000) (hll : l.length ≤ 1000000000)
    (h1 : ∀ x' y' τ', JX x' y' op (l ++ [⟨k, .empty, .empty, .empty, 0, false⟩]) τ' σ0 → K (.ret (.tup [])) (.obj bj (JC ls n bk d x' y') :: τ')) : ACallF κ Tryz.prog 126 [JP bj, I k] (.obj bj (JC ls n bk d x y) :: τ) K := by
  refine ACallF.dropL (ACallF_intro Tryz.func126 rfl ?_)
  simp only [Tryz.ntmps126]
  repeat' (first | simp only [WL, WM, Nat.reduceAdd, Nat.reduceSub, Nat.reduceEqDiff, true_and, T62, fR fl64_4, cok113, cok165, Tryz.results126] | (with_reducible first | refine andA (hb := ?_) | refine y_build (hK := ?_) | refine cD (jPutV hJ hll (fun y' τ' hJ' => ?_)) | refine cD (jDrop hJ' hl (fun x'' τ'' hJ'' => ?_))))
  all_goals exact leafL sub_rfl (leT_eq rfl) (h1 _ _ _ (by assumption))
set_option maxHeartbeats 8000000 in
theorem jEnd {bj : Nat} {ls : List Ln} {n d : Int} {bk : Bool} {x y : AV} {op : List Int} {l : List EvV} {ρ τ σ0 : List Res} {e k : Int} [hS : Split σ bj ρ (JC ls n bk d x y) τ] (hJ : JX x y (op ++ [e]) l τ σ0) (hl : op.length ≤ 1000000000) (hll : l.length ≤ 1000000000)
    (h1 : ∀ x' y' τ', JX x' y' op (l ++ [⟨k, .empty, .empty, .empty, 0, false⟩]) τ' σ0 → K (.ret (.tup [])) (ρ ++ .obj bj (JC ls n bk d x' y') :: τ')) : ACallF κ Tryz.prog 126 [JP bj, I k] σ K :=
  ACallF.at_ (b := bj) (jEnd0 hJ hl hll h1)
set_option maxHeartbeats 8000000 in
theorem jInBlockH {bj ix : Nat} {ls : List Ln} {n d : Int} {bk : Bool} {x y : AV} {op : List Int} {ρx : List Res} [hH : Hold σ bj ix (JC ls n bk d x y)] (hR : RowR 1 x (op.map I) ρx) (hl : op.length ≤ 1000000000)
    (hK : K (.ret (B (bk && decide (op.length = 0)))) σ) : ACallF κ Tryz.prog 85 [JP bj] σ K := by
  refine ACallF.dropL (ACallF_intro Tryz.func85 rfl ?_)
  simp only [Tryz.ntmps85]
  repeat' (first | simp only [WL, intF, WM, reduceCtorEq, WLb, Nat.reduceAdd, Nat.reduceSub, Nat.reduceEqDiff, Bool.not_true, true_and, reduceIte, Bool.false_eq_true, T4, T62, fR fl64_2, fR fl64_4, cok129, Tryz.results85] | (with_reducible first | refine andA (hb := ?_) | refine y_load (hK := ?_) | refine cD (jLen0 hR hl ?_)) | ((with_reducible first | refine grd_cases (fun h => ?_) (fun h => ?_) | refine condC_split (fun h => ?_) (fun h => ?_)) <;> (try simp only [h]) <;> (try simp only [NR_, NRb] at h)))
  all_goals exact leafL sub_rfl (leT_eq (congrArg B (by first | (rw [len0_beq]; simp [*]; done) | simp [*]))) hK
set_option maxHeartbeats 8000000 in
theorem JX.row {x y : AV} {op : List Int} {l : List EvV} {τ σ0 : List Res} (h : JX x y op l τ σ0) : ∃ ρx, RowR 1 x (op.map I) ρx := by
  obtain ⟨ρx, _, h1, _⟩ := h; exact ⟨ρx, h1⟩
set_option maxHeartbeats 8000000 in
theorem jInBlock {bj : Nat} {ls : List Ln} {n d : Int} {bk : Bool} {x y : AV} {op : List Int} {l : List EvV} {ρ τ σ0 : List Res} [hS : Split σ bj ρ (JC ls n bk d x y) τ] (hJ : JX x y op l τ σ0) (hl : op.length ≤ 1000000000)
    (hK : K (.ret (B (bk && decide (op.length = 0)))) σ) : ACallF κ Tryz.prog 85 [JP bj] σ K := by
  haveI hH := split_hold hS
  obtain ⟨ρx, hR⟩ := hJ.row
  exact jInBlockH hR hl hK
abbrev TrA (v : TrV) : AV := .agg (TrC v)
set_option maxHeartbeats 8000000 in
theorem jEmpty0 {bj : Nat} {ls : List Ln} {n d : Int} {bk : Bool} {x y : AV} {op : List Int} {l : List EvV} {τ σ0 : List Res} {v : TrV} (hJ : JX x y op l τ σ0) (hll : l.length ≤ 1000000000)
    (h1 : ∀ y' τ', JX x y' op (l ++ [⟨7, .empty, v.t, v.a, 1, false⟩]) τ' σ0 → K (.ret (.tup [])) (.obj bj (JC ls n bk d x y') :: τ')) : ACallF κ Tryz.prog 87 [JP bj, TrA v] (.obj bj (JC ls n bk d x y) :: τ) K := by
  refine ACallF.dropL (ACallF_intro Tryz.func87 rfl ?_)
  simp only [Tryz.ntmps87]
  repeat' (first | simp only [WL, WM, Nat.reduceAdd, Nat.reduceSub, Nat.reduceEqDiff, true_and, T9, fR fl133_0, fR fl133_1, cok113, Tryz.results87] | (with_reducible first | refine andA (hb := ?_) | refine y_load (hK := ?_) | refine y_box (hK := fun b => ?_) | refine y_build (hK := ?_) | refine cD (jPutV hJ hll (fun y' τ' hJ' => ?_))))
  all_goals exact leafL (sub_cons sub_rfl) (leT_eq rfl) (h1 _ _ (by assumption))
set_option maxHeartbeats 8000000 in
theorem jEmpty {bj : Nat} {ls : List Ln} {n d : Int} {bk : Bool} {x y : AV} {op : List Int} {l : List EvV} {ρ τ σ0 : List Res} {v : TrV} [hS : Split σ bj ρ (JC ls n bk d x y) τ] (hJ : JX x y op l τ σ0) (hll : l.length ≤ 1000000000)
    (h1 : ∀ y' τ', JX x y' op (l ++ [⟨7, .empty, v.t, v.a, 1, false⟩]) τ' σ0 → K (.ret (.tup [])) (ρ ++ .obj bj (JC ls n bk d x y') :: τ')) : ACallF κ Tryz.prog 87 [JP bj, TrA v] σ K :=
  ACallF.at_ (b := bj) (jEmpty0 hJ hll h1)
set_option maxHeartbeats 8000000 in
theorem jScalar0 {bj : Nat} {ls : List Ln} {n d : Int} {bk : Bool} {x y : AV} {op : List Int} {l : List EvV} {τ σ0 : List Res} {v : TrV} {t : List Int} {s : Int} (hJ : JX x y op l τ σ0) (hll : l.length ≤ 1000000000) (ht : t.length ≤ 1000000000)
    (h1 : ∀ y' τ', JX x y' op (l ++ [⟨7, textI t, v.t, v.a, s, false⟩]) τ' σ0 → K (.ret (.tup [])) (.obj bj (JC ls n bk d x y') :: τ')) : ACallF κ Tryz.prog 119 [JP bj, SI o t, I s, TrA v] (.obj bj (JC ls n bk d x y) :: τ) K := by
  refine ACallF.dropL (ACallF_intro Tryz.func119 rfl ?_)
  simp only [Tryz.ntmps119]
  repeat' (first | simp only [WL, WM, Nat.reduceAdd, Nat.reduceSub, Nat.reduceEqDiff, true_and, convC_sl, T9, fR fl133_0, fR fl133_1, cok113, cok155, Tryz.results119] | (with_reducible first | refine andA (hb := ?_) | refine y_load (hK := ?_) | refine y_box (hK := fun b => ?_) | refine y_build (hK := ?_) | refine y_bytes ?_ | refine cD (jPutV hJ hll (fun y' τ' hJ' => ?_)) | refine cQ (uBytes ?_ isR_mk) ?_) | ((with_reducible refine AW_drawM (id := 1) 10 mixed ?_ ?_); kernel_rfl) | (with_reducible refine dmQ_mk ?_) | omega)
  all_goals exact leafL (sub_cons sub_rfl) (leT_eq rfl) (h1 _ _ (by assumption))
set_option maxHeartbeats 8000000 in
theorem jScalar {bj : Nat} {ls : List Ln} {n d : Int} {bk : Bool} {x y : AV} {op : List Int} {l : List EvV} {ρ τ σ0 : List Res} {v : TrV} {t : List Int} {s : Int} [hS : Split σ bj ρ (JC ls n bk d x y) τ] (hJ : JX x y op l τ σ0) (hll : l.length ≤ 1000000000) (ht : t.length ≤ 1000000000)
    (h1 : ∀ y' τ', JX x y' op (l ++ [⟨7, textI t, v.t, v.a, s, false⟩]) τ' σ0 → K (.ret (.tup [])) (ρ ++ .obj bj (JC ls n bk d x y') :: τ')) : ACallF κ Tryz.prog 119 [JP bj, SI o t, I s, TrA v] σ K :=
  ACallF.at_ (b := bj) (jScalar0 hJ hll ht h1)
set_option maxHeartbeats 8000000 in
theorem blankAt_past {ls : List Ln} {p : Int × Int} : blankAt (pastF ls p).2 = false := by
  unfold pastF blankAt
  dsimp only
  generalize restF ls (p.1, colF ls p) = l
  induction l with
  | nil => rfl
  | cons c l ih =>
    unfold blN at ih ⊢
    rw [List.takeWhile_cons]
    split
    · simpa using ih
    · rename_i h; simp [h]
set_option maxHeartbeats 8000000 in
theorem colF_ge {ls : List Ln} {p : Int × Int} : p.2 ≤ colF ls p := by unfold colF; split <;> omega
set_option maxHeartbeats 8000000 in
theorem restF_add {ls : List Ln} {p : Int × Int} {k : Nat} (hs : Small ls) (h : k < (restF ls p).length) (h1 : (ls.getD p.1.toNat (0, [])).1 ≤ p.2) : restF ls (p.1, p.2 + k) = (restF ls p).drop k := by
  have h0 := restF_some hs (Nat.lt_of_le_of_lt (Nat.zero_le _) h)
  have ha := hs.at_ (i := p.1.toNat) (by omega)
  rw [restF_in (by omega) (by omega) (by omega), if_neg (by omega), List.length_drop] at h
  rw [restF_in (p := p) (by omega) (by omega) (by omega), if_neg (by omega), restF_in (by dsimp only; omega) (by dsimp only; omega) (by dsimp only; omega), if_neg (by dsimp only; omega), List.drop_drop]
  congr 1
  dsimp only
  omega
set_option maxHeartbeats 8000000 in
theorem past_rest {ls : List Ln} {p : Int × Int} (hs : Small ls) (h : 0 < (pastF ls p).2.length) : restF ls (pastF ls p).1 = (pastF ls p).2 := by
  unfold pastF at h ⊢
  dsimp only at h ⊢
  rw [List.length_drop] at h
  have h0 := restF_some (p := (p.1, colF ls p)) hs (by omega)
  dsimp only at h0
  refine restF_add (p := (p.1, colF ls p)) hs (by omega) ?_
  dsimp only
  unfold colF
  rw [if_pos (by omega)]
  omega
def Le2 (p q : Int × Int) : Prop := p.1 < q.1 ∨ (p.1 = q.1 ∧ p.2 ≤ q.2)
set_option maxHeartbeats 8000000 in
theorem Le2.rfl_ {p : Int × Int} : Le2 p p := .inr ⟨rfl, Int.le_refl _⟩
set_option maxHeartbeats 8000000 in
theorem Le2.trans {p q r : Int × Int} (h1 : Le2 p q) (h2 : Le2 q r) : Le2 p r := by unfold Le2 at *; omega
set_option maxHeartbeats 8000000 in
theorem placesN_facts {ls : List Ln} (hs : Small ls) : ∀ {m : Nat} {p : Int × Int} {q : Int × Int}, (q, true) ∈ placesN ls m p → Le2 p q ∧ 0 < (restF ls q).length ∧ blankAt (restF ls q) = false
  | 0, p, q, h => by
    have e : (q, true) = someF ls p := by simpa [placesN] using h
    exact this_ e
  | m + 1, p, q, h => by
    rcases List.mem_cons.1 h with e | h
    · exact this_ e
    · split at h
      · cases h
      · obtain ⟨h1, h2⟩ := placesN_facts hs h
        refine ⟨?_, h2⟩
        unfold Le2 at h1 ⊢
        dsimp only at h1
        omega
where
  this_ {p q : Int × Int} (e : (q, true) = someF ls p) : Le2 p q ∧ 0 < (restF ls q).length ∧ blankAt (restF ls q) = false := by
    unfold someF at e
    obtain ⟨e1, e2⟩ := Prod.mk.inj e
    subst e1
    have h0 : 0 < (pastF ls p).2.length := by
      have := e2.symm
      simp only [Bool.and_eq_true, decide_eq_true_eq] at this
      exact this.1
    rw [past_rest hs h0]
    refine ⟨.inr ⟨rfl, ?_⟩, h0, blankAt_past⟩
    have := colF_ge (ls := ls) (p := p)
    unfold pastF
    dsimp only
    omega
set_option maxHeartbeats 8000000 in
theorem onL_mem {ls : List Ln} {n l0 : Int} {q : Int × Int} : ∀ {l : List ((Int × Int) × Bool)}, onL ls n l0 l = some (some q) → (q, true) ∈ l
  | [], h => by simp [onL] at h
  | (q', s) :: l, h => by
    unfold onL at h
    cases s
    · exact List.mem_cons_of_mem _ (onL_mem h)
    · simp only [if_true] at h
      split at h
      · cases h
      · cases h; exact List.mem_cons_self
set_option maxHeartbeats 8000000 in
theorem onF_q {ls : List Ln} {n : Int} {p q : Int × Int} (hs : Small ls) (h : onF ls n p = some (some q)) : Le2 p q ∧ 0 < (restF ls q).length ∧ blankAt (restF ls q) = false :=
  placesN_facts hs (onL_mem h)
def Pl (ls : List Ln) (p : Int × Int) : Prop := 0 ≤ p.1 ∧ p.1 < ls.length ∧ 0 ≤ p.2 ∧ p.2 ≤ 4000
set_option maxHeartbeats 8000000 in
theorem Pl.of_rest {ls : List Ln} {p : Int × Int} (hs : Small ls) (h : 0 < (restF ls p).length) : Pl ls p := by
  have := restF_some hs h
  unfold Pl; omega
set_option maxHeartbeats 8000000 in
theorem Pl.behind {ls : List Ln} {p : Int × Int} {n : Int} (hs : Small ls) (h0 : 0 < (restF ls p).length) (h : 0 ≤ n ∧ n ≤ (restF ls p).length) : Pl ls (p.1, p.2 + n) := by
  have := restF_some hs h0
  unfold Pl; dsimp only; omega
set_option maxHeartbeats 8000000 in
theorem tagI_len (l : List Int) : (tagI l).2.1 ≤ l.length := by
  unfold tagI
  split
  · show (0 : Int) ≤ _; omega
  · rename_i h0
    have h1 := (atI_lt (by simpa using h0)).1
    split
    · unfold wholeI
      split
      · show (0 : Int) ≤ _; omega
      · rename_i h
        have := (atI_lt (l := l) (i := uriN anyC (l.drop 2) + 2) (c := 62) (by cases e : atI l (uriN anyC (l.drop 2) + 2) 62 <;> simp_all)).1
        dsimp only; omega
    · unfold shortI
      have h2 := uriN_le shortC (l.drop (max (handleN l) 1))
      have h3 := handleN_le l
      rw [List.length_drop] at h2
      split
      · show (0 : Int) ≤ _; omega
      · dsimp only; omega
set_option maxHeartbeats 8000000 in
theorem text_some {l : List Int} (h : 0 < l.length) : emptyS (textI l) = false := by
  cases l with
  | nil => simp at h
  | cons c l =>
    unfold emptyS
    rw [beq_eq_false_iff_ne]
    intro e
    have h2 := congrArg List.length (bytesI_text (c :: l))
    rw [bytes_eq e] at h2
    have h1 := (encC_len c).1
    simp only [encL, List.flatMap_cons, List.length_append] at h2
    have h3 : (bytesI (ByteArray.mk #[])).length = 0 := rfl
    omega
where
  bytes_eq {a b : ByteArray} (h : a.toList = b.toList) : a = b := by
    rw [ByteArray.toList_eq, ByteArray.toList_eq] at h
    exact ByteArray.ext (Array.toList_inj.mp h)
set_option maxHeartbeats 8000000 in
theorem anchor_some {l : List Int} (h : (anchorI l).2.2 = true) : emptyS (anchorI l).1 = false := by
  have h1 : 0 < cnt nameI l := of_decide_eq_true h
  have := cnt_le nameI l
  exact text_some (by rw [List.length_take]; omega)
set_option maxHeartbeats 8000000 in
theorem tag_some {l : List Int} (h : (tagI l).2.2 = true) : emptyS (tagI l).1 = false := by
  unfold tagI at h ⊢
  split at h
  · cases h
  · rename_i h0
    have h1 := (atI_lt (by simpa using h0)).1
    rw [if_neg h0]
    split at h
    · rename_i h2
      rw [if_pos h2]
      unfold wholeI at h ⊢
      split at h
      · cases h
      · rename_i h3
        rw [if_neg h3]
        have h4 : ¬ uriN anyC (l.drop 2) = 0 := fun e => h3 (.inl e)
        refine text_some ?_
        rw [List.length_drop, List.length_take]
        have := uriN_le anyC (l.drop 2)
        rw [List.length_drop] at this
        omega
    · rename_i h2
      rw [if_neg h2]
      unfold shortI at h ⊢
      split at h
      · cases h
      · rename_i h3
        rw [if_neg h3]
        exact text_some (by rw [List.length_take]; omega)
set_option maxHeartbeats 8000000 in
theorem tag_pos {l : List Int} (h : (tagI l).2.2 = true) : 0 < (tagI l).2.1 := by
  unfold tagI at h ⊢
  split at h
  · cases h
  · rename_i h0
    rw [if_neg h0]
    split at h
    · rename_i h2
      rw [if_pos h2]
      unfold wholeI at h ⊢
      split at h
      · cases h
      · rename_i h3; rw [if_neg h3]; dsimp only; omega
    · rename_i h2
      rw [if_neg h2]
      unfold shortI at h ⊢
      split at h
      · cases h
      · rename_i h3; rw [if_neg h3]; dsimp only; omega
def emN (v : TrV) : Nat := (emptyS v.a).toNat + (emptyS v.t).toNat
set_option maxHeartbeats 8000000 in
theorem emN_le (v : TrV) : emN v ≤ 2 := by
  unfold emN
  cases emptyS v.a <;> cases emptyS v.t <;> decide
set_option maxHeartbeats 8000000 in
theorem trait_em {ls : List Ln} {p : Int × Int} {v v' : TrV} (h : traitF ls p v = some (some v')) : emN v' < emN v := by
  unfold traitF at h
  split at h
  · split at h
    · rename_i h1
      simp only [Bool.and_eq_true] at h1
      cases h
      unfold emN
      dsimp only
      rw [anchor_some h1.1.2, h1.1.1]
      simp
    · cases h
  · split at h
    · split at h
      · rename_i h1
        simp only [Bool.and_eq_true] at h1
        cases h
        unfold emN
        dsimp only
        rw [tag_some h1.1.2, h1.1.1]
        simp
      · cases h
    · cases h
set_option maxHeartbeats 8000000 in
theorem trait_pl {ls : List Ln} {p : Int × Int} {v v' : TrV} (hs : Small ls) (h : traitF ls p v = some (some v')) : 0 < (restF ls p).length ∧ v'.q.1 = p.1 ∧ p.2 < v'.q.2 ∧ v'.q.2 ≤ p.2 + (restF ls p).length := by
  have h9 : ∀ c, headF (restF ls p) c = true → 0 < (restF ls p).length := fun c h => by
    unfold headF at h; simp only [Bool.and_eq_true, decide_eq_true_eq] at h; exact h.1
  unfold traitF at h
  split at h
  · rename_i h0
    have h0 := h9 _ h0
    split at h
    · cases h
      have h1 : (anchorI ((restF ls p).drop 1)).2.1 = (cnt nameI ((restF ls p).drop 1) : Nat) := rfl
      have := cnt_le nameI ((restF ls p).drop 1)
      rw [List.length_drop] at this
      refine ⟨h0, rfl, ?_, ?_⟩ <;> dsimp only <;> omega
    · cases h
  · split at h
    · rename_i h0
      have h0 := h9 _ h0
      split at h
      · rename_i h1
        cases h
        simp only [Bool.and_eq_true] at h1
        have h2 := tagI_len (restF ls p)
        have h3 := tag_pos h1.1.2
        refine ⟨h0, rfl, ?_, ?_⟩ <;> dsimp only <;> omega
      · cases h
    · cases h
def traitsG (ls : List Ln) (n : Int) : Nat → TrV → Int × Int → Bool → Except Int (TrV × (Int × Int) × Bool)
  | _, v, q, false => .ok (v, q, false)
  | 0, v, q, true => match traitF ls q v with
    | none => .error 2
    | some none => .ok (v, q, true)
    | some (some _) => .error 2
  | f + 1, v, q, true => match traitF ls q v with
    | none => .error 2
    | some none => .ok (v, q, true)
    | some (some v') => match onF ls n v'.q with
      | none => .error 7
      | some none => traitsG ls n f v' (0, 0) false
      | some (some q') => traitsG ls n f v' q' true
abbrev tr0 : TrV := ⟨.empty, .empty, (0, 0)⟩
def traitsF (ls : List Ln) (n : Int) (p : Int × Int) : Except Int (TrV × (Int × Int) × Bool) :=
  match onF ls n p with
  | none => .error 7
  | some none => .ok (tr0, (0, 0), false)
  | some (some q) => traitsG ls n 2 tr0 q true
set_option maxHeartbeats 8000000 in
theorem traitsG_step {ls : List Ln} {n : Int} {q : Int × Int} {v v' : TrV} {f : Nat} (h : traitF ls q v = some (some v')) (hf : emN v ≤ f) : ∃ f', emN v' ≤ f' ∧ traitsG ls n f v q true = match onF ls n v'.q with
      | none => .error 7
      | some none => traitsG ls n f' v' (0, 0) false
      | some (some q') => traitsG ls n f' v' q' true := by
  have h1 := trait_em h
  cases f with
  | zero => omega
  | succ f =>
    refine ⟨f, by omega, ?_⟩
    simp only [traitsG, h]
set_option maxHeartbeats 8000000 in
theorem traitsG_end {ls : List Ln} {n : Int} {q : Int × Int} {v : TrV} {f : Nat} (h : traitF ls q v = some none) : traitsG ls n f v q true = .ok (v, q, true) := by
  cases f <;> simp only [traitsG, h]
set_option maxHeartbeats 8000000 in
theorem traitsG_bad {ls : List Ln} {n : Int} {q : Int × Int} {v : TrV} {f : Nat} (h : traitF ls q v = none) : traitsG ls n f v q true = .error 2 := by
  cases f <;> simp only [traitsG, h]
set_option maxHeartbeats 8000000 in
theorem trait_on {ls : List Ln} {q : Int × Int} {v v' : TrV} (hs : Small ls) (h : traitF ls q v = some (some v')) : 0 ≤ v'.q.1 ∧ v'.q.1 ≤ 1000000000 ∧ In64 v'.q.2 ∧ 0 ≤ v'.q.2 := by
  obtain ⟨h1, h2, h3, h4⟩ := trait_pl hs h
  have h5 := restF_some hs h1
  have := hs.1
  omega
set_option maxHeartbeats 8000000 in
theorem jTraitS {bj bt ix : Nat} {ls : List Ln} {n d : Int} {bk : Bool} {x y : AV} {p : Int × Int} {v : TrV} {ρ τ : List Res} [hS : Split σ bt ρ (TrC v) τ] [hJ : Hold τ bj ix (JC ls n bk d x y)] (hs : Small ls) (hp : In64 p.1 ∧ In64 p.2)
    (h1 : ∀ v', traitF ls p v = some (some v') → K (.ret (B true)) (ρ ++ .obj bt (TrC v') :: τ)) (h2 : traitF ls p v = some none → K (.ret (B false)) (ρ ++ .obj bt (TrC v) :: τ)) (h3 : ∀ cs, traitF ls p v = none → K (.pan (wrongC 2)) (ρ ++ .obj bt cs :: τ)) : ACallF κ Tryz.prog 109 [JP bj, PLA p, JP bt] σ K :=
  ACallF.at_ (b := bt) (jTrait hs hp h1 h2 h3)
set_option maxHeartbeats 8000000 in
theorem jTraits {bj ix : Nat} {ls : List Ln} {n d : Int} {bk : Bool} {x y : AV} [hJ : Hold σ bj ix (JC ls n bk d x y)] {p : Int × Int} (hs : Small ls) (hp : 0 ≤ p.1 ∧ p.1 ≤ 1000000000 ∧ In64 p.2 ∧ 0 ≤ p.2)
    (h1 : ∀ v q ok, traitsF ls n p = .ok (v, q, ok) → K (.ret (.tup [TrA v, PLA q, B ok])) σ) (h2 : ∀ e, traitsF ls n p = .error e → K (.pan (wrongC e)) σ) : ACallF κ Tryz.prog 78 [JP bj, PLA p] σ K := by
  refine ACallF.dropL (ACallF_intro Tryz.func78 rfl ?_)
  simp only [Tryz.ntmps78]
  repeat' (first | simp only [WL, WM, Nat.reduceAdd, Nat.reduceSub, Nat.reduceLT, true_and, cok108] | (with_reducible first | refine y_loadA (hK := ?_) | refine y_storeA (hK := ?_) | refine y_box (hK := fun b => ?_) | refine y_new (hK := fun b => ?_) | refine cD (jOn hs hp (fun q hq => ?_) (fun hq => ?_) (fun hq => ?_))))
  ·
    rename_i c3 c4 c5 c7
    refine loop_by (fun z : TrV × (Int × Int) × Bool => ⟨(JP bj :: PLA p :: .any :: JP c3 :: JP c4 :: JP c5 :: B false :: JP c7 :: JP b :: B z.2.2 :: .any :: .any :: .any :: .any :: .any :: .any :: .any :: .any :: .any :: .any :: .any :: .any :: .any :: .any :: .any :: .any :: .any :: .any :: .any :: .any :: .any :: .any :: []), .obj b [I z.2.1.1, I z.2.1.2] :: .obj c7 (TrC z.1) :: .obj c5 [I 0, I 0] :: .obj c4 (TrC tr0) :: .obj c3 [I p.1, I p.2] :: σ, true, []⟩) (fun z => ∃ f, emN z.1 ≤ f ∧ traitsF ls n p = traitsG ls n f z.1 z.2.1 z.2.2 ∧ (z.2.2 = true → 0 < (restF ls z.2.1).length)) (fun z => emN z.1) (tr0, q, true) (St_le_same (by repeat (first | exact trivial | refine ⟨le_rfl, ?_⟩ | refine ⟨le_any, ?_⟩ | refine ⟨le_ro, ?_⟩ | refine ⟨le_nil (by decide), ?_⟩ | refine ⟨le_wrap (by omega) (by omega) (by omega), ?_⟩ | refine ⟨le_int (by omega), ?_⟩ | refine ⟨le_eq (by simp), ?_⟩)) id) ⟨2, emN_le _, by unfold traitsF; rw [hq], fun _ => (onF_q hs hq).2.1⟩ ?_
    rintro ⟨v, q', ok⟩ ⟨f, hf, hR, hq0⟩
    dsimp only at hf hR hq0 ⊢
    cases ok
    · skip
      repeat' (first | ( ((with_reducible refine AW_phS2 (id := 5) [0, 1, 2] (some 3) [([], some 4), ([5], none)] mixed ?_ ?_); kernel_rfl)) | ( with_reducible refine phQ_mk (has2 (by first | (simp; done) | fail) (by first | (simp; done) | fail)) ?_) | simp only [WL, WM, Nat.reduceAdd, true_and, reduceIte, Bool.false_eq_true, Tryz.results78] | (with_reducible first | refine y_loadA (hK := ?_) | refine y_storeA (hK := ?_)) | ((with_reducible refine resL_id ?_); apply res_cct (hf := Tryz.results78); exact y_load2; exact y_load2) | ((with_reducible apply phE_intro); intro σq hq) | (with_reducible exact isT_mk) | ((with_reducible apply phC_ops); rfl; rfl))
      cases f <;> exact leafL (sub_cons (sub_cons (sub_cons (sub_cons (sub_cons sub_rfl))))) (leT_eq rfl) (h1 _ _ _ hR)
    · have hpl := Pl.of_rest hs (hq0 rfl)
      unfold Pl at hpl
      have hl := hs.1
      repeat' (first | ( ((with_reducible refine AW_phS2 (id := 5) [0, 1, 2] (some 3) [([], some 4), ([5], none)] mixed ?_ ?_); kernel_rfl)) | ( with_reducible refine phQ_mk (has2 (by first | (simp; done) | fail) (by first | (simp; done) | fail)) ?_) | simp only [WL, WM, Nat.reduceAdd, Nat.reduceLT, Nat.reduceEqDiff, true_and, reduceIte, T67, fR fl133_2, cok108, cok109, Tryz.results78] | (with_reducible first | refine andA (hb := ?_) | refine y_loadA (hK := ?_) | refine y_storeA (hK := ?_) | refine cD (jTraitS (p := q') hs ⟨by omega, by omega⟩ (fun v' hv => ?_) (fun hv => ?_) (fun cs hv => ?_)) | refine cD (jOn hs (trait_on hs hv) (fun q2 hq2 => ?_) (fun hq2 => ?_) (fun hq2 => ?_))) | ((with_reducible refine resL_id ?_); apply res_cct (hf := Tryz.results78); exact y_load2; exact y_load2) | ((with_reducible apply phE_intro); intro σq hq) | (with_reducible exact isT_mk) | ((with_reducible apply phC_ops); rfl; rfl))
      all_goals first
        | exact leafL (sub_cons (sub_cons (sub_cons (sub_cons (sub_cons sub_rfl))))) (leT_eq rfl) (h1 _ _ _ (hR.trans (traitsG_end hv)))
        | exact leafP (sub_cons (sub_cons (sub_cons (sub_cons (sub_cons sub_rfl))))) rfl (h2 2 (hR.trans (traitsG_bad hv)))
        | skip
      all_goals
        have hem := trait_em hv
        obtain ⟨f', hf', hstep⟩ := traitsG_step (n := n) hv hf
        rw [hq2] at hstep
        first
          | exact ⟨(v', q2, true), St_le_same (by repeat (first | exact trivial | refine ⟨le_rfl, ?_⟩ | refine ⟨le_any, ?_⟩ | refine ⟨le_ro, ?_⟩ | refine ⟨le_nil (by decide), ?_⟩ | refine ⟨le_wrap (by omega) (by omega) (by omega), ?_⟩ | refine ⟨le_int (by omega), ?_⟩ | refine ⟨le_eq (by simp), ?_⟩)) id, ⟨f', hf', hR.trans hstep, fun _ => (onF_q hs hq2).2.1⟩, hem⟩
          | exact ⟨(v', (0, 0), false), St_le_same (by repeat (first | exact trivial | refine ⟨le_rfl, ?_⟩ | refine ⟨le_any, ?_⟩ | refine ⟨le_ro, ?_⟩ | refine ⟨le_nil (by decide), ?_⟩ | refine ⟨le_wrap (by omega) (by omega) (by omega), ?_⟩ | refine ⟨le_int (by omega), ?_⟩ | refine ⟨le_eq (by simp), ?_⟩)) id, ⟨f', hf', hR.trans hstep, fun h => by cases h⟩, hem⟩
          | exact leafP (sub_cons (sub_cons (sub_cons (sub_cons (sub_cons sub_rfl))))) rfl (h2 7 (hR.trans hstep))
          | trace_state
  ·
    rename_i c3 c4 c5 c7
    refine loop_by (fun z : TrV × (Int × Int) × Bool => ⟨(JP bj :: PLA p :: .any :: JP c3 :: JP c4 :: JP c5 :: B false :: JP c7 :: JP b :: B z.2.2 :: .any :: .any :: .any :: .any :: .any :: .any :: .any :: .any :: .any :: .any :: .any :: .any :: .any :: .any :: .any :: .any :: .any :: .any :: .any :: .any :: .any :: .any :: []), .obj b [I z.2.1.1, I z.2.1.2] :: .obj c7 (TrC z.1) :: .obj c5 [I 0, I 0] :: .obj c4 (TrC tr0) :: .obj c3 [I p.1, I p.2] :: σ, true, []⟩) (fun z => ∃ f, emN z.1 ≤ f ∧ traitsF ls n p = traitsG ls n f z.1 z.2.1 z.2.2 ∧ (z.2.2 = true → 0 < (restF ls z.2.1).length)) (fun z => emN z.1) (tr0, (0, 0), false) (St_le_same (by repeat (first | exact trivial | refine ⟨le_rfl, ?_⟩ | refine ⟨le_any, ?_⟩ | refine ⟨le_ro, ?_⟩ | refine ⟨le_nil (by decide), ?_⟩ | refine ⟨le_wrap (by omega) (by omega) (by omega), ?_⟩ | refine ⟨le_int (by omega), ?_⟩ | refine ⟨le_eq (by simp), ?_⟩)) id) ⟨2, emN_le _, by unfold traitsF; rw [hq]; rfl, fun h => by cases h⟩ ?_
    rintro ⟨v, q', ok⟩ ⟨f, hf, hR, hq0⟩
    dsimp only at hf hR hq0 ⊢
    cases ok
    · skip
      repeat' (first | ( ((with_reducible refine AW_phS2 (id := 5) [0, 1, 2] (some 3) [([], some 4), ([5], none)] mixed ?_ ?_); kernel_rfl)) | ( with_reducible refine phQ_mk (has2 (by first | (simp; done) | fail) (by first | (simp; done) | fail)) ?_) | simp only [WL, WM, Nat.reduceAdd, true_and, reduceIte, Bool.false_eq_true, Tryz.results78] | (with_reducible first | refine y_loadA (hK := ?_) | refine y_storeA (hK := ?_)) | ((with_reducible refine resL_id ?_); apply res_cct (hf := Tryz.results78); exact y_load2; exact y_load2) | ((with_reducible apply phE_intro); intro σq hq) | (with_reducible exact isT_mk) | ((with_reducible apply phC_ops); rfl; rfl))
      cases f <;> exact leafL (sub_cons (sub_cons (sub_cons (sub_cons (sub_cons sub_rfl))))) (leT_eq rfl) (h1 _ _ _ hR)
    · have hpl := Pl.of_rest hs (hq0 rfl)
      unfold Pl at hpl
      have hl := hs.1
      repeat' (first | ( ((with_reducible refine AW_phS2 (id := 5) [0, 1, 2] (some 3) [([], some 4), ([5], none)] mixed ?_ ?_); kernel_rfl)) | ( with_reducible refine phQ_mk (has2 (by first | (simp; done) | fail) (by first | (simp; done) | fail)) ?_) | simp only [WL, WM, Nat.reduceAdd, Nat.reduceLT, Nat.reduceEqDiff, true_and, reduceIte, T67, fR fl133_2, cok108, cok109, Tryz.results78] | (with_reducible first | refine andA (hb := ?_) | refine y_loadA (hK := ?_) | refine y_storeA (hK := ?_) | refine cD (jTraitS (p := q') hs ⟨by omega, by omega⟩ (fun v' hv => ?_) (fun hv => ?_) (fun cs hv => ?_)) | refine cD (jOn hs (trait_on hs hv) (fun q2 hq2 => ?_) (fun hq2 => ?_) (fun hq2 => ?_))) | ((with_reducible refine resL_id ?_); apply res_cct (hf := Tryz.results78); exact y_load2; exact y_load2) | ((with_reducible apply phE_intro); intro σq hq) | (with_reducible exact isT_mk) | ((with_reducible apply phC_ops); rfl; rfl))
      all_goals first
        | exact leafL (sub_cons (sub_cons (sub_cons (sub_cons (sub_cons sub_rfl))))) (leT_eq rfl) (h1 _ _ _ (hR.trans (traitsG_end hv)))
        | exact leafP (sub_cons (sub_cons (sub_cons (sub_cons (sub_cons sub_rfl))))) rfl (h2 2 (hR.trans (traitsG_bad hv)))
        | skip
      all_goals
        have hem := trait_em hv
        obtain ⟨f', hf', hstep⟩ := traitsG_step (n := n) hv hf
        rw [hq2] at hstep
        first
          | exact ⟨(v', q2, true), St_le_same (by repeat (first | exact trivial | refine ⟨le_rfl, ?_⟩ | refine ⟨le_any, ?_⟩ | refine ⟨le_ro, ?_⟩ | refine ⟨le_nil (by decide), ?_⟩ | refine ⟨le_wrap (by omega) (by omega) (by omega), ?_⟩ | refine ⟨le_int (by omega), ?_⟩ | refine ⟨le_eq (by simp), ?_⟩)) id, ⟨f', hf', hR.trans hstep, fun _ => (onF_q hs hq2).2.1⟩, hem⟩
          | exact ⟨(v', (0, 0), false), St_le_same (by repeat (first | exact trivial | refine ⟨le_rfl, ?_⟩ | refine ⟨le_any, ?_⟩ | refine ⟨le_ro, ?_⟩ | refine ⟨le_nil (by decide), ?_⟩ | refine ⟨le_wrap (by omega) (by omega) (by omega), ?_⟩ | refine ⟨le_int (by omega), ?_⟩ | refine ⟨le_eq (by simp), ?_⟩)) id, ⟨f', hf', hR.trans hstep, fun h => by cases h⟩, hem⟩
          | exact leafP (sub_cons (sub_cons (sub_cons (sub_cons (sub_cons sub_rfl))))) rfl (h2 7 (hR.trans hstep))
          | trace_state
  · exact leafP (sub_cons (sub_cons (sub_cons (sub_cons sub_rfl)))) rfl (h2 7 (by unfold traitsF; rw [hq]))
def signL : List Int := [45, 63, 58, 44, 91, 93, 123, 125, 35, 38, 42, 33, 124, 62, 39, 34, 37, 64, 96]
def signI (c : Int) : Bool := decide (c ∈ signL)
set_option maxHeartbeats 8000000 in
theorem sign_mem {s : ByteArray} (h : bytesI s = signL) (c : Int) : decide (c ∈ bytesI s) = signI c := by rw [h]; rfl
set_option maxHeartbeats 8000000 in
theorem cSign {c : Int} (hK : K (.ret (B (signI c))) σ) : ACallF κ Tryz.prog 128 [I c] σ K := by
  refine ACallF.dropL (ACallF_intro Tryz.func128 rfl ?_)
  simp only [Tryz.ntmps128]
  repeat' (first | simp only [WL, WM, Nat.reduceAdd, Nat.reduceSub, true_and, cok167, Tryz.results128] | with_reducible refine cD (among ?_ ?_))
  · decide
  · exact leafL sub_rfl (leT_eq (congrArg B (sign_mem (by decide) c))) hK
def safeI (c : Int) (fl : Bool) : Bool := printI c && !blankI c && c != 10 && c != 13 && c != 65279 && !(fl && flowI c)
set_option maxHeartbeats 8000000 in
theorem pSafe {c : Int} {fl : Bool} (hK : K (.ret (B (safeI c fl))) σ) : ACallF κ Tryz.prog 166 [I c, B fl] σ K := by
  unfold safeI at hK
  refine ACallF.dropL (ACallF_intro Tryz.func166 rfl ?_)
  simp only [Tryz.ntmps166]
  repeat' (first | simp only [WL, intF, WM, reduceCtorEq, WLb, Nat.reduceAdd, Nat.reduceSub, Bool.not_true, Bool.not_false, true_and, reduceIte, Bool.false_eq_true, cok34, cok148, cok186, Tryz.results166] | (with_reducible first | refine cD (Blank ?_) | refine cD (cFlow ?_) | refine cD (Print ?_)) | ((with_reducible first | refine grd_cases (fun h => ?_) (fun h => ?_) | refine condC_split (fun h => ?_) (fun h => ?_)) <;> (try simp only [h]) <;> (try simp only [NR_, NRb] at h)))
  all_goals exact leafL sub_rfl (leT_eq (congrArg B (by simp [*]))) hK
def safeAt (l : List Int) (i : Nat) (fl : Bool) : Bool := decide (i < l.length) && safeI (l.getD i 0) fl
set_option maxHeartbeats 8000000 in
theorem pSafeAt {l : List Int} {i : Nat} {fl : Bool} (hl : l.length ≤ 1000000000) (hi : i ≤ 1000000000) (hK : K (.ret (B (safeAt l i fl))) σ) : ACallF κ Tryz.prog 127 [SI o l, I i, B fl] σ K := by
  unfold safeAt at hK
  refine ACallF.dropL (ACallF_intro Tryz.func127 rfl ?_)
  simp only [Tryz.ntmps127]
  repeat' (first | simp only [WL, intF, WM, reduceCtorEq, WLb, Nat.reduceAdd, Nat.reduceSub, Bool.not_true, true_and, reduceIte, Bool.false_eq_true, T3, T39, cok166, Tryz.results127] | simp (disch := first | omega | (simp only [LN_]; omega)) only [getI] | (with_reducible first | refine andA (hb := ?_) | refine cD (pSafe ?_)) | ((with_reducible first | refine grd_cases (fun h => ?_) (fun h => ?_) | refine condC_split (fun h => ?_) (fun h => ?_)) <;> (try simp only [h]) <;> (try simp only [NR_, NRb] at h)))
  all_goals exact leafL sub_rfl (leT_eq (congrArg B (by simp; try omega))) hK
def beginsI (l : List Int) (fl : Bool) : Bool :=
  safeAt l 0 fl && (if l.getD 0 0 = 45 ∨ l.getD 0 0 = 63 ∨ l.getD 0 0 = 58 then safeAt l 1 fl else !signI (l.getD 0 0))
set_option maxHeartbeats 8000000 in
theorem safe_lt {l : List Int} {i : Nat} {fl : Bool} (h : safeAt l i fl = true) : i < l.length := by
  unfold safeAt at h
  simp only [Bool.and_eq_true, decide_eq_true_eq] at h
  exact h.1
set_option maxHeartbeats 8000000 in
theorem pBegins {l : List Int} {fl : Bool} (hl : l.length ≤ 1000000000) (hK : K (.ret (B (beginsI l fl))) σ) : ACallF κ Tryz.prog 84 [SI o l, B fl] σ K := by
  unfold beginsI at hK
  cases h0 : safeAt l 0 fl
  · rw [h0] at hK
    refine ACallF.dropL (ACallF_intro Tryz.func84 rfl ?_)
    simp only [Tryz.ntmps84]
    repeat' (first | simp only [WL, WM, Nat.reduceAdd, Nat.reduceSub, Nat.reduceLeDiff, Bool.not_false, true_and, cok127, Tryz.results84, h0] | with_reducible refine cD (pSafeAt (i := 0) ?_ ?_ ?_) | omega)
    all_goals exact leafL sub_rfl (leT_eq rfl) hK
  · rw [h0] at hK
    have h1 := safe_lt h0
    refine ACallF.dropL (ACallF_intro Tryz.func84 rfl ?_)
    simp only [Tryz.ntmps84]
    repeat' (first | simp only [WL, intF, WM, Int.reduceToNat, reduceCtorEq, WLb, Nat.reduceAdd, Nat.reduceSub, Nat.reduceLeDiff, Bool.not_true, true_and, T3, T39, cok127, cok128, Tryz.results84, h0] | simp (disch := first | omega | (simp only [LN_]; omega)) only [getI, getI] | (with_reducible first | refine andA (hb := ?_) | refine cD (pSafeAt (i := 0) ?_ ?_ ?_) | refine cD (pSafeAt (i := 1) ?_ ?_ ?_) | refine cD (cSign ?_)) | ((with_reducible first | refine grd_cases (fun h => ?_) (fun h => ?_) | refine condC_split (fun h => ?_) (fun h => ?_)) <;> (try simp only [h]) <;> (try simp only [NR_, NRb] at h)) | omega)
    all_goals first
      | (rw [if_pos (by first | exact .inl (by assumption) | exact .inr (.inl (by assumption)) | exact .inr (.inr (by assumption)))] at hK; exact leafL sub_rfl (leT_eq rfl) hK)
      | (rw [if_neg (by simp only [*]; decide)] at hK; exact leafL sub_rfl (leT_eq (congrArg B (by simp [*]))) hK)
      | trace_state
def stopC (fl : Bool) (c : Int) : Bool := c == 58 || c == 35 || (fl && flowI c)
set_option maxHeartbeats 8000000 in
theorem stopC_f {fl : Bool} {c : Int} (h1 : ¬ c = 58) (h2 : ¬ c = 35) (h3 : fl = false ∨ flowI c = false) : stopC fl c = false := by
  unfold stopC; rcases h3 with h | h <;> simp [h1, h2, h]
set_option maxHeartbeats 8000000 in
theorem stopC_t {fl : Bool} {c : Int} (h : c = 58 ∨ c = 35 ∨ (fl = true ∧ flowI c = true)) : stopC fl c = true := by
  unfold stopC; rcases h with h | h | ⟨h1, h2⟩ <;> simp [*]
def stopsN (fl : Bool) : Nat → List Int → List Nat
  | _, [] => []
  | i, c :: l => if stopC fl c then i :: stopsN fl (i + 1) l else stopsN fl (i + 1) l
abbrev stopsAt (l : List Int) (fl : Bool) (i : Nat) : List Nat := stopsN fl i (l.drop i)
set_option maxHeartbeats 8000000 in
theorem stops_end {l : List Int} {fl : Bool} {i : Nat} (h : l.length ≤ i) : stopsAt l fl i = [] := by
  rw [stopsAt, List.drop_eq_nil_of_le h]; rfl
set_option maxHeartbeats 8000000 in
theorem stops_in {l : List Int} {fl : Bool} {i : Nat} (h : i < l.length) : stopsAt l fl i = if stopC fl (l.getD i 0) then i :: stopsAt l fl (i + 1) else stopsAt l fl (i + 1) := by
  rw [stopsAt, List.drop_eq_getElem_cons h, List.getD_eq_getElem?_getD, List.getElem?_eq_getElem h]
  rfl
abbrev stopsA (l : List Int) (fl : Bool) (i : Nat) : List (List AV) := (stopsAt l fl i).map fun (i : Nat) => [I i]
set_option maxHeartbeats 8000000 in
theorem pPoints {l : List Int} {fl : Bool} (hK : ∀ b1 b2, K (.ret (.raw (.func (.func 201) #[] #[.pointer (some ⟨b1, 0, none⟩), .pointer (some ⟨b2, 0, none⟩)]))) (.obj b2 [B fl] :: .obj b1 [SI o l] :: σ)) : ACallF κ Tryz.prog 187 [SI o l, B fl] σ K := by
  refine ACallF.dropL (ACallF_intro Tryz.func187 rfl ?_)
  simp only [Tryz.ntmps187]
  repeat' (first | simp only [WL, WM, Nat.reduceAdd, Nat.reduceSub, true_and, Tryz.results187] | with_reducible refine y_box (hK := fun b => ?_))
  exact leafL sub_rfl (leT_eq rfl) (hK _ _)
set_option maxHeartbeats 8000000 in
theorem pPointsIt {b1 b2 L : Nat} {l : List Int} {fl : Bool} (hl : l.length ≤ 1000000000) (hI : Iter κ Tryz.prog L K (stopsA l fl 0) σ) :
    ACallF κ Tryz.prog 201 [.raw (.func (.yield L) #[] #[]), .raw (.pointer (some ⟨b1, 0, none⟩)), .raw (.pointer (some ⟨b2, 0, none⟩))] (.obj b2 [B fl] :: .obj b1 [SI o l] :: σ) K := by
  refine ACallF.dropL (ACallF_intro Tryz.func201 rfl ?_)
  simp only [Tryz.ntmps201]
  repeat' (first | simp only [WL, WM, Nat.reduceAdd, Nat.reduceSub, true_and, T39] | with_reducible refine y_load (hK := ?_))
  refine loop_by (fun x : Nat × List Res => ⟨(.raw (.func (.yield L) #[] #[]) :: .raw (.pointer (some ⟨b1, 0, none⟩)) :: .raw (.pointer (some ⟨b2, 0, none⟩)) :: .any :: .any :: .any :: SI o l :: I l.length :: I x.1 :: .any :: .any :: .any :: .any :: .any :: .any :: .any :: .any :: .any :: .any :: .any :: .any :: .any :: .any :: .any :: .any :: .any :: .any :: .any :: .any :: .any :: .any :: .any :: .any :: []), .obj b2 [B fl] :: .obj b1 [SI o l] :: x.2, true, []⟩) (fun x => x.1 ≤ l.length ∧ Iter κ Tryz.prog L K (stopsA l fl x.1) x.2) (fun x => l.length - x.1) (0, σ) (St_le_same (by repeat (first | exact trivial | refine ⟨le_rfl, ?_⟩ | refine ⟨le_any, ?_⟩ | refine ⟨le_ro, ?_⟩ | refine ⟨le_nil (by decide), ?_⟩ | refine ⟨le_wrap (by omega) (by omega) (by omega), ?_⟩ | refine ⟨le_int (by omega), ?_⟩ | refine ⟨le_eq (by simp), ?_⟩)) id) ⟨Nat.zero_le _, hI⟩ ?_
  rintro ⟨k, σ'⟩ ⟨h1, h2⟩
  dsimp only at h1 h2 ⊢
  rcases Nat.lt_or_ge k l.length with hk | hk
  · rw [stopsA, stops_in hk] at h2
    cases fl
    all_goals
      repeat' (first | simp only [WL, intF, WM, reduceCtorEq, WLb, Nat.reduceAdd, Bool.not_true, Bool.not_false, true_and, reduceIte, Bool.false_eq_true, T3, T39, cok148, Tryz.results201] | simp (disch := first | omega | (simp only [LN_]; omega)) only [wrap_id, getI, getI] | (with_reducible first | refine andA (hb := ?_) | refine y_load (hK := ?_) | refine cD (cFlow ?_)) | ((with_reducible first | refine grd_cases (fun h => ?_) (fun h => ?_) | refine condC_split (fun h => ?_) (fun h => ?_)) <;> (try simp only [h]) <;> (try simp only [NR_, NRb] at h)) | omega)
    all_goals first
      | (rw [stopC_f (by assumption) (by assumption) (by first | exact .inl rfl | exact .inr (by assumption)), if_neg Bool.false_ne_true] at h2
         exact ⟨(k + 1, σ'), St_le_same (by repeat (first | exact trivial | refine ⟨le_rfl, ?_⟩ | refine ⟨le_any, ?_⟩ | refine ⟨le_ro, ?_⟩ | refine ⟨le_nil (by decide), ?_⟩ | refine ⟨le_wrap (by omega) (by omega) (by omega), ?_⟩ | refine ⟨le_int (by omega), ?_⟩ | refine ⟨le_eq (by simp), ?_⟩)) id, ⟨hk, h2⟩, by dsimp only; omega⟩)
      | skip
    all_goals
      rw [stopC_t (by first | exact .inl (by assumption) | exact .inr (.inl (by assumption)) | exact .inr (.inr ⟨rfl, by assumption⟩)), if_pos rfl, List.map_cons] at h2
      refine callYD_iter [.obj b2 [B _], .obj b1 [SI o l]] (leL_one le_rfl) h2 (fun σ3 h => ?_) (fun σ3 h => ?_) (fun c σ3 h => ?_)
      · skip
        repeat' (first | simp only [WL, intF, WM, ne_eq, reduceCtorEq, not_false_eq_true, Bool.not_true, reduceIte] | simp (disch := first | omega | (simp only [LN_]; omega)) only [wrap_id])
        exact ⟨(k + 1, σ3), St_le_same (by repeat (first | exact trivial | refine ⟨le_rfl, ?_⟩ | refine ⟨le_any, ?_⟩ | refine ⟨le_ro, ?_⟩ | refine ⟨le_nil (by decide), ?_⟩ | refine ⟨le_wrap (by omega) (by omega) (by omega), ?_⟩ | refine ⟨le_int (by omega), ?_⟩ | refine ⟨le_eq (by simp), ?_⟩)) id, ⟨hk, h⟩, by dsimp only; omega⟩
      · skip
        repeat' (first | simp only [WL, WM, Bool.not_false, true_and, reduceIte, Tryz.results201])
        exact leafL (sub_cons (sub_cons sub_rfl)) (leT_eq rfl) h
      · skip
        repeat' (first | simp only [WL, WM, true_and])
        exact leafP (sub_cons (sub_cons sub_rfl)) rfl h
  · rw [stopsA, stops_end hk] at h2
    repeat' (first | simp only [WL, intF, WM, reduceCtorEq, WLb, Nat.reduceAdd, Bool.not_true, Bool.not_false, true_and, reduceIte, Bool.false_eq_true, T3, T39, cok148, Tryz.results201] | simp (disch := first | omega | (simp only [LN_]; omega)) only [wrap_id, getI, getI] | (with_reducible first | refine andA (hb := ?_) | refine y_load (hK := ?_) | refine cD (cFlow ?_)) | ((with_reducible first | refine grd_cases (fun h => ?_) (fun h => ?_) | refine condC_split (fun h => ?_) (fun h => ?_)) <;> (try simp only [h]) <;> (try simp only [NR_, NRb] at h)) | omega)
    exact leafL (sub_cons (sub_cons sub_rfl)) (leT_eq rfl) h2
/-- Does a text go on behind a sign? -/
def goesOn (l : List Int) (fl : Bool) (i : Nat) : Bool := (l.getD i 0 == 58 && safeAt l (i + 1) fl) || (l.getD i 0 == 35 && (i == 0 || !blankI (l.getD (i - 1) 0)))
def stopL (l : List Int) (fl : Bool) : List Nat → Nat
  | [] => l.length
  | i :: r => if goesOn l fl i then stopL l fl r else i
/-- Where a text stops. -/
def stopI (l : List Int) (fl : Bool) : Nat := stopL l fl (stopsAt l fl 0)
set_option maxHeartbeats 8000000 in
theorem stopsN_lt {fl : Bool} : ∀ {l : List Int} {i j : Nat}, j ∈ stopsN fl i l → i ≤ j ∧ j < i + l.length
  | [], _, _, h => by cases h
  | c :: l, i, j, h => by
    unfold stopsN at h
    split at h
    · rcases List.mem_cons.1 h with rfl | h
      · simp
      · have := stopsN_lt h; simp only [List.length_cons]; omega
    · have := stopsN_lt h; simp only [List.length_cons]; omega
set_option maxHeartbeats 8000000 in
theorem stopL_le {l : List Int} {fl : Bool} : ∀ {r : List Nat}, (∀ j ∈ r, j < l.length) → stopL l fl r ≤ l.length
  | [], _ => Nat.le_refl _
  | i :: r, h => by
    unfold stopL
    split
    · exact stopL_le (fun j hj => h j (List.mem_cons_of_mem _ hj))
    · exact Nat.le_of_lt (h i List.mem_cons_self)
set_option maxHeartbeats 8000000 in
theorem stopsAt_lt {fl : Bool} {l : List Int} {j : Nat} (h : j ∈ stopsAt l fl 0) : j < l.length := by
  have := stopsN_lt h; simpa using this.2
set_option maxHeartbeats 8000000 in
theorem stopI_le {l : List Int} {fl : Bool} : stopI l fl ≤ l.length := stopL_le (fun _ h => stopsAt_lt h)
set_option maxHeartbeats 8000000 in
theorem goes_t {l : List Int} {fl : Bool} {i : Nat} (h : (l.getD i 0 = 58 ∧ safeAt l (i + 1) fl = true) ∨ (l.getD i 0 = 35 ∧ (i = 0 ∨ blankI (l.getD (i - 1) 0) = false))) : goesOn l fl i = true := by
  unfold goesOn
  rcases h with ⟨h1, h2⟩ | ⟨h1, h2 | h2⟩ <;> rw [h1, h2] <;> simp
set_option maxHeartbeats 8000000 in
theorem goes_f {l : List Int} {fl : Bool} {i : Nat} (h1 : ¬ l.getD i 0 = 58 ∨ safeAt l (i + 1) fl = false) (h2 : ¬ l.getD i 0 = 35 ∨ (¬ i = 0 ∧ blankI (l.getD (i - 1) 0) = true)) : goesOn l fl i = false := by
  unfold goesOn
  rw [Bool.or_eq_false_iff]
  refine ⟨?_, ?_⟩
  · rcases h1 with h | h
    · rw [beq_eq_false_iff_ne.2 h]; rfl
    · rw [h, Bool.and_false]
  · rcases h2 with h | ⟨h, h'⟩
    · rw [beq_eq_false_iff_ne.2 h]; rfl
    · rw [h', beq_eq_false_iff_ne.2 h, Bool.not_true, Bool.or_false, Bool.and_false]
set_option maxHeartbeats 8000000 in
theorem pStop {l : List Int} {fl : Bool} (hl : l.length ≤ 1000000) (hK : K (.ret (I (stopI l fl))) σ) : ACallF κ Tryz.prog 168 [SI o l, B fl] σ K := by
  have hl2 : l.length ≤ 1000000000 := by omega
  refine ACallF.dropL (ACallF_introA Tryz.func168 rfl ?_)
  simp only [Tryz.ntmps168]
  repeat' (first | (with_reducible first | refine AW_block ?_ | refine AW_seqA (AW_seqA ?_) | refine AW_seq ?_ | refine AW_runReg ?_) | simp only [WL, WM, Nat.reduceAdd, Nat.reduceSub, true_and, cok187] | (with_reducible first | refine y_load (hK := ?_) | refine y_box (hK := fun b => ?_) | refine y_new (hK := fun b => ?_) | refine cD (pPoints (fun pb1 pb2 => ?_))))
  rename_i b1 b2
  refine range_by 201 [] [.pointer (some ⟨pb1, 0, none⟩), .pointer (some ⟨pb2, 0, none⟩)] (stopsA l fl 0) [.obj pb2 [B fl], .obj pb1 [SI o l]] (.obj b [I 0] :: .obj b2 [B fl] :: .obj b1 [SI o l] :: σ)
    (fun xs τ => ∃ r : List Nat, xs = r.map (fun (i : Nat) => [I i]) ∧ (∀ i ∈ r, i < l.length) ∧ stopI l fl = stopL l fl r ∧ τ = .obj b [I 0] :: .obj b2 [B fl] :: .obj b1 [SI o l] :: σ)
    rfl cok201 (ResW.refl _) (fun L K σ' h => pPointsIt hl2 h) ⟨stopsAt l fl 0, rfl, fun i h => stopsAt_lt h, rfl, rfl⟩ ?_ ?_
  · rintro τ ⟨r, h1, h2, h3, rfl⟩
    obtain rfl : r = [] := by cases r with
      | nil => rfl
      | cons => simp at h1
    repeat' (first | (with_reducible first | refine AW_seq ?_ | refine AW_runRet ?_) | simp only [WL, WM, true_and, T39, Tryz.results168] | (with_reducible first | refine y_load (hK := ?_) | refine y_store (hK := ?_)) | ((with_reducible refine resL_id ?_); apply res_c (hf := Tryz.results168); exact y_load1))
    exact leafL (sub_cons (sub_cons (sub_cons sub_rfl))) (leT_eq (by rw [h3]; rfl)) hK
  · rintro dd L Rr Rb hR x xs τ ⟨r, h1, h2, h3, rfl⟩
    cases r with
    | nil => simp at h1
    | cons i r =>
    rw [List.map_cons, List.cons.injEq] at h1
    obtain ⟨rfl, rfl⟩ := h1
    have hi := h2 i List.mem_cons_self
    refine ⟨rfl, ?_⟩
    repeat' (first | simp only [WL, WM])
    refine rngA_mk ?_
    repeat' (first | simp only [WL, intF, WM, reduceCtorEq, WLb, Nat.reduceAdd, Nat.reduceLeDiff, Bool.not_true, Bool.not_false, true_and, reduceIte, Bool.false_eq_true, T3, T39, cok34, cok127, Tryz.results168] | simp (disch := first | omega | (simp only [LN_]; omega)) only [wrap_id, getI, getI] | (with_reducible first | refine andA (hb := ?_) | refine y_load (hK := ?_) | refine y_store (hK := ?_) | refine cD (pSafeAt (i := i + 1) ?_ ?_ ?_) | refine cD (Blank ?_)) | ((with_reducible first | refine grd_cases (fun h => ?_) (fun h => ?_) | refine condC_split (fun h => ?_) (fun h => ?_)) <;> (try simp only [h]) <;> (try simp only [NR_, NRb] at h)) | omega)
    all_goals
      have e1 : ((i : Int) - 1).toNat = i - 1 := by omega
      try simp only [e1] at h
    all_goals first
      | exact ⟨_, resS_rfl, r, rfl, fun j hj => h2 j (List.mem_cons_of_mem _ hj), h3.trans (if_pos (goes_t (by first | exact .inl ⟨by assumption, by assumption⟩ | exact .inr ⟨by assumption, .inl (by omega)⟩ | exact .inr ⟨by assumption, .inr (by assumption)⟩))), rfl⟩
      | skip
    all_goals
      have h4 : goesOn l fl i = false := goes_f (by first | exact .inl (by assumption) | exact .inr (by assumption)) (by first | exact .inl (by assumption) | exact .inr ⟨by omega, by assumption⟩)
      have h5 : stopI l fl = i := h3.trans (if_neg (by rw [h4]; exact Bool.false_ne_true))
      refine ⟨_, resS_rfl, ?_⟩
      repeat' (first | ((with_reducible refine resL_id ?_); apply res_c (hf := Tryz.results168); exact y_load1))
      exact leafL (sub_cons (sub_cons (sub_cons sub_rfl))) (leT_eq (by rw [h5])) hK
def endI (l : List Int) (fl : Bool) : Nat := (backI (l.take (stopI l fl))).length
set_option maxHeartbeats 8000000 in
theorem endI_le {l : List Int} {fl : Bool} : endI l fl ≤ l.length := by
  unfold endI
  have := backI_le (l.take (stopI l fl))
  rw [List.length_take] at this
  omega
set_option maxHeartbeats 8000000 in
theorem pEnd {l : List Int} {fl : Bool} (hl : l.length ≤ 1000000) (hK : K (.ret (I (endI l fl))) σ) : ACallF κ Tryz.prog 130 [SI o l, B fl] σ K := by
  have hst := stopI_le (l := l) (fl := fl)
  refine ACallF.dropL (ACallF_introA Tryz.func130 rfl ?_)
  simp only [Tryz.ntmps130]
  repeat' (first | (with_reducible first | refine AW_seqA (AW_block ?_) | refine cut_loop ?_ | refine AW_seq ?_) | simp only [WL, WM, Nat.reduceAdd, Nat.reduceSub, true_and, cok168] | with_reducible refine cD (pStop ?_ ?_) | omega)
  refine loopA (fun k : Nat => ⟨(SI o l :: B fl :: .any :: .any :: .any :: I k :: .any :: .any :: .any :: .any :: .any :: .any :: .any :: .any :: .any :: .any :: .any :: .any :: .any :: .any :: .any :: .any :: []), σ, true, []⟩) (fun k => k ≤ stopI l fl ∧ endI l fl = (backI (l.take k)).length) (fun k => k) (stopI l fl) (St_le_same (by repeat (first | exact trivial | refine ⟨le_rfl, ?_⟩ | refine ⟨le_any, ?_⟩ | refine ⟨le_ro, ?_⟩ | refine ⟨le_nil (by decide), ?_⟩ | refine ⟨le_wrap (by omega) (by omega) (by omega), ?_⟩ | refine ⟨le_int (by omega), ?_⟩ | refine ⟨le_eq (by simp), ?_⟩)) id) ⟨Nat.le_refl _, rfl⟩ ?_
  rintro k ⟨h1, h2⟩
  have e1 : 0 < k → ((k : Int) - 1).toNat = k - 1 := fun _ => by omega
  have e2 : (l.take k).length = k := by rw [List.length_take]; omega
  have e3 : 0 < k → (l.take k).getD (k - 1) 0 = l.getD (k - 1) 0 := fun h => by
    simp only [List.getD_eq_getElem?_getD]
    rw [List.getElem?_take_of_lt (by omega)]
  repeat' (first | (with_reducible first | refine AW_block ?_ | refine AW_seqA (AW_seqA ?_) | refine AW_seq ?_ | refine AW_runReg ?_ | refine AW_runCond ?_ | refine AW_runRet ?_) | simp only [WL, intF, WM, reduceCtorEq, WLb, Nat.reduceAdd, Bool.not_true, true_and, reduceIte, Bool.false_eq_true, T3, T39, cok34, Tryz.results130] | simp (disch := first | omega | (simp only [LN_]; omega)) only [wrap_id, getI, getI] | (with_reducible first | refine andA (hb := ?_) | refine cD (Blank ?_)) | ((with_reducible first | refine grd_cases (fun h => ?_) (fun h => ?_) | refine condC_split (fun h => ?_) (fun h => ?_)) <;> (try simp only [h]) <;> (try simp only [NR_, NRb] at h)))
  · rw [e1 (by omega)] at h
    refine ⟨k - 1, St_le_same (by repeat (first | exact trivial | refine ⟨le_rfl, ?_⟩ | refine ⟨le_any, ?_⟩ | refine ⟨le_ro, ?_⟩ | refine ⟨le_nil (by decide), ?_⟩ | refine ⟨le_wrap (by omega) (by omega) (by omega), ?_⟩ | refine ⟨le_int (by omega), ?_⟩ | refine ⟨le_eq (by simp), ?_⟩)) id, ⟨by omega, ?_⟩, by omega⟩
    rw [h2, backI_step (by omega) (by rw [e2, e3 (by omega)]; exact h), e2, List.take_take]
    congr 3; omega
  · rw [e1 (by omega)] at h
    exact leafL sub_rfl (leT_eq (by rw [h2, backI_stop (by omega) (by rw [e2, e3 (by omega)]; exact h), e2])) hK
  · obtain rfl : k = 0 := by omega
    exact leafL sub_rfl (leT_eq (by rw [h2]; rfl)) hK
def keyI (l : List Int) (fl : Bool) : Int := if stopI l fl < l.length ∧ l.getD (stopI l fl) 0 = 58 then stopI l fl else -1
set_option maxHeartbeats 8000000 in
theorem pKey {l : List Int} {fl : Bool} (hl : l.length ≤ 1000000) (hK : K (.ret (I (keyI l fl))) σ) : ACallF κ Tryz.prog 131 [SI o l, B fl] σ K := by
  have hst := stopI_le (l := l) (fl := fl)
  unfold keyI at hK
  refine ACallF.dropL (ACallF_intro Tryz.func131 rfl ?_)
  simp only [Tryz.ntmps131]
  repeat' (first | simp only [WL, intF, WM, reduceCtorEq, WLb, Nat.reduceAdd, Nat.reduceSub, Bool.not_true, true_and, reduceIte, Bool.false_eq_true, T3, T39, cok168, Tryz.results131] | simp (disch := first | omega | (simp only [LN_]; omega)) only [getI, getI] | (with_reducible first | refine andA (hb := ?_) | refine cD (pStop ?_ ?_)) | ((with_reducible first | refine grd_cases (fun h => ?_) (fun h => ?_) | refine condC_split (fun h => ?_) (fun h => ?_)) <;> (try simp only [h]) <;> (try simp only [NR_, NRb] at h)) | omega)
  all_goals first
    | (rw [if_pos ⟨by omega, by assumption⟩] at hK; exact leafL sub_rfl (leT_eq rfl) hK)
    | (rw [if_neg (by omega)] at hK; exact leafL sub_rfl (leT_eq rfl) hK)
    | trace_state
end Go.Proofs.YtgoofaeifbfblaaGreat
/-
  Plain specifications for chapter 8: texts between single quotes. No program in sight.
-/

namespace Go.Abs
set_option linter.unusedSimpArgs false
/-- Two quotes are one. -/
def und : List Int → List Int
  | [] => []
  | [c] => [c]
  | c :: d :: r => if c = 39 ∧ d = 39 then 39 :: und r else c :: und (d :: r)
/-- Where a text's quote is closed: how many signs stand ahead. -/
def endG : Nat → List Int → Int × Bool
  | _, [] => (0, false)
  | k, [c] => if c = 39 then (k, true) else (0, false)
  | k, c :: d :: r => if c = 39 then (if d = 39 then endG (k + 2) r else (k, true)) else endG (k + 1) (d :: r)
theorem und_two {r : List Int} : und (39 :: 39 :: r) = 39 :: und r := by simp [und]
theorem und_lone {c d : Int} {r : List Int} (h : ¬ (c = 39 ∧ d = 39)) : und (c :: d :: r) = c :: und (d :: r) := by simp [und, h]
theorem und_len : ∀ l : List Int, (und l).length ≤ l.length
  | [] => by simp [und]
  | [c] => by simp [und]
  | c :: d :: r => by
    have h1 := und_len r
    have h2 := und_len (d :: r)
    unfold und
    split <;> simp only [List.length_cons] at * <;> omega
end Go.Abs
/-
  Plain specifications for chapter 8: at places of a text. No program in sight.
-/


namespace Go.Abs
theorem und_at_two {l : List Int} {k : Nat} (h : k + 1 < l.length) (h1 : l.getD k 0 = 39) (h2 : l.getD (k + 1) 0 = 39) : und (l.drop k) = 39 :: und (l.drop (k + 2)) := by
  rw [drop_getD (show k < l.length by omega), drop_getD h, h1, h2, und_two]
theorem und_at_one {l : List Int} {k : Nat} (h : k < l.length) (hn : ¬ (l.getD k 0 = 39 ∧ k + 1 < l.length ∧ l.getD (k + 1) 0 = 39)) : und (l.drop k) = l.getD k 0 :: und (l.drop (k + 1)) := by
  rw [drop_getD h]
  by_cases hk : k + 1 < l.length
  · rw [drop_getD hk, und_lone (fun h3 => hn ⟨h3.1, hk, h3.2⟩)]
  · rw [List.drop_eq_nil_of_le (by omega)]; rfl
theorem endG_at_no {l : List Int} {k n : Nat} (h : k < l.length) (hn : ¬ l.getD k 0 = 39) : endG n (l.drop k) = endG (n + 1) (l.drop (k + 1)) := by
  rw [drop_getD h]
  by_cases hk : k + 1 < l.length
  · rw [drop_getD hk]; simp only [endG]; rw [if_neg hn]
  · rw [List.drop_eq_nil_of_le (by omega)]; simp only [endG]; rw [if_neg hn]
theorem endG_at_two {l : List Int} {k n : Nat} (h : k + 1 < l.length) (h1 : l.getD k 0 = 39) (h2 : l.getD (k + 1) 0 = 39) : endG n (l.drop k) = endG (n + 2) (l.drop (k + 2)) := by
  rw [drop_getD (show k < l.length by omega), drop_getD h, h1, h2]; simp [endG]
theorem endG_at_end {l : List Int} {k n : Nat} (h : k < l.length) (h1 : l.getD k 0 = 39) (h2 : ¬ (k + 1 < l.length ∧ l.getD (k + 1) 0 = 39)) : endG n (l.drop k) = ((n : Int), true) := by
  rw [drop_getD h, h1]
  by_cases hk : k + 1 < l.length
  · rw [drop_getD hk]; simp only [endG]; rw [if_pos trivial, if_neg (fun e => h2 ⟨hk, e⟩)]
  · rw [List.drop_eq_nil_of_le (by omega)]; simp [endG]
theorem endG_nil {n : Nat} : endG n [] = (0, false) := rfl
theorem und_tot : ∀ l : List (List Int), tot (l.map und) ≤ tot l
  | [] => Nat.le_refl _
  | t :: r => by
    have h1 := und_tot r
    have h2 := und_len t
    simp only [tot, List.map_cons, List.sum_cons] at *
    omega
theorem flowF_one (t : List Int) : flowF [t] = t := by simp [flowF, trims, trimAt, flowGo]
theorem und_take {l : List (List Int)} {k : Nat} (h : k < l.length) : (l.take (k + 1)).map und = (l.take k).map und ++ [und (l.getD k [])] := by
  rw [List.take_succ_eq_append_getElem h, List.map_append, List.map_cons, List.map_nil, List.getD_eq_getElem?_getD, List.getElem?_eq_getElem h]
  rfl
end Go.Abs
/-
  Walks: chapter 8, single quotes.
-/




namespace Go.Proofs.YtgoofaeifbfblaaGreat
open Go.Abs
set_option linter.unusedVariables false
set_option linter.unusedSimpArgs false
variable {κ : Ctx} {σ : List Res} {K : Ret → List Res → Prop} {o o' : Option (Option (Nat × Nat))}
set_option maxHeartbeats 4000000 in
theorem sEnd {l : List Int} (hl : l.length ≤ 1000000000) (hK : K (.ret (.tup [I (endG 0 l).1, B (endG 0 l).2])) σ) : ACallF κ Tryz.prog 150 [SI o l] σ K := by
  have tn1 : ∀ k : Nat, ((k : Int) + 1).toNat = k + 1 := fun k => by omega
  refine ACallF.dropL (ACallF_intro Tryz.func150 rfl ?_)
  simp only [Tryz.ntmps150]
  repeat' (first | simp only [WL, WM, Nat.reduceAdd, Nat.reduceSub])
  refine loop_by (fun k : Nat => ⟨(SI o l :: .any :: .any :: .any :: I k :: .any :: .any :: .any :: .any :: .any :: .any :: .any :: .any :: .any :: .any :: .any :: .any :: .any :: .any :: .any :: .any :: .any :: .any :: .any :: .any :: .any :: .any :: .any :: .any :: .any :: .any :: .any :: .any :: .any :: []), σ, true, []⟩) (fun k => k ≤ l.length ∧ endG 0 l = endG k (l.drop k)) (fun k => l.length - k) 0 (St_le_same (by repeat (first | exact trivial | refine ⟨le_rfl, ?_⟩ | refine ⟨le_any, ?_⟩ | refine ⟨le_ro, ?_⟩ | refine ⟨le_nil (by decide), ?_⟩ | refine ⟨le_wrap (by omega) (by omega) (by omega), ?_⟩ | refine ⟨le_int (by omega), ?_⟩ | refine ⟨le_eq (by simp), ?_⟩)) id) ⟨Nat.zero_le _, by simp⟩ ?_
  rintro k ⟨h1, h2⟩
  repeat' (first | simp only [WL, intF, WM, reduceCtorEq, WLb, Nat.reduceAdd, Bool.not_true, true_and, reduceIte, Bool.false_eq_true, T3, T39, Tryz.results150, tn1] | simp (disch := first | omega | (simp only [LN_]; omega)) only [wrap_id, getI] | with_reducible refine andA (hb := ?_) | ((with_reducible first | refine grd_cases (fun h => ?_) (fun h => ?_) | refine condC_split (fun h => ?_) (fun h => ?_)) <;> (try simp only [h]) <;> (try simp only [NR_, NRb] at h)))
  · exact ⟨k + 1, St_le_same (by repeat (first | exact trivial | refine ⟨le_rfl, ?_⟩ | refine ⟨le_any, ?_⟩ | refine ⟨le_ro, ?_⟩ | refine ⟨le_nil (by decide), ?_⟩ | refine ⟨le_wrap (by omega) (by omega) (by omega), ?_⟩ | refine ⟨le_int (by omega), ?_⟩ | refine ⟨le_eq (by simp), ?_⟩)) id, ⟨by omega, by rw [h2, endG_at_no (by omega) (by assumption)]⟩, by omega⟩
  · exact ⟨k + 2, St_le_same (by repeat (first | exact trivial | refine ⟨le_rfl, ?_⟩ | refine ⟨le_any, ?_⟩ | refine ⟨le_ro, ?_⟩ | refine ⟨le_nil (by decide), ?_⟩ | refine ⟨le_wrap (by omega) (by omega) (by omega), ?_⟩ | refine ⟨le_int (by omega), ?_⟩ | refine ⟨le_eq (by simp), ?_⟩)) id, ⟨by omega, by rw [h2, endG_at_two (by omega) (by assumption) (by assumption)]⟩, by omega⟩
  · exact leafL sub_rfl (leT_eq (by rw [h2, endG_at_end (by omega) (by assumption) (fun e => by rename_i h9 _; first | exact absurd e.2 (by assumption) | exact absurd e.1 (by omega))])) hK
  · exact leafL sub_rfl (leT_eq (by rw [h2, endG_at_end (by omega) (by assumption) (fun e => absurd e.1 (by omega))])) hK
  · exact leafL sub_rfl (leT_eq (by rw [h2, List.drop_eq_nil_of_le (by omega), endG_nil])) hK
set_option maxHeartbeats 4000000 in
theorem undoubled {l : List Int} (hl : l.length ≤ 1000000000) (hK : K (.ret (SI none (und l))) σ) : ACallF κ Tryz.prog 156 [SI o l] σ K := by
  have tn1 : ∀ k : Nat, ((k : Int) + 1).toNat = k + 1 := fun k => by omega
  refine ACallF.dropL (ACallF_intro Tryz.func156 rfl ?_)
  simp only [Tryz.ntmps156]
  repeat' (first | simp only [WL, WM, Nat.reduceAdd, Nat.reduceSub])
  refine loop_by (fun x : Nat × List Int × Option (Nat × Nat) => ⟨(SI o l :: .any :: .any :: SI (some x.2.2) x.2.1 :: I x.1 :: .any :: .any :: .any :: .any :: .any :: .any :: .any :: .any :: .any :: .any :: .any :: .any :: .any :: .any :: .any :: .any :: .any :: .any :: .any :: .any :: .any :: .any :: .any :: .any :: .any :: .any :: .any :: .any :: .any :: .any :: .any :: .any :: .any :: .any :: .any :: .any :: []), .tip x.2.2 :: σ, true, []⟩) (fun x => x.1 ≤ l.length ∧ und l = x.2.1 ++ und (l.drop x.1) ∧ x.2.1.length ≤ x.1) (fun x => l.length - x.1) (0, [], none) (St_leW (by repeat (first | exact trivial | refine ⟨le_rfl, ?_⟩ | refine ⟨le_any, ?_⟩ | refine ⟨le_ro, ?_⟩ | refine ⟨le_nil (by decide), ?_⟩ | refine ⟨le_wrap (by omega) (by omega) (by omega), ?_⟩ | refine ⟨le_int (by omega), ?_⟩ | refine ⟨le_eq (by simp), ?_⟩)) ResW.void id) ⟨Nat.zero_le _, by simp, Nat.le_refl _⟩ ?_
  rintro ⟨k, out, tk⟩ ⟨h1, h2, h3⟩
  dsimp only at h1 h2 h3 ⊢
  repeat' (first | simp only [WL, intF, WM, reduceCtorEq, WLb, Nat.reduceAdd, Bool.not_true, true_and, reduceIte, Bool.false_eq_true, T3, T39, Tryz.results156, tn1] | simp (disch := first | omega | (simp only [LN_]; omega)) only [wrap_id, getI] | (with_reducible first | refine andA (hb := ?_) | refine y_app (hlen := ?_) (hmax := ?_) (hK := fun tk => ?_) | refine y_bs (hK := ?_)) | ((with_reducible first | refine grd_cases (fun h => ?_) (fun h => ?_) | refine condC_split (fun h => ?_) (fun h => ?_)) <;> (try simp only [h]) <;> (try simp only [NR_, NRb] at h)) | omega | (refine maxLen_ok ?_; (first | omega | (simp only [LN_]; omega))))
  · exact ⟨(k + 2, out ++ [39], _), St_leW (by rw [show l.getD k 0 = 39 by assumption]; repeat (first | exact trivial | refine ⟨le_rfl, ?_⟩ | refine ⟨le_any, ?_⟩ | refine ⟨le_ro, ?_⟩ | refine ⟨le_nil (by decide), ?_⟩ | refine ⟨le_wrap (by omega) (by omega) (by omega), ?_⟩ | refine ⟨le_int (by omega), ?_⟩ | refine ⟨le_eq (by simp), ?_⟩)) (ResW.refl _) id, ⟨by dsimp only; omega, by dsimp only; rw [h2, und_at_two (by omega) (by assumption) (by assumption)]; simp, by simp; omega⟩, by dsimp only; omega⟩
  all_goals first
    | exact ⟨(k + 1, out ++ [l.getD k 0], _), St_leW (by repeat (first | exact trivial | refine ⟨le_rfl, ?_⟩ | refine ⟨le_any, ?_⟩ | refine ⟨le_ro, ?_⟩ | refine ⟨le_nil (by decide), ?_⟩ | refine ⟨le_wrap (by omega) (by omega) (by omega), ?_⟩ | refine ⟨le_int (by omega), ?_⟩ | refine ⟨le_eq (by simp), ?_⟩)) (ResW.refl _) id, ⟨by dsimp only; omega, by dsimp only; rw [h2, und_at_one (by omega) (fun e => by first | exact absurd e.1 (by assumption) | exact absurd e.2.2 (by assumption) | exact absurd e.2.1 (by omega))]; simp, by simp; omega⟩, by dsimp only; omega⟩
    | exact leafL (sub_cons sub_rfl) (leT_le (by rw [h2, List.drop_eq_nil_of_le (by omega)]; simp only [und, List.append_nil]; exact le_ro)) hK
set_option maxHeartbeats 4000000 in
theorem sRead {l : List (List Int)} (hl : tot l ≤ 1000000000) (hK : K (.ret (SI none (flowF (l.map und)))) σ) : ACallF κ Tryz.prog 120 [SSI o l] σ K := by
  have hlen := tot_len l
  have hz : ∀ k, tot ((l.take k).map und) ≤ tot l := fun k => Nat.le_trans (und_tot _) (tot_take l k)
  have hw := und_tot l
  refine ACallF.dropL (ACallF_intro Tryz.func120 rfl ?_)
  simp only [Tryz.ntmps120]
  repeat' (first | simp only [WL, WM, Nat.reduceAdd, Nat.reduceSub, true_and, T70])
  refine loop_by (fun x : Nat × Option (Nat × Nat) => ⟨(SSI o l :: .any :: .any :: SSI (some x.2) ((l.take x.1).map und) :: .any :: .any :: SSI o l :: I l.length :: I x.1 :: .any :: .any :: .any :: .any :: .any :: .any :: .any :: .any :: .any :: .any :: .any :: []), .tip x.2 :: σ, true, []⟩) (fun x => x.1 ≤ l.length) (fun x => l.length - x.1) (0, none) (St_leW (by repeat (first | exact trivial | refine ⟨le_rfl, ?_⟩ | refine ⟨le_any, ?_⟩ | refine ⟨le_ro, ?_⟩ | refine ⟨le_nil (by decide), ?_⟩ | refine ⟨le_wrap (by omega) (by omega) (by omega), ?_⟩ | refine ⟨le_int (by omega), ?_⟩ | refine ⟨le_eq (by simp), ?_⟩)) ResW.void id) (Nat.zero_le _) ?_
  rintro ⟨k, tk⟩ h1
  dsimp only at h1 ⊢
  have e2 := tot_get (l := l) k
  repeat' (first | simp only [WL, intF, WM, reduceCtorEq, WLb, Nat.reduceAdd, true_and, T39, T70, cok133, cok156, Tryz.results120] | simp (disch := first | omega | (simp only [LN_]; omega)) only [wrap_id, getS] | (with_reducible first | refine andA (hb := ?_) | refine y_app (hlen := ?_) (hmax := ?_) (hK := fun tk => ?_) | refine y_bs (hK := ?_) | refine cD (flow ?_ ?_) | refine cD (undoubled ?_ ?_)) | ((with_reducible first | refine grd_cases (fun h => ?_) (fun h => ?_) | refine condC_split (fun h => ?_) (fun h => ?_)) <;> (try simp only [h]) <;> (try simp only [NR_, NRb] at h)) | omega | (simp only [LN_]; omega) | (refine maxLen_ok ?_; (first | omega | (simp only [LN_]; omega))))
  · exact ⟨(k + 1, _), St_leW (by dsimp only; rw [und_take (by omega)]; repeat (first | exact trivial | refine ⟨le_rfl, ?_⟩ | refine ⟨le_any, ?_⟩ | refine ⟨le_ro, ?_⟩ | refine ⟨le_nil (by decide), ?_⟩ | refine ⟨le_wrap (by omega) (by omega) (by omega), ?_⟩ | refine ⟨le_int (by omega), ?_⟩ | refine ⟨le_eq (by simp), ?_⟩)) (ResW.refl _) id, by dsimp only; omega, by dsimp only; omega⟩
  · have := hz k; omega
  · exact leafL (sub_cons sub_rfl) (leT_eq (by rw [List.take_of_length_le (by omega)])) hK
end Go.Proofs.YtgoofaeifbfblaaGreat
/-
  Plain specifications for chapter 7: texts between double quotes. No program in sight.
-/



namespace Go.Abs
set_option linter.unusedSimpArgs false
set_option linter.unusedVariables false
/-- Where a text's quote is closed. -/
def endD : Nat → List Int → Int × Bool
  | _, [] => (0, false)
  | k, [c] => if c = 34 then (k, true) else (0, false)
  | k, c :: d :: r => if c = 92 then endD (k + 2) r else if c = 34 then (k, true) else endD (k + 1) (d :: r)
theorem endD_at_esc {l : List Int} {k n : Nat} (h : k < l.length) (h1 : l.getD k 0 = 92) : endD n (l.drop k) = endD (n + 2) (l.drop (k + 2)) := by
  rw [drop_getD h, h1]
  by_cases hk : k + 1 < l.length
  · rw [drop_getD hk]; simp only [endD]; rw [if_pos trivial]
  · rw [List.drop_eq_nil_of_le (show l.length ≤ k + 1 by omega), List.drop_eq_nil_of_le (show l.length ≤ k + 2 by omega)]; simp [endD]
theorem endD_at_end {l : List Int} {k n : Nat} (h : k < l.length) (h1 : l.getD k 0 = 34) : endD n (l.drop k) = ((n : Int), true) := by
  rw [drop_getD h, h1]
  by_cases hk : k + 1 < l.length
  · rw [drop_getD hk]; simp only [endD]; rw [if_neg (by decide), if_pos trivial]
  · rw [List.drop_eq_nil_of_le (show l.length ≤ k + 1 by omega)]; simp [endD]
theorem endD_at_no {l : List Int} {k n : Nat} (h : k < l.length) (h1 : ¬ l.getD k 0 = 92) (h2 : ¬ l.getD k 0 = 34) : endD n (l.drop k) = endD (n + 1) (l.drop (k + 1)) := by
  rw [drop_getD h]
  by_cases hk : k + 1 < l.length
  · rw [drop_getD hk]; simp only [endD]; rw [if_neg h1, if_neg h2]
  · rw [List.drop_eq_nil_of_le (show l.length ≤ k + 1 by omega)]; simp only [endD]; rw [if_neg h2]
theorem endD_nil {n : Nat} : endD n [] = (0, false) := rfl
/-- A sign: a code point, and whether it stood as an escape. -/
abbrev SGA (x : Int × Bool) : AV := .agg [I x.1, B x.2]
abbrev SG (o : Option (Option (Nat × Nat))) (l : List (Int × Bool)) : AV := .sl 2 o (l.map SGA)
theorem getG {l : List (Int × Bool)} {k : Nat} (h : k < l.length) : (l.map SGA).getD k .any = SGA (l.getD k (0, false)) := by
  simp [List.getD_eq_getElem?_getD, h]
def softG (x : Int × Bool) : Bool := !x.2 && blankI x.1
def escShortI (c : Int) : Int × Bool :=
  if c = 48 then (0, true) else if c = 97 then (7, true) else if c = 98 then (8, true) else if c = 116 ∨ c = 9 then (9, true) else if c = 110 then (10, true)
  else if c = 118 then (11, true) else if c = 102 then (12, true) else if c = 114 then (13, true) else if c = 101 then (27, true) else if c = 32 ∨ c = 34 ∨ c = 47 ∨ c = 92 then (c, true)
  else if c = 78 then (133, true) else if c = 95 then (160, true) else if c = 76 then (8232, true) else if c = 80 then (8233, true) else (0, false)
def longI (c : Int) : Nat := if c = 120 then 2 else if c = 117 then 4 else if c = 85 then 8 else 0
theorem longI_le (c : Int) : longI c ≤ 8 := by unfold longI; (repeat' split) <;> omega
def numGo : Int → List Int → Option Int
  | a, [] => some a
  | a, d :: r => if hexI d < 0 then none else numGo (a * 16 + hexI d) r
def numEnd : Option Int → Int × Int
  | none => (0, 2)
  | some c => if rightI c then (c, 0) else (0, 4)
def numberI (l : List Int) (n : Nat) : Int × Int := if l.length < n then (0, 2) else numEnd (numGo 0 (l.take n))
theorem dwg_step {α : Type} {p : α → Bool} {d : α} : ∀ {l : List α}, 0 < l.length → p (l.getD 0 d) = true → l.dropWhile p = (l.drop 1).dropWhile p
  | [], h, _ => by simp at h
  | x :: l, _, h => by
    have : p x = true := by simpa using h
    simp [List.dropWhile_cons, this]
theorem dwg_stop {α : Type} {p : α → Bool} {d : α} : ∀ {l : List α}, 0 < l.length → p (l.getD 0 d) = false → l.dropWhile p = l
  | [], h, _ => by simp at h
  | x :: l, _, h => by
    have : p x = false := by simpa using h
    simp [List.dropWhile_cons, this]
theorem take_last {α : Type} {d : α} {l : List α} (h : 0 < l.length) : l = l.take (l.length - 1) ++ [l.getD (l.length - 1) d] := by
  have h2 : l.length - 1 < l.length := by omega
  conv => lhs; rw [← List.take_length (l := l), show l.length = l.length - 1 + 1 by omega]
  rw [List.take_succ_eq_append_getElem h2, List.getD_eq_getElem?_getD, List.getElem?_eq_getElem h2]
  rfl
theorem bkg_step {α : Type} {p : α → Bool} {d : α} {l : List α} (h : 0 < l.length) (hb : p (l.getD (l.length - 1) d) = true) : (l.reverse.dropWhile p).reverse = ((l.take (l.length - 1)).reverse.dropWhile p).reverse := by
  conv => lhs; rw [take_last (d := d) h]
  rw [List.reverse_append]
  simp only [List.reverse_cons, List.reverse_nil, List.nil_append, List.cons_append, List.dropWhile_cons, hb, if_true]
theorem bkg_stop {α : Type} {p : α → Bool} {d : α} {l : List α} (h : 0 < l.length) (hb : p (l.getD (l.length - 1) d) = false) : (l.reverse.dropWhile p).reverse = l := by
  conv => lhs; rw [take_last (d := d) h]
  rw [List.reverse_append]
  simp only [List.reverse_cons, List.reverse_nil, List.nil_append, List.cons_append, List.dropWhile_cons, hb, Bool.false_eq_true, if_false]
  rw [List.reverse_reverse]
  exact (take_last h).symm
def escI (l : List Int) : Int × Int × Int :=
  match l with
  | [] => (0, 0, 2)
  | c :: r => if (escShortI c).2 then ((escShortI c).1, 1, 0) else if longI c = 0 then (0, 0, 2) else ((numberI r (longI c)).1, (longI c : Int) + 1, (numberI r (longI c)).2)
theorem escI_def {l : List Int} (h : 0 < l.length) : escI l = if (escShortI (l.getD 0 0)).2 then ((escShortI (l.getD 0 0)).1, 1, 0) else if longI (l.getD 0 0) = 0 then (0, 0, 2) else ((numberI (l.drop 1) (longI (l.getD 0 0))).1, (longI (l.getD 0 0) : Int) + 1, (numberI (l.drop 1) (longI (l.getD 0 0))).2) := by
  cases l with
  | nil => simp at h
  | cons c r => rfl
theorem escI_nil {l : List Int} (h : l.length = 0) : escI l = (0, 0, 2) := by
  obtain rfl := List.eq_nil_of_length_eq_zero h
  rfl
theorem numGo_at {m : List Int} {a : Int} {k : Nat} (h : k < m.length) : numGo a (m.drop k) = if hexI (m.getD k 0) < 0 then none else numGo (a * 16 + hexI (m.getD k 0)) (m.drop (k + 1)) := by
  rw [drop_getD h]; rfl
theorem pow16 {k : Nat} (h : k ≤ 8) : 2 ^ (4 * k) ≤ 4294967296 ∧ 2 ^ (4 * (k + 1)) = 16 * 2 ^ (4 * k) := by
  refine ⟨Nat.le_trans (Nat.pow_le_pow_right (by decide) (show 4 * k ≤ 32 by omega)) (by decide), ?_⟩
  rw [show 4 * (k + 1) = 4 * k + 4 by omega, Nat.pow_add]; omega
theorem escI_n (l : List Int) : 0 ≤ (escI l).2.1 ∧ (escI l).2.1 ≤ 9 := by
  unfold escI
  split
  · decide
  · rename_i c r
    have := longI_le c
    (repeat' split) <;> (try simp only) <;> omega
/-- A line's signs, whether it goes on without its end, and the error. -/
def readGo (last : Bool) : Nat → List (Int × Bool) → List Int → List (Int × Bool) × Bool × Int
  | 0, acc, _ => (acc, false, 0)
  | _ + 1, acc, [] => (acc, false, 0)
  | f + 1, acc, c :: r =>
    if ¬ c = 92 then readGo last f (acc ++ [(c, false)]) r
    else if r = [] ∧ last = false then (acc, true, 0)
    else if ¬ (escI r).2.2 = 0 then ([], false, (escI r).2.2)
    else readGo last f (acc ++ [((escI r).1, true)]) (r.drop (escI r).2.1.toNat)
def readLine (last : Bool) (l : List Int) : List (Int × Bool) × Bool × Int := readGo last l.length [] l
theorem readGo_len (last : Bool) : ∀ (f : Nat) (acc : List (Int × Bool)) (l : List Int), (readGo last f acc l).1.length ≤ acc.length + l.length
  | 0, acc, l => by simp [readGo]
  | f + 1, acc, [] => by simp [readGo]
  | f + 1, acc, c :: r => by
    have h1 := readGo_len last f (acc ++ [(c, false)]) r
    have h2 := readGo_len last f (acc ++ [((escI r).1, true)]) (r.drop (escI r).2.1.toNat)
    simp only [List.length_append, List.length_cons, List.length_nil, List.length_drop] at h1 h2 ⊢
    unfold readGo
    (repeat' split)
    all_goals first | omega | (simp; done) | (simp; omega)
theorem readLine_len (last : Bool) (l : List Int) : (readLine last l).1.length ≤ l.length := by
  have := readGo_len last l.length [] l
  simpa [readLine] using this
theorem readGo_fuel (last : Bool) : ∀ (f f' : Nat) (acc : List (Int × Bool)) (l : List Int), l.length ≤ f → l.length ≤ f' → readGo last f acc l = readGo last f' acc l
  | 0, 0, _, _, _, _ => rfl
  | 0, f' + 1, acc, l, h, _ => by
    obtain rfl := List.eq_nil_of_length_eq_zero (by omega : l.length = 0)
    rfl
  | f + 1, 0, acc, l, _, h => by
    obtain rfl := List.eq_nil_of_length_eq_zero (by omega : l.length = 0)
    rfl
  | f + 1, f' + 1, acc, [], _, _ => rfl
  | f + 1, f' + 1, acc, c :: r, h, h' => by
    simp only [List.length_cons] at h h'
    have h1 := readGo_fuel last f f' (acc ++ [(c, false)]) r (by omega) (by omega)
    have h2 := readGo_fuel last f f' (acc ++ [((escI r).1, true)]) (r.drop (escI r).2.1.toNat) (by simp; omega) (by simp; omega)
    unfold readGo
    rw [h1, h2]
/-- At a place: fuel as much as there is left. -/
def readAt (last : Bool) (l : List Int) (acc : List (Int × Bool)) (k : Nat) : List (Int × Bool) × Bool × Int := readGo last (l.length - k) acc (l.drop k)
theorem readAt_end {last : Bool} {l : List Int} {acc : List (Int × Bool)} {k : Nat} (h : l.length ≤ k) : readAt last l acc k = (acc, false, 0) := by
  unfold readAt; rw [show l.length - k = 0 by omega]; rfl
theorem readAt_plain {last : Bool} {l : List Int} {acc : List (Int × Bool)} {k : Nat} (h : k < l.length) (h1 : ¬ l.getD k 0 = 92) : readAt last l acc k = readAt last l (acc ++ [(l.getD k 0, false)]) (k + 1) := by
  unfold readAt
  rw [show l.length - k = (l.length - (k + 1)) + 1 by omega, drop_getD h]
  simp only [readGo]
  rw [if_pos h1]
theorem readAt_join {last : Bool} {l : List Int} {acc : List (Int × Bool)} {k : Nat} (h : k + 1 = l.length) (h1 : l.getD k 0 = 92) (h2 : last = false) : readAt last l acc k = (acc, true, 0) := by
  unfold readAt
  rw [show l.length - k = (l.length - (k + 1)) + 1 by omega, drop_getD (show k < l.length by omega)]
  simp only [readGo]
  rw [if_neg (by simpa using h1), if_pos ⟨List.drop_eq_nil_of_le (by omega), h2⟩]
theorem readAt_bad {last : Bool} {l : List Int} {acc : List (Int × Bool)} {k : Nat} (h : k < l.length) (h1 : l.getD k 0 = 92) (h2 : ¬ (k + 1 = l.length ∧ last = false)) (h3 : ¬ (escI (l.drop (k + 1))).2.2 = 0) : readAt last l acc k = ([], false, (escI (l.drop (k + 1))).2.2) := by
  unfold readAt
  rw [show l.length - k = (l.length - (k + 1)) + 1 by omega, drop_getD h]
  simp only [readGo]
  rw [if_neg (by simpa using h1), if_neg (fun e => h2 ⟨by have := e.1; simp at this; omega, e.2⟩), if_pos h3]
theorem readAt_esc {last : Bool} {l : List Int} {acc : List (Int × Bool)} {k : Nat} {n : Nat} (h : k < l.length) (h1 : l.getD k 0 = 92) (h2 : ¬ (k + 1 = l.length ∧ last = false)) (h3 : (escI (l.drop (k + 1))).2.2 = 0) (hn : (escI (l.drop (k + 1))).2.1 = (n : Int)) : readAt last l acc k = readAt last l (acc ++ [((escI (l.drop (k + 1))).1, true)]) (k + 1 + n) := by
  unfold readAt
  rw [show l.length - k = (l.length - (k + 1)) + 1 by omega, drop_getD h]
  simp only [readGo]
  rw [if_neg (by simpa using h1), if_neg (fun e => h2 ⟨by have := e.1; simp at this; omega, e.2⟩), if_neg (by simpa using h3), hn]
  rw [Int.toNat_natCast, List.drop_drop]
  exact readGo_fuel last _ _ _ _ (by simp; omega) (by simp)
/-- What joins two lines. -/
def frontG (b : Bool) (t : List (Int × Bool)) : List (Int × Bool) := if b then t.dropWhile softG else t
def backG (b : Bool) (t : List (Int × Bool)) : List (Int × Bool) := if b then (t.reverse.dropWhile softG).reverse else t
def trimG (i n : Nat) (x : List (Int × Bool) × Bool) : List (Int × Bool) := backG (decide (i + 1 < n) && !x.2) (frontG (decide (0 < i)) x.1)
def foldG (n : Nat) : Nat → Bool → Nat → List (List (Int × Bool) × Bool) → List Int
  | _, _, _, [] => []
  | i, j, e, x :: r =>
    if trimG i n x = [] ∧ x.2 = false ∧ j = false ∧ i + 1 < n then foldG n (i + 1) j (e + 1) r
    else (if j = false ∧ e = 0 then [32] else []) ++ List.replicate e 10 ++ (trimG i n x).map (·.1) ++ foldG n (i + 1) x.2 0 r
def foldD (l : List (List (Int × Bool) × Bool)) : List Int := foldG l.length 0 true 0 l
/-- The lines' signs, or the first error. -/
def linesD : List (List Int) → List (List (Int × Bool) × Bool) × Int
  | [] => ([], 0)
  | t :: r => let x := readLine r.isEmpty t
    if ¬ x.2.2 = 0 then ([], x.2.2) else if ¬ (linesD r).2 = 0 then ([], (linesD r).2) else ((x.1, x.2.1) :: (linesD r).1, 0)
def readD (l : List (List Int)) : List Int × Int := if ¬ (linesD l).2 = 0 then ([], (linesD l).2) else (foldD (linesD l).1, 0)
/-! ### Lines -/
abbrev LNA (x : List (Int × Bool) × Bool) : AV := .agg [SG none x.1, B x.2]
abbrev LLA (o : Option (Option (Nat × Nat))) (l : List (List (Int × Bool) × Bool)) : AV := .sl 2 o (l.map LNA)
theorem getLNA {l : List (List (Int × Bool) × Bool)} {k : Nat} (h : k < l.length) : (l.map LNA).getD k .any = LNA (l.getD k ([], false)) := by
  simp [List.getD_eq_getElem?_getD, h]
def totG (l : List (List (Int × Bool) × Bool)) : Nat := (l.map fun t => t.1.length + 1).sum
theorem totG_len (l : List (List (Int × Bool) × Bool)) : l.length ≤ totG l := by
  induction l with
  | nil => simp [totG]
  | cons x r ih => simp only [totG, List.map_cons, List.sum_cons, List.length_cons] at *; omega
theorem totG_get {l : List (List (Int × Bool) × Bool)} (k : Nat) : (l.getD k ([], false)).1.length ≤ totG l := by
  induction l generalizing k with
  | nil => simp [totG]
  | cons x r ih =>
    cases k with
    | zero => simp [totG]; omega
    | succ k => have := ih k; simp only [totG, List.map_cons, List.sum_cons, List.getD_cons_succ] at *; omega
theorem backG_le (b : Bool) (t : List (Int × Bool)) : (backG b t).length ≤ t.length := by
  unfold backG
  split
  · have := (List.dropWhile_suffix softG (l := t.reverse)).length_le
    simpa using this
  · exact Nat.le_refl _
theorem frontG_le (b : Bool) (t : List (Int × Bool)) : (frontG b t).length ≤ t.length := by
  unfold frontG
  split
  · exact (List.dropWhile_suffix softG).length_le
  · exact Nat.le_refl _
theorem trimG_le (i n : Nat) (x : List (Int × Bool) × Bool) : (trimG i n x).length ≤ x.1.length := Nat.le_trans (backG_le _ _) (frontG_le _ _)
theorem foldG_len (n : Nat) : ∀ (l : List (List (Int × Bool) × Bool)) (i : Nat) (j : Bool) (e : Nat), (foldG n i j e l).length ≤ e + totG l
  | [], i, j, e => by simp [foldG]
  | x :: r, i, j, e => by
    have h1 := foldG_len n r (i + 1) j (e + 1)
    have h2 := foldG_len n r (i + 1) x.2 0
    have h3 := trimG_le i n x
    simp only [totG, List.map_cons, List.sum_cons] at *
    unfold foldG
    split
    · omega
    · simp only [List.length_append, List.length_replicate, List.length_map]
      split <;> simp <;> omega
theorem foldD_len (l : List (List (Int × Bool) × Bool)) : (foldD l).length ≤ totG l := by have := foldG_len l.length l 0 true 0; unfold foldD; omega
theorem drop_getG {l : List (List (Int × Bool) × Bool)} {k : Nat} (h : k < l.length) : l.drop k = l.getD k ([], false) :: l.drop (k + 1) := by
  rw [List.drop_eq_getElem_cons h]
  simp [List.getD_eq_getElem?_getD, h]
theorem foldG_skip {n i : Nat} {j : Bool} {e : Nat} {l : List (List (Int × Bool) × Bool)} {T : List (Int × Bool)} (h : i < l.length) (hT : trimG i n (l.getD i ([], false)) = T) (h1 : T.length = 0) (h2 : (l.getD i ([], false)).2 = false) (h3 : j = false) (h4 : i + 1 < n) :
    foldG n i j e (l.drop i) = foldG n (i + 1) j (e + 1) (l.drop (i + 1)) := by
  rw [drop_getG h]
  simp only [foldG]
  rw [if_pos ⟨by rw [hT]; exact List.eq_nil_of_length_eq_zero h1, h2, h3, h4⟩]
theorem foldG_take {n i : Nat} {j : Bool} {e : Nat} {l : List (List (Int × Bool) × Bool)} {T : List (Int × Bool)} {s : List Int} (h : i < l.length) (hT : trimG i n (l.getD i ([], false)) = T) (h1 : ¬ (T.length = 0 ∧ (l.getD i ([], false)).2 = false ∧ j = false ∧ i + 1 < n))
    (hs : s = if j = false ∧ e = 0 then [32] else []) : foldG n i j e (l.drop i) = s ++ List.replicate e 10 ++ T.map (·.1) ++ foldG n (i + 1) (l.getD i ([], false)).2 0 (l.drop (i + 1)) := by
  rw [drop_getG h]
  simp only [foldG]
  rw [if_neg (fun e => h1 ⟨by rw [← hT, e.1]; rfl, e.2⟩), hT, hs]
theorem mapfst_take {T : List (Int × Bool)} {m : Nat} (h : m < T.length) : (T.take (m + 1)).map (·.1) = (T.take m).map (·.1) ++ [(T.getD m (0, false)).1] := by
  rw [List.take_succ_eq_append_getElem h, List.map_append, List.getD_eq_getElem?_getD, List.getElem?_eq_getElem h]
  rfl
theorem linesD_bad {t : List Int} {r : List (List Int)} (h : ¬ (readLine r.isEmpty t).2.2 = 0) : linesD (t :: r) = ([], (readLine r.isEmpty t).2.2) := by
  simp only [linesD]; rw [if_pos h]
theorem linesD_ok {t : List Int} {r : List (List Int)} (h : (readLine r.isEmpty t).2.2 = 0) : (linesD (t :: r)).2 = (linesD r).2 ∧ ((linesD r).2 = 0 → (linesD (t :: r)).1 = ((readLine r.isEmpty t).1, (readLine r.isEmpty t).2.1) :: (linesD r).1) := by
  simp only [linesD]
  rw [if_neg (by simpa using h)]
  split
  · rename_i h2; exact ⟨rfl, fun h3 => (h2 h3).elim⟩
  · rename_i h2; exact ⟨by simp only [Decidable.not_not] at h2; exact h2.symm, fun _ => rfl⟩
theorem linesD_tot : ∀ l : List (List Int), totG (linesD l).1 ≤ tot l
  | [] => by simp [linesD, totG]
  | t :: r => by
    have h1 := linesD_tot r
    have h2 := readLine_len r.isEmpty t
    simp only [tot, totG, List.map_cons, List.sum_cons] at *
    simp only [linesD]
    (repeat' split) <;> simp <;> omega
theorem last_at {l : List (List Int)} {i : Nat} (h : i < l.length) : (((i : Int) + 1) == (l.length : Int)) = (l.drop (i + 1)).isEmpty := by
  rw [Bool.eq_iff_iff, beq_iff_eq, List.isEmpty_iff, List.drop_eq_nil_iff]
  omega
theorem readD_bad {l : List (List Int)} {e : Int} (h : (linesD l).2 = e) (h0 : ¬ e = 0) : readD l = ([], e) := by unfold readD; rw [h, if_pos h0]
theorem readD_ok {l : List (List Int)} (h : (linesD l).2 = 0) : readD l = (foldD (linesD l).1, 0) := by unfold readD; rw [h, if_neg (by decide)]
end Go.Abs
