/-
  Texts If, Ig, Ip, Ir, Kx, Iu, Iv, Iw, Kb, Iq, Is, Iy, Ky, Kc, Kd, Ke, Iz, one behind the other.
-/
import Derived.Test.YthkabaiamcjdbaaGreatG27
import Derived.Test.YthkabaiamcjdbaaGreatG28
import Derived.Test.YthkabaiamcjdbaaGreatG29
set_option linter.unusedVariables false
set_option linter.unusedSimpArgs false
set_option maxHeartbeats 16000000
/-
 Walks: chapter 1,the form of texts of small bytes.
-/

namespace Go.Proofs.YthkabaiamcjdbaaGreat
open Go.Abs
variable {κ : Ctx} {σ : List Res} {K : Ret → List Res → Prop} {o o' : Option (Option (Nat × Nat))}
set_option maxRecDepth 4000 in
theorem rFormS {b : List Int} (hb : Asc b) (h1 : b.length ≤ 1) (hK : K (.ret (.tup [I 1,I 0])) σ) : ACallF κ Tryz.prog 36 [SU o b] σ K:=by
 have hbl:=hb.1
 have hn3 : ¬ ((b.length : Int) > 3):=by omega
 have hn1 : ¬ ((b.length : Int) > 1):=by omega
 refine ACallF.dropL (ACallF_intro Tryz.func36 rfl ?_)
 simp only [Tryz.ntmps36]
 repeat' (first | simp only [WL,intF,WM,reduceCtorEq,WLb,Nat.reduceAdd,Nat.reduceSub,true_and,reduceIte,Bool.false_eq_true,T63,cok53,Tryz.results36,decide_eq_false hn3,decide_eq_false hn1] | with_reducible refine y_bs (hK:=?_) | ( refine callD_mk (ACallF.argsS (ys:=[SU o b,SU none [0,0,254,255]]) ⟨leS_rfl,leS_le le_ro,trivial⟩ (rIsNo hb (by decide) (by decide) ?_))) | ( refine callD_mk (ACallF.argsS (ys:=[SU o b,SU none [255,254,0,0]]) ⟨leS_rfl,leS_le le_ro,trivial⟩ (rIsNo hb (by decide) (by decide) ?_))) | ( refine callD_mk (ACallF.argsS (ys:=[SU o b,SU none [254,255]]) ⟨leS_rfl,leS_le le_ro,trivial⟩ (rIsNo hb (by decide) (by decide) ?_))) | ( refine callD_mk (ACallF.argsS (ys:=[SU o b,SU none [255,254]]) ⟨leS_rfl,leS_le le_ro,trivial⟩ (rIsNo hb (by decide) (by decide) ?_))) | ( refine callD_mk (ACallF.argsS (ys:=[SU o b,SU none [239,187,191]]) ⟨leS_rfl,leS_le le_ro,trivial⟩ (rIsNo hb (by decide) (by decide) ?_))))
 all_goals first
  | exact leafL sub_rfl (leT_eq rfl) hK
  | (exfalso; omega)
theorem rForm {b : List Int} (hb : Asc b) (hK : K (.ret (.tup [I 1,I 0])) σ) : ACallF κ Tryz.prog 36 [SU o b] σ K:=by
 rcases Nat.lt_or_ge 1 b.length with h1 | h1
 ·rcases Nat.lt_or_ge 3 b.length with h3 | h3
  ·exact rFormL hb h3 hK
  ·exact rFormM hb h1 h3 hK
 ·exact rFormS hb h1 hK
theorem rPoints {b : List Int} (hb : Asc b) (hK : K (.ret (.tup [SI none b,I 0])) σ) : ACallF κ Tryz.prog 26 [SU o b] σ K:=by
 have hbl:=hb.1
 refine ACallF.dropL (ACallF_introA Tryz.func26 rfl ?_)
 simp only [Tryz.ntmps26]
 repeat' (first | (with_reducible first | refine AW_block ?_ | refine AW_seqA (AW_seqA ?_) | refine AW_seq ?_ | refine AW_runReg ?_ | refine AW_runCond ?_ | refine AW_runRet ?_) | simp only [WL,intF,WM,Int.reduceToNat,reduceCtorEq,WLb,Nat.reduceAdd,Nat.reduceSub,Nat.reduceLT,Bool.not_true,beq_self_eq_true,true_and,T5,T63,cok36,cok37,Tryz.results26] | (with_reducible first | refine andA (hb:=?_) | refine cD (rForm ?_ ?_) | refine cD (rSmall ?_ ?_)) | ((with_reducible first | refine grd_cases (fun h=>?_) (fun h=>?_) | refine condC_split (fun h=>?_) (fun h=>?_)) <;> (try simp only [h]) <;> (try simp only [NR_,NRb] at h)) | omega)
 exact leafL sub_rfl (leT_eq rfl) hK
theorem lLines {s : ByteArray} (hb : Asc (bytesI s)) (hK : K (.ret (SL none (readR (bytesI s)).1)) σ) : ACallF κ Tryz.prog 13 [.raw (.string s)] σ K:=by
 have hbl:=hb.1
 have hsz:=bytesI_len s
 refine ACallF.dropL (ACallF_intro Tryz.func13 rfl ?_)
 simp only [Tryz.ntmps13]
 repeat' (first | simp only [WL,WM,Nat.reduceAdd,Nat.reduceSub,Nat.reduceLT,true_and,convC_str,cok26,cok27,Tryz.results13] | (with_reducible first | refine y_str ?_ ?_ | refine cD (rPoints ?_ ?_) | refine cD (rLines ?_ ?_)) | omega | (refine maxLen_ok ?_; (first | omega | (simp only [LN_]; omega))))
 exact leafL sub_rfl (leT_eq rfl) hK
end Go.Proofs.YthkabaiamcjdbaaGreat
/-
 Chapter 13: nodes on one line,plain facts.
-/

namespace Go.Proofs.YthkabaiamcjdbaaGreat
open Go.Abs
abbrev oneL (T : List Int) : List Ln:=[(0,T)]
theorem blN_0 {l : List Int} (h : blankI (l.getD 0 0) = false) : blN l = 0:=by
 cases l with
 | nil=>rfl
 | cons c l =>
  unfold blN
  rw [List.takeWhile_cons,show blankI c = false from h]; rfl
end Go.Proofs.YthkabaiamcjdbaaGreat
/-
 Walks: chapter 13's laws: the example of the document.
-/



namespace Go.Proofs.YthkabaiamcjdbaaGreat
open Go.Abs
variable {κ : Ctx} {σ : List Res} {K : Ret → List Res → Prop} {o o' : Option (Option (Nat × Nat))}
abbrev al4T : List Int:=[97,58,32,49,10,98,58,10,45,32,99]
abbrev al4L : List Ln:=[(0,[97,58,32,49]),(0,[98,58]),(0,[45,32,99])]
abbrev sc4 (l : List Int) : EvV:=⟨7,textI l,.empty,.empty,1,false⟩
abbrev al4E : List EvV:=[openP 5 tp0,sc4 [97],sc4 [49],sc4 [98],openP 3 tp0,sc4 [99],shutE 4,shutE 6]
set_option maxRecDepth 4000 in
theorem alive4_doc : docP al4L 0 0 = .ok (al4E,3):=by kernel_rfl
set_option maxRecDepth 4000 in
theorem alive4_lines : (readR al4T).1 = al4L:=by decide
set_option maxRecDepth 4000 in
theorem al4_small : Small al4L:=⟨by decide,by decide⟩
set_option maxRecDepth 4000 in
theorem lNum4 {e : Int} (hK : K (.ret (I e)) σ) : ACallF κ Tryz.prog 14 [I e] σ K:=by
 refine ACallF.dropL (ACallF_intro Tryz.func14 rfl ?_)
 simp only [Tryz.ntmps14]
 repeat' (first | simp only [WL,WM,Nat.reduceAdd,Nat.reduceSub,true_and,Tryz.results14])
 exact leafL sub_rfl (leT_eq rfl) hK
set_option maxRecDepth 4000 in
theorem lAlive4 (hK : K (.ret (B true)) σ) : ACallF κ Tryz.prog 10 [] σ K:=by
 have hA : Asc (bytesI { data:=#[97,58,32,49,10,98,58,10,45,32,99] }):=⟨by decide,by decide⟩
 have hb : bytesI { data:=#[97,58,32,49,10,98,58,10,45,32,99] } = al4T:=by decide
 refine ACallF.dropL (ACallF_intro Tryz.func10 rfl ?_)
 simp only [Tryz.ntmps10]
 repeat' (first | ( with_reducible refine y_idx_row (hK:=?_)) | simp only [WL,intF,WM,Int.reduceToNat,reduceCtorEq,WLb,Nat.reduceAdd,Nat.reduceSub,Nat.reduceLT,Nat.reduceEqDiff,Bool.not_true,beq_self_eq_true,true_and,reduceIte,Bool.false_eq_true,T3,T24,fR fl26_0,cok12,cok13,cok14,Tryz.results10,hb,alive4_lines] | (with_reducible first | refine andA (hb:=?_) | refine y_load (hK:=?_) | refine cD (lLines hA ?_) | refine callD_mk (zNodeOk0 (ls:=al4L) alive4_doc al4_small (by decide) (by decide) (fun rb rc cs hrc=>?_)) | refine cD (lNum4 ?_)) | ((with_reducible first | refine grd_cases (fun h=>?_) (fun h=>?_) | refine condC_split (fun h=>?_) (fun h=>?_)) <;> (try simp only [h]) <;> (try simp only [NR_,NRb] at h)) | omega)
 all_goals first
  | exact leafL (sub_cons sub_rfl) (leT_eq rfl) hK
  | (exfalso; omega)
end Go.Proofs.YthkabaiamcjdbaaGreat
/-
 Chapter 13: places in lines,words,and what stands between them: plain facts.
-/

namespace Go.Proofs.YthkabaiamcjdbaaGreat
open Go.Abs
/-! ### Places, by what stands there -/
def At (ls : List Ln) (p : Int × Int) (l : List Int) : Prop:=0 ≤ p.1 ∧ p.1 < ls.length ∧ 0 ≤ p.2 ∧ 0 ≤ (ls.getD p.1.toNat (0,[])).1 ∧ (ls.getD p.1.toNat (0,[])).1 ≤ p.2 ∧ restF ls p = l
theorem at_mk {ls : List Ln} {i k : Int} {t : List Int} (h0 : 0 ≤ i) (h1 : i < ls.length) (h : ls.getD i.toNat (0,[]) = (k,t)) (hk : 0 ≤ k) : At ls (i,k) t:=by
 refine ⟨h0,h1,hk,by dsimp only; rw [h]; exact hk,by dsimp only; rw [h]; exact Int.le_refl _, ?_⟩
 rw [restF_in (by dsimp only; omega) (by dsimp only; omega) (by dsimp only; omega)]
 dsimp only
 rw [h]
 dsimp only
 rw [if_neg (by omega),show (min (k - max 0 k) (t.length : Int)).toNat = 0 by omega,List.drop_zero]
theorem At.step {ls : List Ln} {p : Int × Int} {a l : List Int} (h : At ls p (a ++ l)) : At ls (p.1,p.2 + (a.length : Nat)) l:=by
 obtain ⟨h1,h2,h3,h4,h5,h6⟩:=h
 refine ⟨h1,h2,by dsimp only; omega,h4,by dsimp only; omega, ?_⟩
 rw [restF_in (by omega) (by omega) (by omega),if_neg (by omega)] at h6
 rw [restF_in (by dsimp only; omega) (by dsimp only; omega) (by dsimp only; omega)]
 dsimp only at *
 generalize ls.getD p.1.toNat (0,[]) = x at *
 rw [if_neg (by omega)]
 have hl:=congrArg List.length h6
 rw [List.length_drop,List.length_append] at hl
 rw [show (min (p.2 + (a.length : Nat) - max 0 x.1) (x.2.length : Int)).toNat = (min (p.2 - max 0 x.1) (x.2.length : Int)).toNat + a.length by omega,← List.drop_drop,h6,List.drop_left]
theorem blN_app {b r : List Int} (hb : ∀ c ∈ b,blankI c = true) (hr : r.length = 0 ∨ blankI (r.getD 0 0) = false) : blN (b ++ r) = b.length:=by
 have h0 : blN r = 0:=by
  rcases hr with h | h
  ·rw [List.length_eq_zero_iff.1 h]; rfl
  ·exact blN_0 h
 unfold blN at *
 rw [List.takeWhile_append_of_pos hb,List.length_append,h0,Nat.add_zero]
theorem At.past {ls : List Ln} {p : Int × Int} {b r : List Int} (h : At ls p (b ++ r)) (hb : ∀ c ∈ b,blankI c = true) (hr : r.length = 0 ∨ blankI (r.getD 0 0) = false) : pastF ls p = ((p.1,p.2 + (b.length : Nat)),r):=by
 have hc : colF ls p = p.2:=by
  obtain ⟨h1,h2,h3,h4,h5,h6⟩:=h
  unfold colF
  rw [if_pos ⟨h1,h2⟩]; omega
 unfold pastF
 rw [hc,show ((p.1,p.2) : Int × Int) = p from rfl,h.2.2.2.2.2,blN_app hb hr,List.drop_left]
theorem past_line {ls : List Ln} {i k : Int} {t : List Int} (h0 : 0 ≤ i) (h1 : i < ls.length) (h : ls.getD i.toNat (0,[]) = (k,t)) (hk : 0 ≤ k) : pastF ls (i,0) = pastF ls (i,k):=by
 have hc : colF ls (i,0) = k:=by unfold colF; rw [if_pos ⟨h0,h1⟩]; dsimp only; rw [h]; dsimp only; omega
 have hc' : colF ls (i,k) = k:=by unfold colF; rw [if_pos ⟨h0,h1⟩]; dsimp only; rw [h]; dsimp only; omega
 unfold pastF
 rw [hc,hc']
theorem some_here {ls : List Ln} {p : Int × Int} {b r : List Int} (h : At ls p (b ++ r)) (hb : ∀ c ∈ b,blankI c = true) (h0 : 0 < r.length) (h1 : blankI (r.getD 0 0) = false) (h2 : ¬ r.getD 0 0 = 35) : someF ls p = ((p.1,p.2 + (b.length : Nat)),true):=by
 unfold someF
 rw [h.past hb (.inr h1)]
 dsimp only
 have hc : comF ls (p.1,p.2 + (b.length : Nat)) r = false:=by
  unfold comF headF
  rw [beq_eq_false_iff_ne.2 h2,Bool.and_false,Bool.false_and]
 rw [decide_eq_true h0,hc]; rfl
theorem on_some {ls : List Ln} {n : Int} {p q : Int × Int} (h : someF ls p = (q,true)) (hq : q.1 = p.1) : onF ls n p = some (some q):=by
 unfold onF
 rw [places_step,h]
 show onL _ _ _ ((q,true) :: _) = _
 unfold onL
 rw [if_pos rfl,if_neg (by omega)]
/-! ### Texts and their lines -/
def cutL : List Int → List Int × List (List Int)
 | []=>([],[])
 | c :: t=>if c = 10 then ([],(cutL t).1 :: (cutL t).2) else (c :: (cutL t).1,(cutL t).2)
theorem cut_nl {t : List Int} : cutL (10 :: t) = ([],(cutL t).1 :: (cutL t).2):=by rw [cutL,if_pos rfl]
theorem cut_c {c : Int} {t : List Int} (h : ¬ c = 10) : cutL (c :: t) = (c :: (cutL t).1,(cutL t).2):=by rw [cutL,if_neg h]
theorem cut_app : ∀ {a t : List Int},(∀ c ∈ a,¬ c = 10) → cutL (a ++ t) = (a ++ (cutL t).1,(cutL t).2)
 | [],t,_=>rfl
 | c :: a,t,h=>by rw [List.cons_append,cut_c (h c (by simp)),cut_app (fun x hx=>h x (by simp [hx]))]; rfl
theorem tx_cut : ∀ (T acc : List Int),(∀ c ∈ T,¬ c = 13) → 0 < T.length → ¬ T.getD (T.length - 1) 0 = 10 → tx acc T = (acc ++ (cutL T).1) :: (cutL T).2
 | [],_,_,h,_=>by simp at h
 | [c],acc,h13,_,hl=>by
  have h1 : ¬ c = 10:=by simpa using hl
  have h2:=h13 c (by simp)
  have hb : brk c = false:=by simp [brk,h1,h2]
  rw [cut_c h1]
  simp [tx,hb,cutL]
 | c :: d :: r,acc,h13,_,hl=>by
  have h2:=h13 c (by simp)
  have ih:=tx_cut (d :: r) (if c = 10 then [] else acc ++ [c]) (fun x hx=>h13 x (by simp at hx ⊢; exact .inr hx)) (by simp) (by simpa using hl)
  by_cases h : c = 10
  ·subst h
   rw [if_pos rfl,List.nil_append] at ih
   rw [cut_nl,tx_brk (by decide) (by simp),ih,List.append_nil]
  ·rw [if_neg h] at ih
   have hb : brk c = false:=by simp [brk,h,h2]
   rw [cut_c h,tx_push hb,ih]
   simp
def Tx (ls : List Ln) (p : Int × Int) (t : List Int) : Prop:=At ls p (cutL t).1 ∧ ls.drop (p.1.toNat + 1) = (cutL t).2.map lineOf
theorem Tx.step {ls : List Ln} {p : Int × Int} {a t : List Int} (h : Tx ls p (a ++ t)) (ha : ∀ c ∈ a,¬ c = 10) : Tx ls (p.1,p.2 + (a.length : Nat)) t:=by
 obtain ⟨h1,h2⟩:=h
 rw [cut_app ha] at h1 h2
 exact ⟨h1.step,h2⟩
theorem Tx.line {ls : List Ln} {p : Int × Int} {t l : List Int} {m : List (List Int)} (h : Tx ls p t) (hc : (cutL t).2 = l :: m) : 0 ≤ p.1 + 1 ∧ p.1 + 1 < ls.length ∧ ls.getD (p.1 + 1).toNat (0,[]) = lineOf l ∧ ls.drop ((p.1 + 1).toNat + 1) = m.map lineOf:=by
 obtain ⟨⟨h1,h2,-⟩,h3⟩:=h
 rw [hc,List.map_cons] at h3
 have hk : (p.1 + 1).toNat = p.1.toNat + 1:=by omega
 have hl:=congrArg List.length h3
 rw [List.length_drop,List.length_cons] at hl
 refine ⟨by omega,by omega, ?_, ?_⟩
 ·rw [hk,List.getD_eq_getElem?_getD,← List.head?_drop,h3]; rfl
 ·rw [hk,← List.drop_drop,h3]; rfl
theorem lineOf_in {k : Nat} {l : List Int} (h : l.length = 0 ∨ ¬ l.getD 0 0 = 32) : lineOf (List.replicate k 32 ++ l) = ((k : Int),l):=by
 have h1 : (List.replicate k (32 : Int) ++ l).takeWhile (· == 32) = List.replicate k 32 ++ l.takeWhile (· == 32):=List.takeWhile_append_of_pos (fun c hc=>by rw [(List.mem_replicate.1 hc).2]; rfl)
 have h2 : (List.replicate k (32 : Int) ++ l).dropWhile (· == 32) = l.dropWhile (· == 32):=List.dropWhile_append_of_pos (fun c hc=>by rw [(List.mem_replicate.1 hc).2]; rfl)
 have h3 : l.takeWhile (· == 32) = [] ∧ l.dropWhile (· == 32) = l:=by
  cases l with
  | nil=>exact ⟨rfl,rfl⟩
  | cons c l =>
   have hc : ¬ c = 32:=by rcases h with h | h; simp at h; simpa using h
   have he : (c == 32) = false:=beq_eq_false_iff_ne.2 hc
   exact ⟨by rw [List.takeWhile_cons,if_neg (by rw [he]; exact Bool.false_ne_true)],by rw [List.dropWhile_cons,if_neg (by rw [he]; exact Bool.false_ne_true)]⟩
 unfold lineOf
 rw [h1,h2,h3.1,h3.2,List.append_nil,List.length_replicate]
theorem over_no {ls : List Ln} {i k : Int} {t : List Int} (h1 : i < ls.length) (h : ls.getD i.toNat (0,[]) = (k,t)) (hm : ¬ k = 0 ∨ t.length = 0) : overF ls i = false:=by
 unfold overF
 rw [decide_eq_false (by omega),h]
 have : markerI k t = 0:=by unfold markerI; rw [if_neg (by rintro ⟨h1,h2,-⟩; omega)]
 rw [this]; rfl
def Beg (c : Int) : Prop:=blankI c = false ∧ ¬ c = 35 ∧ ¬ c = 10
def Lets (w : List Int) : Prop:=∀ c ∈ w,97 ≤ c ∧ c ≤ 122
def Blks (b : List Int) : Prop:=∀ c ∈ b,blankI c = true
theorem blank_or {c : Int} (h : blankI c = true) : c = 32 ∨ c = 9:=by
 unfold blankI at h
 simpa using h
theorem stopsN_skip {fl : Bool} : ∀ {x r : List Int} {i : Nat},(∀ c ∈ x,stopC fl c = false) → stopsN fl i (x ++ r) = stopsN fl (i + x.length) r
 | [],r,i,_=>rfl
 | c :: x,r,i,h=>by
  rw [List.cons_append,stopsN,h c (by simp),if_neg Bool.false_ne_true,stopsN_skip (fun c hc=>h c (by simp [hc]))]
  congr 1
  simp; omega
theorem getD_app {x r : List Int} {i : Nat} : (x ++ r).getD (x.length + i) 0 = r.getD i 0:=by
 simp only [List.getD_eq_getElem?_getD]
 rw [List.getElem?_append_right (by omega)]
 congr 2; omega
theorem safe_app {x r : List Int} {i : Nat} {fl : Bool} : safeAt (x ++ r) (x.length + i) fl = safeAt r i fl:=by
 unfold safeAt
 rw [getD_app,List.length_append]
 congr 1
 exact decide_eq_decide.2 (by omega)
def Stop (fl : Bool) (b r : List Int) : Prop:=r = [] ∨ ∃ c r',r = c :: r' ∧ (fl = true ∧ flowI c = true ∨ c = 58 ∧ safeAt r 1 fl = false ∨ c = 35 ∧ 0 < b.length)
theorem stop_word {w b r : List Int} {fl : Bool} (hw : Lets w) (hb : Blks b) (hr : Stop fl b r) : stopI (w ++ (b ++ r)) fl = (w ++ b).length:=by
 have hx : ∀ c ∈ w ++ b,stopC fl c = false:=fun c hc=>by
  rcases List.mem_append.1 hc with h | h
  ·have:=hw c h
   refine stopC_f (by omega) (by omega) (.inr ?_)
   unfold flowI; simp; omega
  ·rcases blank_or (hb c h) with rfl | rfl
   ·exact stopC_f (by decide) (by decide) (.inr (by decide))
   ·exact stopC_f (by decide) (by decide) (.inr (by decide))
 unfold stopI
 rw [stopsAt,List.drop_zero,← List.append_assoc,stopsN_skip hx,Nat.zero_add]
 rcases hr with rfl | ⟨c,r',rfl,h⟩
 ·rw [List.append_nil]; rfl
 ·have hs : stopC fl c = true:=stopC_t (by
   rcases h with ⟨h1,h2⟩ | ⟨h,-⟩ | ⟨h,-⟩
   ·exact .inr (.inr ⟨h1,h2⟩)
   ·exact .inl h
   ·exact .inr (.inl h))
  have h0 : (w ++ b ++ c :: r').getD (w ++ b).length 0 = c:=by
   have:=getD_app (x:=w ++ b) (r:=c :: r') (i:=0)
   rw [Nat.add_zero,List.getD_cons_zero] at this
   exact this
  rw [stopsN,if_pos hs,stopL,if_neg]
  rw [goes_f]
  ·exact Bool.false_ne_true
  ·rcases h with ⟨-,h2⟩ | ⟨-,h⟩ | ⟨h,-⟩
   ·refine .inl (by rw [h0]; intro e; rw [e] at h2; cases h2)
   ·exact .inr (by rw [safe_app]; exact h)
   ·exact .inl (by rw [h0,h]; decide)
  ·rcases h with ⟨-,h2⟩ | ⟨h,-⟩ | ⟨-,h⟩
   ·refine .inl (by rw [h0]; intro e; rw [e] at h2; cases h2)
   ·exact .inl (by rw [h0,h]; decide)
   ·refine .inr ⟨by rw [List.length_append]; omega, ?_⟩
    have hi : (w ++ b).length - 1 < (w ++ b).length:=by rw [List.length_append]; omega
    rw [List.getD_eq_getElem?_getD,List.getElem?_append_left hi]
    have hi2 : (w ++ b).length - 1 = w.length + (b.length - 1):=by rw [List.length_append]; omega
    rw [hi2,List.getElem?_append_right (by omega),show w.length + (b.length - 1) - w.length = b.length - 1 by omega,List.getElem?_eq_getElem (by omega)]
    exact hb _ (List.getElem_mem _)
theorem back_word {w b : List Int} (hw : Lets w) (hb : Blks b) : backI (w ++ b) = w:=by
 unfold backI
 rw [List.reverse_append,List.dropWhile_append_of_pos (fun c hc=>hb c (List.mem_reverse.1 hc))]
 have : w.reverse.dropWhile blankI = w.reverse:=by
  cases hr : w.reverse with
  | nil=>rfl
  | cons c r =>
   have hc:=hw c (List.mem_reverse.1 (by rw [hr]; simp))
   have : blankI c = false:=by unfold blankI; simp; omega
   rw [List.dropWhile_cons,if_neg (by rw [this]; exact Bool.false_ne_true)]
 rw [this,List.reverse_reverse]
theorem end_word {w b r : List Int} {fl : Bool} (hw : Lets w) (hb : Blks b) (hr : Stop fl b r) : endI (w ++ (b ++ r)) fl = w.length:=by
 unfold endI
 rw [stop_word hw hb hr,← List.append_assoc,List.take_left,back_word hw hb]
theorem letter_ok : ∀ k : Fin 26,∀ fl : Bool,safeI (97 + (k.val : Int)) fl = true ∧ signI (97 + (k.val : Int)) = false:=by decide +kernel
theorem letter {c : Int} (h : 97 ≤ c ∧ c ≤ 122) (fl : Bool) : safeI c fl = true ∧ signI c = false:=by
 have:=letter_ok ⟨(c - 97).toNat,by omega⟩ fl
 rw [show 97 + (((⟨(c - 97).toNat,by omega⟩ : Fin 26).val : Nat) : Int) = c by dsimp only; omega] at this
 exact this
theorem word_begins {w r : List Int} {fl : Bool} (hw : Lets w) (h0 : 0 < w.length) : beginsI (w ++ r) fl = true:=by
 cases w with
 | nil=>simp at h0
 | cons c w =>
  have hc:=hw c (by simp)
  obtain ⟨h1,h2⟩:=letter hc fl
  unfold beginsI safeAt
  simp only [List.cons_append,List.getD_cons_zero,List.length_cons]
  rw [h1,h2,if_neg (by omega)]
  simp
theorem let_beg {c : Int} (h : 97 ≤ c ∧ c ≤ 122) : Beg c:=⟨by unfold blankI; simp; omega,by omega,by omega⟩
theorem word_node {ls : List Ln} {n d : Int} {bk : Bool} {N : Nat → Int × Int → NodeR} {k : Nat} {q : Int × Int} {w b r : List Int} (hA : At ls q (w ++ (b ++ r))) (hw : Lets w) (h0 : 0 < w.length) (hb : Blks b) (hr : Stop (!(bk && decide (k = 0))) b r)
  (hf : (∃ c r',r = c :: r' ∧ blankI c = false) ∨ (furtherF ls n (bk && decide (k = 0)) q.1).2 = false) : nodeS ls n d bk N k q = .ok ([⟨7,textI w,.empty,.empty,1,false⟩],(q.1,q.2 + (w.length : Nat)),false):=by
 have hq:=hA.2.2.2.2.2
 have hstep:=hA.step
 have hbegin:=word_begins (r:=b ++ r) (fl:=!(bk && decide (k = 0))) hw h0
 have hen:=end_word hw hb hr
 have hhead : ∀ x : Int,¬ (97 ≤ x ∧ x ≤ 122) → headF (w ++ (b ++ r)) x = false:=fun x hx=>by
  cases w with
  | nil=>simp at h0
  | cons c w =>
   have hc:=hw c (by simp)
   unfold headF
   simp only [List.cons_append,List.getD_cons_zero]
   rw [beq_eq_false_iff_ne.2 (by omega),Bool.and_false]
 have hon : onF ls n q = some (some q):=by
  cases w with
  | nil=>simp at h0
  | cons c w =>
   have hB:=let_beg (hw c (by simp))
   have:=on_some (n:=n) (some_here (b:=[]) (by exact hA) (fun c hc=>by simp at hc) (by simp) (by simp only [List.cons_append,List.getD_cons_zero]; exact hB.1) (by simp only [List.cons_append,List.getD_cons_zero]; exact hB.2.1)) rfl
   rw [this]; simp
 have htr : traitsF ls n q = .ok (tr0,q,true):=by
  unfold traitsF
  rw [hon]
  dsimp only
  exact traitsG_end (traitF_no (by rw [hq]; exact hhead _ (by decide)) (by rw [hq]; exact hhead _ (by decide)))
 have hpast : ¬ ((pastF ls (q.1,q.2 + (w.length : Nat))).2.length = 0 ∧ (furtherF ls n (bk && decide (k = 0)) q.1).2 = true):=by
  rintro ⟨h1,h2⟩
  rcases hf with ⟨c,r',rfl,hc⟩ | hf
  ·rw [hstep.past hb (.inr (by rw [List.getD_cons_zero]; exact hc))] at h1
   simp at h1
  ·rw [hf] at h2; cases h2
 have hpl : plainF ls n (bk && decide (k = 0)) q (w ++ (b ++ r)) = .ok (w,(q.1,q.2 + (w.length : Nat))):=by
  unfold plainF
  rw [plainN_eq,hen,if_neg (by simp),if_neg hpast]
  dsimp only
  rw [List.nil_append,List.take_left,flowF_one]
 unfold nodeS
 rw [htr]
 dsimp only
 rw [if_pos rfl,hq]
 unfold bodyF
 rw [hhead 42 (by decide),hhead 34 (by decide),hhead 39 (by decide),hhead 91 (by decide),hhead 123 (by decide)]
 rw [if_neg Bool.false_ne_true,if_neg (by simp),if_neg (by simp),if_pos ⟨by rw [List.length_append]; omega,hbegin⟩,hpl]
abbrev wordE (w : List Int) : EvV:=⟨7,textI w,.empty,.empty,1,false⟩
theorem Tx.rest {ls : List Ln} {q : Int × Int} {c : Int} {t : List Int} (h : Tx ls q (c :: t)) (hc : ¬ c = 10) : restF ls q = c :: (cutL t).1:=by
 have:=h.1.2.2.2.2.2
 rw [cut_c hc] at this
 exact this
theorem Tx.is {ls : List Ln} {q : Int × Int} {c x : Int} {t : List Int} (h : Tx ls q (c :: t)) (hc : ¬ c = 10) : isF ls q x = (c == x):=by
 unfold isF headF
 rw [h.rest hc]
 simp
theorem Tx.next {ls : List Ln} {q : Int × Int} {c : Int} {t : List Int} (h : Tx ls q (c :: t)) (hc : ¬ c = 10) : Tx ls (q.1,q.2 + 1) t:=h.step (a:=[c]) (fun x hx=>by simp at hx; omega)
theorem Tx.one {T : List Int} (h : ∀ c ∈ T,¬ c = 10) : Tx (oneL T) (0,0) T:=by
 have e:=cut_app (t:=[]) h
 rw [List.append_nil] at e
 have e1 : (cutL T).1 = T:=by rw [e]; exact List.append_nil _
 have e2 : (cutL T).2 = []:=by rw [e]; rfl
 exact ⟨by rw [e1]; exact at_mk (Int.le_refl 0) (by simp) rfl (Int.le_refl 0),by rw [e2]; rfl⟩
/-! ### Long keys -/
abbrev xs (n : Nat) : List Int:=List.replicate n 120
theorem rest_mk {ls : List Ln} {i c k : Int} {T b r : List Int} (hl : lineP ls i = (k,T)) (hk : k ≤ c) (hd : T.drop (c - k).toNat = b ++ r) (hb : Blks b) (hr : r.length = 0 ∨ blankI (r.getD 0 0) = false ∧ ¬ r.getD 0 0 = 35) : restP ls i c = (r,c + (b.length : Nat)):=by
 have hc : cutP ls i c = b ++ r:=by
  unfold cutP
  rw [hl]
  dsimp only
  rw [show max c k = c by omega]
  rcases Nat.lt_or_ge T.length (c - k).toNat with h | h
  ·rw [List.drop_eq_nil_of_le (by omega)] at hd
   rw [List.drop_eq_nil_of_le (by omega)]; exact hd
  ·rw [show (min (c - k) (T.length : Int)).toNat = (c - k).toNat by omega]; exact hd
 have hn : blN (b ++ r) = b.length:=blN_app hb (by rcases hr with h | h; exact .inl h; exact .inr h.1)
 have hh : headF r 35 = false:=by
  rcases hr with h | h
  ·exact headF_0 h
  ·exact headF_f h.2
 unfold restP
 rw [hc,hn,List.drop_left,hl,hh]
 dsimp only
 rw [show max c k = c by omega,if_neg (by rintro ⟨h,-⟩; cases h)]
theorem next_over {ls : List Ln} {i : Int} (h : (ls.length : Int) ≤ i) : nextP ls i = .ok (i,false):=by
 have hb : nextB ls ls.length i = i:=by
  cases ls.length with
  | zero=>rfl
  | succ f=>rw [nextB,if_neg (by omega)]
 have ho : overF ls i = true:=by unfold overF; rw [decide_eq_true h]; rfl
 unfold nextP
 rw [hb,ho,if_pos rfl]
theorem next_line {ls : List Ln} {i k : Int} {c : Int} {t : List Int} (h : i < ls.length) (hl : lineP ls i = (k,c :: t)) (hc : Beg c) (ho : overF ls i = false) : nextP ls i = .ok (i,true):=by
 have hb : nextB ls ls.length i = i:=by
  cases hn : ls.length with
  | zero=>rfl
  | succ f =>
   have hbl:=hc.1
   rw [nextB,if_neg (by
    rintro ⟨-,h2⟩
    rw [hl] at h2
    unfold bareI at h2
    rw [List.all_cons,hbl,Bool.false_and,Bool.false_or,List.dropWhile_cons,if_neg (by rw [hbl]; exact Bool.false_ne_true),List.getD_cons_zero] at h2
    exact hc.2.1 (beq_iff_eq.1 h2))]
 unfold nextP
 rw [hb,ho,if_neg Bool.false_ne_true,hl,if_neg]
 rw [List.getD_cons_zero]
 intro e
 have:=hc.1
 rw [e] at this
 cases this
abbrev levN (ls : List Ln) (f : Nat) (d : Int) : Int → Int → Int → Bool → PR:=fun i c n pair=>levP ls f d n pair i c (!pair) tp0
end Go.Proofs.YthkabaiamcjdbaaGreat
/-
 Walks: chapter 13's law FlowDeep.
-/


namespace Go.Proofs.YthkabaiamcjdbaaGreat
open Go.Abs
variable {κ : Ctx} {σ : List Res} {K : Ret → List Res → Prop} {o o' : Option (Option (Nat × Nat))}
set_option maxRecDepth 4000 in
theorem lf_e : ({ data:=#[] } : ByteArray) = textI []:=by decide +kernel
set_option maxRecDepth 4000 in
theorem asc_text {l : List Int} (h : Asc l) : bytesI (textI l) = l:=by
 rw [bytesI_text]
 exact encL_ascii (fun c hc=>by have:=h.2 c hc; omega)
set_option maxRecDepth 4000 in
theorem str_add3 {x y : ByteArray} {v : Option Value} (h : x.size + y.size ≤ 1000000000) : (if ((x.size + y.size : Nat) : Int) > IntKind.i64.max then none else v) = v:=by
 rw [if_neg]
 have : IntKind.i64.max = 9223372036854775807:=by decide
 omega
end Go.Proofs.YthkabaiamcjdbaaGreat
/-
 Chapter 13: lists of words: plain facts.
-/

namespace Go.Proofs.YthkabaiamcjdbaaGreat
open Go.Abs
def CharsW (T : List Int) : Prop:=∀ c ∈ T,c = 9 ∨ c = 10 ∨ 32 ≤ c ∧ c ≤ 126
theorem CharsW.app {a b : List Int} (ha : CharsW a) (hb : CharsW b) : CharsW (a ++ b):=fun c hc=>by rcases List.mem_append.1 hc with h | h; exact ha c h; exact hb c h
end Go.Proofs.YthkabaiamcjdbaaGreat
/-
 Walks: chapter 14's law ParserDeep.
-/




namespace Go.Proofs.YthkabaiamcjdbaaGreat
open Go.Abs
variable {κ : Ctx} {σ : List Res} {K : Ret → List Res → Prop} {o o' : Option (Option (Nat × Nat))}
end Go.Proofs.YthkabaiamcjdbaaGreat
/-
 Chapter 14: lists that stand in each other by their columns: plain facts.
-/

namespace Go.Proofs.YthkabaiamcjdbaaGreat
open Go.Abs
abbrev En:=Nat × Bool
def enL (w : Nat) (e : En) : Ln:=((w * (e.1 - 1) : Nat),if e.2 = true then [45,32,119] else [45])
def layL (w : Nat) (bare : Bool) : List En → List Ln
 | []=>[]
 | e :: r=>(if bare = true then [(2,[35,32,99]),(0,[])] else []) ++ enL w e :: layL w bare r
abbrev wE : EvV:=wordE [119]
inductive Blk : Nat → List En → List EvV → List En → Prop
 | last {D : Nat} : Blk D [(D,true)] [wE] []
 | back {D : Nat} {b : Bool} {r : List En} (hD : 0 < D) : Blk (D + 1) ((D + 1,true) :: (D,b) :: r) [wE] ((D,b) :: r)
 | same {D : Nat} {b : Bool} {r rest : List En} {ev : List EvV} (h : Blk D ((D,b) :: r) ev rest) : Blk D ((D,true) :: (D,b) :: r) (wE :: ev) rest
 | deep {D : Nat} {r : List En} {ev : List EvV} (h : Blk (D + 1) r ev []) : Blk D ((D,false) :: r) (openP 3 tp0 :: (ev ++ [shutE 4])) []
 | more {D : Nat} {b : Bool} {r r2 rest : List En} {ev ev2 : List EvV} (h : Blk (D + 1) r ev ((D,b) :: r2)) (h2 : Blk D ((D,b) :: r2) ev2 rest) : Blk D ((D,false) :: r) ((openP 3 tp0 :: (ev ++ [shutE 4])) ++ ev2) rest
theorem Blk.head {D : Nat} {es rest : List En} {ev : List EvV} (h : Blk D es ev rest) : ∃ b r,es = (D,b) :: r:=by
 cases h <;> exact ⟨_,_,rfl⟩
def OnL (w : Nat) (bare : Bool) (ls : List Ln) (i : Int) (es : List En) : Prop:=0 ≤ i ∧ i ≤ ls.length ∧ ls.drop i.toNat = layL w bare es
theorem OnL.nil {w : Nat} {bare : Bool} {ls : List Ln} {i : Int} (h : OnL w bare ls i []) : (ls.length : Int) ≤ i:=by
 obtain ⟨h1,h2,h3⟩:=h
 have:=congrArg List.length h3
 rw [List.length_drop] at this
 simp [layL] at this
 omega
abbrev atL (bare : Bool) (i : Int) : Int:=if bare = true then i + 2 else i
theorem line_drop {ls l : List Ln} {i : Int} {x : Ln} (h0 : 0 ≤ i) (h : ls.drop i.toNat = x :: l) : lineP ls i = x ∧ i < ls.length ∧ ls.drop (i + 1).toNat = l:=by
 have hl:=congrArg List.length h
 rw [List.length_drop,List.length_cons] at hl
 refine ⟨?_,by omega, ?_⟩
 ·show ls.getD i.toNat (0,[]) = x
  rw [List.getD_eq_getElem?_getD,← List.head?_drop,h]; rfl
 ·rw [show (i + 1).toNat = i.toNat + 1 by omega,← List.drop_drop,h]; rfl
theorem OnL.line {w : Nat} {bare : Bool} {ls : List Ln} {i : Int} {e : En} {r : List En} (h : OnL w bare ls i (e :: r)) : lineP ls (atL bare i) = enL w e ∧ atL bare i < ls.length ∧ OnL w bare ls (atL bare i + 1) r ∧ nextP ls i = .ok (atL bare i,true):=by
 obtain ⟨h1,h2,h3⟩:=h
 have hE : Beg (45 : Int):=⟨by decide,by decide,by decide⟩
 have key : ∀ j : Int,0 ≤ j → ls.drop j.toNat = enL w e :: layL w bare r → lineP ls j = enL w e ∧ j < ls.length ∧ OnL w bare ls (j + 1) r ∧ overF ls j = false:=fun j hj hd=>by
  obtain ⟨l1,l2,l3⟩:=line_drop hj hd
  refine ⟨l1,l2,⟨by omega,by omega,l3⟩, ?_⟩
  unfold overF
  rw [decide_eq_false (by omega)]
  have : markerI (lineP ls j).1 (lineP ls j).2 = 0:=by
   rw [l1]
   unfold markerI enL
   rw [if_neg]
   rintro ⟨-,g1,g2,-⟩
   dsimp only at g1 g2
   split at g1 <;> rename_i hb
   ·rw [if_pos hb] at g2; simp at g2
   ·simp at g1
  show (false || !(markerI (lineP ls j).1 (lineP ls j).2 == 0)) = false
  rw [this]; rfl
 have hnx : ∀ j : Int,lineP ls j = enL w e → j < ls.length → overF ls j = false → nextP ls j = .ok (j,true):=fun j l1 l2 l4=>by
  refine next_line (k:=((w * (e.1 - 1) : Nat) : Int)) (c:=45) (t:=if e.2 = true then [32,119] else []) l2 (by rw [l1]; unfold enL; split <;> rename_i hb <;> simp [hb]) hE l4
 cases bare with
 | false =>
  have h3 : ls.drop i.toNat = enL w e :: layL w false r:=h3
  obtain ⟨l1,l2,l3,l4⟩:=key i h1 h3
  exact ⟨l1,l2,l3,hnx i l1 l2 l4⟩
 | true =>
  have h3 : ls.drop i.toNat = (2,[35,32,99]) :: (0,[]) :: enL w e :: layL w true r:=h3
  obtain ⟨a1,a2,a3⟩:=line_drop h1 h3
  obtain ⟨b1,b2,b3⟩:=line_drop (by omega) a3
  rw [show i + 1 + 1 = i + 2 by omega] at b3
  obtain ⟨l1,l2,l3,l4⟩:=key (i + 2) (by omega) b3
  refine ⟨l1,l2,l3, ?_⟩
  have hn:=hnx (i + 2) l1 l2 l4
  show nextP ls i = .ok (i + 2,true)
  have hB : nextB ls ls.length i = nextB ls (ls.length - 2) (i + 2):=by
   obtain ⟨n,hn⟩ : ∃ n,ls.length = n + 2:=⟨ls.length - 2,by omega⟩
   rw [hn,Nat.add_sub_cancel,show n + 2 = (n + 1) + 1 from rfl,nextB,if_pos ⟨by omega,by rw [a1]; decide⟩,nextB,if_pos ⟨by omega,by rw [b1]; decide⟩,show i + 1 + 1 = i + 2 by omega]
  have hS : ∀ f,nextB ls f (i + 2) = i + 2:=fun f=>by
   cases f with
   | zero=>rfl
   | succ f =>
    rw [nextB,if_neg]
    rintro ⟨-,g⟩
    rw [l1] at g
    unfold enL at g
    dsimp only at g
    split at g <;> revert g <;> decide
  unfold nextP at hn ⊢
  rw [hS] at hn
  rw [hB,hS]
  exact hn
theorem let_traits {ls : List Ln} {n c : Int} {q : Int × Int} {t : List Int} (h : At ls q (c :: t)) (hc : 97 ≤ c ∧ c ≤ 122) : traitsF ls n q = .ok (tr0,q,true):=by
 have hB:=let_beg hc
 have hr : restF ls q = c :: t:=h.2.2.2.2.2
 have hh : ∀ x : Int,¬ c = x → headF (c :: t) x = false:=fun x hx=>headF_f (by rw [List.getD_cons_zero]; exact hx)
 have hon : onF ls n q = some (some q):=by
  have:=on_some (n:=n) (some_here (b:=[]) (by exact h) (fun c hc=>by simp at hc) (by simp) (by rw [List.getD_cons_zero]; exact hB.1) (by rw [List.getD_cons_zero]; exact hB.2.1)) rfl
  rw [this]; simp
 unfold traitsF
 rw [hon]
 dsimp only
 exact traitsG_end (traitF_no (by rw [hr]; exact hh _ (by omega)) (by rw [hr]; exact hh _ (by omega)))
theorem props_let {ls : List Ln} {i c x : Int} {t : List Int} (h : At (aloneF ls i) (0,c) (x :: t)) (hx : 97 ≤ x ∧ x ≤ 122) : propsP ls i c = .ok (tp0,c):=by
 unfold propsP
 rw [let_traits h hx]
 dsimp only
 rw [show anyT tr0 = false by kernel_rfl,if_neg Bool.false_ne_true]
theorem alone_at {ls : List Ln} {i k c : Int} {T r : List Int} (hi : 0 ≤ i ∧ i < ls.length) (hl : lineP ls i = (k,T)) (hk : 0 ≤ k ∧ k ≤ c) (hd : T.drop (c - k).toNat = r) (hn : (c - k).toNat ≤ T.length) : At (aloneF ls i) (0,c) r ∧ At ls (i,c) r:=by
 have ha : aloneF ls i = [(k,T)]:=by
  unfold aloneF
  rw [if_pos hi]
  exact congrArg (fun x=>[x]) hl
 have e1 : T = T.take (c - k).toNat ++ r:=by rw [← hd,List.take_append_drop]
 have el : (T.take (c - k).toNat).length = (c - k).toNat:=by rw [List.length_take]; omega
 refine ⟨?_, ?_⟩
 ·have h:=At.step (a:=T.take (c - k).toNat) (l:=r) (at_mk (ls:=aloneF ls i) (i:=0) (k:=k) (t:=T.take (c - k).toNat ++ r) (Int.le_refl 0) (by rw [ha]; simp) (by rw [ha,← e1]; rfl) hk.1)
  dsimp only at h
  rw [el,show k + (((c - k).toNat : Nat) : Int) = c by omega] at h
  exact h
 ·have h:=At.step (a:=T.take (c - k).toNat) (l:=r) (at_mk (ls:=ls) (i:=i) (k:=k) (t:=T.take (c - k).toNat ++ r) hi.1 hi.2 (by rw [← e1]; exact hl) hk.1)
  dsimp only at h
  rw [el,show k + (((c - k).toNat : Nat) : Int) = c by omega] at h
  exact h
theorem key_none {ls : List Ln} {c x : Int} {w : List Int} (hA : At ls (0,c) (w ++ ([] ++ []))) (hw : Lets w) (h0 : 0 < w.length) (hf : (furtherF ls (-1) true 0).2 = false) : keyF ls c = none:=by
 have hr : restF ls (0,c) = w:=by have:=hA.2.2.2.2.2; simpa using this
 unfold keyF
 rw [hr,if_neg (by
  rintro (h | h)
  ·omega
  ·cases w with
   | nil=>simp at h0
   | cons y w =>
    rw [List.getD_cons_zero] at h
    rw [(let_beg (hw y (by simp))).1] at h
    cases h)]
 have hn : wholeF ls (-1) 0 true (0,c) = .ok ([wordE w],(0,c + (w.length : Nat)),false):=by
  unfold wholeF
  rw [show nodeF ls (-1) 0 true 200 0 (0,c) = nodeS _ _ _ _ (nodeF ls (-1) 0 true 199) 0 (0,c) from rfl]
  exact word_node (n:=-1) (d:=0) (bk:=true) (k:=0) hA hw h0 (fun c hc=>by simp at hc) (.inl rfl) (.inr hf)
 rw [hn]
 dsimp only
 have hp:=(At.step (a:=w) hA).past (b:=[]) (r:=[]) (fun c hc=>by simp at hc) (.inl rfl)
 rw [hp]
 dsimp only
 rw [colon_f (.inl rfl),if_neg (by decide)]
theorem fur_no {w : Nat} {bare : Bool} {ls : List Ln} {i n : Int} {r : List En} (h : OnL w bare ls (i + 1) r) (hr : ∀ e r',r = e :: r' → ((w * (e.1 - 1) : Nat) : Int) ≤ n) (h0 : 0 ≤ i) : (furtherF ls n true i).2 = false:=by
 have stop : ∀ j : Int,∀ c t k,lineP ls j = (k,c :: t) → blankI c = false → nextL ls ls.length j = j:=fun j c t k hl hc=>nextL_end (by
  rintro ⟨-,h2⟩
  have hl : ls.getD j.toNat (0,[]) = (k,c :: t):=hl
  rw [hl,List.all_cons,hc] at h2
  cases h2) _
 cases r with
 | nil =>
  have ho : overF ls (i + 1) = true:=by
   have:=h.nil
   unfold overF
   rw [decide_eq_true this]; rfl
  have hn : nextL ls ls.length (i + 1) = i + 1:=nextL_end (by rintro ⟨h1,-⟩; rw [ho] at h1; cases h1) _
  unfold furtherF
  rw [hn,if_pos (.inl ho)]
 | cons e r =>
  have hw:=hr e r rfl
  cases bare with
  | false =>
   obtain ⟨l1,l2,-,-⟩:=h.line
   have l1 : lineP ls (i + 1) = enL w e:=l1
   have hl : ls.getD (i + 1).toNat (0,[]) = enL w e:=l1
   have hn:=stop (i + 1) 45 (if e.2 = true then [32,119] else []) ((w * (e.1 - 1) : Nat) : Int) (by rw [l1]; unfold enL; split <;> rename_i hb <;> simp [hb]) rfl
   unfold furtherF
   rw [hn,if_pos (.inr (by rw [hl]; exact hw))]
  | true =>
   obtain ⟨h1,h2,h3⟩:=h
   have h3 : ls.drop (i + 1).toNat = (2,[35,32,99]) :: (0,[]) :: enL w e :: layL w true r:=h3
   obtain ⟨a1,a2,a3⟩:=line_drop h1 h3
   have hl : ls.getD (i + 1).toNat (0,[]) = (2,[35,32,99]):=a1
   have hn:=stop (i + 1) 35 [32,99] 2 a1 rfl
   unfold furtherF
   rw [hn]
   split
   ·rfl
   ·have hp:=At.past (ls:=ls) (p:=(i + 1,2)) (b:=[]) (r:=[35,32,99]) (at_mk h1 a2 hl (by decide)) (fun c hc=>by simp at hc) (.inr rfl)
    rw [past_line h1 a2 hl (by decide),hp]
    rfl
theorem ent_word {w D f : Nat} {bare : Bool} {ls : List Ln} {i d : Int} {r : List En} (h : OnL w bare ls i ((D,true) :: r)) (hr : ∀ e r',r = e :: r' → e.1 ≤ D) : levN ls f d (atL bare i) (((w * (D - 1) : Nat) : Int) + 1) ((w * (D - 1) : Nat) : Int) false = .ok ([wE],atL bare i + 1):=by
 obtain ⟨l1,l2,l3,l4⟩:=h.line
 have hm : 0 ≤ atL bare i:=by have:=h.1; unfold atL; split <;> omega
 generalize atL bare i = m at *
 have hw : ∀ e r',r = e :: r' → ((w * (e.1 - 1) : Nat) : Int) ≤ ((w * (D - 1) : Nat) : Int):=fun e r' he=>by
  have:=hr e r' he
  have : w * (e.1 - 1) ≤ w * (D - 1):=Nat.mul_le_mul_left w (by omega)
  omega
 have hfn:=fur_no l3 hw hm
 have hl : lineP ls m = (((w * (D - 1) : Nat) : Int),[45,32,119]):=l1
 generalize hc : ((w * (D - 1) : Nat) : Int) = c at *
 have hc0 : 0 ≤ c:=by omega
 have r1:=rest_mk (i:=m) (c:=c + 1) (b:=[32]) (r:=[119]) hl (by omega) (by rw [show (c + 1 - c).toNat = 1 by omega]; rfl) (fun c hc=>by simp at hc; subst hc; rfl) (.inr ⟨by decide,by decide⟩)
 have e2 : c + 1 + (([32] : List Int).length : Nat) = c + 2:=by simp; omega
 rw [e2] at r1
 have r2:=rest_mk (i:=m) (c:=c + 2) (b:=[]) (r:=[119]) hl (by omega) (by rw [show (c + 2 - c).toNat = 2 by omega]; rfl) (fun c hc=>by simp at hc) (.inr ⟨by decide,by decide⟩)
 have r3:=rest_mk (i:=m) (c:=c + 3) (b:=[]) (r:=[]) hl (by omega) (by rw [show (c + 3 - c).toNat = 3 by omega]; rfl) (fun c hc=>by simp at hc) (.inl rfl)
 obtain ⟨A1,A2⟩:=alone_at (c:=c + 2) (r:=[119]) ⟨hm,l2⟩ hl ⟨hc0,by omega⟩ (by rw [show (c + 2 - c).toNat = 2 by omega]; rfl) (by rw [show (c + 2 - c).toNat = 2 by omega]; decide)
 have hlw : Lets [119]:=fun c hc=>by simp at hc; subst hc; decide
 have hs : ∀ x,¬ 119 = x → signP ls m (c + 2) x = false:=fun x hx=>by
  unfold signP
  rw [hl]
  dsimp only
  rw [show (c + 2 - c).toNat = 2 by omega,show List.getD [45,32,(119 : Int)] 2 0 = 119 from rfl,beq_eq_false_iff_ne.2 hx]
  simp
 have hal : aloneF ls m = [(c,[45,32,119])]:=by
  unfold aloneF
  rw [if_pos ⟨hm,l2⟩]
  exact congrArg (fun x=>[x]) hl
 have hkn : keyF (aloneF ls m) (c + 2) = none:=key_none (x:=0) (w:=[119]) A1 hlw (by decide) (by
  have ho : overF (aloneF ls m) 1 = true:=by rw [hal]; rfl
  have hn : nextL (aloneF ls m) (aloneF ls m).length (0 + 1) = 1:=nextL_end (by rintro ⟨h1,-⟩; rw [show (0 : Int) + 1 = 1 from rfl,ho] at h1; cases h1) _
  unfold furtherF
  rw [hn,if_pos (.inl ho)])
 have hask : asksP ls m (c + 2) = false:=by unfold asksP; rw [hs 63 (by decide),hkn]; rfl
 have hwh : wholeF ls c d true (m,c + 2) = .ok ([wE],(m,c + 3),false):=by
  unfold wholeF
  rw [show nodeF ls c d true 200 0 (m,c + 2) = nodeS _ _ _ _ (nodeF ls c d true 199) 0 (m,c + 2) from rfl]
  have:=word_node (n:=c) (d:=d) (bk:=true) (N:=nodeF ls c d true 199) (k:=0) (b:=[]) (r:=[]) A2 hlw (by decide) (fun c hc=>by simp at hc) (.inl rfl) (.inr hfn)
  rw [this]
  show Except.ok ([wE],(m,c + 2 + 1),false) = _
  rw [show c + 2 + 1 = c + 3 by omega]
 have hat : ∀ S M R,atP ls S M R d c m (c + 2) true tp0 = .ok ([wE],m + 1):=fun S M R=>by
  unfold atP
  rw [hs 45 (by decide),if_neg Bool.false_ne_true,hask,if_neg Bool.false_ne_true,props_let A1 (by decide)]
  dsimp only
  rw [show joinP tp0 tp0 = some tp0 by kernel_rfl]
  dsimp only
  rw [r2,if_pos (by simp)]
  unfold leafD
  rw [r2,if_neg (by show ¬ (headF [119] 124 = true ∨ headF [119] 62 = true); decide)]
  dsimp only
  rw [show c + 2 + (([] : List Int).length : Nat) = c + 2 by simp,hwh]
  dsimp only
  rw [show setP tp0 [wE] = some [wE] by kernel_rfl]
  dsimp only
  unfold behP
  rw [r3,if_neg (by simp)]
 show levP ls f d c false m (c + 1) (!false) tp0 = _
 rw [show (!false) = true from rfl]
 cases f <;> rw [levP,show 2 * ls.length + 2 = (2 * ls.length + 1) + 1 from rfl,nodeP,r1,if_pos (by simp)] <;> exact hat _ _ _
theorem ent_deep {w D f : Nat} {bare : Bool} {ls : List Ln} {i d : Int} {b : Bool} {r : List En} (hw0 : 0 < w) (hD : 0 < D) (h : OnL w bare ls i ((D,false) :: (D + 1,b) :: r)) : levN ls (f + 1) d (atL bare i) (((w * (D - 1) : Nat) : Int) + 1) ((w * (D - 1) : Nat) : Int) false = seqP ls (levN ls f (d + 1)) (atL bare (atL bare i + 1)) ((w * (D + 1 - 1) : Nat) : Int) false tp0:=by
 obtain ⟨l1,l2,l3,l4⟩:=h.line
 have hm : 0 ≤ atL bare i:=by have:=h.1; unfold atL; split <;> omega
 generalize atL bare i = m at *
 obtain ⟨k1,k2,k3,k4⟩:=l3.line
 have hl : lineP ls m = (((w * (D - 1) : Nat) : Int),[45]):=l1
 have hk : lineP ls (atL bare (m + 1)) = (((w * (D + 1 - 1) : Nat) : Int),if b = true then [45,32,119] else [45]):=k1
 have hlt : ((w * (D - 1) : Nat) : Int) < ((w * (D + 1 - 1) : Nat) : Int):=by
  have : w * (D - 1) < w * (D + 1 - 1):=Nat.mul_lt_mul_of_pos_left (by omega) hw0
  omega
 generalize ((w * (D + 1 - 1) : Nat) : Int) = c2 at *
 generalize ((w * (D - 1) : Nat) : Int) = c at *
 generalize atL bare (m + 1) = k at *
 have r1:=rest_mk (i:=m) (c:=c + 1) (b:=[]) (r:=[]) hl (by omega) (by rw [show (c + 1 - c).toNat = 1 by omega]; rfl) (fun c hc=>by simp at hc) (.inl rfl)
 have hs : signP ls k c2 45 = true:=by
  unfold signP
  rw [hk]
  dsimp only
  rw [show (c2 - c2).toNat = 0 by omega,show (c2 - c2 + 1).toNat = 1 by omega]
  cases b
  ·rw [if_neg (by decide),decide_eq_true (by omega),decide_eq_true (by simp),decide_eq_true (by simp)]; rfl
  ·rw [if_pos rfl,decide_eq_true (by omega),decide_eq_true (by simp)]; simp [show blankI 32 = true from rfl]
 show levP ls (f + 1) d c false m (c + 1) (!false) tp0 = _
 rw [show (!false) = true from rfl,levP,show 2 * ls.length + 2 = (2 * ls.length + 1) + 1 from rfl,nodeP,r1,if_neg (by simp),k4]
 dsimp only
 rw [hk]
 dsimp only
 rw [if_neg (by rintro (h | h | ⟨h,-⟩); cases h; omega; omega),if_neg (by omega)]
 unfold atP
 rw [hs,if_pos rfl,if_pos rfl]
theorem Blk.rest {D : Nat} {es rest : List En} {ev : List EvV} (h : Blk D es ev rest) : ∀ e r,rest = e :: r → e.1 + 1 = D:=by
 induction h with
 | last=>intro e r h; cases h
 | back=>intro e r h; cases h; rfl
 | same _ ih=>exact ih
 | deep _ _=>intro e r h; cases h
 | more _ _ _ ih=>exact ih
theorem Blk.len {D : Nat} {es rest : List En} {ev : List EvV} (h : Blk D es ev rest) : rest.length < es.length:=by
 induction h with
 | last=>simp
 | back=>simp
 | same _ ih=>simp at *; omega
 | deep _ _=>simp
 | more _ _ ih ih2=>simp at *; omega
theorem Blk.mem {D : Nat} {es rest : List En} {ev : List EvV} (h : Blk D es ev rest) : ∀ e ∈ rest,e ∈ es:=by
 induction h with
 | last=>simp
 | back=>intro e he; exact List.mem_cons_of_mem _ he
 | same _ ih=>intro e he; exact List.mem_cons_of_mem _ (ih e he)
 | deep _ _=>simp
 | more _ _ ih ih2=>intro e he; exact List.mem_cons_of_mem _ (ih e (ih2 e he))
theorem lay_len (w : Nat) (bare : Bool) : ∀ es : List En,es.length ≤ (layL w bare es).length
 | []=>Nat.le_refl _
 | e :: r=>by
  have:=lay_len w bare r
  cases bare <;> simp [layL] at * <;> omega
theorem blk_parse {w : Nat} {bare : Bool} {ls : List Ln} (hw : 0 < w) {D : Nat} {es rest : List En} {ev : List EvV} (h : Blk D es ev rest) : 0 < D → ∀ (i d : Int) (f fuel : Nat) (acc : List EvV),OnL w bare ls i es → (∀ e ∈ es,e.1 ≤ D + f) → es.length < fuel + 1 →
  ∃ i',OnL w bare ls i' rest ∧ entriesP ls (levN ls f d) ((w * (D - 1) : Nat) : Int) false (fuel + 1) (atL bare i) acc = .ok (acc ++ ev,i'):=by
 have over : ∀ (i' c : Int),OnL w bare ls i' [] → furP ls i' c = .ok (i',false):=fun i' c ho=>by
  unfold furP
  rw [next_over ho.nil]
  dsimp only
  rw [if_pos (.inl rfl)]
 have go : ∀ (i' : Int) (D : Nat) (b : Bool) (r : List En),OnL w bare ls i' ((D,b) :: r) → furP ls i' ((w * (D - 1) : Nat) : Int) = .ok (atL bare i',true) ∧ signP ls (atL bare i') ((w * (D - 1) : Nat) : Int) 45 = true:=fun i' D b r ho=>by
  obtain ⟨k1,k2,k3,k4⟩:=ho.line
  have hk : lineP ls (atL bare i') = (((w * (D - 1) : Nat) : Int),if b = true then [45,32,119] else [45]):=k1
  refine ⟨?_, ?_⟩
  ·unfold furP
   rw [k4]
   dsimp only
   rw [hk]
   dsimp only
   rw [if_neg (by rintro (h | h); cases h; omega),if_neg (by omega)]
  ·unfold signP
   rw [hk]
   dsimp only
   generalize ((w * (D - 1) : Nat) : Int) = c2
   rw [show (c2 - c2).toNat = 0 by omega,show (c2 - c2 + 1).toNat = 1 by omega]
   cases b
   ·rw [if_neg (by decide),decide_eq_true (by omega),decide_eq_true (by simp),decide_eq_true (by simp)]; rfl
   ·rw [if_pos rfl,decide_eq_true (by omega),decide_eq_true (by simp)]; simp [show blankI 32 = true from rfl]
 induction h with
 | @last D =>
  intro hD i d f fuel acc ho hf hl
  have hn:=ent_word (f:=f) (d:=d) ho (by intro e r h; cases h)
  refine ⟨atL bare i + 1,ho.line.2.2.1, ?_⟩
  rw [entriesP,hn]
  dsimp only
  rw [over _ _ ho.line.2.2.1]
  dsimp only
  rw [if_pos rfl]
 | @back D b r hD2 =>
  intro hD i d f fuel acc ho hf hl
  have hn:=ent_word (f:=f) (d:=d) ho (by intro e r h; cases h; exact Nat.le_succ D)
  obtain ⟨-,-,l3,-⟩:=ho.line
  obtain ⟨k1,k2,k3,k4⟩:=l3.line
  have hk : lineP ls (atL bare (atL bare i + 1)) = (((w * (D - 1) : Nat) : Int),if b = true then [45,32,119] else [45]):=k1
  refine ⟨atL bare i + 1,l3, ?_⟩
  have hfu : furP ls (atL bare i + 1) ((w * (D + 1 - 1) : Nat) : Int) = .ok (atL bare i + 1,false):=by
   unfold furP
   rw [k4]
   dsimp only
   rw [hk]
   dsimp only
   rw [if_pos (.inr (by
    have : w * (D - 1) < w * (D + 1 - 1):=Nat.mul_lt_mul_of_pos_left (by omega) hw
    omega))]
  rw [entriesP,hn]
  dsimp only
  rw [hfu]
  dsimp only
  rw [if_pos rfl]
 | @same D b r rest ev h ih =>
  intro hD i d f fuel acc ho hf hl
  have hn:=ent_word (f:=f) (d:=d) ho (by intro e r h; cases h; exact Nat.le_refl D)
  obtain ⟨-,-,l3,-⟩:=ho.line
  obtain ⟨g1,g2⟩:=go _ _ _ _ l3
  obtain ⟨fuel,rfl⟩ : ∃ q,fuel = q + 1:=⟨fuel - 1,by simp at hl; omega⟩
  obtain ⟨i',o1,o2⟩:=ih hD (atL bare i + 1) d f fuel (acc ++ [wE]) l3 (fun e he=>hf e (List.mem_cons_of_mem _ he)) (by simp at hl ⊢; omega)
  refine ⟨i',o1, ?_⟩
  rw [entriesP,hn]
  dsimp only
  rw [g1]
  dsimp only
  rw [if_neg (by decide),g2,if_neg (by decide),o2]
  simp
 | @deep D r ev h ih =>
  intro hD i d f fuel acc ho hf hl
  obtain ⟨b,r',rfl⟩:=h.head
  obtain ⟨f,rfl⟩ : ∃ q,f = q + 1:=⟨f - 1,by have:=hf (D + 1,b) (by simp); dsimp only at this; omega⟩
  have hn:=ent_deep (f:=f) (d:=d) hw hD ho
  obtain ⟨-,-,l3,-⟩:=ho.line
  have hlen : ((D + 1,b) :: r').length ≤ ls.length:=by
   have h1:=lay_len w bare ((D + 1,b) :: r')
   have h2:=congrArg List.length l3.2.2
   rw [List.length_drop] at h2
   omega
  obtain ⟨i',o1,o2⟩:=ih (by omega) (atL bare i + 1) (d + 1) f ls.length [] l3 (fun e he=>by have:=hf e (List.mem_cons_of_mem _ he); omega) (by omega)
  refine ⟨i',o1, ?_⟩
  rw [entriesP,hn]
  unfold seqP
  rw [o2]
  dsimp only
  rw [over _ _ o1]
  dsimp only
  rw [if_pos rfl]
  simp
 | @more D b r r2 rest ev ev2 h h2 ih ih2 =>
  intro hD i d f fuel acc ho hf hl
  obtain ⟨b',r',rfl⟩:=h.head
  obtain ⟨f,rfl⟩ : ∃ q,f = q + 1:=⟨f - 1,by have:=hf (D + 1,b') (by simp); dsimp only at this; omega⟩
  have hn:=ent_deep (f:=f) (d:=d) hw hD ho
  obtain ⟨-,-,l3,-⟩:=ho.line
  have hlen : ((D + 1,b') :: r').length ≤ ls.length:=by
   have h1:=lay_len w bare ((D + 1,b') :: r')
   have h2:=congrArg List.length l3.2.2
   rw [List.length_drop] at h2
   omega
  obtain ⟨i',o1,o2⟩:=ih (by omega) (atL bare i + 1) (d + 1) f ls.length [] l3 (fun e he=>by have:=hf e (List.mem_cons_of_mem _ he); omega) (by omega)
  obtain ⟨g1,g2⟩:=go _ _ _ _ o1
  have hl2:=h.len
  obtain ⟨fuel,rfl⟩ : ∃ q,fuel = q + 1:=⟨fuel - 1,by simp at hl; omega⟩
  obtain ⟨i2,p1,p2⟩:=ih2 hD i' d (f + 1) fuel (acc ++ (openP 3 tp0 :: ([] ++ ev ++ [shutE 4]))) o1 (fun e he=>hf e (List.mem_cons_of_mem _ (h.mem e he))) (by simp at hl hl2 ⊢; omega)
  refine ⟨i2,p1, ?_⟩
  rw [entriesP,hn]
  unfold seqP
  rw [o2]
  dsimp only
  rw [g1]
  dsimp only
  rw [if_neg (by decide),g2,if_neg (by decide),p2]
  simp
def pushB (D k : Nat) : Bool:=decide (D = 0) || (decide (k = 0) && decide (D < 20))
def backB (D k : Nat) : Bool:=!pushB D k && (decide (1 < k) && decide (1 < D))
def newD (D k : Nat) : Nat:=if pushB D k = true then D + 1 else if backB D k = true then D - 1 else D
def wordB (D : Nat) : List Nat → Bool
 | []=>true
 | k :: _=>!(decide (k = 0)) || decide (20 ≤ D)
def enS (D : Nat) : List Nat → List En
 | []=>[]
 | k :: r=>(newD D k,wordB (newD D k) r) :: enS (newD D k) r
abbrev opE3 : EvV:=openP 3 tp0
abbrev shE4 : EvV:=shutE 4
def stepE (D k : Nat) : List EvV:=if pushB D k = true then [opE3] else if backB D k = true then [shE4] else []
def wnS (D : Nat) : List Nat → List EvV
 | []=>[]
 | k :: r=>stepE D k ++ ((if wordB (newD D k) r = true then [wE] else []) ++ wnS (newD D k) r)
def endD (D : Nat) : List Nat → Nat
 | []=>D
 | k :: r=>endD (newD D k) r
def fullS (D : Nat) (r : List Nat) : List EvV:=(if wordB D r = true then [wE] else []) ++ (wnS D r ++ List.replicate (endD D r) shE4)
theorem full_step {D k : Nat} {r : List Nat} : fullS D (k :: r) = (if wordB D (k :: r) = true then [wE] else []) ++ (stepE D k ++ fullS (newD D k) r):=by
 unfold fullS
 rw [wnS,endD]
 simp only [List.append_assoc]
theorem steps_blk : ∀ (n : Nat) (D : Nat) (r : List Nat),r.length ≤ n → 0 < D → D ≤ 20 →
  ∃ ev rest,Blk D ((D,wordB D r) :: enS D r) ev rest ∧ ((rest = [] ∧ fullS D r = ev ++ List.replicate D shE4) ∨ ∃ r2,rest = (D - 1,wordB (D - 1) r2) :: enS (D - 1) r2 ∧ 1 < D ∧ r2.length < r.length ∧ fullS D r = ev ++ (shE4 :: fullS (D - 1) r2))
 | _,D,[],_,h0,_=>⟨[wE],[],.last,.inl ⟨rfl,rfl⟩⟩
 | 0,D,k :: r,hn,_,_=>by simp at hn
 | n + 1,D,k :: r,hn,h0,h20=>by
  have hr : r.length ≤ n:=by simp at hn; omega
  by_cases hw : wordB D (k :: r) = true
  ·have hp : pushB D k = false:=by
    unfold wordB at hw
    unfold pushB
    simp at hw ⊢
    omega
   by_cases hb : backB D k = true
   ·have hD : newD D k = D - 1:=by unfold newD; rw [hp,hb]; simp
    have h1 : 1 < D:=by unfold backB at hb; simp at hb; omega
    obtain ⟨D,rfl⟩ : ∃ q,D = q + 1:=⟨D - 1,by omega⟩
    refine ⟨[wE],(D,wordB D r) :: enS D r, ?_,.inr ⟨r,rfl,h1,by simp, ?_⟩⟩
    ·rw [hw,enS,hD]
     exact .back (by omega)
    ·rw [full_step,hw,if_pos rfl,hD]
     unfold stepE
     rw [hp,hb]
     simp
   ·have hD : newD D k = D:=by unfold newD; rw [hp,if_neg Bool.false_ne_true,if_neg hb]
    obtain ⟨ev,rest,b1,b2⟩:=steps_blk n D r hr h0 h20
    refine ⟨wE :: ev,rest, ?_, ?_⟩
    ·rw [hw,enS,hD]
     exact .same b1
    ·have e1 : fullS D (k :: r) = wE :: fullS D r:=by
      rw [full_step,hw,if_pos rfl,hD]
      unfold stepE
      rw [hp,if_neg Bool.false_ne_true,if_neg hb]; rfl
     rcases b2 with ⟨g1,g2⟩ | ⟨r2,g1,g2,g3,g4⟩
     ·exact .inl ⟨g1,by rw [e1,g2]; rfl⟩
     ·exact .inr ⟨r2,g1,g2,by simp; omega,by rw [e1,g4]; rfl⟩
  ·have hk : k = 0 ∧ D < 20:=by
    unfold wordB at hw
    simp at hw
    omega
   have hp : pushB D k = true:=by unfold pushB; simp [hk]
   have hD : newD D k = D + 1:=by unfold newD; rw [hp,if_pos rfl]
   have hwf : wordB D (k :: r) = false:=by simpa using hw
   have e1 : fullS D (k :: r) = opE3 :: fullS (D + 1) r:=by
    rw [full_step,hwf,if_neg Bool.false_ne_true,hD]
    unfold stepE
    rw [hp,if_pos rfl]; rfl
   obtain ⟨ev,rest,b1,b2⟩:=steps_blk n (D + 1) r hr (by omega) (by omega)
   rcases b2 with ⟨rfl,g2⟩ | ⟨r2,g1,g2,g3,g4⟩
   ·refine ⟨opE3 :: (ev ++ [shE4]),[], ?_,.inl ⟨rfl, ?_⟩⟩
    ·rw [hwf,enS,hD]
     exact .deep b1
    ·rw [e1,g2,List.replicate_succ]; simp
   ·rw [Nat.add_sub_cancel] at g1 g4
    obtain ⟨ev2,rest2,c1,c2⟩:=steps_blk n D r2 (by omega) h0 h20
    refine ⟨(opE3 :: (ev ++ [shE4])) ++ ev2,rest2, ?_, ?_⟩
    ·rw [hwf,enS,hD]
     rw [g1] at b1
     exact .more b1 c1
    ·rcases c2 with ⟨k1,k2⟩ | ⟨r3,k1,k2,k3,k4⟩
     ·exact .inl ⟨k1,by rw [e1,g4,k2]; simp⟩
     ·exact .inr ⟨r3,k1,k2,by simp; omega,by rw [e1,g4,k4]; simp⟩
theorem enS_le : ∀ (r : List Nat) (D : Nat),0 < D → D ≤ 20 → ∀ e ∈ enS D r,e.1 ≤ 20 ∧ 0 < e.1
 | [],D,_,_,e,he=>by simp [enS] at he
 | k :: r,D,h0,h20,e,he=>by
  have hb : newD D k ≤ 20 ∧ 0 < newD D k:=by
   unfold newD pushB backB
   unfold pushB
   split
   ·rename_i h; simp at h; omega
   ·split
    ·rename_i h; simp at h; omega
    ·omega
  rw [enS] at he
  rcases List.mem_cons.1 he with rfl | he
  ·exact hb
  ·exact enS_le r _ hb.2 hb.1 e he
theorem first_D (k : Nat) : newD 0 k = 1:=rfl
theorem lists_doc {w : Nat} {bare : Bool} {k : Nat} {r : List Nat} (hw : 0 < w) : ∃ e,docP (layL w bare (enS 0 (k :: r))) 0 0 = .ok (opE3 :: fullS 1 r,e):=by
 rw [enS,first_D]
 obtain ⟨ev,rest,b1,b2⟩:=steps_blk r.length 1 r (Nat.le_refl _) (by decide) (by decide)
 obtain ⟨rfl,b3⟩ : rest = [] ∧ fullS 1 r = ev ++ List.replicate 1 shE4:=by
  rcases b2 with h | ⟨r2,h1,h2,-⟩
  ·exact h
  ·omega
 have hall : ∀ e ∈ (1,wordB 1 r) :: enS 1 r,e.1 ≤ 1 + 199:=fun e he=>by
  rcases List.mem_cons.1 he with rfl | he
  ·exact Nat.le_add_right 1 199
  ·have:=(enS_le r 1 (by decide) (by decide) e he).1; omega
 generalize hes : (1,wordB 1 r) :: enS 1 r = es at *
 have hlen:=lay_len w bare es
 generalize hL : layL w bare es = L at *
 have ho : OnL w bare L 0 es:=⟨Int.le_refl 0,by omega,by rw [hL]; rfl⟩
 obtain ⟨i',o1,o2⟩:=blk_parse hw b1 (by decide) 0 1 199 L.length [] ho hall (by omega)
 rw [show ((w * (1 - 1) : Nat) : Int) = 0 by simp] at o2
 have ho' : OnL w bare L 0 ((1,wordB 1 r) :: enS 1 r):=by rw [hes]; exact ho
 obtain ⟨l1,l2,l3,l4⟩:=ho'.line
 have hl : lineP L (atL bare 0) = (0,if wordB 1 r = true then [45,32,119] else [45]):=by
  rw [l1]
  unfold enL
  simp
 have hs : signP L (atL bare 0) 0 45 = true:=by
  unfold signP
  rw [hl]
  dsimp only
  cases wordB 1 r
  ·rw [if_neg (by decide)]; decide
  ·rw [if_pos rfl]; decide
 have hSq : seqP L (levN L 199 1) (atL bare 0) 0 false tp0 = .ok (opE3 :: (([] ++ ev) ++ [shE4]),i'):=by
  unfold seqP
  rw [o2]
 have hlev : levP L 200 0 (-1) false 0 0 true tp0 = .ok (opE3 :: (([] ++ ev) ++ [shE4]),i'):=by
  rw [show (200 : Nat) = 199 + 1 from rfl,levP,show 2 * L.length + 2 = (2 * L.length + 1) + 1 from rfl,nodeP]
  cases bare with
  | false =>
   have hl : lineP L 0 = (0,if wordB 1 r = true then [45,32,119] else [45]):=hl
   have hs : signP L 0 0 45 = true:=hs
   have r1:=rest_mk (i:=0) (c:=0) (b:=[]) (r:=if wordB 1 r = true then [45,32,119] else [45]) hl (by decide) rfl (fun c hc=>by simp at hc) (.inr (by split <;> exact ⟨by decide,by decide⟩))
   rw [r1,if_pos (by dsimp only; split <;> decide)]
   dsimp only
   rw [show (0 : Int) + (([] : List Int).length : Nat) = 0 from rfl]
   unfold atP
   rw [hs,if_pos rfl,if_pos rfl]
   exact hSq
  | true =>
   have hd : L.drop (0 : Int).toNat = (2,[35,32,99]) :: (0,[]) :: enL w (1,wordB 1 r) :: layL w true (enS 1 r):=by rw [← hL,← hes]; rfl
   obtain ⟨a1,a2,a3⟩:=line_drop (Int.le_refl 0) hd
   obtain ⟨c1,c2,c3⟩:=line_drop (by decide) a3
   have hr0 : restP L 0 0 = ([],2):=by
    have hc : cutP L 0 0 = [35,32,99]:=by unfold cutP; rw [a1]; rfl
    unfold restP
    rw [hc,a1,if_pos ⟨by decide,.inr (.inr (by unfold blankP; rw [a1]; decide))⟩]
    rfl
   have hn1 : nextP L (0 + 1) = .ok (2,true):=by
    have h4 : nextP L 0 = .ok (2,true):=l4
    obtain ⟨n,hn⟩ : ∃ n,L.length = n + 2:=⟨L.length - 2,by have : (2 : Int) < L.length:=l2; omega⟩
    have hS : ∀ f,nextB L f 2 = 2:=fun f=>by
     cases f with
     | zero=>rfl
     | succ f =>
      rw [nextB,if_neg]
      rintro ⟨-,g⟩
      have hl : lineP L 2 = (0,if wordB 1 r = true then [45,32,119] else [45]):=hl
      rw [hl] at g
      dsimp only at g
      split at g <;> revert g <;> decide
    have e1 : nextB L L.length (0 + 1) = 2:=by
     rw [hn,show n + 2 = (n + 1) + 1 from rfl,nextB,if_pos ⟨by omega,by rw [c1]; decide⟩]
     exact hS _
    have e0 : nextB L L.length 0 = 2:=by
     rw [hn,show n + 2 = (n + 1) + 1 from rfl,nextB,if_pos ⟨by omega,by rw [a1]; decide⟩,nextB,if_pos ⟨by omega,by rw [c1]; decide⟩]
     exact hS _
    unfold nextP at h4 ⊢
    rw [e0] at h4
    rw [e1]
    exact h4
   have hl : lineP L 2 = (0,if wordB 1 r = true then [45,32,119] else [45]):=hl
   have hs : signP L 2 0 45 = true:=hs
   rw [hr0,if_neg (by simp),hn1]
   dsimp only
   rw [hl]
   dsimp only
   rw [if_neg (by rintro (h | h | ⟨h,-⟩); cases h; omega; omega),if_neg (by decide)]
   unfold atP
   rw [hs,if_pos rfl,if_pos rfl]
   exact hSq
 unfold docP
 rw [show decide ((0 : Int) = 0) = true from rfl,hlev]
 dsimp only
 rw [next_over o1.nil]
 dsimp only
 rw [if_pos rfl,b3]
 exact ⟨i',by simp⟩
abbrev markT (e : En) : List Int:=if e.2 = true then [45,32,119] else [45]
def entT (w : Nat) (bare : Bool) (e : En) : List Int:=(if bare = true then [32,32,35,32,99,10,10] else []) ++ (List.replicate (w * (e.1 - 1)) 32 ++ markT e)
def docT (w : Nat) (bare : Bool) : List En → List Int
 | []=>[]
 | [e]=>entT w bare e
 | e :: e2 :: r=>entT w bare e ++ 10 :: docT w bare (e2 :: r)
theorem docT_snoc {w : Nat} {bare : Bool} {e : En} : ∀ {es : List En},es ≠ [] → docT w bare (es ++ [e]) = docT w bare es ++ 10 :: entT w bare e
 | [],h=>absurd rfl h
 | [a],_=>rfl
 | a :: b :: r,_=>by
  show entT w bare a ++ 10 :: docT w bare ((b :: r) ++ [e]) = (entT w bare a ++ 10 :: docT w bare (b :: r)) ++ 10 :: entT w bare e
  rw [docT_snoc (es:=b :: r) (by simp),List.append_assoc]; rfl
theorem mark_10 (e : En) : ∀ c ∈ markT e,¬ c = 10:=fun c hc=>by
 unfold markT at hc
 split at hc <;> simp at hc <;> omega
theorem ent_line {n : Nat} {e : En} : lineOf (List.replicate n 32 ++ markT e) = ((n : Int),markT e):=lineOf_in (.inr (by unfold markT; split <;> decide))
theorem ent_cut {w : Nat} {bare : Bool} {e : En} {T : List Int} {a : List Int} {m : List (List Int)} (hT : cutL T = (a,m)) (ha : a = []) :
  ((cutL (entT w bare e ++ T)).1 :: (cutL (entT w bare e ++ T)).2).map lineOf = ((if bare = true then [(2,[35,32,99]),(0,[])] else []) ++ [enL w e]) ++ m.map lineOf:=by
 subst ha
 have h1 : cutL (List.replicate (w * (e.1 - 1)) 32 ++ markT e ++ T) = (List.replicate (w * (e.1 - 1)) 32 ++ markT e,m):=by
  rw [cut_app (fun c hc=>by rcases List.mem_append.1 hc with h | h; rw [(List.mem_replicate.1 h).2]; decide; exact mark_10 e c h),hT,List.append_nil]
 have h2 : lineOf (List.replicate (w * (e.1 - 1)) 32 ++ markT e) = enL w e:=by rw [ent_line]; rfl
 unfold entT
 cases bare with
 | false =>
  rw [if_neg Bool.false_ne_true,List.nil_append,h1,if_neg Bool.false_ne_true,List.nil_append,List.map_cons,h2]; rfl
 | true =>
  rw [if_pos rfl,if_pos rfl]
  show ((cutL ([32,32,35,32,99] ++ (10 :: 10 :: (List.replicate (w * (e.1 - 1)) 32 ++ markT e ++ T)))).1 :: (cutL ([32,32,35,32,99] ++ (10 :: 10 :: (List.replicate (w * (e.1 - 1)) 32 ++ markT e ++ T)))).2).map lineOf = _
  rw [cut_app (a:=[32,32,35,32,99]) (by simp),cut_nl,cut_nl,h1]
  simp only [List.append_nil,List.map_cons,h2]
  rfl
theorem doc_cut {w : Nat} {bare : Bool} : ∀ es : List En,es ≠ [] → ((cutL (docT w bare es)).1 :: (cutL (docT w bare es)).2).map lineOf = layL w bare es
 | [],h=>absurd rfl h
 | [e],_=>by
  have:=ent_cut (w:=w) (bare:=bare) (e:=e) (T:=[]) rfl rfl
  rw [List.append_nil] at this
  rw [docT,this]
  simp [layL]
 | e :: e2 :: r,_=>by
  have ih:=doc_cut (w:=w) (bare:=bare) (e2 :: r) (by simp)
  rw [docT,ent_cut cut_nl rfl,ih]
  show _ = (if bare = true then _ else _) ++ enL w e :: layL w bare (e2 :: r)
  simp
theorem doc_chars {w : Nat} {bare : Bool} {M : Nat} : ∀ es : List En,(∀ e ∈ es,w * (e.1 - 1) ≤ M) → CharsW (docT w bare es) ∧ (docT w bare es).length ≤ (M + 11) * es.length
 | [],_=>⟨fun c hc=>by simp [docT] at hc,by simp [docT]⟩
 | e :: r,h=>by
  have he : CharsW (entT w bare e) ∧ (entT w bare e).length ≤ M + 10:=by
   have:=h e (by simp)
   unfold entT
   refine ⟨?_, ?_⟩
   ·refine CharsW.app ?_ (CharsW.app ?_ ?_)
    ·intro c hc
     split at hc <;> simp at hc
     omega
    ·intro c hc; rw [(List.mem_replicate.1 hc).2]; omega
    ·intro c hc
     unfold markT at hc
     split at hc <;> simp at hc <;> omega
   ·unfold markT
    simp only [List.length_append,List.length_replicate]
    split <;> split <;> simp <;> omega
  cases r with
  | nil=>exact ⟨he.1,by simp [docT]; omega⟩
  | cons e2 r =>
   obtain ⟨i1,i2⟩:=doc_chars (w:=w) (bare:=bare) (M:=M) (e2 :: r) (fun x hx=>h x (List.mem_cons_of_mem _ hx))
   rw [docT]
   refine ⟨he.1.app (fun c hc=>?_), ?_⟩
   ·rcases List.mem_cons.1 hc with h | h
    ·omega
    ·exact i1 c h
   ·rw [List.length_append,List.length_cons,List.length_cons,Nat.mul_add]
    omega
theorem doc_last {w : Nat} {bare : Bool} : ∀ es : List En,es ≠ [] → docT w bare es ≠ [] ∧ ¬ (docT w bare es).getD ((docT w bare es).length - 1) 0 = 10
 | [],h=>absurd rfl h
 | [e],_=>by
  have : ∃ x,docT w bare [e] = x ++ [if e.2 = true then 119 else 45]:=by
   show ∃ x,entT w bare e = _
   unfold entT markT
   cases e.2
   ·exact ⟨(if bare = true then [32,32,35,32,99,10,10] else []) ++ List.replicate (w * (e.1 - 1)) 32,by simp⟩
   ·exact ⟨(if bare = true then [32,32,35,32,99,10,10] else []) ++ (List.replicate (w * (e.1 - 1)) 32 ++ [45,32]),by simp⟩
  obtain ⟨x,hx⟩:=this
  rw [hx]
  refine ⟨by simp, ?_⟩
  rw [List.length_append,List.getD_eq_getElem?_getD]
  simp
  split <;> decide
 | e :: e2 :: r,_=>by
  obtain ⟨h1,h2⟩:=doc_last (w:=w) (bare:=bare) (e2 :: r) (by simp)
  rw [docT]
  refine ⟨by simp, ?_⟩
  generalize docT w bare (e2 :: r) = Y at *
  have hy : 0 < Y.length:=List.length_pos_iff.2 h1
  rw [List.length_append,List.length_cons,List.getD_eq_getElem?_getD,List.getElem?_append_right (by omega),show (entT w bare e).length + (Y.length + 1) - 1 - (entT w bare e).length = (Y.length - 1) + 1 by omega,List.getElem?_cons_succ,← List.getD_eq_getElem?_getD]
  exact h2
theorem doc_lines {w : Nat} {bare : Bool} {M : Nat} {es : List En} (h : ∀ e ∈ es,w * (e.1 - 1) ≤ M) (h0 : es ≠ []) : (readR (docT w bare es)).1 = layL w bare es:=by
 obtain ⟨c1,-⟩:=doc_chars (w:=w) (bare:=bare) es h
 obtain ⟨l1,l2⟩:=doc_last (w:=w) (bare:=bare) es h0
 have hg : readOk (docT w bare es) = true:=by
  unfold readOk
  rw [List.all_eq_true]
  intro c hc
  have:=c1 c hc
  refine goodC_yes ?_ (by omega)
  unfold printI
  simp; omega
 unfold readR
 rw [if_pos hg]
 show linesOf _ = _
 unfold linesOf
 rw [tx_cut _ [] (fun c hc=>by have:=c1 c hc; omega) (List.length_pos_iff.2 l1) l2,List.nil_append]
 exact doc_cut es h0
end Go.Proofs.YthkabaiamcjdbaaGreat
/-
 Walks: chapter 13's laws: events that are the same.
-/



namespace Go.Proofs.YthkabaiamcjdbaaGreat
open Go.Abs
variable {κ : Ctx} {σ : List Res} {K : Ret → List Res → Prop} {o o' : Option (Option (Nat × Nat))}
instance : TSix Tryz.prog 26:=⟨⟨_,_,_,_,_,_,_,_,Tryz.underlying26,⟨rfl,rfl,rfl,rfl,rfl,rfl⟩,⟨Tryz.underlying3,Tryz.underlying9,Tryz.underlying9,Tryz.underlying9,Tryz.underlying3,Tryz.underlying4⟩,⟨ag3,ag9,ag9,ag9,ag3,ag4⟩⟩,by decide +kernel,by decide +kernel⟩
theorem ev_at {l : List EvV} {i : Nat} (h : i < l.length) (cs : List AV) : ((cellsL (l.map EVA) ++ cs).drop (i * 6)).take 6 = [I (l.getD i ev0).k,.raw (.string (l.getD i ev0).x),.raw (.string (l.getD i ev0).t),.raw (.string (l.getD i ev0).a),I (l.getD i ev0).s,B (l.getD i ev0).f]:=by
 have:=cells_at (sz:=6) (by decide) (l.map EVA) cs (evs_el l) i (EVA (l.getD i ev0)) (by rw [List.getElem?_map,List.getElem?_eq_getElem h,List.getD_eq_getElem?_getD,List.getElem?_eq_getElem h]; rfl)
 rw [this]; rfl
theorem rSameRow {rb rc ix : Nat} {l : List EvV} {cs : List AV} [hH : Hold σ rb ix (cellsL (l.map EVA) ++ cs)] (hl : l.length ≤ 1000000000) (hK : K (.ret (B true)) σ) : ACallF κ Tryz.prog 15 [rowV rb 0 l.length rc,.sl 6 o (l.map EVA)] σ K:=by
 have hlm : (l.map EVA).length = l.length:=List.length_map _
 have hcl : (cellsL (l.map EVA)).length = l.length * 6:=by rw [cellsL_len _ (evs_el l),hlm]
 refine ACallF.dropL (ACallF_intro Tryz.func15 rfl ?_)
 simp only [Tryz.ntmps15]
 repeat' (first | simp only [WL,intF,WM,reduceCtorEq,WLb,Nat.reduceAdd,Nat.reduceSub,true_and,T24,hlm,bne_self_eq_false])
 refine loop_by (fun i : Nat=>⟨(rowV rb 0 l.length rc :: .sl 6 o (l.map EVA) :: .any::.any::.any::I i :: .any::.any::.any::.any::.any::.any::.any::.any::.any::.any::.any::.any::.any::.any::.any::.any::.any::.any::.any::.any::[]),σ,true,[]⟩) (fun i=>i ≤ l.length) (fun i=>l.length - i) 0 (St_le_same leA id) (Nat.zero_le _) ?_
 intro i hi
 rcases Nat.lt_or_ge i l.length with h | h
 ·have e1:=ev_at h cs
  repeat' (first | ( with_reducible refine y_idx_row (hK:=?_)) | ( with_reducible refine y_neq_six ?_) | ( with_reducible refine y_loadA (hn:=by rw [List.length_append,hcl]; omega) (hK:=?_)) | simp only [WL,intF,WM,reduceCtorEq,WLb,Nat.reduceAdd,true_and,T24,T26,Tryz.results15,hlm,e1,Nat.zero_add] | simp (disch:=first | omega | (simp only [LN_]; omega)) only [wrap_id,getEV] | with_reducible refine andA (hb:=?_) | ((with_reducible refine AW_drawM (id:=6) 9 mixed ?_ ?_); kernel_rfl) | (with_reducible refine dmQ_mk ?_) | ((with_reducible first | refine grd_cases (fun h=>?_) (fun h=>?_) | refine condC_split (fun h=>?_) (fun h=>?_)) <;> (try simp only [h]) <;> (try simp only [NR_,NRb] at h)) | omega)
  exact ⟨i + 1,St_le_same leA id,by omega,by omega⟩
 ·repeat' (first | simp only [WL,intF,WM,ne_eq,reduceCtorEq,not_false_eq_true,true_and,T24,Tryz.results15] | ((with_reducible refine AW_drawM (id:=6) 9 mixed ?_ ?_); kernel_rfl) | ((with_reducible first | refine grd_cases (fun h=>?_) (fun h=>?_) | refine condC_split (fun h=>?_) (fun h=>?_)) <;> (try simp only [h]) <;> (try simp only [NR_,NRb] at h)) | omega)
  exact leafL sub_rfl (leT_eq rfl) hK
end Go.Proofs.YthkabaiamcjdbaaGreat
