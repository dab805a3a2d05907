/-
  Texts If, Ig, Ip, Ir, Kx, Iu, Iv, Iw, Kb, Iq, Is, Iy, Ky, Nb, Nc, Nd, Kc, one behind the other.
-/
import Derived.Test.YthkabaiamcjdbaaGreatG27
import Derived.Test.YthkabaiamcjdbaaGreatG28
import Derived.Test.YthkabaiamcjdbaaGreatG29
set_option linter.unusedVariables false
set_option linter.unusedSimpArgs false
set_option maxHeartbeats 16000000
/-
 Walks: chapter 1,the form of texts of small bytes.
-/

namespace Go.Proofs.YthkabaiamcjdbaaGreat
open Go.Abs
variable {κ:Ctx} {σ:List Res} {K:Ret→List Res→Prop} {o o':Option (Option (Nat × Nat))}
set_option maxRecDepth 4000 in
theorem rFormS {b:List Int} (hb:Asc b) (h1:b.length≤1) (hK:K (.ret (.tup [I 1,I 0])) σ):ACallF κ Tryz.prog 36 [SU o b] σ K:=by
 have hbl:=hb.1
 have hn3:¬((b.length:Int) > 3):=by omega
 have hn1:¬((b.length:Int) > 1):=by omega
 refine ACallF.dropL (ACallF_intro Tryz.func36 rfl ?_)
 simp only [Tryz.ntmps36]
 repeat' (first|simp only [WL,intF,WM,reduceCtorEq,WLb,Nat.reduceAdd,Nat.reduceSub,true_and,reduceIte,Bool.false_eq_true,T63,cok53,Tryz.results36,decide_eq_false hn3,decide_eq_false hn1]|with_reducible refine y_bs (hK:=?_)|( refine callD_mk (ACallF.argsS (ys:=[SU o b,SU none [0,0,254,255]]) ⟨leS_rfl,leS_le le_ro,trivial⟩ (rIsNo hb (by decide) (by decide) ?_)))|( refine callD_mk (ACallF.argsS (ys:=[SU o b,SU none [255,254,0,0]]) ⟨leS_rfl,leS_le le_ro,trivial⟩ (rIsNo hb (by decide) (by decide) ?_)))|( refine callD_mk (ACallF.argsS (ys:=[SU o b,SU none [254,255]]) ⟨leS_rfl,leS_le le_ro,trivial⟩ (rIsNo hb (by decide) (by decide) ?_)))|( refine callD_mk (ACallF.argsS (ys:=[SU o b,SU none [255,254]]) ⟨leS_rfl,leS_le le_ro,trivial⟩ (rIsNo hb (by decide) (by decide) ?_)))|( refine callD_mk (ACallF.argsS (ys:=[SU o b,SU none [239,187,191]]) ⟨leS_rfl,leS_le le_ro,trivial⟩ (rIsNo hb (by decide) (by decide) ?_))))
 all_goals first
  | exact leafL sub_rfl (leT_eq rfl) hK
  | (exfalso;omega)
theorem rForm {b:List Int} (hb:Asc b) (hK:K (.ret (.tup [I 1,I 0])) σ):ACallF κ Tryz.prog 36 [SU o b] σ K:=by
 rcases Nat.lt_or_ge 1 b.length with h1|h1
 ·rcases Nat.lt_or_ge 3 b.length with h3|h3
  ·exact rFormL hb h3 hK
  ·exact rFormM hb h1 h3 hK
 ·exact rFormS hb h1 hK
theorem rPoints {b:List Int} (hb:Asc b) (hK:K (.ret (.tup [SI none b,I 0])) σ):ACallF κ Tryz.prog 26 [SU o b] σ K:=by
 have hbl:=hb.1
 refine ACallF.dropL (ACallF_introA Tryz.func26 rfl ?_)
 simp only [Tryz.ntmps26]
 repeat' (first|(with_reducible first|refine AW_block ?_|refine AW_seqA (AW_seqA ?_)|refine AW_seq ?_|refine AW_runReg ?_|refine AW_runCond ?_|refine AW_runRet ?_)|simp only [WL,intF,WM,Int.reduceToNat,reduceCtorEq,WLb,Nat.reduceAdd,Nat.reduceSub,Nat.reduceLT,Bool.not_true,beq_self_eq_true,true_and,T5,T63,cok36,cok37,Tryz.results26]|(with_reducible first|refine andA (hb:=?_)|refine cD (rForm ?_ ?_)|refine cD (rSmall ?_ ?_))|((with_reducible first|refine grd_cases (fun h=>?_) (fun h=>?_)|refine condC_split (fun h=>?_) (fun h=>?_))<;>(try simp only [h])<;>(try simp only [NR_,NRb] at h))|omega)
 exact leafL sub_rfl (leT_eq rfl) hK
theorem lLines {s:ByteArray} (hb:Asc (bytesI s)) (hK:K (.ret (SL none (readR (bytesI s)).1)) σ):ACallF κ Tryz.prog 13 [.raw (.string s)] σ K:=by
 have hbl:=hb.1
 have hsz:=bytesI_len s
 refine ACallF.dropL (ACallF_intro Tryz.func13 rfl ?_)
 simp only [Tryz.ntmps13]
 repeat' (first|simp only [WL,WM,Nat.reduceAdd,Nat.reduceSub,Nat.reduceLT,true_and,convC_str,cok26,cok27,Tryz.results13]|(with_reducible first|refine y_str ?_ ?_|refine cD (rPoints ?_ ?_)|refine cD (rLines ?_ ?_))|omega|(refine maxLen_ok ?_;(first|omega|(simp only [LN_];omega))))
 exact leafL sub_rfl (leT_eq rfl) hK
end Go.Proofs.YthkabaiamcjdbaaGreat
/-
 Chapter 13: nodes on one line,plain facts.
-/

namespace Go.Proofs.YthkabaiamcjdbaaGreat
open Go.Abs
abbrev oneL (T:List Int):List Ln:=[(0,T)]
theorem blN_0 {l:List Int} (h:blankI (l.getD 0 0)=false):blN l=0:=by
 cases l with
 | nil=>rfl
 | cons c l =>
  unfold blN
  rw [List.takeWhile_cons,show blankI c=false from h];rfl
end Go.Proofs.YthkabaiamcjdbaaGreat
/-
 Walks: chapter 13's laws: the example of the document.
-/



namespace Go.Proofs.YthkabaiamcjdbaaGreat
open Go.Abs
variable {κ:Ctx} {σ:List Res} {K:Ret→List Res→Prop} {o o':Option (Option (Nat × Nat))}
abbrev al4T:List Int:=[97,58,32,49,10,98,58,10,45,32,99]
abbrev al4L:List Ln:=[(0,[97,58,32,49]),(0,[98,58]),(0,[45,32,99])]
abbrev sc4 (l:List Int):EvV:=⟨7,textI l,.empty,.empty,1,false⟩
abbrev al4E:List EvV:=[openP 5 tp0,sc4 [97],sc4 [49],sc4 [98],openP 3 tp0,sc4 [99],shutE 4,shutE 6]
set_option maxRecDepth 4000 in
theorem alive4_doc:docP al4L 0 0=.ok (al4E,3):=by kernel_rfl
set_option maxRecDepth 4000 in
theorem alive4_lines:(readR al4T).1=al4L:=by decide
set_option maxRecDepth 4000 in
theorem al4_small:Small al4L:=⟨by decide,by decide⟩
set_option maxRecDepth 4000 in
theorem lNum4 {e:Int} (hK:K (.ret (I e)) σ):ACallF κ Tryz.prog 14 [I e] σ K:=by
 refine ACallF.dropL (ACallF_intro Tryz.func14 rfl ?_)
 simp only [Tryz.ntmps14]
 repeat' (first|simp only [WL,WM,Nat.reduceAdd,Nat.reduceSub,true_and,Tryz.results14])
 exact leafL sub_rfl (leT_eq rfl) hK
set_option maxRecDepth 4000 in
theorem lAlive4 (hK:K (.ret (B true)) σ):ACallF κ Tryz.prog 10 [] σ K:=by
 have hA:Asc (bytesI { data:=#[97,58,32,49,10,98,58,10,45,32,99] }):=⟨by decide,by decide⟩
 have hb:bytesI { data:=#[97,58,32,49,10,98,58,10,45,32,99] }=al4T:=by decide
 refine ACallF.dropL (ACallF_intro Tryz.func10 rfl ?_)
 simp only [Tryz.ntmps10]
 repeat' (first|( with_reducible refine y_idx_row (hK:=?_))|simp only [WL,intF,WM,Int.reduceToNat,reduceCtorEq,WLb,Nat.reduceAdd,Nat.reduceSub,Nat.reduceLT,Nat.reduceEqDiff,Bool.not_true,beq_self_eq_true,true_and,reduceIte,Bool.false_eq_true,T3,T24,fR fl26_0,cok12,cok13,cok14,Tryz.results10,hb,alive4_lines]|(with_reducible first|refine andA (hb:=?_)|refine y_load (hK:=?_)|refine cD (lLines hA ?_)|refine callD_mk (zNodeOk0 (ls:=al4L) alive4_doc al4_small (by decide) (by decide) (fun rb rc cs hrc=>?_))|refine cD (lNum4 ?_))|((with_reducible first|refine grd_cases (fun h=>?_) (fun h=>?_)|refine condC_split (fun h=>?_) (fun h=>?_))<;>(try simp only [h])<;>(try simp only [NR_,NRb] at h))|omega)
 all_goals first
  | exact leafL (sub_cons sub_rfl) (leT_eq rfl) hK
  | (exfalso;omega)
end Go.Proofs.YthkabaiamcjdbaaGreat
/-
 Chapter 13: places in lines,words,and what stands between them: plain facts.
-/

namespace Go.Proofs.YthkabaiamcjdbaaGreat
open Go.Abs
/-! ### Places, by what stands there -/
def At (ls:List Ln) (p:Int × Int) (l:List Int):Prop:=0≤p.1∧p.1 < ls.length∧0≤p.2∧0≤(ls.getD p.1.toNat (0,[])).1∧(ls.getD p.1.toNat (0,[])).1≤p.2∧restF ls p=l
theorem at_mk {ls:List Ln}{i k:Int}{t:List Int} (h0:0≤i) (h1:i < ls.length) (h:ls.getD i.toNat (0,[])=(k,t)) (hk:0≤k):At ls (i,k) t:=by
 refine ⟨h0,h1,hk,by dsimp only;rw [h];exact hk,by dsimp only;rw [h];exact Int.le_refl _, ?_⟩
 rw [restF_in (by dsimp only;omega) (by dsimp only;omega) (by dsimp only;omega)]
 dsimp only
 rw [h]
 dsimp only
 rw [if_neg (by omega),show (min (k - max 0 k) (t.length:Int)).toNat=0 by omega,List.drop_zero]
theorem At.step {ls:List Ln}{p:Int × Int}{a l:List Int} (h:At ls p (a++l)):At ls (p.1,p.2+(a.length:Nat)) l:=by
 obtain ⟨h1,h2,h3,h4,h5,h6⟩:=h
 refine ⟨h1,h2,by dsimp only;omega,h4,by dsimp only;omega, ?_⟩
 rw [restF_in (by omega) (by omega) (by omega),if_neg (by omega)] at h6
 rw [restF_in (by dsimp only;omega) (by dsimp only;omega) (by dsimp only;omega)]
 dsimp only at *
 generalize ls.getD p.1.toNat (0,[])=x at *
 rw [if_neg (by omega)]
 have hl:=congrArg List.length h6
 rw [List.length_drop,List.length_append] at hl
 rw [show (min (p.2+(a.length:Nat) - max 0 x.1) (x.2.length:Int)).toNat=(min (p.2 - max 0 x.1) (x.2.length:Int)).toNat+a.length by omega,← List.drop_drop,h6,List.drop_left]
theorem blN_app {b r:List Int} (hb:∀ c∈b,blankI c=true) (hr:r.length=0∨blankI (r.getD 0 0)=false):blN (b++r)=b.length:=by
 have h0:blN r=0:=by
  rcases hr with h|h
  ·rw [List.length_eq_zero_iff.1 h];rfl
  ·exact blN_0 h
 unfold blN at *
 rw [List.takeWhile_append_of_pos hb,List.length_append,h0,Nat.add_zero]
theorem At.past {ls:List Ln}{p:Int × Int}{b r:List Int} (h:At ls p (b++r)) (hb:∀ c∈b,blankI c=true) (hr:r.length=0∨blankI (r.getD 0 0)=false):pastF ls p=((p.1,p.2+(b.length:Nat)),r):=by
 have hc:colF ls p=p.2:=by
  obtain ⟨h1,h2,h3,h4,h5,h6⟩:=h
  unfold colF
  rw [if_pos ⟨h1,h2⟩];omega
 unfold pastF
 rw [hc,show ((p.1,p.2):Int × Int)=p from rfl,h.2.2.2.2.2,blN_app hb hr,List.drop_left]
theorem past_line {ls:List Ln}{i k:Int}{t:List Int} (h0:0≤i) (h1:i < ls.length) (h:ls.getD i.toNat (0,[])=(k,t)) (hk:0≤k):pastF ls (i,0)=pastF ls (i,k):=by
 have hc:colF ls (i,0)=k:=by unfold colF;rw [if_pos ⟨h0,h1⟩];dsimp only;rw [h];dsimp only;omega
 have hc':colF ls (i,k)=k:=by unfold colF;rw [if_pos ⟨h0,h1⟩];dsimp only;rw [h];dsimp only;omega
 unfold pastF
 rw [hc,hc']
theorem some_here {ls:List Ln}{p:Int × Int}{b r:List Int} (h:At ls p (b++r)) (hb:∀ c∈b,blankI c=true) (h0:0 < r.length) (h1:blankI (r.getD 0 0)=false) (h2:¬r.getD 0 0=35):someF ls p=((p.1,p.2+(b.length:Nat)),true):=by
 unfold someF
 rw [h.past hb (.inr h1)]
 dsimp only
 have hc:comF ls (p.1,p.2+(b.length:Nat)) r=false:=by
  unfold comF headF
  rw [beq_eq_false_iff_ne.2 h2,Bool.and_false,Bool.false_and]
 rw [decide_eq_true h0,hc];rfl
theorem on_some {ls:List Ln}{n:Int}{p q:Int × Int} (h:someF ls p=(q,true)) (hq:q.1=p.1):onF ls n p=some (some q):=by
 unfold onF
 rw [places_step,h]
 show onL _ _ _ ((q,true)::_)=_
 unfold onL
 rw [if_pos rfl,if_neg (by omega)]
/-! ### Texts and their lines -/
def cutL:List Int→List Int × List (List Int)
 | []=>([],[])
 | c::t=>if c=10 then ([],(cutL t).1::(cutL t).2) else (c::(cutL t).1,(cutL t).2)
theorem cut_nl {t:List Int}:cutL (10::t)=([],(cutL t).1::(cutL t).2):=by rw [cutL,if_pos rfl]
theorem cut_c {c:Int}{t:List Int} (h:¬c=10):cutL (c::t)=(c::(cutL t).1,(cutL t).2):=by rw [cutL,if_neg h]
theorem cut_app:∀ {a t:List Int},(∀ c∈a,¬c=10)→cutL (a++t)=(a++(cutL t).1,(cutL t).2)
 | [],t,_=>rfl
 | c::a,t,h=>by rw [List.cons_append,cut_c (h c (by simp)),cut_app (fun x hx=>h x (by simp [hx]))];rfl
theorem tx_cut:∀ (T acc:List Int),(∀ c∈T,¬c=13)→0 < T.length→¬T.getD (T.length - 1) 0=10→tx acc T=(acc++(cutL T).1)::(cutL T).2
 | [],_,_,h,_=>by simp at h
 | [c],acc,h13,_,hl=>by
  have h1:¬c=10:=by simpa using hl
  have h2:=h13 c (by simp)
  have hb:brk c=false:=by simp [brk,h1,h2]
  rw [cut_c h1]
  simp [tx,hb,cutL]
 | c::d::r,acc,h13,_,hl=>by
  have h2:=h13 c (by simp)
  have ih:=tx_cut (d::r) (if c=10 then [] else acc++[c]) (fun x hx=>h13 x (by simp at hx ⊢;exact .inr hx)) (by simp) (by simpa using hl)
  by_cases h:c=10
  ·subst h
   rw [if_pos rfl,List.nil_append] at ih
   rw [cut_nl,tx_brk (by decide) (by simp),ih,List.append_nil]
  ·rw [if_neg h] at ih
   have hb:brk c=false:=by simp [brk,h,h2]
   rw [cut_c h,tx_push hb,ih]
   simp
def Tx (ls:List Ln) (p:Int × Int) (t:List Int):Prop:=At ls p (cutL t).1∧ls.drop (p.1.toNat+1)=(cutL t).2.map lineOf
theorem Tx.step {ls:List Ln}{p:Int × Int}{a t:List Int} (h:Tx ls p (a++t)) (ha:∀ c∈a,¬c=10):Tx ls (p.1,p.2+(a.length:Nat)) t:=by
 obtain ⟨h1,h2⟩:=h
 rw [cut_app ha] at h1 h2
 exact ⟨h1.step,h2⟩
theorem Tx.line {ls:List Ln}{p:Int × Int}{t l:List Int}{m:List (List Int)} (h:Tx ls p t) (hc:(cutL t).2=l::m):0≤p.1+1∧p.1+1 < ls.length∧ls.getD (p.1+1).toNat (0,[])=lineOf l∧ls.drop ((p.1+1).toNat+1)=m.map lineOf:=by
 obtain ⟨⟨h1,h2,-⟩,h3⟩:=h
 rw [hc,List.map_cons] at h3
 have hk:(p.1+1).toNat=p.1.toNat+1:=by omega
 have hl:=congrArg List.length h3
 rw [List.length_drop,List.length_cons] at hl
 refine ⟨by omega,by omega, ?_, ?_⟩
 ·rw [hk,List.getD_eq_getElem?_getD,← List.head?_drop,h3];rfl
 ·rw [hk,← List.drop_drop,h3];rfl
theorem lineOf_in {k:Nat}{l:List Int} (h:l.length=0∨¬l.getD 0 0=32):lineOf (List.replicate k 32++l)=((k:Int),l):=by
 have h1:(List.replicate k (32:Int)++l).takeWhile (· == 32)=List.replicate k 32++l.takeWhile (· == 32):=List.takeWhile_append_of_pos (fun c hc=>by rw [(List.mem_replicate.1 hc).2];rfl)
 have h2:(List.replicate k (32:Int)++l).dropWhile (· == 32)=l.dropWhile (· == 32):=List.dropWhile_append_of_pos (fun c hc=>by rw [(List.mem_replicate.1 hc).2];rfl)
 have h3:l.takeWhile (· == 32)=[]∧l.dropWhile (· == 32)=l:=by
  cases l with
  | nil=>exact ⟨rfl,rfl⟩
  | cons c l =>
   have hc:¬c=32:=by rcases h with h|h;simp at h;simpa using h
   have he:(c == 32)=false:=beq_eq_false_iff_ne.2 hc
   exact ⟨by rw [List.takeWhile_cons,if_neg (by rw [he];exact Bool.false_ne_true)],by rw [List.dropWhile_cons,if_neg (by rw [he];exact Bool.false_ne_true)]⟩
 unfold lineOf
 rw [h1,h2,h3.1,h3.2,List.append_nil,List.length_replicate]
theorem over_no {ls:List Ln}{i k:Int}{t:List Int} (h1:i < ls.length) (h:ls.getD i.toNat (0,[])=(k,t)) (hm:¬k=0∨t.length=0):overF ls i=false:=by
 unfold overF
 rw [decide_eq_false (by omega),h]
 have:markerI k t=0:=by unfold markerI;rw [if_neg (by rintro ⟨h1,h2,-⟩;omega)]
 rw [this];rfl
def Beg (c:Int):Prop:=blankI c=false∧¬c=35∧¬c=10

abbrev wordE (w:List Int):EvV:=⟨7,textI w,.empty,.empty,1,false⟩
theorem Tx.rest {ls:List Ln}{q:Int × Int}{c:Int}{t:List Int} (h:Tx ls q (c::t)) (hc:¬c=10):restF ls q=c::(cutL t).1:=by
 have:=h.1.2.2.2.2.2
 rw [cut_c hc] at this
 exact this
theorem Tx.is {ls:List Ln}{q:Int × Int}{c x:Int}{t:List Int} (h:Tx ls q (c::t)) (hc:¬c=10):isF ls q x=(c == x):=by
 unfold isF headF
 rw [h.rest hc]
 simp
theorem Tx.next {ls:List Ln}{q:Int × Int}{c:Int}{t:List Int} (h:Tx ls q (c::t)) (hc:¬c=10):Tx ls (q.1,q.2+1) t:=h.step (a:=[c]) (fun x hx=>by simp at hx;omega)
theorem Tx.one {T:List Int} (h:∀ c∈T,¬c=10):Tx (oneL T) (0,0) T:=by
 have e:=cut_app (t:=[]) h
 rw [List.append_nil] at e
 have e1:(cutL T).1=T:=by rw [e];exact List.append_nil _
 have e2:(cutL T).2=[]:=by rw [e];rfl
 exact ⟨by rw [e1];exact at_mk (Int.le_refl 0) (by simp) rfl (Int.le_refl 0),by rw [e2];rfl⟩
/-! ### Long keys -/
abbrev xs (n:Nat):List Int:=List.replicate n 120
theorem next_line {ls:List Ln}{i k:Int}{c:Int}{t:List Int} (h:i < ls.length) (hl:lineP ls i=(k,c::t)) (hc:Beg c) (ho:overF ls i=false):nextP ls i=.ok (i,true):=by
 have hb:nextB ls ls.length i=i:=by
  cases hn:ls.length with
  | zero=>rfl
  | succ f =>
   have hbl:=hc.1
   rw [nextB,if_neg (by
    rintro ⟨-,h2⟩
    rw [hl] at h2
    unfold bareI at h2
    rw [List.all_cons,hbl,Bool.false_and,Bool.false_or,List.dropWhile_cons,if_neg (by rw [hbl];exact Bool.false_ne_true),List.getD_cons_zero] at h2
    exact hc.2.1 (beq_iff_eq.1 h2))]
 unfold nextP
 rw [hb,ho,if_neg Bool.false_ne_true,hl,if_neg]
 rw [List.getD_cons_zero]
 intro e
 have:=hc.1
 rw [e] at this
 cases this
end Go.Proofs.YthkabaiamcjdbaaGreat
/-
 Walks: chapter 13's law FlowDeep.
-/


namespace Go.Proofs.YthkabaiamcjdbaaGreat
open Go.Abs
variable {κ:Ctx} {σ:List Res} {K:Ret→List Res→Prop} {o o':Option (Option (Nat × Nat))}
set_option maxRecDepth 4000 in
theorem lf_e:({ data:=#[] }:ByteArray)=textI []:=by decide +kernel
set_option maxRecDepth 4000 in
theorem asc_text {l:List Int} (h:Asc l):bytesI (textI l)=l:=by
 rw [bytesI_text]
 exact encL_ascii (fun c hc=>by have:=h.2 c hc;omega)
set_option maxRecDepth 4000 in
theorem str_add3 {x y:ByteArray}{v:Option Value} (h:x.size+y.size≤1000000000):(if ((x.size+y.size:Nat):Int) > IntKind.i64.max then none else v)=v:=by
 rw [if_neg]
 have:IntKind.i64.max=9223372036854775807:=by decide
 omega
end Go.Proofs.YthkabaiamcjdbaaGreat
/-
 Chapter 13: lists of words: plain facts.
-/

namespace Go.Proofs.YthkabaiamcjdbaaGreat
open Go.Abs
def CharsW (T:List Int):Prop:=∀ c∈T,c=9∨c=10∨32≤c∧c≤126
theorem CharsW.app {a b:List Int} (ha:CharsW a) (hb:CharsW b):CharsW (a++b):=fun c hc=>by rcases List.mem_append.1 hc with h|h;exact ha c h;exact hb c h
end Go.Proofs.YthkabaiamcjdbaaGreat
/-
 Walks: chapter 14's law ParserDeep.
-/




namespace Go.Proofs.YthkabaiamcjdbaaGreat
open Go.Abs
variable {κ:Ctx} {σ:List Res} {K:Ret→List Res→Prop} {o o':Option (Option (Nat × Nat))}
abbrev rowsT (rows:List (List Int)):List Int:=rows.flatMap fun r=>r++[10]
set_option maxRecDepth 4000 in
theorem tx_rows:∀ rows:List (List Int),(∀ r∈rows,∀ c∈r,¬c=10∧¬c=13)→tx [] (rowsT rows)=rows
 | [],_=>by simp [tx]
 | r::rs,h=>by
  show tx [] ((r++[10])++rowsT rs)=_
  rw [List.append_assoc,List.singleton_append,tx_stepB (fun c hc=>by have:=h r (by simp) c hc;simp [brk,this]) (by decide) (by rintro ⟨h,-⟩;exact absurd h (by decide)),tx_rows rs (fun x hx=>h x (by simp [hx]))]
set_option maxRecDepth 4000 in
theorem rows_lines {rows:List (List Int)} (h:∀ r∈rows,∀ c∈r,c=9∨32≤c∧c≤126):(readR (rowsT rows)).1=rows.map lineOf:=by
 have hg:readOk (rowsT rows)=true:=by
  unfold readOk
  rw [List.all_eq_true]
  intro c hc
  obtain ⟨r,hr,hcr⟩:=List.mem_flatMap.1 hc
  rcases List.mem_append.1 hcr with h1|h1
  ·have:=h r hr c h1
   refine goodC_yes ?_ (by omega)
   unfold printI
   simp;omega
  ·simp at h1;subst h1;decide
 unfold readR
 rw [if_pos hg]
 show linesOf _=_
 unfold linesOf
 rw [tx_rows rows (fun r hr c hc=>by have:=h r hr c hc;omega)]
end Go.Proofs.YthkabaiamcjdbaaGreat
/-
 Chapter 14: what is read at a place depends on its own lines,up to a line that stands no further to the right (plain): places.
-/

namespace Go.Proofs.YthkabaiamcjdbaaGreat
open Go.Abs
def StopL (ls:List Ln) (j s:Int):Prop:=bareI (lineP ls j).2=false∧(lineP ls j).1=s∧¬(lineP ls j).2.getD 0 0=9
structure Ag (ls ls':List Ln) (d m s:Int):Prop where
 d0:0≤d
 m0:0≤m
 s0:0≤s
 at_:∀ i:Int,0≤i→i < m→ls.getD (i+d).toNat (0,[])=ls'.getD i.toNat (0,[])
 len:m+d≤ls.length
 len':m≤ls'.length
 over:overF ls (m+d)=overF ls' m
 stop:overF ls' m=false→StopL ls (m+d) s∧StopL ls' m s
 ll:ls'.length≤ls.length
 hs:Small ls
 hs':Small ls'
def InR (m:Int) (p:Int × Int):Prop:=0≤p.1∧p.1 < m
def sh (d:Int) (p:Int × Int):Int × Int:=(p.1+d,p.2)
theorem sh_col (d:Int) (p:Int × Int) (k:Int):((sh d p).1,(sh d p).2+k)=sh d (p.1,p.2+k):=rfl
theorem sh_inj {d:Int}{p q:Int × Int}:sh d p=sh d q↔p=q:=by
 constructor
 ·intro h
  unfold sh at h
  obtain ⟨h1,h2⟩:=Prod.mk.inj h
  exact Prod.ext (by omega) h2
 ·rintro rfl;rfl
variable {ls ls':List Ln} {d m s:Int}
theorem Ag.line (hA:Ag ls ls' d m s) {i:Int} (h0:0≤i) (h1:i < m):lineP ls (i+d)=lineP ls' i:=hA.at_ i h0 h1
theorem Ag.rest (hA:Ag ls ls' d m s) {p:Int × Int} (hp:InR m p):restF ls (sh d p)=restF ls' p:=by
 have h1:=hA.at_ p.1 hp.1 hp.2
 have h2:=hA.len;have h3:=hA.len';have h4:=hA.d0
 obtain ⟨h5,h6⟩:=hp
 unfold restF sh
 dsimp only
 rw [h1]
 by_cases hc:p.2 < 0
 ·rw [if_pos (.inr (.inr hc)),if_pos (.inr (.inr hc))]
 ·rw [if_neg (show ¬(p.1+d < 0∨(ls.length:Int)≤p.1+d∨p.2 < 0) by omega),if_neg (show ¬(p.1 < 0∨(ls'.length:Int)≤p.1∨p.2 < 0) by omega)]
theorem Ag.rest_add (hA:Ag ls ls' d m s) {p:Int × Int} (hp:InR m p) (k:Int):restF ls ((sh d p).1,(sh d p).2+k)=restF ls' (p.1,p.2+k):=hA.rest (p:=(p.1,p.2+k)) hp
theorem Ag.isF (hA:Ag ls ls' d m s) {p:Int × Int} (hp:InR m p) (c:Int):isF ls (sh d p) c=isF ls' p c:=by unfold Go.Proofs.YthkabaiamcjdbaaGreat.isF;rw [hA.rest hp]
theorem Ag.loose (hA:Ag ls ls' d m s) {p:Int × Int} (hp:InR m p) (c:Int):looseF ls (sh d p) c=looseF ls' p c:=by unfold looseF;rw [hA.rest hp]
theorem Ag.after (hA:Ag ls ls' d m s) {p:Int × Int} (hp:InR m p):afterF ls (sh d p)=afterF ls' p:=by
 unfold afterF
 rw [show ((sh d p).1,(sh d p).2 - 1)=sh d (p.1,p.2 - 1) from rfl,hA.rest (p:=(p.1,p.2 - 1)) hp]
theorem Ag.com (hA:Ag ls ls' d m s) {p:Int × Int} (hp:InR m p) (l:List Int):comF ls (sh d p) l=comF ls' p l:=by unfold comF;rw [hA.after hp];rfl
theorem Ag.overI (hA:Ag ls ls' d m s) {i:Int} (h0:0≤i) (h1:i≤m):overF ls (i+d)=overF ls' i:=by
 by_cases h:i < m
 ·have h2:=hA.len;have h3:=hA.len';have h4:=hA.d0
  unfold overF
  rw [hA.at_ i h0 h,decide_eq_false (by omega),decide_eq_false (by omega)]
 ·rw [show i=m by omega];exact hA.over
theorem Ag.col (hA:Ag ls ls' d m s) {p:Int × Int} (hp:InR m p):colF ls (sh d p)=colF ls' p:=by
 have h2:=hA.len;have h3:=hA.len';have h4:=hA.d0
 obtain ⟨h5,h6⟩:=hp
 unfold colF sh
 dsimp only
 rw [if_pos (by omega),if_pos (by omega),hA.at_ p.1 h5 h6]
theorem Ag.past (hA:Ag ls ls' d m s) {p:Int × Int} (hp:InR m p):pastF ls (sh d p)=(sh d (pastF ls' p).1,(pastF ls' p).2):=by
 have hr:=hA.rest (p:=(p.1,colF ls' p)) hp
 unfold pastF
 rw [hA.col hp,show ((sh d p).1,colF ls' p)=sh d (p.1,colF ls' p) from rfl,hr]
 rfl
theorem Ag.some (hA:Ag ls ls' d m s) {p:Int × Int} (hp:InR m p):someF ls (sh d p)=(sh d (someF ls' p).1,(someF ls' p).2):=by
 unfold someF
 rw [hA.past hp]
 dsimp only
 rw [hA.com (by exact hp)]
theorem over_lt {ls:List Ln}{j:Int} (h:overF ls j=false):j < ls.length:=by
 unfold overF at h
 rw [Bool.or_eq_false_iff] at h
 have:=of_decide_eq_false h.1
 omega
theorem dw_all:∀ {l:List Int},l.dropWhile blankI=[]→l.all blankI=true
 | [],_=>rfl
 | c::l,h=>by
  rw [List.dropWhile_cons] at h
  rw [List.all_cons]
  split at h
  ·rename_i hc
   rw [hc,dw_all h];rfl
  ·cases h
theorem bare_head {l:List Int} (h:bareI l=false):0 < (l.drop (blN l)).length∧headF (l.drop (blN l)) 35=false:=by
 have hd:l.drop (blN l)=l.dropWhile blankI:=by
  unfold blN
  clear h
  induction l with
  | nil=>rfl
  | cons c l ih =>
   rw [List.takeWhile_cons,List.dropWhile_cons]
   split
   ·simpa using ih
   ·rfl
 rw [hd]
 unfold bareI at h
 rw [Bool.or_eq_false_iff] at h
 have h1:0 < (l.dropWhile blankI).length:=by
  refine Nat.pos_of_ne_zero fun h0=>?_
  have h0:l.dropWhile blankI=[]:=List.eq_nil_of_length_eq_zero h0
  have:l.all blankI=true:=by
   exact dw_all h0
  rw [this] at h
  exact absurd h.1 (by simp)
 refine ⟨h1, ?_⟩
 unfold headF
 rw [h.2]
 simp
theorem stop_some {ls:List Ln}{j s:Int} (hs:Small ls) (h0:0≤j) (ho:overF ls j=false) (h:StopL ls j s):(someF ls (j,0)).1.1=j∧(someF ls (j,0)).2=true:=by
 refine ⟨rfl, ?_⟩
 obtain ⟨h1,h2,h3⟩:=h
 have hl:=over_lt ho
 have ha:=hs.at_ (i:=j.toNat) (by omega)
 have hc:colF ls (j,0)=(lineP ls j).1:=by
  unfold colF
  dsimp only
  rw [if_pos (by omega)]
  show max 0 (lineP ls j).1=_
  have:0≤(lineP ls j).1:=ha.2.1
  omega
 have hr:restF ls (j,(lineP ls j).1)=(lineP ls j).2:=by
  have:0≤(lineP ls j).1:=ha.2.1
  unfold restF
  dsimp only
  rw [if_neg (by omega)]
  show (if (lineP ls j).1 < (lineP ls j).1 then [32] else (lineP ls j).2.drop (min ((lineP ls j).1 - max 0 (lineP ls j).1) _).toNat)=_
  rw [if_neg (by omega),show (min ((lineP ls j).1 - max 0 (lineP ls j).1) (((lineP ls j).2.length:Nat):Int)).toNat=0 by omega]
  rfl
 have hp:(pastF ls (j,0)).2=(lineP ls j).2.drop (blN (lineP ls j).2):=by
  unfold pastF
  rw [hc]
  dsimp only
  rw [hr]
 obtain ⟨b1,b2⟩:=bare_head h1
 unfold someF comF
 dsimp only
 rw [hp,b2,decide_eq_true b1]
 rfl
theorem stop_on {ls:List Ln}{j s n l0:Int} (hs:Small ls) (h0:0≤j) (ho:overF ls j=false) (h:StopL ls j s) (hn:s≤n) (hl:l0 < j):∀ M,onL ls n l0 (placesN ls M (j,0))=none:=by
 intro M
 obtain ⟨a1,a2⟩:=stop_some hs h0 ho h
 have hh:∀ r,onL ls n l0 (someF ls (j,0)::r)=none:=fun r=>by
  rw [show someF ls (j,0)=((someF ls (j,0)).1,true) from Prod.ext rfl a2]
  unfold onL
  rw [if_pos rfl,a1,if_pos ⟨hl,by have:(ls.getD j.toNat (0,[])).1=s:=h.2.1;omega⟩]
 cases M
 ·exact hh []
 ·exact hh _
theorem Ag.onL (hA:Ag ls ls' d m s) {n l0:Int} (hn:s≤n):∀ {M M':Nat}{p:Int × Int},InR m p→l0≤p.1→m - p.1≤M→m - p.1≤M' →
  onL ls n (l0+d) (placesN ls M (sh d p))=(Go.Proofs.YthkabaiamcjdbaaGreat.onL ls' n l0 (placesN ls' M' p)).map (·.map (sh d))∧∀ q,Go.Proofs.YthkabaiamcjdbaaGreat.onL ls' n l0 (placesN ls' M' p)=Option.some (Option.some q)→InR m q∧p.1≤q.1
 | 0,_,p,hp,_,h,_=>by have:=hp.2;omega
 | _,0,p,hp,_,_,h=>by have:=hp.2;omega
 | M+1,M'+1,p,hp,hl,h1,h2=>by
  have hp1:=hp.1;have hp2:=hp.2
  rw [placesN,placesN,hA.some hp]
  have e1:(sh d p).1+1=p.1+1+d:=by show p.1+d+1=_;omega
  rw [e1,hA.overI (i:=p.1+1) (by omega) (by omega)]
  have hq1:(someF ls' p).1.1=p.1:=rfl
  generalize hq:someF ls' p=q at hq1
  obtain ⟨q,b⟩:=q
  dsimp only at hq1 ⊢
  cases b
  ·have e2:∀ r,Go.Proofs.YthkabaiamcjdbaaGreat.onL ls n (l0+d) ((sh d q,false)::r)=Go.Proofs.YthkabaiamcjdbaaGreat.onL ls n (l0+d) r:=fun r=>rfl
   have e3:∀ r,Go.Proofs.YthkabaiamcjdbaaGreat.onL ls' n l0 ((q,false)::r)=Go.Proofs.YthkabaiamcjdbaaGreat.onL ls' n l0 r:=fun r=>rfl
   rw [e2,e3]
   by_cases ho:overF ls' (p.1+1)=true
   ·rw [if_pos ho,if_pos ho]
    exact ⟨rfl,fun q h=>by cases h⟩
   ·rw [if_neg ho,if_neg ho]
    by_cases hm:p.1+1 < m
    ·obtain ⟨i1,i2⟩:=hA.onL hn (l0:=l0) (M:=M) (M':=M') (p:=(p.1+1,0)) ⟨by dsimp only;omega,hm⟩ (by dsimp only;omega) (by dsimp only;omega) (by dsimp only;omega)
     exact ⟨i1,fun q h=>by obtain ⟨a1,a2⟩:=i2 q h;exact ⟨a1,by dsimp only at a2;omega⟩⟩
    ·have hmm:p.1+1=m:=by omega
     rw [hmm] at ho ⊢
     have ho':overF ls' m=false:=by simpa using ho
     obtain ⟨s1,s2⟩:=hA.stop ho'
     have hm0:=hA.m0;have hd0:=hA.d0
     rw [stop_on hA.hs (by omega) (by rw [hA.over];exact ho') s1 hn (by omega),stop_on hA.hs' hm0 ho' s2 hn (by omega)]
     exact ⟨rfl,fun q h=>by cases h⟩
  ·unfold Go.Proofs.YthkabaiamcjdbaaGreat.onL
   rw [if_pos rfl,if_pos rfl]
   have e4:(ls.getD (sh d q).1.toNat (0,[])).1=(ls'.getD q.1.toNat (0,[])).1:=by
    show (ls.getD (q.1+d).toNat (0,[])).1=_
    rw [hA.at_ q.1 (by omega) (by omega)]
   rw [e4]
   have e5:(sh d q).1=q.1+d:=rfl
   by_cases hc:l0 < q.1∧(ls'.getD q.1.toNat (0,[])).1≤n
   ·rw [if_pos ⟨by omega,hc.2⟩,if_pos hc]
    exact ⟨rfl,fun q h=>by cases h⟩
   ·rw [if_neg (fun h=>hc ⟨by omega,h.2⟩),if_neg hc]
    exact ⟨rfl,fun q' h=>by cases h;exact ⟨⟨by omega,by omega⟩,by omega⟩⟩
theorem Ag.onF (hA:Ag ls ls' d m s) {n:Int} (hn:s≤n) {p:Int × Int} (hp:InR m p) :
  onF ls n (sh d p)=(Go.Proofs.YthkabaiamcjdbaaGreat.onF ls' n p).map (·.map (sh d))∧∀ q,Go.Proofs.YthkabaiamcjdbaaGreat.onF ls' n p=Option.some (Option.some q)→InR m q∧p.1≤q.1:=by
 have h1:=hA.len;have h2:=hA.len';have hp1:=hp.1;have hp2:=hp.2
 exact hA.onL hn hp (Int.le_refl _) (by show m - p.1≤((((ls.length:Int) - (p.1+d)).toNat:Nat):Int);omega) (by omega)
theorem Ag.must (hA:Ag ls ls' d m s) {n:Int} (hn:s≤n) {p q:Int × Int} (hp:InR m p) (h:mustF ls' n p=.ok q):mustF ls n (sh d p)=.ok (sh d q)∧InR m q:=by
 obtain ⟨h1,h2⟩:=hA.onF hn hp
 unfold mustF at h ⊢
 rw [h1]
 split at h
 ·cases h
 ·cases h
 ·rename_i q' hq
  cases h
  rw [hq]
  exact ⟨rfl,(h2 _ hq).1⟩
theorem Ag.must_add (hA:Ag ls ls' d m s) {n:Int} (hn:s≤n) {p q:Int × Int}{k:Int} (hp:InR m p) (h:mustF ls' n (p.1,p.2+k)=.ok q):mustF ls n ((sh d p).1,(sh d p).2+k)=.ok (sh d q)∧InR m q:=hA.must hn (p:=(p.1,p.2+k)) hp h
theorem Ag.trait (hA:Ag ls ls' d m s) {p:Int × Int} (hp:InR m p) {v w:TrV} (ha:w.a=v.a) (ht:w.t=v.t) :
  traitF ls (sh d p) w=(traitF ls' p v).map (·.map fun v=>⟨v.a,v.t,sh d v.q⟩)∧∀ v',traitF ls' p v=Option.some (Option.some v')→InR m v'.q∧v'.q.1=p.1:=by
 unfold traitF
 rw [ha,ht,hA.rest hp,hA.rest_add hp,hA.rest_add hp]
 split
 ·split
  ·exact ⟨rfl,fun v' h=>by cases h;exact ⟨hp,rfl⟩⟩
  ·exact ⟨rfl,fun v' h=>by cases h⟩
 ·split
  ·split
   ·exact ⟨rfl,fun v' h=>by cases h;exact ⟨hp,rfl⟩⟩
   ·exact ⟨rfl,fun v' h=>by cases h⟩
  ·exact ⟨rfl,fun v' h=>by cases h⟩
def VR (d m:Int) (v w:TrV):Prop:=w.a=v.a∧w.t=v.t∧(anyT v=true→w.q=sh d v.q∧InR m v.q)
theorem Ag.traitsG (hA:Ag ls ls' d m s) {n:Int} (hn:s≤n):∀ {f:Nat}{v w v2:TrV}{q q2:Int × Int}{ok:Bool},InR m q→VR d m v w→traitsG ls' n f v q true=.ok (v2,q2,ok) →
  ∃ w2 q3,Go.Proofs.YthkabaiamcjdbaaGreat.traitsG ls n f w (sh d q) true=.ok (w2,q3,ok)∧VR d m v2 w2∧(ok=true→q3=sh d q2∧InR m q2)
 | 0,v,w,v2,q,q2,ok,hq,hv,h=>by
  obtain ⟨t1,t2⟩:=hA.trait hq (v:=v) (w:=w) hv.1 hv.2.1
  unfold Go.Proofs.YthkabaiamcjdbaaGreat.traitsG at h ⊢
  rw [t1]
  split at h
  ·cases h
  ·rename_i ht
   cases h
   rw [ht]
   exact ⟨_,_,rfl,hv,fun _=>⟨rfl,hq⟩⟩
  ·cases h
 | f+1,v,w,v2,q,q2,ok,hq,hv,h=>by
  obtain ⟨t1,t2⟩:=hA.trait hq (v:=v) (w:=w) hv.1 hv.2.1
  unfold Go.Proofs.YthkabaiamcjdbaaGreat.traitsG at h ⊢
  rw [t1]
  split at h
  ·cases h
  ·rename_i ht
   cases h
   rw [ht]
   exact ⟨_,_,rfl,hv,fun _=>⟨rfl,hq⟩⟩
  ·rename_i v' ht
   rw [ht]
   obtain ⟨c1,c2⟩:=t2 _ ht
   obtain ⟨o1,o2⟩:=hA.onF hn c1
   dsimp only [Option.map]
   rw [o1]
   have hv':VR d m v' ⟨v'.a,v'.t,sh d v'.q⟩:=⟨rfl,rfl,fun _=>⟨rfl,c1⟩⟩
   split at h
   ·cases h
   ·rename_i hq'
    rw [hq']
    rw [traitsG_false] at h
    cases h
    exact ⟨_,_,traitsG_false,hv',fun h=>by cases h⟩
   ·rename_i q' hq'
    rw [hq']
    exact hA.traitsG hn (o2 _ hq').1 hv' h
where
 traitsG_false {ls:List Ln} {n:Int} {f:Nat} {v:TrV} {q:Int × Int}:Go.Proofs.YthkabaiamcjdbaaGreat.traitsG ls n f v q false=.ok (v,q,false):=by cases f<;>rfl
theorem Ag.traits (hA:Ag ls ls' d m s) {n:Int} (hn:s≤n) {p:Int × Int}{v:TrV}{q:Int × Int}{ok:Bool} (hp:InR m p) (h:traitsF ls' n p=.ok (v,q,ok)) :
  ∃ w q3,traitsF ls n (sh d p)=.ok (w,q3,ok)∧VR d m v w∧(ok=true→q3=sh d q∧InR m q):=by
 obtain ⟨o1,o2⟩:=hA.onF hn hp
 have hv0:VR d m tr0 tr0:=⟨rfl,rfl,fun h=>by rw [anyT_0] at h;cases h⟩
 unfold traitsF at h ⊢
 rw [o1]
 split at h
 ·cases h
 ·rename_i hq
  rw [hq]
  cases h
  exact ⟨_,_,rfl,hv0,fun h=>by cases h⟩
 ·rename_i q' hq
  rw [hq]
  exact hA.traitsG hn (o2 _ hq).1 hv0 h
end Go.Proofs.YthkabaiamcjdbaaGreat
/-
 Chapter 14: what is read at a place depends on its own lines (plain): nodes of flow.
-/

namespace Go.Proofs.YthkabaiamcjdbaaGreat
open Go.Abs
variable {ls ls':List Ln} {d m s:Int}
theorem Ag.quotedN (hA:Ag ls ls' d m s) {n c:Int} (hn:s≤n):∀ {f' f:Nat}{p p2:Int × Int}{l:List Int}{all all2:List (List Int)}{k:Int},f'≤f→InR m p→Go.Proofs.YthkabaiamcjdbaaGreat.quotedN ls' n c f' p l all=.ok (p2,all2,k) →
  Go.Proofs.YthkabaiamcjdbaaGreat.quotedN ls n c f (sh d p) l all=.ok (sh d p2,all2,k)∧InR m p2
 | f',f,p,p2,l,all,all2,k,hf,hp,h=>by
  have hp1:=hp.1;have hp2:=hp.2
  rw [quotedN_eq] at h ⊢
  have e1:(sh d p).1+1=p.1+1+d:=by show p.1+d+1=_;omega
  rw [e1,hA.overI (i:=p.1+1) (by omega) (by omega)]
  split at h
  ·rename_i hc
   rw [if_pos hc]
   cases h
   exact ⟨rfl,hp⟩
  ·rename_i hc
   rw [if_neg hc]
   split at h
   ·cases h
   ·rename_i ho
    rw [if_neg ho]
    by_cases hm:p.1+1 < m
    ·rw [hA.at_ (p.1+1) (by omega) hm]
     split at h
     ·cases h
     ·rename_i hb
      rw [if_neg hb]
      cases f' with
      | zero=>cases h
      | succ f' =>
       cases f with
       | zero=>omega
       | succ f =>
        exact hA.quotedN hn (p:=(p.1+1,(ls'.getD (p.1+1).toNat (0,[])).1)) (by omega) ⟨by dsimp only;omega,hm⟩ h
    ·exfalso
     have hmm:p.1+1=m:=by omega
     rw [hmm] at h ho
     obtain ⟨-,b1,b2,-⟩:=hA.stop (by simpa using ho)
     have b3:(lineP ls' m).2.all blankI=false:=by
      unfold bareI at b1
      rw [Bool.or_eq_false_iff] at b1
      exact b1.1
     rw [if_pos ⟨b3,by show (lineP ls' m).1≤n;omega⟩] at h
     cases h
theorem Ag.quoted (hA:Ag ls ls' d m s) {n c k:Int} (hn:s≤n) {q e:Int × Int}{t:List Int} (hq:InR m q) (h:quotedF ls' n c q=.ok (t,k,e)) :
  quotedF ls n c (sh d q)=.ok (t,k,sh d e)∧InR m e:=by
 unfold quotedF at h ⊢
 rw [hA.rest_add hq]
 split at h
 ·cases h
 ·rename_i p all k2 hr
  obtain ⟨a1,a2⟩:=hA.quotedN hn (f:=ls.length) (by have:=hA.ll;omega) (p:=(q.1,q.2+1)) hq hr
  rw [show ((sh d q).1,(sh d q).2+1)=sh d (q.1,q.2+1) from rfl,a1]
  dsimp only
  split at h
  ·rename_i hc
   rw [if_pos hc]
   split at h
   ·rename_i h0
    rw [if_pos h0]
    cases h
    exact ⟨rfl,a2⟩
   ·cases h
  ·rename_i hc
   rw [if_neg hc]
   cases h
   exact ⟨rfl,a2⟩
theorem Ag.nextL (hA:Ag ls ls' d m s):∀ {f f':Nat}{i:Int},0≤i→i≤m→m - i≤f→m - i≤f'→Go.Proofs.YthkabaiamcjdbaaGreat.nextL ls f (i+d)=Go.Proofs.YthkabaiamcjdbaaGreat.nextL ls' f' i+d∧i≤Go.Proofs.YthkabaiamcjdbaaGreat.nextL ls' f' i∧Go.Proofs.YthkabaiamcjdbaaGreat.nextL ls' f' i≤m
 | f,f',i,h0,h1,h2,h3=>by
  by_cases hm:i < m
  ·cases f with
   | zero=>omega
   | succ f =>
    cases f' with
    | zero=>omega
    | succ f' =>
     unfold Go.Proofs.YthkabaiamcjdbaaGreat.nextL
     rw [hA.overI h0 h1,hA.at_ i h0 hm]
     split
     ·rw [show i+d+1=i+1+d by omega]
      obtain ⟨a1,a2,a3⟩:=hA.nextL (f:=f) (f':=f') (i:=i+1) (by omega) (by omega) (by omega) (by omega)
      exact ⟨a1,by omega,a3⟩
     ·exact ⟨rfl,Int.le_refl _,by omega⟩
  ·have hmm:i=m:=by omega
   subst hmm
   have st:∀ {ls:List Ln} {j:Int},(overF ls j=false→StopL ls j s)→∀ f,Go.Proofs.YthkabaiamcjdbaaGreat.nextL ls f j=j:=fun {ls j} hs f=>by
    cases f with
    | zero=>rfl
    | succ f =>
     unfold Go.Proofs.YthkabaiamcjdbaaGreat.nextL
     refine if_neg fun ⟨ho,hb⟩=>?_
     have:=(hs ho).1
     unfold bareI at this
     rw [Bool.or_eq_false_iff] at this
     have h9:(lineP ls j).2.all blankI=true:=hb
     rw [this.1] at h9
     cases h9
   rw [st (j:=i) fun ho=>(hA.stop ho).2,st (j:=i+d) fun ho=>(hA.stop (by rw [← hA.over];exact ho)).1]
   exact ⟨rfl,Int.le_refl _,Int.le_refl _⟩
theorem Ag.further (hA:Ag ls ls' d m s) {n:Int} (hn:s≤n) {ib:Bool}{i:Int} (h0:0≤i) (h1:i < m) :
  (furtherF ls n ib (i+d)).2=(furtherF ls' n ib i).2∧((furtherF ls' n ib i).2=true→(furtherF ls n ib (i+d)).1=sh d (furtherF ls' n ib i).1∧InR m (furtherF ls' n ib i).1):=by
 have hl:=hA.len;have hl':=hA.len';have hd0:=hA.d0
 obtain ⟨a1,a2,a3⟩:=hA.nextL (f:=ls.length) (f':=ls'.length) (i:=i+1) (by omega) (by omega) (by omega) (by omega)
 unfold furtherF
 rw [show i+d+1=i+1+d by omega,a1]
 generalize Go.Proofs.YthkabaiamcjdbaaGreat.nextL ls' ls'.length (i+1)=k at a2 a3
 rw [hA.overI (by omega) a3]
 by_cases hm:k < m
 ·rw [hA.at_ k (by omega) hm]
  split
  ·exact ⟨rfl,fun h=>by cases h⟩
  ·have hp:InR m (k,(0:Int)):=⟨by dsimp only;omega,hm⟩
   rw [show (k+d,(0:Int))=sh d (k,0) from rfl,hA.past hp]
   exact ⟨rfl,fun _=>⟨rfl,hp⟩⟩
 ·have hmm:k=m:=by omega
  subst hmm
  by_cases ho:overF ls' k=true
  ·rw [if_pos (.inl ho),if_pos (.inl ho)]
   exact ⟨rfl,fun h=>by cases h⟩
  ·obtain ⟨s1,s2⟩:=hA.stop (by simpa using ho)
   have s3:(ls.getD (k+d).toNat (0,[])).1=s:=s1.2.1
   have s4:(ls'.getD k.toNat (0,[])).1=s:=s2.2.1
   rw [if_pos (.inr (by omega)),if_pos (.inr (by omega))]
   exact ⟨rfl,fun h=>by cases h⟩
theorem Ag.plainN (hA:Ag ls ls' d m s) {n:Int} (hn:s≤n) {ib:Bool}:∀ {f' f:Nat}{p e:Int × Int}{l:List Int}{all all2:List (List Int)},f'≤f→InR m p→Go.Proofs.YthkabaiamcjdbaaGreat.plainN ls' n ib f' p l all=.ok (all2,e) →
  Go.Proofs.YthkabaiamcjdbaaGreat.plainN ls n ib f (sh d p) l all=.ok (all2,sh d e)∧InR m e
 | f',f,p,e,l,all,all2,hf,hp,h=>by
  have hp1:=hp.1;have hp2:=hp.2
  rw [plainN_eq] at h ⊢
  obtain ⟨g1,g2⟩:=hA.further hn (ib:=ib) (i:=p.1) hp1 hp2
  have e2:(pastF ls ((sh d p).1,(sh d p).2+(endI l (!ib):Nat))).2=(pastF ls' (p.1,p.2+(endI l (!ib):Nat))).2:=by
   have:=hA.past (p:=(p.1,p.2+((endI l (!ib):Nat):Int))) hp
   rw [sh_col,this]
  rw [e2,show (sh d p).1=p.1+d from rfl,g1]
  split at h
  ·cases h
  ·rename_i h1
   rw [if_neg h1]
   split at h
   ·rename_i h2
    rw [if_pos h2]
    obtain ⟨g3,g4⟩:=g2 h2.2
    cases f' with
    | zero=>cases h
    | succ f' =>
     cases f with
     | zero=>omega
     | succ f =>
      dsimp only at h ⊢
      rw [g3,hA.rest g4,show (sh d (furtherF ls' n ib p.1).1).1 - (p.1+d) - 1=(furtherF ls' n ib p.1).1.1 - p.1 - 1 by show (furtherF ls' n ib p.1).1.1+d - (p.1+d) - 1=_;omega]
      exact hA.plainN hn (by omega) g4 h
   ·rename_i h2
    rw [if_neg h2]
    cases h
    exact ⟨rfl,hp⟩
theorem Ag.plain (hA:Ag ls ls' d m s) {n:Int} (hn:s≤n) {ib:Bool}{p e:Int × Int}{l t:List Int} (hp:InR m p) (h:plainF ls' n ib p l=.ok (t,e)) :
  plainF ls n ib (sh d p) l=.ok (t,sh d e)∧InR m e:=by
 unfold plainF at h ⊢
 split at h
 ·cases h
 ·rename_i hr
  cases h
  obtain ⟨a1,a2⟩:=hA.plainN hn (f:=ls.length) (by have:=hA.ll;omega) hp hr
  rw [a1]
  exact ⟨rfl,a2⟩
theorem Ag.alias (hA:Ag ls ls' d m s) {p:Int × Int} (hp:InR m p) (l:List Int):aliasB ls (sh d p) l=aliasB ls' p l:=by
 unfold aliasB
 rw [hA.rest_add hp]
def LocN (ls':List Ln) (d m:Int) (N N':Int × Int→NodeR):Prop:=∀ p ev e b,InR m p→Pl ls' p→N' p=.ok (ev,e,b)→N (sh d p)=.ok (ev,sh d e,b)∧InR m e
def LocE (ls':List Ln) (d m:Int) (E E':Int × Int→PartR):Prop:=∀ p ev e,InR m p→Pl ls' p→E' p=.ok (ev,e)→E (sh d p)=.ok (ev,sh d e)∧InR m e
theorem Ag.sign (hA:Ag ls ls' d m s) {p:Int × Int} (hp:InR m p) (k:(Int × Int) × Bool):signF ls (sh d p) (sh d k.1,k.2)=signF ls' p k:=by
 unfold signF
 rw [hA.loose hp,hA.isF hp]
 dsimp only
 simp only [sh_inj]
theorem Ag.value (hA:Ag ls ls' d m s) {n:Int} (hn:s≤n) {N N':Int × Int→NodeR}{key:(Int × Int) × Bool}{c:Int}{ev:List EvV}{e:Int × Int} (hN:LocN ls' d m N N') (hk:InR m key.1) (h:valueF ls' n N' key c=.ok (ev,e)) :
  valueF ls n N (sh d key.1,key.2) c=.ok (ev,sh d e)∧InR m e:=by
 unfold valueF at h ⊢
 split at h
 ·cases h
 ·rename_i p hm
  obtain ⟨a1,a2⟩:=hA.must hn hk hm
  rw [a1]
  dsimp only
  rw [hA.sign a2]
  split at h
  ·rename_i h1
   rw [if_pos h1]
   cases h
   exact ⟨rfl,hk⟩
  ·rename_i h1
   rw [if_neg h1]
   split at h
   ·cases h
   ·rename_i q hm2
    obtain ⟨b1,b2⟩:=hA.must_add hn a2 hm2
    rw [b1]
    dsimp only
    rw [hA.isF b2,hA.isF b2]
    split at h
    ·rename_i h2
     rw [if_pos h2]
     cases h
     exact ⟨rfl,a2⟩
    ·rename_i h2
     rw [if_neg h2]
     split at h
     ·cases h
     ·rename_i hq
      cases h
      obtain ⟨c1,c2⟩:=hN _ _ _ _ b2 (must_q hA.hs' hm2).2.1 hq
      rw [c1]
      exact ⟨rfl,c2⟩
theorem Ag.asked (hA:Ag ls ls' d m s) {n:Int} (hn:s≤n) {N N':Int × Int→NodeR}{p:Int × Int}{c:Int}{ev:List EvV}{e:Int × Int}{b:Bool} (hN:LocN ls' d m N N') (hp:InR m p) (h:askedF ls' n N' p c=.ok (ev,e,b)) :
  askedF ls n N (sh d p) c=.ok (ev,sh d e,b)∧InR m e:=by
 unfold askedF at h ⊢
 split at h
 ·cases h
 ·rename_i q hm2
  obtain ⟨b1,b2⟩:=hA.must_add hn hp hm2
  rw [b1]
  dsimp only
  rw [hA.isF b2,hA.isF b2,hA.loose b2]
  split at h
  ·rename_i h2
   rw [if_pos h2]
   cases h
   exact ⟨rfl,hp⟩
  ·rename_i h2
   rw [if_neg h2]
   exact hN _ _ _ _ b2 (must_q hA.hs' hm2).2.1 h
def MvR (d m:Int) (r r':NodeR):Prop:=∀ ev e b,r'=.ok (ev,e,b)→r=.ok (ev,sh d e,b)∧InR m e
theorem Ag.keyed (hA:Ag ls ls' d m s) {n:Int} (hn:s≤n) {N N':Int × Int→NodeR}{r r':NodeR}{c:Int}{ev:List EvV}{e:Int × Int} (hN:LocN ls' d m N N') (hr:MvR d m r r') (h:keyedF ls' n N' r' c=.ok (ev,e)) :
  keyedF ls n N r c=.ok (ev,sh d e)∧InR m e:=by
 unfold keyedF at h ⊢
 split at h
 ·cases h
 ·obtain ⟨a1,a2⟩:=hr _ _ _ rfl
  rw [a1]
  dsimp only
  split at h
  ·cases h
  ·rename_i hv
   cases h
   obtain ⟨b1,b2⟩:=hA.value hn hN a2 hv
   rw [b1]
   exact ⟨rfl,b2⟩
theorem Ag.pair (hA:Ag ls ls' d m s) {n:Int} (hn:s≤n) {N N':Int × Int→NodeR} (hN:LocN ls' d m N N'):LocE ls' d m (pairF ls n N) (pairF ls' n N'):=by
 intro p ev e hp hpl h
 unfold pairF at h ⊢
 rw [hA.loose hp]
 split at h
 ·rename_i h1
  rw [if_pos h1]
  exact hA.keyed hn hN (fun ev e b h=>hA.asked hn hN hp h) h
 ·rename_i h1
  rw [if_neg h1]
  exact hA.keyed hn hN (fun ev e b h=>hN _ _ _ _ hp hpl h) h
theorem wrap_mv {r r':PartR}{ev:List EvV}{e:Int × Int} (hr:∀ ev e,r'=.ok (ev,e)→r=.ok (ev,sh d e)∧InR m e) (h:wrapF r'=.ok (ev,e)):wrapF r=.ok (ev,sh d e)∧InR m e:=by
 obtain ⟨ev',h1,rfl⟩:=wrap_good h
 obtain ⟨a1,a2⟩:=hr _ _ h1
 rw [a1]
 exact ⟨rfl,a2⟩
theorem Ag.item (hA:Ag ls ls' d m s) {n d0:Int}{k:Nat} (hn:s≤n) {N N' N1 N1':Int × Int→NodeR} (hN:LocN ls' d m N N') (hN1:LocN ls' d m N1 N1'):LocE ls' d m (itemF ls n d0 k N N1) (itemF ls' n d0 k N' N1'):=by
 intro p ev e hp hpl h
 unfold itemF at h ⊢
 rw [hA.loose hp]
 split at h
 ·rename_i h1
  rw [if_pos h1]
  split at h
  ·cases h
  ·rename_i h2
   rw [if_neg h2]
   exact wrap_mv (fun ev e h=>hA.keyed hn hN1 (fun ev e b h=>hA.asked hn hN1 hp h) h) h
 ·rename_i h1
  rw [if_neg h1]
  split at h
  ·cases h
  ·rename_i ev1 key hk
   obtain ⟨a1,a2⟩:=hN _ _ _ _ hp hpl hk
   rw [a1]
   dsimp only
   split at h
   ·cases h
   ·rename_i q hm
    obtain ⟨b1,b2⟩:=hA.must hn a2 hm
    rw [b1]
    dsimp only
    have hkb:keyB ls (sh d p) (sh d q) (sh d key.1,key.2)=keyB ls' p q key:=by
     unfold keyB
     rw [hA.sign b2]
     have e1:((sh d key.1).1=(sh d p).1)=(key.1.1=p.1):=propext (by show (_+d=_+d)↔_;omega)
     have e2:((sh d q).1=(sh d p).1)=(q.1=p.1):=propext (by show (_+d=_+d)↔_;omega)
     simp only [e1,e2]
     rfl
    rw [hkb]
    split at h
    ·rename_i h2
     rw [if_pos h2]
     cases h
     exact ⟨rfl,a2⟩
    ·rename_i h2
     rw [if_neg h2]
     split at h
     ·cases h
     ·rename_i h3
      rw [if_neg h3]
      exact wrap_mv (fun ev e h=>hA.keyed hn hN1 (r':=.ok (ev1,key)) (fun ev e b h=>by cases h;exact ⟨rfl,a2⟩) h) h
def muM (m:Int) (p:Int × Int):Nat:=((m - p.1) * 5000+4999 - min p.2 4999).toNat
theorem Ag.entries (hA:Ag ls ls' d m s) {n:Int} (hn:s≤n) {E E':Int × Int→PartR}{c:Int} (hE:LocE ls' d m E E') (hG:GoodE ls' E'):∀ {f' f:Nat}{q:Int × Int}{acc ev:List EvV}{e:Int × Int},muM m q < f→InR m q→Pl ls' q→entriesF ls' n E' c f' q acc=.ok (ev,e) →
  entriesF ls n E c f (sh d q) acc=.ok (ev,sh d e)∧InR m e
 | 0,_,_,_,_,_,_,_,_,h=>by cases h
 | f'+1,0,_,_,_,_,hf,_,_,_=>by omega
 | f'+1,f+1,q,acc,ev,e,hf,hq,hpl,h=>by
  unfold entriesF at h ⊢
  rw [hA.isF hq]
  split at h
  ·rename_i h1
   rw [if_pos h1]
   cases h
   exact ⟨rfl,hq⟩
  ·rename_i h1
   rw [if_neg h1]
   split at h
   ·cases h
   ·rename_i ev1 e1 he
    obtain ⟨a1,a2⟩:=hE _ _ _ hq hpl he
    obtain ⟨g1,g2,-⟩:=hG _ _ _ hpl he
    rw [a1]
    dsimp only
    split at h
    ·cases h
    ·rename_i q2 hm
     obtain ⟨b1,b2⟩:=hA.must hn a2 hm
     obtain ⟨b3,b4,b5,-⟩:=must_q hA.hs' hm
     rw [b1]
     dsimp only
     rw [hA.isF b2,hA.isF b2]
     split at h
     ·rename_i h2
      rw [if_pos h2]
      split at h
      ·rename_i h3
       rw [if_pos h3]
       cases h
       exact ⟨rfl,b2⟩
      ·cases h
     ·rename_i h2
      rw [if_neg h2]
      split at h
      ·cases h
      ·rename_i q3 hm3
       obtain ⟨c1,c2⟩:=hA.must_add hn b2 hm3
       obtain ⟨c3,c4,-,-⟩:=must_q hA.hs' hm3
       rw [c1]
       dsimp only
       refine hA.entries hn hE hG ?_ c2 c4 h
       unfold Le2 at g1 b3 c3
       unfold Pl at hpl b4 c4
       unfold InR at hq c2
       unfold muM at hf ⊢
       dsimp only at c3
       omega
theorem Ag.coll (hA:Ag ls ls' d m s) {n d0 c:Int}{k:Nat} (hn:s≤n) {N N':Nat→Int × Int→NodeR}{v w:TrV}{p e:Int × Int}{ev:List EvV} (hN:∀ k,LocN ls' d m (N k) (N' k)) (hG:∀ k,GoodN ls' (N' k)) (hv:VR d m v w) (hp:InR m p) (h:collF ls' n d0 k N' p c v=.ok (ev,e)) :
  collF ls n d0 k N (sh d p) c w=.ok (ev,sh d e)∧InR m e:=by
 unfold collF at h ⊢
 split at h
 ·cases h
 ·rename_i h1
  rw [if_neg h1]
  split at h
  ·cases h
  ·rename_i q hm
   obtain ⟨b1,b2⟩:=hA.must_add hn hp hm
   obtain ⟨b3,b4,-,-⟩:=must_q hA.hs' hm
   rw [b1]
   dsimp only
   split at h
   ·cases h
   ·rename_i ev1 e1 he
    have hE:LocE ls' d m (if c=123 then pairF ls n (N (k+1)) else itemF ls n d0 (k+1) (N (k+1)) (N (k+2))) (if c=123 then pairF ls' n (N' (k+1)) else itemF ls' n d0 (k+1) (N' (k+1)) (N' (k+2))):=by
     split
     ·exact hA.pair hn (hN _)
     ·exact hA.item hn (hN _) (hN _)
    have hEG:GoodE ls' (if c=123 then pairF ls' n (N' (k+1)) else itemF ls' n d0 (k+1) (N' (k+1)) (N' (k+2))):=by
     split
     ·exact pair_good hA.hs' (hG _)
     ·exact item_good hA.hs' (hG _) (hG _)
    obtain ⟨c1,c2⟩:=hA.entries hn (f:=mu (sh d p)+1) hE hEG (by
     have:=hA.len;have:=hA.hs.1
     unfold Le2 at b3
     unfold Pl at b4
     unfold InR at hp b2
     unfold muM mu sh
     dsimp only at b3 ⊢
     omega) b2 b4 he
    rw [c1]
    dsimp only
    cases h
    obtain ⟨v1,v2,-⟩:=hv
    unfold openE
    rw [v1,v2]
    exact ⟨rfl,c2⟩
theorem Ag.body (hA:Ag ls ls' d m s) {n d0:Int}{bk:Bool}{k:Nat} (hn:s≤n) {N N':Nat→Int × Int→NodeR}{v w:TrV}{q q' e:Int × Int}{l:List Int}{ev:List EvV}{b:Bool} (hN:∀ k,LocN ls' d m (N k) (N' k)) (hG:∀ k,GoodN ls' (N' k)) (hv:VR d m v w) (hq:l≠[]→q'=sh d q∧InR m q) (h:bodyF ls' n d0 bk N' k v q l=.ok (ev,e,b)) :
  bodyF ls n d0 bk N k w q' l=.ok (ev,sh d e,b)∧InR m e:=by
 obtain ⟨v1,v2,v3⟩:=hv
 have hany:anyT w=anyT v:=by unfold anyT;rw [v1,v2]
 have hl:∀ c,headF l c=true→l≠[]:=fun c h h0=>by subst h0;cases h
 unfold bodyF at h ⊢
 rw [hany]
 unfold emptyE at h ⊢
 rw [v1,v2]
 split at h
 ·rename_i h1
  rw [if_pos h1]
  obtain ⟨rfl,hq2⟩:=hq (hl _ h1)
  split at h
  ·cases h
  ·rename_i h2
   rw [if_neg h2,hA.alias hq2]
   split at h
   ·rename_i h3
    rw [if_pos h3]
    cases h
    exact ⟨rfl,hq2⟩
   ·cases h
 ·rename_i h1
  rw [if_neg h1]
  split at h
  ·rename_i h2
   rw [if_pos h2]
   obtain ⟨rfl,hq2⟩:=hq (by rcases h2 with h2|h2<;>exact hl _ h2)
   split at h
   ·cases h
   ·rename_i hr
    cases h
    obtain ⟨a1,a2⟩:=hA.quoted hn hq2 hr
    rw [a1]
    exact ⟨rfl,a2⟩
  ·rename_i h2
   rw [if_neg h2]
   split at h
   ·rename_i h3
    rw [if_pos h3]
    obtain ⟨rfl,hq2⟩:=hq (by rcases h3 with h3|h3<;>exact hl _ h3)
    split at h
    ·cases h
    ·rename_i hr
     cases h
     obtain ⟨a1,a2⟩:=hA.coll hn hN hG ⟨v1,v2,v3⟩ hq2 hr
     rw [a1]
     exact ⟨rfl,a2⟩
   ·rename_i h3
    rw [if_neg h3]
    split at h
    ·rename_i h4
     rw [if_pos h4]
     obtain ⟨rfl,hq2⟩:=hq (by intro h0;subst h0;exact absurd h4.1 (by simp))
     split at h
     ·cases h
     ·rename_i hr
      cases h
      obtain ⟨a1,a2⟩:=hA.plain hn hq2 hr
      rw [a1]
      exact ⟨rfl,a2⟩
    ·rename_i h4
     rw [if_neg h4]
     split at h
     ·rename_i h5
      rw [if_pos h5]
      cases h
      obtain ⟨g1,g2⟩:=v3 h5
      rw [g1]
      exact ⟨rfl,g2⟩
     ·cases h
theorem Ag.nodeS (hA:Ag ls ls' d m s) {n d0:Int}{bk:Bool}{k:Nat} (hn:s≤n) {N N':Nat→Int × Int→NodeR} (hN:∀ k,LocN ls' d m (N k) (N' k)) (hG:∀ k,GoodN ls' (N' k)):LocN ls' d m (nodeS ls n d0 bk N k) (Go.Proofs.YthkabaiamcjdbaaGreat.nodeS ls' n d0 bk N' k):=by
 intro p ev e b hp hpl h
 unfold Go.Proofs.YthkabaiamcjdbaaGreat.nodeS at h ⊢
 split at h
 ·cases h
 ·rename_i v q ok ht
  obtain ⟨w,q3,a1,a2,a3⟩:=hA.traits hn hp ht
  rw [a1]
  dsimp only
  have e1:(if ok=true then restF ls q3 else [])=(if ok=true then restF ls' q else []):=by
   cases ok
   ·rfl
   ·obtain ⟨rfl,hq⟩:=a3 rfl
    exact hA.rest hq
  rw [e1]
  refine hA.body hn hN hG a2 (fun hl=>?_) h
  cases ok
  ·exact absurd rfl hl
  ·exact a3 rfl
theorem Ag.nodeF (hA:Ag ls ls' d m s) {n d0:Int}{bk:Bool} (hn:s≤n):∀ (f k:Nat),LocN ls' d m (nodeF ls n d0 bk f k) (Go.Proofs.YthkabaiamcjdbaaGreat.nodeF ls' n d0 bk f k)
 | 0,k=>hA.nodeS hn (fun k p ev e b _ _ h=>by cases h) (fun k p ev e b _ h=>by cases h)
 | f+1,k=>hA.nodeS hn (fun k=>hA.nodeF hn f k) (fun k=>nodeF_good hA.hs' f k)
theorem Ag.whole (hA:Ag ls ls' d m s) {n d0:Int}{bk b:Bool}{p e:Int × Int}{ev:List EvV} (hn:s≤n) (hp:InR m p) (hpl:Pl ls' p) (h:wholeF ls' n d0 bk p=.ok (ev,e,b)):wholeF ls n d0 bk (sh d p)=.ok (ev,sh d e,b)∧InR m e :=
 hA.nodeF hn 200 0 p ev e b hp hpl h
theorem marker_bare {n:Int}{t:List Int} (h:¬markerI n t=0):bareI t=false∧t≠[]:=by
 unfold markerI at h
 split at h
 ·rename_i h1
  obtain ⟨-,h2,-⟩:=h1
  cases t with
  | nil=>simp at h2
  | cons c t =>
   have hc:c=45∨c=46:=by
    have e:(c::t).getD 0 0=c:=rfl
    rw [e] at h
    split at h
    ·left;assumption
    ·split at h
     ·right;assumption
     ·exact absurd rfl h
   refine ⟨?_,by simp⟩
   unfold bareI
   rcases hc with rfl|rfl
   ·rw [List.all_cons,List.dropWhile_cons]
    have:blankI 45=false:=by decide
    rw [this];simp
   ·rw [List.all_cons,List.dropWhile_cons]
    have:blankI 46=false:=by decide
    rw [this];simp
 ·exact absurd rfl h
theorem over_bare {ls:List Ln}{j:Int} (h:overF ls j=true):¬(j < ls.length∧bareI (lineP ls j).2=true):=by
 rintro ⟨h1,h2⟩
 unfold overF at h
 rw [decide_eq_false (by omega),Bool.false_or] at h
 have h3:¬markerI (lineP ls j).1 (lineP ls j).2=0:=by simpa using h
 rw [(marker_bare h3).1] at h2
 cases h2
theorem Ag.alone (hA:Ag ls ls' d m s) {i:Int} (h0:0≤i) (h1:i < m):aloneF ls (i+d)=aloneF ls' i:=by
 have h2:=hA.len;have h3:=hA.len';have h4:=hA.d0
 unfold aloneF
 rw [if_pos (by omega),if_pos (by omega),hA.at_ i h0 h1]
theorem Ag.restP (hA:Ag ls ls' d m s) {i c:Int} (h0:0≤i) (h1:i < m):restP ls (i+d) c=Go.Proofs.YthkabaiamcjdbaaGreat.restP ls' i c:=by
 unfold Go.Proofs.YthkabaiamcjdbaaGreat.restP cutP blankP
 rw [hA.line h0 h1]
theorem Ag.signP (hA:Ag ls ls' d m s) {i c x:Int} (h0:0≤i) (h1:i < m):signP ls (i+d) c x=Go.Proofs.YthkabaiamcjdbaaGreat.signP ls' i c x:=by
 unfold Go.Proofs.YthkabaiamcjdbaaGreat.signP
 rw [hA.line h0 h1]
theorem Ag.asks (hA:Ag ls ls' d m s) {i c:Int} (h0:0≤i) (h1:i < m):asksP ls (i+d) c=asksP ls' i c:=by
 unfold asksP
 rw [hA.signP h0 h1,hA.alone h0 h1]
theorem Ag.props (hA:Ag ls ls' d m s) {i c:Int} (h0:0≤i) (h1:i < m):propsP ls (i+d) c=propsP ls' i c:=by
 unfold propsP
 rw [hA.alone h0 h1]
theorem Ag.nextB (hA:Ag ls ls' d m s):∀ {f f':Nat}{i:Int},0≤i→i≤m→m - i≤f→m - i≤f'→nextB ls f (i+d)=Go.Proofs.YthkabaiamcjdbaaGreat.nextB ls' f' i+d∧i≤Go.Proofs.YthkabaiamcjdbaaGreat.nextB ls' f' i∧Go.Proofs.YthkabaiamcjdbaaGreat.nextB ls' f' i≤m
 | f,f',i,h0,h1,h2,h3=>by
  have hl:=hA.len;have hl':=hA.len';have hd0:=hA.d0
  by_cases hm:i < m
  ·cases f with
   | zero=>omega
   | succ f =>
    cases f' with
    | zero=>omega
    | succ f' =>
     unfold Go.Proofs.YthkabaiamcjdbaaGreat.nextB
     rw [hA.line h0 hm]
     by_cases hb:bareI (lineP ls' i).2=true
     ·rw [if_pos ⟨by omega,hb⟩,if_pos ⟨by omega,hb⟩,show i+d+1=i+1+d by omega]
      obtain ⟨a1,a2,a3⟩:=hA.nextB (f:=f) (f':=f') (i:=i+1) (by omega) (by omega) (by omega) (by omega)
      exact ⟨a1,by omega,a3⟩
     ·rw [if_neg (fun h=>hb h.2),if_neg (fun h=>hb h.2)]
      exact ⟨rfl,Int.le_refl _,by omega⟩
  ·have hmm:i=m:=by omega
   subst hmm
   have st:∀ {ls:List Ln} {j:Int},(overF ls j=false→StopL ls j s)→∀ f,Go.Proofs.YthkabaiamcjdbaaGreat.nextB ls f j=j:=fun {ls j} hs f=>by
    cases f with
    | zero=>rfl
    | succ f =>
     unfold Go.Proofs.YthkabaiamcjdbaaGreat.nextB
     refine if_neg fun ⟨ho,hb⟩=>?_
     cases h9:overF ls j
     ·rw [(hs h9).1] at hb;cases hb
     ·exact over_bare h9 ⟨ho,hb⟩
   rw [st (j:=i) fun ho=>(hA.stop ho).2,st (j:=i+d) fun ho=>(hA.stop (by rw [← hA.over];exact ho)).1]
   exact ⟨rfl,Int.le_refl _,Int.le_refl _⟩
theorem Ag.nextP (hA:Ag ls ls' d m s) {i k:Int}{b:Bool} (h0:0≤i) (h1:i≤m) (h:nextP ls' i=.ok (k,b)) :
  nextP ls (i+d)=.ok (k+d,b)∧i≤k∧k≤m∧(b=true→k=m→overF ls' m=false):=by
 have hl:=hA.len;have hl':=hA.len';have hd0:=hA.d0
 obtain ⟨a1,a2,a3⟩:=hA.nextB (f:=ls.length) (f':=ls'.length) h0 h1 (by omega) (by omega)
 unfold Go.Proofs.YthkabaiamcjdbaaGreat.nextP at h ⊢
 rw [a1]
 generalize Go.Proofs.YthkabaiamcjdbaaGreat.nextB ls' ls'.length i=k' at a2 a3 h
 rw [hA.overI (by omega) a3]
 split at h
 ·rename_i ho
  rw [if_pos ho]
  cases h
  exact ⟨rfl,a2,a3,fun h=>by cases h⟩
 ·rename_i ho
  rw [if_neg ho]
  have ho':overF ls' k'=false:=by simpa using ho
  split at h
  ·cases h
  ·rename_i h9
   cases h
   have e:¬(lineP ls (k+d)).2.getD 0 0=9:=by
    by_cases hm:k < m
    ·rw [hA.line (by omega) hm];exact h9
    ·obtain rfl:k=m:=by omega
     exact (hA.stop ho').1.2.2
   rw [if_neg e]
   exact ⟨rfl,a2,a3,fun _ h=>by rw [← h];exact ho'⟩
theorem Ag.ind (hA:Ag ls ls' d m s) {k:Int} (h0:0≤k) (h1:k≤m) (h:k=m→overF ls' m=false):(lineP ls (k+d)).1=(lineP ls' k).1∧(k=m→(lineP ls' k).1=s):=by
 by_cases hm:k < m
 ·rw [hA.line h0 hm];exact ⟨rfl,fun h=>by omega⟩
 ·obtain rfl:k=m:=by omega
  obtain ⟨s1,s2⟩:=hA.stop (h rfl)
  exact ⟨s1.2.1.trans s2.2.1.symm,fun _=>s2.2.1⟩
theorem Ag.furP (hA:Ag ls ls' d m s) {i c k:Int}{b:Bool} (h0:0≤i) (h1:i≤m) (h:furP ls' i c=.ok (k,b)) :
  furP ls (i+d) c=.ok (k+d,b)∧i≤k∧k≤m∧(b=true→k=m→c=s∧overF ls' m=false):=by
 unfold Go.Proofs.YthkabaiamcjdbaaGreat.furP at h ⊢
 split at h
 ·cases h
 ·rename_i k' ok hk
  obtain ⟨a1,a2,a3,a4⟩:=hA.nextP h0 h1 hk
  rw [a1]
  dsimp only
  cases ok
  ·rw [if_pos (.inl rfl)] at h ⊢
   cases h
   exact ⟨rfl,Int.le_refl _,h1,fun h=>by cases h⟩
  ·obtain ⟨b1,b2⟩:=hA.ind (by omega) a3 (a4 rfl)
   rw [b1]
   split at h
   ·rename_i h2
    rw [if_pos h2]
    cases h
    exact ⟨rfl,Int.le_refl _,h1,fun h=>by cases h⟩
   ·rename_i h2
    rw [if_neg h2]
    split at h
    ·cases h
    ·rename_i h3
     rw [if_neg h3]
     cases h
     refine ⟨rfl,a2,a3,fun _ h=>⟨?_,a4 rfl h⟩⟩
     have:=b2 h
     have h4:¬(lineP ls' k).1 < c:=fun h=>h2 (.inr h)
     omega
def StopB (n:Int) (l:List Ln):Prop:=∀ x,l.head? = some x→x.2≠[]∧(¬markerI x.1 x.2=0∨x.1≤n)
theorem scan_end {n w:Int}{b:List Ln} (h:StopB n b):(scanI w b).1=w∧(scanI w b).2.getD n≤n:=by
 cases b with
 | nil=>exact ⟨rfl,Int.le_refl _⟩
 | cons x b =>
  obtain ⟨h1,h2⟩:=h x rfl
  unfold scanI
  rw [if_neg h1]
  refine ⟨rfl, ?_⟩
  dsimp only
  split
  ·show x.1≤n
   rcases h2 with h2|h2
   ·contradiction
   ·exact h2
  ·exact Int.le_refl _
theorem scan_stop {n:Int}{b b':List Ln} (h:StopB n b) (h':StopB n b'):∀ (a:List Ln) (w:Int),scanI w (a++b)=scanI w (a++b')∨((scanI w (a++b)).1=(scanI w (a++b')).1∧(scanI w (a++b)).2.getD n≤n∧(scanI w (a++b')).2.getD n≤n)
 | [],w=>by
  obtain ⟨h1,h2⟩:=scan_end (w:=w) h
  obtain ⟨h3,h4⟩:=scan_end (w:=w) h'
  exact .inr ⟨h1.trans h3.symm,h2,h4⟩
 | x::a,w=>by
  simp only [List.cons_append]
  unfold scanI
  split
  ·exact scan_stop h h' a _
  ·exact .inl rfl
theorem ind_stop {n k:Int}{a b b':List Ln} (h:StopB n b) (h':StopB n b'):indI (a++b) k n=indI (a++b') k n∧((indI (a++b) k n).2=0→n < (indI (a++b) k n).1):=by
 unfold indI
 split
 ·exact ⟨rfl,fun _=>by show n < max 0 n+min k 1099511627776;omega⟩
 ·rcases scan_stop h h' a 0 with e|⟨e1,e2,e3⟩
  ·rw [e]
   refine ⟨rfl, ?_⟩
   split
   ·intro _;dsimp only;omega
   ·split
    ·intro h;cases h
    ·intro _;dsimp only;omega
  ·rw [if_pos e2,if_pos e3,e1]
   exact ⟨rfl,fun _=>by dsimp only;omega⟩
theorem rows_stop {n k:Int}{b b':List Ln} (h:StopB n b) (h':StopB n b') (hk:n < k):∀ a:List Ln,rowsB k (a++b)=rowsB k (a++b')∧(rowsB k (a++b)).length≤a.length
 | []=>by
  have e:∀ {b:List Ln},StopB n b→rowsB k b=[]:=fun {b} h=>by
   cases b with
   | nil=>rfl
   | cons x b =>
    obtain ⟨h1,h2⟩:=h x rfl
    unfold rowsB
    rw [List.takeWhile_cons]
    have:overB k x=true:=by
     unfold overB
     refine decide_eq_true ?_
     rcases h2 with h2|h2
     ·exact .inr h2
     ·exact .inl ⟨h1,by omega⟩
    rw [this]
    rfl
  rw [List.nil_append,List.nil_append,e h,e h']
  exact ⟨rfl,Nat.le_refl _⟩
 | x::a=>by
  obtain ⟨i1,i2⟩:=rows_stop h h' hk a
  unfold rowsB at i1 i2 ⊢
  simp only [List.cons_append,List.takeWhile_cons]
  split
  ·simp only [List.map_cons,List.length_cons]
   rw [i1] at i2 ⊢
   exact ⟨rfl,by omega⟩
  ·exact ⟨rfl,by simp⟩
theorem block_stop {n:Int}{a b b':List Ln} (h:StopB (min (max (-1) n) 1099511627776) b) (h':StopB (min (max (-1) n) 1099511627776) b') (hd:HD) :
  blockB (a++b) hd n=blockB (a++b') hd n∧0≤(blockB (a++b) hd n).2.1∧(blockB (a++b) hd n).2.1≤a.length:=by
 unfold blockB
 obtain ⟨e1,e2⟩:=ind_stop (k:=hd.2.2) (a:=a) h h'
 rw [e1] at e2 ⊢
 split
 ·exact ⟨rfl,Int.le_refl _,by dsimp only;omega⟩
 ·rename_i h0
  obtain ⟨r1,r2⟩:=rows_stop h h' (e2 (by simpa using h0)) a
  rw [r1] at r2 ⊢
  exact ⟨rfl,by dsimp only;omega,by dsimp only;omega⟩
theorem Ag.drop (hA:Ag ls ls' d m s) {i:Int} (h0:0≤i) (h1:i≤m):ls.drop (i+d).toNat=(ls'.take m.toNat).drop i.toNat++ls.drop (m+d).toNat:=by
 have hl:=hA.len;have hl':=hA.len';have hd:=hA.d0
 refine List.ext_getElem? fun k=>?_
 rw [List.getElem?_drop]
 have hlen:((ls'.take m.toNat).drop i.toNat).length=m.toNat - i.toNat:=by
  rw [List.length_drop,List.length_take];omega
 by_cases hk:k < m.toNat - i.toNat
 ·rw [List.getElem?_append_left (by omega),List.getElem?_drop,List.getElem?_take]
  rw [if_pos (by omega)]
  have h2:=hA.at_ (i+k) (by omega) (by omega)
  rw [show (i+(k:Int)+d).toNat=(i+d).toNat+k by omega,show (i+(k:Int)).toNat=i.toNat+k by omega] at h2
  rw [List.getD_eq_getElem?_getD,List.getD_eq_getElem?_getD,List.getElem?_eq_getElem (by omega),List.getElem?_eq_getElem (by omega)] at h2
  rw [List.getElem?_eq_getElem (by omega),List.getElem?_eq_getElem (by omega)]
  exact congrArg Option.some h2
 ·rw [List.getElem?_append_right (by omega),List.getElem?_drop]
  congr 1
  omega
theorem drop_stop {ls:List Ln}{j s n:Int} (h0:0≤j) (hs:Small ls) (hn:s≤n) (h:overF ls j=false→StopL ls j s):StopB (min (max (-1) n) 1099511627776) (ls.drop j.toNat):=by
 intro x hx
 rw [List.head?_drop] at hx
 have e:lineP ls j=x:=by show ls.getD _ _=x;rw [List.getD_eq_getElem?_getD,hx];rfl
 have hlt:j.toNat < ls.length:=by
  refine Nat.lt_of_not_le fun h=>?_
  rw [List.getElem?_eq_none h] at hx
  cases hx
 cases ho:overF ls j
 ·obtain ⟨b1,b2,-⟩:=h ho
  rw [e] at b1 b2
  have:=hs.at_ hlt
  have e':ls.getD j.toNat (0,[])=x:=e
  rw [e'] at this
  refine ⟨fun h=>?_,.inr (by omega)⟩
  rw [h] at b1
  cases b1
 ·unfold overF at ho
  rw [decide_eq_false (by omega),Bool.false_or] at ho
  have h3:¬markerI (lineP ls j).1 (lineP ls j).2=0:=by simpa using ho
  rw [e] at h3
  exact ⟨(marker_bare h3).2,.inl h3⟩
def MvP (d m:Int) (r r':PR):Prop:=∀ ev k,r'=.ok (ev,k)→r=.ok (ev,k+d)∧0≤k∧k≤m
theorem Ag.text (hA:Ag ls ls' d m s) {n i:Int}{l:List Int}{t:TP} (hn:s≤n) (h0:0≤i) (h1:i < m):MvP d m (textP ls (i+d) l n t) (textP ls' i l n t):=by
 intro ev k h
 have hd:=hA.d0;have hl':=hA.len';have hm0:=hA.m0
 have s1:StopB (min (max (-1) n) 1099511627776) (ls.drop (m+d).toNat):=drop_stop (by omega) hA.hs hn fun ho=>(hA.stop (by rw [← hA.over];exact ho)).1
 have s2:StopB (min (max (-1) n) 1099511627776) (ls'.drop m.toNat):=drop_stop (by omega) hA.hs' hn fun ho=>(hA.stop ho).2
 have e1:=hA.drop (i:=i+1) (by omega) (by omega)
 have e2:ls'.drop (i+1).toNat=(ls'.take m.toNat).drop (i+1).toNat++ls'.drop m.toNat:=by
  rw [← List.drop_append_of_le_length (by rw [List.length_take];omega),List.take_append_drop]
 obtain ⟨b1,b2,b3⟩:=block_stop (a:=(ls'.take m.toNat).drop (i+1).toNat) s1 s2 (headI l).1
 have hlen:((ls'.take m.toNat).drop (i+1).toNat).length=m.toNat - (i+1).toNat:=by
  rw [List.length_drop,List.length_take];omega
 rw [hlen] at b3
 rw [← e1,show i+1+d=i+d+1 by omega] at b1
 rw [← e1,show i+1+d=i+d+1 by omega] at b2
 rw [← e1,show i+1+d=i+d+1 by omega] at b3
 rw [← e2] at b1
 unfold textP at h ⊢
 rw [b1] at b2 b3 ⊢
 split at h
 ·cases h
 ·rename_i h2
  rw [if_neg h2]
  split at h
  ·cases h
  ·rename_i h3
   rw [if_neg h3]
   cases h
   refine ⟨?_,by omega,by omega⟩
   rw [show i+d+1+(blockB (ls'.drop (i+1).toNat) (headI l).1 n).2.1=i+1+(blockB (ls'.drop (i+1).toNat) (headI l).1 n).2.1+d by omega]
theorem Ag.beh (hA:Ag ls ls' d m s) {i c:Int}{ev:List EvV} (h0:0≤i) (h1:i < m):MvP d m (behP ls (i+d) c ev) (behP ls' i c ev):=by
 intro ev k h
 unfold behP at h ⊢
 rw [hA.restP h0 h1]
 split at h
 ·cases h
 ·rename_i h2
  rw [if_neg h2]
  cases h
  exact ⟨by rw [show i+d+1=i+1+d by omega],by omega,by omega⟩
theorem Ag.leaf (hA:Ag ls ls' d m s) {i c n d0:Int}{t:TP} (hn:s≤n) (h0:0≤i) (h1:i < m) (hr:0 < (Go.Proofs.YthkabaiamcjdbaaGreat.restP ls' i c).1.length):MvP d m (leafD ls (i+d) c n d0 t) (leafD ls' i c n d0 t):=by
 intro ev k h
 have hl':=hA.len'
 obtain ⟨-,-,-,r4⟩:=restP_some (c:=c) hA.hs' (i:=i) (by omega)
 unfold leafD at h ⊢
 rw [hA.restP h0 h1]
 split at h
 ·rename_i h2
  rw [if_pos h2]
  exact hA.text hn h0 h1 ev k h
 ·rename_i h2
  rw [if_neg h2]
  split at h
  ·cases h
  ·rename_i hw
   obtain ⟨a1,a2⟩:=hA.whole hn (p:=(i,(Go.Proofs.YthkabaiamcjdbaaGreat.restP ls' i c).2)) ⟨h0,h1⟩ (r4 hr) hw
   rw [show (i+d,(Go.Proofs.YthkabaiamcjdbaaGreat.restP ls' i c).2)=sh d (i,(Go.Proofs.YthkabaiamcjdbaaGreat.restP ls' i c).2) from rfl,a1]
   dsimp only
   split at h
   ·cases h
   ·rename_i hp
    try rw [hp]
    exact hA.beh a2.1 a2.2 ev k h
theorem props_ge {ls:List Ln}{i c c2:Int}{t:TP} (hs:Small ls) (hc:0≤c∧c≤1000000000) (h:propsP ls i c=.ok (t,c2)):c≤c2∧(c2=c∨c2≤4000):=by
 refine ⟨?_,(props_s hs hc h).2.2⟩
 have hsa:=alone_small (i:=i) hs
 unfold propsP at h
 split at h
 ·cases h
 ·rename_i v q ok ht
  cases h
  have h3:=(traits_q hsa (PlW.of0 (by omega) hc.1) ht).2.2
  split
  ·rename_i ha
   obtain ⟨⟨a1,a2,a3,a4⟩,a5,-⟩:=h3 ha
   have:(aloneF ls i).length≤1:=by unfold aloneF;split<;>simp
   unfold Le2 at a5
   dsimp only at a5
   omega
  ·exact Int.le_refl _
theorem keyF_ge {ls:List Ln}{i c k:Int} (hs:Small ls) (h:keyF (aloneF ls i) c=some k):c≤k∧k≤4000:=by
 have hsa:=alone_small (i:=i) hs
 obtain ⟨h1,h2,h3⟩:=keyF_pl hsa h
 refine ⟨?_,h3⟩
 unfold keyF at h
 split at h
 ·cases h
 ·split at h
  ·cases h
  ·rename_i hw
   obtain ⟨a1,a2,-,-⟩:=nodeF_good hsa 200 0 _ _ _ _ h1 hw
   split at h
   ·cases h
    have:(aloneF ls i).length≤1:=by unfold aloneF;split<;>simp
    have h4:=colF_ge (ls:=aloneF ls i) (p:=‹Int × Int›)
    unfold Le2 at a1
    unfold Pl at a2
    unfold pastF
    dsimp only at a1 ⊢
    omega
   ·cases h
def ND (ls ls':List Ln) (d m s:Int):Prop:=overF ls' m=false→signP ls (m+d) s 45=false∧signP ls' m s 45=false
def LocSq (ls ls':List Ln) (d m s:Int) (S S':Int→Int→Bool→TP→PR):Prop:=∀ i c b t,0≤i→i < m→(s < c∨(c=s∧ND ls ls' d m s))→c≤4000→MvP d m (S (i+d) c b t) (S' i c b t)
def LocMp (d m s:Int) (M M':Int→Int→TP→PR):Prop:=∀ i c t,0≤i→i < m→s < c→c≤4000→MvP d m (M (i+d) c t) (M' i c t)
def LocR (d m s:Int) (R R':Int→Int→Bool→TP→PR):Prop:=∀ i c b t,0≤i→i < m→s < c→c≤100000→MvP d m (R (i+d) c b t) (R' i c b t)
def LocL (ls ls':List Ln) (d m s:Int) (N N':Int→Int→Int→Bool→PR):Prop:=∀ i c n b,0≤i→i < m→s < c→c≤100000→s≤n→n≤4000→(n=s→b=true→ND ls ls' d m s)→MvP d m (N (i+d) c n b) (N' i c n b)
theorem Ag.at (hA:Ag ls ls' d m s) {S S':Int→Int→Bool→TP→PR}{M M':Int→Int→TP→PR}{R R':Int→Int→Bool→TP→PR}{d0 n i c:Int}{lead:Bool}{t:TP} (hn:s≤n) (hS:LocSq ls ls' d m s S S') (hM:LocMp d m s M M') (hR:LocR d m s R R') (h0:0≤i) (h1:i < m) (hc:s < c) (hc2:c≤4000) :
  MvP d m (atP ls S M R d0 n (i+d) c lead t) (atP ls' S' M' R' d0 n i c lead t):=by
 intro ev k h
 have hs0:=hA.s0
 unfold atP at h ⊢
 rw [hA.signP h0 h1,hA.asks h0 h1,hA.props h0 h1]
 split at h
 ·rename_i h2
  rw [if_pos h2]
  split at h
  ·rename_i h3
   rw [if_pos h3]
   exact hS i c false t h0 h1 (.inl hc) hc2 ev k h
  ·cases h
 ·rename_i h2
  rw [if_neg h2]
  split at h
  ·rename_i h3
   rw [if_pos h3]
   split at h
   ·rename_i h4
    rw [if_pos h4]
    exact hM i c t h0 h1 hc hc2 ev k h
   ·cases h
  ·rename_i h3
   rw [if_neg h3]
   split at h
   ·cases h
   ·rename_i more c2 hp
    obtain ⟨p1,p2⟩:=props_ge hA.hs' (by omega) hp
    try rw [hp]
    try dsimp only
    split at h
    ·cases h
    ·rename_i t2 hj
     try rw [hj]
     try dsimp only
     rw [hA.restP h0 h1]
     split at h
     ·rename_i h4
      rw [if_pos h4]
      exact hA.leaf hn h0 h1 h4 ev k h
     ·rename_i h4
      rw [if_neg h4]
      exact hR i c2 lead t2 h0 h1 (by omega) (by omega) ev k h
theorem Ag.node (hA:Ag ls ls' d m s) {S S':Int→Int→Bool→TP→PR}{M M':Int→Int→TP→PR}{d0 n:Int}{pair:Bool} (hn:s≤n) (hn2:n≤4000) (hS:LocSq ls ls' d m s S S') (hM:LocMp d m s M M') (hND:n=s→pair=true→ND ls ls' d m s):∀ {f' f:Nat},f'≤f→LocR d m s (nodeP ls S M d0 n pair f) (nodeP ls' S' M' d0 n pair f')
 | 0,_,_=>fun i c b t _ _ _ _ ev k h=>by cases h
 | f'+1,0,hf=>by omega
 | f'+1,f+1,hf=>fun i c lead t h0 h1 hc hc2 ev k h=>by
  have ih:=hA.node hn hn2 hS hM (d0:=d0) hND (f':=f') (f:=f) (by omega)
  have hl':=hA.len'
  obtain ⟨-,r2,r3,r4⟩:=restP_some (c:=c) hA.hs' (i:=i) (by omega)
  rw [nodeP] at h ⊢
  rw [hA.restP h0 h1]
  split at h
  ·rename_i h2
   rw [if_pos h2]
   exact hA.at hn hS hM ih h0 h1 (by omega) (r4 h2).2.2.2 ev k h
  ·rename_i h2
   rw [if_neg h2,show i+d+1=i+1+d by omega]
   split at h
   ·cases h
   ·rename_i k' ok hk
    obtain ⟨a1,a2,a3,a4⟩:=hA.nextP (by omega) (by omega) hk
    rw [a1]
    dsimp only
    cases ok
    ·rw [if_pos (.inl rfl)] at h ⊢
     cases h
     exact ⟨by rw [show i+1+d=i+1+d from rfl],by omega,by omega⟩
    ·obtain ⟨b1,b2⟩:=hA.ind (by omega) a3 (a4 rfl)
     rw [b1]
     by_cases hm:k' < m
     ·have hk4:(lineP ls' k').1≤4000:=by
       have:=hA.hs'.at_ (i:=k'.toNat) (by omega)
       have e:(lineP ls' k').1≤2000:=this.2.2
       omega
      rw [hA.signP (by omega) hm]
      split at h
      ·rename_i h3
       rw [if_pos h3]
       cases h
       exact ⟨rfl,by omega,by omega⟩
      ·rename_i h3
       rw [if_neg h3]
       have h5:¬(lineP ls' k').1 < n:=fun h=>h3 (.inr (.inl h))
       split at h
       ·rename_i h4
        rw [if_pos h4]
        refine hS k' n true t (by omega) hm ?_ hn2 ev k h
        by_cases hsn:s < n
        ·exact .inl hsn
        ·refine .inr ⟨by omega,hND (by omega) ?_⟩
         have h6:¬(pair && Go.Proofs.YthkabaiamcjdbaaGreat.signP ls' k' n 45)=false:=fun h=>h3 (.inr (.inr ⟨h4,h⟩))
         cases pair
         ·exact absurd rfl h6
         ·rfl
       ·rename_i h4
        rw [if_neg h4]
        exact hA.at hn hS hM ih (by omega) hm (by omega) hk4 ev k h
     ·obtain rfl:k'=m:=by omega
      have b3:=b2 rfl
      have hcond:∀ x:Bool,(n=s→pair=true→x=false)→(true=false∨(lineP ls' k').1 < n∨(lineP ls' k').1=n∧(pair && x)=false):=fun x hx=>by
       by_cases hsn:s < n
       ·exact .inr (.inl (by omega))
       ·refine .inr (.inr ⟨by omega, ?_⟩)
        cases pair
        ·rfl
        ·rw [hx (by omega) rfl];rfl
      have hN:=hND
      rw [if_pos (hcond _ fun e1 e2=>by rw [e1];exact (hND e1 e2 (a4 rfl rfl)).1)]
      rw [if_pos (hcond _ fun e1 e2=>by rw [e1];exact (hND e1 e2 (a4 rfl rfl)).2)] at h
      cases h
      exact ⟨rfl,by omega,by omega⟩
theorem Ag.ents (hA:Ag ls ls' d m s) {N N':Int→Int→Int→Bool→PR}{c:Int}{pair:Bool} (hN:LocL ls ls' d m s N N') (hc:s < c∨(c=s∧ND ls ls' d m s)) (hc2:c≤4000):∀ {f' f:Nat}{i:Int}{acc:List EvV},f'≤f→0≤i→i < m→MvP d m (entriesP ls N c pair f (i+d) acc) (entriesP ls' N' c pair f' i acc)
 | 0,_,_,_,_,_,_=>fun ev k h=>by cases h
 | f'+1,0,_,_,hf,_,_=>by omega
 | f'+1,f+1,i,acc,hf,h0,h1=>fun ev k h=>by
  rw [entriesP] at h ⊢
  split at h
  ·cases h
  ·rename_i ev1 i2 hn
   obtain ⟨a1,a2,a3⟩:=hN i (c+1) c false h0 h1 (by omega) (by omega) (by omega) hc2 (fun _ h=>by cases h) _ _ hn
   rw [a1]
   dsimp only
   split at h
   ·cases h
   ·rename_i k' ok hf'
    obtain ⟨b1,b2,b3,b4⟩:=hA.furP a2 a3 hf'
    rw [b1]
    dsimp only
    cases ok
    ·rw [if_pos rfl] at h ⊢
     cases h
     exact ⟨rfl,a2,a3⟩
    ·rw [if_neg (by simp)] at h ⊢
     by_cases hm:k' < m
     ·rw [hA.signP (by omega) hm]
      split at h
      ·rename_i h2
       rw [if_pos h2]
       split at h
       ·rename_i h3
        rw [if_pos h3]
        cases h
        exact ⟨rfl,a2,a3⟩
       ·cases h
      ·rename_i h2
       rw [if_neg h2]
       exact hA.ents hN hc hc2 (by omega) (by omega) hm ev k h
     ·obtain rfl:k'=m:=by omega
      obtain ⟨c1,c2⟩:=b4 rfl rfl
      have hnd:ND ls ls' d k' s:=by
       rcases hc with hc|hc
       ·omega
       ·exact hc.2
      obtain ⟨n1,n2⟩:=hnd c2
      rw [c1] at h ⊢
      rw [n2] at h
      rw [n1]
      rw [if_pos rfl] at h ⊢
      split at h
      ·rename_i h3
       rw [if_pos h3]
       cases h
       exact ⟨rfl,a2,a3⟩
      ·cases h
theorem Ag.seq (hA:Ag ls ls' d m s) {N N':Int→Int→Int→Bool→PR} (hN:LocL ls ls' d m s N N'):LocSq ls ls' d m s (fun i c b t=>seqP ls N i c b t) (fun i c b t=>seqP ls' N' i c b t):=by
 intro i c b t h0 h1 hc hc2 ev k h
 dsimp only at h ⊢
 unfold seqP at h ⊢
 split at h
 ·cases h
 ·rename_i hE
  cases h
  obtain ⟨a1,a2,a3⟩:=hA.ents hN hc hc2 (f:=ls.length+1) (by have:=hA.ll;omega) h0 h1 _ _ hE
  rw [a1]
  exact ⟨rfl,a2,a3⟩
theorem Ag.ask (hA:Ag ls ls' d m s) {N N':Int→Int→Int→Bool→PR}{i c:Int} (hN:LocL ls ls' d m s N N') (hc:s < c) (hc2:c≤4000) (h0:0≤i) (h1:i < m):MvP d m (askP ls N (i+d) c) (askP ls' N' i c):=by
 intro ev k h
 unfold askP at h ⊢
 split at h
 ·cases h
 ·rename_i ev1 i2 hn
  obtain ⟨a1,a2,a3⟩:=hN i (c+1) c false h0 h1 (by omega) (by omega) (by omega) hc2 (fun _ h=>by cases h) _ _ hn
  rw [a1]
  dsimp only
  split at h
  ·cases h
  ·rename_i k' ok hk
   obtain ⟨b1,b2,b3,b4⟩:=hA.nextP a2 a3 hk
   rw [b1]
   dsimp only
   split at h
   ·rename_i h2
    obtain ⟨i1,i2'⟩:=hA.ind (by omega) b3 (b4 h2.1)
    have hm:k' < m:=by
     refine Int.lt_iff_le_and_ne.2 ⟨b3,fun e=>?_⟩
     have:=i2' e
     omega
    rw [i1,hA.signP (by omega) hm,if_pos h2]
    split at h
    ·cases h
    ·rename_i hn2
     cases h
     obtain ⟨c1,c2,c3⟩:=hN k' (c+1) c false (by omega) hm (by omega) (by omega) (by omega) hc2 (fun _ h=>by cases h) _ _ hn2
     rw [c1]
     exact ⟨rfl,c2,c3⟩
   ·rename_i h2
    cases h
    have h3:¬(ok=true∧(lineP ls (k'+d)).1=c∧Go.Proofs.YthkabaiamcjdbaaGreat.signP ls (k'+d) c 58=true):=by
     rintro ⟨e1,e2,e3⟩
     obtain ⟨i1,i2'⟩:=hA.ind (by omega) b3 (b4 e1)
     have hm:k' < m:=by
      refine Int.lt_iff_le_and_ne.2 ⟨b3,fun e=>?_⟩
      have:=i2' e
      omega
     rw [i1] at e2
     rw [hA.signP (by omega) hm] at e3
     exact h2 ⟨e1,e2,e3⟩
    rw [if_neg h3]
    exact ⟨rfl,a2,a3⟩
theorem Ag.pairP (hA:Ag ls ls' d m s) {N N':Int→Int→Int→Bool→PR}{d0 i c:Int} (hN:LocL ls ls' d m s N N') (hc:s < c∨(c=s∧ND ls ls' d m s)) (hc2:c≤4000) (h0:0≤i) (h1:i < m):MvP d m (pairP ls N d0 (i+d) c) (Go.Proofs.YthkabaiamcjdbaaGreat.pairP ls' N' d0 i c):=by
 intro ev k h
 unfold Go.Proofs.YthkabaiamcjdbaaGreat.pairP at h ⊢
 rw [hA.alone h0 h1]
 split at h
 ·cases h
 ·rename_i q hk
  try rw [hk]
  try dsimp only
  obtain ⟨k1,k2⟩:=keyF_ge hA.hs' hk
  split at h
  ·cases h
  ·rename_i hw
   try rw [hw]
   try dsimp only
   split at h
   ·cases h
   ·rename_i hn
    cases h
    obtain ⟨a1,a2,a3⟩:=hN i (q+1) c true h0 h1 (by omega) (by omega) (by omega) hc2 (fun e _=>by
     rcases hc with hc|hc
     ·omega
     ·exact hc.2) _ _ hn
    rw [a1]
    exact ⟨rfl,a2,a3⟩
theorem Ag.pairs (hA:Ag ls ls' d m s) {N N':Int→Int→Int→Bool→PR}{d0 c:Int} (hN:LocL ls ls' d m s N N') (hc:s < c) (hc2:c≤4000):∀ {f' f:Nat}{i:Int}{acc:List EvV},f'≤f→0≤i→i < m→MvP d m (pairsP ls N d0 c f (i+d) acc) (pairsP ls' N' d0 c f' i acc)
 | 0,_,_,_,_,_,_=>fun ev k h=>by cases h
 | f'+1,0,_,_,hf,_,_=>by omega
 | f'+1,f+1,i,acc,hf,h0,h1=>fun ev k h=>by
  have hone:MvP d m (if Go.Proofs.YthkabaiamcjdbaaGreat.signP ls' i c 63=true then askP ls N (i+d) c else Go.Proofs.YthkabaiamcjdbaaGreat.pairP ls N d0 (i+d) c) (if Go.Proofs.YthkabaiamcjdbaaGreat.signP ls' i c 63=true then askP ls' N' i c else Go.Proofs.YthkabaiamcjdbaaGreat.pairP ls' N' d0 i c):=by
   split
   ·exact hA.ask hN hc hc2 h0 h1
   ·exact hA.pairP hN (.inl hc) hc2 h0 h1
  rw [pairsP] at h ⊢
  rw [hA.signP h0 h1]
  split at h
  ·cases h
  ·rename_i ev1 i2 hn
   obtain ⟨a1,a2,a3⟩:=hone _ _ hn
   rw [a1]
   dsimp only
   split at h
   ·cases h
   ·rename_i k' ok hf'
    obtain ⟨b1,b2,b3,b4⟩:=hA.furP a2 a3 hf'
    rw [b1]
    dsimp only
    cases ok
    ·rw [if_pos rfl] at h ⊢
     cases h
     exact ⟨rfl,a2,a3⟩
    ·rw [if_neg (by simp)] at h ⊢
     have hm:k' < m:=by
      refine Int.lt_iff_le_and_ne.2 ⟨b3,fun e=>?_⟩
      have:=(b4 rfl e).1
      omega
     exact hA.pairs hN hc hc2 (by omega) (by omega) hm ev k h
theorem Ag.map (hA:Ag ls ls' d m s) {N N':Int→Int→Int→Bool→PR}{d0:Int} (hN:LocL ls ls' d m s N N'):LocMp d m s (fun i c t=>mapP ls N d0 i c t) (fun i c t=>mapP ls' N' d0 i c t):=by
 intro i c t h0 h1 hc hc2 ev k h
 dsimp only at h ⊢
 unfold mapP at h ⊢
 split at h
 ·cases h
 ·rename_i hE
  cases h
  obtain ⟨a1,a2,a3⟩:=hA.pairs hN hc hc2 (f:=ls.length+1) (by have:=hA.ll;omega) h0 h1 _ _ hE
  rw [a1]
  exact ⟨rfl,a2,a3⟩
theorem Ag.lev (hA:Ag ls ls' d m s):∀ (f:Nat) {d0 n:Int}{pair:Bool},s≤n→n≤4000→(n=s→pair=true→ND ls ls' d m s)→LocR d m s (levP ls f d0 n pair) (levP ls' f d0 n pair)
 | 0,d0,n,pair,hn,hn2,hND=>fun i c b t h0 h1 hc hc2 ev k h=>by
  unfold levP at h ⊢
  exact hA.node hn hn2 (fun i c b t _ _ _ _ ev k h=>by cases h) (fun i c t _ _ _ _ ev k h=>by cases h) hND (by have:=hA.ll;omega) i c b t h0 h1 hc hc2 ev k h
 | f+1,d0,n,pair,hn,hn2,hND=>fun i c b t h0 h1 hc hc2 ev k h=>by
  have ih:LocL ls ls' d m s (fun i c n pair=>levP ls f (d0+1) n pair i c (!pair) tp0) (fun i c n pair=>levP ls' f (d0+1) n pair i c (!pair) tp0):=fun i c n b h0 h1 hc hc2 hn hn2 hND=>hA.lev f hn hn2 hND i c (!b) tp0 h0 h1 hc hc2
  unfold levP at h ⊢
  exact hA.node hn hn2 (hA.seq ih) (hA.map ih) hND (by have:=hA.ll;omega) i c b t h0 h1 hc hc2 ev k h
end Go.Proofs.YthkabaiamcjdbaaGreat
/-
 Chapter 14: lists that stand in each other by their columns: plain facts.
-/

namespace Go.Proofs.YthkabaiamcjdbaaGreat
open Go.Abs
abbrev En:=Nat × Bool
def enL (w:Nat) (e:En):Ln:=((w * (e.1 - 1):Nat),if e.2=true then [45,32,119] else [45])
def layL (w:Nat) (bare:Bool):List En→List Ln
 | []=>[]
 | e::r=>(if bare=true then [(2,[35,32,99]),(0,[])] else [])++enL w e::layL w bare r
abbrev wE:EvV:=wordE [119]
inductive Blk:Nat→List En→List EvV→List En→Prop
 | last {D:Nat}:Blk D [(D,true)] [wE] []
 | back {D:Nat} {b:Bool} {r:List En} (hD:0 < D):Blk (D+1) ((D+1,true)::(D,b)::r) [wE] ((D,b)::r)
 | same {D:Nat} {b:Bool} {r rest:List En} {ev:List EvV} (h:Blk D ((D,b)::r) ev rest):Blk D ((D,true)::(D,b)::r) (wE::ev) rest
 | deep {D:Nat} {r:List En} {ev:List EvV} (h:Blk (D+1) r ev []):Blk D ((D,false)::r) (openP 3 tp0::(ev++[shutE 4])) []
 | more {D:Nat} {b:Bool} {r r2 rest:List En} {ev ev2:List EvV} (h:Blk (D+1) r ev ((D,b)::r2)) (h2:Blk D ((D,b)::r2) ev2 rest):Blk D ((D,false)::r) ((openP 3 tp0::(ev++[shutE 4]))++ev2) rest
theorem Blk.head {D:Nat}{es rest:List En}{ev:List EvV} (h:Blk D es ev rest):∃ b r,es=(D,b)::r:=by
 cases h<;>exact ⟨_,_,rfl⟩
def OnL (w:Nat) (bare:Bool) (ls:List Ln) (i:Int) (es:List En):Prop:=0≤i∧i≤ls.length∧ls.drop i.toNat=layL w bare es
theorem OnL.nil {w:Nat}{bare:Bool}{ls:List Ln}{i:Int} (h:OnL w bare ls i []):(ls.length:Int)≤i:=by
 obtain ⟨h1,h2,h3⟩:=h
 have:=congrArg List.length h3
 rw [List.length_drop] at this
 simp [layL] at this
 omega
abbrev atL (bare:Bool) (i:Int):Int:=if bare=true then i+2 else i
theorem line_drop {ls l:List Ln}{i:Int}{x:Ln} (h0:0≤i) (h:ls.drop i.toNat=x::l):lineP ls i=x∧i < ls.length∧ls.drop (i+1).toNat=l:=by
 have hl:=congrArg List.length h
 rw [List.length_drop,List.length_cons] at hl
 refine ⟨?_,by omega, ?_⟩
 ·show ls.getD i.toNat (0,[])=x
  rw [List.getD_eq_getElem?_getD,← List.head?_drop,h];rfl
 ·rw [show (i+1).toNat=i.toNat+1 by omega,← List.drop_drop,h];rfl
theorem OnL.line {w:Nat}{bare:Bool}{ls:List Ln}{i:Int}{e:En}{r:List En} (h:OnL w bare ls i (e::r)):lineP ls (atL bare i)=enL w e∧atL bare i < ls.length∧OnL w bare ls (atL bare i+1) r∧nextP ls i=.ok (atL bare i,true):=by
 obtain ⟨h1,h2,h3⟩:=h
 have hE:Beg (45:Int):=⟨by decide,by decide,by decide⟩
 have key:∀ j:Int,0≤j→ls.drop j.toNat=enL w e::layL w bare r→lineP ls j=enL w e∧j < ls.length∧OnL w bare ls (j+1) r∧overF ls j=false:=fun j hj hd=>by
  obtain ⟨l1,l2,l3⟩:=line_drop hj hd
  refine ⟨l1,l2,⟨by omega,by omega,l3⟩, ?_⟩
  unfold overF
  rw [decide_eq_false (by omega)]
  have:markerI (lineP ls j).1 (lineP ls j).2=0:=by
   rw [l1]
   unfold markerI enL
   rw [if_neg]
   rintro ⟨-,g1,g2,-⟩
   dsimp only at g1 g2
   split at g1<;>rename_i hb
   ·rw [if_pos hb] at g2;simp at g2
   ·simp at g1
  show (false || !(markerI (lineP ls j).1 (lineP ls j).2 == 0))=false
  rw [this];rfl
 have hnx:∀ j:Int,lineP ls j=enL w e→j < ls.length→overF ls j=false→nextP ls j=.ok (j,true):=fun j l1 l2 l4=>by
  refine next_line (k:=((w * (e.1 - 1):Nat):Int)) (c:=45) (t:=if e.2=true then [32,119] else []) l2 (by rw [l1];unfold enL;split<;>rename_i hb<;>simp [hb]) hE l4
 cases bare with
 | false =>
  have h3:ls.drop i.toNat=enL w e::layL w false r:=h3
  obtain ⟨l1,l2,l3,l4⟩:=key i h1 h3
  exact ⟨l1,l2,l3,hnx i l1 l2 l4⟩
 | true =>
  have h3:ls.drop i.toNat=(2,[35,32,99])::(0,[])::enL w e::layL w true r:=h3
  obtain ⟨a1,a2,a3⟩:=line_drop h1 h3
  obtain ⟨b1,b2,b3⟩:=line_drop (by omega) a3
  rw [show i+1+1=i+2 by omega] at b3
  obtain ⟨l1,l2,l3,l4⟩:=key (i+2) (by omega) b3
  refine ⟨l1,l2,l3, ?_⟩
  have hn:=hnx (i+2) l1 l2 l4
  show nextP ls i=.ok (i+2,true)
  have hB:nextB ls ls.length i=nextB ls (ls.length - 2) (i+2):=by
   obtain ⟨n,hn⟩:∃ n,ls.length=n+2:=⟨ls.length - 2,by omega⟩
   rw [hn,Nat.add_sub_cancel,show n+2=(n+1)+1 from rfl,nextB,if_pos ⟨by omega,by rw [a1];decide⟩,nextB,if_pos ⟨by omega,by rw [b1];decide⟩,show i+1+1=i+2 by omega]
  have hS:∀ f,nextB ls f (i+2)=i+2:=fun f=>by
   cases f with
   | zero=>rfl
   | succ f =>
    rw [nextB,if_neg]
    rintro ⟨-,g⟩
    rw [l1] at g
    unfold enL at g
    dsimp only at g
    split at g<;>revert g<;>decide
  unfold nextP at hn ⊢
  rw [hS] at hn
  rw [hB,hS]
  exact hn
theorem Blk.rest {D:Nat}{es rest:List En}{ev:List EvV} (h:Blk D es ev rest):∀ e r,rest=e::r→e.1+1=D:=by
 induction h with
 | last=>intro e r h;cases h
 | back=>intro e r h;cases h;rfl
 | same _ ih=>exact ih
 | deep _ _=>intro e r h;cases h
 | more _ _ _ ih=>exact ih
theorem Blk.len {D:Nat}{es rest:List En}{ev:List EvV} (h:Blk D es ev rest):rest.length < es.length:=by
 induction h with
 | last=>simp
 | back=>simp
 | same _ ih=>simp at *;omega
 | deep _ _=>simp
 | more _ _ ih ih2=>simp at *;omega
theorem Blk.mem {D:Nat}{es rest:List En}{ev:List EvV} (h:Blk D es ev rest):∀ e∈rest,e∈es:=by
 induction h with
 | last=>simp
 | back=>intro e he;exact List.mem_cons_of_mem _ he
 | same _ ih=>intro e he;exact List.mem_cons_of_mem _ (ih e he)
 | deep _ _=>simp
 | more _ _ ih ih2=>intro e he;exact List.mem_cons_of_mem _ (ih e (ih2 e he))
end Go.Proofs.YthkabaiamcjdbaaGreat
