/-
  Texts Vd, Ve, Vf, Nb, Nc, Nd, Iu, Iv, Iw, Kb, one behind the other.
-/
import Derived.Test.YthkabaiamcjdbaaGreatG30
import Derived.Test.YthkabaiamcjdbaaGreatG31
set_option linter.unusedVariables false
set_option linter.unusedSimpArgs false
set_option maxHeartbeats 16000000
/-
 Walks: chapter 15,all documents.
-/

namespace Go.Proofs.YthkabaiamcjdbaaGreat
open Go.Abs
variable {κ:Ctx} {σ:List Res} {K:Ret→List Res→Prop} {o o':Option (Option (Nat × Nat))}
def z4 (x:Ln):Bool:=decide (x.1=0) && (decide (0 < x.2.length) && x.2.getD 0 0 == 37)
set_option maxRecDepth 4000 in
theorem Ao {k:Int}{t:List Int} (hl:t.length≤2000) (hK:K (.ret (B (z4 (k,t)))) σ):ACallF κ Tryz.prog 73 [.agg [I k,SI none t]] σ K:=by
 unfold z4 at hK
 refine ACallF.dropL (aa Tryz.func73 rfl ?_)
 simp only [Tryz.ntmps73]
 repeat' (first|simp only [WL,aD,WM,Int.reduceToNat,reduceCtorEq,ba,Nat.reduceAdd,Nat.reduceSub,Nat.reduceEqDiff,Bool.not_true,true_and,reduceIte,Bool.false_eq_true,T3,bX,fR cX,fR dP,Tryz.results73]|simp (disch:=first|omega|(simp only [aT];omega)) only [aV,aV]|(with_reducible first|refine aC (hb:=?_)|refine ax (hK:=?_)|refine aP (hK:=fun b=>?_))|((with_reducible first|refine ai (fun h=>?_) (fun h=>?_)|refine ab (fun h=>?_) (fun h=>?_))<;>(try simp only [h])<;>(try simp only [bg,bm] at h)))
 all_goals first
  | exact ak (ae ah) (aj (congrArg B (by simp_all))) hK
set_option maxRecDepth 4000 in
theorem Pg {pr sb ix:Nat}{ls:List Ln}{i:Int}{y:AV} [hJ:Hold σ pr ix (SR ls i y)] (hs:Small ls) (hi:0≤i∧i < ls.length) (hd:z4 (aE ls i)=false) (hK:K (.ret (I 0)) σ):ACallF κ Tryz.prog 58 [JP pr,JP sb] σ K:=by
 have hx:=hs.at_ (i:=i.toNat) (by omega)
 have hd:z4 ((ls.getD i.toNat (0,[])).1,(ls.getD i.toNat (0,[])).2)=false:=hd
 refine ACallF.dropL (aR Tryz.func58 rfl ?_)
 simp only [Tryz.ntmps58]
 repeat' (first|(with_reducible first|refine al (ay ?_)|refine bW ?_|refine aJ ?_)|simp only [WL,WM,Nat.reduceAdd,Nat.reduceSub]|(with_reducible first|refine aO (hK:=?_)|refine aS (hK:=fun b=>?_)))
 refine dM (fun _:Unit=>⟨(JP pr::JP sb::.any::.any::.any::.any::B false::.any::.any::.any::.any::.any::.any::.any::.any::.any::.any::.any::.any::.any::.any::.any::.any::.any::.any::.any::.any::.any::.any::.any::.any::.any::.any::.any::.any::.any::.any::.any::.any::.any::.any::.any::.any::.any::.any::.any::.any::.any::.any::.any::.any::.any::.any::.any::.any::.any::.any::.any::.any::.any::.any::.any::.any::.any::[]),σ,true,[]⟩) (fun _=>True) (fun _=>0) () (aL bz (ResW.sub (List.sublist_cons_self _ _)) id) trivial ?_
 intro _ _
 repeat' (first|(with_reducible first|refine al (al ?_)|refine aJ ?_|refine aw ?_|refine aY ?_)|simp only [WL,WM,Nat.reduceAdd,Nat.reduceLT,Nat.reduceEqDiff,Bool.not_true,true_and,reduceIte,Bool.false_eq_true,T3,fT,jb,fR eP,fR eR,gu,RE,Tryz.results58,hd]|simp (disch:=first|omega|(simp only [aT];omega)) only [dN]|(with_reducible first|refine aC (hb:=?_)|refine ax (hK:=?_)|refine cQ (gr ?_ aW) ?_|refine cQ (Ao ?_ aW) ?_)|((with_reducible refine aH (id:=2) 16 mixed ?_ ?_);kernel_rfl)|((with_reducible refine aH (id:=8) 19 mixed ?_ ?_);kernel_rfl)|(with_reducible refine bP ?_)|((with_reducible first|refine ai (fun h=>?_) (fun h=>?_)|refine ab (fun h=>?_) (fun h=>?_))<;>(try simp only [h])<;>(try simp only [bg,bm] at h))|omega)
 all_goals first
  | exact ak bE (aj rfl) hK
  | (exfalso;omega)
set_option maxRecDepth 4000 in
theorem NQ {pr:Nat}{ls:List Ln}{i k:Int}{y:AV}{l ev:List EvV}{ρ:List Res}{m d may:Bool} (hR:RowR 6 y (l.map EVA) ρ) (hl:l.length≤100000000) (hs:Small ls) (hi:0≤i∧i < ls.length) (hdr:z4 (aE ls i)=false) (hm:decide (bB (aE ls i).1 (aE ls i).2=1)=m) (hd:iA ls i (if m=true then 3 else 0)=.ok (ev,k)) (he:0 < ev.length) (hel:ev.length≤100000000) (ht:∀ j,j < ev.length→(ev.getD j zw).t=.empty)
  (hdn:decide (k < ls.length∧bB (aE ls k).1 (aE ls k).2=2)=d) (hcl:d=true→cU ((aE ls k).2.drop 3)=true)
  (hK:∀ y' ρ',RowR 6 y' ((l++fm m d ev).map EVA) ρ'→K (.ret (I 0)) (.obj pr (SR ls (if d=true then k+1 else k) y')::(ρ'++σ))):ACallF κ Tryz.prog 48 [JP pr,B may] (.obj pr (SR ls i y)::(ρ++σ)) K:=by
 have hD:=fun (sb:Nat) (c:List AV) (K:Ret→List Res→Prop) (h:∀ y' ρ',RowR 6 y' ((l++fm m d ev).map EVA) ρ'→K (.ret (I 0)) (.obj sb c::.obj pr (SR ls (if d=true then k+1 else k) y')::(ρ'++σ)))=>ACallF.at_ (κ:=κ) (σ:=.obj sb c::.obj pr (SR ls i y)::(ρ++σ)) (b:=pr) (K:=K) (Ek (sb:=sb) hR hl hs hi hm hd he hel ht hdn hcl h)
 have h0:decide ((0:Int)≠0)=false:=rfl
 cases may
 all_goals
  refine ACallF.dropL (aa Tryz.func48 rfl ?_)
  simp only [Tryz.ntmps48]
  repeat' (first|simp only [WL,aD,WM,reduceCtorEq,ba,Nat.reduceAdd,Nat.reduceSub,true_and,Rg,RB,Tryz.results48]|(with_reducible first|refine aP (hK:=fun b=>?_)|refine aG (hK:=?_)|refine callD_mk (Pg hs hi hdr ?_)|refine callD_mk (hD _ _ _ (fun y' ρ' hr=>?_)))|((with_reducible first|refine ai (fun h=>?_) (fun h=>?_)|refine ab (fun h=>?_) (fun h=>?_))<;>(try simp only [h])<;>(try simp only [bg,bm] at h)))
  all_goals first
   | exact ak (ae ah) (aj rfl) (hK _ _ hr)
   | exact absurd trivial (by assumption)
   | (exfalso;omega)
inductive Docs (ls:List Ln):Int→List EvV→Nat→Prop where
 | nil {i:Int} {s:Bool} (h:dH ls i=(((ls.length:Nat):Int),s,true)):Docs ls i [] 0
 | cons {i j k:Int} {s m d:Bool} {ev rest:List EvV} {n:Nat} (h:dH ls i=(j,s,true)) (hj:0≤j∧j < ls.length) (hdr:z4 (aE ls j)=false) (hm:decide (bB (aE ls j).1 (aE ls j).2=1)=m) (hd:iA ls j (if m=true then 3 else 0)=.ok (ev,k)) (he:0 < ev.length) (hel:ev.length≤1000000) (ht:∀ q,q < ev.length→(ev.getD q zw).t=.empty)
  (hdn:decide (k < ls.length∧bB (aE ls k).1 (aE ls k).2=2)=d) (hcl:d=true→cU ((aE ls k).2.drop 3)=true) (hr:Docs ls (if d=true then k+1 else k) rest n):Docs ls i (fm m d ev++rest) (n+1)
structure StX where
 i:Int
 may:Bool
 l:List EvV
 y:AV
 ρ:List Res
 σ:List Res
 ev:List EvV
 n:Nat
set_option maxRecDepth 4000 in
theorem Ej {cs:List AV}{l ev:List EvV}{m d:Bool} (h:cs.take (((l++fm m d ev).map EVA).length * 6)=aI ((l++fm m d ev).map EVA)):cs[(((l++fm m d ev).map EVA).length - 1) * 6+5]? = some (B d):=by
 have e1:(l++fm m d ev).map EVA=(l++oO m::ev).map EVA++[EVA (tC d)]:=by simp [fm]
 have hl:(((l++fm m d ev).map EVA).length - 1) * 6=(aI ((l++oO m::ev).map EVA)).length:=by
  rw [cZ _ (mG _),e1,List.length_append,List.length_singleton,Nat.add_sub_cancel]
 have h2:=congrArg (fun x:List AV=>x[(((l++fm m d ev).map EVA).length - 1) * 6+5]?) h
 simp only [List.getElem?_take] at h2
 have hpos:0 < ((l++fm m d ev).map EVA).length:=by simp [fm];omega
 rw [if_pos (by omega)] at h2
 rw [h2,hl,e1]
 have e2:aI ((l++oO m::ev).map EVA++[EVA (tC d)])=aI ((l++oO m::ev).map EVA)++[I 2,.raw (.string .empty),.raw (.string .empty),.raw (.string .empty),I 0,B d]:=by simp [aI];rfl
 rw [e2,List.getElem?_append_right (by omega),Nat.add_sub_cancel_left]
 rfl
set_option maxRecDepth 4000 in
theorem xz {y:AV}{L:List AV}{ρ:List Res} (h:RowR 6 y L ρ) (h0:0 < L.length):∃ b c cs,y=bM b 0 L.length c∧ρ=[.obj b cs]∧0 < c∧L.length≤c∧cs.length=c * 6∧cs.take (L.length * 6)=aI L:=by
 cases h with
 | nil=>simp at h0
 | @row b c cs _ h1 h2 h3 h4=>exact ⟨b,c,cs,rfl,rfl,h1,h2,h3,h4⟩
set_option maxRecDepth 4000 in
theorem GY {b1 L pr:Nat}{ls:List Ln}{i:Int}{y:AV}{l ev:List EvV}{ρ:List Res}{n:Nat} (hs:Small ls) (hD:Docs ls i ev n) (hi:0≤i∧i≤ls.length) (hl:(l++ev).length≤100000000) (hR:RowR 6 y (l.map EVA) ρ)
  (hI:ub κ Tryz.prog L K (fun ρ'=>∃ y' i' ρ'',RowR 6 y' ((l++ev).map EVA) ρ''∧ρ'=.obj pr (SR ls i' y')::ρ'') (List.replicate n [I 0]) σ) :
  ACallF κ Tryz.prog 45 [.raw (.func (.yield L) #[] #[]),.raw (.pointer (some ⟨b1,0,none⟩))] (.obj b1 [JP pr]::.obj pr (SR ls i y)::(ρ++σ)) K:=by
 generalize hT:l++ev=T at *
 refine ACallF.dropL (aR Tryz.func45 rfl ?_)
 simp only [Tryz.ntmps45]
 repeat' (first|(with_reducible first|refine ay ?_|refine bW ?_|refine aJ ?_)|simp only [WL,WM,Nat.reduceAdd,Nat.reduceSub])
 refine dM (fun x:StX=>⟨(.raw (.func (.yield L) #[] #[])::.raw (.pointer (some ⟨b1,0,none⟩))::.any::B x.may::.any::.any::.any::.any::.any::.any::.any::.any::.any::.any::.any::.any::.any::.any::.any::.any::.any::.any::.any::.any::.any::.any::.any::.any::.any::.any::.any::.any::.any::.any::.any::.any::.any::.any::.any::.any::.any::[]),.obj b1 [JP pr]::.obj pr (SR ls x.i x.y)::(x.ρ++x.σ),true,[]⟩)
  (fun x=>Docs ls x.i x.ev x.n∧(0≤x.i∧x.i≤ls.length)∧x.l++x.ev=T∧RowR 6 x.y (x.l.map EVA) x.ρ∧ub κ Tryz.prog L K (fun ρ'=>∃ y' i' ρ'',RowR 6 y' (T.map EVA) ρ''∧ρ'=.obj pr (SR ls i' y')::ρ'') (List.replicate x.n [I 0]) x.σ) (fun x=>x.n) ⟨i,true,l,y,ρ,σ,ev,n⟩ (ao bz id) ⟨hD,hi,hT,hR,hI⟩ ?_
 clear hD hi hT hR hI
 rintro ⟨i,may,l,y,ρ,σ,ev,n⟩ ⟨hD,hi,hT,hR,hI⟩
 dsimp only at hD hi hT hR hI ⊢
 have hDots:=fun (K:Ret→List Res→Prop) (h:K (.ret (.tup [B (dH ls i).2.1,B (dH ls i).2.2])) (.obj b1 [JP pr]::.obj pr (SR ls (dH ls i).1 y)::(ρ++σ)))=>ACallF.at_ (κ:=κ) (σ:=.obj b1 [JP pr]::.obj pr (SR ls i y)::(ρ++σ)) (b:=pr) (K:=K) (Ro hs hi h)
 cases hD with
 | nil h =>
  have hI0:∀ ρ',(∃ y' i' ρ'',RowR 6 y' (T.map EVA) ρ''∧ρ'=.obj pr (SR ls i' y')::ρ'')→K (.ret (.tup [])) (ρ'++σ):=hI
  rw [List.append_nil] at hT
  subst hT
  rw [h] at hDots
  dsimp only at hDots
  have hov:decide (((ls.length:Nat):Int)=((ls.length:Nat):Int))=true:=decide_eq_true rfl
  repeat' (first|(with_reducible first|refine ay ?_|refine al (al ?_)|refine aJ ?_|refine aB ?_|refine aw ?_)|simp only [WL,WM,Nat.reduceAdd,Nat.reduceLT,Bool.not_true,Bool.not_false,true_and,reduceIte,Bool.false_eq_true,LK,gu,Lr,Tryz.results45]|(with_reducible first|refine ax (hK:=?_)|refine callD_mk (hDots _ ?_)|refine cD (gr ?_ ?_))|((with_reducible first|refine ai (fun h=>?_) (fun h=>?_)|refine ab (fun h=>?_) (fun h=>?_))<;>(try simp only [h])<;>(try simp only [bg,bm] at h))|omega)
  all_goals first
   | exact absurd trivial (by assumption)
   | (exfalso;omega)
   | exact ak (ae ah) (aj rfl) (hI0 _ ⟨_,_,_,hR,rfl⟩)
   | (clear hDots;trace_state)
 | @cons _ j k s m d ev rest n h hj hdr hm hd he hel ht hdn hcl hr =>
  rw [h] at hDots
  dsimp only at hDots
  have hStep:=fun (may:Bool) (K:Ret→List Res→Prop) (h:∀ y' ρ',RowR 6 y' ((l++fm m d ev).map EVA) ρ'→K (.ret (I 0)) (.obj b1 [JP pr]::.obj pr (SR ls (if d=true then k+1 else k) y')::(ρ'++σ)))=>ACallF.at_ (κ:=κ) (σ:=.obj b1 [JP pr]::.obj pr (SR ls j y)::(ρ++σ)) (b:=pr) (K:=K) (NQ (may:=may) hR (by have:=congrArg List.length hT;rw [List.length_append] at this;omega) hs hj hdr hm hd he (by omega) ht hdn hcl h)
  obtain ⟨hk1,hk2,-⟩:=F2 hs hj hd
  have hkk:0≤(if d=true then k+1 else k)∧(if d=true then k+1 else k)≤ls.length:=by
   cases d
   ·exact ⟨by simp;omega,by simpa using hk2⟩
   ·have:=(of_decide_eq_true hdn).1
    exact ⟨by simp;omega,by simp;omega⟩
  have hov:decide (j=((ls.length:Nat):Int))=false:=decide_eq_false (by omega)
  repeat' (first|(with_reducible first|refine ay ?_|refine al (al ?_)|refine aJ ?_|refine aB ?_|refine aw ?_)|simp only [WL,WM,Nat.reduceAdd,Nat.reduceLT,Bool.not_true,Bool.not_false,true_and,reduceIte,Bool.false_eq_true,LK,gu,Lr,hov]|(with_reducible first|refine ax (hK:=?_)|refine callD_mk (hDots _ ?_)|refine callD_mk (hStep _ _ (fun y' ρ' hr'=>?_))|refine cD (gr ?_ ?_))|((with_reducible first|refine ai (fun h=>?_) (fun h=>?_)|refine ab (fun h=>?_) (fun h=>?_))<;>(try simp only [h])<;>(try simp only [bg,bm] at h))|omega)
  all_goals first
   | exact absurd trivial (by assumption)
   | (exfalso;omega)
   | skip
  all_goals
   have h3:ACallY κ Tryz.prog L [I 0] σ (YK (fun σ'=>ub κ Tryz.prog L K (fun ρ'=>∃ y' i' ρ'',RowR 6 y' (T.map EVA) ρ''∧ρ'=.obj pr (SR ls i' y')::ρ'') (List.replicate n [I 0]) σ') K):=hI
   clear hDots hStep hI hR
   obtain ⟨rb,rc,cs,rfl,rfl,hc0,hc1,hc2,hc3⟩:=xz hr' (by simp [fm];omega)
   have hlf:=Ej hc3
   refine dB (y:=[I 0]) [.obj b1 [JP pr],.obj pr (SR ls (if d=true then k+1 else k) (bM rb 0 ((l++fm m d ev).map EVA).length rc)),.obj rb cs] ⟨le_rfl,trivial⟩ h3 (fun σ3 h9=>?_) (fun σ3 h9=>?_) (fun c σ3 h9=>?_)
   ·have hll:0 < (l++fm m d ev).length:=by simp [fm];omega
    have hbd:(l++fm m d ev).length≤100000000:=by
     have:=congrArg List.length hT
     rw [← List.append_assoc,List.length_append] at this
     omega
    have hr2:=hr'
    rw [List.length_map] at hr2
    rw [List.length_map] at hlf
    have hz:(((l++fm m d ev).length:Nat):Int) - 1=(((l++fm m d ev).length - 1:Nat):Int):=by omega
    clear h3
    repeat' (first|( with_reducible refine iL (hK:=?_))|( with_reducible refine ax (x:=B d) (hc:=by rw [Nat.zero_add];exact hlf) (hK:=?_))|with_reducible refine aw ?_|simp only [WL,aD,WM,reduceCtorEq,ba,Nat.reduceAdd,Nat.reduceEqDiff,Bool.not_true,true_and,reduceIte,Bool.false_eq_true,T4,jU,fR wi,fR iN,hz]|simp (disch:=first|omega|(simp only [aT];omega)) only [aq]|(with_reducible first|refine aC (hb:=?_)|refine ax (hK:=?_))|((with_reducible refine eh (id:=5) [0,1,2,3,4,5,6,7,8,9] (some 10) [([11],some 12),([13],none)] mixed ?_ ?_);kernel_rfl)|((with_reducible apply aQ);intro σq hq;have hqi:=cm hq;clear hq)|(with_reducible exact bU)|((with_reducible apply bA);rfl;rfl)|(with_reducible refine bR (l8 (by first|(simp;done)|fail) (by first|(simp;done)|fail)) ?_))
    all_goals first
     | exact ⟨⟨if d=true then k+1 else k,d,l++fm m d ev,bM rb 0 (l++fm m d ev).length rc,[.obj rb cs],σ3,rest,n⟩,ao bz id,⟨hr,hkk,by rw [← hT];simp,hr2,h9⟩,by dsimp only;omega⟩
     | exact absurd trivial (by assumption)
     | (exfalso;omega)
   ·skip
    repeat' (first|with_reducible refine aw ?_|simp only [WL,WM,Bool.not_false,true_and,reduceIte,Bool.false_eq_true,Tryz.results45])
    exact ak bE (aj rfl) h9
   ·skip
    repeat' (first|simp only [WL,WM,true_and])
    exact aN bE rfl h9
set_option maxRecDepth 4000 in
theorem NG {pr:Nat} (hK:∀ b,K (.ret (.raw (.func (.func 45) #[] #[.pointer (some ⟨b,0,none⟩)]))) (.obj b [JP pr]::σ)):ACallF κ Tryz.prog 30 [JP pr] σ K:=by
 refine ACallF.dropL (aa Tryz.func30 rfl ?_)
 simp only [Tryz.ntmps30]
 repeat' (first|simp only [WL,WM,Nat.reduceAdd,Nat.reduceSub,true_and,Tryz.results30]|with_reducible refine aP (hK:=fun b=>?_))
 exact ak ah (aj rfl) (hK _)
set_option maxRecDepth 4000 in
theorem rf {ls:List Ln}{ev:List EvV}{n:Nat} (hs:Small ls) (hD:Docs ls 0 ev n) (hl:ev.length≤100000000) (hK:∀ y ρ,RowR 6 y (ev.map EVA) ρ→K (.ret (.tup [y,I 0])) (ρ++σ)):ACallF κ Tryz.prog 20 [SL none ls] σ K:=by
 refine ACallF.dropL (mo Tryz.func20 rfl ?_)
 simp only [Tryz.ntmps20]
 refine lg ?_
 repeat' (first|simp only [WL,WM,Nat.reduceAdd,Nat.reduceSub]|with_reducible refine aS (hK:=fun b=>?_))
 refine lg ?_
 repeat' (first|simp only [WL,WM,Nat.reduceAdd]|(with_reducible first|refine aP (hK:=fun b=>?_)|refine aG (hK:=?_)))
 refine wb (lg ?_)
 repeat' (first|simp only [WL,WM,true_and,SW]|with_reducible refine cD (NG (fun b=>?_)))
 refine tY ?_
 rename_i b2 b3 br
 refine D2 45 [] [.pointer (some ⟨b,0,none⟩)] (List.replicate n [I 0]) [.obj b [JP br],.obj br (SR ls 0 nilS)] (.obj b3 [I 0]::.obj b2 [nilS]::σ)
  (fun xs τ=>(∃ m,xs=List.replicate m [I 0])∧τ=.obj b3 [I 0]::.obj b2 [nilS]::σ) (fun ρ'=>∃ y' i' ρ'',RowR 6 y' (ev.map EVA) ρ''∧ρ'=.obj br (SR ls i' y')::ρ'')
  rfl Rv (ResW.refl _) (fun L K σ' h=>GY (l:=[]) (ρ:=[]) hs hD ⟨by omega,by omega⟩ (by simpa using hl) RowR.nil h) ⟨⟨n,rfl⟩,rfl⟩ ?_ ?_
 ·rintro τ ρ' ⟨-,rfl⟩ ⟨y',i',ρ'',hr,rfl⟩
  simp only [fI,eN]
  refine z6 (mV ?_)
  have hK2:=hK _ _ hr
  have hcase:(ρ''=[]∧y'=nilS)∨∃ b c cs,ρ''=[.obj b cs]∧y'=bM b 0 (ev.map EVA).length c:=by
   generalize hL:ev.map EVA=L at hr
   cases hr with
   | nil=>exact .inl ⟨rfl,rfl⟩
   | row=>exact .inr ⟨_,_,_,rfl,rfl⟩
  rcases hcase with ⟨rfl,rfl⟩|⟨rb,rc,cs,rfl,rfl⟩
  ·skip
   repeat' (first|simp only [WL,WM,Nat.reduceAdd,Nat.reduceEqDiff,true_and,jU,fR iN,Tryz.results20]|(with_reducible first|refine aC (hb:=?_)|refine ax (hK:=?_)|refine aO (hK:=?_))|((with_reducible refine aU ?_);apply kS (hf:=Tryz.results20);exact eG;exact eG))
   exact ak bE (aj rfl) hK2
  ·rw [List.length_map] at hK2 ⊢
   repeat' (first|simp only [WL,WM,Nat.reduceAdd,Nat.reduceEqDiff,true_and,jU,fR iN,Tryz.results20]|(with_reducible first|refine aC (hb:=?_)|refine ax (hK:=?_)|refine aO (hK:=?_))|((with_reducible refine aU ?_);apply kS (hf:=Tryz.results20);exact eG;exact eG))
   exact ak ⟨.obj rb cs::σ,List.Perm.refl _,List.Sublist.cons _ (List.Sublist.cons_cons _ (List.Sublist.cons _ (List.Sublist.cons _ (List.Sublist.refl _))))⟩ (aj rfl) hK2
 ·rintro dd L Rr Rb hRr xx xs τ ⟨⟨m,hm⟩,rfl⟩
  obtain ⟨m,rfl⟩:∃ m',m=m'+1:=by
   cases m with
   | zero=>cases hm
   | succ m=>exact ⟨m,rfl⟩
  rw [List.replicate_succ] at hm
  obtain ⟨rfl,rfl⟩:=List.cons.inj hm
  refine ⟨rfl, ?_⟩
  repeat' (first|simp only [WL,WM])
  refine ⟨0,rfl, ?_⟩
  simp only [List.set_cons_succ,List.set_cons_zero]
  have h0:decide ((0:Int)≠0)=false:=rfl
  repeat' (first|simp only [WL,aD,WM,reduceCtorEq,ba,Nat.reduceAdd,true_and,Tryz.results20,qf,yz]|with_reducible refine aO (hK:=?_)|((with_reducible first|refine ai (fun h=>?_) (fun h=>?_)|refine ab (fun h=>?_) (fun h=>?_))<;>(try simp only [h])<;>(try simp only [bg,bm] at h)))
  all_goals first
   | exact absurd trivial (by assumption)
   | skip
  all_goals
   exact ⟨_,KS (ResW.refl _),⟨m,rfl⟩,rfl⟩
end Go.Proofs.YthkabaiamcjdbaaGreat
/-
 Chapter 14: what is read at a place depends on its own lines,up to a line that stands no further to the right (plain): places.
-/

namespace Go.Proofs.YthkabaiamcjdbaaGreat
open Go.Abs
def q7 (ls:List Ln) (j s:Int):Prop:=cU (aE ls j).2=false∧(aE ls j).1=s∧¬(aE ls j).2.getD 0 0=9
structure Ag (ls ls':List Ln) (d m s:Int):Prop where
 d0:0≤d
 m0:0≤m
 s0:0≤s
 at_:∀ i:Int,0≤i→i < m→ls.getD (i+d).toNat (0,[])=ls'.getD i.toNat (0,[])
 len:m+d≤ls.length
 len':m≤ls'.length
 over:bC ls (m+d)=bC ls' m
 stop:bC ls' m=false→q7 ls (m+d) s∧q7 ls' m s
 ll:ls'.length≤ls.length
 hs:Small ls
 hs':Small ls'
def gq (m:Int) (p:Int × Int):Prop:=0≤p.1∧p.1 < m
def sh (d:Int) (p:Int × Int):Int × Int:=(p.1+d,p.2)
theorem OO (d:Int) (p:Int × Int) (k:Int):((sh d p).1,(sh d p).2+k)=sh d (p.1,p.2+k):=rfl
theorem NN {d:Int}{p q:Int × Int}:sh d p=sh d q↔p=q:=by
 constructor
 ·intro h
  unfold sh at h
  obtain ⟨h1,h2⟩:=Prod.mk.inj h
  exact Prod.ext (by omega) h2
 ·rintro rfl;rfl
variable {ls ls':List Ln} {d m s:Int}
theorem Ag.line (hA:Ag ls ls' d m s) {i:Int} (h0:0≤i) (h1:i < m):aE ls (i+d)=aE ls' i:=hA.at_ i h0 h1
theorem Ag.rest (hA:Ag ls ls' d m s) {p:Int × Int} (hp:gq m p):aF ls (sh d p)=aF ls' p:=by
 have h1:=hA.at_ p.1 hp.1 hp.2
 have h2:=hA.len;have h3:=hA.len';have h4:=hA.d0
 obtain ⟨h5,h6⟩:=hp
 unfold aF sh
 dsimp only
 rw [h1]
 by_cases hc:p.2 < 0
 ·rw [if_pos (.inr (.inr hc)),if_pos (.inr (.inr hc))]
 ·rw [if_neg (show ¬(p.1+d < 0∨(ls.length:Int)≤p.1+d∨p.2 < 0) by omega),if_neg (show ¬(p.1 < 0∨(ls'.length:Int)≤p.1∨p.2 < 0) by omega)]
theorem Ag.rest_add (hA:Ag ls ls' d m s) {p:Int × Int} (hp:gq m p) (k:Int):aF ls ((sh d p).1,(sh d p).2+k)=aF ls' (p.1,p.2+k):=hA.rest (p:=(p.1,p.2+k)) hp
theorem Ag.isF (hA:Ag ls ls' d m s) {p:Int × Int} (hp:gq m p) (c:Int):isF ls (sh d p) c=isF ls' p c:=by unfold Go.Proofs.YthkabaiamcjdbaaGreat.isF;rw [hA.rest hp]
theorem Ag.loose (hA:Ag ls ls' d m s) {p:Int × Int} (hp:gq m p) (c:Int):ei ls (sh d p) c=ei ls' p c:=by unfold ei;rw [hA.rest hp]
theorem Ag.after (hA:Ag ls ls' d m s) {p:Int × Int} (hp:gq m p):pg ls (sh d p)=pg ls' p:=by
 unfold pg
 rw [show ((sh d p).1,(sh d p).2 - 1)=sh d (p.1,p.2 - 1) from rfl,hA.rest (p:=(p.1,p.2 - 1)) hp]
theorem Ag.com (hA:Ag ls ls' d m s) {p:Int × Int} (hp:gq m p) (l:List Int):wC ls (sh d p) l=wC ls' p l:=by unfold wC;rw [hA.after hp];rfl
theorem Ag.overI (hA:Ag ls ls' d m s) {i:Int} (h0:0≤i) (h1:i≤m):bC ls (i+d)=bC ls' i:=by
 by_cases h:i < m
 ·have h2:=hA.len;have h3:=hA.len';have h4:=hA.d0
  unfold bC
  rw [hA.at_ i h0 h,decide_eq_false (by omega),decide_eq_false (by omega)]
 ·rw [show i=m by omega];exact hA.over
theorem Ag.col (hA:Ag ls ls' d m s) {p:Int × Int} (hp:gq m p):dT ls (sh d p)=dT ls' p:=by
 have h2:=hA.len;have h3:=hA.len';have h4:=hA.d0
 obtain ⟨h5,h6⟩:=hp
 unfold dT sh
 dsimp only
 rw [if_pos (by omega),if_pos (by omega),hA.at_ p.1 h5 h6]
theorem Ag.past (hA:Ag ls ls' d m s) {p:Int × Int} (hp:gq m p):bO ls (sh d p)=(sh d (bO ls' p).1,(bO ls' p).2):=by
 have hr:=hA.rest (p:=(p.1,dT ls' p)) hp
 unfold bO
 rw [hA.col hp,show ((sh d p).1,dT ls' p)=sh d (p.1,dT ls' p) from rfl,hr]
 rfl
theorem Ag.some (hA:Ag ls ls' d m s) {p:Int × Int} (hp:gq m p):ep ls (sh d p)=(sh d (ep ls' p).1,(ep ls' p).2):=by
 unfold ep
 rw [hA.past hp]
 dsimp only
 rw [hA.com (by exact hp)]
theorem I9 {ls:List Ln}{j:Int} (h:bC ls j=false):j < ls.length:=by
 unfold bC at h
 rw [Bool.or_eq_false_iff] at h
 have:=of_decide_eq_false h.1
 omega
theorem nm:∀ {l:List Int},l.dropWhile blankI=[]→l.all blankI=true
 | [],_=>rfl
 | c::l,h=>by
  rw [List.dropWhile_cons] at h
  rw [List.all_cons]
  split at h
  ·rename_i hc
   rw [hc,nm h];rfl
  ·cases h
theorem DW {l:List Int} (h:cU l=false):0 < (l.drop (nj l)).length∧bV (l.drop (nj l)) 35=false:=by
 have hd:l.drop (nj l)=l.dropWhile blankI:=by
  unfold nj
  clear h
  induction l with
  | nil=>rfl
  | cons c l ih =>
   rw [List.takeWhile_cons,List.dropWhile_cons]
   split
   ·simpa using ih
   ·rfl
 rw [hd]
 unfold cU at h
 rw [Bool.or_eq_false_iff] at h
 have h1:0 < (l.dropWhile blankI).length:=by
  refine Nat.pos_of_ne_zero fun h0=>?_
  have h0:l.dropWhile blankI=[]:=List.eq_nil_of_length_eq_zero h0
  have:l.all blankI=true:=by
   exact nm h0
  rw [this] at h
  exact absurd h.1 (by simp)
 refine ⟨h1, ?_⟩
 unfold bV
 rw [h.2]
 simp
theorem DR {ls:List Ln}{j s:Int} (hs:Small ls) (h0:0≤j) (ho:bC ls j=false) (h:q7 ls j s):(ep ls (j,0)).1.1=j∧(ep ls (j,0)).2=true:=by
 refine ⟨rfl, ?_⟩
 obtain ⟨h1,h2,h3⟩:=h
 have hl:=I9 ho
 have ha:=hs.at_ (i:=j.toNat) (by omega)
 have hc:dT ls (j,0)=(aE ls j).1:=by
  unfold dT
  dsimp only
  rw [if_pos (by omega)]
  show max 0 (aE ls j).1=_
  have:0≤(aE ls j).1:=ha.2.1
  omega
 have hr:aF ls (j,(aE ls j).1)=(aE ls j).2:=by
  have:0≤(aE ls j).1:=ha.2.1
  unfold aF
  dsimp only
  rw [if_neg (by omega)]
  show (if (aE ls j).1 < (aE ls j).1 then [32] else (aE ls j).2.drop (min ((aE ls j).1 - max 0 (aE ls j).1) _).toNat)=_
  rw [if_neg (by omega),show (min ((aE ls j).1 - max 0 (aE ls j).1) (((aE ls j).2.length:Nat):Int)).toNat=0 by omega]
  rfl
 have hp:(bO ls (j,0)).2=(aE ls j).2.drop (nj (aE ls j).2):=by
  unfold bO
  rw [hc]
  dsimp only
  rw [hr]
 obtain ⟨b1,b2⟩:=DW h1
 unfold ep wC
 dsimp only
 rw [hp,b2,decide_eq_true b1]
 rfl
theorem CR {ls:List Ln}{j s n l0:Int} (hs:Small ls) (h0:0≤j) (ho:bC ls j=false) (h:q7 ls j s) (hn:s≤n) (hl:l0 < j):∀ M,onL ls n l0 (fD ls M (j,0))=none:=by
 intro M
 obtain ⟨a1,a2⟩:=DR hs h0 ho h
 have hh:∀ r,onL ls n l0 (ep ls (j,0)::r)=none:=fun r=>by
  rw [show ep ls (j,0)=((ep ls (j,0)).1,true) from Prod.ext rfl a2]
  unfold onL
  rw [if_pos rfl,a1,if_pos ⟨hl,by have:(ls.getD j.toNat (0,[])).1=s:=h.2.1;omega⟩]
 cases M
 ·exact hh []
 ·exact hh _
theorem Ag.onL (hA:Ag ls ls' d m s) {n l0:Int} (hn:s≤n):∀ {M M':Nat}{p:Int × Int},gq m p→l0≤p.1→m - p.1≤M→m - p.1≤M' →
  onL ls n (l0+d) (fD ls M (sh d p))=(Go.Proofs.YthkabaiamcjdbaaGreat.onL ls' n l0 (fD ls' M' p)).map (·.map (sh d))∧∀ q,Go.Proofs.YthkabaiamcjdbaaGreat.onL ls' n l0 (fD ls' M' p)=Option.some (Option.some q)→gq m q∧p.1≤q.1
 | 0,_,p,hp,_,h,_=>by have:=hp.2;omega
 | _,0,p,hp,_,_,h=>by have:=hp.2;omega
 | M+1,M'+1,p,hp,hl,h1,h2=>by
  have hp1:=hp.1;have hp2:=hp.2
  rw [fD,fD,hA.some hp]
  have e1:(sh d p).1+1=p.1+1+d:=by show p.1+d+1=_;omega
  rw [e1,hA.overI (i:=p.1+1) (by omega) (by omega)]
  have hq1:(ep ls' p).1.1=p.1:=rfl
  generalize hq:ep ls' p=q at hq1
  obtain ⟨q,b⟩:=q
  dsimp only at hq1 ⊢
  cases b
  ·have e2:∀ r,Go.Proofs.YthkabaiamcjdbaaGreat.onL ls n (l0+d) ((sh d q,false)::r)=Go.Proofs.YthkabaiamcjdbaaGreat.onL ls n (l0+d) r:=fun r=>rfl
   have e3:∀ r,Go.Proofs.YthkabaiamcjdbaaGreat.onL ls' n l0 ((q,false)::r)=Go.Proofs.YthkabaiamcjdbaaGreat.onL ls' n l0 r:=fun r=>rfl
   rw [e2,e3]
   by_cases ho:bC ls' (p.1+1)=true
   ·rw [if_pos ho,if_pos ho]
    exact ⟨rfl,fun q h=>by cases h⟩
   ·rw [if_neg ho,if_neg ho]
    by_cases hm:p.1+1 < m
    ·obtain ⟨i1,i2⟩:=hA.onL hn (l0:=l0) (M:=M) (M':=M') (p:=(p.1+1,0)) ⟨by dsimp only;omega,hm⟩ (by dsimp only;omega) (by dsimp only;omega) (by dsimp only;omega)
     exact ⟨i1,fun q h=>by obtain ⟨a1,a2⟩:=i2 q h;exact ⟨a1,by dsimp only at a2;omega⟩⟩
    ·have hmm:p.1+1=m:=by omega
     rw [hmm] at ho ⊢
     have ho':bC ls' m=false:=by simpa using ho
     obtain ⟨s1,s2⟩:=hA.stop ho'
     have hm0:=hA.m0;have hd0:=hA.d0
     rw [CR hA.hs (by omega) (by rw [hA.over];exact ho') s1 hn (by omega),CR hA.hs' hm0 ho' s2 hn (by omega)]
     exact ⟨rfl,fun q h=>by cases h⟩
  ·unfold Go.Proofs.YthkabaiamcjdbaaGreat.onL
   rw [if_pos rfl,if_pos rfl]
   have e4:(ls.getD (sh d q).1.toNat (0,[])).1=(ls'.getD q.1.toNat (0,[])).1:=by
    show (ls.getD (q.1+d).toNat (0,[])).1=_
    rw [hA.at_ q.1 (by omega) (by omega)]
   rw [e4]
   have e5:(sh d q).1=q.1+d:=rfl
   by_cases hc:l0 < q.1∧(ls'.getD q.1.toNat (0,[])).1≤n
   ·rw [if_pos ⟨by omega,hc.2⟩,if_pos hc]
    exact ⟨rfl,fun q h=>by cases h⟩
   ·rw [if_neg (fun h=>hc ⟨by omega,h.2⟩),if_neg hc]
    exact ⟨rfl,fun q' h=>by cases h;exact ⟨⟨by omega,by omega⟩,by omega⟩⟩
theorem Ag.onF (hA:Ag ls ls' d m s) {n:Int} (hn:s≤n) {p:Int × Int} (hp:gq m p) :
  onF ls n (sh d p)=(Go.Proofs.YthkabaiamcjdbaaGreat.onF ls' n p).map (·.map (sh d))∧∀ q,Go.Proofs.YthkabaiamcjdbaaGreat.onF ls' n p=Option.some (Option.some q)→gq m q∧p.1≤q.1:=by
 have h1:=hA.len;have h2:=hA.len';have hp1:=hp.1;have hp2:=hp.2
 exact hA.onL hn hp (Int.le_refl _) (by show m - p.1≤((((ls.length:Int) - (p.1+d)).toNat:Nat):Int);omega) (by omega)
theorem Ag.must (hA:Ag ls ls' d m s) {n:Int} (hn:s≤n) {p q:Int × Int} (hp:gq m p) (h:ct ls' n p=.ok q):ct ls n (sh d p)=.ok (sh d q)∧gq m q:=by
 obtain ⟨h1,h2⟩:=hA.onF hn hp
 unfold ct at h ⊢
 rw [h1]
 split at h
 ·cases h
 ·cases h
 ·rename_i q' hq
  cases h
  rw [hq]
  exact ⟨rfl,(h2 _ hq).1⟩
theorem Ag.must_add (hA:Ag ls ls' d m s) {n:Int} (hn:s≤n) {p q:Int × Int}{k:Int} (hp:gq m p) (h:ct ls' n (p.1,p.2+k)=.ok q):ct ls n ((sh d p).1,(sh d p).2+k)=.ok (sh d q)∧gq m q:=hA.must hn (p:=(p.1,p.2+k)) hp h
theorem Ag.trait (hA:Ag ls ls' d m s) {p:Int × Int} (hp:gq m p) {v w:TrV} (ha:w.a=v.a) (ht:w.t=v.t) :
  cG ls (sh d p) w=(cG ls' p v).map (·.map fun v=>⟨v.a,v.t,sh d v.q⟩)∧∀ v',cG ls' p v=Option.some (Option.some v')→gq m v'.q∧v'.q.1=p.1:=by
 unfold cG
 rw [ha,ht,hA.rest hp,hA.rest_add hp,hA.rest_add hp]
 split
 ·split
  ·exact ⟨rfl,fun v' h=>by cases h;exact ⟨hp,rfl⟩⟩
  ·exact ⟨rfl,fun v' h=>by cases h⟩
 ·split
  ·split
   ·exact ⟨rfl,fun v' h=>by cases h;exact ⟨hp,rfl⟩⟩
   ·exact ⟨rfl,fun v' h=>by cases h⟩
  ·exact ⟨rfl,fun v' h=>by cases h⟩
def VR (d m:Int) (v w:TrV):Prop:=w.a=v.a∧w.t=v.t∧(iD v=true→w.q=sh d v.q∧gq m v.q)
theorem Ag.traitsG (hA:Ag ls ls' d m s) {n:Int} (hn:s≤n):∀ {f:Nat}{v w v2:TrV}{q q2:Int × Int}{ok:Bool},gq m q→VR d m v w→traitsG ls' n f v q true=.ok (v2,q2,ok) →
  ∃ w2 q3,Go.Proofs.YthkabaiamcjdbaaGreat.traitsG ls n f w (sh d q) true=.ok (w2,q3,ok)∧VR d m v2 w2∧(ok=true→q3=sh d q2∧gq m q2)
 | 0,v,w,v2,q,q2,ok,hq,hv,h=>by
  obtain ⟨t1,t2⟩:=hA.trait hq (v:=v) (w:=w) hv.1 hv.2.1
  unfold Go.Proofs.YthkabaiamcjdbaaGreat.traitsG at h ⊢
  rw [t1]
  split at h
  ·cases h
  ·rename_i ht
   cases h
   rw [ht]
   exact ⟨_,_,rfl,hv,fun _=>⟨rfl,hq⟩⟩
  ·cases h
 | f+1,v,w,v2,q,q2,ok,hq,hv,h=>by
  obtain ⟨t1,t2⟩:=hA.trait hq (v:=v) (w:=w) hv.1 hv.2.1
  unfold Go.Proofs.YthkabaiamcjdbaaGreat.traitsG at h ⊢
  rw [t1]
  split at h
  ·cases h
  ·rename_i ht
   cases h
   rw [ht]
   exact ⟨_,_,rfl,hv,fun _=>⟨rfl,hq⟩⟩
  ·rename_i v' ht
   rw [ht]
   obtain ⟨c1,c2⟩:=t2 _ ht
   obtain ⟨o1,o2⟩:=hA.onF hn c1
   dsimp only [Option.map]
   rw [o1]
   have hv':VR d m v' ⟨v'.a,v'.t,sh d v'.q⟩:=⟨rfl,rfl,fun _=>⟨rfl,c1⟩⟩
   split at h
   ·cases h
   ·rename_i hq'
    rw [hq']
    rw [traitsG_false] at h
    cases h
    exact ⟨_,_,traitsG_false,hv',fun h=>by cases h⟩
   ·rename_i q' hq'
    rw [hq']
    exact hA.traitsG hn (o2 _ hq').1 hv' h
where
 traitsG_false {ls:List Ln} {n:Int} {f:Nat} {v:TrV} {q:Int × Int}:Go.Proofs.YthkabaiamcjdbaaGreat.traitsG ls n f v q false=.ok (v,q,false):=by cases f<;>rfl
theorem Ag.traits (hA:Ag ls ls' d m s) {n:Int} (hn:s≤n) {p:Int × Int}{v:TrV}{q:Int × Int}{ok:Bool} (hp:gq m p) (h:bG ls' n p=.ok (v,q,ok)) :
  ∃ w q3,bG ls n (sh d p)=.ok (w,q3,ok)∧VR d m v w∧(ok=true→q3=sh d q∧gq m q):=by
 obtain ⟨o1,o2⟩:=hA.onF hn hp
 have hv0:VR d m tr0 tr0:=⟨rfl,rfl,fun h=>by rw [vz] at h;cases h⟩
 unfold bG at h ⊢
 rw [o1]
 split at h
 ·cases h
 ·rename_i hq
  rw [hq]
  cases h
  exact ⟨_,_,rfl,hv0,fun h=>by cases h⟩
 ·rename_i q' hq
  rw [hq]
  exact hA.traitsG hn (o2 _ hq).1 hv0 h
end Go.Proofs.YthkabaiamcjdbaaGreat
/-
 Chapter 14: what is read at a place depends on its own lines (plain): nodes of Px.
-/

namespace Go.Proofs.YthkabaiamcjdbaaGreat
open Go.Abs
variable {ls ls':List Ln} {d m s:Int}
theorem Ag.quotedN (hA:Ag ls ls' d m s) {n c:Int} (hn:s≤n):∀ {f' f:Nat}{p p2:Int × Int}{l:List Int}{all all2:List (List Int)}{k:Int},f'≤f→gq m p→Go.Proofs.YthkabaiamcjdbaaGreat.quotedN ls' n c f' p l all=.ok (p2,all2,k) →
  Go.Proofs.YthkabaiamcjdbaaGreat.quotedN ls n c f (sh d p) l all=.ok (sh d p2,all2,k)∧gq m p2
 | f',f,p,p2,l,all,all2,k,hf,hp,h=>by
  have hp1:=hp.1;have hp2:=hp.2
  rw [j1] at h ⊢
  have e1:(sh d p).1+1=p.1+1+d:=by show p.1+d+1=_;omega
  rw [e1,hA.overI (i:=p.1+1) (by omega) (by omega)]
  split at h
  ·rename_i hc
   rw [if_pos hc]
   cases h
   exact ⟨rfl,hp⟩
  ·rename_i hc
   rw [if_neg hc]
   split at h
   ·cases h
   ·rename_i ho
    rw [if_neg ho]
    by_cases hm:p.1+1 < m
    ·rw [hA.at_ (p.1+1) (by omega) hm]
     split at h
     ·cases h
     ·rename_i hb
      rw [if_neg hb]
      cases f' with
      | zero=>cases h
      | succ f' =>
       cases f with
       | zero=>omega
       | succ f =>
        exact hA.quotedN hn (p:=(p.1+1,(ls'.getD (p.1+1).toNat (0,[])).1)) (by omega) ⟨by dsimp only;omega,hm⟩ h
    ·exfalso
     have hmm:p.1+1=m:=by omega
     rw [hmm] at h ho
     obtain ⟨-,b1,b2,-⟩:=hA.stop (by simpa using ho)
     have b3:(aE ls' m).2.all blankI=false:=by
      unfold cU at b1
      rw [Bool.or_eq_false_iff] at b1
      exact b1.1
     rw [if_pos ⟨b3,by show (aE ls' m).1≤n;omega⟩] at h
     cases h
theorem Ag.quoted (hA:Ag ls ls' d m s) {n c k:Int} (hn:s≤n) {q e:Int × Int}{t:List Int} (hq:gq m q) (h:cH ls' n c q=.ok (t,k,e)) :
  cH ls n c (sh d q)=.ok (t,k,sh d e)∧gq m e:=by
 unfold cH at h ⊢
 rw [hA.rest_add hq]
 split at h
 ·cases h
 ·rename_i p all k2 hr
  obtain ⟨a1,a2⟩:=hA.quotedN hn (f:=ls.length) (by have:=hA.ll;omega) (p:=(q.1,q.2+1)) hq hr
  rw [show ((sh d q).1,(sh d q).2+1)=sh d (q.1,q.2+1) from rfl,a1]
  dsimp only
  split at h
  ·rename_i hc
   rw [if_pos hc]
   split at h
   ·rename_i h0
    rw [if_pos h0]
    cases h
    exact ⟨rfl,a2⟩
   ·cases h
  ·rename_i hc
   rw [if_neg hc]
   cases h
   exact ⟨rfl,a2⟩
theorem Ag.nextL (hA:Ag ls ls' d m s):∀ {f f':Nat}{i:Int},0≤i→i≤m→m - i≤f→m - i≤f'→Go.Proofs.YthkabaiamcjdbaaGreat.nextL ls f (i+d)=Go.Proofs.YthkabaiamcjdbaaGreat.nextL ls' f' i+d∧i≤Go.Proofs.YthkabaiamcjdbaaGreat.nextL ls' f' i∧Go.Proofs.YthkabaiamcjdbaaGreat.nextL ls' f' i≤m
 | f,f',i,h0,h1,h2,h3=>by
  by_cases hm:i < m
  ·cases f with
   | zero=>omega
   | succ f =>
    cases f' with
    | zero=>omega
    | succ f' =>
     unfold Go.Proofs.YthkabaiamcjdbaaGreat.nextL
     rw [hA.overI h0 h1,hA.at_ i h0 hm]
     split
     ·rw [show i+d+1=i+1+d by omega]
      obtain ⟨a1,a2,a3⟩:=hA.nextL (f:=f) (f':=f') (i:=i+1) (by omega) (by omega) (by omega) (by omega)
      exact ⟨a1,by omega,a3⟩
     ·exact ⟨rfl,Int.le_refl _,by omega⟩
  ·have hmm:i=m:=by omega
   subst hmm
   have st:∀ {ls:List Ln} {j:Int},(bC ls j=false→q7 ls j s)→∀ f,Go.Proofs.YthkabaiamcjdbaaGreat.nextL ls f j=j:=fun {ls j} hs f=>by
    cases f with
    | zero=>rfl
    | succ f =>
     unfold Go.Proofs.YthkabaiamcjdbaaGreat.nextL
     refine if_neg fun ⟨ho,hb⟩=>?_
     have:=(hs ho).1
     unfold cU at this
     rw [Bool.or_eq_false_iff] at this
     have h9:(aE ls j).2.all blankI=true:=hb
     rw [this.1] at h9
     cases h9
   rw [st (j:=i) fun ho=>(hA.stop ho).2,st (j:=i+d) fun ho=>(hA.stop (by rw [← hA.over];exact ho)).1]
   exact ⟨rfl,Int.le_refl _,Int.le_refl _⟩
theorem Ag.further (hA:Ag ls ls' d m s) {n:Int} (hn:s≤n) {ib:Bool}{i:Int} (h0:0≤i) (h1:i < m) :
  (bD ls n ib (i+d)).2=(bD ls' n ib i).2∧((bD ls' n ib i).2=true→(bD ls n ib (i+d)).1=sh d (bD ls' n ib i).1∧gq m (bD ls' n ib i).1):=by
 have hl:=hA.len;have hl':=hA.len';have hd0:=hA.d0
 obtain ⟨a1,a2,a3⟩:=hA.nextL (f:=ls.length) (f':=ls'.length) (i:=i+1) (by omega) (by omega) (by omega) (by omega)
 unfold bD
 rw [show i+d+1=i+1+d by omega,a1]
 generalize Go.Proofs.YthkabaiamcjdbaaGreat.nextL ls' ls'.length (i+1)=k at a2 a3
 rw [hA.overI (by omega) a3]
 by_cases hm:k < m
 ·rw [hA.at_ k (by omega) hm]
  split
  ·exact ⟨rfl,fun h=>by cases h⟩
  ·have hp:gq m (k,(0:Int)):=⟨by dsimp only;omega,hm⟩
   rw [show (k+d,(0:Int))=sh d (k,0) from rfl,hA.past hp]
   exact ⟨rfl,fun _=>⟨rfl,hp⟩⟩
 ·have hmm:k=m:=by omega
  subst hmm
  by_cases ho:bC ls' k=true
  ·rw [if_pos (.inl ho),if_pos (.inl ho)]
   exact ⟨rfl,fun h=>by cases h⟩
  ·obtain ⟨s1,s2⟩:=hA.stop (by simpa using ho)
   have s3:(ls.getD (k+d).toNat (0,[])).1=s:=s1.2.1
   have s4:(ls'.getD k.toNat (0,[])).1=s:=s2.2.1
   rw [if_pos (.inr (by omega)),if_pos (.inr (by omega))]
   exact ⟨rfl,fun h=>by cases h⟩
theorem Ag.plainN (hA:Ag ls ls' d m s) {n:Int} (hn:s≤n) {ib:Bool}:∀ {f' f:Nat}{p e:Int × Int}{l:List Int}{all all2:List (List Int)},f'≤f→gq m p→Go.Proofs.YthkabaiamcjdbaaGreat.plainN ls' n ib f' p l all=.ok (all2,e) →
  Go.Proofs.YthkabaiamcjdbaaGreat.plainN ls n ib f (sh d p) l all=.ok (all2,sh d e)∧gq m e
 | f',f,p,e,l,all,all2,hf,hp,h=>by
  have hp1:=hp.1;have hp2:=hp.2
  rw [jJ] at h ⊢
  obtain ⟨g1,g2⟩:=hA.further hn (ib:=ib) (i:=p.1) hp1 hp2
  have e2:(bO ls ((sh d p).1,(sh d p).2+(fG l (!ib):Nat))).2=(bO ls' (p.1,p.2+(fG l (!ib):Nat))).2:=by
   have:=hA.past (p:=(p.1,p.2+((fG l (!ib):Nat):Int))) hp
   rw [OO,this]
  rw [e2,show (sh d p).1=p.1+d from rfl,g1]
  split at h
  ·cases h
  ·rename_i h1
   rw [if_neg h1]
   split at h
   ·rename_i h2
    rw [if_pos h2]
    obtain ⟨g3,g4⟩:=g2 h2.2
    cases f' with
    | zero=>cases h
    | succ f' =>
     cases f with
     | zero=>omega
     | succ f =>
      dsimp only at h ⊢
      rw [g3,hA.rest g4,show (sh d (bD ls' n ib p.1).1).1 - (p.1+d) - 1=(bD ls' n ib p.1).1.1 - p.1 - 1 by show (bD ls' n ib p.1).1.1+d - (p.1+d) - 1=_;omega]
      exact hA.plainN hn (by omega) g4 h
   ·rename_i h2
    rw [if_neg h2]
    cases h
    exact ⟨rfl,hp⟩
theorem Ag.plain (hA:Ag ls ls' d m s) {n:Int} (hn:s≤n) {ib:Bool}{p e:Int × Int}{l t:List Int} (hp:gq m p) (h:eZ ls' n ib p l=.ok (t,e)) :
  eZ ls n ib (sh d p) l=.ok (t,sh d e)∧gq m e:=by
 unfold eZ at h ⊢
 split at h
 ·cases h
 ·rename_i hr
  cases h
  obtain ⟨a1,a2⟩:=hA.plainN hn (f:=ls.length) (by have:=hA.ll;omega) hp hr
  rw [a1]
  exact ⟨rfl,a2⟩
theorem Ag.alias (hA:Ag ls ls' d m s) {p:Int × Int} (hp:gq m p) (l:List Int):i6 ls (sh d p) l=i6 ls' p l:=by
 unfold i6
 rw [hA.rest_add hp]
def sG (ls':List Ln) (d m:Int) (N N':Int × Int→NodeR):Prop:=∀ p ev e b,gq m p→Pl ls' p→N' p=.ok (ev,e,b)→N (sh d p)=.ok (ev,sh d e,b)∧gq m e
def Jf (ls':List Ln) (d m:Int) (E E':Int × Int→PartR):Prop:=∀ p ev e,gq m p→Pl ls' p→E' p=.ok (ev,e)→E (sh d p)=.ok (ev,sh d e)∧gq m e
theorem Ag.sign (hA:Ag ls ls' d m s) {p:Int × Int} (hp:gq m p) (k:(Int × Int) × Bool):lD ls (sh d p) (sh d k.1,k.2)=lD ls' p k:=by
 unfold lD
 rw [hA.loose hp,hA.isF hp]
 dsimp only
 simp only [NN]
theorem Ag.value (hA:Ag ls ls' d m s) {n:Int} (hn:s≤n) {N N':Int × Int→NodeR}{key:(Int × Int) × Bool}{c:Int}{ev:List EvV}{e:Int × Int} (hN:sG ls' d m N N') (hk:gq m key.1) (h:ee ls' n N' key c=.ok (ev,e)) :
  ee ls n N (sh d key.1,key.2) c=.ok (ev,sh d e)∧gq m e:=by
 unfold ee at h ⊢
 split at h
 ·cases h
 ·rename_i p hm
  obtain ⟨a1,a2⟩:=hA.must hn hk hm
  rw [a1]
  dsimp only
  rw [hA.sign a2]
  split at h
  ·rename_i h1
   rw [if_pos h1]
   cases h
   exact ⟨rfl,hk⟩
  ·rename_i h1
   rw [if_neg h1]
   split at h
   ·cases h
   ·rename_i q hm2
    obtain ⟨b1,b2⟩:=hA.must_add hn a2 hm2
    rw [b1]
    dsimp only
    rw [hA.isF b2,hA.isF b2]
    split at h
    ·rename_i h2
     rw [if_pos h2]
     cases h
     exact ⟨rfl,a2⟩
    ·rename_i h2
     rw [if_neg h2]
     split at h
     ·cases h
     ·rename_i hq
      cases h
      obtain ⟨c1,c2⟩:=hN _ _ _ _ b2 (dE hA.hs' hm2).2.1 hq
      rw [c1]
      exact ⟨rfl,c2⟩
theorem Ag.asked (hA:Ag ls ls' d m s) {n:Int} (hn:s≤n) {N N':Int × Int→NodeR}{p:Int × Int}{c:Int}{ev:List EvV}{e:Int × Int}{b:Bool} (hN:sG ls' d m N N') (hp:gq m p) (h:eD ls' n N' p c=.ok (ev,e,b)) :
  eD ls n N (sh d p) c=.ok (ev,sh d e,b)∧gq m e:=by
 unfold eD at h ⊢
 split at h
 ·cases h
 ·rename_i q hm2
  obtain ⟨b1,b2⟩:=hA.must_add hn hp hm2
  rw [b1]
  dsimp only
  rw [hA.isF b2,hA.isF b2,hA.loose b2]
  split at h
  ·rename_i h2
   rw [if_pos h2]
   cases h
   exact ⟨rfl,hp⟩
  ·rename_i h2
   rw [if_neg h2]
   exact hN _ _ _ _ b2 (dE hA.hs' hm2).2.1 h
def VB (d m:Int) (r r':NodeR):Prop:=∀ ev e b,r'=.ok (ev,e,b)→r=.ok (ev,sh d e,b)∧gq m e
theorem Ag.keyed (hA:Ag ls ls' d m s) {n:Int} (hn:s≤n) {N N':Int × Int→NodeR}{r r':NodeR}{c:Int}{ev:List EvV}{e:Int × Int} (hN:sG ls' d m N N') (hr:VB d m r r') (h:fh ls' n N' r' c=.ok (ev,e)) :
  fh ls n N r c=.ok (ev,sh d e)∧gq m e:=by
 unfold fh at h ⊢
 split at h
 ·cases h
 ·obtain ⟨a1,a2⟩:=hr _ _ _ rfl
  rw [a1]
  dsimp only
  split at h
  ·cases h
  ·rename_i hv
   cases h
   obtain ⟨b1,b2⟩:=hA.value hn hN a2 hv
   rw [b1]
   exact ⟨rfl,b2⟩
theorem Ag.pair (hA:Ag ls ls' d m s) {n:Int} (hn:s≤n) {N N':Int × Int→NodeR} (hN:sG ls' d m N N'):Jf ls' d m (gw ls n N) (gw ls' n N'):=by
 intro p ev e hp hpl h
 unfold gw at h ⊢
 rw [hA.loose hp]
 split at h
 ·rename_i h1
  rw [if_pos h1]
  exact hA.keyed hn hN (fun ev e b h=>hA.asked hn hN hp h) h
 ·rename_i h1
  rw [if_neg h1]
  exact hA.keyed hn hN (fun ev e b h=>hN _ _ _ _ hp hpl h) h
theorem Co {r r':PartR}{ev:List EvV}{e:Int × Int} (hr:∀ ev e,r'=.ok (ev,e)→r=.ok (ev,sh d e)∧gq m e) (h:pY r'=.ok (ev,e)):pY r=.ok (ev,sh d e)∧gq m e:=by
 obtain ⟨ev',h1,rfl⟩:=oG h
 obtain ⟨a1,a2⟩:=hr _ _ h1
 rw [a1]
 exact ⟨rfl,a2⟩
theorem Ag.item (hA:Ag ls ls' d m s) {n d0:Int}{k:Nat} (hn:s≤n) {N N' N1 N1':Int × Int→NodeR} (hN:sG ls' d m N N') (hN1:sG ls' d m N1 N1'):Jf ls' d m (eu ls n d0 k N N1) (eu ls' n d0 k N' N1'):=by
 intro p ev e hp hpl h
 unfold eu at h ⊢
 rw [hA.loose hp]
 split at h
 ·rename_i h1
  rw [if_pos h1]
  split at h
  ·cases h
  ·rename_i h2
   rw [if_neg h2]
   exact Co (fun ev e h=>hA.keyed hn hN1 (fun ev e b h=>hA.asked hn hN1 hp h) h) h
 ·rename_i h1
  rw [if_neg h1]
  split at h
  ·cases h
  ·rename_i ev1 key hk
   obtain ⟨a1,a2⟩:=hN _ _ _ _ hp hpl hk
   rw [a1]
   dsimp only
   split at h
   ·cases h
   ·rename_i q hm
    obtain ⟨b1,b2⟩:=hA.must hn a2 hm
    rw [b1]
    dsimp only
    have hkb:ql ls (sh d p) (sh d q) (sh d key.1,key.2)=ql ls' p q key:=by
     unfold ql
     rw [hA.sign b2]
     have e1:((sh d key.1).1=(sh d p).1)=(key.1.1=p.1):=propext (by show (_+d=_+d)↔_;omega)
     have e2:((sh d q).1=(sh d p).1)=(q.1=p.1):=propext (by show (_+d=_+d)↔_;omega)
     simp only [e1,e2]
     rfl
    rw [hkb]
    split at h
    ·rename_i h2
     rw [if_pos h2]
     cases h
     exact ⟨rfl,a2⟩
    ·rename_i h2
     rw [if_neg h2]
     split at h
     ·cases h
     ·rename_i h3
      rw [if_neg h3]
      exact Co (fun ev e h=>hA.keyed hn hN1 (r':=.ok (ev1,key)) (fun ev e b h=>by cases h;exact ⟨rfl,a2⟩) h) h
def UX (m:Int) (p:Int × Int):Nat:=((m - p.1) * 5000+4999 - min p.2 4999).toNat
theorem Ag.entries (hA:Ag ls ls' d m s) {n:Int} (hn:s≤n) {E E':Int × Int→PartR}{c:Int} (hE:Jf ls' d m E E') (hG:rO ls' E'):∀ {f' f:Nat}{q:Int × Int}{acc ev:List EvV}{e:Int × Int},UX m q < f→gq m q→Pl ls' q→cy ls' n E' c f' q acc=.ok (ev,e) →
  cy ls n E c f (sh d q) acc=.ok (ev,sh d e)∧gq m e
 | 0,_,_,_,_,_,_,_,_,h=>by cases h
 | f'+1,0,_,_,_,_,hf,_,_,_=>by omega
 | f'+1,f+1,q,acc,ev,e,hf,hq,hpl,h=>by
  unfold cy at h ⊢
  rw [hA.isF hq]
  split at h
  ·rename_i h1
   rw [if_pos h1]
   cases h
   exact ⟨rfl,hq⟩
  ·rename_i h1
   rw [if_neg h1]
   split at h
   ·cases h
   ·rename_i ev1 e1 he
    obtain ⟨a1,a2⟩:=hE _ _ _ hq hpl he
    obtain ⟨g1,g2,-⟩:=hG _ _ _ hpl he
    rw [a1]
    dsimp only
    split at h
    ·cases h
    ·rename_i q2 hm
     obtain ⟨b1,b2⟩:=hA.must hn a2 hm
     obtain ⟨b3,b4,b5,-⟩:=dE hA.hs' hm
     rw [b1]
     dsimp only
     rw [hA.isF b2,hA.isF b2]
     split at h
     ·rename_i h2
      rw [if_pos h2]
      split at h
      ·rename_i h3
       rw [if_pos h3]
       cases h
       exact ⟨rfl,b2⟩
      ·cases h
     ·rename_i h2
      rw [if_neg h2]
      split at h
      ·cases h
      ·rename_i q3 hm3
       obtain ⟨c1,c2⟩:=hA.must_add hn b2 hm3
       obtain ⟨c3,c4,-,-⟩:=dE hA.hs' hm3
       rw [c1]
       dsimp only
       refine hA.entries hn hE hG ?_ c2 c4 h
       unfold Le2 at g1 b3 c3
       unfold Pl at hpl b4 c4
       unfold gq at hq c2
       unfold UX at hf ⊢
       dsimp only at c3
       omega
theorem Ag.coll (hA:Ag ls ls' d m s) {n d0 c:Int}{k:Nat} (hn:s≤n) {N N':Nat→Int × Int→NodeR}{v w:TrV}{p e:Int × Int}{ev:List EvV} (hN:∀ k,sG ls' d m (N k) (N' k)) (hG:∀ k,eO ls' (N' k)) (hv:VR d m v w) (hp:gq m p) (h:gZ ls' n d0 k N' p c v=.ok (ev,e)) :
  gZ ls n d0 k N (sh d p) c w=.ok (ev,sh d e)∧gq m e:=by
 unfold gZ at h ⊢
 split at h
 ·cases h
 ·rename_i h1
  rw [if_neg h1]
  split at h
  ·cases h
  ·rename_i q hm
   obtain ⟨b1,b2⟩:=hA.must_add hn hp hm
   obtain ⟨b3,b4,-,-⟩:=dE hA.hs' hm
   rw [b1]
   dsimp only
   split at h
   ·cases h
   ·rename_i ev1 e1 he
    have hE:Jf ls' d m (if c=123 then gw ls n (N (k+1)) else eu ls n d0 (k+1) (N (k+1)) (N (k+2))) (if c=123 then gw ls' n (N' (k+1)) else eu ls' n d0 (k+1) (N' (k+1)) (N' (k+2))):=by
     split
     ·exact hA.pair hn (hN _)
     ·exact hA.item hn (hN _) (hN _)
    have hEG:rO ls' (if c=123 then gw ls' n (N' (k+1)) else eu ls' n d0 (k+1) (N' (k+1)) (N' (k+2))):=by
     split
     ·exact oK hA.hs' (hG _)
     ·exact oN hA.hs' (hG _) (hG _)
    obtain ⟨c1,c2⟩:=hA.entries hn (f:=mu (sh d p)+1) hE hEG (by
     have:=hA.len;have:=hA.hs.1
     unfold Le2 at b3
     unfold Pl at b4
     unfold gq at hp b2
     unfold UX mu sh
     dsimp only at b3 ⊢
     omega) b2 b4 he
    rw [c1]
    dsimp only
    cases h
    obtain ⟨v1,v2,-⟩:=hv
    unfold fe
    rw [v1,v2]
    exact ⟨rfl,c2⟩
theorem Ag.body (hA:Ag ls ls' d m s) {n d0:Int}{bk:Bool}{k:Nat} (hn:s≤n) {N N':Nat→Int × Int→NodeR}{v w:TrV}{q q' e:Int × Int}{l:List Int}{ev:List EvV}{b:Bool} (hN:∀ k,sG ls' d m (N k) (N' k)) (hG:∀ k,eO ls' (N' k)) (hv:VR d m v w) (hq:l≠[]→q'=sh d q∧gq m q) (h:lE ls' n d0 bk N' k v q l=.ok (ev,e,b)) :
  lE ls n d0 bk N k w q' l=.ok (ev,sh d e,b)∧gq m e:=by
 obtain ⟨v1,v2,v3⟩:=hv
 have hany:iD w=iD v:=by unfold iD;rw [v1,v2]
 have hl:∀ c,bV l c=true→l≠[]:=fun c h h0=>by subst h0;cases h
 unfold lE at h ⊢
 rw [hany]
 unfold j8 at h ⊢
 rw [v1,v2]
 split at h
 ·rename_i h1
  rw [if_pos h1]
  obtain ⟨rfl,hq2⟩:=hq (hl _ h1)
  split at h
  ·cases h
  ·rename_i h2
   rw [if_neg h2,hA.alias hq2]
   split at h
   ·rename_i h3
    rw [if_pos h3]
    cases h
    exact ⟨rfl,hq2⟩
   ·cases h
 ·rename_i h1
  rw [if_neg h1]
  split at h
  ·rename_i h2
   rw [if_pos h2]
   obtain ⟨rfl,hq2⟩:=hq (by rcases h2 with h2|h2<;>exact hl _ h2)
   split at h
   ·cases h
   ·rename_i hr
    cases h
    obtain ⟨a1,a2⟩:=hA.quoted hn hq2 hr
    rw [a1]
    exact ⟨rfl,a2⟩
  ·rename_i h2
   rw [if_neg h2]
   split at h
   ·rename_i h3
    rw [if_pos h3]
    obtain ⟨rfl,hq2⟩:=hq (by rcases h3 with h3|h3<;>exact hl _ h3)
    split at h
    ·cases h
    ·rename_i hr
     cases h
     obtain ⟨a1,a2⟩:=hA.coll hn hN hG ⟨v1,v2,v3⟩ hq2 hr
     rw [a1]
     exact ⟨rfl,a2⟩
   ·rename_i h3
    rw [if_neg h3]
    split at h
    ·rename_i h4
     rw [if_pos h4]
     obtain ⟨rfl,hq2⟩:=hq (by intro h0;subst h0;exact absurd h4.1 (by simp))
     split at h
     ·cases h
     ·rename_i hr
      cases h
      obtain ⟨a1,a2⟩:=hA.plain hn hq2 hr
      rw [a1]
      exact ⟨rfl,a2⟩
    ·rename_i h4
     rw [if_neg h4]
     split at h
     ·rename_i h5
      rw [if_pos h5]
      cases h
      obtain ⟨g1,g2⟩:=v3 h5
      rw [g1]
      exact ⟨rfl,g2⟩
     ·cases h
theorem Ag.nodeS (hA:Ag ls ls' d m s) {n d0:Int}{bk:Bool}{k:Nat} (hn:s≤n) {N N':Nat→Int × Int→NodeR} (hN:∀ k,sG ls' d m (N k) (N' k)) (hG:∀ k,eO ls' (N' k)):sG ls' d m (nodeS ls n d0 bk N k) (Go.Proofs.YthkabaiamcjdbaaGreat.nodeS ls' n d0 bk N' k):=by
 intro p ev e b hp hpl h
 unfold Go.Proofs.YthkabaiamcjdbaaGreat.nodeS at h ⊢
 split at h
 ·cases h
 ·rename_i v q ok ht
  obtain ⟨w,q3,a1,a2,a3⟩:=hA.traits hn hp ht
  rw [a1]
  dsimp only
  have e1:(if ok=true then aF ls q3 else [])=(if ok=true then aF ls' q else []):=by
   cases ok
   ·rfl
   ·obtain ⟨rfl,hq⟩:=a3 rfl
    exact hA.rest hq
  rw [e1]
  refine hA.body hn hN hG a2 (fun hl=>?_) h
  cases ok
  ·exact absurd rfl hl
  ·exact a3 rfl
theorem Ag.nodeF (hA:Ag ls ls' d m s) {n d0:Int}{bk:Bool} (hn:s≤n):∀ (f k:Nat),sG ls' d m (nodeF ls n d0 bk f k) (Go.Proofs.YthkabaiamcjdbaaGreat.nodeF ls' n d0 bk f k)
 | 0,k=>hA.nodeS hn (fun k p ev e b _ _ h=>by cases h) (fun k p ev e b _ h=>by cases h)
 | f+1,k=>hA.nodeS hn (fun k=>hA.nodeF hn f k) (fun k=>cl hA.hs' f k)
theorem Ag.whole (hA:Ag ls ls' d m s) {n d0:Int}{bk b:Bool}{p e:Int × Int}{ev:List EvV} (hn:s≤n) (hp:gq m p) (hpl:Pl ls' p) (h:cf ls' n d0 bk p=.ok (ev,e,b)):cf ls n d0 bk (sh d p)=.ok (ev,sh d e,b)∧gq m e :=
 hA.nodeF hn 200 0 p ev e b hp hpl h
theorem lk {n:Int}{t:List Int} (h:¬bB n t=0):cU t=false∧t≠[]:=by
 unfold bB at h
 split at h
 ·rename_i h1
  obtain ⟨-,h2,-⟩:=h1
  cases t with
  | nil=>simp at h2
  | cons c t =>
   have hc:c=45∨c=46:=by
    have e:(c::t).getD 0 0=c:=rfl
    rw [e] at h
    split at h
    ·left;assumption
    ·split at h
     ·right;assumption
     ·exact absurd rfl h
   refine ⟨?_,by simp⟩
   unfold cU
   rcases hc with rfl|rfl
   ·rw [List.all_cons,List.dropWhile_cons]
    have:blankI 45=false:=by decide
    rw [this];simp
   ·rw [List.all_cons,List.dropWhile_cons]
    have:blankI 46=false:=by decide
    rw [this];simp
 ·exact absurd rfl h
theorem vd {ls:List Ln}{j:Int} (h:bC ls j=true):¬(j < ls.length∧cU (aE ls j).2=true):=by
 rintro ⟨h1,h2⟩
 unfold bC at h
 rw [decide_eq_false (by omega),Bool.false_or] at h
 have h3:¬bB (aE ls j).1 (aE ls j).2=0:=by simpa using h
 rw [(lk h3).1] at h2
 cases h2
theorem Ag.alone (hA:Ag ls ls' d m s) {i:Int} (h0:0≤i) (h1:i < m):bN ls (i+d)=bN ls' i:=by
 have h2:=hA.len;have h3:=hA.len';have h4:=hA.d0
 unfold bN
 rw [if_pos (by omega),if_pos (by omega),hA.at_ i h0 h1]
theorem Ag.restP (hA:Ag ls ls' d m s) {i c:Int} (h0:0≤i) (h1:i < m):restP ls (i+d) c=Go.Proofs.YthkabaiamcjdbaaGreat.restP ls' i c:=by
 unfold Go.Proofs.YthkabaiamcjdbaaGreat.restP iM lh
 rw [hA.line h0 h1]
theorem Ag.signP (hA:Ag ls ls' d m s) {i c x:Int} (h0:0≤i) (h1:i < m):signP ls (i+d) c x=Go.Proofs.YthkabaiamcjdbaaGreat.signP ls' i c x:=by
 unfold Go.Proofs.YthkabaiamcjdbaaGreat.signP
 rw [hA.line h0 h1]
theorem Ag.asks (hA:Ag ls ls' d m s) {i c:Int} (h0:0≤i) (h1:i < m):qb ls (i+d) c=qb ls' i c:=by
 unfold qb
 rw [hA.signP h0 h1,hA.alone h0 h1]
theorem Ag.props (hA:Ag ls ls' d m s) {i c:Int} (h0:0≤i) (h1:i < m):du ls (i+d) c=du ls' i c:=by
 unfold du
 rw [hA.alone h0 h1]
theorem Ag.nextB (hA:Ag ls ls' d m s):∀ {f f':Nat}{i:Int},0≤i→i≤m→m - i≤f→m - i≤f'→nextB ls f (i+d)=Go.Proofs.YthkabaiamcjdbaaGreat.nextB ls' f' i+d∧i≤Go.Proofs.YthkabaiamcjdbaaGreat.nextB ls' f' i∧Go.Proofs.YthkabaiamcjdbaaGreat.nextB ls' f' i≤m
 | f,f',i,h0,h1,h2,h3=>by
  have hl:=hA.len;have hl':=hA.len';have hd0:=hA.d0
  by_cases hm:i < m
  ·cases f with
   | zero=>omega
   | succ f =>
    cases f' with
    | zero=>omega
    | succ f' =>
     unfold Go.Proofs.YthkabaiamcjdbaaGreat.nextB
     rw [hA.line h0 hm]
     by_cases hb:cU (aE ls' i).2=true
     ·rw [if_pos ⟨by omega,hb⟩,if_pos ⟨by omega,hb⟩,show i+d+1=i+1+d by omega]
      obtain ⟨a1,a2,a3⟩:=hA.nextB (f:=f) (f':=f') (i:=i+1) (by omega) (by omega) (by omega) (by omega)
      exact ⟨a1,by omega,a3⟩
     ·rw [if_neg (fun h=>hb h.2),if_neg (fun h=>hb h.2)]
      exact ⟨rfl,Int.le_refl _,by omega⟩
  ·have hmm:i=m:=by omega
   subst hmm
   have st:∀ {ls:List Ln} {j:Int},(bC ls j=false→q7 ls j s)→∀ f,Go.Proofs.YthkabaiamcjdbaaGreat.nextB ls f j=j:=fun {ls j} hs f=>by
    cases f with
    | zero=>rfl
    | succ f =>
     unfold Go.Proofs.YthkabaiamcjdbaaGreat.nextB
     refine if_neg fun ⟨ho,hb⟩=>?_
     cases h9:bC ls j
     ·rw [(hs h9).1] at hb;cases hb
     ·exact vd h9 ⟨ho,hb⟩
   rw [st (j:=i) fun ho=>(hA.stop ho).2,st (j:=i+d) fun ho=>(hA.stop (by rw [← hA.over];exact ho)).1]
   exact ⟨rfl,Int.le_refl _,Int.le_refl _⟩
theorem Ag.nextP (hA:Ag ls ls' d m s) {i k:Int}{b:Bool} (h0:0≤i) (h1:i≤m) (h:nextP ls' i=.ok (k,b)) :
  nextP ls (i+d)=.ok (k+d,b)∧i≤k∧k≤m∧(b=true→k=m→bC ls' m=false):=by
 have hl:=hA.len;have hl':=hA.len';have hd0:=hA.d0
 obtain ⟨a1,a2,a3⟩:=hA.nextB (f:=ls.length) (f':=ls'.length) h0 h1 (by omega) (by omega)
 unfold Go.Proofs.YthkabaiamcjdbaaGreat.nextP at h ⊢
 rw [a1]
 generalize Go.Proofs.YthkabaiamcjdbaaGreat.nextB ls' ls'.length i=k' at a2 a3 h
 rw [hA.overI (by omega) a3]
 split at h
 ·rename_i ho
  rw [if_pos ho]
  cases h
  exact ⟨rfl,a2,a3,fun h=>by cases h⟩
 ·rename_i ho
  rw [if_neg ho]
  have ho':bC ls' k'=false:=by simpa using ho
  split at h
  ·cases h
  ·rename_i h9
   cases h
   have e:¬(aE ls (k+d)).2.getD 0 0=9:=by
    by_cases hm:k < m
    ·rw [hA.line (by omega) hm];exact h9
    ·obtain rfl:k=m:=by omega
     exact (hA.stop ho').1.2.2
   rw [if_neg e]
   exact ⟨rfl,a2,a3,fun _ h=>by rw [← h];exact ho'⟩
theorem Ag.ind (hA:Ag ls ls' d m s) {k:Int} (h0:0≤k) (h1:k≤m) (h:k=m→bC ls' m=false):(aE ls (k+d)).1=(aE ls' k).1∧(k=m→(aE ls' k).1=s):=by
 by_cases hm:k < m
 ·rw [hA.line h0 hm];exact ⟨rfl,fun h=>by omega⟩
 ·obtain rfl:k=m:=by omega
  obtain ⟨s1,s2⟩:=hA.stop (h rfl)
  exact ⟨s1.2.1.trans s2.2.1.symm,fun _=>s2.2.1⟩
theorem Ag.furP (hA:Ag ls ls' d m s) {i c k:Int}{b:Bool} (h0:0≤i) (h1:i≤m) (h:furP ls' i c=.ok (k,b)) :
  furP ls (i+d) c=.ok (k+d,b)∧i≤k∧k≤m∧(b=true→k=m→c=s∧bC ls' m=false):=by
 unfold Go.Proofs.YthkabaiamcjdbaaGreat.furP at h ⊢
 split at h
 ·cases h
 ·rename_i k' ok hk
  obtain ⟨a1,a2,a3,a4⟩:=hA.nextP h0 h1 hk
  rw [a1]
  dsimp only
  cases ok
  ·rw [if_pos (.inl rfl)] at h ⊢
   cases h
   exact ⟨rfl,Int.le_refl _,h1,fun h=>by cases h⟩
  ·obtain ⟨b1,b2⟩:=hA.ind (by omega) a3 (a4 rfl)
   rw [b1]
   split at h
   ·rename_i h2
    rw [if_pos h2]
    cases h
    exact ⟨rfl,Int.le_refl _,h1,fun h=>by cases h⟩
   ·rename_i h2
    rw [if_neg h2]
    split at h
    ·cases h
    ·rename_i h3
     rw [if_neg h3]
     cases h
     refine ⟨rfl,a2,a3,fun _ h=>⟨?_,a4 rfl h⟩⟩
     have:=b2 h
     have h4:¬(aE ls' k).1 < c:=fun h=>h2 (.inr h)
     omega
def jF (n:Int) (l:List Ln):Prop:=∀ x,l.head? = some x→x.2≠[]∧(¬bB x.1 x.2=0∨x.1≤n)
theorem oe {n w:Int}{b:List Ln} (h:jF n b):(de w b).1=w∧(de w b).2.getD n≤n:=by
 cases b with
 | nil=>exact ⟨rfl,Int.le_refl _⟩
 | cons x b =>
  obtain ⟨h1,h2⟩:=h x rfl
  unfold de
  rw [if_neg h1]
  refine ⟨rfl, ?_⟩
  dsimp only
  split
  ·show x.1≤n
   rcases h2 with h2|h2
   ·contradiction
   ·exact h2
  ·exact Int.le_refl _
theorem vj {n:Int}{b b':List Ln} (h:jF n b) (h':jF n b'):∀ (a:List Ln) (w:Int),de w (a++b)=de w (a++b')∨((de w (a++b)).1=(de w (a++b')).1∧(de w (a++b)).2.getD n≤n∧(de w (a++b')).2.getD n≤n)
 | [],w=>by
  obtain ⟨h1,h2⟩:=oe (w:=w) h
  obtain ⟨h3,h4⟩:=oe (w:=w) h'
  exact .inr ⟨h1.trans h3.symm,h2,h4⟩
 | x::a,w=>by
  simp only [List.cons_append]
  unfold de
  split
  ·exact vj h h' a _
  ·exact .inl rfl
theorem Fv {n k:Int}{a b b':List Ln} (h:jF n b) (h':jF n b'):iG (a++b) k n=iG (a++b') k n∧((iG (a++b) k n).2=0→n < (iG (a++b) k n).1):=by
 unfold iG
 split
 ·exact ⟨rfl,fun _=>by show n < max 0 n+min k 1099511627776;omega⟩
 ·rcases vj h h' a 0 with e|⟨e1,e2,e3⟩
  ·rw [e]
   refine ⟨rfl, ?_⟩
   split
   ·intro _;dsimp only;omega
   ·split
    ·intro h;cases h
    ·intro _;dsimp only;omega
  ·rw [if_pos e2,if_pos e3,e1]
   exact ⟨rfl,fun _=>by dsimp only;omega⟩
theorem u7 {n k:Int}{b b':List Ln} (h:jF n b) (h':jF n b') (hk:n < k):∀ a:List Ln,dC k (a++b)=dC k (a++b')∧(dC k (a++b)).length≤a.length
 | []=>by
  have e:∀ {b:List Ln},jF n b→dC k b=[]:=fun {b} h=>by
   cases b with
   | nil=>rfl
   | cons x b =>
    obtain ⟨h1,h2⟩:=h x rfl
    unfold dC
    rw [List.takeWhile_cons]
    have:mA k x=true:=by
     unfold mA
     refine decide_eq_true ?_
     rcases h2 with h2|h2
     ·exact .inr h2
     ·exact .inl ⟨h1,by omega⟩
    rw [this]
    rfl
  rw [List.nil_append,List.nil_append,e h,e h']
  exact ⟨rfl,Nat.le_refl _⟩
 | x::a=>by
  obtain ⟨i1,i2⟩:=u7 h h' hk a
  unfold dC at i1 i2 ⊢
  simp only [List.cons_append,List.takeWhile_cons]
  split
  ·simp only [List.map_cons,List.length_cons]
   rw [i1] at i2 ⊢
   exact ⟨rfl,by omega⟩
  ·exact ⟨rfl,by simp⟩
theorem Ar {n:Int}{a b b':List Ln} (h:jF (min (max (-1) n) 1099511627776) b) (h':jF (min (max (-1) n) 1099511627776) b') (hd:HD) :
  cE (a++b) hd n=cE (a++b') hd n∧0≤(cE (a++b) hd n).2.1∧(cE (a++b) hd n).2.1≤a.length:=by
 unfold cE
 obtain ⟨e1,e2⟩:=Fv (k:=hd.2.2) (a:=a) h h'
 rw [e1] at e2 ⊢
 split
 ·exact ⟨rfl,Int.le_refl _,by dsimp only;omega⟩
 ·rename_i h0
  obtain ⟨r1,r2⟩:=u7 h h' (e2 (by simpa using h0)) a
  rw [r1] at r2 ⊢
  exact ⟨rfl,by dsimp only;omega,by dsimp only;omega⟩
theorem Ag.drop (hA:Ag ls ls' d m s) {i:Int} (h0:0≤i) (h1:i≤m):ls.drop (i+d).toNat=(ls'.take m.toNat).drop i.toNat++ls.drop (m+d).toNat:=by
 have hl:=hA.len;have hl':=hA.len';have hd:=hA.d0
 refine List.ext_getElem? fun k=>?_
 rw [List.getElem?_drop]
 have hlen:((ls'.take m.toNat).drop i.toNat).length=m.toNat - i.toNat:=by
  rw [List.length_drop,List.length_take];omega
 by_cases hk:k < m.toNat - i.toNat
 ·rw [List.getElem?_append_left (by omega),List.getElem?_drop,List.getElem?_take]
  rw [if_pos (by omega)]
  have h2:=hA.at_ (i+k) (by omega) (by omega)
  rw [show (i+(k:Int)+d).toNat=(i+d).toNat+k by omega,show (i+(k:Int)).toNat=i.toNat+k by omega] at h2
  rw [List.getD_eq_getElem?_getD,List.getD_eq_getElem?_getD,List.getElem?_eq_getElem (by omega),List.getElem?_eq_getElem (by omega)] at h2
  rw [List.getElem?_eq_getElem (by omega),List.getElem?_eq_getElem (by omega)]
  exact congrArg Option.some h2
 ·rw [List.getElem?_append_right (by omega),List.getElem?_drop]
  congr 1
  omega
theorem uY {ls:List Ln}{j s n:Int} (h0:0≤j) (hs:Small ls) (hn:s≤n) (h:bC ls j=false→q7 ls j s):jF (min (max (-1) n) 1099511627776) (ls.drop j.toNat):=by
 intro x hx
 rw [List.head?_drop] at hx
 have e:aE ls j=x:=by show ls.getD _ _=x;rw [List.getD_eq_getElem?_getD,hx];rfl
 have hlt:j.toNat < ls.length:=by
  refine Nat.lt_of_not_le fun h=>?_
  rw [List.getElem?_eq_none h] at hx
  cases hx
 cases ho:bC ls j
 ·obtain ⟨b1,b2,-⟩:=h ho
  rw [e] at b1 b2
  have:=hs.at_ hlt
  have e':ls.getD j.toNat (0,[])=x:=e
  rw [e'] at this
  refine ⟨fun h=>?_,.inr (by omega)⟩
  rw [h] at b1
  cases b1
 ·unfold bC at ho
  rw [decide_eq_false (by omega),Bool.false_or] at ho
  have h3:¬bB (aE ls j).1 (aE ls j).2=0:=by simpa using ho
  rw [e] at h3
  exact ⟨(lk h3).2,.inl h3⟩
def Dh (d m:Int) (r r':PR):Prop:=∀ ev k,r'=.ok (ev,k)→r=.ok (ev,k+d)∧0≤k∧k≤m
theorem Ag.text (hA:Ag ls ls' d m s) {n i:Int}{l:List Int}{t:TP} (hn:s≤n) (h0:0≤i) (h1:i < m):Dh d m (ja ls (i+d) l n t) (ja ls' i l n t):=by
 intro ev k h
 have hd:=hA.d0;have hl':=hA.len';have hm0:=hA.m0
 have s1:jF (min (max (-1) n) 1099511627776) (ls.drop (m+d).toNat):=uY (by omega) hA.hs hn fun ho=>(hA.stop (by rw [← hA.over];exact ho)).1
 have s2:jF (min (max (-1) n) 1099511627776) (ls'.drop m.toNat):=uY (by omega) hA.hs' hn fun ho=>(hA.stop ho).2
 have e1:=hA.drop (i:=i+1) (by omega) (by omega)
 have e2:ls'.drop (i+1).toNat=(ls'.take m.toNat).drop (i+1).toNat++ls'.drop m.toNat:=by
  rw [← List.drop_append_of_le_length (by rw [List.length_take];omega),List.take_append_drop]
 obtain ⟨b1,b2,b3⟩:=Ar (a:=(ls'.take m.toNat).drop (i+1).toNat) s1 s2 (fp l).1
 have hlen:((ls'.take m.toNat).drop (i+1).toNat).length=m.toNat - (i+1).toNat:=by
  rw [List.length_drop,List.length_take];omega
 rw [hlen] at b3
 rw [← e1,show i+1+d=i+d+1 by omega] at b1
 rw [← e1,show i+1+d=i+d+1 by omega] at b2
 rw [← e1,show i+1+d=i+d+1 by omega] at b3
 rw [← e2] at b1
 unfold ja at h ⊢
 rw [b1] at b2 b3 ⊢
 split at h
 ·cases h
 ·rename_i h2
  rw [if_neg h2]
  split at h
  ·cases h
  ·rename_i h3
   rw [if_neg h3]
   cases h
   refine ⟨?_,by omega,by omega⟩
   rw [show i+d+1+(cE (ls'.drop (i+1).toNat) (fp l).1 n).2.1=i+1+(cE (ls'.drop (i+1).toNat) (fp l).1 n).2.1+d by omega]
theorem Ag.beh (hA:Ag ls ls' d m s) {i c:Int}{ev:List EvV} (h0:0≤i) (h1:i < m):Dh d m (vH ls (i+d) c ev) (vH ls' i c ev):=by
 intro ev k h
 unfold vH at h ⊢
 rw [hA.restP h0 h1]
 split at h
 ·cases h
 ·rename_i h2
  rw [if_neg h2]
  cases h
  exact ⟨by rw [show i+d+1=i+1+d by omega],by omega,by omega⟩
theorem Ag.leaf (hA:Ag ls ls' d m s) {i c n d0:Int}{t:TP} (hn:s≤n) (h0:0≤i) (h1:i < m) (hr:0 < (Go.Proofs.YthkabaiamcjdbaaGreat.restP ls' i c).1.length):Dh d m (gv ls (i+d) c n d0 t) (gv ls' i c n d0 t):=by
 intro ev k h
 have hl':=hA.len'
 obtain ⟨-,-,-,r4⟩:=dG (c:=c) hA.hs' (i:=i) (by omega)
 unfold gv at h ⊢
 rw [hA.restP h0 h1]
 split at h
 ·rename_i h2
  rw [if_pos h2]
  exact hA.text hn h0 h1 ev k h
 ·rename_i h2
  rw [if_neg h2]
  split at h
  ·cases h
  ·rename_i hw
   obtain ⟨a1,a2⟩:=hA.whole hn (p:=(i,(Go.Proofs.YthkabaiamcjdbaaGreat.restP ls' i c).2)) ⟨h0,h1⟩ (r4 hr) hw
   rw [show (i+d,(Go.Proofs.YthkabaiamcjdbaaGreat.restP ls' i c).2)=sh d (i,(Go.Proofs.YthkabaiamcjdbaaGreat.restP ls' i c).2) from rfl,a1]
   dsimp only
   split at h
   ·cases h
   ·rename_i hp
    try rw [hp]
    exact hA.beh a2.1 a2.2 ev k h
theorem Ga {ls:List Ln}{i c c2:Int}{t:TP} (hs:Small ls) (hc:0≤c∧c≤1000000000) (h:du ls i c=.ok (t,c2)):c≤c2∧(c2=c∨c2≤4000):=by
 refine ⟨?_,(A7 hs hc h).2.2⟩
 have hsa:=dz (i:=i) hs
 unfold du at h
 split at h
 ·cases h
 ·rename_i v q ok ht
  cases h
  have h3:=(ou hsa (PlW.of0 (by omega) hc.1) ht).2.2
  split
  ·rename_i ha
   obtain ⟨⟨a1,a2,a3,a4⟩,a5,-⟩:=h3 ha
   have:(bN ls i).length≤1:=by unfold bN;split<;>simp
   unfold Le2 at a5
   dsimp only at a5
   omega
  ·exact Int.le_refl _
theorem Js {ls:List Ln}{i c k:Int} (hs:Small ls) (h:kL (bN ls i) c=some k):c≤k∧k≤4000:=by
 have hsa:=dz (i:=i) hs
 obtain ⟨h1,h2,h3⟩:=vK hsa h
 refine ⟨?_,h3⟩
 unfold kL at h
 split at h
 ·cases h
 ·split at h
  ·cases h
  ·rename_i hw
   obtain ⟨a1,a2,-,-⟩:=cl hsa 200 0 _ _ _ _ h1 hw
   split at h
   ·cases h
    have:(bN ls i).length≤1:=by unfold bN;split<;>simp
    have h4:=B5 (ls:=bN ls i) (p:=‹Int × Int›)
    unfold Le2 at a1
    unfold Pl at a2
    unfold bO
    dsimp only at a1 ⊢
    omega
   ·cases h
def ND (ls ls':List Ln) (d m s:Int):Prop:=bC ls' m=false→signP ls (m+d) s 45=false∧signP ls' m s 45=false
def Ly (ls ls':List Ln) (d m s:Int) (S S':Int→Int→Bool→TP→PR):Prop:=∀ i c b t,0≤i→i < m→(s < c∨(c=s∧ND ls ls' d m s))→c≤4000→Dh d m (S (i+d) c b t) (S' i c b t)
def Lz (d m s:Int) (M M':Int→Int→TP→PR):Prop:=∀ i c t,0≤i→i < m→s < c→c≤4000→Dh d m (M (i+d) c t) (M' i c t)
def T8 (d m s:Int) (R R':Int→Int→Bool→TP→PR):Prop:=∀ i c b t,0≤i→i < m→s < c→c≤100000→Dh d m (R (i+d) c b t) (R' i c b t)
def CZ (ls ls':List Ln) (d m s:Int) (N N':Int→Int→Int→Bool→PR):Prop:=∀ i c n b,0≤i→i < m→s < c→c≤100000→s≤n→n≤4000→(n=s→b=true→ND ls ls' d m s)→Dh d m (N (i+d) c n b) (N' i c n b)
theorem Ag.at (hA:Ag ls ls' d m s) {S S':Int→Int→Bool→TP→PR}{M M':Int→Int→TP→PR}{R R':Int→Int→Bool→TP→PR}{d0 n i c:Int}{lead:Bool}{t:TP} (hn:s≤n) (hS:Ly ls ls' d m s S S') (hM:Lz d m s M M') (hR:T8 d m s R R') (h0:0≤i) (h1:i < m) (hc:s < c) (hc2:c≤4000) :
  Dh d m (zx ls S M R d0 n (i+d) c lead t) (zx ls' S' M' R' d0 n i c lead t):=by
 intro ev k h
 have hs0:=hA.s0
 unfold zx at h ⊢
 rw [hA.signP h0 h1,hA.asks h0 h1,hA.props h0 h1]
 split at h
 ·rename_i h2
  rw [if_pos h2]
  split at h
  ·rename_i h3
   rw [if_pos h3]
   exact hS i c false t h0 h1 (.inl hc) hc2 ev k h
  ·cases h
 ·rename_i h2
  rw [if_neg h2]
  split at h
  ·rename_i h3
   rw [if_pos h3]
   split at h
   ·rename_i h4
    rw [if_pos h4]
    exact hM i c t h0 h1 hc hc2 ev k h
   ·cases h
  ·rename_i h3
   rw [if_neg h3]
   split at h
   ·cases h
   ·rename_i more c2 hp
    obtain ⟨p1,p2⟩:=Ga hA.hs' (by omega) hp
    try rw [hp]
    try dsimp only
    split at h
    ·cases h
    ·rename_i t2 hj
     try rw [hj]
     try dsimp only
     rw [hA.restP h0 h1]
     split at h
     ·rename_i h4
      rw [if_pos h4]
      exact hA.leaf hn h0 h1 h4 ev k h
     ·rename_i h4
      rw [if_neg h4]
      exact hR i c2 lead t2 h0 h1 (by omega) (by omega) ev k h
theorem Ag.ents (hA:Ag ls ls' d m s) {N N':Int→Int→Int→Bool→PR}{c:Int}{pair:Bool} (hN:CZ ls ls' d m s N N') (hc:s < c∨(c=s∧ND ls ls' d m s)) (hc2:c≤4000):∀ {f' f:Nat}{i:Int}{acc:List EvV},f'≤f→0≤i→i < m→Dh d m (e9 ls N c pair f (i+d) acc) (e9 ls' N' c pair f' i acc)
 | 0,_,_,_,_,_,_=>fun ev k h=>by cases h
 | f'+1,0,_,_,hf,_,_=>by omega
 | f'+1,f+1,i,acc,hf,h0,h1=>fun ev k h=>by
  rw [e9] at h ⊢
  split at h
  ·cases h
  ·rename_i ev1 i2 hn
   obtain ⟨a1,a2,a3⟩:=hN i (c+1) c false h0 h1 (by omega) (by omega) (by omega) hc2 (fun _ h=>by cases h) _ _ hn
   rw [a1]
   dsimp only
   split at h
   ·cases h
   ·rename_i k' ok hf'
    obtain ⟨b1,b2,b3,b4⟩:=hA.furP a2 a3 hf'
    rw [b1]
    dsimp only
    cases ok
    ·rw [if_pos rfl] at h ⊢
     cases h
     exact ⟨rfl,a2,a3⟩
    ·rw [if_neg (by simp)] at h ⊢
     by_cases hm:k' < m
     ·rw [hA.signP (by omega) hm]
      split at h
      ·rename_i h2
       rw [if_pos h2]
       split at h
       ·rename_i h3
        rw [if_pos h3]
        cases h
        exact ⟨rfl,a2,a3⟩
       ·cases h
      ·rename_i h2
       rw [if_neg h2]
       exact hA.ents hN hc hc2 (by omega) (by omega) hm ev k h
     ·obtain rfl:k'=m:=by omega
      obtain ⟨c1,c2⟩:=b4 rfl rfl
      have hnd:ND ls ls' d k' s:=by
       rcases hc with hc|hc
       ·omega
       ·exact hc.2
      obtain ⟨n1,n2⟩:=hnd c2
      rw [c1] at h ⊢
      rw [n2] at h
      rw [n1]
      rw [if_pos rfl] at h ⊢
      split at h
      ·rename_i h3
       rw [if_pos h3]
       cases h
       exact ⟨rfl,a2,a3⟩
      ·cases h
theorem Ag.seq (hA:Ag ls ls' d m s) {N N':Int→Int→Int→Bool→PR} (hN:CZ ls ls' d m s N N'):Ly ls ls' d m s (fun i c b t=>dD ls N i c b t) (fun i c b t=>dD ls' N' i c b t):=by
 intro i c b t h0 h1 hc hc2 ev k h
 dsimp only at h ⊢
 unfold dD at h ⊢
 split at h
 ·cases h
 ·rename_i hE
  cases h
  obtain ⟨a1,a2,a3⟩:=hA.ents hN hc hc2 (f:=ls.length+1) (by have:=hA.ll;omega) h0 h1 _ _ hE
  rw [a1]
  exact ⟨rfl,a2,a3⟩
theorem Ag.ask (hA:Ag ls ls' d m s) {N N':Int→Int→Int→Bool→PR}{i c:Int} (hN:CZ ls ls' d m s N N') (hc:s < c) (hc2:c≤4000) (h0:0≤i) (h1:i < m):Dh d m (lq ls N (i+d) c) (lq ls' N' i c):=by
 intro ev k h
 unfold lq at h ⊢
 split at h
 ·cases h
 ·rename_i ev1 i2 hn
  obtain ⟨a1,a2,a3⟩:=hN i (c+1) c false h0 h1 (by omega) (by omega) (by omega) hc2 (fun _ h=>by cases h) _ _ hn
  rw [a1]
  dsimp only
  split at h
  ·cases h
  ·rename_i k' ok hk
   obtain ⟨b1,b2,b3,b4⟩:=hA.nextP a2 a3 hk
   rw [b1]
   dsimp only
   split at h
   ·rename_i h2
    obtain ⟨i1,i2'⟩:=hA.ind (by omega) b3 (b4 h2.1)
    have hm:k' < m:=by
     refine Int.lt_iff_le_and_ne.2 ⟨b3,fun e=>?_⟩
     have:=i2' e
     omega
    rw [i1,hA.signP (by omega) hm,if_pos h2]
    split at h
    ·cases h
    ·rename_i hn2
     cases h
     obtain ⟨c1,c2,c3⟩:=hN k' (c+1) c false (by omega) hm (by omega) (by omega) (by omega) hc2 (fun _ h=>by cases h) _ _ hn2
     rw [c1]
     exact ⟨rfl,c2,c3⟩
   ·rename_i h2
    cases h
    have h3:¬(ok=true∧(aE ls (k'+d)).1=c∧Go.Proofs.YthkabaiamcjdbaaGreat.signP ls (k'+d) c 58=true):=by
     rintro ⟨e1,e2,e3⟩
     obtain ⟨i1,i2'⟩:=hA.ind (by omega) b3 (b4 e1)
     have hm:k' < m:=by
      refine Int.lt_iff_le_and_ne.2 ⟨b3,fun e=>?_⟩
      have:=i2' e
      omega
     rw [i1] at e2
     rw [hA.signP (by omega) hm] at e3
     exact h2 ⟨e1,e2,e3⟩
    rw [if_neg h3]
    exact ⟨rfl,a2,a3⟩
theorem Ag.pairP (hA:Ag ls ls' d m s) {N N':Int→Int→Int→Bool→PR}{d0 i c:Int} (hN:CZ ls ls' d m s N N') (hc:s < c∨(c=s∧ND ls ls' d m s)) (hc2:c≤4000) (h0:0≤i) (h1:i < m):Dh d m (pairP ls N d0 (i+d) c) (Go.Proofs.YthkabaiamcjdbaaGreat.pairP ls' N' d0 i c):=by
 intro ev k h
 unfold Go.Proofs.YthkabaiamcjdbaaGreat.pairP at h ⊢
 rw [hA.alone h0 h1]
 split at h
 ·cases h
 ·rename_i q hk
  try rw [hk]
  try dsimp only
  obtain ⟨k1,k2⟩:=Js hA.hs' hk
  split at h
  ·cases h
  ·rename_i hw
   try rw [hw]
   try dsimp only
   split at h
   ·cases h
   ·rename_i hn
    cases h
    obtain ⟨a1,a2,a3⟩:=hN i (q+1) c true h0 h1 (by omega) (by omega) (by omega) hc2 (fun e _=>by
     rcases hc with hc|hc
     ·omega
     ·exact hc.2) _ _ hn
    rw [a1]
    exact ⟨rfl,a2,a3⟩
theorem Ag.pairs (hA:Ag ls ls' d m s) {N N':Int→Int→Int→Bool→PR}{d0 c:Int} (hN:CZ ls ls' d m s N N') (hc:s < c) (hc2:c≤4000):∀ {f' f:Nat}{i:Int}{acc:List EvV},f'≤f→0≤i→i < m→Dh d m (iT ls N d0 c f (i+d) acc) (iT ls' N' d0 c f' i acc)
 | 0,_,_,_,_,_,_=>fun ev k h=>by cases h
 | f'+1,0,_,_,hf,_,_=>by omega
 | f'+1,f+1,i,acc,hf,h0,h1=>fun ev k h=>by
  have hone:Dh d m (if Go.Proofs.YthkabaiamcjdbaaGreat.signP ls' i c 63=true then lq ls N (i+d) c else Go.Proofs.YthkabaiamcjdbaaGreat.pairP ls N d0 (i+d) c) (if Go.Proofs.YthkabaiamcjdbaaGreat.signP ls' i c 63=true then lq ls' N' i c else Go.Proofs.YthkabaiamcjdbaaGreat.pairP ls' N' d0 i c):=by
   split
   ·exact hA.ask hN hc hc2 h0 h1
   ·exact hA.pairP hN (.inl hc) hc2 h0 h1
  rw [iT] at h ⊢
  rw [hA.signP h0 h1]
  split at h
  ·cases h
  ·rename_i ev1 i2 hn
   obtain ⟨a1,a2,a3⟩:=hone _ _ hn
   rw [a1]
   dsimp only
   split at h
   ·cases h
   ·rename_i k' ok hf'
    obtain ⟨b1,b2,b3,b4⟩:=hA.furP a2 a3 hf'
    rw [b1]
    dsimp only
    cases ok
    ·rw [if_pos rfl] at h ⊢
     cases h
     exact ⟨rfl,a2,a3⟩
    ·rw [if_neg (by simp)] at h ⊢
     have hm:k' < m:=by
      refine Int.lt_iff_le_and_ne.2 ⟨b3,fun e=>?_⟩
      have:=(b4 rfl e).1
      omega
     exact hA.pairs hN hc hc2 (by omega) (by omega) hm ev k h
theorem Ag.map (hA:Ag ls ls' d m s) {N N':Int→Int→Int→Bool→PR}{d0:Int} (hN:CZ ls ls' d m s N N'):Lz d m s (fun i c t=>rQ ls N d0 i c t) (fun i c t=>rQ ls' N' d0 i c t):=by
 intro i c t h0 h1 hc hc2 ev k h
 dsimp only at h ⊢
 unfold rQ at h ⊢
 split at h
 ·cases h
 ·rename_i hE
  cases h
  obtain ⟨a1,a2,a3⟩:=hA.pairs hN hc hc2 (f:=ls.length+1) (by have:=hA.ll;omega) h0 h1 _ _ hE
  rw [a1]
  exact ⟨rfl,a2,a3⟩
end Go.Proofs.YthkabaiamcjdbaaGreat
/-
 Chapter 13: places in lines,words,and what stands cO them: plain facts.
-/

namespace Go.Proofs.YthkabaiamcjdbaaGreat
open Go.Abs
/-! ### Places, by what stands there -/
def At (ls:List Ln) (p:Int × Int) (l:List Int):Prop:=0≤p.1∧p.1 < ls.length∧0≤p.2∧0≤(ls.getD p.1.toNat (0,[])).1∧(ls.getD p.1.toNat (0,[])).1≤p.2∧aF ls p=l
theorem LR {ls:List Ln}{i k:Int}{t:List Int} (h0:0≤i) (h1:i < ls.length) (h:ls.getD i.toNat (0,[])=(k,t)) (hk:0≤k):At ls (i,k) t:=by
 refine ⟨h0,h1,hk,by dsimp only;rw [h];exact hk,by dsimp only;rw [h];exact Int.le_refl _, ?_⟩
 rw [fZ (by dsimp only;omega) (by dsimp only;omega) (by dsimp only;omega)]
 dsimp only
 rw [h]
 dsimp only
 rw [if_neg (by omega),show (min (k - max 0 k) (t.length:Int)).toNat=0 by omega,List.drop_zero]
theorem At.step {ls:List Ln}{p:Int × Int}{a l:List Int} (h:At ls p (a++l)):At ls (p.1,p.2+(a.length:Nat)) l:=by
 obtain ⟨h1,h2,h3,h4,h5,h6⟩:=h
 refine ⟨h1,h2,by dsimp only;omega,h4,by dsimp only;omega, ?_⟩
 rw [fZ (by omega) (by omega) (by omega),if_neg (by omega)] at h6
 rw [fZ (by dsimp only;omega) (by dsimp only;omega) (by dsimp only;omega)]
 dsimp only at *
 generalize ls.getD p.1.toNat (0,[])=x at *
 rw [if_neg (by omega)]
 have hl:=congrArg List.length h6
 rw [List.length_drop,List.length_append] at hl
 rw [show (min (p.2+(a.length:Nat) - max 0 x.1) (x.2.length:Int)).toNat=(min (p.2 - max 0 x.1) (x.2.length:Int)).toNat+a.length by omega,← List.drop_drop,h6,List.drop_left]
theorem K3 {b r:List Int} (hb:∀ c∈b,blankI c=true) (hr:r.length=0∨blankI (r.getD 0 0)=false):nj (b++r)=b.length:=by
 have h0:nj r=0:=by
  rcases hr with h|h
  ·rw [List.length_eq_zero_iff.1 h];rfl
  ·exact Rk h
 unfold nj at *
 rw [List.takeWhile_append_of_pos hb,List.length_append,h0,Nat.add_zero]
theorem At.past {ls:List Ln}{p:Int × Int}{b r:List Int} (h:At ls p (b++r)) (hb:∀ c∈b,blankI c=true) (hr:r.length=0∨blankI (r.getD 0 0)=false):bO ls p=((p.1,p.2+(b.length:Nat)),r):=by
 have hc:dT ls p=p.2:=by
  obtain ⟨h1,h2,h3,h4,h5,h6⟩:=h
  unfold dT
  rw [if_pos ⟨h1,h2⟩];omega
 unfold bO
 rw [hc,show ((p.1,p.2):Int × Int)=p from rfl,h.2.2.2.2.2,K3 hb hr,List.drop_left]
theorem oZ {ls:List Ln}{p:Int × Int}{b r:List Int} (h:At ls p (b++r)) (hb:∀ c∈b,blankI c=true) (h0:0 < r.length) (h1:blankI (r.getD 0 0)=false) (h2:¬r.getD 0 0=35):ep ls p=((p.1,p.2+(b.length:Nat)),true):=by
 unfold ep
 rw [h.past hb (.inr h1)]
 dsimp only
 have hc:wC ls (p.1,p.2+(b.length:Nat)) r=false:=by
  unfold wC bV
  rw [beq_eq_false_iff_ne.2 h2,Bool.and_false,Bool.false_and]
 rw [decide_eq_true h0,hc];rfl
theorem vD {ls:List Ln}{n:Int}{p q:Int × Int} (h:ep ls p=(q,true)) (hq:q.1=p.1):onF ls n p=some (some q):=by
 unfold onF
 rw [pL,h]
 show onL _ _ _ ((q,true)::_)=_
 unfold onL
 rw [if_pos rfl,if_neg (by omega)]
/-! ### Texts and their lines -/
def lA:List Int→List Int × List (List Int)
 | []=>([],[])
 | c::t=>if c=10 then ([],(lA t).1::(lA t).2) else (c::(lA t).1,(lA t).2)
theorem LV {c:Int}{t:List Int} (h:¬c=10):lA (c::t)=(c::(lA t).1,(lA t).2):=by rw [lA,if_neg h]
theorem wu:∀ {a t:List Int},(∀ c∈a,¬c=10)→lA (a++t)=(a++(lA t).1,(lA t).2)
 | [],t,_=>rfl
 | c::a,t,h=>by rw [List.cons_append,LV (h c (by simp)),wu (fun x hx=>h x (by simp [hx]))];rfl
def Tx (ls:List Ln) (p:Int × Int) (t:List Int):Prop:=At ls p (lA t).1∧ls.drop (p.1.toNat+1)=(lA t).2.map lineOf
theorem Tx.step {ls:List Ln}{p:Int × Int}{a t:List Int} (h:Tx ls p (a++t)) (ha:∀ c∈a,¬c=10):Tx ls (p.1,p.2+(a.length:Nat)) t:=by
 obtain ⟨h1,h2⟩:=h
 rw [wu ha] at h1 h2
 exact ⟨h1.step,h2⟩
theorem Tx.line {ls:List Ln}{p:Int × Int}{t l:List Int}{m:List (List Int)} (h:Tx ls p t) (hc:(lA t).2=l::m):0≤p.1+1∧p.1+1 < ls.length∧ls.getD (p.1+1).toNat (0,[])=lineOf l∧ls.drop ((p.1+1).toNat+1)=m.map lineOf:=by
 obtain ⟨⟨h1,h2,-⟩,h3⟩:=h
 rw [hc,List.map_cons] at h3
 have hk:(p.1+1).toNat=p.1.toNat+1:=by omega
 have hl:=congrArg List.length h3
 rw [List.length_drop,List.length_cons] at hl
 refine ⟨by omega,by omega, ?_, ?_⟩
 ·rw [hk,List.getD_eq_getElem?_getD,← List.head?_drop,h3];rfl
 ·rw [hk,← List.drop_drop,h3];rfl
theorem CJ {ls:List Ln}{i k:Int}{t:List Int} (h1:i < ls.length) (h:ls.getD i.toNat (0,[])=(k,t)) (hm:¬k=0∨t.length=0):bC ls i=false:=by
 unfold bC
 rw [decide_eq_false (by omega),h]
 have:bB k t=0:=by unfold bB;rw [if_neg (by rintro ⟨h1,h2,-⟩;omega)]
 rw [this];rfl
def UT (c:Int):Prop:=blankI c=false∧¬c=35∧¬c=10
def EK (w:List Int):Prop:=∀ c∈w,97≤c∧c≤122
def Kd (b:List Int):Prop:=∀ c∈b,blankI c=true
theorem FW {c:Int} (h:blankI c=true):c=32∨c=9:=by
 unfold blankI at h
 simpa using h
theorem qg {fl:Bool}:∀ {x r:List Int}{i:Nat},(∀ c∈x,mz fl c=false)→iV fl i (x++r)=iV fl (i+x.length) r
 | [],r,i,_=>rfl
 | c::x,r,i,h=>by
  rw [List.cons_append,iV,h c (by simp),if_neg Bool.false_ne_true,qg (fun c hc=>h c (by simp [hc]))]
  congr 1
  simp;omega
theorem wW {x r:List Int}{i:Nat}:(x++r).getD (x.length+i) 0=r.getD i 0:=by
 simp only [List.getD_eq_getElem?_getD]
 rw [List.getElem?_append_right (by omega)]
 congr 2;omega
theorem FU {x r:List Int}{i:Nat}{fl:Bool}:eC (x++r) (x.length+i) fl=eC r i fl:=by
 unfold eC
 rw [wW,List.length_append]
 congr 1
 exact decide_eq_decide.2 (by omega)
def O2 (fl:Bool) (b r:List Int):Prop:=r=[]∨∃ c r',r=c::r'∧(fl=true∧jN c=true∨c=58∧eC r 1 fl=false∨c=35∧0 < b.length)
theorem Dr {w b r:List Int}{fl:Bool} (hw:EK w) (hb:Kd b) (hr:O2 fl b r):gW (w++(b++r)) fl=(w++b).length:=by
 have hx:∀ c∈w++b,mz fl c=false:=fun c hc=>by
  rcases List.mem_append.1 hc with h|h
  ·have:=hw c h
   refine qD (by omega) (by omega) (.inr ?_)
   unfold jN;simp;omega
  ·rcases FW (hb c h) with rfl|rfl
   ·exact qD (by decide) (by decide) (.inr (by decide))
   ·exact qD (by decide) (by decide) (.inr (by decide))
 unfold gW
 rw [fE,List.drop_zero,← List.append_assoc,qg hx,Nat.zero_add]
 rcases hr with rfl|⟨c,r',rfl,h⟩
 ·rw [List.append_nil];rfl
 ·have hs:mz fl c=true:=Bf (by
   rcases h with ⟨h1,h2⟩|⟨h,-⟩|⟨h,-⟩
   ·exact .inr (.inr ⟨h1,h2⟩)
   ·exact .inl h
   ·exact .inr (.inl h))
  have h0:(w++b++c::r').getD (w++b).length 0=c:=by
   have:=wW (x:=w++b) (r:=c::r') (i:=0)
   rw [Nat.add_zero,List.getD_cons_zero] at this
   exact this
  rw [iV,if_pos hs,oy,if_neg]
  rw [IR]
  ·exact Bool.false_ne_true
  ·rcases h with ⟨-,h2⟩|⟨-,h⟩|⟨h,-⟩
   ·refine .inl (by rw [h0];intro e;rw [e] at h2;cases h2)
   ·exact .inr (by rw [FU];exact h)
   ·exact .inl (by rw [h0,h];decide)
  ·rcases h with ⟨-,h2⟩|⟨h,-⟩|⟨-,h⟩
   ·refine .inl (by rw [h0];intro e;rw [e] at h2;cases h2)
   ·exact .inl (by rw [h0,h];decide)
   ·refine .inr ⟨by rw [List.length_append];omega, ?_⟩
    have hi:(w++b).length - 1 < (w++b).length:=by rw [List.length_append];omega
    rw [List.getD_eq_getElem?_getD,List.getElem?_append_left hi]
    have hi2:(w++b).length - 1=w.length+(b.length - 1):=by rw [List.length_append];omega
    rw [hi2,List.getElem?_append_right (by omega),show w.length+(b.length - 1) - w.length=b.length - 1 by omega,List.getElem?_eq_getElem (by omega)]
    exact hb _ (List.getElem_mem _)
theorem DI {w b:List Int} (hw:EK w) (hb:Kd b):ey (w++b)=w:=by
 unfold ey
 rw [List.reverse_append,List.dropWhile_append_of_pos (fun c hc=>hb c (List.mem_reverse.1 hc))]
 have:w.reverse.dropWhile blankI=w.reverse:=by
  cases hr:w.reverse with
  | nil=>rfl
  | cons c r =>
   have hc:=hw c (List.mem_reverse.1 (by rw [hr];simp))
   have:blankI c=false:=by unfold blankI;simp;omega
   rw [List.dropWhile_cons,if_neg (by rw [this];exact Bool.false_ne_true)]
 rw [this,List.reverse_reverse]
theorem E6 {w b r:List Int}{fl:Bool} (hw:EK w) (hb:Kd b) (hr:O2 fl b r):fG (w++(b++r)) fl=w.length:=by
 unfold fG
 rw [Dr hw hb hr,← List.append_assoc,List.take_left,DI hw hb]
theorem DD:∀ k:Fin 26,∀ fl:Bool,pT (97+(k.val:Int)) fl=true∧yM (97+(k.val:Int))=false:=by decide +kernel
theorem M6 {c:Int} (h:97≤c∧c≤122) (fl:Bool):pT c fl=true∧yM c=false:=by
 have:=DD ⟨(c - 97).toNat,by omega⟩ fl
 rw [show 97+(((⟨(c - 97).toNat,by omega⟩:Fin 26).val:Nat):Int)=c by dsimp only;omega] at this
 exact this
theorem y7 {w r:List Int}{fl:Bool} (hw:EK w) (h0:0 < w.length):fb (w++r) fl=true:=by
 cases w with
 | nil=>simp at h0
 | cons c w =>
  have hc:=hw c (by simp)
  obtain ⟨h1,h2⟩:=M6 hc fl
  unfold fb eC
  simp only [List.cons_append,List.getD_cons_zero,List.length_cons]
  rw [h1,h2,if_neg (by omega)]
  simp
theorem JK {c:Int} (h:97≤c∧c≤122):UT c:=⟨by unfold blankI;simp;omega,by omega,by omega⟩
theorem D4 {ls:List Ln}{n d:Int}{bk:Bool}{N:Nat→Int × Int→NodeR}{k:Nat}{q:Int × Int}{w b r:List Int} (hA:At ls q (w++(b++r))) (hw:EK w) (h0:0 < w.length) (hb:Kd b) (hr:O2 (!(bk && decide (k=0))) b r)
  (hf:(∃ c r',r=c::r'∧blankI c=false)∨(bD ls n (bk && decide (k=0)) q.1).2=false):nodeS ls n d bk N k q=.ok ([⟨7,cu w,.empty,.empty,1,false⟩],(q.1,q.2+(w.length:Nat)),false):=by
 have hq:=hA.2.2.2.2.2
 have hstep:=hA.step
 have hbegin:=y7 (r:=b++r) (fl:=!(bk && decide (k=0))) hw h0
 have hen:=E6 hw hb hr
 have hhead:∀ x:Int,¬(97≤x∧x≤122)→bV (w++(b++r)) x=false:=fun x hx=>by
  cases w with
  | nil=>simp at h0
  | cons c w =>
   have hc:=hw c (by simp)
   unfold bV
   simp only [List.cons_append,List.getD_cons_zero]
   rw [beq_eq_false_iff_ne.2 (by omega),Bool.and_false]
 have hon:onF ls n q=some (some q):=by
  cases w with
  | nil=>simp at h0
  | cons c w =>
   have hB:=JK (hw c (by simp))
   have:=vD (n:=n) (oZ (b:=[]) (by exact hA) (fun c hc=>by simp at hc) (by simp) (by simp only [List.cons_append,List.getD_cons_zero];exact hB.1) (by simp only [List.cons_append,List.getD_cons_zero];exact hB.2.1)) rfl
   rw [this];simp
 have htr:bG ls n q=.ok (tr0,q,true):=by
  unfold bG
  rw [hon]
  dsimp only
  exact jj (lM (by rw [hq];exact hhead _ (by decide)) (by rw [hq];exact hhead _ (by decide)))
 have hpast:¬((bO ls (q.1,q.2+(w.length:Nat))).2.length=0∧(bD ls n (bk && decide (k=0)) q.1).2=true):=by
  rintro ⟨h1,h2⟩
  rcases hf with ⟨c,r',rfl,hc⟩|hf
  ·rw [hstep.past hb (.inr (by rw [List.getD_cons_zero];exact hc))] at h1
   simp at h1
  ·rw [hf] at h2;cases h2
 have hpl:eZ ls n (bk && decide (k=0)) q (w++(b++r))=.ok (w,(q.1,q.2+(w.length:Nat))):=by
  unfold eZ
  rw [jJ,hen,if_neg (by simp),if_neg hpast]
  dsimp only
  rw [List.nil_append,List.take_left,C0]
 unfold nodeS
 rw [htr]
 dsimp only
 rw [if_pos rfl,hq]
 unfold lE
 rw [hhead 42 (by decide),hhead 34 (by decide),hhead 39 (by decide),hhead 91 (by decide),hhead 123 (by decide)]
 rw [if_neg Bool.false_ne_true,if_neg (by simp),if_neg (by simp),if_pos ⟨by rw [List.length_append];omega,hbegin⟩,hpl]
abbrev QP (w:List Int):EvV:=⟨7,cu w,.empty,.empty,1,false⟩
theorem Tx.rest {ls:List Ln}{q:Int × Int}{c:Int}{t:List Int} (h:Tx ls q (c::t)) (hc:¬c=10):aF ls q=c::(lA t).1:=by
 have:=h.1.2.2.2.2.2
 rw [LV hc] at this
 exact this
theorem Tx.is {ls:List Ln}{q:Int × Int}{c x:Int}{t:List Int} (h:Tx ls q (c::t)) (hc:¬c=10):isF ls q x=(c == x):=by
 unfold isF bV
 rw [h.rest hc]
 simp
theorem Tx.next {ls:List Ln}{q:Int × Int}{c:Int}{t:List Int} (h:Tx ls q (c::t)) (hc:¬c=10):Tx ls (q.1,q.2+1) t:=h.step (a:=[c]) (fun x hx=>by simp at hx;omega)
theorem Tx.one {T:List Int} (h:∀ c∈T,¬c=10):Tx (Ue T) (0,0) T:=by
 have e:=wu (t:=[]) h
 rw [List.append_nil] at e
 have e1:(lA T).1=T:=by rw [e];exact List.append_nil _
 have e2:(lA T).2=[]:=by rw [e];rfl
 exact ⟨by rw [e1];exact LR (Int.le_refl 0) (by simp) rfl (Int.le_refl 0),by rw [e2];rfl⟩
/-! ### Long keys -/
abbrev xs (n:Nat):List Int:=List.replicate n 120
theorem DY {ls:List Ln}{i k:Int}{c:Int}{t:List Int} (h:i < ls.length) (hl:aE ls i=(k,c::t)) (hc:UT c) (ho:bC ls i=false):nextP ls i=.ok (i,true):=by
 have hb:nextB ls ls.length i=i:=by
  cases hn:ls.length with
  | zero=>rfl
  | succ f =>
   have hbl:=hc.1
   rw [nextB,if_neg (by
    rintro ⟨-,h2⟩
    rw [hl] at h2
    unfold cU at h2
    rw [List.all_cons,hbl,Bool.false_and,Bool.false_or,List.dropWhile_cons,if_neg (by rw [hbl];exact Bool.false_ne_true),List.getD_cons_zero] at h2
    exact hc.2.1 (beq_iff_eq.1 h2))]
 unfold nextP
 rw [hb,ho,if_neg Bool.false_ne_true,hl,if_neg]
 rw [List.getD_cons_zero]
 intro e
 have:=hc.1
 rw [e] at this
 cases this
end Go.Proofs.YthkabaiamcjdbaaGreat
