/-
  Texts If, Ig, Ip, Ir, Kx, MP, Va, Iz, Vb, one behind the other.
-/
import Derived.Test.YthkabaiamcjdbaaGreatJ27
import Derived.Test.YthkabaiamcjdbaaGreatJ28
import Derived.Test.YthkabaiamcjdbaaGreatJ29
set_option linter.unusedVariables false
set_option maxRecDepth 4000
set_option linter.unusedSimpArgs false
set_option maxHeartbeats 16000000
namespace Go.Proofs.YthkabaiamcjdbaaGreat
open Go.Abs
variable {κ:Ctx} {σ:List Res} {K:Ret→List Res→Prop} {o o':Option (Option (Nat × Nat))}
theorem Ue {b:List Int} (hb:Asc b) (h1:b.length≤1) (hK:K (.ret (.tup [I 1,I 0])) σ):ACallF κ Tryz.prog 36 [SU o b] σ K:=by
 have hbl:=hb.1
 have hn3:¬((b.length:Int) > 3):=by omega
 have hn1:¬((b.length:Int) > 1):=by omega
 refine ACallF.dropL (aa Tryz.func36 rfl ?_);simp only [Tryz.ntmps36]
 repeat' (first|simp only [WL,ay,WM,reduceCtorEq,bg,Nat.reduceAdd,Nat.reduceSub,true_and,reduceIte,Bool.false_eq_true,sn,IW,Tryz.results36,decide_eq_false hn3,decide_eq_false hn1]|with_reducible refine dp (hK:=?_)|( refine callD_mk (ACallF.argsS (ys:=[SU o b,SU none [0,0,254,255]]) ⟨cw,dJ le_ro,trivial⟩ (jM hb (by decide) (by decide) ?_)))|( refine callD_mk (ACallF.argsS (ys:=[SU o b,SU none [255,254,0,0]]) ⟨cw,dJ le_ro,trivial⟩ (jM hb (by decide) (by decide) ?_)))|( refine callD_mk (ACallF.argsS (ys:=[SU o b,SU none [254,255]]) ⟨cw,dJ le_ro,trivial⟩ (jM hb (by decide) (by decide) ?_)))|( refine callD_mk (ACallF.argsS (ys:=[SU o b,SU none [255,254]]) ⟨cw,dJ le_ro,trivial⟩ (jM hb (by decide) (by decide) ?_)))|( refine callD_mk (ACallF.argsS (ys:=[SU o b,SU none [239,187,191]]) ⟨cw,dJ le_ro,trivial⟩ (jM hb (by decide) (by decide) ?_))))
 all_goals first
  | exact ak ae (aj rfl) hK
  | (exfalso;omega)
theorem Wy {b:List Int} (hb:Asc b) (hK:K (.ret (.tup [I 1,I 0])) σ):ACallF κ Tryz.prog 36 [SU o b] σ K:=by
 rcases Nat.lt_or_ge 1 b.length with h1|h1
 ·rcases Nat.lt_or_ge 3 b.length with h3|h3
  ·exact SY hb h3 hK
  ·exact Q4 hb h1 h3 hK
 ·exact Ue hb h1 hK
theorem NG {b:List Int} (hb:Asc b) (hK:K (.ret (.tup [SI none b,I 0])) σ):ACallF κ Tryz.prog 26 [SU o b] σ K:=by
 have hbl:=hb.1
 refine ACallF.dropL (aN Tryz.func26 rfl ?_);simp only [Tryz.ntmps26]
 repeat' (first|(with_reducible first|refine aC ?_|refine al (al ?_)|refine aG ?_|refine aB ?_|refine aw ?_|refine aO ?_)|simp only [WL,ay,WM,Int.reduceToNat,reduceCtorEq,bg,Nat.reduceAdd,Nat.reduceSub,Nat.reduceLT,Bool.not_true,beq_self_eq_true,true_and,T5,sn,U3,P5,Tryz.results26]|(with_reducible first|refine ax (hb:=?_)|refine cD (Wy ?_ ?_)|refine cD (UL ?_ ?_))|((with_reducible first|refine ai (fun h=>?_) (fun h=>?_)|refine ab (fun h=>?_) (fun h=>?_))<;>(try simp only [h])<;>(try simp only [bf,ba] at h))|omega)
 exact ak ae (aj rfl) hK
theorem kx {s:ByteArray} (hb:Asc (aJ s)) (hK:K (.ret (SL none (jh (aJ s)).1)) σ):ACallF κ Tryz.prog 13 [.raw (.string s)] σ K:=by
 have hbl:=hb.1
 have hsz:=bJ s
 refine ACallF.dropL (aa Tryz.func13 rfl ?_);simp only [Tryz.ntmps13]
 repeat' (first|simp only [WL,WM,Nat.reduceAdd,Nat.reduceSub,Nat.reduceLT,true_and,nL,Wu,U5,Tryz.results13]|(with_reducible first|refine EU ?_ ?_|refine cD (NG ?_ ?_)|refine cD (RQ ?_ ?_))|omega|(refine bq ?_;(first|omega|(simp only [aU];omega))))
 exact ak ae (aj rfl) hK
theorem Wv {l:List Int} (h:blankI (l.getD 0 0)=false):pg l=0:=by
 cases l with
 | nil=>rfl
 | cons c l =>
  unfold pg;rw [List.takeWhile_cons,show blankI c=false from h];rfl
end Go.Proofs.YthkabaiamcjdbaaGreat
namespace Go.Abs
section
variable {κ:Ctx} {P:Program}
end
section
variable {κ:Ctx} {P:Program} {σ:List Res} {K:AV→List Res→Prop}
theorem r9 {t e sz:Nat} (he:jg P t=some e) (hs:dj P e=some sz) (hK:∀ b,K (bT b 0 0 0) (.obj b []::σ)):AAct κ P (.bslice t 0 []) [] σ K:=by
 intro φ g w vs hR hv;have:=mE hv
 subst this;have ht:=aR he
 obtain ⟨inf,hi,hisz⟩:∃ inf,P.info? e=some inf∧inf.size=sz:=by
  unfold dj at hs;cases hi:P.info? e with
  | none=>simp [hi] at hs
  | some inf=>exact ⟨inf,rfl,by simpa [hi] using hs⟩
 have hrun:(Instr.buildSlice t 0 #[]).run P w=.ok (.slice (some ⟨w.heap.size,0,none⟩) 0 0) (w.alloc (.cells #[] e)):=by
  simp [Instr.buildSlice,bE ht,sizeOf,kJ hi,Instr.fill,newRow];rw [Array.eq_empty_of_size_eq_zero (xs:=Array.map (fun _=>default) (Array.range 0)) (by simp)]
 have hrun':((MA.bslice t 0 []).sem []).run P w=.ok (.slice (some ⟨w.heap.size,0,none⟩) 0 0) (w.alloc (.cells #[] e)):=hrun
 obtain ⟨b1,b2⟩:=hR.new_obj (cs:=[]) (arr:=#[]) e ⟨rfl,fun k x hk=>by simp at hk⟩;exact ⟨_,_,g,bT w.heap.size 0 0 0,_,hrun',b1.perm List.perm_middle.symm,b2,.raw _,hK _⟩
end
section
variable {κ:Ctx} {P:Program} {all rest:List Oper} {Q:Exit→St→Prop} {d:Option Tmp} {t:List AV} {σ:List Res} {fr:Bool} {df:List Deferred}
theorem TK {ty e:TypeId}{sz by_:Nat}{z:Value} [hs:TSl P ty e sz by_ z] (hK:∀ b,dw κ false P all Q d rest ⟨t,σ,fr,df⟩ (bT b 0 0 0) (.obj b []::σ)):cu κ false P all Q d rest ⟨t,σ,fr,df⟩ (.bslice ty 0 []) [] :=
 cl (r9 hs.sl hs.hz hK)
end
end Go.Abs
namespace Go.Proofs.YthkabaiamcjdbaaGreat
open Go.Abs
variable {κ:Ctx} {σ:List Res} {K:Ret→List Res→Prop} {o o':Option (Option (Nat × Nat))}
abbrev SR (ls:List Ln) (i:Int) (y:AV):List AV:=[SL none ls,I i,y]
def B4 (ls:List Ln):Nat→Int→Bool→Int × Bool × Bool
 | 0,i,s=>(i,s,true)
 | f+1,i,s=>if i < ls.length∧aZ (aF ls i).1 (aF ls i).2=2 then (if dW ((aF ls i).2.drop 3)=true then B4 ls f (dy ls ls.length (i+1)) true else (i,false,false)) else (i,s,true)
def gU (ls:List Ln) (i:Int):Int × Bool × Bool:=B4 ls (ls.length+1) (dy ls ls.length i) false
theorem oJ {k:Int}{t:List Int} (h:¬aZ k t=0):3≤t.length:=by
 unfold aZ at h;split at h
 ·rename_i h1;exact h1.2.1
 ·exact absurd rfl h
theorem fK {pr ix:Nat}{ls:List Ln}{i:Int}{y:AV} [hJ:Hold σ pr ix (SR ls i y)] (hs:Small ls) (hK:K (.ret (B (decide (i=ls.length)))) σ):ACallF κ Tryz.prog 47 [JP pr] σ K:=by
 refine ACallF.dropL (aa Tryz.func47 rfl ?_);simp only [Tryz.ntmps47]
 repeat' (first|simp only [WL,ay,WM,reduceCtorEq,bg,Nat.reduceAdd,Nat.reduceSub,Nat.reduceEqDiff,true_and,T3,gg,fR dY,fR dX,Tryz.results47]|(with_reducible first|refine ax (hb:=?_)|refine au (hK:=?_))|((with_reducible refine aE (id:=1) 11 mixed ?_ ?_);kernel_rfl)|(with_reducible refine bK ?_))
 exact ak ae (aj (congrArg B (by rw [Bool.eq_iff_iff];simp))) hK
theorem Aq {pr:Nat}{ls:List Ln}{i:Int}{y:AV} (hs:Small ls) (hi:0≤i∧i≤ls.length) (hK:K (.ret (.tup [])) (.obj pr (SR ls (dy ls ls.length i) y)::σ)):ACallF κ Tryz.prog 55 [JP pr] (.obj pr (SR ls i y)::σ) K:=by
 have hl:=hs.1
 refine ACallF.dropL (aN Tryz.func55 rfl ?_);simp only [Tryz.ntmps55]
 repeat' (first|(with_reducible first|refine aC ?_|refine bO ?_)|simp only [WM,Nat.reduceAdd,Nat.reduceSub])
 refine dq (fun q:Nat=>⟨(JP pr::.any::.any::.any::.any::.any::.any::.any::.any::.any::.any::.any::.any::.any::.any::.any::.any::.any::.any::.any::.any::.any::.any::.any::.any::[]),.obj pr (SR ls (i+(q:Nat)) y)::σ,true,[]⟩) (fun q=>i+(q:Nat)≤ls.length∧dy ls ls.length i=dy ls (ls.length - q) (i+(q:Nat))) (fun q=>ls.length - q) 0 ?_ ⟨by omega,by simp⟩ ?_
 ·rw [show i+((0:Nat):Int)=i by omega]
  exact aq bH id
 rintro q ⟨hq,hn⟩;have hx:=fun h:(i+(q:Nat)).toNat < ls.length=>hs.at_ h
 have hstop:¬(i+(q:Nat) < ls.length∧dW (aF ls (i+(q:Nat))).2=true)→dy ls ls.length i=i+(q:Nat):=fun h=>by
  rw [hn];cases ls.length - q with
  | zero=>rfl
  | succ f=>rw [dy,if_neg h]
 rcases Int.lt_or_le (i+(q:Nat)) ls.length with hlt|hge
 ·have hx:=hx (by omega)
  cases hb:dW (ls.getD (i+(q:Nat)).toNat (0,[])).2
  ·have hst:=hstop (by rintro ⟨-,h⟩;dsimp only [aF] at h;rw [hb] at h;cases h)
   rw [hst] at hK
   repeat' (first|(with_reducible first|refine al (al ?_)|refine aw ?_)|simp only [WL,WM,Nat.reduceAdd,Nat.reduceEqDiff,Bool.not_true,true_and,reduceIte,Bool.false_eq_true,T3,gg,jm,fR dY,fR dX,fN,tT,Tryz.results55,hb]|simp (disch:=first|omega|(simp only [aU];omega)) only [dO]|(with_reducible first|refine ax (hb:=?_)|refine au (hK:=?_)|refine cQ (fK ?_ aT) ?_|refine cQ (uJ ?_ aT) ?_)|((with_reducible refine aE (id:=0) 16 mixed ?_ ?_);kernel_rfl)|(with_reducible refine bK ?_)|((with_reducible first|refine ai (fun h=>?_) (fun h=>?_)|refine ab (fun h=>?_) (fun h=>?_))<;>(try simp only [h])<;>(try simp only [bf,ba] at h))|omega)
   all_goals first
    | exact ak ae (aj rfl) hK
    | (exfalso;omega)
  ·skip
   repeat' (first|(with_reducible first|refine aC ?_|refine al (al ?_)|refine aB ?_|refine aw ?_)|simp only [WL,ay,WM,reduceCtorEq,bg,Nat.reduceAdd,Nat.reduceEqDiff,Bool.not_true,true_and,reduceIte,Bool.false_eq_true,T3,gg,jm,fR dY,fR dX,fN,tT,Tryz.results55,hb]|simp (disch:=first|omega|(simp only [aU];omega)) only [an,dO]|(with_reducible first|refine ax (hb:=?_)|refine au (hK:=?_)|refine aP (hK:=?_)|refine cQ (fK ?_ aT) ?_|refine cQ (uJ ?_ aT) ?_)|((with_reducible refine aE (id:=0) 16 mixed ?_ ?_);kernel_rfl)|(with_reducible refine bK ?_)|((with_reducible first|refine ai (fun h=>?_) (fun h=>?_)|refine ab (fun h=>?_) (fun h=>?_))<;>(try simp only [h])<;>(try simp only [bf,ba] at h))|omega)
   all_goals first
    | (exfalso;omega)
    | (refine ⟨q+1, ?_,⟨by omega,by rw [hn,show ls.length - q=(ls.length - (q+1))+1 by omega,dy,if_pos ⟨hlt,hb⟩,show i+((q+1:Nat):Int)=i+(q:Nat)+1 by omega]⟩,by omega⟩;rw [show i+((q+1:Nat):Int)=i+(q:Nat)+1 by omega];exact aq bH id)
 ·have hst:=hstop (by omega)
  rw [hst] at hK
  repeat' (first|(with_reducible first|refine aC ?_|refine al (al ?_)|refine aB ?_|refine aw ?_)|simp only [WL,ay,WM,reduceCtorEq,bg,Nat.reduceAdd,Nat.reduceEqDiff,Bool.not_true,true_and,reduceIte,Bool.false_eq_true,T3,gg,jm,fR dY,fR dX,fN,tT,Tryz.results55]|simp (disch:=first|omega|(simp only [aU];omega)) only [an,dO]|(with_reducible first|refine ax (hb:=?_)|refine au (hK:=?_)|refine aP (hK:=?_)|refine cQ (fK ?_ aT) ?_|refine cQ (uJ ?_ aT) ?_)|((with_reducible refine aE (id:=0) 16 mixed ?_ ?_);kernel_rfl)|(with_reducible refine bK ?_)|((with_reducible first|refine ai (fun h=>?_) (fun h=>?_)|refine ab (fun h=>?_) (fun h=>?_))<;>(try simp only [h])<;>(try simp only [bf,ba] at h))|omega)
  all_goals first
   | exact ak ae (aj rfl) hK
   | (exfalso;omega)
theorem iv {k:Int}{t:List Int} (h:3≤t.length) (hl:t.length≤2000) (hK:K (.ret (B (dW (t.drop 3)))) σ):ACallF κ Tryz.prog 57 [.agg [I k,SI none t]] σ K:=by
 refine ACallF.dropL (aa Tryz.func57 rfl ?_);simp only [Tryz.ntmps57]
 repeat' (first|simp only [WL,WM,Int.reduceToNat,Nat.reduceAdd,Nat.reduceSub,Nat.reduceEqDiff,true_and,T3,cb,fR c9,tT,Tryz.results57]|(with_reducible first|refine ax (hb:=?_)|refine au (hK:=?_)|refine aQ (hK:=fun b=>?_)|refine aI (hK:=?_)|refine cD (uJ ?_ ?_))|(simp only [aU];omega))
 exact ak (ah ae) (aj rfl) hK
theorem VW {pr:Nat}{ls:List Ln}{i:Int}{y:AV} (hs:Small ls) (hi:0≤i∧i≤ls.length) (hK:K (.ret (.tup [B (gU ls i).2.1,B (gU ls i).2.2])) (.obj pr (SR ls (gU ls i).1 y)::σ)):ACallF κ Tryz.prog 46 [JP pr] (.obj pr (SR ls i y)::σ) K:=by
 have hl:=hs.1
 have hn0:=kU (ls:=ls) ls.length i
 have hn1:=kR (ls:=ls) ls.length i hi.2
 refine ACallF.dropL (aN Tryz.func46 rfl ?_);simp only [Tryz.ntmps46]
 repeat' (first|(with_reducible first|refine aC ?_|refine bO ?_|refine al (al ?_)|refine aG ?_|refine aB ?_)|simp only [WL,WM,Nat.reduceAdd,Nat.reduceSub,true_and,B0]|with_reducible refine cD (Aq hs (by omega) ?_))
 refine dq (fun x:Nat × Int × Bool=>⟨(JP pr::.any::B false::B false::B x.2.2::.any::.any::.any::.any::.any::.any::.any::.any::.any::.any::.any::.any::.any::.any::.any::.any::.any::.any::.any::.any::.any::.any::.any::.any::.any::.any::.any::.any::.any::.any::.any::.any::.any::.any::.any::.any::.any::.any::.any::.any::.any::[]),.obj pr (SR ls x.2.1 y)::σ,true,[]⟩) (fun x=>(0≤x.2.1∧x.2.1≤ls.length)∧gU ls i=B4 ls x.1 x.2.1 x.2.2∧(ls.length:Int) - x.2.1 < x.1) (fun x=>x.1) (ls.length+1,dy ls ls.length i,false) (aq bH id) ⟨⟨by dsimp only;omega,hn1⟩,rfl,by dsimp only;omega⟩ ?_;rintro ⟨f,j,s⟩ ⟨hj,hd,hf⟩;dsimp only at hj hd hf ⊢;obtain ⟨f,rfl⟩:∃ f',f=f'+1:=⟨f - 1,by omega⟩
 rw [B4] at hd;have hx:=fun h:j.toNat < ls.length=>hs.at_ h
 have hm3:=fun h=>oJ (k:=(aF ls j).1) (t:=(aF ls j).2) h
 have hg1:=kU (ls:=ls) ls.length (j+1)
 dsimp only [aF] at hd hm3;rcases Int.lt_or_le j ls.length with hlt|hge
 ·have hx:=hx (by omega)
  have hg2:=kR (ls:=ls) ls.length (j+1) (by omega)
  by_cases hm:aZ (ls.getD j.toNat (0,[])).1 (ls.getD j.toNat (0,[])).2=2
  ·have hm3:=hm3 (by omega)
   rw [if_pos ⟨hlt,hm⟩] at hd;cases hb:dW ((ls.getD j.toNat (0,[])).2.drop 3)
   ·rw [hb,if_neg (by simp)] at hd
    rw [hd] at hK
    repeat' (first|(with_reducible first|refine al (aC ?_)|refine al (al ?_)|refine aG ?_|refine aw ?_|refine aO ?_)|simp only [WL,ay,WM,reduceCtorEq,bg,Nat.reduceAdd,Nat.reduceEqDiff,Bool.not_true,Bool.not_false,beq_self_eq_true,true_and,reduceIte,Bool.false_eq_true,T3,gg,jm,fR dY,fR dX,fN,fY,ou,Tryz.results46,hm,hb]|simp (disch:=first|omega|(simp only [aU];omega)) only [dO]|(with_reducible first|refine ax (hb:=?_)|refine au (hK:=?_)|refine cQ (fK ?_ aT) ?_|refine cQ (cZ ?_ aT) ?_|refine cQ (iv ?_ ?_ aT) ?_)|((with_reducible refine aE (id:=3) 17 mixed ?_ ?_);kernel_rfl)|((with_reducible refine aE (id:=5) 12 mixed ?_ ?_);kernel_rfl)|(with_reducible refine bK ?_)|((with_reducible first|refine ai (fun h=>?_) (fun h=>?_)|refine ab (fun h=>?_) (fun h=>?_))<;>(try simp only [h])<;>(try simp only [bf,ba] at h))|omega)
    all_goals first
     | exact ak ae (aj rfl) hK
     | (exfalso;omega)
   ·rw [hb,if_pos rfl] at hd
    repeat' (first|(with_reducible first|refine al (aC ?_)|refine al (al ?_)|refine aG ?_|refine aB ?_|refine aw ?_|refine aO ?_)|simp only [WL,ay,WM,reduceCtorEq,bg,Nat.reduceAdd,Nat.reduceEqDiff,Bool.not_true,beq_self_eq_true,true_and,reduceIte,Bool.false_eq_true,T3,gg,jm,fR dY,fR dX,fN,B0,fY,ou,Tryz.results46,hm,hb]|simp (disch:=first|omega|(simp only [aU];omega)) only [an,dO]|(with_reducible first|refine ax (hb:=?_)|refine au (hK:=?_)|refine aP (hK:=?_)|refine cD (Aq hs (by omega) ?_)|refine cQ (fK ?_ aT) ?_|refine cQ (cZ ?_ aT) ?_|refine cQ (iv ?_ ?_ aT) ?_)|((with_reducible refine aE (id:=3) 17 mixed ?_ ?_);kernel_rfl)|((with_reducible refine aE (id:=5) 12 mixed ?_ ?_);kernel_rfl)|(with_reducible refine bK ?_)|((with_reducible first|refine ai (fun h=>?_) (fun h=>?_)|refine ab (fun h=>?_) (fun h=>?_))<;>(try simp only [h])<;>(try simp only [bf,ba] at h))|omega)
    all_goals first
     | (exfalso;omega)
     | exact ⟨(f,dy ls ls.length (j+1),true),aq bH id,⟨⟨by dsimp only;omega,hg2⟩,hd,by dsimp only;omega⟩,by dsimp only;omega⟩
  ·rw [if_neg (fun h=>hm h.2)] at hd
   rw [hd] at hK
   repeat' (first|(with_reducible first|refine al (aC ?_)|refine al (al ?_)|refine aG ?_|refine aB ?_|refine aw ?_|refine aO ?_)|simp only [WL,ay,WM,reduceCtorEq,bg,Nat.reduceAdd,Nat.reduceEqDiff,Bool.not_true,true_and,reduceIte,Bool.false_eq_true,T3,gg,jm,fR dY,fR dX,fN,B0,fY,ou,Tryz.results46]|simp (disch:=first|omega|(simp only [aU];omega)) only [an,dO]|(with_reducible first|refine ax (hb:=?_)|refine au (hK:=?_)|refine aP (hK:=?_)|refine cQ (fK ?_ aT) ?_|refine cD (Aq ?_ ?_ ?_)|refine cQ (cZ ?_ aT) ?_|refine cQ (iv ?_ ?_ aT) ?_)|((with_reducible refine aE (id:=3) 17 mixed ?_ ?_);kernel_rfl)|((with_reducible refine aE (id:=5) 12 mixed ?_ ?_);kernel_rfl)|(with_reducible refine bK ?_)|((with_reducible first|refine ai (fun h=>?_) (fun h=>?_)|refine ab (fun h=>?_) (fun h=>?_))<;>(try simp only [h])<;>(try simp only [bf,ba] at h))|omega)
   all_goals first
    | exact ak ae (aj rfl) hK
    | (exfalso;omega)
 ·rw [if_neg (fun h=>by omega)] at hd
  rw [hd] at hK
  repeat' (first|(with_reducible first|refine al (aC ?_)|refine al (al ?_)|refine aG ?_|refine aB ?_|refine aw ?_|refine aO ?_)|simp only [WL,ay,WM,reduceCtorEq,bg,Nat.reduceAdd,Nat.reduceEqDiff,Bool.not_true,true_and,reduceIte,Bool.false_eq_true,T3,gg,jm,fR dY,fR dX,fN,B0,fY,ou,Tryz.results46]|simp (disch:=first|omega|(simp only [aU];omega)) only [an,dO]|(with_reducible first|refine ax (hb:=?_)|refine au (hK:=?_)|refine aP (hK:=?_)|refine cQ (fK ?_ aT) ?_|refine cD (Aq ?_ ?_ ?_)|refine cQ (cZ ?_ aT) ?_|refine cQ (iv ?_ ?_ aT) ?_)|((with_reducible refine aE (id:=3) 17 mixed ?_ ?_);kernel_rfl)|((with_reducible refine aE (id:=5) 12 mixed ?_ ?_);kernel_rfl)|(with_reducible refine bK ?_)|((with_reducible first|refine ai (fun h=>?_) (fun h=>?_)|refine ab (fun h=>?_) (fun h=>?_))<;>(try simp only [h])<;>(try simp only [bf,ba] at h))|omega)
  all_goals first
   | exact ak ae (aj rfl) hK
   | (exfalso;omega)
instance:TSix Tryz.prog 26:=⟨⟨_,_,_,_,_,_,_,_,Tryz.underlying26,⟨rfl,rfl,rfl,rfl,rfl,rfl⟩,⟨Tryz.underlying3,Tryz.underlying9,Tryz.underlying9,Tryz.underlying9,Tryz.underlying3,Tryz.underlying4⟩,⟨Ut,QP,QP,QP,Ut,Yn⟩⟩,by decide +kernel,by decide +kernel⟩
theorem U4 {l:List EvV}{i:Nat} (h:i < l.length) (cs:List AV):((aD (l.map EVA)++cs).drop (i * 6)).take 6=[I (l.getD i ev0).k,.raw (.string (l.getD i ev0).x),.raw (.string (l.getD i ev0).t),.raw (.string (l.getD i ev0).a),I (l.getD i ev0).s,B (l.getD i ev0).f]:=by
 have:=AE (sz:=6) (by decide) (l.map EVA) cs (oD l) i (EVA (l.getD i ev0)) (by rw [List.getElem?_map,List.getElem?_eq_getElem h,List.getD_eq_getElem?_getD,List.getElem?_eq_getElem h];rfl)
 rw [this];rfl
theorem Nq {rb j n c:Nat}{cs:List AV}{l2:List EvV} [hH:Hold σ rb j cs] (h0:0 < l2.length) (hn:l2.length=n) (hl:n≤1000000000) (hcs:(cs.drop 0).take (n * 6)=aD (l2.map EVA)) (hK:∀ b' c' cs',cs'.length=c' * 6→n≤c'→cs'.take (n * 6)=aD (l2.map EVA)→K (.ret (bT b' 0 n c')) (.obj b' cs'::σ)):ACallF κ Tryz.prog 95 [bT rb 0 n c] σ K:=by
 have hlm:(l2.map EVA).length=n:=by rw [List.length_map];exact hn
 refine ACallF.dropL (aa Tryz.func95 rfl ?_);simp only [Tryz.ntmps95]
 repeat' (first|( with_reducible refine xb ?_)|( with_reducible refine TK (fun b0=>?_))|simp only [WL,WM,Nat.reduceAdd,Nat.reduceSub,true_and,Tryz.results95]|( refine fe (b1:=b0) (n1:=0) (c1:=0) (l2.map EVA) hlm (oD l2) hcs (pz l2) rfl (Nat.le_refl _) (by omega) (by unfold maxLen;omega) (fun b' c' cs' q1 q2 q3=>?_)))
 all_goals
  have hK2:=hK b' c' cs' q1 (by omega) (by rw [Nat.zero_add,hlm] at q3;simpa using q3)
  first
   | exact ak ae (aj (by rw [Nat.zero_add,hn])) hK2
theorem PF {sb:Nat} (hK:K (.ret (.tup [.raw (.string .empty),I 0])) σ):ACallF κ Tryz.prog 96 [JP sb,.raw (.string .empty)] σ K:=by
 have h1:(ByteArray.empty.toList == ({ data:=#[] }:ByteArray).toList)=true:=by
  rw [show ByteArray.empty=({ data:=#[] }:ByteArray) from rfl];exact beq_self_eq_true _
 refine ACallF.dropL (aa Tryz.func96 rfl ?_);simp only [Tryz.ntmps96]
 repeat' (first|simp only [WL,dx,WM,Nat.reduceAdd,Nat.reduceSub,true_and,reduceIte,Tryz.results96,h1])
 all_goals first
  | exact ak ae (aj rfl) hK
end Go.Proofs.YthkabaiamcjdbaaGreat
