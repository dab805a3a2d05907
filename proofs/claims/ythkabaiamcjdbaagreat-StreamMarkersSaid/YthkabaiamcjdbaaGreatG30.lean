/-
  Texts If, Ig, Ip, Ir, Kx, MP, Va, Iz, Vb, one behind the other.
-/
import Derived.Test.YthkabaiamcjdbaaGreatG27
import Derived.Test.YthkabaiamcjdbaaGreatG28
import Derived.Test.YthkabaiamcjdbaaGreatG29
set_option linter.unusedVariables false
set_option linter.unusedSimpArgs false
set_option maxHeartbeats 16000000
/-
 Walks: chapter 1,the form of texts of small bytes.
-/

namespace Go.Proofs.YthkabaiamcjdbaaGreat
open Go.Abs
variable {κ:Ctx} {σ:List Res} {K:Ret→List Res→Prop} {o o':Option (Option (Nat × Nat))}
set_option maxRecDepth 4000 in
theorem Qc {b:List Int} (hb:Asc b) (h1:b.length≤1) (hK:K (.ret (.tup [I 1,I 0])) σ):ACallF κ Tryz.prog 36 [SU o b] σ K:=by
 have hbl:=hb.1
 have hn3:¬((b.length:Int) > 3):=by omega
 have hn1:¬((b.length:Int) > 1):=by omega
 refine ACallF.dropL (aa Tryz.func36 rfl ?_)
 simp only [Tryz.ntmps36]
 repeat' (first|simp only [WL,aD,WM,reduceCtorEq,ba,Nat.reduceAdd,Nat.reduceSub,true_and,reduceIte,Bool.false_eq_true,BC,Gb,Tryz.results36,decide_eq_false hn3,decide_eq_false hn1]|with_reducible refine cF (hK:=?_)|( refine callD_mk (ACallF.argsS (ys:=[SU o b,SU none [0,0,254,255]]) ⟨cr,dF le_ro,trivial⟩ (iQ hb (by decide) (by decide) ?_)))|( refine callD_mk (ACallF.argsS (ys:=[SU o b,SU none [255,254,0,0]]) ⟨cr,dF le_ro,trivial⟩ (iQ hb (by decide) (by decide) ?_)))|( refine callD_mk (ACallF.argsS (ys:=[SU o b,SU none [254,255]]) ⟨cr,dF le_ro,trivial⟩ (iQ hb (by decide) (by decide) ?_)))|( refine callD_mk (ACallF.argsS (ys:=[SU o b,SU none [255,254]]) ⟨cr,dF le_ro,trivial⟩ (iQ hb (by decide) (by decide) ?_)))|( refine callD_mk (ACallF.argsS (ys:=[SU o b,SU none [239,187,191]]) ⟨cr,dF le_ro,trivial⟩ (iQ hb (by decide) (by decide) ?_))))
 all_goals first
  | exact ak ah (aj rfl) hK
  | (exfalso;omega)
theorem Tt {b:List Int} (hb:Asc b) (hK:K (.ret (.tup [I 1,I 0])) σ):ACallF κ Tryz.prog 36 [SU o b] σ K:=by
 rcases Nat.lt_or_ge 1 b.length with h1|h1
 ·rcases Nat.lt_or_ge 3 b.length with h3|h3
  ·exact Qf hb h3 hK
  ·exact Nv hb h1 h3 hK
 ·exact Qc hb h1 hK
theorem Jo {b:List Int} (hb:Asc b) (hK:K (.ret (.tup [SI none b,I 0])) σ):ACallF κ Tryz.prog 26 [SU o b] σ K:=by
 have hbl:=hb.1
 refine ACallF.dropL (aR Tryz.func26 rfl ?_)
 simp only [Tryz.ntmps26]
 repeat' (first|(with_reducible first|refine ay ?_|refine al (al ?_)|refine aJ ?_|refine aB ?_|refine aw ?_|refine aY ?_)|simp only [WL,aD,WM,Int.reduceToNat,reduceCtorEq,ba,Nat.reduceAdd,Nat.reduceSub,Nat.reduceLT,Bool.not_true,beq_self_eq_true,true_and,T5,BC,S0,SY,Tryz.results26]|(with_reducible first|refine aC (hb:=?_)|refine cD (Tt ?_ ?_)|refine cD (M8 ?_ ?_))|((with_reducible first|refine ai (fun h=>?_) (fun h=>?_)|refine ab (fun h=>?_) (fun h=>?_))<;>(try simp only [h])<;>(try simp only [bg,bm] at h))|omega)
 exact ak ah (aj rfl) hK
theorem dS {s:ByteArray} (hb:Asc (cw s)) (hK:K (.ret (SL none (gx (cw s)).1)) σ):ACallF κ Tryz.prog 13 [.raw (.string s)] σ K:=by
 have hbl:=hb.1
 have hsz:=eX s
 refine ACallF.dropL (aa Tryz.func13 rfl ?_)
 simp only [Tryz.ntmps13]
 repeat' (first|simp only [WL,WM,Nat.reduceAdd,Nat.reduceSub,Nat.reduceLT,true_and,t9,SE,Ti,Tryz.results13]|(with_reducible first|refine MV ?_ ?_|refine cD (Jo ?_ ?_)|refine cD (NS ?_ ?_))|omega|(refine bq ?_;(first|omega|(simp only [aT];omega))))
 exact ak ah (aj rfl) hK
end Go.Proofs.YthkabaiamcjdbaaGreat
/-
 Chapter 13: nodes on one line,plain facts.
-/

namespace Go.Proofs.YthkabaiamcjdbaaGreat
open Go.Abs
abbrev Ue (T:List Int):List Ln:=[(0,T)]
theorem Rk {l:List Int} (h:blankI (l.getD 0 0)=false):nj l=0:=by
 cases l with
 | nil=>rfl
 | cons c l =>
  unfold nj
  rw [List.takeWhile_cons,show blankI c=false from h];rfl
end Go.Proofs.YthkabaiamcjdbaaGreat
/-
 Walks: chapter 13's laws: the example of the document.
-/



namespace Go.Proofs.YthkabaiamcjdbaaGreat
open Go.Abs
variable {κ:Ctx} {σ:List Res} {K:Ret→List Res→Prop} {o o':Option (Option (Nat × Nat))}
end Go.Proofs.YthkabaiamcjdbaaGreat
/-
 The abstract layer,part P: a range over a function that gives back what it took with it.
-/


namespace Go.Abs
section
variable {κ:Ctx} {P:Program}
def ub (κ:Ctx) (P:Program) (L:Nat) (K:Ret→List Res→Prop) (G:List Res→Prop):List (List AV)→List Res→Prop
 | [],σ=>∀ ρ,G ρ→K (.ret (.tup [])) (ρ++σ)
 | x::xs,σ=>ACallY κ P L x σ (YK (fun σ'=>ub κ P L K G xs σ') K)
theorem yd {L:Nat}{K:Ret→List Res→Prop} (G:List Res→Prop) (Inv:List (List AV)→List Res→Prop) (hend:∀ σ,Inv [] σ→∀ ρ,G ρ→K (.ret (.tup [])) (ρ++σ)) (round:∀ x xs σ,Inv (x::xs) σ→ACallY κ P L x σ (YK (Inv xs) K)):∀ xs σ,Inv xs σ→ub κ P L K G xs σ
 | [],σ,h=>hend σ h
 | x::xs,σ,h=>(round x xs σ h).mono fun r σ' hr=>by
  unfold YK at hr ⊢
  split at hr
  ·exact yd G Inv hend round xs _ hr
  ·exact hr
  ·exact hr
  ·exact hr.elim
theorem D2 {Q:Exit→St→Prop}{t:List AV}{σ:List Res}{fr:Bool}{df:List Deferred}{f:Operand}{ps:Array Tmp}{assign body:Code} (gf:FuncId) (first cap:List Value) (xs:List (List AV)) (ρ τ:List Res) (Inv:List (List AV)→List Res→Prop) (G:List Res→Prop)
  (hf:(⟨t,σ,fr,df⟩:St).ev f=.raw (.func (.func gf) first.toArray cap.toArray)) (hok:au P gf=True) (hσ:ResW σ (ρ++τ))
  (hiter:∀ (L:Nat) (K:Ret→List Res→Prop) (σ':List Res),ub κ P L K G xs σ'→ACallF κ P gf (first.map .raw++[.raw (.func (.yield L) #[] #[])]++cap.map .raw) (ρ++σ') K)
  (h0:Inv xs τ)
  (hend:∀ τ ρ,Inv [] τ→G ρ→Q .normal ⟨t,ρ++τ,false,df⟩)
  (hround:∀ d,Ix κ P Q t false df ps assign body Inv d) :
  Es κ none P (.rangeFunc f ps assign body) Q ⟨t,σ,fr,df⟩:=by
 refine uP hf (hok ▸ trivial) (fun l d hkn=>?_)
 have hp:ResW (Res.loop l .ready none t ps assign body d::σ) (ρ++(Res.loop l .ready none t ps assign body d::τ)):=((hσ.cons _).trans (ResW.perm List.perm_middle.symm))
 refine ACallF.weak hp ?_
 have e1:(first.toArray.toList.map AV.raw++[.raw (.func (.yield l) #[] #[])]++cap.toArray.toList.map AV.raw)=(first.map .raw++[.raw (.func (.yield l) #[] #[])]++cap.map .raw):=by simp
 rw [e1]
 refine hiter l _ _ (yd G (fun xs σ'=>∃ τ',σ'=.loop l .ready none t ps assign body d::τ'∧Inv xs τ') ?_ ?_ xs _ ⟨τ,rfl,h0⟩)
 ·rintro _ ⟨τ',rfl,hi⟩ ρ' hG
  refine ⟨ρ'.length,.ready,none,by simp,by simp, ?_⟩
  have e:(ρ'++Res.loop l .ready none t ps assign body d::τ').eraseIdx ρ'.length=ρ'++τ':=by
   rw [List.eraseIdx_append_of_length_le (Nat.le_refl _),Nat.sub_self];rfl
  show Q .normal ⟨t,(ρ'++Res.loop l .ready none t ps assign body d::τ').eraseIdx ρ'.length,false,df⟩
  rw [e]
  exact hend τ' ρ' hi hG
 ·rintro x xs _ ⟨τ',rfl,hi⟩
  obtain ⟨h1,h2⟩:=hround d l _ (.loop l .busy none t ps assign body d) ⟨_,_,_,_,_,_,rfl⟩ x xs τ' hi
  exact re (rd:=none) (s0:=⟨t,σ,fr,df⟩) hkn h1 h2
end
section
variable {κ:Ctx} {P:Program} {σ:List Res} {K:AV→List Res→Prop}
theorem qo {t e sz:Nat} (he:g9 P t=some e) (hs:c9 P e=some sz) (hK:∀ b,K (bM b 0 0 0) (.obj b []::σ)):AAct κ P (.bslice t 0 []) [] σ K:=by
 intro φ g w vs hR hv
 have:=mH hv
 subst this
 have ht:=aM he
 obtain ⟨inf,hi,hisz⟩:∃ inf,P.info? e=some inf∧inf.size=sz:=by
  unfold c9 at hs
  cases hi:P.info? e with
  | none=>simp [hi] at hs
  | some inf=>exact ⟨inf,rfl,by simpa [hi] using hs⟩
 have hrun:(Instr.buildSlice t 0 #[]).run P w=.ok (.slice (some ⟨w.heap.size,0,none⟩) 0 0) (w.alloc (.cells #[] e)):=by
  simp [Instr.buildSlice,bu ht,sizeOf,lu hi,Instr.fill,newRow]
  rw [Array.eq_empty_of_size_eq_zero (xs:=Array.map (fun _=>default) (Array.range 0)) (by simp)]
 have hrun':((MA.bslice t 0 []).sem []).run P w=.ok (.slice (some ⟨w.heap.size,0,none⟩) 0 0) (w.alloc (.cells #[] e)):=hrun
 obtain ⟨b1,b2⟩:=hR.new_obj (cs:=[]) (arr:=#[]) e ⟨rfl,fun k x hk=>by simp at hk⟩
 exact ⟨_,_,g,bM w.heap.size 0 0 0,_,hrun',b1.perm List.perm_middle.symm,b2,.raw _,hK _⟩
end
section
variable {κ:Ctx} {P:Program} {all rest:List Oper} {Q:Exit→St→Prop} {d:Option Tmp} {t:List AV} {σ:List Res} {fr:Bool} {df:List Deferred}
theorem PF {ty e:TypeId}{sz by_:Nat}{z:Value} [hs:TSl P ty e sz by_ z] (hK:∀ b,dJ κ false P all Q d rest ⟨t,σ,fr,df⟩ (bM b 0 0 0) (.obj b []::σ)):cC κ false P all Q d rest ⟨t,σ,fr,df⟩ (.bslice ty 0 []) [] :=
 cP (qo hs.sl hs.hz hK)
end
end Go.Abs
/-
 Walks: chapter 15,lines that are passed over.
-/



namespace Go.Proofs.YthkabaiamcjdbaaGreat
open Go.Abs
variable {κ:Ctx} {σ:List Res} {K:Ret→List Res→Prop} {o o':Option (Option (Nat × Nat))}
abbrev SR (ls:List Ln) (i:Int) (y:AV):List AV:=[SL none ls,I i,y]
def fv (ls:List Ln):Nat→Int→Bool→Int × Bool × Bool
 | 0,i,s=>(i,s,true)
 | f+1,i,s=>if i < ls.length∧bB (aE ls i).1 (aE ls i).2=2 then (if cU ((aE ls i).2.drop 3)=true then fv ls f (nextB ls ls.length (i+1)) true else (i,false,false)) else (i,s,true)
def dH (ls:List Ln) (i:Int):Int × Bool × Bool:=fv ls (ls.length+1) (nextB ls ls.length i) false
theorem mT {k:Int}{t:List Int} (h:¬bB k t=0):3≤t.length:=by
 unfold bB at h
 split at h
 ·rename_i h1;exact h1.2.1
 ·exact absurd rfl h
theorem gr {pr ix:Nat}{ls:List Ln}{i:Int}{y:AV} [hJ:Hold σ pr ix (SR ls i y)] (hs:Small ls) (hK:K (.ret (B (decide (i=ls.length)))) σ):ACallF κ Tryz.prog 47 [JP pr] σ K:=by
 refine ACallF.dropL (aa Tryz.func47 rfl ?_)
 simp only [Tryz.ntmps47]
 repeat' (first|simp only [WL,aD,WM,reduceCtorEq,ba,Nat.reduceAdd,Nat.reduceSub,Nat.reduceEqDiff,true_and,T3,fT,fR eP,fR eR,Tryz.results47]|(with_reducible first|refine aC (hb:=?_)|refine ax (hK:=?_))|((with_reducible refine aH (id:=1) 11 mixed ?_ ?_);kernel_rfl)|(with_reducible refine bP ?_))
 exact ak ah (aj (congrArg B (by rw [Bool.eq_iff_iff];simp))) hK
theorem BH {pr:Nat}{ls:List Ln}{i:Int}{y:AV} (hs:Small ls) (hi:0≤i∧i≤ls.length) (hK:K (.ret (.tup [])) (.obj pr (SR ls (nextB ls ls.length i) y)::σ)):ACallF κ Tryz.prog 55 [JP pr] (.obj pr (SR ls i y)::σ) K:=by
 have hl:=hs.1
 refine ACallF.dropL (aR Tryz.func55 rfl ?_)
 simp only [Tryz.ntmps55]
 repeat' (first|(with_reducible first|refine ay ?_|refine bW ?_)|simp only [WM,Nat.reduceAdd,Nat.reduceSub])
 refine dM (fun q:Nat=>⟨(JP pr::.any::.any::.any::.any::.any::.any::.any::.any::.any::.any::.any::.any::.any::.any::.any::.any::.any::.any::.any::.any::.any::.any::.any::.any::[]),.obj pr (SR ls (i+(q:Nat)) y)::σ,true,[]⟩) (fun q=>i+(q:Nat)≤ls.length∧nextB ls ls.length i=nextB ls (ls.length - q) (i+(q:Nat))) (fun q=>ls.length - q) 0 ?_ ⟨by omega,by simp⟩ ?_
 ·rw [show i+((0:Nat):Int)=i by omega]
  exact ao bz id
 rintro q ⟨hq,hn⟩
 have hx:=fun h:(i+(q:Nat)).toNat < ls.length=>hs.at_ h
 have hstop:¬(i+(q:Nat) < ls.length∧cU (aE ls (i+(q:Nat))).2=true)→nextB ls ls.length i=i+(q:Nat):=fun h=>by
  rw [hn]
  cases ls.length - q with
  | zero=>rfl
  | succ f=>rw [nextB,if_neg h]
 rcases Int.lt_or_le (i+(q:Nat)) ls.length with hlt|hge
 ·have hx:=hx (by omega)
  cases hb:cU (ls.getD (i+(q:Nat)).toNat (0,[])).2
  ·have hst:=hstop (by rintro ⟨-,h⟩;dsimp only [aE] at h;rw [hb] at h;cases h)
   rw [hst] at hK
   repeat' (first|(with_reducible first|refine al (al ?_)|refine aw ?_)|simp only [WL,WM,Nat.reduceAdd,Nat.reduceEqDiff,Bool.not_true,true_and,reduceIte,Bool.false_eq_true,T3,fT,jb,fR eP,fR eR,gu,rC,Tryz.results55,hb]|simp (disch:=first|omega|(simp only [aT];omega)) only [dN]|(with_reducible first|refine aC (hb:=?_)|refine ax (hK:=?_)|refine cQ (gr ?_ aW) ?_|refine cQ (sv ?_ aW) ?_)|((with_reducible refine aH (id:=0) 16 mixed ?_ ?_);kernel_rfl)|(with_reducible refine bP ?_)|((with_reducible first|refine ai (fun h=>?_) (fun h=>?_)|refine ab (fun h=>?_) (fun h=>?_))<;>(try simp only [h])<;>(try simp only [bg,bm] at h))|omega)
   all_goals first
    | exact ak ah (aj rfl) hK
    | (exfalso;omega)
  ·skip
   repeat' (first|(with_reducible first|refine ay ?_|refine al (al ?_)|refine aB ?_|refine aw ?_)|simp only [WL,aD,WM,reduceCtorEq,ba,Nat.reduceAdd,Nat.reduceEqDiff,Bool.not_true,true_and,reduceIte,Bool.false_eq_true,T3,fT,jb,fR eP,fR eR,gu,rC,Tryz.results55,hb]|simp (disch:=first|omega|(simp only [aT];omega)) only [aq,dN]|(with_reducible first|refine aC (hb:=?_)|refine ax (hK:=?_)|refine aO (hK:=?_)|refine cQ (gr ?_ aW) ?_|refine cQ (sv ?_ aW) ?_)|((with_reducible refine aH (id:=0) 16 mixed ?_ ?_);kernel_rfl)|(with_reducible refine bP ?_)|((with_reducible first|refine ai (fun h=>?_) (fun h=>?_)|refine ab (fun h=>?_) (fun h=>?_))<;>(try simp only [h])<;>(try simp only [bg,bm] at h))|omega)
   all_goals first
    | (exfalso;omega)
    | (refine ⟨q+1, ?_,⟨by omega,by rw [hn,show ls.length - q=(ls.length - (q+1))+1 by omega,nextB,if_pos ⟨hlt,hb⟩,show i+((q+1:Nat):Int)=i+(q:Nat)+1 by omega]⟩,by omega⟩;rw [show i+((q+1:Nat):Int)=i+(q:Nat)+1 by omega];exact ao bz id)
 ·have hst:=hstop (by omega)
  rw [hst] at hK
  repeat' (first|(with_reducible first|refine ay ?_|refine al (al ?_)|refine aB ?_|refine aw ?_)|simp only [WL,aD,WM,reduceCtorEq,ba,Nat.reduceAdd,Nat.reduceEqDiff,Bool.not_true,true_and,reduceIte,Bool.false_eq_true,T3,fT,jb,fR eP,fR eR,gu,rC,Tryz.results55]|simp (disch:=first|omega|(simp only [aT];omega)) only [aq,dN]|(with_reducible first|refine aC (hb:=?_)|refine ax (hK:=?_)|refine aO (hK:=?_)|refine cQ (gr ?_ aW) ?_|refine cQ (sv ?_ aW) ?_)|((with_reducible refine aH (id:=0) 16 mixed ?_ ?_);kernel_rfl)|(with_reducible refine bP ?_)|((with_reducible first|refine ai (fun h=>?_) (fun h=>?_)|refine ab (fun h=>?_) (fun h=>?_))<;>(try simp only [h])<;>(try simp only [bg,bm] at h))|omega)
  all_goals first
   | exact ak ah (aj rfl) hK
   | (exfalso;omega)
theorem fF {k:Int}{t:List Int} (h:3≤t.length) (hl:t.length≤2000) (hK:K (.ret (B (cU (t.drop 3)))) σ):ACallF κ Tryz.prog 57 [.agg [I k,SI none t]] σ K:=by
 refine ACallF.dropL (aa Tryz.func57 rfl ?_)
 simp only [Tryz.ntmps57]
 repeat' (first|simp only [WL,WM,Int.reduceToNat,Nat.reduceAdd,Nat.reduceSub,Nat.reduceEqDiff,true_and,T3,bX,fR dP,rC,Tryz.results57]|(with_reducible first|refine aC (hb:=?_)|refine ax (hK:=?_)|refine aP (hK:=fun b=>?_)|refine aG (hK:=?_)|refine cD (sv ?_ ?_))|(simp only [aT];omega))
 exact ak (ae ah) (aj rfl) hK
theorem Ro {pr:Nat}{ls:List Ln}{i:Int}{y:AV} (hs:Small ls) (hi:0≤i∧i≤ls.length) (hK:K (.ret (.tup [B (dH ls i).2.1,B (dH ls i).2.2])) (.obj pr (SR ls (dH ls i).1 y)::σ)):ACallF κ Tryz.prog 46 [JP pr] (.obj pr (SR ls i y)::σ) K:=by
 have hl:=hs.1
 have hn0:=jO (ls:=ls) ls.length i
 have hn1:=nW (ls:=ls) ls.length i hi.2
 refine ACallF.dropL (aR Tryz.func46 rfl ?_)
 simp only [Tryz.ntmps46]
 repeat' (first|(with_reducible first|refine ay ?_|refine bW ?_|refine al (al ?_)|refine aJ ?_|refine aB ?_)|simp only [WL,WM,Nat.reduceAdd,Nat.reduceSub,true_and,BZ]|with_reducible refine cD (BH hs (by omega) ?_))
 refine dM (fun x:Nat × Int × Bool=>⟨(JP pr::.any::B false::B false::B x.2.2::.any::.any::.any::.any::.any::.any::.any::.any::.any::.any::.any::.any::.any::.any::.any::.any::.any::.any::.any::.any::.any::.any::.any::.any::.any::.any::.any::.any::.any::.any::.any::.any::.any::.any::.any::.any::.any::.any::.any::.any::.any::[]),.obj pr (SR ls x.2.1 y)::σ,true,[]⟩) (fun x=>(0≤x.2.1∧x.2.1≤ls.length)∧dH ls i=fv ls x.1 x.2.1 x.2.2∧(ls.length:Int) - x.2.1 < x.1) (fun x=>x.1) (ls.length+1,nextB ls ls.length i,false) (ao bz id) ⟨⟨by dsimp only;omega,hn1⟩,rfl,by dsimp only;omega⟩ ?_
 rintro ⟨f,j,s⟩ ⟨hj,hd,hf⟩
 dsimp only at hj hd hf ⊢
 obtain ⟨f,rfl⟩:∃ f',f=f'+1:=⟨f - 1,by omega⟩
 rw [fv] at hd
 have hx:=fun h:j.toNat < ls.length=>hs.at_ h
 have hm3:=fun h=>mT (k:=(aE ls j).1) (t:=(aE ls j).2) h
 have hg1:=jO (ls:=ls) ls.length (j+1)
 dsimp only [aE] at hd hm3
 rcases Int.lt_or_le j ls.length with hlt|hge
 ·have hx:=hx (by omega)
  have hg2:=nW (ls:=ls) ls.length (j+1) (by omega)
  by_cases hm:bB (ls.getD j.toNat (0,[])).1 (ls.getD j.toNat (0,[])).2=2
  ·have hm3:=hm3 (by omega)
   rw [if_pos ⟨hlt,hm⟩] at hd
   cases hb:cU ((ls.getD j.toNat (0,[])).2.drop 3)
   ·rw [hb,if_neg (by simp)] at hd
    rw [hd] at hK
    repeat' (first|(with_reducible first|refine al (ay ?_)|refine al (al ?_)|refine aJ ?_|refine aw ?_|refine aY ?_)|simp only [WL,aD,WM,reduceCtorEq,ba,Nat.reduceAdd,Nat.reduceEqDiff,Bool.not_true,Bool.not_false,beq_self_eq_true,true_and,reduceIte,Bool.false_eq_true,T3,fT,jb,fR eP,fR eR,gu,f7,ku,Tryz.results46,hm,hb]|simp (disch:=first|omega|(simp only [aT];omega)) only [dN]|(with_reducible first|refine aC (hb:=?_)|refine ax (hK:=?_)|refine cQ (gr ?_ aW) ?_|refine cQ (dh ?_ aW) ?_|refine cQ (fF ?_ ?_ aW) ?_)|((with_reducible refine aH (id:=3) 17 mixed ?_ ?_);kernel_rfl)|((with_reducible refine aH (id:=5) 12 mixed ?_ ?_);kernel_rfl)|(with_reducible refine bP ?_)|((with_reducible first|refine ai (fun h=>?_) (fun h=>?_)|refine ab (fun h=>?_) (fun h=>?_))<;>(try simp only [h])<;>(try simp only [bg,bm] at h))|omega)
    all_goals first
     | exact ak ah (aj rfl) hK
     | (exfalso;omega)
   ·rw [hb,if_pos rfl] at hd
    repeat' (first|(with_reducible first|refine al (ay ?_)|refine al (al ?_)|refine aJ ?_|refine aB ?_|refine aw ?_|refine aY ?_)|simp only [WL,aD,WM,reduceCtorEq,ba,Nat.reduceAdd,Nat.reduceEqDiff,Bool.not_true,beq_self_eq_true,true_and,reduceIte,Bool.false_eq_true,T3,fT,jb,fR eP,fR eR,gu,BZ,f7,ku,Tryz.results46,hm,hb]|simp (disch:=first|omega|(simp only [aT];omega)) only [aq,dN]|(with_reducible first|refine aC (hb:=?_)|refine ax (hK:=?_)|refine aO (hK:=?_)|refine cD (BH hs (by omega) ?_)|refine cQ (gr ?_ aW) ?_|refine cQ (dh ?_ aW) ?_|refine cQ (fF ?_ ?_ aW) ?_)|((with_reducible refine aH (id:=3) 17 mixed ?_ ?_);kernel_rfl)|((with_reducible refine aH (id:=5) 12 mixed ?_ ?_);kernel_rfl)|(with_reducible refine bP ?_)|((with_reducible first|refine ai (fun h=>?_) (fun h=>?_)|refine ab (fun h=>?_) (fun h=>?_))<;>(try simp only [h])<;>(try simp only [bg,bm] at h))|omega)
    all_goals first
     | (exfalso;omega)
     | exact ⟨(f,nextB ls ls.length (j+1),true),ao bz id,⟨⟨by dsimp only;omega,hg2⟩,hd,by dsimp only;omega⟩,by dsimp only;omega⟩
  ·rw [if_neg (fun h=>hm h.2)] at hd
   rw [hd] at hK
   repeat' (first|(with_reducible first|refine al (ay ?_)|refine al (al ?_)|refine aJ ?_|refine aB ?_|refine aw ?_|refine aY ?_)|simp only [WL,aD,WM,reduceCtorEq,ba,Nat.reduceAdd,Nat.reduceEqDiff,Bool.not_true,true_and,reduceIte,Bool.false_eq_true,T3,fT,jb,fR eP,fR eR,gu,BZ,f7,ku,Tryz.results46]|simp (disch:=first|omega|(simp only [aT];omega)) only [aq,dN]|(with_reducible first|refine aC (hb:=?_)|refine ax (hK:=?_)|refine aO (hK:=?_)|refine cQ (gr ?_ aW) ?_|refine cD (BH ?_ ?_ ?_)|refine cQ (dh ?_ aW) ?_|refine cQ (fF ?_ ?_ aW) ?_)|((with_reducible refine aH (id:=3) 17 mixed ?_ ?_);kernel_rfl)|((with_reducible refine aH (id:=5) 12 mixed ?_ ?_);kernel_rfl)|(with_reducible refine bP ?_)|((with_reducible first|refine ai (fun h=>?_) (fun h=>?_)|refine ab (fun h=>?_) (fun h=>?_))<;>(try simp only [h])<;>(try simp only [bg,bm] at h))|omega)
   all_goals first
    | exact ak ah (aj rfl) hK
    | (exfalso;omega)
 ·rw [if_neg (fun h=>by omega)] at hd
  rw [hd] at hK
  repeat' (first|(with_reducible first|refine al (ay ?_)|refine al (al ?_)|refine aJ ?_|refine aB ?_|refine aw ?_|refine aY ?_)|simp only [WL,aD,WM,reduceCtorEq,ba,Nat.reduceAdd,Nat.reduceEqDiff,Bool.not_true,true_and,reduceIte,Bool.false_eq_true,T3,fT,jb,fR eP,fR eR,gu,BZ,f7,ku,Tryz.results46]|simp (disch:=first|omega|(simp only [aT];omega)) only [aq,dN]|(with_reducible first|refine aC (hb:=?_)|refine ax (hK:=?_)|refine aO (hK:=?_)|refine cQ (gr ?_ aW) ?_|refine cD (BH ?_ ?_ ?_)|refine cQ (dh ?_ aW) ?_|refine cQ (fF ?_ ?_ aW) ?_)|((with_reducible refine aH (id:=3) 17 mixed ?_ ?_);kernel_rfl)|((with_reducible refine aH (id:=5) 12 mixed ?_ ?_);kernel_rfl)|(with_reducible refine bP ?_)|((with_reducible first|refine ai (fun h=>?_) (fun h=>?_)|refine ab (fun h=>?_) (fun h=>?_))<;>(try simp only [h])<;>(try simp only [bg,bm] at h))|omega)
  all_goals first
   | exact ak ah (aj rfl) hK
   | (exfalso;omega)
instance:TSix Tryz.prog 26:=⟨⟨_,_,_,_,_,_,_,_,Tryz.underlying26,⟨rfl,rfl,rfl,rfl,rfl,rfl⟩,⟨Tryz.underlying3,Tryz.underlying9,Tryz.underlying9,Tryz.underlying9,Tryz.underlying3,Tryz.underlying4⟩,⟨OV,LO,LO,LO,OV,TB⟩⟩,by decide +kernel,by decide +kernel⟩
theorem Ii {l:List EvV}{i:Nat} (h:i < l.length) (cs:List AV):((aI (l.map EVA)++cs).drop (i * 6)).take 6=[I (l.getD i zw).k,.raw (.string (l.getD i zw).x),.raw (.string (l.getD i zw).t),.raw (.string (l.getD i zw).a),I (l.getD i zw).s,B (l.getD i zw).f]:=by
 have:=zi (sz:=6) (by decide) (l.map EVA) cs (mG l) i (EVA (l.getD i zw)) (by rw [List.getElem?_map,List.getElem?_eq_getElem h,List.getD_eq_getElem?_getD,List.getElem?_eq_getElem h];rfl)
 rw [this];rfl
theorem ss {rb rc ix:Nat}{l:List EvV}{cs:List AV} [hH:Hold σ rb ix (aI (l.map EVA)++cs)] (hl:l.length≤1000000000) (hK:K (.ret (B true)) σ):ACallF κ Tryz.prog 15 [bM rb 0 l.length rc,.sl 6 o (l.map EVA)] σ K:=by
 have hlm:(l.map EVA).length=l.length:=List.length_map _
 have hcl:(aI (l.map EVA)).length=l.length * 6:=by rw [cZ _ (mG l),hlm]
 refine ACallF.dropL (aa Tryz.func15 rfl ?_)
 simp only [Tryz.ntmps15]
 repeat' (first|simp only [WL,aD,WM,reduceCtorEq,ba,Nat.reduceAdd,Nat.reduceSub,true_and,jU,hlm,bne_self_eq_false])
 refine bH (fun i:Nat=>⟨(bM rb 0 l.length rc::.sl 6 o (l.map EVA)::.any::.any::.any::I i::.any::.any::.any::.any::.any::.any::.any::.any::.any::.any::.any::.any::.any::.any::.any::.any::.any::.any::.any::.any::[]),σ,true,[]⟩) (fun i=>i≤l.length) (fun i=>l.length - i) 0 (ao bz id) (Nat.zero_le _) ?_
 intro i hi
 rcases Nat.lt_or_ge i l.length with h|h
 ·have e1:=Ii h cs
  repeat' (first|( with_reducible refine iL (hK:=?_))|( with_reducible refine Dx ?_)|( with_reducible refine aA (hn:=by rw [List.length_append,hcl];omega) (hK:=?_))|simp only [WL,aD,WM,reduceCtorEq,ba,Nat.reduceAdd,true_and,jU,Uc,Tryz.results15,hlm,e1,Nat.zero_add]|simp (disch:=first|omega|(simp only [aT];omega)) only [aq,Lf]|with_reducible refine aC (hb:=?_)|((with_reducible refine aH (id:=6) 9 mixed ?_ ?_);kernel_rfl)|(with_reducible refine bP ?_)|((with_reducible first|refine ai (fun h=>?_) (fun h=>?_)|refine ab (fun h=>?_) (fun h=>?_))<;>(try simp only [h])<;>(try simp only [bg,bm] at h))|omega)
  exact ⟨i+1,ao bz id,by omega,by omega⟩
 ·repeat' (first|simp only [WL,aD,WM,ne_eq,reduceCtorEq,not_false_eq_true,true_and,jU,Tryz.results15]|((with_reducible refine aH (id:=6) 9 mixed ?_ ?_);kernel_rfl)|((with_reducible first|refine ai (fun h=>?_) (fun h=>?_)|refine ab (fun h=>?_) (fun h=>?_))<;>(try simp only [h])<;>(try simp only [bg,bm] at h))|omega)
  exact ak ah (aj rfl) hK
theorem Ov {l:List EvV}{i:Nat} (h:i < l.length) (ht:(l.getD i zw).t=.empty) (cs:List AV):(aI (l.map EVA)++cs).set (i * 6+2) (.raw (.string .empty))=aI (l.map EVA)++cs:=by
 have h1:=congrArg (fun x:List AV=>x[2]?) (Ii h cs)
 simp only [List.getElem?_take,List.getElem?_drop,ht] at h1
 rw [if_pos (by decide)] at h1
 have h1:(aI (l.map EVA)++cs)[i * 6+2]? = some (.raw (.string .empty)):=h1
 generalize aI (l.map EVA)++cs=L at *
 refine List.ext_getElem? fun k=>?_
 rw [List.getElem?_set]
 split
 ·rename_i e
  subst e
  rw [h1,if_pos]
  exact (List.getElem?_eq_some_iff.1 h1).1
 ·rfl
theorem JS {rb j n c:Nat}{cs:List AV}{l2:List EvV} [hH:Hold σ rb j cs] (h0:0 < l2.length) (hn:l2.length=n) (hl:n≤1000000000) (hcs:(cs.drop 0).take (n * 6)=aI (l2.map EVA)) (hK:∀ b' c' cs',cs'.length=c' * 6→n≤c'→cs'.take (n * 6)=aI (l2.map EVA)→K (.ret (bM b' 0 n c')) (.obj b' cs'::σ)):ACallF κ Tryz.prog 95 [bM rb 0 n c] σ K:=by
 have hlm:(l2.map EVA).length=n:=by rw [List.length_map];exact hn
 refine ACallF.dropL (aa Tryz.func95 rfl ?_)
 simp only [Tryz.ntmps95]
 repeat' (first|( with_reducible refine tR ?_)|( with_reducible refine PF (fun b0=>?_))|simp only [WL,WM,Nat.reduceAdd,Nat.reduceSub,true_and,Tryz.results95]|( refine c6 (b1:=b0) (n1:=0) (c1:=0) (l2.map EVA) hlm (mG l2) hcs (nZ l2) rfl (Nat.le_refl _) (by omega) (by unfold maxLen;omega) (fun b' c' cs' q1 q2 q3=>?_)))
 all_goals
  have hK2:=hK b' c' cs' q1 (by omega) (by rw [Nat.zero_add,hlm] at q3;simpa using q3)
  first
   | exact ak ah (aj (by rw [Nat.zero_add,hn])) hK2
theorem Jr {sb:Nat} (hK:K (.ret (.tup [.raw (.string .empty),I 0])) σ):ACallF κ Tryz.prog 96 [JP sb,.raw (.string .empty)] σ K:=by
 have h1:(ByteArray.empty.toList == ({ data:=#[] }:ByteArray).toList)=true:=by
  rw [show ByteArray.empty=({ data:=#[] }:ByteArray) from rfl]
  exact beq_self_eq_true _
 refine ACallF.dropL (aa Tryz.func96 rfl ?_)
 simp only [Tryz.ntmps96]
 repeat' (first|simp only [WL,gE,WM,Nat.reduceAdd,Nat.reduceSub,true_and,reduceIte,Tryz.results96,h1])
 all_goals first
  | exact ak ah (aj rfl) hK
theorem kW {rb ix rc sb:Nat}{l:List EvV}{cs:List AV} [hH:Hold σ rb ix (aI (l.map EVA)++cs)] (h0:0 < l.length) (hl:l.length≤1000000000) (ht:∀ i,i < l.length→(l.getD i zw).t=.empty) (hK:∀ b c cs',l.length≤c→(aI (l.map EVA)++cs').length=c * 6→K (.ret (.tup [bM b 0 l.length c,I 0])) (.obj b (aI (l.map EVA)++cs')::σ)):ACallF κ Tryz.prog 75 [bM rb 0 l.length rc,JP sb] σ K:=by
 have hcl:(aI (l.map EVA)).length=l.length * 6:=by rw [cZ _ (mG l),List.length_map]
 have htk:((aI (l.map EVA)++cs).drop 0).take (l.length * 6)=aI (l.map EVA):=by rw [List.drop_zero,← hcl,List.take_left]
 refine ACallF.dropL (aR Tryz.func75 rfl ?_)
 simp only [Tryz.ntmps75]
 repeat' (first|(with_reducible first|refine ay ?_|refine bW ?_|refine al (al ?_)|refine aJ ?_|refine aB ?_)|simp only [WL,WM,Nat.reduceAdd,Nat.reduceSub,true_and,jU,L3]|( refine callD_mk (JS (l2:=l) h0 rfl hl htk (fun b' c' cs' q1 q2 q3=>?_))))
 obtain ⟨cs2,rfl⟩:∃ cs2,cs'=aI (l.map EVA)++cs2:=⟨cs'.drop (l.length * 6),by rw [← q3,List.take_append_drop]⟩
 refine dM (fun q:Nat=>⟨(bM rb 0 l.length rc::JP sb::.any::.any::.any::.any::bM b' 0 l.length c'::.any::.any::.any::.any::.any::.any::bM b' 0 l.length c'::I l.length::I q::.any::.any::.any::.any::.any::.any::.any::.any::.any::.any::.any::.any::.any::.any::.any::.any::.any::.any::.any::.any::.any::[]),.obj b' (aI (l.map EVA)++cs2)::σ,true,[]⟩) (fun q=>q≤l.length) (fun q=>l.length - q) 0 (ao bz id) (Nat.zero_le _) ?_
 intro q hq
 rcases Nat.lt_or_ge q l.length with hqn|hqn
 ·have e1:=Ii hqn cs2
  have e2:=Ov hqn (ht q hqn) cs2
  rw [ht q hqn] at e1
  repeat' (first|( with_reducible refine iL (hK:=?_))|( with_reducible refine aA (hn:=by rw [List.length_append,hcl];omega) (hK:=?_))|(with_reducible first|refine al (ay ?_)|refine al (al ?_)|refine aJ ?_|refine aB ?_|refine aw ?_|refine aY ?_)|simp only [WL,aD,WM,reduceCtorEq,ba,Nat.reduceAdd,Nat.reduceLT,Nat.reduceEqDiff,true_and,T9,fR qQ,R6,Tryz.results75,e1,e2,Nat.zero_add]|simp (disch:=first|omega|(simp only [aT];omega)) only [aq]|(with_reducible first|refine aC (hb:=?_)|refine ax (hK:=?_)|refine aO (hK:=?_)|refine az (hK:=?_)|refine aS (hK:=fun b=>?_)|refine callD_mk (Jr ?_))|((with_reducible first|refine ai (fun h=>?_) (fun h=>?_)|refine ab (fun h=>?_) (fun h=>?_))<;>(try simp only [h])<;>(try simp only [bg,bm] at h))|omega)
  all_goals first
   | exact absurd trivial (by assumption)
   | exact ⟨q+1,aL bz (ResW.sub (List.sublist_cons_self _ _)) id,hqn,by omega⟩
 ·obtain rfl:q=l.length:=by omega
  repeat' (first|(with_reducible first|refine al (ay ?_)|refine aJ ?_|refine aY ?_)|simp only [WL,aD,WM,ne_eq,reduceCtorEq,not_false_eq_true,true_and,Tryz.results75]|((with_reducible first|refine ai (fun h=>?_) (fun h=>?_)|refine ab (fun h=>?_) (fun h=>?_))<;>(try simp only [h])<;>(try simp only [bg,bm] at h))|omega)
  exact ak bE (aj rfl) (hK _ _ _ q2 q1)
end Go.Proofs.YthkabaiamcjdbaaGreat
