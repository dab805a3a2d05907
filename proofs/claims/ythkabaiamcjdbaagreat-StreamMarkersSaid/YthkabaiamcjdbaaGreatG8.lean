/-
  Texts Pc, He, MG, Hf, Hg, Hh, Hj, Hi, Fe, St, one behind the other.
-/
import Derived.Test.YthkabaiamcjdbaaGreatG7
set_option linter.unusedVariables false
set_option linter.unusedSimpArgs false
set_option maxHeartbeats 16000000
/-
 Walks: chapter 11,tags.
-/

namespace Go.Proofs.YthkabaiamcjdbaaGreat
open Go.Abs
variable {κ:Ctx} {σ:List Res} {K:Ret→List Res→Prop} {o o':Option (Option (Nat × Nat))}
theorem Do {k:Nat} (h:k < qt.length):0≤qt.getD k 0∧qt.getD k 0≤255:=by
 have:∀ c∈qt,0≤c∧c≤255:=by decide
 rw [List.getD_eq_getElem?_getD,List.getElem?_eq_getElem h]
 exact this _ (List.getElem_mem h)
theorem EL {c:Int}{k:Nat} (h:k < qt.length) (hc:c=qt.getD k 0):wH c=true:=by
 unfold wH
 rw [decide_eq_true_eq,hc,List.getD_eq_getElem?_getD,List.getElem?_eq_getElem h]
 exact List.getElem_mem h
theorem Jw {c:Int} (h:∀ j,j < qt.length→¬c=qt.getD j 0):wH c=false:=by
 unfold wH
 rw [decide_eq_false_iff_not]
 intro hm
 obtain ⟨j,hj,e⟩:=List.getElem_of_mem hm
 exact h j hj (by rw [List.getD_eq_getElem?_getD,List.getElem?_eq_getElem hj];exact e.symm)
theorem LC {l:List Int} (hl:l.length≤1000000000) (hK:K (.ret (I (ck l))) σ):ACallF κ Tryz.prog 197 [SI o l] σ K:=by
 have e0:ck l=ck (l.drop 0):=rfl
 refine ACallF.dropL (aR Tryz.func197 rfl ?_)
 simp only [Tryz.ntmps197]
 repeat' (first|(with_reducible first|refine ay ?_|refine bW ?_|refine al (al ?_)|refine aJ ?_|refine aB ?_|refine aw ?_)|simp only [WL,aD,WM,Int.reduceToNat,reduceCtorEq,ba,Nat.reduceAdd,Nat.reduceSub,Bool.not_true,true_and,reduceIte,Bool.false_eq_true,kD,List.eraseIdx_cons_zero,T3,bX,BC,GA,GR,Tryz.results197]|simp (disch:=first|omega|(simp only [aT];omega)) only [aV]|(with_reducible first|refine aC (hb:=?_)|refine QI (ty:=63) (hK:=fun tb=>?_)|refine Qh (hK:=?_)|refine cD (LB ?_)|refine cD (R9 ?_))|((with_reducible first|refine ai (fun h=>?_) (fun h=>?_)|refine ab (fun h=>?_) (fun h=>?_))<;>(try simp only [h])<;>(try simp only [bg,bm] at h)))
 ·exact ak ah (aj (by rw [e0,Pd (by omega)];rfl)) hK
 ·exact ak ah (aj (by rw [e0,OX (by omega) (by assumption) (by assumption) (by assumption)];rfl)) hK
 ·exact ak ah (aj (by rw [e0,vQ (by omega) (by assumption) (.inr (.inr (by assumption)))];rfl)) hK
 ·exact ak ah (aj (by rw [e0,vQ (by omega) (by assumption) (.inr (.inl (by assumption)))];rfl)) hK
 ·exact ak ah (aj (by rw [e0,vQ (by omega) (by assumption) (.inl (by omega))];rfl)) hK
 ·exact ak ah (aj (by rw [e0,OR (by omega) (by assumption)];rfl)) hK
 have h21:qt.length=21:=rfl
 refine dM (fun k:Nat=>⟨(SI o l::.any::.any::.any::.any::.any::.any::.any::.any::.any::.any::.any::.any::.any::.any::.any::.any::.any::.any::.any::.any::.any::.any::.any::.any::.any::.any::.any::.any::.any::.any::.any::.any::.any::SU none qt::I 21::I k::.any::.any::.any::.any::.any::.any::.any::.any::.any::.any::[]),σ,true,[]⟩) (fun k=>k≤21∧∀ j,j < k→¬l.getD 0 0=qt.getD j 0) (fun k=>21 - k) 0 (ao bz id) ⟨Nat.zero_le _,fun j h=>by omega⟩ ?_
 rintro k ⟨hk,hn⟩
 have hb:=fun h=>Do (k:=k) h
 repeat' (first|(with_reducible first|refine al (ay ?_)|refine aJ ?_|refine aB ?_|refine aw ?_|refine aY ?_)|simp only [WL,aD,WM,Int.reduceToNat,reduceCtorEq,ba,Nat.reduceAdd,true_and,T3,T5,bX,BC,cI K6,Tryz.results197]|simp (disch:=first|omega|(simp only [aT];omega)) only [aq,aV,D3]|with_reducible refine aC (hb:=?_)|((with_reducible first|refine ai (fun h=>?_) (fun h=>?_)|refine ab (fun h=>?_) (fun h=>?_))<;>(try simp only [h])<;>(try simp only [bg,bm] at h)))
 ·exact ak ah (aj (by rw [e0,OI (by omega) (EL (k:=k) (by omega) (by assumption))];rfl)) hK
 ·exact ⟨k+1,ao bz id,⟨by omega,fun j hj=>by
   rcases Nat.lt_or_ge j k with h'|h'
   ·exact hn j h'
   ·obtain rfl:j=k:=by omega
    assumption⟩,by omega⟩
 ·exact ak ah (aj (by rw [e0,O8 (by omega) (by assumption) (by assumption) (Jw (fun j hj=>hn j (by omega)))];rfl)) hK
theorem Ru {l:List Int} (hK:∀ b,K (.ret (.raw (.func (.func 196) #[] #[.pointer (some ⟨b,0,none⟩)]))) (.obj b [SI o l]::σ)):ACallF κ Tryz.prog 167 [SI o l] σ K:=by
 refine ACallF.dropL (aa Tryz.func167 rfl ?_)
 simp only [Tryz.ntmps167]
 repeat' (first|simp only [WL,WM,Nat.reduceAdd,Nat.reduceSub,true_and,Tryz.results167]|with_reducible refine aP (hK:=fun b=>?_))
 exact ak ah (aj rfl) (hK _)
abbrev kf (l:List Int) (i:Nat):List (List AV):=(lJ l i).map fun p=>[I p.1,I p.2]
theorem KQ {b L:Nat}{l:List Int} (hl:l.length≤1000000000) (hI:Iter κ Tryz.prog L K (kf l 0) σ) :
  ACallF κ Tryz.prog 196 [.raw (.func (.yield L) #[] #[]),.raw (.pointer (some ⟨b,0,none⟩))] (.obj b [SI o l]::σ) K:=by
 refine ACallF.dropL (aa Tryz.func196 rfl ?_)
 simp only [Tryz.ntmps196]
 repeat' (first|simp only [WL,WM,Nat.reduceAdd,Nat.reduceSub])
 refine bH (fun x:Nat × List Res=>⟨(.raw (.func (.yield L) #[] #[])::.raw (.pointer (some ⟨b,0,none⟩))::.any::I x.1::.any::.any::.any::.any::.any::.any::.any::.any::.any::.any::.any::.any::.any::.any::.any::.any::.any::.any::.any::[]),.obj b [SI o l]::x.2,true,[]⟩) (fun x=>x.1≤l.length∧Iter κ Tryz.prog L K (kf l x.1) x.2) (fun x=>l.length - x.1) (0,σ) (ao bz id) ⟨Nat.zero_le _,hI⟩ ?_
 rintro ⟨k,σ'⟩ hx
 dsimp only at hx ⊢
 have h1:=hx.1
 have h2:=hx.2
 have hsn:=gK (l:=l) (i:=k)
 by_cases hz:ck (l.drop k)=0
 ·rw [kf,si hz] at h2
  repeat' (first|simp only [WL,aD,WM,ne_eq,reduceCtorEq,not_false_eq_true,Bool.not_false,true_and,reduceIte,T3,bX,Ew,Tryz.results196,hz]|simp (disch:=first|omega|(simp only [aT];omega)) only [aq]|(with_reducible first|refine aC (hb:=?_)|refine ax (hK:=?_)|refine cD (LC ?_ ?_))|((with_reducible first|refine ai (fun h=>?_) (fun h=>?_)|refine ab (fun h=>?_) (fun h=>?_))<;>(try simp only [h])<;>(try simp only [bg,bm] at h))|omega|(simp only [aT];omega))
  exact ak (ae ah) (aj rfl) h2
 ·rw [kf,lb hz,List.map_cons] at h2
  repeat' (first|simp only [WL,aD,WM,ne_eq,reduceCtorEq,not_false_eq_true,Bool.not_false,true_and,reduceIte,T3,bX,Ew,Tryz.results196]|simp (disch:=first|omega|(simp only [aT];omega)) only [aq]|(with_reducible first|refine aC (hb:=?_)|refine ax (hK:=?_)|refine cD (LC ?_ ?_))|((with_reducible first|refine ai (fun h=>?_) (fun h=>?_)|refine ab (fun h=>?_) (fun h=>?_))<;>(try simp only [h])<;>(try simp only [bg,bm] at h))|omega|(simp only [aT];omega))
  refine dB [.obj b [SI o l]] (fU le_rfl (IN (by simp))) h2 (fun σ3 h=>?_) (fun σ3 h=>?_) (fun c σ3 h=>?_)
  ·skip
   repeat' (first|simp only [WL,aD,WM,ne_eq,reduceCtorEq,not_false_eq_true,Bool.not_true,reduceIte,Bool.false_eq_true]|simp (disch:=first|omega|(simp only [aT];omega)) only [aq])
   exact ⟨(k+ck (l.drop k),σ3),ao bz id,⟨by dsimp only;omega,h⟩,by dsimp only;omega⟩
  ·skip
   repeat' (first|simp only [WL,WM,Bool.not_false,true_and,reduceIte,Bool.false_eq_true,Tryz.results196])
   exact ak (ae ah) (aj rfl) h
  ·skip
   repeat' (first|simp only [WL,WM,true_and])
   exact aN (ae ah) rfl h
theorem QW {l:List Int}{F:FuncId}{may:Int→Bool} (hF:au Tryz.prog F=True) (hmay:∀ c σ K,K (.ret (B (may c))) σ→ACallF κ Tryz.prog F [I c] σ K) (hl:l.length≤1000000000) (hK:K (.ret (I (ek may l))) σ):ACallF κ Tryz.prog 136 [SI o l,.raw (.func (.func F) #[] #[])] σ K:=by
 refine ACallF.dropL (aR Tryz.func136 rfl ?_)
 simp only [Tryz.ntmps136]
 repeat' (first|(with_reducible first|refine ay ?_|refine al (al ?_)|refine aJ ?_|refine aB ?_)|simp only [WL,WM,Nat.reduceAdd,Nat.reduceSub,true_and,Ox]|(with_reducible first|refine ax (hK:=?_)|refine aO (hK:=?_)|refine aP (hK:=fun b=>?_)|refine aS (hK:=fun b=>?_)|refine cD (Ru (fun eb=>?_))))
 rename_i b1 b2
 refine nv 196 [] [.pointer (some ⟨eb,0,none⟩)] (kf l 0) [.obj eb [SI o l]] (.obj b [I 0]::.obj b2 [.raw (.func (.func F) #[] #[])]::.obj b1 [SI o l]::σ)
  (fun xs τ=>∃ i:Nat,xs=kf l i∧i≤l.length∧ek may l=i+ek may (l.drop i)∧τ=.obj b [I i]::.obj b2 [.raw (.func (.func F) #[] #[])]::.obj b1 [SI o l]::σ)
  rfl P8 (ResW.refl _) (fun L K σ' h=>KQ hl h) ⟨0,rfl,Nat.zero_le _,(Nat.zero_add _).symm,rfl⟩ ?_ ?_
 ·rintro τ ⟨i,h1,h2,h3,rfl⟩
  by_cases hz:ck (l.drop i)=0
  ·rw [Cp (.inl hz)] at h3
   repeat' (first|(with_reducible first|refine aJ ?_|refine aY ?_)|simp only [WL,WM,true_and,Tryz.results136]|with_reducible refine ax (hK:=?_))
   exact ak (ae (ae (ae ah))) (aj (by rw [h3];rfl)) hK
  ·rw [kf,lb hz] at h1;cases h1
 ·rintro dd L Rr Rb hR x xs τ ⟨i,h1,h2,h3,rfl⟩
  by_cases hz:ck (l.drop i)=0
  ·rw [kf,si hz] at h1;cases h1
  rw [kf,lb hz,List.map_cons,List.cons.injEq] at h1
  obtain ⟨rfl,rfl⟩:=h1
  have hsn:=gK (l:=l) (i:=i)
  refine ⟨rfl, ?_⟩
  repeat' (first|simp only [WL,WM])
  refine qB ?_
  repeat' (first|simp only [WL,WM,reduceCtorEq,Nat.reduceAdd,true_and,reduceIte,T3,bX,hF]|simp (disch:=first|omega|(simp only [aT];omega)) only [aV]|(with_reducible first|refine aC (hb:=?_)|refine ax (hK:=?_)|refine aO (hK:=?_)|refine callD_q (hmay _ _ _ aW) ?_)|((with_reducible refine aH (id:=5) 7 mixed ?_ ?_);kernel_rfl)|(with_reducible refine bP ?_)|((with_reducible first|refine ai (fun h=>?_) (fun h=>?_)|refine ab (fun h=>?_) (fun h=>?_))<;>(try simp only [h])<;>(try simp only [bg,bm] at h)))
  ·refine ⟨_,gS, ?_⟩
   rw [Cp (l:=l.drop i) (.inr (by rw [sM];assumption)),Nat.add_zero] at h3
   repeat' (first|(with_reducible first|refine aJ ?_|refine aY ?_)|simp only [WL,WM,true_and,Tryz.results136]|with_reducible refine ax (hK:=?_))
   exact ak (ae (ae (ae ah))) (aj (by rw [h3])) hK
  ·exact ⟨_,gS,i+ck (l.drop i),rfl,by omega,by rw [h3,G3 hz (by rw [sM];assumption),List.drop_drop];omega,rfl⟩
theorem vR {l:List Int} (hl:l.length≤1000000000) (hK:K (.ret (I (ek iI l))) σ):ACallF κ Tryz.prog 136 [SI o l,.raw (.func (.func 137) #[] #[])] σ K:=QW Po (fun c σ K h=>Vn h) hl hK
theorem uH {l:List Int} (hl:l.length≤1000000000) (hK:K (.ret (I (ek gp l))) σ):ACallF κ Tryz.prog 136 [SI o l,.raw (.func (.func 153) #[] #[])] σ K:=QW NR (fun c σ K h=>O6 h) hl hK
theorem OK {l:List Int} (hl:l.length≤1000000000) (h2:2≤l.length) (hK:K (.ret (.tup [.raw (.string (fg l).1),I (fg l).2.1,B (fg l).2.2])) σ):ACallF κ Tryz.prog 152 [SI o l] σ K:=by
 have hu:=lS iI (l.drop 2)
 rw [List.length_drop] at hu
 have e1:((ek iI (l.drop 2):Int)+2).toNat=ek iI (l.drop 2)+2:=by omega
 have e2:(ek iI (l.drop 2):Int)+2=((ek iI (l.drop 2)+2:Nat):Int):=by omega
 by_cases hz:ek iI (l.drop 2)=0
 ·have ew:fg l=noneT:=by rw [fg,if_pos (.inl hz)]
  rw [ew] at hK
  refine ACallF.dropL (aa Tryz.func152 rfl ?_)
  simp only [Tryz.ntmps152]
  repeat' (first|simp only [WL,aD,WM,Int.reduceToNat,reduceCtorEq,ba,Nat.reduceAdd,Nat.reduceSub,Nat.reduceLeDiff,Bool.not_false,true_and,reduceIte,Bool.false_eq_true,T3,bX,kX,sY,rj,Tryz.results152,hz]|simp (disch:=first|omega|(simp only [aT];omega)) only [aq]|(with_reducible first|refine aC (hb:=?_)|refine cD (vR ?_ ?_)|refine cD (Fx ?_ ?_ ?_)|refine cD (w9 ?_ ?_))|((with_reducible first|refine ai (fun h=>?_) (fun h=>?_)|refine ab (fun h=>?_) (fun h=>?_))<;>(try simp only [h])<;>(try simp only [bg,bm] at h))|omega|(simp only [aT];omega))
  all_goals first
   | exact ak ah (aj rfl) hK
   | (exfalso;omega)
 ·cases ha:Et l (ek iI (l.drop 2)+2) 62
  ·have ew:fg l=noneT:=by rw [fg,if_pos (.inr ha)]
   rw [ew] at hK
   refine ACallF.dropL (aa Tryz.func152 rfl ?_)
   simp only [Tryz.ntmps152]
   repeat' (first|simp only [WL,aD,WM,Int.reduceToNat,reduceCtorEq,ba,Nat.reduceAdd,Nat.reduceSub,Nat.reduceLeDiff,Bool.not_false,true_and,reduceIte,Bool.false_eq_true,T3,bX,kX,rj,Tryz.results152,e2,ha]|simp (disch:=first|omega|(simp only [aT];omega)) only [aq]|(with_reducible first|refine aC (hb:=?_)|refine cD (vR ?_ ?_)|refine cD (Fx (i:=ek iI (l.drop 2)+2) ?_ ?_ ?_))|((with_reducible first|refine ai (fun h=>?_) (fun h=>?_)|refine ab (fun h=>?_) (fun h=>?_))<;>(try simp only [h])<;>(try simp only [bg,bm] at h))|omega|(simp only [aT];omega))
   all_goals first
    | exact ak ah (aj rfl) hK
    | (exfalso;omega)
  ·have hn:¬(ek iI (l.drop 2)=0∨Et l (ek iI (l.drop 2)+2) 62=false):=fun h=>by
    rcases h with h|h
    ·exact hz h
    ·rw [ha] at h;cases h
   have ew:fg l=(cu ((l.take (ek iI (l.drop 2)+2)).drop 1),((ek iI (l.drop 2)+3:Nat):Int),true):=by rw [fg,if_neg hn]
   rw [ew] at hK
   have hl3:=(mQ ha).1
   refine ACallF.dropL (aa Tryz.func152 rfl ?_)
   simp only [Tryz.ntmps152]
   repeat' (first|simp only [WL,aD,WM,Int.reduceToNat,reduceCtorEq,ba,Nat.reduceAdd,Nat.reduceSub,Nat.reduceLeDiff,Bool.not_true,Bool.not_false,true_and,reduceIte,Bool.false_eq_true,T3,bX,kX,sY,rj,Tryz.results152,e1,ha]|simp (disch:=first|omega|(simp only [aT];omega)) only [aq]|(with_reducible first|refine aC (hb:=?_)|refine cD (vR ?_ ?_)|refine cD (Fx (i:=ek iI (l.drop 2)+2) ?_ ?_ ?_)|refine cD (w9 ?_ ?_))|((with_reducible first|refine ai (fun h=>?_) (fun h=>?_)|refine ab (fun h=>?_) (fun h=>?_))<;>(try simp only [h])<;>(try simp only [bg,bm] at h))|omega|(simp only [aT];omega))
   all_goals first
    | exact ak ah (aj (by simp;omega)) hK
    | (exfalso;omega)
theorem Q6 {l:List Int} (hl:l.length≤1000000000) (hK:K (.ret (.tup [.raw (.string (eV l).1),I (eV l).2.1,B (eV l).2.2])) σ):ACallF κ Tryz.prog 125 [SI o l] σ K:=by
 cases h0:Et l 0 33
 ·have ew:eV l=noneT:=by rw [eV,if_pos h0]
  rw [ew] at hK
  refine ACallF.dropL (aa Tryz.func125 rfl ?_)
  simp only [Tryz.ntmps125]
  repeat' (first|simp only [WL,WM,Nat.reduceAdd,Nat.reduceSub,Nat.reduceLeDiff,Bool.not_false,true_and,kX,Tryz.results125,h0]|with_reducible refine cD (Fx (i:=0) ?_ ?_ ?_)|omega)
  all_goals exact ak ah (aj rfl) hK
 have hp:=(mQ h0).1
 cases h1:Et l 1 60
 ·have ew:eV l=iW l:=by rw [eV,if_neg (by rw [h0];decide),if_neg (by rw [h1];decide)]
  rw [ew] at hK
  have hh:=nb l
  have hu:=lS gp (l.drop (max (cg l) 1))
  rw [List.length_drop] at hu
  have e1:max ((cg l:Nat):Int) 1=((max (cg l) 1:Nat):Int):=by omega
  have e2:((ek gp (l.drop (max (cg l) 1)):Int)+((max (cg l) 1:Nat):Int)).toNat=ek gp (l.drop (max (cg l) 1))+max (cg l) 1:=by omega
  by_cases hz:0 < cg l∧ek gp (l.drop (max (cg l) 1))=0
  ·have es:iW l=noneT:=by rw [iW,if_pos hz]
   rw [es] at hK
   refine ACallF.dropL (aa Tryz.func125 rfl ?_)
   simp only [Tryz.ntmps125]
   repeat' (first|simp only [WL,aD,WM,Int.reduceToNat,reduceCtorEq,ba,Nat.reduceAdd,Nat.reduceSub,Nat.reduceLeDiff,Bool.not_true,true_and,reduceIte,Bool.false_eq_true,T3,bX,kX,sY,EB,rj,Tryz.results125,h0,h1,e1]|simp (disch:=first|omega|(simp only [aT];omega)) only [aq]|(with_reducible first|refine aC (hb:=?_)|refine my ?_|refine cD (Fx (i:=0) ?_ ?_ ?_)|refine cD (Fx (i:=1) ?_ ?_ ?_)|refine cD (uH ?_ ?_)|refine cD (w9 ?_ ?_)|refine cD (Ci ?_ ?_ ?_))|((with_reducible first|refine ai (fun h=>?_) (fun h=>?_)|refine ab (fun h=>?_) (fun h=>?_))<;>(try simp only [h])<;>(try simp only [bg,bm] at h))|omega|(simp only [aT];omega))
   all_goals first
    | exact ak ah (aj rfl) hK
    | (exfalso;omega)
  ·have es:iW l=(cu (l.take (ek gp (l.drop (max (cg l) 1))+max (cg l) 1)),((ek gp (l.drop (max (cg l) 1))+max (cg l) 1:Nat):Int),true):=by rw [iW,if_neg hz]
   rw [es] at hK
   refine ACallF.dropL (aa Tryz.func125 rfl ?_)
   simp only [Tryz.ntmps125]
   repeat' (first|simp only [WL,aD,WM,Int.reduceToNat,reduceCtorEq,ba,Nat.reduceAdd,Nat.reduceSub,Nat.reduceLeDiff,Bool.not_true,true_and,reduceIte,Bool.false_eq_true,T3,bX,kX,sY,EB,rj,Tryz.results125,h0,h1,e1,e2]|simp (disch:=first|omega|(simp only [aT];omega)) only [aq]|(with_reducible first|refine aC (hb:=?_)|refine my ?_|refine cD (Fx (i:=0) ?_ ?_ ?_)|refine cD (Fx (i:=1) ?_ ?_ ?_)|refine cD (uH ?_ ?_)|refine cD (w9 ?_ ?_)|refine cD (Ci ?_ ?_ ?_))|((with_reducible first|refine ai (fun h=>?_) (fun h=>?_)|refine ab (fun h=>?_) (fun h=>?_))<;>(try simp only [h])<;>(try simp only [bg,bm] at h))|omega|(simp only [aT];omega))
   all_goals first
    | (exfalso;omega)
    | exact ak ah (aj (by simp)) hK
 ·have ew:eV l=fg l:=by rw [eV,if_neg (by rw [h0];decide),if_pos h1]
  rw [ew] at hK
  have hp2:=(mQ h1).1
  refine ACallF.dropL (aa Tryz.func125 rfl ?_)
  simp only [Tryz.ntmps125]
  repeat' (first|simp only [WL,WM,Nat.reduceAdd,Nat.reduceSub,Nat.reduceLT,Nat.reduceLeDiff,Bool.not_true,true_and,kX,PU,Tryz.results125,h0,h1]|(with_reducible first|refine cD (Fx (i:=0) ?_ ?_ ?_)|refine cD (Fx (i:=1) ?_ ?_ ?_)|refine cD (OK ?_ ?_ ?_))|omega)
  all_goals exact ak ah (aj rfl) hK
def ca (s:ByteArray):Bool:=s.toList == ({ data:=#[] }:ByteArray).toList
structure TrV where
 a:ByteArray
 t:ByteArray
 q:Int × Int
abbrev uz (v:TrV):List AV:=[.raw (.string v.a),.raw (.string v.t),I v.q.1,I v.q.2]
def cG (ls:List Ln) (p:Int × Int) (v:TrV):Option (Option TrV) :=
  if bV (aF ls p) 38 then
    (if ca v.a && (bK ((aF ls p).drop 1)).2.2 && sT (aF ls (p.1,p.2+((bK ((aF ls p).drop 1)).2.1+1)))
     then some (some ⟨(bK ((aF ls p).drop 1)).1,v.t,(p.1,p.2+((bK ((aF ls p).drop 1)).2.1+1))⟩) else none)
  else if bV (aF ls p) 33 then
    (if ca v.t && (eV (aF ls p)).2.2 && sT (aF ls (p.1,p.2+(eV (aF ls p)).2.1))
     then some (some ⟨v.a,(eV (aF ls p)).1,(p.1,p.2+(eV (aF ls p)).2.1)⟩) else none)
  else some none
theorem vw {l:List Int}{c:Int} (h:l.length=0):bV l c=false:=by unfold bV;rw [h];rfl
theorem kl {l:List Int}{c:Int} (h0:0 < l.length) (h:l.getD 0 0=c):bV l c=true:=by unfold bV;rw [decide_eq_true h0,h];simp
theorem jv {l:List Int}{c:Int} (h:¬l.getD 0 0=c):bV l c=false:=by unfold bV;rw [show (l.getD 0 0 == c)=false from beq_eq_false_iff_ne.2 h,Bool.and_false]
theorem Ny {a b c:Bool} (h1:a=true) (h2:b=true) (h3:c=true):(a && b && c)=true:=by rw [h1,h2,h3];rfl
theorem MS {a b c:Bool} (h:a=false∨b=false∨c=false):¬(a && b && c)=true:=by
 rcases h with h|h|h<;>rw [h]<;>simp
theorem lM {ls:List Ln}{p:Int × Int}{v:TrV} (h1:bV (aF ls p) 38=false) (h2:bV (aF ls p) 33=false):cG ls p v=some none:=by unfold cG;rw [h1,h2];rfl
theorem td         {ls : List Ln} {p : Int × Int} {v : TrV} (h1 : bV    (aF    ls p) 38 = false) (h2 : bV    (aF    ls p) 33 = true) : cG     ls p v = if ca     v.t && (eV   (aF    ls p)).2.2 && sT    (aF    ls (p.1, p.2 + (eV   (aF    ls p)).2.1))
     then some (some ⟨v.a,(eV (aF ls p)).1,(p.1,p.2+(eV (aF ls p)).2.1)⟩) else none:=by unfold cG;rw [h1,h2];rfl
theorem r7         {ls : List Ln} {p : Int × Int} {v : TrV} (h1 : bV    (aF    ls p) 38 = true) : cG     ls p v = if ca     v.a && (bK      ((aF    ls p).drop 1)).2.2 && sT    (aF    ls (p.1, p.2 + ((bK      ((aF    ls p).drop 1)).2.1 + 1)))
     then some (some ⟨(bK ((aF ls p).drop 1)).1,v.t,(p.1,p.2+((bK ((aF ls p).drop 1)).2.1+1))⟩) else none:=by unfold cG;rw [h1];rfl
theorem I1 (l:List Int):0≤(eV l).2.1∧(eV l).2.1≤3 * l.length+3:=by
 have h1:=lS iI (l.drop 2)
 have h2:=lS gp (l.drop (max (cg l) 1))
 have h3:=nb l
 rw [List.length_drop] at h1 h2
 unfold eV fg iW noneT
 (repeat' split)<;>dsimp only<;>omega
theorem Pt {bj bt ix:Nat}{ls:List Ln}{n d:Int}{bk:Bool}{x y:AV} [hJ:Hold σ bj ix (JC ls n bk d x y)] {p:Int × Int}{v:TrV} (hs:Small ls) (hp:bS p.1∧bS p.2)
  (h1:∀ v',cG ls p v=some (some v')→K (.ret (B true)) (.obj bt (uz v')::σ)) (h2:cG ls p v=some none→K (.ret (B false)) (.obj bt (uz v)::σ)) (h3:∀ cs,cG ls p v=none→K (.pan (bI 2)) (.obj bt cs::σ)):ACallF κ Tryz.prog 104 [JP bj,cS p,JP bt] (.obj bt (uz v)::σ) K:=by
 have hr:=bZ (p:=p) hs
 have hsm:=fun h=>cv (p:=p) hs h
 have ha:=jA ff ((aF ls p).drop 1)
 rw [List.length_drop] at ha
 have ha1:(bK ((aF ls p).drop 1)).2.1=(th ff ((aF ls p).drop 1):Nat):=rfl
 have ht:=I1 (aF ls p)
 have hA:0 < (aF ls p).length→bS (p.1,p.2+((bK ((aF ls p).drop 1)).2.1+1)).1∧bS (p.1,p.2+((bK ((aF ls p).drop 1)).2.1+1)).2:=fun h=>⟨hp.1,by have:=hsm h;dsimp only;omega⟩
 have hT:0 < (aF ls p).length→bS (p.1,p.2+(eV (aF ls p)).2.1).1∧bS (p.1,p.2+(eV (aF ls p)).2.1).2:=fun h=>⟨hp.1,by have:=hsm h;dsimp only;omega⟩
 rcases Nat.eq_zero_or_pos (aF ls p).length with h0|h0
 ·skip
  refine ACallF.dropL (aa Tryz.func104 rfl ?_)
  simp only [Tryz.ntmps104]
  repeat' (first|simp only [WL,aD,gE,WM,Int.reduceToNat,reduceCtorEq,ba,Nat.reduceAdd,Nat.reduceSub,Nat.reduceLT,Nat.reduceEqDiff,Bool.not_true,Bool.not_false,true_and,reduceIte,Bool.false_eq_true,T3,T9,bX,ia,fR gN,fR gM,fR eI,e8,cT,dr,AH,HT,AS,Tryz.results104]|simp (disch:=first|omega|(simp only [aT];omega)) only [aq,aV]|(with_reducible first|refine aC (hb:=?_)|refine ax (hK:=?_)|refine aA (hK:=?_)|refine aO (hK:=?_)|refine az (hK:=?_)|refine aP (hK:=fun b=>?_)|refine cD (eU hs hp ?_)|refine cD (i9 ?_)|refine cD (cb ?_ ?_)|refine cD (lz (fun h=>?_) (fun h=>?_))|refine cD (vV ?_ ?_)|refine cD (Q6 ?_ ?_))|((with_reducible first|refine ai (fun h=>?_) (fun h=>?_)|refine ab (fun h=>?_) (fun h=>?_))<;>(try simp only [h])<;>(try simp only [bg,bm] at h))|omega)
  exact ak (ae ah) (aj rfl) (h2 (lM (vw h0) (vw h0)))
 ·replace hA:=hA h0
  replace hT:=hT h0
  replace hsm:=hsm h0
  refine ACallF.dropL (aa Tryz.func104 rfl ?_)
  simp only [Tryz.ntmps104]
  repeat' (first|simp only [WL,aD,gE,WM,Int.reduceToNat,reduceCtorEq,ba,Nat.reduceAdd,Nat.reduceSub,Nat.reduceLT,Nat.reduceEqDiff,Bool.not_true,Bool.not_false,true_and,reduceIte,Bool.false_eq_true,T3,T9,bX,ia,fR gN,fR gM,fR eI,e8,cT,dr,AH,HT,AS,Tryz.results104]|simp (disch:=first|omega|(simp only [aT];omega)) only [aq,aV]|(with_reducible first|refine aC (hb:=?_)|refine ax (hK:=?_)|refine aA (hK:=?_)|refine aO (hK:=?_)|refine az (hK:=?_)|refine aP (hK:=fun b=>?_)|refine cD (eU hs hp ?_)|refine cD (i9 ?_)|refine cD (E1 (p:=(p.1,p.2+(eV (aF ls p)).2.1)) hs hT ?_)|refine cD (E1 (p:=(p.1,p.2+((bK ((aF ls p).drop 1)).2.1+1))) hs hA ?_)|refine cD (cb ?_ ?_)|refine cD (lz (fun h=>?_) (fun h=>?_))|refine cD (vV ?_ ?_)|refine cD (Q6 ?_ ?_))|((with_reducible first|refine ai (fun h=>?_) (fun h=>?_)|refine ab (fun h=>?_) (fun h=>?_))<;>(try simp only [h])<;>(try simp only [bg,bm] at h))|omega|(simp only [aT];omega))
  all_goals first
   | exact ak (ae ah) (aj rfl) (h2 (lM (jv (by assumption)) (jv (by assumption))))
   | exact ak (ae ah) (aj rfl) (h1 ⟨v.a,(eV (aF ls p)).1,(p.1,p.2+(eV (aF ls p)).2.1)⟩ ((td (jv (by assumption)) (kl h0 (by assumption))).trans (if_pos (Ny (by assumption) (by assumption) (by assumption)))))
   | exact aN (ae ah) rfl (h3 _ ((td (jv (by assumption)) (kl h0 (by assumption))).trans (if_neg (MS (by first|exact .inl (by assumption)|exact .inr (.inl (by assumption))|exact .inr (.inr (by assumption)))))))
   | exact ak (ae ah) (aj rfl) (h1 ⟨(bK ((aF ls p).drop 1)).1,v.t,(p.1,p.2+((bK ((aF ls p).drop 1)).2.1+1))⟩ ((r7 (kl h0 (by assumption))).trans (if_pos (Ny (by assumption) (by assumption) (by assumption)))))
   | exact aN (ae ah) rfl (h3 _ ((r7 (kl h0 (by assumption))).trans (if_neg (MS (by first|exact .inl (by assumption)|exact .inr (.inl (by assumption))|exact .inr (.inr (by assumption)))))))
end Go.Proofs.YthkabaiamcjdbaaGreat
/-
 The abstract layer,part G: contracts that write a variable,wherever it lies.
-/

namespace Go.Abs
open Go.RowKit
section
variable {κ:Ctx} {P:Program}
class Split (σ:List Res) (b:Nat) (ρ:outParam (List Res)) (cs:outParam (List AV)) (τ:outParam (List Res)):Prop where
 is:σ=ρ++(.obj b cs::τ)
instance (priority:=low) Split.there {σ ρ τ:List Res} {b:Nat} {cs:List AV} {r:Res} [h:Split σ b ρ cs τ]:Split (r::σ) b (r::ρ) cs τ:=⟨by rw [h.is];rfl⟩
instance Split.here {σ:List Res} {b:Nat} {cs:List AV}:Split (.obj b cs::σ) b [] cs σ:=⟨rfl⟩
theorem ACallF.at_ {f:FuncId}{args:List AV}{σ ρ τ:List Res}{b:Nat}{cs:List AV}{K:Ret→List Res→Prop} [h:Split σ b ρ cs τ] (hc:ACallF κ P f args (.obj b cs::τ) (fun r σ'=>K r (ρ++σ'))):ACallF κ P f args σ K:=by
 rw [h.is]
 refine (hc.front ρ).mono ?_
 rintro r σ' ⟨τ',rfl,hk⟩
 exact hk
theorem Im {rd:Option Nat}{l:List Oper}{Q:Exit→St→Prop}{t:List AV}{σ:List Res}{fr:Bool}{df:List Deferred}{id:Nat} (σ0:List Res) (h0:Has σ0 σ) (A0:List Nat) (c0:Option Nat) (r0:Ph) (hm:P.follows .mixedOrders=true) (hok:yQ l ((A0,c0)::r0)=true) (h:Ls κ P l (Has σ0) fr df Q A0 c0 r0 t σ):AW κ rd P (.region id l.toArray true) Q ⟨t,σ,fr,df⟩ :=
 gI A0 c0 r0 (Has σ0) h0 hm hok h
theorem eh {rd:Option Nat}{l:List Oper}{Q:Exit→St→Prop}{t:List AV}{r1 r2:Res}{σ:List Res}{fr:Bool}{df:List Deferred}{id:Nat} (A0:List Nat) (c0:Option Nat) (r0:Ph) (hm:P.follows .mixedOrders=true) (hok:yQ l ((A0,c0)::r0)=true) (h:Ls κ P l (Has [r1,r2]) fr df Q A0 c0 r0 t (r1::r2::σ)):AW κ rd P (.region id l.toArray true) Q ⟨t,r1::r2::σ,fr,df⟩ :=
 gI A0 c0 r0 (Has [r1,r2]) ⟨fun r hr=>by simp at hr;rcases hr with h|h<;>simp [h]⟩ hm hok h
theorem dq {rd:Option Nat}{l:List Oper}{Q:Exit→St→Prop}{t:List AV}{r1:Res}{σ:List Res}{fr:Bool}{df:List Deferred}{id:Nat} (A0:List Nat) (c0:Option Nat) (r0:Ph) (hm:P.follows .mixedOrders=true) (hok:yQ l ((A0,c0)::r0)=true) (h:Ls κ P l (Has [r1]) fr df Q A0 c0 r0 t (r1::σ)):AW κ rd P (.region id l.toArray true) Q ⟨t,r1::σ,fr,df⟩ :=
 gI A0 c0 r0 (Has [r1]) ⟨fun r hr=>by simp at hr;simp [hr]⟩ hm hok h
theorem NV {rd:Option Nat}{l:List Oper}{Q:Exit→St→Prop}{t:List AV}{r1 r2:Res}{σ:List Res}{fr:Bool}{df:List Deferred}{id:Nat} (A0:List Nat) (c0:Option Nat) (r0:Ph) (h2:r2∈σ) (hm:P.follows .mixedOrders=true) (hok:yQ l ((A0,c0)::r0)=true) (h:Ls κ P l (Has [r1,r2]) fr df Q A0 c0 r0 t (r1::σ)):AW κ rd P (.region id l.toArray true) Q ⟨t,r1::σ,fr,df⟩ :=
 gI A0 c0 r0 (Has [r1,r2]) ⟨fun r hr=>by simp at hr;rcases hr with h|h<;>simp [h,h2]⟩ hm hok h
theorem jY {r1:Res}{σ:List Res} (h1:r1∈σ):Has [r1] σ:=⟨fun r hr=>by simp at hr;rw [hr];exact h1⟩
theorem l8 {r1 r2:Res}{σ:List Res} (h1:r1∈σ) (h2:r2∈σ):Has [r1,r2] σ:=⟨fun r hr=>by simp at hr;rcases hr with h|h<;>rw [h]<;>assumption⟩
inductive RowR (sz:Nat):AV→List AV→List Res→Prop where
 | nil:RowR sz nilS [] []
 | row {b c:Nat} {cs l:List AV} (h0:0 < c) (hn:l.length≤c) (hc:cs.length=c * sz) (ht:cs.take (l.length * sz)=aI l):RowR sz (bM b 0 l.length c) l [.obj b cs]
section
variable {all rest:List Oper} {Q:Exit→St→Prop} {d:Option Tmp} {t:List AV} {σ:List Res} {fr:Bool} {df:List Deferred}
theorem dY {ty e:TypeId}{sz by_:Nat}{z:Value}{l2:List AV}{o2:Option (Option (Nat × Nat))} [hS:TSl P ty e sz by_ z] (hgood:cV l2=true) (hne:0 < l2.length) (hlen:l2.length * by_≤140737488355328) (hmax:l2.length≤maxLen)
  (hK:∀ b' c' cs',cs'.length=c' * sz→l2.length≤c'→cs'.take (l2.length * sz)=aI l2→dJ κ false P all Q d rest ⟨t,σ,fr,df⟩ (bM b' 0 l2.length c') (.obj b' cs'::σ)):cC κ false P all Q d rest ⟨t,σ,fr,df⟩ (.append ty) [nilS,.sl sz o2 l2] :=
 cP (oF hS.sl hS.hz hS.by' hS.zr hS.one hS.pos hgood hne hlen hmax hK)
theorem cW {ty e:TypeId}{sz by_ b n c i:Nat}{z:Value}{cs l2:List AV}{o2:Option (Option (Nat × Nat))} [hS:TSl P ty e sz by_ z] [hH:Hold σ b i cs] (hgood:cV l2=true) (hcs:cs.length=c * sz) (hn:n≤c) (hlen:(n+l2.length) * by_≤140737488355328) (hmax:n+l2.length≤maxLen)
  (hK:∀ b' c' cs',cs'.length=c' * sz→n+l2.length≤c'→cs'.take ((n+l2.length) * sz)=cs.take (n * sz)++aI l2→dJ κ false P all Q d rest ⟨t,σ,fr,df⟩ (bM b' 0 (n+l2.length) c') (σ.set i (.obj b' cs'))):cC κ false P all Q d rest ⟨t,σ,fr,df⟩ (.append ty) [bM b 0 n c,.sl sz o2 l2] :=
 cP (sC i hH.get hS.sl hS.hz hS.by' hS.zr hS.one hS.pos hgood hcs hn hlen hmax hK)
theorem GT {dm:Bool}{ty e:TypeId}{sz by_ b o n c:Nat}{i:Int} (a:Nat) {z:Value} [hS:TSl P ty e sz by_ z] (hi:i=a) (ha:a≤n) (hc:n≤c) (h0:0 < c) (hK:dJ κ dm P all Q d rest ⟨t,σ,fr,df⟩ (bM b o a c) σ):cC κ dm P all Q d rest ⟨t,σ,fr,df⟩ (.slice ty false true false) [bM b o n c,.any,I i,.any]:=by
 subst hi
 exact gz (tj hS.sl hS.hz ha hc h0 gH) hK
end
end
section
variable {κ:Ctx} {P:Program} {σ:List Res} {fn:Func} {t:List AV} {fr:Bool} {df:List Deferred} {K:Ret→List Res→Prop}
theorem qK {a b c:Tmp}{ty ty':TypeId}{x y:AV} (hf:fn.results = #[.cell a ty,.cell b ty',.tmp c]) (h:ga P κ σ ty (t.getD a .any) x) (h':ga P κ σ ty' (t.getD b .any) y) (hK:K (.ret (.tup [x,y,t.getD c .any])) σ):mg κ P fn K ⟨t,σ,fr,df⟩ [.cell a ty,.cell b ty',.tmp c]:=by
 intro φ g w tmps hR ht
 obtain ⟨p,u,h1,h2,h3⟩:=h φ g w _ hR (FX ht a)
 obtain ⟨q,v,k1,k2,k3⟩:=h' φ g w _ hR (FX ht b)
 have h1':tmps[a]?.getD undef=.pointer (some p):=by simpa using h1
 have k1':tmps[b]?.getD undef=.pointer (some q):=by simpa using k1
 have h4:=TR.three h3 k3 (FX ht c)
 exact ⟨.tuple #[u,v,tmps.getD c undef],_,by simp [results,hf,h1',k1',asAddr,h2,k2],.tup _ h4.size h4.get,hK⟩
end
end Go.Abs
/-
 Walks: chapter 13,what is put.
-/


namespace Go.Proofs.YthkabaiamcjdbaaGreat
open Go.Abs
variable {κ:Ctx} {σ:List Res} {K:Ret→List Res→Prop} {o o':Option (Option (Nat × Nat))}
structure EvV where
 k:Int
 x:ByteArray
 t:ByteArray
 a:ByteArray
 s:Int
 f:Bool
abbrev EVA (e:EvV):AV:=.agg [I e.k,.raw (.string e.x),.raw (.string e.t),.raw (.string e.a),I e.s,B e.f]
theorem RM {bj:Nat}{ls:List Ln}{n d:Int}{bk:Bool}{x y:AV}{l:List EvV}{ρ:List Res}{e:EvV} (hR:RowR 6 y (l.map EVA) ρ) (hl:l.length≤1000000000)
  (hK:∀ y' ρ',RowR 6 y' ((l++[e]).map EVA) ρ'→K (.ret (.tup [])) (.obj bj (JC ls n bk d x y')::(ρ'++σ))):ACallF κ Tryz.prog 170 [JP bj,EVA e] (.obj bj (JC ls n bk d x y)::(ρ++σ)) K:=by
 rw [List.map_append] at hK
 generalize hm:l.map EVA=m at *
 have hml:m.length≤1000000000:=by rw [← hm,List.length_map];exact hl
 cases hR with
 | nil =>
  rw [List.nil_append]
  refine ACallF.dropL (aa Tryz.func170 rfl ?_)
  simp only [Tryz.ntmps170]
  repeat' (first|( ((with_reducible refine dq (id:=1) [0,1,2,3,5,6] (some 4) [([],some 7),([8,9],some 10),([],none)] mixed ?_ ?_);kernel_rfl))|( with_reducible refine bR (jY (by first|(simp;done)|fail)) ?_)|simp only [WL,WM,Nat.reduceAdd,Nat.reduceSub,Nat.reduceEqDiff,true_and,jU,fR fy,Tryz.results170]|(with_reducible first|refine aC (hb:=?_)|refine ax (hK:=?_)|refine aA (hK:=?_)|refine aO (hK:=?_)|refine aP (hK:=fun b=>?_)|refine cF (hK:=?_))|( refine dY (hgood:=by rfl) (hne:=by simp) (hlen:=by simp) (hmax:=by simp [maxLen]) (hK:=fun b' c' cs' q1 q2 q3=>?_))|((with_reducible apply aQ);intro σq hq;have hqi:=cm hq;clear hq)|(with_reducible exact bU)|((with_reducible apply bA);rfl;rfl))
  refine ak ⟨.obj b' cs'::.obj bj (JC ls n bk d x (bM b' 0 1 c'))::σ,List.Perm.swap _ _ _,((List.Sublist.refl _).cons _).cons_cons _⟩ (aj rfl) (hK (bM b' 0 1 c') [.obj b' cs'] (RowR.row (l:=[EVA e]) (by simp at q2;omega) q2 q1 q3))
 | @row rb rc cs _ h0 hn hc ht =>
  rw [List.cons_append,List.nil_append]
  refine ACallF.dropL (aa Tryz.func170 rfl ?_)
  simp only [Tryz.ntmps170]
  repeat' (first|( ((with_reducible refine dq (id:=1) [0,1,2,3,5,6] (some 4) [([],some 7),([8,9],some 10),([],none)] mixed ?_ ?_);kernel_rfl))|( with_reducible refine bR (jY (by first|(simp;done)|fail)) ?_)|simp only [WL,WM,Nat.reduceAdd,Nat.reduceSub,Nat.reduceEqDiff,true_and,jU,fR fy,Tryz.results170]|(with_reducible first|refine aC (hb:=?_)|refine ax (hK:=?_)|refine aA (hK:=?_)|refine aO (hK:=?_)|refine aP (hK:=fun b=>?_)|refine cF (hK:=?_))|( refine cW (hgood:=by rfl) (hcs:=hc) (hn:=hn) (hlen:=by first|(simp;omega)|fail) (hmax:=by first|(simp [maxLen];omega)|fail) (hK:=fun b' c' cs' q1 q2 q3=>?_))|((with_reducible apply aQ);intro σq hq;have hqi:=cm hq;clear hq)|(with_reducible exact bU)|((with_reducible apply bA);rfl;rfl))
  have hr:RowR 6 (bM b' 0 (m.length+1) c') (m++[EVA e]) [.obj b' cs']:=by
   have:=RowR.row (sz:=6) (b:=b') (c:=c') (cs:=cs') (l:=m++[EVA e]) (by have:m.length+1≤c':=q2;omega) (by simpa using q2) q1 (by rw [List.length_append,q3,ht];simp)
   rwa [List.length_append] at this
  exact ak (ae ah) (aj rfl) (hK _ _ hr)
def JX (x y:AV) (op:List Int) (l:List EvV) (τ σ0:List Res):Prop:=∃ ρx ρy,RowR 1 x (op.map I) ρx∧RowR 6 y (l.map EVA) ρy∧τ.Perm (ρx++(ρy++σ0))
theorem RQ {bj:Nat}{ls:List Ln}{n d:Int}{bk:Bool}{x y:AV}{op:List Int}{l:List EvV}{ρ τ σ0:List Res}{e:EvV} [hS:Split σ bj ρ (JC ls n bk d x y) τ] (hJ:JX x y op l τ σ0) (hl:l.length≤1000000000)
  (hK:∀ y' τ',JX x y' op (l++[e]) τ' σ0→K (.ret (.tup [])) (ρ ++ .obj bj (JC ls n bk d x y')::τ')):ACallF κ Tryz.prog 170 [JP bj,EVA e] σ K:=by
 obtain ⟨ρx,ρy,h1,h2,hp⟩:=hJ
 have sw:∀ ρ':List Res,(ρ'++(ρx++σ0)).Perm (ρx++(ρ'++σ0)):=fun ρ'=>by
  rw [← List.append_assoc,← List.append_assoc]
  exact List.perm_append_comm.append_right _
 refine ACallF.at_ (b:=bj) (ACallF.perm (σ2:=.obj bj (JC ls n bk d x y)::(ρy++(ρx++σ0))) (List.Perm.cons _ (hp.trans (sw ρy).symm)) (RM h2 hl (fun y' ρ' h3=>?_)))
 exact hK y' _ ⟨ρx,ρ',h1,h3,sw ρ'⟩
abbrev JO (b:Nat):AV:=.raw (.pointer (some ⟨b,4,none⟩))
theorem PL {bj:Nat}{ls:List Ln}{n d:Int}{bk:Bool}{x y:AV}{l:List Int}{ρ:List Res}{e:Int} (hR:RowR 1 x (l.map I) ρ) (hl:l.length≤1000000000)
  (hK:∀ x' ρ',RowR 1 x' ((l++[e]).map I) ρ'→K (.ret (.tup [])) (.obj bj (JC ls n bk d x' y)::(ρ'++σ))):ACallF κ Tryz.prog 209 [JO bj,I e] (.obj bj (JC ls n bk d x y)::(ρ++σ)) K:=by
 rw [List.map_append] at hK
 generalize hm:l.map I=m at *
 have hml:m.length≤1000000000:=by rw [← hm,List.length_map];exact hl
 cases hR with
 | nil =>
  rw [List.nil_append]
  refine ACallF.dropL (aa Tryz.func209 rfl ?_)
  simp only [Tryz.ntmps209]
  repeat' (first|simp only [WL,WM,Nat.reduceAdd,Nat.reduceSub,Nat.reduceEqDiff,true_and,bX,fR ka,Tryz.results209]|(with_reducible first|refine aC (hb:=?_)|refine ax (hK:=?_)|refine aO (hK:=?_)|refine cF (hK:=?_))|( refine dY (hgood:=by rfl) (hne:=by simp) (hlen:=by simp) (hmax:=by simp [maxLen]) (hK:=fun b' c' cs' q1 q2 q3=>?_)))
  exact ak ⟨_,List.Perm.swap _ _ _,List.Sublist.refl _⟩ (aj rfl) (hK (bM b' 0 1 c') [.obj b' cs'] (RowR.row (l:=[I e]) (by simp at q2;omega) q2 q1 q3))
 | @row rb rc cs _ h0 hn hc ht =>
  rw [List.cons_append,List.nil_append]
  refine ACallF.dropL (aa Tryz.func209 rfl ?_)
  simp only [Tryz.ntmps209]
  repeat' (first|simp only [WL,WM,Nat.reduceAdd,Nat.reduceSub,Nat.reduceEqDiff,true_and,bX,fR ka,Tryz.results209]|(with_reducible first|refine aC (hb:=?_)|refine ax (hK:=?_)|refine aO (hK:=?_)|refine cF (hK:=?_))|( refine cW (hgood:=by rfl) (hcs:=hc) (hn:=hn) (hlen:=by first|(simp;omega)|fail) (hmax:=by first|(simp [maxLen];omega)|fail) (hK:=fun b' c' cs' q1 q2 q3=>?_)))
  have hr:RowR 1 (bM b' 0 (m.length+1) c') (m++[I e]) [.obj b' cs']:=by
   have:=RowR.row (sz:=1) (b:=b') (c:=c') (cs:=cs') (l:=m++[I e]) (by have:m.length+1≤c':=q2;omega) (by simpa using q2) q1 (by rw [List.length_append,q3,ht];simp)
   rwa [List.length_append] at this
  exact ak ah (aj rfl) (hK _ _ hr)
theorem QA {bj:Nat}{ls:List Ln}{n d:Int}{bk:Bool}{x y:AV}{op:List Int}{l:List EvV}{ρ τ σ0:List Res}{e:Int} [hS:Split σ bj ρ (JC ls n bk d x y) τ] (hJ:JX x y op l τ σ0) (hl:op.length≤1000000000)
  (hK:∀ x' τ',JX x' y (op++[e]) l τ' σ0→K (.ret (.tup [])) (ρ ++ .obj bj (JC ls n bk d x' y)::τ')):ACallF κ Tryz.prog 209 [JO bj,I e] σ K:=by
 obtain ⟨ρx,ρy,h1,h2,hp⟩:=hJ
 refine ACallF.at_ (b:=bj) (ACallF.perm (σ2:=.obj bj (JC ls n bk d x y)::(ρx++(ρy++σ0))) (List.Perm.cons _ hp) (PL h1 hl (fun x' ρ' h3=>?_)))
 exact hK x' _ ⟨ρ',ρy,h3,h2,List.Perm.refl _⟩
theorem LI {bj ix:Nat}{ls:List Ln}{n d:Int}{bk:Bool}{x y:AV}{l:List Int}{ρ:List Res} [hJ:Hold σ bj ix (JC ls n bk d x y)] (hR:RowR 1 x (l.map I) ρ) (hl:l.length≤1000000000) (hK:K (.ret (I l.length)) σ):ACallF κ Tryz.prog 185 [JO bj] σ K:=by
 have hml:(l.map I).length=l.length:=List.length_map _
 generalize l.map I=m at *
 cases hR with
 | nil =>
  refine ACallF.dropL (aa Tryz.func185 rfl ?_)
  simp only [Tryz.ntmps185]
  repeat' (first|simp only [WL,WM,Nat.reduceAdd,Nat.reduceSub,Nat.reduceEqDiff,true_and,bX,fR ka,Tryz.results185]|(with_reducible first|refine aC (hb:=?_)|refine ax (hK:=?_)))
  exact ak ah (aj rfl) (by simpa [← hml] using hK)
 | @row rb rc cs _ h0 hn hc ht =>
  refine ACallF.dropL (aa Tryz.func185 rfl ?_)
  simp only [Tryz.ntmps185]
  repeat' (first|simp only [WL,WM,Nat.reduceAdd,Nat.reduceSub,Nat.reduceEqDiff,true_and,bX,fR ka,Tryz.results185]|(with_reducible first|refine aC (hb:=?_)|refine ax (hK:=?_)))
  exact ak ah (aj rfl) (by simpa [← hml] using hK)
theorem TF {bj:Nat}{ls:List Ln}{n d:Int}{bk:Bool}{x y:AV}{op:List Int}{l:List EvV}{ρ τ σ0:List Res} [hS:Split σ bj ρ (JC ls n bk d x y) τ] (hJ:JX x y op l τ σ0) (hl:op.length≤1000000000)
  (hK:K (.ret (I op.length)) σ):ACallF κ Tryz.prog 185 [JO bj] σ K:=by
 obtain ⟨ρx,ρy,h1,h2,hp⟩:=hJ
 haveI:Hold σ bj ρ.length (JC ls n bk d x y):=⟨by rw [hS.is];simp⟩
 exact LI h1 hl hK
theorem q9:∀ l:List Int,aI (l.map I)=l.map I
 | []=>rfl
 | x::l=>by
  show (I x).cells++aI (l.map I)=_
  rw [q9 l];rfl
theorem Pj {bj:Nat}{ls:List Ln}{n d:Int}{bk:Bool}{x y:AV}{l:List Int}{ρ:List Res}{e:Int} (hR:RowR 1 x ((l++[e]).map I) ρ) (hl:l.length≤1000000000)
  (hK:∀ x' ρ',RowR 1 x' (l.map I) ρ'→K (.ret (.tup [])) (.obj bj (JC ls n bk d x' y)::(ρ'++σ))):ACallF κ Tryz.prog 210 [JO bj] (.obj bj (JC ls n bk d x y)::(ρ++σ)) K:=by
 generalize hm2:(l++[e]).map I=m2 at *
 cases hR with
 | nil=>simp at hm2
 | @row rb rc cs _ h0 hn hc ht =>
  have h9:m2.length=l.length+1:=by rw [← hm2];simp
  rw [List.cons_append,List.nil_append,h9]
  have hn2:l.length+1≤rc:=by omega
  have hr:RowR 1 (bM rb 0 l.length rc) (l.map I) [.obj rb cs]:=by
   have h8:cs.take l.length=l.map I:=by
    rw [← hm2,q9,List.map_append,List.length_append,List.length_map] at ht
    have h7:=congrArg (List.take l.length) ht
    rw [List.take_take,List.take_append_of_le_length (by simp)] at h7
    have h6:min l.length ((l.length+(List.map I [e]).length) * 1)=l.length:=by omega
    rw [h6,List.take_of_length_le (l:=l.map I) (by simp)] at h7
    exact h7
   have:=RowR.row (sz:=1) (b:=rb) (c:=rc) (cs:=cs) (l:=l.map I) h0 (by rw [List.length_map];omega) hc (by
    rw [q9,List.length_map,Nat.mul_one];exact h8)
   rwa [List.length_map] at this
  refine ACallF.dropL (aa Tryz.func210 rfl ?_)
  simp only [Tryz.ntmps210]
  repeat' (first|simp only [WL,aD,WM,reduceCtorEq,ba,Nat.reduceAdd,Nat.reduceSub,Nat.reduceEqDiff,true_and,bX,fR ka,Tryz.results210]|simp (disch:=first|omega|(simp only [aT];omega)) only [aq]|(with_reducible first|refine aC (hb:=?_)|refine ax (hK:=?_)|refine aO (hK:=?_))|( refine GT l.length (by omega) (Nat.le_succ _) hn2 h0 ?_)|((with_reducible refine aH (id:=0) 14 mixed ?_ ?_);kernel_rfl)|(with_reducible refine bP ?_))
  exact ak ah (aj rfl) (hK _ _ hr)
theorem SV {bj:Nat}{ls:List Ln}{n d:Int}{bk:Bool}{x y:AV}{op:List Int}{l:List EvV}{ρ τ σ0:List Res}{e:Int} [hS:Split σ bj ρ (JC ls n bk d x y) τ] (hJ:JX x y (op++[e]) l τ σ0) (hl:op.length≤1000000000)
  (hK:∀ x' τ',JX x' y op l τ' σ0→K (.ret (.tup [])) (ρ ++ .obj bj (JC ls n bk d x' y)::τ')):ACallF κ Tryz.prog 210 [JO bj] σ K:=by
 obtain ⟨ρx,ρy,h1,h2,hp⟩:=hJ
 refine ACallF.at_ (b:=bj) (ACallF.perm (σ2:=.obj bj (JC ls n bk d x y)::(ρx++(ρy++σ0))) (List.Perm.cons _ hp) (Pj h1 hl (fun x' ρ' h3=>?_)))
 exact hK x' _ ⟨ρ',ρy,h3,h2,List.Perm.refl _⟩
def cN (d:Int) (k:Nat) (w:Int):Bool:=decide (d < 200) && decide (d+k+w < 200)
theorem nk {σ ρ τ:List Res}{b:Nat}{cs:List AV} (h:Split σ b ρ cs τ):Hold σ b ρ.length cs:=⟨by rw [h.is];simp⟩
theorem Cn {bj:Nat}{ls:List Ln}{n d:Int}{bk:Bool}{x y:AV}{op:List Int}{l:List EvV}{ρ τ σ0:List Res}{k s:Int}{ex et ea:ByteArray}{f:Bool} [hS:Split σ bj ρ (JC ls n bk d x y) τ] (hJ:JX x y op l τ σ0) (hl:l.length≤1000000000)
  (hK:∀ y' τ',JX x y' op (l++[⟨k,ex,et,ea,s,f⟩]) τ' σ0→K (.ret (.tup [])) (ρ ++ .obj bj (JC ls n bk d x y')::τ')):ACallF κ Tryz.prog 170 [JP bj,.agg [I k,.raw (.string ex),.raw (.string et),.raw (.string ea),I s,B f]] σ K :=
 RQ (e:=⟨k,ex,et,ea,s,f⟩) hJ hl hK
theorem EW {k:Nat}:((k:Int) == 0)=decide (k=0):=by
 rw [Bool.eq_iff_iff];simp only [beq_iff_eq,decide_eq_true_eq];omega
theorem Ll {bj:Nat}{ls:List Ln}{n d:Int}{bk:Bool}{x y:AV}{op:List Int}{l:List EvV}{ρ τ σ0:List Res}{w:Int} [hS:Split σ bj ρ (JC ls n bk d x y) τ] (hJ:JX x y op l τ σ0) (hl:op.length≤1000000000) (hd:0≤d∧d≤1000000000) (hw:0≤w∧w≤1000000000)
  (h1:cN d op.length w=true→K (.ret (.tup [])) σ) (h2:cN d op.length w=false→K (.pan (bI 8)) σ):ACallF κ Tryz.prog 207 [JP bj,I w] σ K:=by
 haveI hH:=nk hS
 unfold cN at h1 h2
 refine ACallF.dropL (aa Tryz.func207 rfl ?_)
 simp only [Tryz.ntmps207]
 repeat' (first|simp only [WL,aD,WM,reduceCtorEq,ba,Nat.reduceAdd,Nat.reduceSub,Nat.reduceEqDiff,Bool.not_false,true_and,reduceIte,Bool.false_eq_true,T3,KY,fR wk,fR qI,rU,Fz,Tryz.results207]|simp (disch:=first|omega|(simp only [aT];omega)) only [aq]|(with_reducible first|refine aC (hb:=?_)|refine ax (hK:=?_)|refine cD (yY ?_)|refine cQ (TF (by assumption) ?_ aW) ?_)|((with_reducible refine aH (id:=0) 19 mixed ?_ ?_);kernel_rfl)|(with_reducible refine bP ?_)|((with_reducible first|refine ai (fun h=>?_) (fun h=>?_)|refine ab (fun h=>?_) (fun h=>?_))<;>(try simp only [h])<;>(try simp only [bg,bm] at h))|omega)
 all_goals first
  | exact aN ah rfl (h2 (by simp;omega))
  | exact ak ah (aj rfl) (h1 (by simp;omega))
theorem Jz {bj:Nat}{ls:List Ln}{n d:Int}{bk:Bool}{x y:AV}{op:List Int}{l:List EvV}{τ σ0:List Res}{e:EvV} (hJ:JX x y op l τ σ0) (hl:op.length≤1000000000) (hll:l.length≤1000000000) (hd:0≤d∧d≤1000000000)
  (h1:cN d op.length 0=true→∀ x' y' τ',JX x' y' (op++[e.k]) (l++[e]) τ' σ0→K (.ret (.tup [])) (.obj bj (JC ls n bk d x' y')::τ')) (h2:cN d op.length 0=false→K (.pan (bI 8)) (.obj bj (JC ls n bk d x y)::τ)):ACallF κ Tryz.prog 179 [JP bj,EVA e] (.obj bj (JC ls n bk d x y)::τ) K:=by
 refine ACallF.dropL (aa Tryz.func179 rfl ?_)
 simp only [Tryz.ntmps179]
 repeat' (first|simp only [WL,WM,Nat.reduceAdd,Nat.reduceSub,Nat.reduceEqDiff,true_and,T3,KY,fR oI,fR qI,qW,FI,PG,Tryz.results179]|(with_reducible first|refine aC (hb:=?_)|refine ax (hK:=?_)|refine aA (hK:=?_)|refine aP (hK:=fun b=>?_)|refine cD (Ll hJ hl hd (w:=0) (by omega) (fun h=>?_) (fun h=>?_))|refine cD (RQ hJ hll (fun y' τ' hJ'=>?_))|refine cD (QA (by assumption) ?_ (fun x' τ' hJ'=>?_)))|((with_reducible refine aH (id:=3) 5 mixed ?_ ?_);kernel_rfl)|(with_reducible refine bP ?_)|omega)
 ·exact ak (ae ah) (aj rfl) (h1 h _ _ _ (by assumption))
 ·exact aN (ae ah) rfl (h2 h)
theorem iP {bj:Nat}{ls:List Ln}{n d:Int}{bk:Bool}{x y:AV}{op:List Int}{l:List EvV}{ρ τ σ0:List Res}{e:EvV} [hS:Split σ bj ρ (JC ls n bk d x y) τ] (hJ:JX x y op l τ σ0) (hl:op.length≤1000000000) (hll:l.length≤1000000000) (hd:0≤d∧d≤1000000000)
  (h1:cN d op.length 0=true→∀ x' y' τ',JX x' y' (op++[e.k]) (l++[e]) τ' σ0→K (.ret (.tup [])) (ρ ++ .obj bj (JC ls n bk d x' y')::τ')) (h2:cN d op.length 0=false→K (.pan (bI 8)) σ):ACallF κ Tryz.prog 179 [JP bj,EVA e] σ K :=
 ACallF.at_ (b:=bj) (Jz hJ hl hll hd h1 (fun h=>by have:=h2 h;rwa [hS.is] at this))
theorem Tk {bj:Nat}{ls:List Ln}{n d:Int}{bk:Bool}{x y:AV}{op:List Int}{l:List EvV}{τ σ0:List Res}{e k:Int} (hJ:JX x y (op++[e]) l τ σ0) (hl:op.length≤1000000000) (hll:l.length≤1000000000)
  (h1:∀ x' y' τ',JX x' y' op (l++[⟨k,.empty,.empty,.empty,0,false⟩]) τ' σ0→K (.ret (.tup [])) (.obj bj (JC ls n bk d x' y')::τ')):ACallF κ Tryz.prog 182 [JP bj,I k] (.obj bj (JC ls n bk d x y)::τ) K:=by
 refine ACallF.dropL (aa Tryz.func182 rfl ?_)
 simp only [Tryz.ntmps182]
 repeat' (first|simp only [WL,WM,Nat.reduceAdd,Nat.reduceSub,Nat.reduceEqDiff,true_and,KY,fR qI,qW,Oi,Tryz.results182]|(with_reducible first|refine aC (hb:=?_)|refine aG (hK:=?_)|refine cD (Cn hJ hll (fun y' τ' hJ'=>?_))|refine cD (SV hJ' hl (fun x'' τ'' hJ''=>?_))))
 all_goals exact ak ah (aj rfl) (h1 _ _ _ (by assumption))
theorem DX {bj:Nat}{ls:List Ln}{n d:Int}{bk:Bool}{x y:AV}{op:List Int}{l:List EvV}{ρ τ σ0:List Res}{e k:Int} [hS:Split σ bj ρ (JC ls n bk d x y) τ] (hJ:JX x y (op++[e]) l τ σ0) (hl:op.length≤1000000000) (hll:l.length≤1000000000)
  (h1:∀ x' y' τ',JX x' y' op (l++[⟨k,.empty,.empty,.empty,0,false⟩]) τ' σ0→K (.ret (.tup [])) (ρ ++ .obj bj (JC ls n bk d x' y')::τ')):ACallF κ Tryz.prog 182 [JP bj,I k] σ K :=
 ACallF.at_ (b:=bj) (Tk hJ hl hll h1)
theorem t5 {bj ix:Nat}{ls:List Ln}{n d:Int}{bk:Bool}{x y:AV}{op:List Int}{ρx:List Res} [hH:Hold σ bj ix (JC ls n bk d x y)] (hR:RowR 1 x (op.map I) ρx) (hl:op.length≤1000000000)
  (hK:K (.ret (B (bk && decide (op.length=0)))) σ):ACallF κ Tryz.prog 146 [JP bj] σ K:=by
 refine ACallF.dropL (aa Tryz.func146 rfl ?_)
 simp only [Tryz.ntmps146]
 repeat' (first|simp only [WL,aD,WM,reduceCtorEq,ba,Nat.reduceAdd,Nat.reduceSub,Nat.reduceEqDiff,Bool.not_true,true_and,reduceIte,Bool.false_eq_true,T4,KY,fR JQ,fR qI,Fz,Tryz.results146]|(with_reducible first|refine aC (hb:=?_)|refine ax (hK:=?_)|refine cD (LI hR hl ?_))|((with_reducible first|refine ai (fun h=>?_) (fun h=>?_)|refine ab (fun h=>?_) (fun h=>?_))<;>(try simp only [h])<;>(try simp only [bg,bm] at h)))
 all_goals exact ak ah (aj (congrArg B (by first|(rw [EW];simp [*];done)|simp [*]))) hK
theorem JX.row {x y:AV}{op:List Int}{l:List EvV}{τ σ0:List Res} (h:JX x y op l τ σ0):∃ ρx,RowR 1 x (op.map I) ρx:=by
 obtain ⟨ρx,_,h1,_⟩:=h;exact ⟨ρx,h1⟩
theorem dQ {bj:Nat}{ls:List Ln}{n d:Int}{bk:Bool}{x y:AV}{op:List Int}{l:List EvV}{ρ τ σ0:List Res} [hS:Split σ bj ρ (JC ls n bk d x y) τ] (hJ:JX x y op l τ σ0) (hl:op.length≤1000000000)
  (hK:K (.ret (B (bk && decide (op.length=0)))) σ):ACallF κ Tryz.prog 146 [JP bj] σ K:=by
 haveI hH:=nk hS
 obtain ⟨ρx,hR⟩:=hJ.row
 exact t5 hR hl hK
abbrev vx (v:TrV):AV:=.agg (uz v)
theorem KC {bj:Nat}{ls:List Ln}{n d:Int}{bk:Bool}{x y:AV}{op:List Int}{l:List EvV}{τ σ0:List Res}{v:TrV} (hJ:JX x y op l τ σ0) (hll:l.length≤1000000000)
  (h1:∀ y' τ',JX x y' op (l++[⟨7,.empty,v.t,v.a,1,false⟩]) τ' σ0→K (.ret (.tup [])) (.obj bj (JC ls n bk d x y')::τ')):ACallF κ Tryz.prog 148 [JP bj,vx v] (.obj bj (JC ls n bk d x y)::τ) K:=by
 refine ACallF.dropL (aa Tryz.func148 rfl ?_)
 simp only [Tryz.ntmps148]
 repeat' (first|simp only [WL,WM,Nat.reduceAdd,Nat.reduceSub,Nat.reduceEqDiff,true_and,T9,fR gN,fR gM,qW,Tryz.results148]|(with_reducible first|refine aC (hb:=?_)|refine ax (hK:=?_)|refine aP (hK:=fun b=>?_)|refine aG (hK:=?_)|refine cD (Cn hJ hll (fun y' τ' hJ'=>?_))))
 all_goals exact ak (ae ah) (aj rfl) (h1 _ _ (by assumption))
theorem ic {bj:Nat}{ls:List Ln}{n d:Int}{bk:Bool}{x y:AV}{op:List Int}{l:List EvV}{ρ τ σ0:List Res}{v:TrV} [hS:Split σ bj ρ (JC ls n bk d x y) τ] (hJ:JX x y op l τ σ0) (hll:l.length≤1000000000)
  (h1:∀ y' τ',JX x y' op (l++[⟨7,.empty,v.t,v.a,1,false⟩]) τ' σ0→K (.ret (.tup [])) (ρ ++ .obj bj (JC ls n bk d x y')::τ')):ACallF κ Tryz.prog 148 [JP bj,vx v] σ K :=
 ACallF.at_ (b:=bj) (KC hJ hll h1)
theorem Ge {bj:Nat}{ls:List Ln}{n d:Int}{bk:Bool}{x y:AV}{op:List Int}{l:List EvV}{τ σ0:List Res}{v:TrV}{t:List Int}{s:Int} (hJ:JX x y op l τ σ0) (hll:l.length≤1000000000) (ht:t.length≤1000000000)
  (h1:∀ y' τ',JX x y' op (l++[⟨7,cu t,v.t,v.a,s,false⟩]) τ' σ0→K (.ret (.tup [])) (.obj bj (JC ls n bk d x y')::τ')):ACallF κ Tryz.prog 175 [JP bj,SI o t,I s,vx v] (.obj bj (JC ls n bk d x y)::τ) K:=by
 refine ACallF.dropL (aa Tryz.func175 rfl ?_)
 simp only [Tryz.ntmps175]
 repeat' (first|simp only [WL,WM,Nat.reduceAdd,Nat.reduceSub,Nat.reduceEqDiff,true_and,kD,T9,fR gN,fR gM,vW,qW,Tryz.results175]|(with_reducible first|refine aC (hb:=?_)|refine ax (hK:=?_)|refine aP (hK:=fun b=>?_)|refine aG (hK:=?_)|refine qy ?_|refine cD (Cn hJ hll (fun y' τ' hJ'=>?_))|refine cQ (vC ?_ aW) ?_)|((with_reducible refine aH (id:=1) 10 mixed ?_ ?_);kernel_rfl)|(with_reducible refine bP ?_)|omega)
 all_goals exact ak (ae ah) (aj rfl) (h1 _ _ (by assumption))
theorem CL {bj:Nat}{ls:List Ln}{n d:Int}{bk:Bool}{x y:AV}{op:List Int}{l:List EvV}{ρ τ σ0:List Res}{v:TrV}{t:List Int}{s:Int} [hS:Split σ bj ρ (JC ls n bk d x y) τ] (hJ:JX x y op l τ σ0) (hll:l.length≤1000000000) (ht:t.length≤1000000000)
  (h1:∀ y' τ',JX x y' op (l++[⟨7,cu t,v.t,v.a,s,false⟩]) τ' σ0→K (.ret (.tup [])) (ρ ++ .obj bj (JC ls n bk d x y')::τ')):ACallF κ Tryz.prog 175 [JP bj,SI o t,I s,vx v] σ K :=
 ACallF.at_ (b:=bj) (Ge hJ hll ht h1)
theorem nL {ls:List Ln}{p:Int × Int}:fB (bO ls p).2=false:=by
 unfold bO fB
 dsimp only
 generalize aF ls (p.1,dT ls p)=l
 induction l with
 | nil=>rfl
 | cons c l ih =>
  unfold nj at ih ⊢
  rw [List.takeWhile_cons]
  split
  ·simpa using ih
  ·rename_i h;simp [h]
theorem B5 {ls:List Ln}{p:Int × Int}:p.2≤dT ls p:=by unfold dT;split<;>omega
theorem DF {ls:List Ln}{p:Int × Int}{k:Nat} (hs:Small ls) (h:k < (aF ls p).length) (h1:(ls.getD p.1.toNat (0,[])).1≤p.2):aF ls (p.1,p.2+k)=(aF ls p).drop k:=by
 have h0:=cv hs (Nat.lt_of_le_of_lt (Nat.zero_le _) h)
 have ha:=hs.at_ (i:=p.1.toNat) (by omega)
 rw [fZ (by omega) (by omega) (by omega),if_neg (by omega),List.length_drop] at h
 rw [fZ (p:=p) (by omega) (by omega) (by omega),if_neg (by omega),fZ (by dsimp only;omega) (by dsimp only;omega) (by dsimp only;omega),if_neg (by dsimp only;omega),List.drop_drop]
 congr 1
 dsimp only
 omega
theorem lV {ls:List Ln}{p:Int × Int} (hs:Small ls) (h:0 < (bO ls p).2.length):aF ls (bO ls p).1=(bO ls p).2:=by
 unfold bO at h ⊢
 dsimp only at h ⊢
 rw [List.length_drop] at h
 have h0:=cv (p:=(p.1,dT ls p)) hs (by omega)
 dsimp only at h0
 refine DF (p:=(p.1,dT ls p)) hs (by omega) ?_
 dsimp only
 unfold dT
 rw [if_pos (by omega)]
 omega
def Le2 (p q:Int × Int):Prop:=p.1 < q.1∨(p.1=q.1∧p.2≤q.2)
theorem Le2.rfl_ {p:Int × Int}:Le2 p p:=.inr ⟨rfl,Int.le_refl _⟩
theorem Le2.trans {p q r:Int × Int} (h1:Le2 p q) (h2:Le2 q r):Le2 p r:=by unfold Le2 at *;omega
theorem mq {ls:List Ln} (hs:Small ls):∀ {m:Nat}{p:Int × Int}{q:Int × Int},(q,true)∈fD ls m p→Le2 p q∧0 < (aF ls q).length∧fB (aF ls q)=false
 | 0,p,q,h=>by
  have e:(q,true)=ep ls p:=by simpa [fD] using h
  exact this_ e
 | m+1,p,q,h=>by
  rcases List.mem_cons.1 h with e|h
  ·exact this_ e
  ·split at h
   ·cases h
   ·obtain ⟨h1,h2⟩:=mq hs h
    refine ⟨?_,h2⟩
    unfold Le2 at h1 ⊢
    dsimp only at h1
    omega
where
 this_ {p q:Int × Int} (e:(q,true)=ep ls p):Le2 p q∧0 < (aF ls q).length∧fB (aF ls q)=false:=by
  unfold ep at e
  obtain ⟨e1,e2⟩:=Prod.mk.inj e
  subst e1
  have h0:0 < (bO ls p).2.length:=by
   have:=e2.symm
   simp only [Bool.and_eq_true,decide_eq_true_eq] at this
   exact this.1
  rw [lV hs h0]
  refine ⟨.inr ⟨rfl, ?_⟩,h0,nL⟩
  have:=B5 (ls:=ls) (p:=p)
  unfold bO
  dsimp only
  omega
theorem CX {ls:List Ln}{n l0:Int}{q:Int × Int}:∀ {l:List ((Int × Int) × Bool)},onL ls n l0 l=some (some q)→(q,true)∈l
 | [],h=>by simp [onL] at h
 | (q',s)::l,h=>by
  unfold onL at h
  cases s
  ·exact List.mem_cons_of_mem _ (CX h)
  ·simp only [if_true] at h
   split at h
   ·cases h
   ·cases h;exact List.mem_cons_self
theorem uG {ls:List Ln}{n:Int}{p q:Int × Int} (hs:Small ls) (h:onF ls n p=some (some q)):Le2 p q∧0 < (aF ls q).length∧fB (aF ls q)=false :=
 mq hs (CX h)
def Pl (ls:List Ln) (p:Int × Int):Prop:=0≤p.1∧p.1 < ls.length∧0≤p.2∧p.2≤4000
theorem Pl.of_rest {ls:List Ln}{p:Int × Int} (hs:Small ls) (h:0 < (aF ls p).length):Pl ls p:=by
 have:=cv hs h
 unfold Pl;omega
theorem Pl.behind {ls:List Ln}{p:Int × Int}{n:Int} (hs:Small ls) (h0:0 < (aF ls p).length) (h:0≤n∧n≤(aF ls p).length):Pl ls (p.1,p.2+n):=by
 have:=cv hs h0
 unfold Pl;dsimp only;omega
theorem Gg (l:List Int):(eV l).2.1≤l.length:=by
 unfold eV
 split
 ·show (0:Int)≤_;omega
 ·rename_i h0
  have h1:=(mQ (by simpa using h0)).1
  split
  ·unfold fg
   split
   ·show (0:Int)≤_;omega
   ·rename_i h
    have:=(mQ (l:=l) (i:=ek iI (l.drop 2)+2) (c:=62) (by cases e:Et l (ek iI (l.drop 2)+2) 62<;>simp_all)).1
    dsimp only;omega
  ·unfold iW
   have h2:=lS gp (l.drop (max (cg l) 1))
   have h3:=nb l
   rw [List.length_drop] at h2
   split
   ·show (0:Int)≤_;omega
   ·dsimp only;omega
theorem oT {l:List Int} (h:0 < l.length):ca (cu l)=false:=by
 cases l with
 | nil=>simp at h
 | cons c l =>
  unfold ca
  rw [beq_eq_false_iff_ne]
  intro e
  have h2:=congrArg List.length (je (c::l))
  rw [bytes_eq e] at h2
  have h1:=(xZ c).1
  simp only [jI,List.flatMap_cons,List.length_append] at h2
  have h3:(cw (ByteArray.mk #[])).length=0:=rfl
  omega
where
 bytes_eq {a b:ByteArray} (h:a.toList=b.toList):a=b:=by
  rw [ByteArray.toList_eq,ByteArray.toList_eq] at h
  exact ByteArray.ext (Array.toList_inj.mp h)
theorem yK {l:List Int} (h:(bK l).2.2=true):ca (bK l).1=false:=by
 have h1:0 < th ff l:=of_decide_eq_true h
 have:=jA ff l
 exact oT (by rw [List.length_take];omega)
theorem H3 {l:List Int} (h:(eV l).2.2=true):ca (eV l).1=false:=by
 unfold eV at h ⊢
 split at h
 ·cases h
 ·rename_i h0
  have h1:=(mQ (by simpa using h0)).1
  rw [if_neg h0]
  split at h
  ·rename_i h2
   rw [if_pos h2]
   unfold fg at h ⊢
   split at h
   ·cases h
   ·rename_i h3
    rw [if_neg h3]
    have h4:¬ek iI (l.drop 2)=0:=fun e=>h3 (.inl e)
    refine oT ?_
    rw [List.length_drop,List.length_take]
    have:=lS iI (l.drop 2)
    rw [List.length_drop] at this
    omega
  ·rename_i h2
   rw [if_neg h2]
   unfold iW at h ⊢
   split at h
   ·cases h
   ·rename_i h3
    rw [if_neg h3]
    exact oT (by rw [List.length_take];omega)
theorem KR {l:List Int} (h:(eV l).2.2=true):0 < (eV l).2.1:=by
 unfold eV at h ⊢
 split at h
 ·cases h
 ·rename_i h0
  rw [if_neg h0]
  split at h
  ·rename_i h2
   rw [if_pos h2]
   unfold fg at h ⊢
   split at h
   ·cases h
   ·rename_i h3;rw [if_neg h3];dsimp only;omega
  ·rename_i h2
   rw [if_neg h2]
   unfold iW at h ⊢
   split at h
   ·cases h
   ·rename_i h3;rw [if_neg h3];dsimp only;omega
def Ev (v:TrV):Nat:=(ca v.a).toNat+(ca v.t).toNat
theorem FZ (v:TrV):Ev v≤2:=by
 unfold Ev
 cases ca v.a<;>cases ca v.t<;>decide
theorem qT {ls:List Ln}{p:Int × Int}{v v':TrV} (h:cG ls p v=some (some v')):Ev v' < Ev v:=by
 unfold cG at h
 split at h
 ·split at h
  ·rename_i h1
   simp only [Bool.and_eq_true] at h1
   cases h
   unfold Ev
   dsimp only
   rw [yK h1.1.2,h1.1.1]
   simp
  ·cases h
 ·split at h
  ·split at h
   ·rename_i h1
    simp only [Bool.and_eq_true] at h1
    cases h
    unfold Ev
    dsimp only
    rw [H3 h1.1.2,h1.1.1]
    simp
   ·cases h
  ·cases h
theorem xE {ls:List Ln}{p:Int × Int}{v v':TrV} (hs:Small ls) (h:cG ls p v=some (some v')):0 < (aF ls p).length∧v'.q.1=p.1∧p.2 < v'.q.2∧v'.q.2≤p.2+(aF ls p).length:=by
 have h9:∀ c,bV (aF ls p) c=true→0 < (aF ls p).length:=fun c h=>by
  unfold bV at h;simp only [Bool.and_eq_true,decide_eq_true_eq] at h;exact h.1
 unfold cG at h
 split at h
 ·rename_i h0
  have h0:=h9 _ h0
  split at h
  ·cases h
   have h1:(bK ((aF ls p).drop 1)).2.1=(th ff ((aF ls p).drop 1):Nat):=rfl
   have:=jA ff ((aF ls p).drop 1)
   rw [List.length_drop] at this
   refine ⟨h0,rfl, ?_, ?_⟩<;>dsimp only<;>omega
  ·cases h
 ·split at h
  ·rename_i h0
   have h0:=h9 _ h0
   split at h
   ·rename_i h1
    cases h
    simp only [Bool.and_eq_true] at h1
    have h2:=Gg (aF ls p)
    have h3:=KR h1.1.2
    refine ⟨h0,rfl, ?_, ?_⟩<;>dsimp only<;>omega
   ·cases h
  ·cases h
def traitsG (ls:List Ln) (n:Int):Nat→TrV→Int × Int→Bool→Except Int (TrV × (Int × Int) × Bool)
 | _,v,q,false=>.ok (v,q,false)
 | 0,v,q,true=>match cG ls q v with
  | none=>.error 2
  | some none=>.ok (v,q,true)
  | some (some _)=>.error 2
 | f+1,v,q,true=>match cG ls q v with
  | none=>.error 2
  | some none=>.ok (v,q,true)
  | some (some v')=>match onF ls n v'.q with
   | none=>.error 7
   | some none=>traitsG ls n f v' (0,0) false
   | some (some q')=>traitsG ls n f v' q' true
abbrev tr0:TrV:=⟨.empty,.empty,(0,0)⟩
def bG (ls:List Ln) (n:Int) (p:Int × Int):Except Int (TrV × (Int × Int) × Bool) :=
 match onF ls n p with
 | none=>.error 7
 | some none=>.ok (tr0,(0,0),false)
 | some (some q)=>traitsG ls n 2 tr0 q true
theorem n0           {ls : List Ln} {n : Int} {q : Int × Int} {v v' : TrV} {f : Nat} (h : cG     ls q v = some (some v')) (hf : Ev  v ≤ f) : ∃ f', Ev  v' ≤ f' ∧ traitsG ls n f v q true = match onF ls n v'.q with
      | none=>.error 7
      | some none=>traitsG ls n f' v' (0,0) false
      | some (some q')=>traitsG ls n f' v' q' true:=by
  have h1:=qT h
  cases f with
  | zero=>omega
  | succ f =>
    refine ⟨f,by omega, ?_⟩
    simp only [traitsG,h]
theorem jj {ls:List Ln}{n:Int}{q:Int × Int}{v:TrV}{f:Nat} (h:cG ls q v=some none):traitsG ls n f v q true=.ok (v,q,true):=by
 cases f<;>simp only [traitsG,h]
theorem pG {ls:List Ln}{n:Int}{q:Int × Int}{v:TrV}{f:Nat} (h:cG ls q v=none):traitsG ls n f v q true=.error 2:=by
 cases f<;>simp only [traitsG,h]
theorem xw {ls:List Ln}{q:Int × Int}{v v':TrV} (hs:Small ls) (h:cG ls q v=some (some v')):0≤v'.q.1∧v'.q.1≤1000000000∧bS v'.q.2∧0≤v'.q.2:=by
 obtain ⟨h1,h2,h3,h4⟩:=xE hs h
 have h5:=cv hs h1
 have:=hs.1
 omega
theorem Ce {bj bt ix:Nat}{ls:List Ln}{n d:Int}{bk:Bool}{x y:AV}{p:Int × Int}{v:TrV}{ρ τ:List Res} [hS:Split σ bt ρ (uz v) τ] [hJ:Hold τ bj ix (JC ls n bk d x y)] (hs:Small ls) (hp:bS p.1∧bS p.2)
  (h1:∀ v',cG ls p v=some (some v')→K (.ret (B true)) (ρ ++ .obj bt (uz v')::τ)) (h2:cG ls p v=some none→K (.ret (B false)) (ρ ++ .obj bt (uz v)::τ)) (h3:∀ cs,cG ls p v=none→K (.pan (bI 2)) (ρ ++ .obj bt cs::τ)):ACallF κ Tryz.prog 104 [JP bj,cS p,JP bt] σ K :=
 ACallF.at_ (b:=bt) (Pt hs hp h1 h2 h3)
theorem CB {bj ix:Nat}{ls:List Ln}{n d:Int}{bk:Bool}{x y:AV} [hJ:Hold σ bj ix (JC ls n bk d x y)] {p:Int × Int} (hs:Small ls) (hp:0≤p.1∧p.1≤1000000000∧bS p.2∧0≤p.2)
  (h1:∀ v q ok,bG ls n p=.ok (v,q,ok)→K (.ret (.tup [vx v,cS q,B ok])) σ) (h2:∀ e,bG ls n p=.error e→K (.pan (bI e)) σ):ACallF κ Tryz.prog 87 [JP bj,cS p] σ K:=by
 refine ACallF.dropL (aa Tryz.func87 rfl ?_)
 simp only [Tryz.ntmps87]
 repeat' (first|simp only [WL,WM,Nat.reduceAdd,Nat.reduceSub,Nat.reduceLT,true_and,vt]|(with_reducible first|refine aA (hK:=?_)|refine az (hK:=?_)|refine aP (hK:=fun b=>?_)|refine aS (hK:=fun b=>?_)|refine cD (TA hs hp (fun q hq=>?_) (fun hq=>?_) (fun hq=>?_))))
 ·
  rename_i c3 c4 c5 c7
  refine bH (fun z:TrV × (Int × Int) × Bool=>⟨(JP bj::cS p::.any::JP c3::JP c4::JP c5::B false::JP c7::JP b::B z.2.2::.any::.any::.any::.any::.any::.any::.any::.any::.any::.any::.any::.any::.any::.any::.any::.any::.any::.any::.any::.any::.any::.any::[]),.obj b [I z.2.1.1,I z.2.1.2]::.obj c7 (uz z.1)::.obj c5 [I 0,I 0]::.obj c4 (uz tr0)::.obj c3 [I p.1,I p.2]::σ,true,[]⟩) (fun z=>∃ f,Ev z.1≤f∧bG ls n p=traitsG ls n f z.1 z.2.1 z.2.2∧(z.2.2=true→0 < (aF ls z.2.1).length)) (fun z=>Ev z.1) (tr0,q,true) (ao bz id) ⟨2,FZ _,by unfold bG;rw [hq],fun _=>(uG hs hq).2.1⟩ ?_
  rintro ⟨v,q',ok⟩ ⟨f,hf,hR,hq0⟩
  dsimp only at hf hR hq0 ⊢
  cases ok
  ·skip
   repeat' (first|( ((with_reducible refine eh (id:=5) [0,1,2] (some 3) [([],some 4),([5],none)] mixed ?_ ?_);kernel_rfl))|( with_reducible refine bR (l8 (by first|(simp;done)|fail) (by first|(simp;done)|fail)) ?_)|simp only [WL,WM,Nat.reduceAdd,true_and,reduceIte,Bool.false_eq_true,Tryz.results87]|(with_reducible first|refine aA (hK:=?_)|refine az (hK:=?_))|((with_reducible refine aU ?_);apply qK (hf:=Tryz.results87);exact aZ;exact aZ)|((with_reducible apply aQ);intro σq hq)|(with_reducible exact bU)|((with_reducible apply bA);rfl;rfl))
   cases f<;>exact ak (ae (ae (ae (ae (ae ah))))) (aj rfl) (h1 _ _ _ hR)
  ·have hpl:=Pl.of_rest hs (hq0 rfl)
   unfold Pl at hpl
   have hl:=hs.1
   repeat' (first|( ((with_reducible refine eh (id:=5) [0,1,2] (some 3) [([],some 4),([5],none)] mixed ?_ ?_);kernel_rfl))|( with_reducible refine bR (l8 (by first|(simp;done)|fail) (by first|(simp;done)|fail)) ?_)|simp only [WL,WM,Nat.reduceAdd,Nat.reduceLT,Nat.reduceEqDiff,true_and,reduceIte,ia,fR eI,vt,FG,Tryz.results87]|(with_reducible first|refine aC (hb:=?_)|refine aA (hK:=?_)|refine az (hK:=?_)|refine cD (Ce (p:=q') hs ⟨by omega,by omega⟩ (fun v' hv=>?_) (fun hv=>?_) (fun cs hv=>?_))|refine cD (TA hs (xw hs hv) (fun q2 hq2=>?_) (fun hq2=>?_) (fun hq2=>?_)))|((with_reducible refine aU ?_);apply qK (hf:=Tryz.results87);exact aZ;exact aZ)|((with_reducible apply aQ);intro σq hq)|(with_reducible exact bU)|((with_reducible apply bA);rfl;rfl))
   all_goals first
    | exact ak (ae (ae (ae (ae (ae ah))))) (aj rfl) (h1 _ _ _ (hR.trans (jj hv)))
    | exact aN (ae (ae (ae (ae (ae ah))))) rfl (h2 2 (hR.trans (pG hv)))
    | skip
   all_goals
    have hem:=qT hv
    obtain ⟨f',hf',hstep⟩:=n0 (n:=n) hv hf
    rw [hq2] at hstep
    first
     | exact ⟨(v',q2,true),ao bz id,⟨f',hf',hR.trans hstep,fun _=>(uG hs hq2).2.1⟩,hem⟩
     | exact ⟨(v',(0,0),false),ao bz id,⟨f',hf',hR.trans hstep,fun h=>by cases h⟩,hem⟩
     | exact aN (ae (ae (ae (ae (ae ah))))) rfl (h2 7 (hR.trans hstep))
 ·
  rename_i c3 c4 c5 c7
  refine bH (fun z:TrV × (Int × Int) × Bool=>⟨(JP bj::cS p::.any::JP c3::JP c4::JP c5::B false::JP c7::JP b::B z.2.2::.any::.any::.any::.any::.any::.any::.any::.any::.any::.any::.any::.any::.any::.any::.any::.any::.any::.any::.any::.any::.any::.any::[]),.obj b [I z.2.1.1,I z.2.1.2]::.obj c7 (uz z.1)::.obj c5 [I 0,I 0]::.obj c4 (uz tr0)::.obj c3 [I p.1,I p.2]::σ,true,[]⟩) (fun z=>∃ f,Ev z.1≤f∧bG ls n p=traitsG ls n f z.1 z.2.1 z.2.2∧(z.2.2=true→0 < (aF ls z.2.1).length)) (fun z=>Ev z.1) (tr0,(0,0),false) (ao bz id) ⟨2,FZ _,by unfold bG;rw [hq];rfl,fun h=>by cases h⟩ ?_
  rintro ⟨v,q',ok⟩ ⟨f,hf,hR,hq0⟩
  dsimp only at hf hR hq0 ⊢
  cases ok
  ·skip
   repeat' (first|( ((with_reducible refine eh (id:=5) [0,1,2] (some 3) [([],some 4),([5],none)] mixed ?_ ?_);kernel_rfl))|( with_reducible refine bR (l8 (by first|(simp;done)|fail) (by first|(simp;done)|fail)) ?_)|simp only [WL,WM,Nat.reduceAdd,true_and,reduceIte,Bool.false_eq_true,Tryz.results87]|(with_reducible first|refine aA (hK:=?_)|refine az (hK:=?_))|((with_reducible refine aU ?_);apply qK (hf:=Tryz.results87);exact aZ;exact aZ)|((with_reducible apply aQ);intro σq hq)|(with_reducible exact bU)|((with_reducible apply bA);rfl;rfl))
   cases f<;>exact ak (ae (ae (ae (ae (ae ah))))) (aj rfl) (h1 _ _ _ hR)
  ·have hpl:=Pl.of_rest hs (hq0 rfl)
   unfold Pl at hpl
   have hl:=hs.1
   repeat' (first|( ((with_reducible refine eh (id:=5) [0,1,2] (some 3) [([],some 4),([5],none)] mixed ?_ ?_);kernel_rfl))|( with_reducible refine bR (l8 (by first|(simp;done)|fail) (by first|(simp;done)|fail)) ?_)|simp only [WL,WM,Nat.reduceAdd,Nat.reduceLT,Nat.reduceEqDiff,true_and,reduceIte,ia,fR eI,vt,FG,Tryz.results87]|(with_reducible first|refine aC (hb:=?_)|refine aA (hK:=?_)|refine az (hK:=?_)|refine cD (Ce (p:=q') hs ⟨by omega,by omega⟩ (fun v' hv=>?_) (fun hv=>?_) (fun cs hv=>?_))|refine cD (TA hs (xw hs hv) (fun q2 hq2=>?_) (fun hq2=>?_) (fun hq2=>?_)))|((with_reducible refine aU ?_);apply qK (hf:=Tryz.results87);exact aZ;exact aZ)|((with_reducible apply aQ);intro σq hq)|(with_reducible exact bU)|((with_reducible apply bA);rfl;rfl))
   all_goals first
    | exact ak (ae (ae (ae (ae (ae ah))))) (aj rfl) (h1 _ _ _ (hR.trans (jj hv)))
    | exact aN (ae (ae (ae (ae (ae ah))))) rfl (h2 2 (hR.trans (pG hv)))
    | skip
   all_goals
    have hem:=qT hv
    obtain ⟨f',hf',hstep⟩:=n0 (n:=n) hv hf
    rw [hq2] at hstep
    first
     | exact ⟨(v',q2,true),ao bz id,⟨f',hf',hR.trans hstep,fun _=>(uG hs hq2).2.1⟩,hem⟩
     | exact ⟨(v',(0,0),false),ao bz id,⟨f',hf',hR.trans hstep,fun h=>by cases h⟩,hem⟩
     | exact aN (ae (ae (ae (ae (ae ah))))) rfl (h2 7 (hR.trans hstep))
 ·exact aN (ae (ae (ae (ae ah)))) rfl (h2 7 (by unfold bG;rw [hq]))
def Lk:List Int:=[45,63,58,44,91,93,123,125,35,38,42,33,124,62,39,34,37,64,96]
def yM (c:Int):Bool:=decide (c∈Lk)
theorem F6 {s:ByteArray} (h:cw s=Lk) (c:Int):decide (c∈cw s)=yM c:=by rw [h];rfl
theorem Tp {c:Int} (hK:K (.ret (B (yM c))) σ):ACallF κ Tryz.prog 184 [I c] σ K:=by
 refine ACallF.dropL (aa Tryz.func184 rfl ?_)
 simp only [Tryz.ntmps184]
 repeat' (first|simp only [WL,WM,Nat.reduceAdd,Nat.reduceSub,true_and,H6,Tryz.results184]|with_reducible refine cD (LY ?_ ?_))
 ·decide
 ·exact ak ah (aj (congrArg B (F6 (by decide) c))) hK
def pT (c:Int) (fl:Bool):Bool:=jB c && !blankI c && c != 10 && c != 13 && c != 65279 && !(fl && jN c)
theorem SA {c:Int}{fl:Bool} (hK:K (.ret (B (pT c fl))) σ):ACallF κ Tryz.prog 211 [I c,B fl] σ K:=by
 unfold pT at hK
 refine ACallF.dropL (aa Tryz.func211 rfl ?_)
 simp only [Tryz.ntmps211]
 repeat' (first|simp only [WL,aD,WM,reduceCtorEq,ba,Nat.reduceAdd,Nat.reduceSub,Bool.not_true,Bool.not_false,true_and,reduceIte,Bool.false_eq_true,fw,pj,Fm,Tryz.results211]|(with_reducible first|refine cD (Blank ?_)|refine cD (uQ ?_)|refine cD (L4 ?_))|((with_reducible first|refine ai (fun h=>?_) (fun h=>?_)|refine ab (fun h=>?_) (fun h=>?_))<;>(try simp only [h])<;>(try simp only [bg,bm] at h)))
 all_goals exact ak ah (aj (congrArg B (by simp [*]))) hK
def eC (l:List Int) (i:Nat) (fl:Bool):Bool:=decide (i < l.length) && pT (l.getD i 0) fl
theorem nX {l:List Int}{i:Nat}{fl:Bool} (hl:l.length≤1000000000) (hi:i≤1000000000) (hK:K (.ret (B (eC l i fl))) σ):ACallF κ Tryz.prog 183 [SI o l,I i,B fl] σ K:=by
 unfold eC at hK
 refine ACallF.dropL (aa Tryz.func183 rfl ?_)
 simp only [Tryz.ntmps183]
 repeat' (first|simp only [WL,aD,WM,reduceCtorEq,ba,Nat.reduceAdd,Nat.reduceSub,Bool.not_true,true_and,reduceIte,Bool.false_eq_true,T3,bX,Qk,Tryz.results183]|simp (disch:=first|omega|(simp only [aT];omega)) only [aV]|(with_reducible first|refine aC (hb:=?_)|refine cD (SA ?_))|((with_reducible first|refine ai (fun h=>?_) (fun h=>?_)|refine ab (fun h=>?_) (fun h=>?_))<;>(try simp only [h])<;>(try simp only [bg,bm] at h)))
 all_goals exact ak ah (aj (congrArg B (by simp;try omega))) hK
def fb (l:List Int) (fl:Bool):Bool :=
 eC l 0 fl && (if l.getD 0 0=45∨l.getD 0 0=63∨l.getD 0 0=58 then eC l 1 fl else !yM (l.getD 0 0))
theorem Jy {l:List Int}{i:Nat}{fl:Bool} (h:eC l i fl=true):i < l.length:=by
 unfold eC at h
 simp only [Bool.and_eq_true,decide_eq_true_eq] at h
 exact h.1
theorem iw {l:List Int}{fl:Bool} (hl:l.length≤1000000000) (hK:K (.ret (B (fb l fl))) σ):ACallF κ Tryz.prog 145 [SI o l,B fl] σ K:=by
 unfold fb at hK
 cases h0:eC l 0 fl
 ·rw [h0] at hK
  refine ACallF.dropL (aa Tryz.func145 rfl ?_)
  simp only [Tryz.ntmps145]
  repeat' (first|simp only [WL,WM,Nat.reduceAdd,Nat.reduceSub,Nat.reduceLeDiff,Bool.not_false,true_and,wQ,Tryz.results145,h0]|with_reducible refine cD (nX (i:=0) ?_ ?_ ?_)|omega)
  all_goals exact ak ah (aj rfl) hK
 ·rw [h0] at hK
  have h1:=Jy h0
  refine ACallF.dropL (aa Tryz.func145 rfl ?_)
  simp only [Tryz.ntmps145]
  repeat' (first|simp only [WL,aD,WM,Int.reduceToNat,reduceCtorEq,ba,Nat.reduceAdd,Nat.reduceSub,Nat.reduceLeDiff,Bool.not_true,true_and,T3,bX,wQ,Qj,Tryz.results145,h0]|simp (disch:=first|omega|(simp only [aT];omega)) only [aV,aV]|(with_reducible first|refine aC (hb:=?_)|refine cD (nX (i:=0) ?_ ?_ ?_)|refine cD (nX (i:=1) ?_ ?_ ?_)|refine cD (Tp ?_))|((with_reducible first|refine ai (fun h=>?_) (fun h=>?_)|refine ab (fun h=>?_) (fun h=>?_))<;>(try simp only [h])<;>(try simp only [bg,bm] at h))|omega)
  all_goals first
   | (rw [if_pos (by first|exact .inl (by assumption)|exact .inr (.inl (by assumption))|exact .inr (.inr (by assumption)))] at hK;exact ak ah (aj rfl) hK)
   | (rw [if_neg (by simp only [*];decide)] at hK;exact ak ah (aj (congrArg B (by simp [*]))) hK)
def mz (fl:Bool) (c:Int):Bool:=c == 58 || c == 35 || (fl && jN c)
theorem qD {fl:Bool}{c:Int} (h1:¬c=58) (h2:¬c=35) (h3:fl=false∨jN c=false):mz fl c=false:=by
 unfold mz;rcases h3 with h|h<;>simp [h1,h2,h]
theorem Bf {fl:Bool}{c:Int} (h:c=58∨c=35∨(fl=true∧jN c=true)):mz fl c=true:=by
 unfold mz;rcases h with h|h|⟨h1,h2⟩<;>simp [*]
def iV (fl:Bool):Nat→List Int→List Nat
 | _,[]=>[]
 | i,c::l=>if mz fl c then i::iV fl (i+1) l else iV fl (i+1) l
abbrev fE (l:List Int) (fl:Bool) (i:Nat):List Nat:=iV fl i (l.drop i)
theorem DK {l:List Int}{fl:Bool}{i:Nat} (h:l.length≤i):fE l fl i=[]:=by
 rw [fE,List.drop_eq_nil_of_le h];rfl
theorem IP {l:List Int}{fl:Bool}{i:Nat} (h:i < l.length):fE l fl i=if mz fl (l.getD i 0) then i::fE l fl (i+1) else fE l fl (i+1):=by
 rw [fE,List.drop_eq_getElem_cons h,List.getD_eq_getElem?_getD,List.getElem?_eq_getElem h]
 rfl
abbrev rH (l:List Int) (fl:Bool) (i:Nat):List (List AV):=(fE l fl i).map fun (i:Nat)=>[I i]
theorem I6 {l:List Int}{fl:Bool} (hK:∀ b1 b2,K (.ret (.raw (.func (.func 228) #[] #[.pointer (some ⟨b1,0,none⟩),.pointer (some ⟨b2,0,none⟩)]))) (.obj b2 [B fl]::.obj b1 [SI o l]::σ)):ACallF κ Tryz.prog 220 [SI o l,B fl] σ K:=by
 refine ACallF.dropL (aa Tryz.func220 rfl ?_)
 simp only [Tryz.ntmps220]
 repeat' (first|simp only [WL,WM,Nat.reduceAdd,Nat.reduceSub,true_and,Tryz.results220]|with_reducible refine aP (hK:=fun b=>?_))
 exact ak ah (aj rfl) (hK _ _)
theorem Ef        {b1 b2 L : Nat} {l : List Int} {fl : Bool} (hl : l.length ≤ 1000000000) (hI : Iter κ Tryz.prog L K (rH     l fl 0) σ) :
    ACallF κ Tryz.prog 228 [.raw (.func (.yield L) #[] #[]),.raw (.pointer (some ⟨b1,0,none⟩)),.raw (.pointer (some ⟨b2,0,none⟩))] (.obj b2 [B fl]::.obj b1 [SI o l]::σ) K:=by
  refine ACallF.dropL (aa Tryz.func228 rfl ?_)
  simp only [Tryz.ntmps228]
  repeat' (first|simp only [WL,WM,Nat.reduceAdd,Nat.reduceSub,true_and,bX]|with_reducible refine ax (hK:=?_))
  refine bH (fun x:Nat × List Res=>⟨(.raw (.func (.yield L) #[] #[])::.raw (.pointer (some ⟨b1,0,none⟩))::.raw (.pointer (some ⟨b2,0,none⟩))::.any::.any::.any::SI o l::I l.length::I x.1::.any::.any::.any::.any::.any::.any::.any::.any::.any::.any::.any::.any::.any::.any::.any::.any::.any::.any::.any::.any::.any::.any::.any::.any::[]),.obj b2 [B fl]::.obj b1 [SI o l]::x.2,true,[]⟩) (fun x=>x.1≤l.length∧Iter κ Tryz.prog L K (rH l fl x.1) x.2) (fun x=>l.length - x.1) (0,σ) (ao bz id) ⟨Nat.zero_le _,hI⟩ ?_
  rintro ⟨k,σ'⟩ ⟨h1,h2⟩
  dsimp only at h1 h2 ⊢
  rcases Nat.lt_or_ge k l.length with hk|hk
  · rw [rH,IP hk] at h2
    cases fl
    all_goals
      repeat' (first|simp only [WL,aD,WM,reduceCtorEq,ba,Nat.reduceAdd,Bool.not_true,Bool.not_false,true_and,reduceIte,Bool.false_eq_true,T3,bX,pj,Tryz.results228]|simp (disch:=first|omega|(simp only [aT];omega)) only [aq,aV,aV]|(with_reducible first|refine aC (hb:=?_)|refine ax (hK:=?_)|refine cD (uQ ?_))|((with_reducible first|refine ai (fun h=>?_) (fun h=>?_)|refine ab (fun h=>?_) (fun h=>?_))<;>(try simp only [h])<;>(try simp only [bg,bm] at h))|omega)
    all_goals first
      | (rw [qD (by assumption) (by assumption) (by first|exact .inl rfl|exact .inr (by assumption)),if_neg Bool.false_ne_true] at h2
         exact ⟨(k+1,σ'),ao bz id,⟨hk,h2⟩,by dsimp only;omega⟩)
      | skip
    all_goals
      rw [Bf (by first|exact .inl (by assumption)|exact .inr (.inl (by assumption))|exact .inr (.inr ⟨rfl,by assumption⟩)),if_pos rfl,List.map_cons] at h2
      refine dB [.obj b2 [B _],.obj b1 [SI o l]] (iC le_rfl) h2 (fun σ3 h=>?_) (fun σ3 h=>?_) (fun c σ3 h=>?_)
      · skip
        repeat' (first|simp only [WL,aD,WM,ne_eq,reduceCtorEq,not_false_eq_true,Bool.not_true,reduceIte]|simp (disch:=first|omega|(simp only [aT];omega)) only [aq])
        exact ⟨(k+1,σ3),ao bz id,⟨hk,h⟩,by dsimp only;omega⟩
      · skip
        repeat' (first|simp only [WL,WM,Bool.not_false,true_and,reduceIte,Tryz.results228])
        exact ak (ae (ae ah)) (aj rfl) h
      · skip
        repeat' (first|simp only [WL,WM,true_and])
        exact aN (ae (ae ah)) rfl h
  · rw [rH,DK hk] at h2
    repeat' (first|simp only [WL,aD,WM,reduceCtorEq,ba,Nat.reduceAdd,Bool.not_true,Bool.not_false,true_and,reduceIte,Bool.false_eq_true,T3,bX,pj,Tryz.results228]|simp (disch:=first|omega|(simp only [aT];omega)) only [aq,aV,aV]|(with_reducible first|refine aC (hb:=?_)|refine ax (hK:=?_)|refine cD (uQ ?_))|((with_reducible first|refine ai (fun h=>?_) (fun h=>?_)|refine ab (fun h=>?_) (fun h=>?_))<;>(try simp only [h])<;>(try simp only [bg,bm] at h))|omega)
    exact ak (ae (ae ah)) (aj rfl) h2
def na (l:List Int) (fl:Bool) (i:Nat):Bool:=(l.getD i 0 == 58 && eC l (i+1) fl) || (l.getD i 0 == 35 && (i == 0 || !blankI (l.getD (i - 1) 0)))
def oy (l:List Int) (fl:Bool):List Nat→Nat
 | []=>l.length
 | i::r=>if na l fl i then oy l fl r else i
def gW (l:List Int) (fl:Bool):Nat:=oy l fl (fE l fl 0)
theorem lU {fl:Bool}:∀ {l:List Int}{i j:Nat},j∈iV fl i l→i≤j∧j < i+l.length
 | [],_,_,h=>by cases h
 | c::l,i,j,h=>by
  unfold iV at h
  split at h
  ·rcases List.mem_cons.1 h with rfl|h
   ·simp
   ·have:=lU h;simp only [List.length_cons];omega
  ·have:=lU h;simp only [List.length_cons];omega
theorem yo {l:List Int}{fl:Bool}:∀ {r:List Nat},(∀ j∈r,j < l.length)→oy l fl r≤l.length
 | [],_=>Nat.le_refl _
 | i::r,h=>by
  unfold oy
  split
  ·exact yo (fun j hj=>h j (List.mem_cons_of_mem _ hj))
  ·exact Nat.le_of_lt (h i List.mem_cons_self)
theorem sP {fl:Bool}{l:List Int}{j:Nat} (h:j∈fE l fl 0):j < l.length:=by
 have:=lU h;simpa using this.2
theorem yP {l:List Int}{fl:Bool}:gW l fl≤l.length:=yo (fun _ h=>sP h)
theorem AG {l:List Int}{fl:Bool}{i:Nat} (h:(l.getD i 0=58∧eC l (i+1) fl=true)∨(l.getD i 0=35∧(i=0∨blankI (l.getD (i - 1) 0)=false))):na l fl i=true:=by
 unfold na
 rcases h with ⟨h1,h2⟩|⟨h1,h2|h2⟩<;>rw [h1,h2]<;>simp
theorem IR {l:List Int}{fl:Bool}{i:Nat} (h1:¬l.getD i 0=58∨eC l (i+1) fl=false) (h2:¬l.getD i 0=35∨(¬i=0∧blankI (l.getD (i - 1) 0)=true)):na l fl i=false:=by
 unfold na
 rw [Bool.or_eq_false_iff]
 refine ⟨?_, ?_⟩
 ·rcases h1 with h|h
  ·rw [beq_eq_false_iff_ne.2 h];rfl
  ·rw [h,Bool.and_false]
 ·rcases h2 with h|⟨h,h'⟩
  ·rw [beq_eq_false_iff_ne.2 h];rfl
  ·rw [h',beq_eq_false_iff_ne.2 h,Bool.not_true,Bool.or_false,Bool.and_false]
theorem Lo {l:List Int}{fl:Bool} (hl:l.length≤1000000) (hK:K (.ret (I (gW l fl))) σ):ACallF κ Tryz.prog 212 [SI o l,B fl] σ K:=by
 have hl2:l.length≤1000000000:=by omega
 refine ACallF.dropL (aR Tryz.func212 rfl ?_)
 simp only [Tryz.ntmps212]
 repeat' (first|(with_reducible first|refine ay ?_|refine al (al ?_)|refine aJ ?_|refine aB ?_)|simp only [WL,WM,Nat.reduceAdd,Nat.reduceSub,true_and,Pv]|(with_reducible first|refine ax (hK:=?_)|refine aP (hK:=fun b=>?_)|refine aS (hK:=fun b=>?_)|refine cD (I6 (fun pb1 pb2=>?_))))
 rename_i b1 b2
 refine nv 228 [] [.pointer (some ⟨pb1,0,none⟩),.pointer (some ⟨pb2,0,none⟩)] (rH l fl 0) [.obj pb2 [B fl],.obj pb1 [SI o l]] (.obj b [I 0]::.obj b2 [B fl]::.obj b1 [SI o l]::σ)
  (fun xs τ=>∃ r:List Nat,xs=r.map (fun (i:Nat)=>[I i])∧(∀ i∈r,i < l.length)∧gW l fl=oy l fl r∧τ=.obj b [I 0]::.obj b2 [B fl]::.obj b1 [SI o l]::σ)
  rfl Qb (ResW.refl _) (fun L K σ' h=>Ef hl2 h) ⟨fE l fl 0,rfl,fun i h=>sP h,rfl,rfl⟩ ?_ ?_
 ·rintro τ ⟨r,h1,h2,h3,rfl⟩
  obtain rfl:r=[]:=by cases r with
   | nil=>rfl
   | cons=>simp at h1
  repeat' (first|(with_reducible first|refine aJ ?_|refine aY ?_)|simp only [WL,WM,true_and,bX,Tryz.results212]|(with_reducible first|refine ax (hK:=?_)|refine aO (hK:=?_))|((with_reducible refine aU ?_);apply db (hf:=Tryz.results212);exact eG))
  exact ak (ae (ae (ae ah))) (aj (by rw [h3];rfl)) hK
 ·rintro dd L Rr Rb hR x xs τ ⟨r,h1,h2,h3,rfl⟩
  cases r with
  | nil=>simp at h1
  | cons i r =>
  rw [List.map_cons,List.cons.injEq] at h1
  obtain ⟨rfl,rfl⟩:=h1
  have hi:=h2 i List.mem_cons_self
  refine ⟨rfl, ?_⟩
  repeat' (first|simp only [WL,WM])
  refine qB ?_
  repeat' (first|simp only [WL,aD,WM,reduceCtorEq,ba,Nat.reduceAdd,Nat.reduceLeDiff,Bool.not_true,Bool.not_false,true_and,reduceIte,Bool.false_eq_true,T3,bX,fw,wQ,Tryz.results212]|simp (disch:=first|omega|(simp only [aT];omega)) only [aq,aV,aV]|(with_reducible first|refine aC (hb:=?_)|refine ax (hK:=?_)|refine aO (hK:=?_)|refine cD (nX (i:=i+1) ?_ ?_ ?_)|refine cD (Blank ?_))|((with_reducible first|refine ai (fun h=>?_) (fun h=>?_)|refine ab (fun h=>?_) (fun h=>?_))<;>(try simp only [h])<;>(try simp only [bg,bm] at h))|omega)
  all_goals
   have e1:((i:Int) - 1).toNat=i - 1:=by omega
   try simp only [e1] at h
  all_goals first
   | exact ⟨_,gS,r,rfl,fun j hj=>h2 j (List.mem_cons_of_mem _ hj),h3.trans (if_pos (AG (by first|exact .inl ⟨by assumption,by assumption⟩|exact .inr ⟨by assumption,.inl (by omega)⟩|exact .inr ⟨by assumption,.inr (by assumption)⟩))),rfl⟩
   | skip
  all_goals
   have h4:na l fl i=false:=IR (by first|exact .inl (by assumption)|exact .inr (by assumption)) (by first|exact .inl (by assumption)|exact .inr ⟨by omega,by assumption⟩)
   have h5:gW l fl=i:=h3.trans (if_neg (by rw [h4];exact Bool.false_ne_true))
   refine ⟨_,gS, ?_⟩
   repeat' (first|((with_reducible refine aU ?_);apply db (hf:=Tryz.results212);exact eG))
   exact ak (ae (ae (ae ah))) (aj (by rw [h5])) hK
def fG (l:List Int) (fl:Bool):Nat:=(ey (l.take (gW l fl))).length
theorem CO {l:List Int}{fl:Bool}:fG l fl≤l.length:=by
 unfold fG
 have:=sd (l.take (gW l fl))
 rw [List.length_take] at this
 omega
theorem RD {l:List Int}{fl:Bool} (hl:l.length≤1000000) (hK:K (.ret (I (fG l fl))) σ):ACallF κ Tryz.prog 186 [SI o l,B fl] σ K:=by
 have hst:=yP (l:=l) (fl:=fl)
 refine ACallF.dropL (aR Tryz.func186 rfl ?_)
 simp only [Tryz.ntmps186]
 repeat' (first|(with_reducible first|refine al (ay ?_)|refine bW ?_|refine aJ ?_)|simp only [WL,WM,Nat.reduceAdd,Nat.reduceSub,true_and,F9]|with_reducible refine cD (Lo ?_ ?_)|omega)
 refine dM (fun k:Nat=>⟨(SI o l::B fl::.any::.any::.any::I k::.any::.any::.any::.any::.any::.any::.any::.any::.any::.any::.any::.any::.any::.any::.any::.any::[]),σ,true,[]⟩) (fun k=>k≤gW l fl∧fG l fl=(ey (l.take k)).length) (fun k=>k) (gW l fl) (ao bz id) ⟨Nat.le_refl _,rfl⟩ ?_
 rintro k ⟨h1,h2⟩
 have e1:0 < k→((k:Int) - 1).toNat=k - 1:=fun _=>by omega
 have e2:(l.take k).length=k:=by rw [List.length_take];omega
 have e3:0 < k→(l.take k).getD (k - 1) 0=l.getD (k - 1) 0:=fun h=>by
  simp only [List.getD_eq_getElem?_getD]
  rw [List.getElem?_take_of_lt (by omega)]
 repeat' (first|(with_reducible first|refine ay ?_|refine al (al ?_)|refine aJ ?_|refine aB ?_|refine aw ?_|refine aY ?_)|simp only [WL,aD,WM,reduceCtorEq,ba,Nat.reduceAdd,Bool.not_true,true_and,reduceIte,Bool.false_eq_true,T3,bX,fw,Tryz.results186]|simp (disch:=first|omega|(simp only [aT];omega)) only [aq,aV,aV]|(with_reducible first|refine aC (hb:=?_)|refine cD (Blank ?_))|((with_reducible first|refine ai (fun h=>?_) (fun h=>?_)|refine ab (fun h=>?_) (fun h=>?_))<;>(try simp only [h])<;>(try simp only [bg,bm] at h)))
 ·rw [e1 (by omega)] at h
  refine ⟨k - 1,ao bz id,⟨by omega, ?_⟩,by omega⟩
  rw [h2,rl (by omega) (by rw [e2,e3 (by omega)];exact h),e2,List.take_take]
  congr 3;omega
 ·rw [e1 (by omega)] at h
  exact ak ah (aj (by rw [h2,sg (by omega) (by rw [e2,e3 (by omega)];exact h),e2])) hK
 ·obtain rfl:k=0:=by omega
  exact ak ah (aj (by rw [h2];rfl)) hK
def zf (l:List Int) (fl:Bool):Int:=if gW l fl < l.length∧l.getD (gW l fl) 0=58 then gW l fl else -1
theorem Ut {l:List Int}{fl:Bool} (hl:l.length≤1000000) (hK:K (.ret (I (zf l fl))) σ):ACallF κ Tryz.prog 187 [SI o l,B fl] σ K:=by
 have hst:=yP (l:=l) (fl:=fl)
 unfold zf at hK
 refine ACallF.dropL (aa Tryz.func187 rfl ?_)
 simp only [Tryz.ntmps187]
 repeat' (first|simp only [WL,aD,WM,reduceCtorEq,ba,Nat.reduceAdd,Nat.reduceSub,Bool.not_true,true_and,reduceIte,Bool.false_eq_true,T3,bX,F9,Tryz.results187]|simp (disch:=first|omega|(simp only [aT];omega)) only [aV,aV]|(with_reducible first|refine aC (hb:=?_)|refine cD (Lo ?_ ?_))|((with_reducible first|refine ai (fun h=>?_) (fun h=>?_)|refine ab (fun h=>?_) (fun h=>?_))<;>(try simp only [h])<;>(try simp only [bg,bm] at h))|omega)
 all_goals first
  | (rw [if_pos ⟨by omega,by assumption⟩] at hK;exact ak ah (aj rfl) hK)
  | (rw [if_neg (by omega)] at hK;exact ak ah (aj rfl) hK)
end Go.Proofs.YthkabaiamcjdbaaGreat
/-
 Plain specifications for chapter 8: texts cO single quotes. No program in sight.
-/

namespace Go.Abs
def nq:List Int→List Int
 | []=>[]
 | [c]=>[c]
 | c::d::r=>if c=39∧d=39 then 39::nq r else c::nq (d::r)
def ir:Nat→List Int→Int × Bool
 | _,[]=>(0,false)
 | k,[c]=>if c=39 then (k,true) else (0,false)
 | k,c::d::r=>if c=39 then (if d=39 then ir (k+2) r else (k,true)) else ir (k+1) (d::r)
theorem J3 {r:List Int}:nq (39::39::r)=39::nq r:=by simp [nq]
theorem Gi {c d:Int}{r:List Int} (h:¬(c=39∧d=39)):nq (c::d::r)=c::nq (d::r):=by simp [nq,h]
theorem vO:∀ l:List Int,(nq l).length≤l.length
 | []=>by simp [nq]
 | [c]=>by simp [nq]
 | c::d::r=>by
  have h1:=vO r
  have h2:=vO (d::r)
  unfold nq
  split<;>simp only [List.length_cons] at *<;>omega
end Go.Abs
