/-
  Texts Pc, He, MG, Hf, Hg, Hh, Hj, one behind the other.
-/
import Derived.Test.YthkabaiamcjdbaaGreatJ7
set_option linter.unusedVariables false
set_option linter.unusedSimpArgs false
set_option maxHeartbeats 16000000
namespace Go.Proofs.YthkabaiamcjdbaaGreat
open Go.Abs
variable {κ:Ctx} {σ:List Res} {K:Ret→List Res→Prop} {o o':Option (Option (Nat × Nat))}
theorem NC:aJ ({ data:=#[35,59,47,63,58,64,38,61,43,36,44,95,46,33,126,42,39,40,41,91,93] }:ByteArray)=uriL:=by decide +kernel
theorem GX {k:Nat} (h:k < uriL.length):0≤uriL.getD k 0∧uriL.getD k 0≤255:=by
 have:∀ c∈uriL,0≤c∧c≤255:=by decide
 rw [List.getD_eq_getElem?_getD,List.getElem?_eq_getElem h];exact this _ (List.getElem_mem h)
theorem MZ {c:Int}{k:Nat} (h:k < uriL.length) (hc:c=uriL.getD k 0):oE c=true:=by
 unfold oE;rw [decide_eq_true_eq,hc,List.getD_eq_getElem?_getD,List.getElem?_eq_getElem h];exact List.getElem_mem h
theorem OI {c:Int} (h:∀ j,j < uriL.length→¬c=uriL.getD j 0):oE c=false:=by
 unfold oE;rw [decide_eq_false_iff_not];intro hm;obtain ⟨j,hj,e⟩:=List.getElem_of_mem hm;exact h j hj (by rw [List.getD_eq_getElem?_getD,List.getElem?_eq_getElem hj];exact e.symm)
theorem yG:({ data:=#[35,59,47,63,58,64,38,61,43,36,44,95,46,33,126,42,39,40,41,91,93] }:ByteArray).size=21:=by decide +kernel
theorem TZ {l:List Int}{i:Nat} (hl:l.length≤1000000000) (hK:K (.ret (I (bM (l.drop i)))) σ):ACallF κ Tryz.prog 29 [SI o l,I i] σ K:=by
 by_cases hi:i < l.length
 ·skip
  refine ACallF.dropL (aa Tryz.func29 rfl ?_);simp only [Tryz.ntmps29]
  repeat' (first|simp only [WL,ay,WM,reduceCtorEq,bg,Nat.reduceAdd,Nat.reduceSub,Nat.reduceLeDiff,Bool.not_true,Bool.not_false,true_and,reduceIte,Bool.false_eq_true,T3,cb,Am,QE,QH,Tryz.results29,NC,yG,PM,tn2]|simp (disch:=first|omega|(simp only [aU];omega)) only [an,bL]|(with_reducible first|refine ax (hb:=?_)|refine cD (AC ?_)|refine cD (Jb ?_ ?_)|refine cD (Wx ?_))|((with_reducible first|refine ai (fun h=>?_) (fun h=>?_)|refine ab (fun h=>?_) (fun h=>?_))<;>(try simp only [h])<;>(try simp only [bf,ba] at h))|omega)
  all_goals refine ak ae (aj (congrArg I ?_)) hK
  all_goals first
   | (rw [Lu hi (by assumption)];rfl)
   | (rw [L8 hi (AK.2 (by assumption))];rfl)
   | (rw [M0 (by omega) (by assumption) (by assumption) (by assumption)];rfl)
   | (rw [sF hi (by assumption) (by first|exact .inl (by omega)|exact .inr (.inl (by assumption))|exact .inr (.inr (by assumption)))];rfl)
   | (rw [KQ hi (by assumption) (by assumption) (by rw [← Bool.not_eq_true,AK];assumption)];rfl)
 ·skip
  refine ACallF.dropL (aa Tryz.func29 rfl ?_);simp only [Tryz.ntmps29]
  repeat' (first|simp only [WL,ay,WM,reduceCtorEq,bg,Nat.reduceAdd,Nat.reduceSub,Bool.not_true,Bool.not_false,true_and,reduceIte,Bool.false_eq_true,T3,cb,Am,QE,QH,Tryz.results29]|simp (disch:=first|omega|(simp only [aU];omega)) only [an,bL]|(with_reducible first|refine ax (hb:=?_)|refine cD (AC ?_)|refine cD (Jb ?_ ?_)|refine cD (Wx ?_))|((with_reducible first|refine ai (fun h=>?_) (fun h=>?_)|refine ab (fun h=>?_) (fun h=>?_))<;>(try simp only [h])<;>(try simp only [bf,ba] at h))|omega)
  exact ak ae (aj (by rw [MY (by omega)];rfl)) hK
theorem Qq {l:List Int} (hl:l.length≤1000000000) (hK:K (.ret (I (bM l))) σ):ACallF κ Tryz.prog 197 [SI o l] σ K:=by
 have e0:bM l=bM (l.drop 0):=rfl
 refine ACallF.dropL (aN Tryz.func197 rfl ?_);simp only [Tryz.ntmps197]
 repeat' (first|(with_reducible first|refine aC ?_|refine bO ?_|refine al (al ?_)|refine aG ?_|refine aB ?_|refine aw ?_)|simp only [WL,ay,WM,Int.reduceToNat,reduceCtorEq,bg,Nat.reduceAdd,Nat.reduceSub,Bool.not_true,true_and,reduceIte,Bool.false_eq_true,ml,List.eraseIdx_cons_zero,T3,cb,sn,LK,H2,Tryz.results197]|simp (disch:=first|omega|(simp only [aU];omega)) only [bL]|(with_reducible first|refine ax (hb:=?_)|refine XC (ty:=63) (hK:=fun tb=>?_)|refine Rf (hK:=?_)|refine cD (PJ ?_)|refine cD (Xr ?_))|((with_reducible first|refine ai (fun h=>?_) (fun h=>?_)|refine ab (fun h=>?_) (fun h=>?_))<;>(try simp only [h])<;>(try simp only [bf,ba] at h)))
 ·exact ak ae (aj (by rw [e0,MY (by omega)];rfl)) hK
 ·exact ak ae (aj (by rw [e0,M0 (by omega) (by assumption) (by assumption) (by assumption)];rfl)) hK
 ·exact ak ae (aj (by rw [e0,sF (by omega) (by assumption) (.inr (.inr (by assumption)))];rfl)) hK
 ·exact ak ae (aj (by rw [e0,sF (by omega) (by assumption) (.inr (.inl (by assumption)))];rfl)) hK
 ·exact ak ae (aj (by rw [e0,sF (by omega) (by assumption) (.inl (by omega))];rfl)) hK
 ·exact ak ae (aj (by rw [e0,Lu (by omega) (by assumption)];rfl)) hK
 have h21:uriL.length=21:=rfl
 refine dq (fun k:Nat=>⟨(SI o l::.any::.any::.any::.any::.any::.any::.any::.any::.any::.any::.any::.any::.any::.any::.any::.any::.any::.any::.any::.any::.any::.any::.any::.any::.any::.any::.any::.any::.any::.any::.any::.any::.any::SU none uriL::I 21::I k::.any::.any::.any::.any::.any::.any::.any::.any::.any::.any::[]),σ,true,[]⟩) (fun k=>k≤21∧∀ j,j < k→¬l.getD 0 0=uriL.getD j 0) (fun k=>21 - k) 0 (aq bH id) ⟨Nat.zero_le _,fun j h=>by omega⟩ ?_;rintro k ⟨hk,hn⟩;have hb:=fun h=>GX (k:=k) h
 repeat' (first|(with_reducible first|refine al (aC ?_)|refine aG ?_|refine aB ?_|refine aw ?_|refine aO ?_)|simp only [WL,ay,WM,Int.reduceToNat,reduceCtorEq,bg,Nat.reduceAdd,true_and,T3,T5,cb,sn,cI z7,Tryz.results197]|simp (disch:=first|omega|(simp only [aU];omega)) only [an,bL,za]|with_reducible refine ax (hb:=?_)|((with_reducible first|refine ai (fun h=>?_) (fun h=>?_)|refine ab (fun h=>?_) (fun h=>?_))<;>(try simp only [h])<;>(try simp only [bf,ba] at h)))
 ·exact ak ae (aj (by rw [e0,L8 (by omega) (MZ (k:=k) (by omega) (by assumption))];rfl)) hK
 ·exact ⟨k+1,aq bH id,⟨by omega,fun j hj=>by
   rcases Nat.lt_or_ge j k with h'|h'
   ·exact hn j h'
   ·obtain rfl:j=k:=by omega
    assumption⟩,by omega⟩
 ·exact ak ae (aj (by rw [e0,KQ (by omega) (by assumption) (by assumption) (OI (fun j hj=>hn j (by omega)))];rfl)) hK
theorem Wo {l:List Int} (hK:∀ b,K (.ret (.raw (.func (.func 196) #[] #[.pointer (some ⟨b,0,none⟩)]))) (.obj b [SI o l]::σ)):ACallF κ Tryz.prog 167 [SI o l] σ K:=by
 refine ACallF.dropL (aa Tryz.func167 rfl ?_);simp only [Tryz.ntmps167]
 repeat' (first|simp only [WL,WM,Nat.reduceAdd,Nat.reduceSub,true_and,Tryz.results167]|with_reducible refine aQ (hK:=fun b=>?_))
 exact ak ae (aj rfl) (hK _)
abbrev lj (l:List Int) (i:Nat):List (List AV):=(nE l i).map fun p=>[I p.1,I p.2]
theorem OS {b L:Nat}{l:List Int} (hl:l.length≤1000000000) (hI:Iter κ Tryz.prog L K (lj l 0) σ) :
  ACallF κ Tryz.prog 196 [.raw (.func (.yield L) #[] #[]),.raw (.pointer (some ⟨b,0,none⟩))] (.obj b [SI o l]::σ) K:=by
 refine ACallF.dropL (aa Tryz.func196 rfl ?_);simp only [Tryz.ntmps196]
 repeat' (first|simp only [WL,WM,Nat.reduceAdd,Nat.reduceSub])
 refine bF (fun x:Nat × List Res=>⟨(.raw (.func (.yield L) #[] #[])::.raw (.pointer (some ⟨b,0,none⟩))::.any::I x.1::.any::.any::.any::.any::.any::.any::.any::.any::.any::.any::.any::.any::.any::.any::.any::.any::.any::.any::.any::[]),.obj b [SI o l]::x.2,true,[]⟩) (fun x=>x.1≤l.length∧Iter κ Tryz.prog L K (lj l x.1) x.2) (fun x=>l.length - x.1) (0,σ) (aq bH id) ⟨Nat.zero_le _,hI⟩ ?_;rintro ⟨k,σ'⟩ hx;dsimp only at hx ⊢;have h1:=hx.1
 have h2:=hx.2
 have hsn:=fW (l:=l) (i:=k)
 by_cases hz:bM (l.drop k)=0
 ·rw [lj,sZ hz] at h2
  repeat' (first|simp only [WL,ay,WM,ne_eq,reduceCtorEq,not_false_eq_true,Bool.not_false,true_and,reduceIte,T3,cb,Lw,Tryz.results196,hz]|simp (disch:=first|omega|(simp only [aU];omega)) only [an]|(with_reducible first|refine ax (hb:=?_)|refine au (hK:=?_)|refine cD (Qq ?_ ?_))|((with_reducible first|refine ai (fun h=>?_) (fun h=>?_)|refine ab (fun h=>?_) (fun h=>?_))<;>(try simp only [h])<;>(try simp only [bf,ba] at h))|omega|(simp only [aU];omega))
  exact ak (ah ae) (aj rfl) h2
 ·rw [lj,mJ hz,List.map_cons] at h2
  repeat' (first|simp only [WL,ay,WM,ne_eq,reduceCtorEq,not_false_eq_true,Bool.not_false,true_and,reduceIte,T3,cb,Lw,Tryz.results196]|simp (disch:=first|omega|(simp only [aU];omega)) only [an]|(with_reducible first|refine ax (hb:=?_)|refine au (hK:=?_)|refine cD (Qq ?_ ?_))|((with_reducible first|refine ai (fun h=>?_) (fun h=>?_)|refine ab (fun h=>?_) (fun h=>?_))<;>(try simp only [h])<;>(try simp only [bf,ba] at h))|omega|(simp only [aU];omega))
  refine cR [.obj b [SI o l]] (fF le_rfl (L6 (by simp))) h2 (fun σ3 h=>?_) (fun σ3 h=>?_) (fun c σ3 h=>?_)
  ·skip
   repeat' (first|simp only [WL,ay,WM,ne_eq,reduceCtorEq,not_false_eq_true,Bool.not_true,reduceIte,Bool.false_eq_true]|simp (disch:=first|omega|(simp only [aU];omega)) only [an])
   exact ⟨(k+bM (l.drop k),σ3),aq bH id,⟨by dsimp only;omega,h⟩,by dsimp only;omega⟩
  ·skip
   repeat' (first|simp only [WL,WM,Bool.not_false,true_and,reduceIte,Bool.false_eq_true,Tryz.results196])
   exact ak (ah ae) (aj rfl) h
  ·skip
   repeat' (first|simp only [WL,WM,true_and])
   exact aS (ah ae) rfl h
theorem XX {l:List Int}{F:FuncId}{may:Int→Bool} (hF:ao Tryz.prog F=True) (hmay:∀ c σ K,K (.ret (B (may c))) σ→ACallF κ Tryz.prog F [I c] σ K) (hl:l.length≤1000000000) (hK:K (.ret (I (cG may l))) σ):ACallF κ Tryz.prog 136 [SI o l,.raw (.func (.func F) #[] #[])] σ K:=by
 refine ACallF.dropL (aN Tryz.func136 rfl ?_);simp only [Tryz.ntmps136]
 repeat' (first|(with_reducible first|refine aC ?_|refine al (al ?_)|refine aG ?_|refine aB ?_)|simp only [WL,WM,Nat.reduceAdd,Nat.reduceSub,true_and,TB]|(with_reducible first|refine au (hK:=?_)|refine aP (hK:=?_)|refine aQ (hK:=fun b=>?_)|refine aV (hK:=fun b=>?_)|refine cD (Wo (fun eb=>?_))))
 rename_i b1 b2;refine pH 196 [] [.pointer (some ⟨eb,0,none⟩)] (lj l 0) [.obj eb [SI o l]] (.obj b [I 0]::.obj b2 [.raw (.func (.func F) #[] #[])]::.obj b1 [SI o l]::σ)
  (fun xs τ=>∃ i:Nat,xs=lj l i∧i≤l.length∧cG may l=i+cG may (l.drop i)∧τ=.obj b [I i]::.obj b2 [.raw (.func (.func F) #[] #[])]::.obj b1 [SI o l]::σ)
  rfl Ts (ResW.refl _) (fun L K σ' h=>OS hl h) ⟨0,rfl,Nat.zero_le _,(Nat.zero_add _).symm,rfl⟩ ?_ ?_
 ·rintro τ ⟨i,h1,h2,h3,rfl⟩
  by_cases hz:bM (l.drop i)=0
  ·rw [nw (.inl hz)] at h3
   repeat' (first|(with_reducible first|refine aG ?_|refine aO ?_)|simp only [WL,WM,true_and,Tryz.results136]|with_reducible refine au (hK:=?_))
   exact ak (ah (ah (ah ae))) (aj (by rw [h3];rfl)) hK
  ·rw [lj,mJ hz] at h1;cases h1
 ·rintro dd L Rr Rb hR x xs τ ⟨i,h1,h2,h3,rfl⟩
  by_cases hz:bM (l.drop i)=0
  ·rw [lj,sZ hz] at h1;cases h1
  rw [lj,mJ hz,List.map_cons,List.cons.injEq] at h1;obtain ⟨rfl,rfl⟩:=h1;have hsn:=fW (l:=l) (i:=i)
  refine ⟨rfl, ?_⟩
  repeat' (first|simp only [WL,WM])
  refine sC ?_
  repeat' (first|simp only [WL,WM,reduceCtorEq,Nat.reduceAdd,true_and,reduceIte,T3,cb,hF]|simp (disch:=first|omega|(simp only [aU];omega)) only [bL]|(with_reducible first|refine ax (hb:=?_)|refine au (hK:=?_)|refine aP (hK:=?_)|refine callD_q (hmay _ _ _ aT) ?_)|((with_reducible refine aE (id:=5) 7 mixed ?_ ?_);kernel_rfl)|(with_reducible refine bK ?_)|((with_reducible first|refine ai (fun h=>?_) (fun h=>?_)|refine ab (fun h=>?_) (fun h=>?_))<;>(try simp only [h])<;>(try simp only [bf,ba] at h)))
  ·refine ⟨_,iU, ?_⟩
   rw [nw (l:=l.drop i) (.inr (by rw [uN];assumption)),Nat.add_zero] at h3
   repeat' (first|(with_reducible first|refine aG ?_|refine aO ?_)|simp only [WL,WM,true_and,Tryz.results136]|with_reducible refine au (hK:=?_))
   exact ak (ah (ah (ah ae))) (aj (by rw [h3])) hK
  ·exact ⟨_,iU,i+bM (l.drop i),rfl,by omega,by rw [h3,mQ hz (by rw [uN];assumption),List.drop_drop];omega,rfl⟩
theorem qm {l:List Int} (hl:l.length≤1000000000) (hK:K (.ret (I (cG dQ l))) σ):ACallF κ Tryz.prog 136 [SI o l,.raw (.func (.func 137) #[] #[])] σ K:=XX UD (fun c σ K h=>Ze h) hl hK
theorem wv {l:List Int} (hl:l.length≤1000000000) (hK:K (.ret (I (cG eV l))) σ):ACallF κ Tryz.prog 136 [SI o l,.raw (.func (.func 153) #[] #[])] σ K:=XX To (fun c σ K h=>RR h) hl hK
theorem Tn {l:List Int} (hl:l.length≤1000000000) (h2:2≤l.length) (hK:K (.ret (.tup [.raw (.string (fS l).1),I (fS l).2.1,B (fS l).2.2])) σ):ACallF κ Tryz.prog 152 [SI o l] σ K:=by
 have hu:=lr dQ (l.drop 2)
 rw [List.length_drop] at hu;have e1:((cG dQ (l.drop 2):Int)+2).toNat=cG dQ (l.drop 2)+2:=by omega
 have e2:(cG dQ (l.drop 2):Int)+2=((cG dQ (l.drop 2)+2:Nat):Int):=by omega
 by_cases hz:cG dQ (l.drop 2)=0
 ·have ew:fS l=noneT:=by rw [fS,if_pos (.inl hz)]
  rw [ew] at hK;refine ACallF.dropL (aa Tryz.func152 rfl ?_);simp only [Tryz.ntmps152]
  repeat' (first|simp only [WL,ay,WM,Int.reduceToNat,reduceCtorEq,bg,Nat.reduceAdd,Nat.reduceSub,Nat.reduceLeDiff,Bool.not_false,true_and,reduceIte,Bool.false_eq_true,T3,cb,fy,jP,mA,Tryz.results152,hz]|simp (disch:=first|omega|(simp only [aU];omega)) only [an]|(with_reducible first|refine ax (hb:=?_)|refine cD (qm ?_ ?_)|refine cD (xF ?_ ?_ ?_)|refine cD (nm ?_ ?_))|((with_reducible first|refine ai (fun h=>?_) (fun h=>?_)|refine ab (fun h=>?_) (fun h=>?_))<;>(try simp only [h])<;>(try simp only [bf,ba] at h))|omega|(simp only [aU];omega))
  all_goals first
   | exact ak ae (aj rfl) hK
   | (exfalso;omega)
 ·cases ha:nH l (cG dQ (l.drop 2)+2) 62
  ·have ew:fS l=noneT:=by rw [fS,if_pos (.inr ha)]
   rw [ew] at hK;refine ACallF.dropL (aa Tryz.func152 rfl ?_);simp only [Tryz.ntmps152]
   repeat' (first|simp only [WL,ay,WM,Int.reduceToNat,reduceCtorEq,bg,Nat.reduceAdd,Nat.reduceSub,Nat.reduceLeDiff,Bool.not_false,true_and,reduceIte,Bool.false_eq_true,T3,cb,fy,mA,Tryz.results152,e2,ha]|simp (disch:=first|omega|(simp only [aU];omega)) only [an]|(with_reducible first|refine ax (hb:=?_)|refine cD (qm ?_ ?_)|refine cD (xF (i:=cG dQ (l.drop 2)+2) ?_ ?_ ?_))|((with_reducible first|refine ai (fun h=>?_) (fun h=>?_)|refine ab (fun h=>?_) (fun h=>?_))<;>(try simp only [h])<;>(try simp only [bf,ba] at h))|omega|(simp only [aU];omega))
   all_goals first
    | exact ak ae (aj rfl) hK
    | (exfalso;omega)
  ·have hn:¬(cG dQ (l.drop 2)=0∨nH l (cG dQ (l.drop 2)+2) 62=false):=fun h=>by
    rcases h with h|h
    ·exact hz h
    ·rw [ha] at h;cases h
   have ew:fS l=(aK ((l.take (cG dQ (l.drop 2)+2)).drop 1),((cG dQ (l.drop 2)+3:Nat):Int),true):=by rw [fS,if_neg hn]
   rw [ew] at hK;have hl3:=(kA ha).1
   refine ACallF.dropL (aa Tryz.func152 rfl ?_);simp only [Tryz.ntmps152]
   repeat' (first|simp only [WL,ay,WM,Int.reduceToNat,reduceCtorEq,bg,Nat.reduceAdd,Nat.reduceSub,Nat.reduceLeDiff,Bool.not_true,Bool.not_false,true_and,reduceIte,Bool.false_eq_true,T3,cb,fy,jP,mA,Tryz.results152,e1,ha]|simp (disch:=first|omega|(simp only [aU];omega)) only [an]|(with_reducible first|refine ax (hb:=?_)|refine cD (qm ?_ ?_)|refine cD (xF (i:=cG dQ (l.drop 2)+2) ?_ ?_ ?_)|refine cD (nm ?_ ?_))|((with_reducible first|refine ai (fun h=>?_) (fun h=>?_)|refine ab (fun h=>?_) (fun h=>?_))<;>(try simp only [h])<;>(try simp only [bf,ba] at h))|omega|(simp only [aU];omega))
   all_goals first
    | exact ak ae (aj (by simp;omega)) hK
    | (exfalso;omega)
theorem Uj {l:List Int} (hl:l.length≤1000000000) (hK:K (.ret (.tup [.raw (.string (cK l).1),I (cK l).2.1,B (cK l).2.2])) σ):ACallF κ Tryz.prog 125 [SI o l] σ K:=by
 cases h0:nH l 0 33
 ·have ew:cK l=noneT:=by rw [cK,if_pos h0]
  rw [ew] at hK;refine ACallF.dropL (aa Tryz.func125 rfl ?_);simp only [Tryz.ntmps125]
  repeat' (first|simp only [WL,WM,Nat.reduceAdd,Nat.reduceSub,Nat.reduceLeDiff,Bool.not_false,true_and,fy,Tryz.results125,h0]|with_reducible refine cD (xF (i:=0) ?_ ?_ ?_)|omega)
  all_goals exact ak ae (aj rfl) hK
 have hp:=(kA h0).1
 cases h1:nH l 1 60
 ·have ew:cK l=gl l:=by rw [cK,if_neg (by rw [h0];decide),if_neg (by rw [h1];decide)]
  rw [ew] at hK;have hh:=lq l
  have hu:=lr eV (l.drop (max (bB l) 1))
  rw [List.length_drop] at hu;have e1:max ((bB l:Nat):Int) 1=((max (bB l) 1:Nat):Int):=by omega
  have e2:((cG eV (l.drop (max (bB l) 1)):Int)+((max (bB l) 1:Nat):Int)).toNat=cG eV (l.drop (max (bB l) 1))+max (bB l) 1:=by omega
  by_cases hz:0 < bB l∧cG eV (l.drop (max (bB l) 1))=0
  ·have es:gl l=noneT:=by rw [gl,if_pos hz]
   rw [es] at hK;refine ACallF.dropL (aa Tryz.func125 rfl ?_);simp only [Tryz.ntmps125]
   repeat' (first|simp only [WL,ay,WM,Int.reduceToNat,reduceCtorEq,bg,Nat.reduceAdd,Nat.reduceSub,Nat.reduceLeDiff,Bool.not_true,true_and,reduceIte,Bool.false_eq_true,T3,cb,fy,jP,C0,mA,Tryz.results125,h0,h1,e1]|simp (disch:=first|omega|(simp only [aU];omega)) only [an]|(with_reducible first|refine ax (hb:=?_)|refine mS ?_|refine cD (xF (i:=0) ?_ ?_ ?_)|refine cD (xF (i:=1) ?_ ?_ ?_)|refine cD (wv ?_ ?_)|refine cD (nm ?_ ?_)|refine cD (x5 ?_ ?_ ?_))|((with_reducible first|refine ai (fun h=>?_) (fun h=>?_)|refine ab (fun h=>?_) (fun h=>?_))<;>(try simp only [h])<;>(try simp only [bf,ba] at h))|omega|(simp only [aU];omega))
   all_goals first
    | exact ak ae (aj rfl) hK
    | (exfalso;omega)
  ·have es:gl l=(aK (l.take (cG eV (l.drop (max (bB l) 1))+max (bB l) 1)),((cG eV (l.drop (max (bB l) 1))+max (bB l) 1:Nat):Int),true):=by rw [gl,if_neg hz]
   rw [es] at hK;refine ACallF.dropL (aa Tryz.func125 rfl ?_);simp only [Tryz.ntmps125]
   repeat' (first|simp only [WL,ay,WM,Int.reduceToNat,reduceCtorEq,bg,Nat.reduceAdd,Nat.reduceSub,Nat.reduceLeDiff,Bool.not_true,true_and,reduceIte,Bool.false_eq_true,T3,cb,fy,jP,C0,mA,Tryz.results125,h0,h1,e1,e2]|simp (disch:=first|omega|(simp only [aU];omega)) only [an]|(with_reducible first|refine ax (hb:=?_)|refine mS ?_|refine cD (xF (i:=0) ?_ ?_ ?_)|refine cD (xF (i:=1) ?_ ?_ ?_)|refine cD (wv ?_ ?_)|refine cD (nm ?_ ?_)|refine cD (x5 ?_ ?_ ?_))|((with_reducible first|refine ai (fun h=>?_) (fun h=>?_)|refine ab (fun h=>?_) (fun h=>?_))<;>(try simp only [h])<;>(try simp only [bf,ba] at h))|omega|(simp only [aU];omega))
   all_goals first
    | (exfalso;omega)
    | exact ak ae (aj (by simp)) hK
 ·have ew:cK l=fS l:=by rw [cK,if_neg (by rw [h0];decide),if_pos h1]
  rw [ew] at hK;have hp2:=(kA h1).1
  refine ACallF.dropL (aa Tryz.func125 rfl ?_);simp only [Tryz.ntmps125]
  repeat' (first|simp only [WL,WM,Nat.reduceAdd,Nat.reduceSub,Nat.reduceLT,Nat.reduceLeDiff,Bool.not_true,true_and,fy,Us,Tryz.results125,h0,h1]|(with_reducible first|refine cD (xF (i:=0) ?_ ?_ ?_)|refine cD (xF (i:=1) ?_ ?_ ?_)|refine cD (Tn ?_ ?_ ?_))|omega)
  all_goals exact ak ae (aj rfl) hK
def cf (s:ByteArray):Bool:=s.toList == ({ data:=#[] }:ByteArray).toList
structure TrV where
 a:ByteArray
 t:ByteArray
 q:Int × Int
abbrev xj (v:TrV):List AV:=[.raw (.string v.a),.raw (.string v.t),I v.q.1,I v.q.2]
def dg (ls:List Ln) (p:Int × Int) (v:TrV):Option (Option TrV) :=
  if bU (aH ls p) 38 then
    (if cf v.a && (bR ((aH ls p).drop 1)).2.2 && s7 (aH ls (p.1,p.2+((bR ((aH ls p).drop 1)).2.1+1)))
     then some (some ⟨(bR ((aH ls p).drop 1)).1,v.t,(p.1,p.2+((bR ((aH ls p).drop 1)).2.1+1))⟩) else none)
  else if bU (aH ls p) 33 then
    (if cf v.t && (cK (aH ls p)).2.2 && s7 (aH ls (p.1,p.2+(cK (aH ls p)).2.1))
     then some (some ⟨v.a,(cK (aH ls p)).1,(p.1,p.2+(cK (aH ls p)).2.1)⟩) else none)
  else some none
theorem yE {l:List Int}{c:Int} (h:l.length=0):bU l c=false:=by unfold bU;rw [h];rfl
theorem km {l:List Int}{c:Int} (h0:0 < l.length) (h:l.getD 0 0=c):bU l c=true:=by unfold bU;rw [decide_eq_true h0,h];simp
theorem kv {l:List Int}{c:Int} (h:¬l.getD 0 0=c):bU l c=false:=by unfold bU;rw [show (l.getD 0 0 == c)=false from beq_eq_false_iff_ne.2 h,Bool.and_false]
theorem Th {a b c:Bool} (h1:a=true) (h2:b=true) (h3:c=true):(a && b && c)=true:=by rw [h1,h2,h3];rfl
theorem QD {a b c:Bool} (h:a=false∨b=false∨c=false):¬(a && b && c)=true:=by
 rcases h with h|h|h<;>rw [h]<;>simp
theorem nT {ls:List Ln}{p:Int × Int}{v:TrV} (h1:bU (aH ls p) 38=false) (h2:bU (aH ls p) 33=false):dg ls p v=some none:=by unfold dg;rw [h1,h2];rfl
theorem oy         {ls : List Ln} {p : Int × Int} {v : TrV} (h1 : bU    (aH    ls p) 38 = false) (h2 : bU    (aH    ls p) 33 = true) : dg     ls p v = if cf     v.t && (cK   (aH    ls p)).2.2 && s7    (aH    ls (p.1, p.2 + (cK   (aH    ls p)).2.1))
     then some (some ⟨v.a,(cK (aH ls p)).1,(p.1,p.2+(cK (aH ls p)).2.1)⟩) else none:=by unfold dg;rw [h1,h2];rfl
theorem sU         {ls : List Ln} {p : Int × Int} {v : TrV} (h1 : bU    (aH    ls p) 38 = true) : dg     ls p v = if cf     v.a && (bR      ((aH    ls p).drop 1)).2.2 && s7    (aH    ls (p.1, p.2 + ((bR      ((aH    ls p).drop 1)).2.1 + 1)))
     then some (some ⟨(bR ((aH ls p).drop 1)).1,v.t,(p.1,p.2+((bR ((aH ls p).drop 1)).2.1+1))⟩) else none:=by unfold dg;rw [h1];rfl
theorem OM (l:List Int):0≤(cK l).2.1∧(cK l).2.1≤3 * l.length+3:=by
 have h1:=lr dQ (l.drop 2)
 have h2:=lr eV (l.drop (max (bB l) 1))
 have h3:=lq l
 rw [List.length_drop] at h1 h2;unfold cK fS gl noneT
 (repeat' split)<;>dsimp only<;>omega
theorem TS {bj bt ix:Nat}{ls:List Ln}{n d:Int}{bk:Bool}{x y:AV} [hJ:Hold σ bj ix (JC ls n bk d x y)] {p:Int × Int}{v:TrV} (hs:Small ls) (hp:bW p.1∧bW p.2)
  (h1:∀ v',dg ls p v=some (some v')→K (.ret (B true)) (.obj bt (xj v')::σ)) (h2:dg ls p v=some none→K (.ret (B false)) (.obj bt (xj v)::σ)) (h3:∀ cs,dg ls p v=none→K (.pan (bN 2)) (.obj bt cs::σ)):ACallF κ Tryz.prog 104 [JP bj,cU p,JP bt] (.obj bt (xj v)::σ) K:=by
 have hr:=cj (p:=p) hs
 have hsm:=fun h=>cA (p:=p) hs h
 have ha:=eX eK ((aH ls p).drop 1)
 rw [List.length_drop] at ha;have ha1:(bR ((aH ls p).drop 1)).2.1=(gD eK ((aH ls p).drop 1):Nat):=rfl
 have ht:=OM (aH ls p)
 have hA:0 < (aH ls p).length→bW (p.1,p.2+((bR ((aH ls p).drop 1)).2.1+1)).1∧bW (p.1,p.2+((bR ((aH ls p).drop 1)).2.1+1)).2:=fun h=>⟨hp.1,by have:=hsm h;dsimp only;omega⟩
 have hT:0 < (aH ls p).length→bW (p.1,p.2+(cK (aH ls p)).2.1).1∧bW (p.1,p.2+(cK (aH ls p)).2.1).2:=fun h=>⟨hp.1,by have:=hsm h;dsimp only;omega⟩
 rcases Nat.eq_zero_or_pos (aH ls p).length with h0|h0
 ·skip
  refine ACallF.dropL (aa Tryz.func104 rfl ?_);simp only [Tryz.ntmps104]
  repeat' (first|simp only [WL,ay,dx,WM,Int.reduceToNat,reduceCtorEq,bg,Nat.reduceAdd,Nat.reduceSub,Nat.reduceLT,Nat.reduceEqDiff,Bool.not_true,Bool.not_false,true_and,reduceIte,Bool.false_eq_true,T3,T9,cb,ja,fR iD,fR ir,fR fc,fk,cP,dz,CY,DT,CJ,Tryz.results104]|simp (disch:=first|omega|(simp only [aU];omega)) only [an,bL]|(with_reducible first|refine ax (hb:=?_)|refine au (hK:=?_)|refine aA (hK:=?_)|refine aP (hK:=?_)|refine az (hK:=?_)|refine aQ (hK:=fun b=>?_)|refine cD (fm hs hp ?_)|refine cD (jQ ?_)|refine cD (cm ?_ ?_)|refine cD (mB (fun h=>?_) (fun h=>?_))|refine cD (ye ?_ ?_)|refine cD (Uj ?_ ?_))|((with_reducible first|refine ai (fun h=>?_) (fun h=>?_)|refine ab (fun h=>?_) (fun h=>?_))<;>(try simp only [h])<;>(try simp only [bf,ba] at h))|omega)
  exact ak (ah ae) (aj rfl) (h2 (nT (yE h0) (yE h0)))
 ·replace hA:=hA h0
  replace hT:=hT h0
  replace hsm:=hsm h0
  refine ACallF.dropL (aa Tryz.func104 rfl ?_);simp only [Tryz.ntmps104]
  repeat' (first|simp only [WL,ay,dx,WM,Int.reduceToNat,reduceCtorEq,bg,Nat.reduceAdd,Nat.reduceSub,Nat.reduceLT,Nat.reduceEqDiff,Bool.not_true,Bool.not_false,true_and,reduceIte,Bool.false_eq_true,T3,T9,cb,ja,fR iD,fR ir,fR fc,fk,cP,dz,CY,DT,CJ,Tryz.results104]|simp (disch:=first|omega|(simp only [aU];omega)) only [an,bL]|(with_reducible first|refine ax (hb:=?_)|refine au (hK:=?_)|refine aA (hK:=?_)|refine aP (hK:=?_)|refine az (hK:=?_)|refine aQ (hK:=fun b=>?_)|refine cD (fm hs hp ?_)|refine cD (jQ ?_)|refine cD (H5 (p:=(p.1,p.2+(cK (aH ls p)).2.1)) hs hT ?_)|refine cD (H5 (p:=(p.1,p.2+((bR ((aH ls p).drop 1)).2.1+1))) hs hA ?_)|refine cD (cm ?_ ?_)|refine cD (mB (fun h=>?_) (fun h=>?_))|refine cD (ye ?_ ?_)|refine cD (Uj ?_ ?_))|((with_reducible first|refine ai (fun h=>?_) (fun h=>?_)|refine ab (fun h=>?_) (fun h=>?_))<;>(try simp only [h])<;>(try simp only [bf,ba] at h))|omega|(simp only [aU];omega))
  all_goals first
   | exact ak (ah ae) (aj rfl) (h2 (nT (kv (by assumption)) (kv (by assumption))))
   | exact ak (ah ae) (aj rfl) (h1 ⟨v.a,(cK (aH ls p)).1,(p.1,p.2+(cK (aH ls p)).2.1)⟩ ((oy (kv (by assumption)) (km h0 (by assumption))).trans (if_pos (Th (by assumption) (by assumption) (by assumption)))))
   | exact aS (ah ae) rfl (h3 _ ((oy (kv (by assumption)) (km h0 (by assumption))).trans (if_neg (QD (by first|exact .inl (by assumption)|exact .inr (.inl (by assumption))|exact .inr (.inr (by assumption)))))))
   | exact ak (ah ae) (aj rfl) (h1 ⟨(bR ((aH ls p).drop 1)).1,v.t,(p.1,p.2+((bR ((aH ls p).drop 1)).2.1+1))⟩ ((sU (km h0 (by assumption))).trans (if_pos (Th (by assumption) (by assumption) (by assumption)))))
   | exact aS (ah ae) rfl (h3 _ ((sU (km h0 (by assumption))).trans (if_neg (QD (by first|exact .inl (by assumption)|exact .inr (.inl (by assumption))|exact .inr (.inr (by assumption)))))))
end Go.Proofs.YthkabaiamcjdbaaGreat
namespace Go.Abs
open Go.RowKit
section
variable {κ:Ctx} {P:Program}
class Split (σ:List Res) (b:Nat) (ρ:outParam (List Res)) (cs:outParam (List AV)) (τ:outParam (List Res)):Prop where
 is:σ=ρ++(.obj b cs::τ)
instance (priority:=low) Split.there {σ ρ τ:List Res} {b:Nat} {cs:List AV} {r:Res} [h:Split σ b ρ cs τ]:Split (r::σ) b (r::ρ) cs τ:=⟨by rw [h.is];rfl⟩
instance Split.here {σ:List Res} {b:Nat} {cs:List AV}:Split (.obj b cs::σ) b [] cs σ:=⟨rfl⟩
theorem ACallF.at_ {f:FuncId}{args:List AV}{σ ρ τ:List Res}{b:Nat}{cs:List AV}{K:Ret→List Res→Prop} [h:Split σ b ρ cs τ] (hc:ACallF κ P f args (.obj b cs::τ) (fun r σ'=>K r (ρ++σ'))):ACallF κ P f args σ K:=by
 rw [h.is];refine (hc.front ρ).mono ?_;rintro r σ' ⟨τ',rfl,hk⟩;exact hk
theorem J9 {rd:Option Nat}{l:List Oper}{Q:Exit→St→Prop}{t:List AV}{σ:List Res}{fr:Bool}{df:List Deferred}{id:Nat} (σ0:List Res) (h0:Has σ0 σ) (A0:List Nat) (c0:Option Nat) (r0:Ph) (hm:P.follows .mixedOrders=true) (hok:AD l ((A0,c0)::r0)=true) (h:Qd κ P l (Has σ0) fr df Q A0 c0 r0 t σ):AW κ rd P (.region id l.toArray true) Q ⟨t,σ,fr,df⟩ :=
 ik A0 c0 r0 (Has σ0) h0 hm hok h
theorem eE {rd:Option Nat}{l:List Oper}{Q:Exit→St→Prop}{t:List AV}{r1 r2:Res}{σ:List Res}{fr:Bool}{df:List Deferred}{id:Nat} (A0:List Nat) (c0:Option Nat) (r0:Ph) (hm:P.follows .mixedOrders=true) (hok:AD l ((A0,c0)::r0)=true) (h:Qd κ P l (Has [r1,r2]) fr df Q A0 c0 r0 t (r1::r2::σ)):AW κ rd P (.region id l.toArray true) Q ⟨t,r1::r2::σ,fr,df⟩ :=
 ik A0 c0 r0 (Has [r1,r2]) ⟨fun r hr=>by simp at hr;rcases hr with h|h<;>simp [h]⟩ hm hok h
theorem dH {rd:Option Nat}{l:List Oper}{Q:Exit→St→Prop}{t:List AV}{r1:Res}{σ:List Res}{fr:Bool}{df:List Deferred}{id:Nat} (A0:List Nat) (c0:Option Nat) (r0:Ph) (hm:P.follows .mixedOrders=true) (hok:AD l ((A0,c0)::r0)=true) (h:Qd κ P l (Has [r1]) fr df Q A0 c0 r0 t (r1::σ)):AW κ rd P (.region id l.toArray true) Q ⟨t,r1::σ,fr,df⟩ :=
 ik A0 c0 r0 (Has [r1]) ⟨fun r hr=>by simp at hr;simp [hr]⟩ hm hok h
theorem TD {rd:Option Nat}{l:List Oper}{Q:Exit→St→Prop}{t:List AV}{r1 r2:Res}{σ:List Res}{fr:Bool}{df:List Deferred}{id:Nat} (A0:List Nat) (c0:Option Nat) (r0:Ph) (h2:r2∈σ) (hm:P.follows .mixedOrders=true) (hok:AD l ((A0,c0)::r0)=true) (h:Qd κ P l (Has [r1,r2]) fr df Q A0 c0 r0 t (r1::σ)):AW κ rd P (.region id l.toArray true) Q ⟨t,r1::σ,fr,df⟩ :=
 ik A0 c0 r0 (Has [r1,r2]) ⟨fun r hr=>by simp at hr;rcases hr with h|h<;>simp [h,h2]⟩ hm hok h
theorem me {r1:Res}{σ:List Res} (h1:r1∈σ):Has [r1] σ:=⟨fun r hr=>by simp at hr;rw [hr];exact h1⟩
theorem nZ {r1 r2:Res}{σ:List Res} (h1:r1∈σ) (h2:r2∈σ):Has [r1,r2] σ:=⟨fun r hr=>by simp at hr;rcases hr with h|h<;>rw [h]<;>assumption⟩
inductive RowR (sz:Nat):AV→List AV→List Res→Prop where
 | nil:RowR sz nilS [] []
 | row {b c:Nat} {cs l:List AV} (h0:0 < c) (hn:l.length≤c) (hc:cs.length=c * sz) (ht:cs.take (l.length * sz)=aD l):RowR sz (bT b 0 l.length c) l [.obj b cs]
section
variable {all rest:List Oper} {Q:Exit→St→Prop} {d:Option Tmp} {t:List AV} {σ:List Res} {fr:Bool} {df:List Deferred}
theorem gC {ty e:TypeId}{sz by_:Nat}{z:Value}{l2:List AV}{o2:Option (Option (Nat × Nat))} [hS:TSl P ty e sz by_ z] (hgood:cY l2=true) (hne:0 < l2.length) (hlen:l2.length * by_≤140737488355328) (hmax:l2.length≤maxLen)
  (hK:∀ b' c' cs',cs'.length=c' * sz→l2.length≤c'→cs'.take (l2.length * sz)=aD l2→dw κ false P all Q d rest ⟨t,σ,fr,df⟩ (bT b' 0 l2.length c') (.obj b' cs'::σ)):cu κ false P all Q d rest ⟨t,σ,fr,df⟩ (.append ty) [nilS,.sl sz o2 l2] :=
 cl (qV hS.sl hS.hz hS.by' hS.zr hS.one hS.pos hgood hne hlen hmax hK)
theorem eP {ty e:TypeId}{sz by_ b n c i:Nat}{z:Value}{cs l2:List AV}{o2:Option (Option (Nat × Nat))} [hS:TSl P ty e sz by_ z] [hH:Hold σ b i cs] (hgood:cY l2=true) (hcs:cs.length=c * sz) (hn:n≤c) (hlen:(n+l2.length) * by_≤140737488355328) (hmax:n+l2.length≤maxLen)
  (hK:∀ b' c' cs',cs'.length=c' * sz→n+l2.length≤c'→cs'.take ((n+l2.length) * sz)=cs.take (n * sz)++aD l2→dw κ false P all Q d rest ⟨t,σ,fr,df⟩ (bT b' 0 (n+l2.length) c') (σ.set i (.obj b' cs'))):cu κ false P all Q d rest ⟨t,σ,fr,df⟩ (.append ty) [bT b 0 n c,.sl sz o2 l2] :=
 cl (s5 i hH.get hS.sl hS.hz hS.by' hS.zr hS.one hS.pos hgood hcs hn hlen hmax hK)
theorem Lv {dm:Bool}{ty e:TypeId}{sz by_ b o n c:Nat}{i:Int} (a:Nat) {z:Value} [hS:TSl P ty e sz by_ z] (hi:i=a) (ha:a≤n) (hc:n≤c) (h0:0 < c) (hK:dw κ dm P all Q d rest ⟨t,σ,fr,df⟩ (bT b o a c) σ):cu κ dm P all Q d rest ⟨t,σ,fr,df⟩ (.slice ty false true false) [bT b o n c,.any,I i,.any]:=by
 subst hi;exact iZ (vr hS.sl hS.hz ha hc h0 iY) hK
end
end
section
variable {κ:Ctx} {P:Program} {σ:List Res} {fn:Func} {t:List AV} {fr:Bool} {df:List Deferred} {K:Ret→List Res→Prop}
theorem sj {a b c:Tmp}{ty ty':TypeId}{x y:AV} (hf:fn.results = #[.cell a ty,.cell b ty',.tmp c]) (h:gM P κ σ ty (t.getD a .any) x) (h':gM P κ σ ty' (t.getD b .any) y) (hK:K (.ret (.tup [x,y,t.getD c .any])) σ):nY κ P fn K ⟨t,σ,fr,df⟩ [.cell a ty,.cell b ty',.tmp c]:=by
 intro φ g w tmps hR ht;obtain ⟨p,u,h1,h2,h3⟩:=h φ g w _ hR (Jq ht a);obtain ⟨q,v,k1,k2,k3⟩:=h' φ g w _ hR (Jq ht b);have h1':tmps[a]?.getD undef=.pointer (some p):=by simpa using h1
 have k1':tmps[b]?.getD undef=.pointer (some q):=by simpa using k1
 have h4:=TR.three h3 k3 (Jq ht c)
 exact ⟨.tuple #[u,v,tmps.getD c undef],_,by simp [results,hf,h1',k1',asAddr,h2,k2],.tup _ h4.size h4.get,hK⟩
end
end Go.Abs
namespace Go.Proofs.YthkabaiamcjdbaaGreat
open Go.Abs
variable {κ:Ctx} {σ:List Res} {K:Ret→List Res→Prop} {o o':Option (Option (Nat × Nat))}
structure EvV where
 k:Int
 x:ByteArray
 t:ByteArray
 a:ByteArray
 s:Int
 f:Bool
abbrev EVA (e:EvV):AV:=.agg [I e.k,.raw (.string e.x),.raw (.string e.t),.raw (.string e.a),I e.s,B e.f]
theorem XR {bj:Nat}{ls:List Ln}{n d:Int}{bk:Bool}{x y:AV}{l:List EvV}{ρ:List Res}{e:EvV} (hR:RowR 6 y (l.map EVA) ρ) (hl:l.length≤1000000000)
  (hK:∀ y' ρ',RowR 6 y' ((l++[e]).map EVA) ρ'→K (.ret (.tup [])) (.obj bj (JC ls n bk d x y')::(ρ'++σ))):ACallF κ Tryz.prog 170 [JP bj,EVA e] (.obj bj (JC ls n bk d x y)::(ρ++σ)) K:=by
 rw [List.map_append] at hK;generalize hm:l.map EVA=m at *;have hml:m.length≤1000000000:=by rw [← hm,List.length_map];exact hl
 cases hR with
 | nil =>
  rw [List.nil_append];refine ACallF.dropL (aa Tryz.func170 rfl ?_);simp only [Tryz.ntmps170]
  repeat' (first|( ((with_reducible refine dH (id:=1) [0,1,2,3,5,6] (some 4) [([],some 7),([8,9],some 10),([],none)] mixed ?_ ?_);kernel_rfl))|( with_reducible refine bV (me (by first|(simp;done)|fail)) ?_)|simp only [WL,WM,Nat.reduceAdd,Nat.reduceSub,Nat.reduceEqDiff,true_and,mf,fR gi,Tryz.results170]|(with_reducible first|refine ax (hb:=?_)|refine au (hK:=?_)|refine aA (hK:=?_)|refine aP (hK:=?_)|refine aQ (hK:=fun b=>?_)|refine dp (hK:=?_))|( refine gC (hgood:=by rfl) (hne:=by simp) (hlen:=by simp) (hmax:=by simp [maxLen]) (hK:=fun b' c' cs' q1 q2 q3=>?_))|((with_reducible apply aW);intro σq hq;have hqi:=cy hq;clear hq)|(with_reducible exact b9)|((with_reducible apply bD);rfl;rfl))
  refine ak ⟨.obj b' cs'::.obj bj (JC ls n bk d x (bT b' 0 1 c'))::σ,List.Perm.swap _ _ _,((List.Sublist.refl _).cons _).cons_cons _⟩ (aj rfl) (hK (bT b' 0 1 c') [.obj b' cs'] (RowR.row (l:=[EVA e]) (by simp at q2;omega) q2 q1 q3))
 | @row rb rc cs _ h0 hn hc ht =>
  rw [List.cons_append,List.nil_append];refine ACallF.dropL (aa Tryz.func170 rfl ?_);simp only [Tryz.ntmps170]
  repeat' (first|( ((with_reducible refine dH (id:=1) [0,1,2,3,5,6] (some 4) [([],some 7),([8,9],some 10),([],none)] mixed ?_ ?_);kernel_rfl))|( with_reducible refine bV (me (by first|(simp;done)|fail)) ?_)|simp only [WL,WM,Nat.reduceAdd,Nat.reduceSub,Nat.reduceEqDiff,true_and,mf,fR gi,Tryz.results170]|(with_reducible first|refine ax (hb:=?_)|refine au (hK:=?_)|refine aA (hK:=?_)|refine aP (hK:=?_)|refine aQ (hK:=fun b=>?_)|refine dp (hK:=?_))|( refine eP (hgood:=by rfl) (hcs:=hc) (hn:=hn) (hlen:=by first|(simp;omega)|fail) (hmax:=by first|(simp [maxLen];omega)|fail) (hK:=fun b' c' cs' q1 q2 q3=>?_))|((with_reducible apply aW);intro σq hq;have hqi:=cy hq;clear hq)|(with_reducible exact b9)|((with_reducible apply bD);rfl;rfl))
  have hr:RowR 6 (bT b' 0 (m.length+1) c') (m++[EVA e]) [.obj b' cs']:=by
   have:=RowR.row (sz:=6) (b:=b') (c:=c') (cs:=cs') (l:=m++[EVA e]) (by have:m.length+1≤c':=q2;omega) (by simpa using q2) q1 (by rw [List.length_append,q3,ht];simp)
   rwa [List.length_append] at this
  exact ak (ah ae) (aj rfl) (hK _ _ hr)
def JX (x y:AV) (op:List Int) (l:List EvV) (τ σ0:List Res):Prop:=∃ ρx ρy,RowR 1 x (op.map I) ρx∧RowR 6 y (l.map EVA) ρy∧τ.Perm (ρx++(ρy++σ0))
theorem WR {bj:Nat}{ls:List Ln}{n d:Int}{bk:Bool}{x y:AV}{op:List Int}{l:List EvV}{ρ τ σ0:List Res}{e:EvV} [hS:Split σ bj ρ (JC ls n bk d x y) τ] (hJ:JX x y op l τ σ0) (hl:l.length≤1000000000)
  (hK:∀ y' τ',JX x y' op (l++[e]) τ' σ0→K (.ret (.tup [])) (ρ ++ .obj bj (JC ls n bk d x y')::τ')):ACallF κ Tryz.prog 170 [JP bj,EVA e] σ K:=by
 obtain ⟨ρx,ρy,h1,h2,hp⟩:=hJ;have sw:∀ ρ':List Res,(ρ'++(ρx++σ0)).Perm (ρx++(ρ'++σ0)):=fun ρ'=>by
  rw [← List.append_assoc,← List.append_assoc];exact List.perm_append_comm.append_right _
 refine ACallF.at_ (b:=bj) (ACallF.perm (σ2:=.obj bj (JC ls n bk d x y)::(ρy++(ρx++σ0))) (List.Perm.cons _ (hp.trans (sw ρy).symm)) (XR h2 hl (fun y' ρ' h3=>?_)));exact hK y' _ ⟨ρx,ρ',h1,h3,sw ρ'⟩
abbrev JO (b:Nat):AV:=.raw (.pointer (some ⟨b,4,none⟩))
theorem SE {bj:Nat}{ls:List Ln}{n d:Int}{bk:Bool}{x y:AV}{l:List Int}{ρ:List Res}{e:Int} (hR:RowR 1 x (l.map I) ρ) (hl:l.length≤1000000000)
  (hK:∀ x' ρ',RowR 1 x' ((l++[e]).map I) ρ'→K (.ret (.tup [])) (.obj bj (JC ls n bk d x' y)::(ρ'++σ))):ACallF κ Tryz.prog 209 [JO bj,I e] (.obj bj (JC ls n bk d x y)::(ρ++σ)) K:=by
 rw [List.map_append] at hK;generalize hm:l.map I=m at *;have hml:m.length≤1000000000:=by rw [← hm,List.length_map];exact hl
 cases hR with
 | nil =>
  rw [List.nil_append];refine ACallF.dropL (aa Tryz.func209 rfl ?_);simp only [Tryz.ntmps209]
  repeat' (first|simp only [WL,WM,Nat.reduceAdd,Nat.reduceSub,Nat.reduceEqDiff,true_and,cb,fR lC,Tryz.results209]|(with_reducible first|refine ax (hb:=?_)|refine au (hK:=?_)|refine aP (hK:=?_)|refine dp (hK:=?_))|( refine gC (hgood:=by rfl) (hne:=by simp) (hlen:=by simp) (hmax:=by simp [maxLen]) (hK:=fun b' c' cs' q1 q2 q3=>?_)))
  exact ak ⟨_,List.Perm.swap _ _ _,List.Sublist.refl _⟩ (aj rfl) (hK (bT b' 0 1 c') [.obj b' cs'] (RowR.row (l:=[I e]) (by simp at q2;omega) q2 q1 q3))
 | @row rb rc cs _ h0 hn hc ht =>
  rw [List.cons_append,List.nil_append];refine ACallF.dropL (aa Tryz.func209 rfl ?_);simp only [Tryz.ntmps209]
  repeat' (first|simp only [WL,WM,Nat.reduceAdd,Nat.reduceSub,Nat.reduceEqDiff,true_and,cb,fR lC,Tryz.results209]|(with_reducible first|refine ax (hb:=?_)|refine au (hK:=?_)|refine aP (hK:=?_)|refine dp (hK:=?_))|( refine eP (hgood:=by rfl) (hcs:=hc) (hn:=hn) (hlen:=by first|(simp;omega)|fail) (hmax:=by first|(simp [maxLen];omega)|fail) (hK:=fun b' c' cs' q1 q2 q3=>?_)))
  have hr:RowR 1 (bT b' 0 (m.length+1) c') (m++[I e]) [.obj b' cs']:=by
   have:=RowR.row (sz:=1) (b:=b') (c:=c') (cs:=cs') (l:=m++[I e]) (by have:m.length+1≤c':=q2;omega) (by simpa using q2) q1 (by rw [List.length_append,q3,ht];simp)
   rwa [List.length_append] at this
  exact ak ae (aj rfl) (hK _ _ hr)
theorem X4 {bj:Nat}{ls:List Ln}{n d:Int}{bk:Bool}{x y:AV}{op:List Int}{l:List EvV}{ρ τ σ0:List Res}{e:Int} [hS:Split σ bj ρ (JC ls n bk d x y) τ] (hJ:JX x y op l τ σ0) (hl:op.length≤1000000000)
  (hK:∀ x' τ',JX x' y (op++[e]) l τ' σ0→K (.ret (.tup [])) (ρ ++ .obj bj (JC ls n bk d x' y)::τ')):ACallF κ Tryz.prog 209 [JO bj,I e] σ K:=by
 obtain ⟨ρx,ρy,h1,h2,hp⟩:=hJ;refine ACallF.at_ (b:=bj) (ACallF.perm (σ2:=.obj bj (JC ls n bk d x y)::(ρx++(ρy++σ0))) (List.Perm.cons _ hp) (SE h1 hl (fun x' ρ' h3=>?_)));exact hK x' _ ⟨ρ',ρy,h3,h2,List.Perm.refl _⟩
theorem P4 {bj ix:Nat}{ls:List Ln}{n d:Int}{bk:Bool}{x y:AV}{l:List Int}{ρ:List Res} [hJ:Hold σ bj ix (JC ls n bk d x y)] (hR:RowR 1 x (l.map I) ρ) (hl:l.length≤1000000000) (hK:K (.ret (I l.length)) σ):ACallF κ Tryz.prog 185 [JO bj] σ K:=by
 have hml:(l.map I).length=l.length:=List.length_map _
 generalize l.map I=m at *;cases hR with
 | nil =>
  refine ACallF.dropL (aa Tryz.func185 rfl ?_);simp only [Tryz.ntmps185]
  repeat' (first|simp only [WL,WM,Nat.reduceAdd,Nat.reduceSub,Nat.reduceEqDiff,true_and,cb,fR lC,Tryz.results185]|(with_reducible first|refine ax (hb:=?_)|refine au (hK:=?_)))
  exact ak ae (aj rfl) (by simpa [← hml] using hK)
 | @row rb rc cs _ h0 hn hc ht =>
  refine ACallF.dropL (aa Tryz.func185 rfl ?_);simp only [Tryz.ntmps185]
  repeat' (first|simp only [WL,WM,Nat.reduceAdd,Nat.reduceSub,Nat.reduceEqDiff,true_and,cb,fR lC,Tryz.results185]|(with_reducible first|refine ax (hb:=?_)|refine au (hK:=?_)))
  exact ak ae (aj rfl) (by simpa [← hml] using hK)
theorem YN {bj:Nat}{ls:List Ln}{n d:Int}{bk:Bool}{x y:AV}{op:List Int}{l:List EvV}{ρ τ σ0:List Res} [hS:Split σ bj ρ (JC ls n bk d x y) τ] (hJ:JX x y op l τ σ0) (hl:op.length≤1000000000)
  (hK:K (.ret (I op.length)) σ):ACallF κ Tryz.prog 185 [JO bj] σ K:=by
 obtain ⟨ρx,ρy,h1,h2,hp⟩:=hJ
 haveI:Hold σ bj ρ.length (JC ls n bk d x y):=⟨by rw [hS.is];simp⟩
 exact P4 h1 hl hK
theorem ti:∀ l:List Int,aD (l.map I)=l.map I
 | []=>rfl
 | x::l=>by
  show (I x).cells++aD (l.map I)=_
  rw [ti l];rfl
theorem Tj {bj:Nat}{ls:List Ln}{n d:Int}{bk:Bool}{x y:AV}{l:List Int}{ρ:List Res}{e:Int} (hR:RowR 1 x ((l++[e]).map I) ρ) (hl:l.length≤1000000000)
  (hK:∀ x' ρ',RowR 1 x' (l.map I) ρ'→K (.ret (.tup [])) (.obj bj (JC ls n bk d x' y)::(ρ'++σ))):ACallF κ Tryz.prog 210 [JO bj] (.obj bj (JC ls n bk d x y)::(ρ++σ)) K:=by
 generalize hm2:(l++[e]).map I=m2 at *;cases hR with
 | nil=>simp at hm2
 | @row rb rc cs _ h0 hn hc ht =>
  have h9:m2.length=l.length+1:=by rw [← hm2];simp
  rw [List.cons_append,List.nil_append,h9];have hn2:l.length+1≤rc:=by omega
  have hr:RowR 1 (bT rb 0 l.length rc) (l.map I) [.obj rb cs]:=by
   have h8:cs.take l.length=l.map I:=by
    rw [← hm2,ti,List.map_append,List.length_append,List.length_map] at ht;have h7:=congrArg (List.take l.length) ht
    rw [List.take_take,List.take_append_of_le_length (by simp)] at h7;have h6:min l.length ((l.length+(List.map I [e]).length) * 1)=l.length:=by omega
    rw [h6,List.take_of_length_le (l:=l.map I) (by simp)] at h7;exact h7
   have:=RowR.row (sz:=1) (b:=rb) (c:=rc) (cs:=cs) (l:=l.map I) h0 (by rw [List.length_map];omega) hc (by
    rw [ti,List.length_map,Nat.mul_one];exact h8)
   rwa [List.length_map] at this
  refine ACallF.dropL (aa Tryz.func210 rfl ?_);simp only [Tryz.ntmps210]
  repeat' (first|simp only [WL,ay,WM,reduceCtorEq,bg,Nat.reduceAdd,Nat.reduceSub,Nat.reduceEqDiff,true_and,cb,fR lC,Tryz.results210]|simp (disch:=first|omega|(simp only [aU];omega)) only [an]|(with_reducible first|refine ax (hb:=?_)|refine au (hK:=?_)|refine aP (hK:=?_))|( refine Lv l.length (by omega) (Nat.le_succ _) hn2 h0 ?_)|((with_reducible refine aE (id:=0) 14 mixed ?_ ?_);kernel_rfl)|(with_reducible refine bK ?_))
  exact ak ae (aj rfl) (hK _ _ hr)
theorem VS {bj:Nat}{ls:List Ln}{n d:Int}{bk:Bool}{x y:AV}{op:List Int}{l:List EvV}{ρ τ σ0:List Res}{e:Int} [hS:Split σ bj ρ (JC ls n bk d x y) τ] (hJ:JX x y (op++[e]) l τ σ0) (hl:op.length≤1000000000)
  (hK:∀ x' τ',JX x' y op l τ' σ0→K (.ret (.tup [])) (ρ ++ .obj bj (JC ls n bk d x' y)::τ')):ACallF κ Tryz.prog 210 [JO bj] σ K:=by
 obtain ⟨ρx,ρy,h1,h2,hp⟩:=hJ;refine ACallF.at_ (b:=bj) (ACallF.perm (σ2:=.obj bj (JC ls n bk d x y)::(ρx++(ρy++σ0))) (List.Perm.cons _ hp) (Tj h1 hl (fun x' ρ' h3=>?_)));exact hK x' _ ⟨ρ',ρy,h3,h2,List.Perm.refl _⟩
def cO (d:Int) (k:Nat) (w:Int):Bool:=decide (d < 200) && decide (d+k+w < 200)
theorem oF {σ ρ τ:List Res}{b:Nat}{cs:List AV} (h:Split σ b ρ cs τ):Hold σ b ρ.length cs:=⟨by rw [h.is];simp⟩
theorem EP {bj:Nat}{ls:List Ln}{n d:Int}{bk:Bool}{x y:AV}{op:List Int}{l:List EvV}{ρ τ σ0:List Res}{k s:Int}{ex et ea:ByteArray}{f:Bool} [hS:Split σ bj ρ (JC ls n bk d x y) τ] (hJ:JX x y op l τ σ0) (hl:l.length≤1000000000)
  (hK:∀ y' τ',JX x y' op (l++[⟨k,ex,et,ea,s,f⟩]) τ' σ0→K (.ret (.tup [])) (ρ ++ .obj bj (JC ls n bk d x y')::τ')):ACallF κ Tryz.prog 170 [JP bj,.agg [I k,.raw (.string ex),.raw (.string et),.raw (.string ea),I s,B f]] σ K :=
 WR (e:=⟨k,ex,et,ea,s,f⟩) hJ hl hK
theorem I3 {k:Nat}:((k:Int) == 0)=decide (k=0):=by
 rw [Bool.eq_iff_iff];simp only [beq_iff_eq,decide_eq_true_eq];omega
theorem Qk {bj:Nat}{ls:List Ln}{n d:Int}{bk:Bool}{x y:AV}{op:List Int}{l:List EvV}{ρ τ σ0:List Res}{w:Int} [hS:Split σ bj ρ (JC ls n bk d x y) τ] (hJ:JX x y op l τ σ0) (hl:op.length≤1000000000) (hd:0≤d∧d≤1000000000) (hw:0≤w∧w≤1000000000)
  (h1:cO d op.length w=true→K (.ret (.tup [])) σ) (h2:cO d op.length w=false→K (.pan (bN 8)) σ):ACallF κ Tryz.prog 207 [JP bj,I w] σ K:=by
 haveI hH:=oF hS
 unfold cO at h1 h2;refine ACallF.dropL (aa Tryz.func207 rfl ?_);simp only [Tryz.ntmps207]
 repeat' (first|simp only [WL,ay,WM,reduceCtorEq,bg,Nat.reduceAdd,Nat.reduceSub,Nat.reduceEqDiff,Bool.not_false,true_and,reduceIte,Bool.false_eq_true,T3,NQ,fR yS,fR sN,tY,Nh,Tryz.results207]|simp (disch:=first|omega|(simp only [aU];omega)) only [an]|(with_reducible first|refine ax (hb:=?_)|refine au (hK:=?_)|refine cD (BR ?_)|refine cQ (YN (by assumption) ?_ aT) ?_)|((with_reducible refine aE (id:=0) 19 mixed ?_ ?_);kernel_rfl)|(with_reducible refine bK ?_)|((with_reducible first|refine ai (fun h=>?_) (fun h=>?_)|refine ab (fun h=>?_) (fun h=>?_))<;>(try simp only [h])<;>(try simp only [bf,ba] at h))|omega)
 all_goals first
  | exact aS ae rfl (h2 (by simp;omega))
  | exact ak ae (aj rfl) (h1 (by simp;omega))
theorem PE {bj:Nat}{ls:List Ln}{n d:Int}{bk:Bool}{x y:AV}{op:List Int}{l:List EvV}{τ σ0:List Res}{e:EvV} (hJ:JX x y op l τ σ0) (hl:op.length≤1000000000) (hll:l.length≤1000000000) (hd:0≤d∧d≤1000000000)
  (h1:cO d op.length 0=true→∀ x' y' τ',JX x' y' (op++[e.k]) (l++[e]) τ' σ0→K (.ret (.tup [])) (.obj bj (JC ls n bk d x' y')::τ')) (h2:cO d op.length 0=false→K (.pan (bN 8)) (.obj bj (JC ls n bk d x y)::τ)):ACallF κ Tryz.prog 179 [JP bj,EVA e] (.obj bj (JC ls n bk d x y)::τ) K:=by
 refine ACallF.dropL (aa Tryz.func179 rfl ?_);simp only [Tryz.ntmps179]
 repeat' (first|simp only [WL,WM,Nat.reduceAdd,Nat.reduceSub,Nat.reduceEqDiff,true_and,T3,NQ,fR q6,fR sN,tW,I5,Uf,Tryz.results179]|(with_reducible first|refine ax (hb:=?_)|refine au (hK:=?_)|refine aA (hK:=?_)|refine aQ (hK:=fun b=>?_)|refine cD (Qk hJ hl hd (w:=0) (by omega) (fun h=>?_) (fun h=>?_))|refine cD (WR hJ hll (fun y' τ' hJ'=>?_))|refine cD (X4 (by assumption) ?_ (fun x' τ' hJ'=>?_)))|((with_reducible refine aE (id:=3) 5 mixed ?_ ?_);kernel_rfl)|(with_reducible refine bK ?_)|omega)
 ·exact ak (ah ae) (aj rfl) (h1 h _ _ _ (by assumption))
 ·exact aS (ah ae) rfl (h2 h)
theorem jH {bj:Nat}{ls:List Ln}{n d:Int}{bk:Bool}{x y:AV}{op:List Int}{l:List EvV}{ρ τ σ0:List Res}{e:EvV} [hS:Split σ bj ρ (JC ls n bk d x y) τ] (hJ:JX x y op l τ σ0) (hl:op.length≤1000000000) (hll:l.length≤1000000000) (hd:0≤d∧d≤1000000000)
  (h1:cO d op.length 0=true→∀ x' y' τ',JX x' y' (op++[e.k]) (l++[e]) τ' σ0→K (.ret (.tup [])) (ρ ++ .obj bj (JC ls n bk d x' y')::τ')) (h2:cO d op.length 0=false→K (.pan (bN 8)) σ):ACallF κ Tryz.prog 179 [JP bj,EVA e] σ K :=
 ACallF.at_ (b:=bj) (PE hJ hl hll hd h1 (fun h=>by have:=h2 h;rwa [hS.is] at this))
theorem X7 {bj:Nat}{ls:List Ln}{n d:Int}{bk:Bool}{x y:AV}{op:List Int}{l:List EvV}{τ σ0:List Res}{e k:Int} (hJ:JX x y (op++[e]) l τ σ0) (hl:op.length≤1000000000) (hll:l.length≤1000000000)
  (h1:∀ x' y' τ',JX x' y' op (l++[⟨k,.empty,.empty,.empty,0,false⟩]) τ' σ0→K (.ret (.tup [])) (.obj bj (JC ls n bk d x' y')::τ')):ACallF κ Tryz.prog 182 [JP bj,I k] (.obj bj (JC ls n bk d x y)::τ) K:=by
 refine ACallF.dropL (aa Tryz.func182 rfl ?_);simp only [Tryz.ntmps182]
 repeat' (first|simp only [WL,WM,Nat.reduceAdd,Nat.reduceSub,Nat.reduceEqDiff,true_and,NQ,fR sN,tW,RA,Tryz.results182]|(with_reducible first|refine ax (hb:=?_)|refine aI (hK:=?_)|refine cD (EP hJ hll (fun y' τ' hJ'=>?_))|refine cD (VS hJ' hl (fun x'' τ'' hJ''=>?_))))
 all_goals exact ak ae (aj rfl) (h1 _ _ _ (by assumption))
theorem Gv {bj:Nat}{ls:List Ln}{n d:Int}{bk:Bool}{x y:AV}{op:List Int}{l:List EvV}{ρ τ σ0:List Res}{e k:Int} [hS:Split σ bj ρ (JC ls n bk d x y) τ] (hJ:JX x y (op++[e]) l τ σ0) (hl:op.length≤1000000000) (hll:l.length≤1000000000)
  (h1:∀ x' y' τ',JX x' y' op (l++[⟨k,.empty,.empty,.empty,0,false⟩]) τ' σ0→K (.ret (.tup [])) (ρ ++ .obj bj (JC ls n bk d x' y')::τ')):ACallF κ Tryz.prog 182 [JP bj,I k] σ K :=
 ACallF.at_ (b:=bj) (X7 hJ hl hll h1)
theorem wP {bj ix:Nat}{ls:List Ln}{n d:Int}{bk:Bool}{x y:AV}{op:List Int}{ρx:List Res} [hH:Hold σ bj ix (JC ls n bk d x y)] (hR:RowR 1 x (op.map I) ρx) (hl:op.length≤1000000000)
  (hK:K (.ret (B (bk && decide (op.length=0)))) σ):ACallF κ Tryz.prog 146 [JP bj] σ K:=by
 refine ACallF.dropL (aa Tryz.func146 rfl ?_);simp only [Tryz.ntmps146]
 repeat' (first|simp only [WL,ay,WM,reduceCtorEq,bg,Nat.reduceAdd,Nat.reduceSub,Nat.reduceEqDiff,Bool.not_true,true_and,reduceIte,Bool.false_eq_true,T4,NQ,fR Pg,fR sN,Nh,Tryz.results146]|(with_reducible first|refine ax (hb:=?_)|refine au (hK:=?_)|refine cD (P4 hR hl ?_))|((with_reducible first|refine ai (fun h=>?_) (fun h=>?_)|refine ab (fun h=>?_) (fun h=>?_))<;>(try simp only [h])<;>(try simp only [bf,ba] at h)))
 all_goals exact ak ae (aj (congrArg B (by first|(rw [I3];simp [*];done)|simp [*]))) hK
theorem JX.row {x y:AV}{op:List Int}{l:List EvV}{τ σ0:List Res} (h:JX x y op l τ σ0):∃ ρx,RowR 1 x (op.map I) ρx:=by
 obtain ⟨ρx,_,h1,_⟩:=h;exact ⟨ρx,h1⟩
theorem dV {bj:Nat}{ls:List Ln}{n d:Int}{bk:Bool}{x y:AV}{op:List Int}{l:List EvV}{ρ τ σ0:List Res} [hS:Split σ bj ρ (JC ls n bk d x y) τ] (hJ:JX x y op l τ σ0) (hl:op.length≤1000000000)
  (hK:K (.ret (B (bk && decide (op.length=0)))) σ):ACallF κ Tryz.prog 146 [JP bj] σ K:=by
 haveI hH:=oF hS
 obtain ⟨ρx,hR⟩:=hJ.row;exact wP hR hl hK
abbrev xL (v:TrV):AV:=.agg (xj v)
theorem OC {bj:Nat}{ls:List Ln}{n d:Int}{bk:Bool}{x y:AV}{op:List Int}{l:List EvV}{τ σ0:List Res}{v:TrV} (hJ:JX x y op l τ σ0) (hll:l.length≤1000000000)
  (h1:∀ y' τ',JX x y' op (l++[⟨7,.empty,v.t,v.a,1,false⟩]) τ' σ0→K (.ret (.tup [])) (.obj bj (JC ls n bk d x y')::τ')):ACallF κ Tryz.prog 148 [JP bj,xL v] (.obj bj (JC ls n bk d x y)::τ) K:=by
 refine ACallF.dropL (aa Tryz.func148 rfl ?_);simp only [Tryz.ntmps148]
 repeat' (first|simp only [WL,WM,Nat.reduceAdd,Nat.reduceSub,Nat.reduceEqDiff,true_and,T9,fR iD,fR ir,tW,Tryz.results148]|(with_reducible first|refine ax (hb:=?_)|refine au (hK:=?_)|refine aQ (hK:=fun b=>?_)|refine aI (hK:=?_)|refine cD (EP hJ hll (fun y' τ' hJ'=>?_))))
 all_goals exact ak (ah ae) (aj rfl) (h1 _ _ (by assumption))
theorem i9 {bj:Nat}{ls:List Ln}{n d:Int}{bk:Bool}{x y:AV}{op:List Int}{l:List EvV}{ρ τ σ0:List Res}{v:TrV} [hS:Split σ bj ρ (JC ls n bk d x y) τ] (hJ:JX x y op l τ σ0) (hll:l.length≤1000000000)
  (h1:∀ y' τ',JX x y' op (l++[⟨7,.empty,v.t,v.a,1,false⟩]) τ' σ0→K (.ret (.tup [])) (ρ ++ .obj bj (JC ls n bk d x y')::τ')):ACallF κ Tryz.prog 148 [JP bj,xL v] σ K :=
 ACallF.at_ (b:=bj) (OC hJ hll h1)
theorem Kd {bj:Nat}{ls:List Ln}{n d:Int}{bk:Bool}{x y:AV}{op:List Int}{l:List EvV}{τ σ0:List Res}{v:TrV}{t:List Int}{s:Int} (hJ:JX x y op l τ σ0) (hll:l.length≤1000000000) (ht:t.length≤1000000000)
  (h1:∀ y' τ',JX x y' op (l++[⟨7,aK t,v.t,v.a,s,false⟩]) τ' σ0→K (.ret (.tup [])) (.obj bj (JC ls n bk d x y')::τ')):ACallF κ Tryz.prog 175 [JP bj,SI o t,I s,xL v] (.obj bj (JC ls n bk d x y)::τ) K:=by
 refine ACallF.dropL (aa Tryz.func175 rfl ?_);simp only [Tryz.ntmps175]
 repeat' (first|simp only [WL,WM,Nat.reduceAdd,Nat.reduceSub,Nat.reduceEqDiff,true_and,ml,T9,fR iD,fR ir,yv,tW,Tryz.results175]|(with_reducible first|refine ax (hb:=?_)|refine au (hK:=?_)|refine aQ (hK:=fun b=>?_)|refine aI (hK:=?_)|refine sy ?_|refine cD (EP hJ hll (fun y' τ' hJ'=>?_))|refine cQ (y8 ?_ aT) ?_)|((with_reducible refine aE (id:=1) 10 mixed ?_ ?_);kernel_rfl)|(with_reducible refine bK ?_)|omega)
 all_goals exact ak (ah ae) (aj rfl) (h1 _ _ (by assumption))
theorem Eg {bj:Nat}{ls:List Ln}{n d:Int}{bk:Bool}{x y:AV}{op:List Int}{l:List EvV}{ρ τ σ0:List Res}{v:TrV}{t:List Int}{s:Int} [hS:Split σ bj ρ (JC ls n bk d x y) τ] (hJ:JX x y op l τ σ0) (hll:l.length≤1000000000) (ht:t.length≤1000000000)
  (h1:∀ y' τ',JX x y' op (l++[⟨7,aK t,v.t,v.a,s,false⟩]) τ' σ0→K (.ret (.tup [])) (ρ ++ .obj bj (JC ls n bk d x y')::τ')):ACallF κ Tryz.prog 175 [JP bj,SI o t,I s,xL v] σ K :=
 ACallF.at_ (b:=bj) (Kd hJ hll ht h1)
theorem pT {ls:List Ln}{p:Int × Int}:gh (ca ls p).2=false:=by
 unfold ca gh;dsimp only;generalize aH ls (p.1,fV ls p)=l;induction l with
 | nil=>rfl
 | cons c l ih =>
  unfold pg at ih ⊢;rw [List.takeWhile_cons];split
  ·simpa using ih
  ·rename_i h;simp [h]
theorem Ok {ls:List Ln}{p:Int × Int}:p.2≤fV ls p:=by unfold fV;split<;>omega
theorem GH {ls:List Ln}{p:Int × Int}{k:Nat} (hs:Small ls) (h:k < (aH ls p).length) (h1:(ls.getD p.1.toNat (0,[])).1≤p.2):aH ls (p.1,p.2+k)=(aH ls p).drop k:=by
 have h0:=cA hs (Nat.lt_of_le_of_lt (Nat.zero_le _) h)
 have ha:=hs.at_ (i:=p.1.toNat) (by omega)
 rw [gP (by omega) (by omega) (by omega),if_neg (by omega),List.length_drop] at h;rw [gP (p:=p) (by omega) (by omega) (by omega),if_neg (by omega),gP (by dsimp only;omega) (by dsimp only;omega) (by dsimp only;omega),if_neg (by dsimp only;omega),List.drop_drop];congr 1
 dsimp only;omega
theorem nS {ls:List Ln}{p:Int × Int} (hs:Small ls) (h:0 < (ca ls p).2.length):aH ls (ca ls p).1=(ca ls p).2:=by
 unfold ca at h ⊢;dsimp only at h ⊢;rw [List.length_drop] at h;have h0:=cA (p:=(p.1,fV ls p)) hs (by omega)
 dsimp only at h0;refine GH (p:=(p.1,fV ls p)) hs (by omega) ?_;dsimp only;unfold fV;rw [if_pos (by omega)];omega
def Le2 (p q:Int × Int):Prop:=p.1 < q.1∨(p.1=q.1∧p.2≤q.2)
theorem Le2.rfl_ {p:Int × Int}:Le2 p p:=.inr ⟨rfl,Int.le_refl _⟩
theorem Le2.trans {p q r:Int × Int} (h1:Le2 p q) (h2:Le2 q r):Le2 p r:=by unfold Le2 at *;omega
theorem om {ls:List Ln} (hs:Small ls):∀ {m:Nat}{p:Int × Int}{q:Int × Int},(q,true)∈nP ls m p→Le2 p q∧0 < (aH ls q).length∧gh (aH ls q)=false
 | 0,p,q,h=>by
  have e:(q,true)=kZ ls p:=by simpa [nP] using h
  exact this_ e
 | m+1,p,q,h=>by
  rcases List.mem_cons.1 h with e|h
  ·exact this_ e
  ·split at h
   ·cases h
   ·obtain ⟨h1,h2⟩:=om hs h
    refine ⟨?_,h2⟩;unfold Le2 at h1 ⊢;dsimp only at h1;omega
where
 this_ {p q:Int × Int} (e:(q,true)=kZ ls p):Le2 p q∧0 < (aH ls q).length∧gh (aH ls q)=false:=by
  unfold kZ at e;obtain ⟨e1,e2⟩:=Prod.mk.inj e;subst e1;have h0:0 < (ca ls p).2.length:=by
   have:=e2.symm
   simp only [Bool.and_eq_true,decide_eq_true_eq] at this;exact this.1
  rw [nS hs h0];refine ⟨.inr ⟨rfl, ?_⟩,h0,pT⟩;have:=Ok (ls:=ls) (p:=p)
  unfold ca;dsimp only;omega
theorem FT {ls:List Ln}{n l0:Int}{q:Int × Int}:∀ {l:List ((Int × Int) × Bool)},PP ls n l0 l=some (some q)→(q,true)∈l
 | [],h=>by simp [PP] at h
 | (q',s)::l,h=>by
  unfold PP at h;cases s
  ·exact List.mem_cons_of_mem _ (FT h)
  ·simp only [if_true] at h
   split at h
   ·cases h
   ·cases h;exact List.mem_cons_self
theorem xA {ls:List Ln}{n:Int}{p q:Int × Int} (hs:Small ls) (h:zj ls n p=some (some q)):Le2 p q∧0 < (aH ls q).length∧gh (aH ls q)=false :=
 om hs (FT h)
def Pl (ls:List Ln) (p:Int × Int):Prop:=0≤p.1∧p.1 < ls.length∧0≤p.2∧p.2≤4000
theorem Pl.of_rest {ls:List Ln}{p:Int × Int} (hs:Small ls) (h:0 < (aH ls p).length):Pl ls p:=by
 have:=cA hs h
 unfold Pl;omega
theorem Pl.behind {ls:List Ln}{p:Int × Int}{n:Int} (hs:Small ls) (h0:0 < (aH ls p).length) (h:0≤n∧n≤(aH ls p).length):Pl ls (p.1,p.2+n):=by
 have:=cA hs h0
 unfold Pl;dsimp only;omega
theorem LQ (l:List Int):(cK l).2.1≤l.length:=by
 unfold cK;split
 ·show (0:Int)≤_;omega
 ·rename_i h0
  have h1:=(kA (by simpa using h0)).1
  split
  ·unfold fS
   split
   ·show (0:Int)≤_;omega
   ·rename_i h
    have:=(kA (l:=l) (i:=cG dQ (l.drop 2)+2) (c:=62) (by cases e:nH l (cG dQ (l.drop 2)+2) 62<;>simp_all)).1
    dsimp only;omega
  ·unfold gl
   have h2:=lr eV (l.drop (max (bB l) 1))
   have h3:=lq l
   rw [List.length_drop] at h2;split
   ·show (0:Int)≤_;omega
   ·dsimp only;omega
theorem qv {l:List Int} (h:0 < l.length):cf (aK l)=false:=by
 cases l with
 | nil=>simp at h
 | cons c l =>
  unfold cf;rw [beq_eq_false_iff_ne];intro e;have h2:=congrArg List.length (gA (c::l))
  rw [bytes_eq e] at h2;have h1:=(uF c).1
  simp only [ic,List.flatMap_cons,List.length_append] at h2;have h3:(aJ (ByteArray.mk #[])).length=0:=rfl
  omega
where
 bytes_eq {a b:ByteArray} (h:a.toList=b.toList):a=b:=by
  rw [ByteArray.toList_eq,ByteArray.toList_eq] at h;exact ByteArray.ext (Array.toList_inj.mp h)
theorem BL {l:List Int} (h:(bR l).2.2=true):cf (bR l).1=false:=by
 have h1:0 < gD eK l:=of_decide_eq_true h
 have:=eX eK l
 exact qv (by rw [List.length_take];omega)
theorem JF {l:List Int} (h:(cK l).2.2=true):cf (cK l).1=false:=by
 unfold cK at h ⊢;split at h
 ·cases h
 ·rename_i h0
  have h1:=(kA (by simpa using h0)).1
  rw [if_neg h0];split at h
  ·rename_i h2
   rw [if_pos h2];unfold fS at h ⊢;split at h
   ·cases h
   ·rename_i h3
    rw [if_neg h3];have h4:¬cG dQ (l.drop 2)=0:=fun e=>h3 (.inl e)
    refine qv ?_;rw [List.length_drop,List.length_take];have:=lr dQ (l.drop 2)
    rw [List.length_drop] at this;omega
  ·rename_i h2
   rw [if_neg h2];unfold gl at h ⊢;split at h
   ·cases h
   ·rename_i h3
    rw [if_neg h3];exact qv (by rw [List.length_take];omega)
theorem Pi {l:List Int} (h:(cK l).2.2=true):0 < (cK l).2.1:=by
 unfold cK at h ⊢;split at h
 ·cases h
 ·rename_i h0
  rw [if_neg h0];split at h
  ·rename_i h2
   rw [if_pos h2];unfold fS at h ⊢;split at h
   ·cases h
   ·rename_i h3;rw [if_neg h3];dsimp only;omega
  ·rename_i h2
   rw [if_neg h2];unfold gl at h ⊢;split at h
   ·cases h
   ·rename_i h3;rw [if_neg h3];dsimp only;omega
def HX (v:TrV):Nat:=(cf v.a).toNat+(cf v.t).toNat
theorem Du (v:TrV):HX v≤2:=by
 unfold HX;cases cf v.a<;>cases cf v.t<;>decide
theorem uu {ls:List Ln}{p:Int × Int}{v v':TrV} (h:dg ls p v=some (some v')):HX v' < HX v:=by
 unfold dg at h;split at h
 ·split at h
  ·rename_i h1
   simp only [Bool.and_eq_true] at h1;cases h
   unfold HX;dsimp only;rw [BL h1.1.2,h1.1.1];simp
  ·cases h
 ·split at h
  ·split at h
   ·rename_i h1
    simp only [Bool.and_eq_true] at h1;cases h
    unfold HX;dsimp only;rw [JF h1.1.2,h1.1.1];simp
   ·cases h
  ·cases h
theorem zG {ls:List Ln}{p:Int × Int}{v v':TrV} (hs:Small ls) (h:dg ls p v=some (some v')):0 < (aH ls p).length∧v'.q.1=p.1∧p.2 < v'.q.2∧v'.q.2≤p.2+(aH ls p).length:=by
 have h9:∀ c,bU (aH ls p) c=true→0 < (aH ls p).length:=fun c h=>by
  unfold bU at h;simp only [Bool.and_eq_true,decide_eq_true_eq] at h;exact h.1
 unfold dg at h;split at h
 ·rename_i h0
  have h0:=h9 _ h0
  split at h
  ·cases h
   have h1:(bR ((aH ls p).drop 1)).2.1=(gD eK ((aH ls p).drop 1):Nat):=rfl
   have:=eX eK ((aH ls p).drop 1)
   rw [List.length_drop] at this;refine ⟨h0,rfl, ?_, ?_⟩<;>dsimp only<;>omega
  ·cases h
 ·split at h
  ·rename_i h0
   have h0:=h9 _ h0
   split at h
   ·rename_i h1
    cases h
    simp only [Bool.and_eq_true] at h1;have h2:=LQ (aH ls p)
    have h3:=Pi h1.1.2
    refine ⟨h0,rfl, ?_, ?_⟩<;>dsimp only<;>omega
   ·cases h
  ·cases h
def cJ (ls:List Ln) (n:Int):Nat→TrV→Int × Int→Bool→Except Int (TrV × (Int × Int) × Bool)
 | _,v,q,false=>.ok (v,q,false)
 | 0,v,q,true=>match dg ls q v with
  | none=>.error 2
  | some none=>.ok (v,q,true)
  | some (some _)=>.error 2
 | f+1,v,q,true=>match dg ls q v with
  | none=>.error 2
  | some none=>.ok (v,q,true)
  | some (some v')=>match zj ls n v'.q with
   | none=>.error 7
   | some none=>cJ ls n f v' (0,0) false
   | some (some q')=>cJ ls n f v' q' true
abbrev uX:TrV:=⟨.empty,.empty,(0,0)⟩
def bS (ls:List Ln) (n:Int) (p:Int × Int):Except Int (TrV × (Int × Int) × Bool) :=
 match zj ls n p with
 | none=>.error 7
 | some none=>.ok (uX,(0,0),false)
 | some (some q)=>cJ ls n 2 uX q true
theorem lk           {ls : List Ln} {n : Int} {q : Int × Int} {v v' : TrV} {f : Nat} (h : dg     ls q v = some (some v')) (hf : HX  v ≤ f) : ∃ f', HX  v' ≤ f' ∧ cJ      ls n f v q true = match zj  ls n v'.q with
      | none=>.error 7
      | some none=>cJ ls n f' v' (0,0) false
      | some (some q')=>cJ ls n f' v' q' true:=by
  have h1:=uu h
  cases f with
  | zero=>omega
  | succ f =>
    refine ⟨f,by omega, ?_⟩;simp only [cJ,h]
theorem j6 {ls:List Ln}{n:Int}{q:Int × Int}{v:TrV}{f:Nat} (h:dg ls q v=some none):cJ ls n f v q true=.ok (v,q,true):=by
 cases f<;>simp only [cJ,h]
theorem rC {ls:List Ln}{n:Int}{q:Int × Int}{v:TrV}{f:Nat} (h:dg ls q v=none):cJ ls n f v q true=.error 2:=by
 cases f<;>simp only [cJ,h]
theorem Bs {ls:List Ln}{q:Int × Int}{v v':TrV} (hs:Small ls) (h:dg ls q v=some (some v')):0≤v'.q.1∧v'.q.1≤1000000000∧bW v'.q.2∧0≤v'.q.2:=by
 obtain ⟨h1,h2,h3,h4⟩:=zG hs h;have h5:=cA hs h1
 have:=hs.1
 omega
theorem EY {bj bt ix:Nat}{ls:List Ln}{n d:Int}{bk:Bool}{x y:AV}{p:Int × Int}{v:TrV}{ρ τ:List Res} [hS:Split σ bt ρ (xj v) τ] [hJ:Hold τ bj ix (JC ls n bk d x y)] (hs:Small ls) (hp:bW p.1∧bW p.2)
  (h1:∀ v',dg ls p v=some (some v')→K (.ret (B true)) (ρ ++ .obj bt (xj v')::τ)) (h2:dg ls p v=some none→K (.ret (B false)) (ρ ++ .obj bt (xj v)::τ)) (h3:∀ cs,dg ls p v=none→K (.pan (bN 2)) (ρ ++ .obj bt cs::τ)):ACallF κ Tryz.prog 104 [JP bj,cU p,JP bt] σ K :=
 ACallF.at_ (b:=bt) (TS hs hp h1 h2 h3)
theorem EB {bj ix:Nat}{ls:List Ln}{n d:Int}{bk:Bool}{x y:AV} [hJ:Hold σ bj ix (JC ls n bk d x y)] {p:Int × Int} (hs:Small ls) (hp:0≤p.1∧p.1≤1000000000∧bW p.2∧0≤p.2)
  (h1:∀ v q ok,bS ls n p=.ok (v,q,ok)→K (.ret (.tup [xL v,cU q,B ok])) σ) (h2:∀ e,bS ls n p=.error e→K (.pan (bN e)) σ):ACallF κ Tryz.prog 87 [JP bj,cU p] σ K:=by
 refine ACallF.dropL (aa Tryz.func87 rfl ?_);simp only [Tryz.ntmps87]
 repeat' (first|simp only [WL,WM,Nat.reduceAdd,Nat.reduceSub,Nat.reduceLT,true_and,yM]|(with_reducible first|refine aA (hK:=?_)|refine az (hK:=?_)|refine aQ (hK:=fun b=>?_)|refine aV (hK:=fun b=>?_)|refine cD (Yr hs hp (fun q hq=>?_) (fun hq=>?_) (fun hq=>?_))))
 ·
  rename_i c3 c4 c5 c7;refine bF (fun z:TrV × (Int × Int) × Bool=>⟨(JP bj::cU p::.any::JP c3::JP c4::JP c5::B false::JP c7::JP b::B z.2.2::.any::.any::.any::.any::.any::.any::.any::.any::.any::.any::.any::.any::.any::.any::.any::.any::.any::.any::.any::.any::.any::.any::[]),.obj b [I z.2.1.1,I z.2.1.2]::.obj c7 (xj z.1)::.obj c5 [I 0,I 0]::.obj c4 (xj uX)::.obj c3 [I p.1,I p.2]::σ,true,[]⟩) (fun z=>∃ f,HX z.1≤f∧bS ls n p=cJ ls n f z.1 z.2.1 z.2.2∧(z.2.2=true→0 < (aH ls z.2.1).length)) (fun z=>HX z.1) (uX,q,true) (aq bH id) ⟨2,Du _,by unfold bS;rw [hq],fun _=>(xA hs hq).2.1⟩ ?_;rintro ⟨v,q',ok⟩ ⟨f,hf,hR,hq0⟩;dsimp only at hf hR hq0 ⊢;cases ok
  ·skip
   repeat' (first|( ((with_reducible refine eE (id:=5) [0,1,2] (some 3) [([],some 4),([5],none)] mixed ?_ ?_);kernel_rfl))|( with_reducible refine bV (nZ (by first|(simp;done)|fail) (by first|(simp;done)|fail)) ?_)|simp only [WL,WM,Nat.reduceAdd,true_and,reduceIte,Bool.false_eq_true,Tryz.results87]|(with_reducible first|refine aA (hK:=?_)|refine az (hK:=?_))|((with_reducible refine aY ?_);apply sj (hf:=Tryz.results87);exact bn;exact bn)|((with_reducible apply aW);intro σq hq)|(with_reducible exact b9)|((with_reducible apply bD);rfl;rfl))
   cases f<;>exact ak (ah (ah (ah (ah (ah ae))))) (aj rfl) (h1 _ _ _ hR)
  ·have hpl:=Pl.of_rest hs (hq0 rfl)
   unfold Pl at hpl;have hl:=hs.1
   repeat' (first|( ((with_reducible refine eE (id:=5) [0,1,2] (some 3) [([],some 4),([5],none)] mixed ?_ ?_);kernel_rfl))|( with_reducible refine bV (nZ (by first|(simp;done)|fail) (by first|(simp;done)|fail)) ?_)|simp only [WL,WM,Nat.reduceAdd,Nat.reduceLT,Nat.reduceEqDiff,true_and,reduceIte,ja,fR fc,yM,KF,Tryz.results87]|(with_reducible first|refine ax (hb:=?_)|refine aA (hK:=?_)|refine az (hK:=?_)|refine cD (EY (p:=q') hs ⟨by omega,by omega⟩ (fun v' hv=>?_) (fun hv=>?_) (fun cs hv=>?_))|refine cD (Yr hs (Bs hs hv) (fun q2 hq2=>?_) (fun hq2=>?_) (fun hq2=>?_)))|((with_reducible refine aY ?_);apply sj (hf:=Tryz.results87);exact bn;exact bn)|((with_reducible apply aW);intro σq hq)|(with_reducible exact b9)|((with_reducible apply bD);rfl;rfl))
   all_goals first
    | exact ak (ah (ah (ah (ah (ah ae))))) (aj rfl) (h1 _ _ _ (hR.trans (j6 hv)))
    | exact aS (ah (ah (ah (ah (ah ae))))) rfl (h2 2 (hR.trans (rC hv)))
    | skip
   all_goals
    have hem:=uu hv
    obtain ⟨f',hf',hstep⟩:=lk (n:=n) hv hf;rw [hq2] at hstep
    first
     | exact ⟨(v',q2,true),aq bH id,⟨f',hf',hR.trans hstep,fun _=>(xA hs hq2).2.1⟩,hem⟩
     | exact ⟨(v',(0,0),false),aq bH id,⟨f',hf',hR.trans hstep,fun h=>by cases h⟩,hem⟩
     | exact aS (ah (ah (ah (ah (ah ae))))) rfl (h2 7 (hR.trans hstep))
 ·
  rename_i c3 c4 c5 c7;refine bF (fun z:TrV × (Int × Int) × Bool=>⟨(JP bj::cU p::.any::JP c3::JP c4::JP c5::B false::JP c7::JP b::B z.2.2::.any::.any::.any::.any::.any::.any::.any::.any::.any::.any::.any::.any::.any::.any::.any::.any::.any::.any::.any::.any::.any::.any::[]),.obj b [I z.2.1.1,I z.2.1.2]::.obj c7 (xj z.1)::.obj c5 [I 0,I 0]::.obj c4 (xj uX)::.obj c3 [I p.1,I p.2]::σ,true,[]⟩) (fun z=>∃ f,HX z.1≤f∧bS ls n p=cJ ls n f z.1 z.2.1 z.2.2∧(z.2.2=true→0 < (aH ls z.2.1).length)) (fun z=>HX z.1) (uX,(0,0),false) (aq bH id) ⟨2,Du _,by unfold bS;rw [hq];rfl,fun h=>by cases h⟩ ?_;rintro ⟨v,q',ok⟩ ⟨f,hf,hR,hq0⟩;dsimp only at hf hR hq0 ⊢;cases ok
  ·skip
   repeat' (first|( ((with_reducible refine eE (id:=5) [0,1,2] (some 3) [([],some 4),([5],none)] mixed ?_ ?_);kernel_rfl))|( with_reducible refine bV (nZ (by first|(simp;done)|fail) (by first|(simp;done)|fail)) ?_)|simp only [WL,WM,Nat.reduceAdd,true_and,reduceIte,Bool.false_eq_true,Tryz.results87]|(with_reducible first|refine aA (hK:=?_)|refine az (hK:=?_))|((with_reducible refine aY ?_);apply sj (hf:=Tryz.results87);exact bn;exact bn)|((with_reducible apply aW);intro σq hq)|(with_reducible exact b9)|((with_reducible apply bD);rfl;rfl))
   cases f<;>exact ak (ah (ah (ah (ah (ah ae))))) (aj rfl) (h1 _ _ _ hR)
  ·have hpl:=Pl.of_rest hs (hq0 rfl)
   unfold Pl at hpl;have hl:=hs.1
   repeat' (first|( ((with_reducible refine eE (id:=5) [0,1,2] (some 3) [([],some 4),([5],none)] mixed ?_ ?_);kernel_rfl))|( with_reducible refine bV (nZ (by first|(simp;done)|fail) (by first|(simp;done)|fail)) ?_)|simp only [WL,WM,Nat.reduceAdd,Nat.reduceLT,Nat.reduceEqDiff,true_and,reduceIte,ja,fR fc,yM,KF,Tryz.results87]|(with_reducible first|refine ax (hb:=?_)|refine aA (hK:=?_)|refine az (hK:=?_)|refine cD (EY (p:=q') hs ⟨by omega,by omega⟩ (fun v' hv=>?_) (fun hv=>?_) (fun cs hv=>?_))|refine cD (Yr hs (Bs hs hv) (fun q2 hq2=>?_) (fun hq2=>?_) (fun hq2=>?_)))|((with_reducible refine aY ?_);apply sj (hf:=Tryz.results87);exact bn;exact bn)|((with_reducible apply aW);intro σq hq)|(with_reducible exact b9)|((with_reducible apply bD);rfl;rfl))
   all_goals first
    | exact ak (ah (ah (ah (ah (ah ae))))) (aj rfl) (h1 _ _ _ (hR.trans (j6 hv)))
    | exact aS (ah (ah (ah (ah (ah ae))))) rfl (h2 2 (hR.trans (rC hv)))
    | skip
   all_goals
    have hem:=uu hv
    obtain ⟨f',hf',hstep⟩:=lk (n:=n) hv hf;rw [hq2] at hstep
    first
     | exact ⟨(v',q2,true),aq bH id,⟨f',hf',hR.trans hstep,fun _=>(xA hs hq2).2.1⟩,hem⟩
     | exact ⟨(v',(0,0),false),aq bH id,⟨f',hf',hR.trans hstep,fun h=>by cases h⟩,hem⟩
     | exact aS (ah (ah (ah (ah (ah ae))))) rfl (h2 7 (hR.trans hstep))
 ·exact aS (ah (ah (ah (ah ae)))) rfl (h2 7 (by unfold bS;rw [hq]))
end Go.Proofs.YthkabaiamcjdbaaGreat
