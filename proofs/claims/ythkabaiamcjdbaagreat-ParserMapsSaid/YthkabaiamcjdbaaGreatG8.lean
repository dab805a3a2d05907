/-
  Texts Pc, He, MG, Hf, Hg, Hh, Hj, Hi, Fe, St, one behind the other.
-/
import Derived.Test.YthkabaiamcjdbaaGreatG7
set_option linter.unusedVariables false
set_option linter.unusedSimpArgs false
set_option maxHeartbeats 16000000
/-
 Walks: chapter 11,tags.
-/

namespace Go.Proofs.YthkabaiamcjdbaaGreat
open Go.Abs
variable {κ:Ctx} {σ:List Res} {K:Ret→List Res→Prop} {o o':Option (Option (Nat × Nat))}
theorem uriL_byte {k:Nat} (h:k < uriL.length):0≤uriL.getD k 0∧uriL.getD k 0≤255:=by
 have:∀ c∈uriL,0≤c∧c≤255:=by decide
 rw [List.getD_eq_getElem?_getD,List.getElem?_eq_getElem h]
 exact this _ (List.getElem_mem h)
theorem uriC_yes {c:Int}{k:Nat} (h:k < uriL.length) (hc:c=uriL.getD k 0):uriC c=true:=by
 unfold uriC
 rw [decide_eq_true_eq,hc,List.getD_eq_getElem?_getD,List.getElem?_eq_getElem h]
 exact List.getElem_mem h
theorem uriC_no {c:Int} (h:∀ j,j < uriL.length→¬c=uriL.getD j 0):uriC c=false:=by
 unfold uriC
 rw [decide_eq_false_iff_not]
 intro hm
 obtain ⟨j,hj,e⟩:=List.getElem_of_mem hm
 exact h j hj (by rw [List.getD_eq_getElem?_getD,List.getElem?_eq_getElem hj];exact e.symm)
theorem pSign {l:List Int} (hl:l.length≤1000000000) (hK:K (.ret (I (signN l))) σ):ACallF κ Tryz.prog 197 [SI o l] σ K:=by
 have e0:signN l=signN (l.drop 0):=rfl
 refine ACallF.dropL (ACallF_introA Tryz.func197 rfl ?_)
 simp only [Tryz.ntmps197]
 repeat' (first|(with_reducible first|refine AW_block ?_|refine cut_loop ?_|refine AW_seqA (AW_seqA ?_)|refine AW_seq ?_|refine AW_runReg ?_|refine AW_runCond ?_)|simp only [WL,intF,WM,Int.reduceToNat,reduceCtorEq,WLb,Nat.reduceAdd,Nat.reduceSub,Bool.not_true,true_and,reduceIte,Bool.false_eq_true,convC_sl,List.eraseIdx_cons_zero,T3,T22,T63,cok195,cok216,Tryz.results197]|simp (disch:=first|omega|(simp only [LN_];omega)) only [getI]|(with_reducible first|refine andA (hb:=?_)|refine y_bso (ty:=63) (hK:=fun tb=>?_)|refine y_mark (hK:=?_)|refine cD (cWord ?_)|refine cD (cHex ?_))|((with_reducible first|refine grd_cases (fun h=>?_) (fun h=>?_)|refine condC_split (fun h=>?_) (fun h=>?_))<;>(try simp only [h])<;>(try simp only [NR_,NRb] at h)))
 ·exact leafL sub_rfl (leT_eq (by rw [e0,sign_e (by omega)];rfl)) hK
 ·exact leafL sub_rfl (leT_eq (by rw [e0,sign_p (by omega) (by assumption) (by assumption) (by assumption)];rfl)) hK
 ·exact leafL sub_rfl (leT_eq (by rw [e0,sign_pn (by omega) (by assumption) (.inr (.inr (by assumption)))];rfl)) hK
 ·exact leafL sub_rfl (leT_eq (by rw [e0,sign_pn (by omega) (by assumption) (.inr (.inl (by assumption)))];rfl)) hK
 ·exact leafL sub_rfl (leT_eq (by rw [e0,sign_pn (by omega) (by assumption) (.inl (by omega))];rfl)) hK
 ·exact leafL sub_rfl (leT_eq (by rw [e0,sign_w (by omega) (by assumption)];rfl)) hK
 have h21:uriL.length=21:=rfl
 refine loopA (fun k:Nat=>⟨(SI o l::.any::.any::.any::.any::.any::.any::.any::.any::.any::.any::.any::.any::.any::.any::.any::.any::.any::.any::.any::.any::.any::.any::.any::.any::.any::.any::.any::.any::.any::.any::.any::.any::.any::SU none uriL::I 21::I k::.any::.any::.any::.any::.any::.any::.any::.any::.any::.any::[]),σ,true,[]⟩) (fun k=>k≤21∧∀ j,j < k→¬l.getD 0 0=uriL.getD j 0) (fun k=>21 - k) 0 (St_le_same leA id) ⟨Nat.zero_le _,fun j h=>by omega⟩ ?_
 rintro k ⟨hk,hn⟩
 have hb:=fun h=>uriL_byte (k:=k) h
 repeat' (first|(with_reducible first|refine AW_seqA (AW_block ?_)|refine AW_seq ?_|refine AW_runReg ?_|refine AW_runCond ?_|refine AW_runRet ?_)|simp only [WL,intF,WM,Int.reduceToNat,reduceCtorEq,WLb,Nat.reduceAdd,true_and,T3,T5,T22,T63,cI in3,Tryz.results197]|simp (disch:=first|omega|(simp only [LN_];omega)) only [wrap_id,getI,getU]|with_reducible refine andA (hb:=?_)|((with_reducible first|refine grd_cases (fun h=>?_) (fun h=>?_)|refine condC_split (fun h=>?_) (fun h=>?_))<;>(try simp only [h])<;>(try simp only [NR_,NRb] at h)))
 ·exact leafL sub_rfl (leT_eq (by rw [e0,sign_u (by omega) (uriC_yes (k:=k) (by omega) (by assumption))];rfl)) hK
 ·exact ⟨k+1,St_le_same leA id,⟨by omega,fun j hj=>by
   rcases Nat.lt_or_ge j k with h'|h'
   ·exact hn j h'
   ·obtain rfl:j=k:=by omega
    assumption⟩,by omega⟩
 ·exact leafL sub_rfl (leT_eq (by rw [e0,sign_n (by omega) (by assumption) (by assumption) (uriC_no (fun j hj=>hn j (by omega)))];rfl)) hK
theorem pEach {l:List Int} (hK:∀ b,K (.ret (.raw (.func (.func 196) #[] #[.pointer (some ⟨b,0,none⟩)]))) (.obj b [SI o l]::σ)):ACallF κ Tryz.prog 167 [SI o l] σ K:=by
 refine ACallF.dropL (ACallF_intro Tryz.func167 rfl ?_)
 simp only [Tryz.ntmps167]
 repeat' (first|simp only [WL,WM,Nat.reduceAdd,Nat.reduceSub,true_and,Tryz.results167]|with_reducible refine y_box (hK:=fun b=>?_))
 exact leafL sub_rfl (leT_eq rfl) (hK _)
abbrev signsA (l:List Int) (i:Nat):List (List AV):=(signsAt l i).map fun p=>[I p.1,I p.2]
theorem pEachIt {b L:Nat}{l:List Int} (hl:l.length≤1000000000) (hI:Iter κ Tryz.prog L K (signsA l 0) σ) :
  ACallF κ Tryz.prog 196 [.raw (.func (.yield L) #[] #[]),.raw (.pointer (some ⟨b,0,none⟩))] (.obj b [SI o l]::σ) K:=by
 refine ACallF.dropL (ACallF_intro Tryz.func196 rfl ?_)
 simp only [Tryz.ntmps196]
 repeat' (first|simp only [WL,WM,Nat.reduceAdd,Nat.reduceSub])
 refine loop_by (fun x:Nat × List Res=>⟨(.raw (.func (.yield L) #[] #[])::.raw (.pointer (some ⟨b,0,none⟩))::.any::I x.1::.any::.any::.any::.any::.any::.any::.any::.any::.any::.any::.any::.any::.any::.any::.any::.any::.any::.any::.any::[]),.obj b [SI o l]::x.2,true,[]⟩) (fun x=>x.1≤l.length∧Iter κ Tryz.prog L K (signsA l x.1) x.2) (fun x=>l.length - x.1) (0,σ) (St_le_same leA id) ⟨Nat.zero_le _,hI⟩ ?_
 rintro ⟨k,σ'⟩ hx
 dsimp only at hx ⊢
 have h1:=hx.1
 have h2:=hx.2
 have hsn:=signN_drop_le (l:=l) (i:=k)
 by_cases hz:signN (l.drop k)=0
 ·rw [signsA,signsAt_no hz] at h2
  repeat' (first|simp only [WL,intF,WM,ne_eq,reduceCtorEq,not_false_eq_true,Bool.not_false,true_and,reduceIte,T3,T22,cok197,Tryz.results196,hz]|simp (disch:=first|omega|(simp only [LN_];omega)) only [wrap_id]|(with_reducible first|refine andA (hb:=?_)|refine y_load (hK:=?_)|refine cD (pSign ?_ ?_))|((with_reducible first|refine grd_cases (fun h=>?_) (fun h=>?_)|refine condC_split (fun h=>?_) (fun h=>?_))<;>(try simp only [h])<;>(try simp only [NR_,NRb] at h))|omega|(simp only [LN_];omega))
  exact leafL (sub_cons sub_rfl) (leT_eq rfl) h2
 ·rw [signsA,signsAt_yes hz,List.map_cons] at h2
  repeat' (first|simp only [WL,intF,WM,ne_eq,reduceCtorEq,not_false_eq_true,Bool.not_false,true_and,reduceIte,T3,T22,cok197,Tryz.results196]|simp (disch:=first|omega|(simp only [LN_];omega)) only [wrap_id]|(with_reducible first|refine andA (hb:=?_)|refine y_load (hK:=?_)|refine cD (pSign ?_ ?_))|((with_reducible first|refine grd_cases (fun h=>?_) (fun h=>?_)|refine condC_split (fun h=>?_) (fun h=>?_))<;>(try simp only [h])<;>(try simp only [NR_,NRb] at h))|omega|(simp only [LN_];omega))
  refine callYD_iter [.obj b [SI o l]] (leL_two le_rfl (le_int (by simp))) h2 (fun σ3 h=>?_) (fun σ3 h=>?_) (fun c σ3 h=>?_)
  ·skip
   repeat' (first|simp only [WL,intF,WM,ne_eq,reduceCtorEq,not_false_eq_true,Bool.not_true,reduceIte,Bool.false_eq_true]|simp (disch:=first|omega|(simp only [LN_];omega)) only [wrap_id])
   exact ⟨(k+signN (l.drop k),σ3),St_le_same leA id,⟨by dsimp only;omega,h⟩,by dsimp only;omega⟩
  ·skip
   repeat' (first|simp only [WL,WM,Bool.not_false,true_and,reduceIte,Bool.false_eq_true,Tryz.results196])
   exact leafL (sub_cons sub_rfl) (leT_eq rfl) h
  ·skip
   repeat' (first|simp only [WL,WM,true_and])
   exact leafP (sub_cons sub_rfl) rfl h
theorem pUri {l:List Int}{F:FuncId}{may:Int→Bool} (hF:callOk Tryz.prog F=True) (hmay:∀ c σ K,K (.ret (B (may c))) σ→ACallF κ Tryz.prog F [I c] σ K) (hl:l.length≤1000000000) (hK:K (.ret (I (uriN may l))) σ):ACallF κ Tryz.prog 136 [SI o l,.raw (.func (.func F) #[] #[])] σ K:=by
 refine ACallF.dropL (ACallF_introA Tryz.func136 rfl ?_)
 simp only [Tryz.ntmps136]
 repeat' (first|(with_reducible first|refine AW_block ?_|refine AW_seqA (AW_seqA ?_)|refine AW_seq ?_|refine AW_runReg ?_)|simp only [WL,WM,Nat.reduceAdd,Nat.reduceSub,true_and,cok167]|(with_reducible first|refine y_load (hK:=?_)|refine y_store (hK:=?_)|refine y_box (hK:=fun b=>?_)|refine y_new (hK:=fun b=>?_)|refine cD (pEach (fun eb=>?_))))
 rename_i b1 b2
 refine range_by 196 [] [.pointer (some ⟨eb,0,none⟩)] (signsA l 0) [.obj eb [SI o l]] (.obj b [I 0]::.obj b2 [.raw (.func (.func F) #[] #[])]::.obj b1 [SI o l]::σ)
  (fun xs τ=>∃ i:Nat,xs=signsA l i∧i≤l.length∧uriN may l=i+uriN may (l.drop i)∧τ=.obj b [I i]::.obj b2 [.raw (.func (.func F) #[] #[])]::.obj b1 [SI o l]::σ)
  rfl cok196 (ResW.refl _) (fun L K σ' h=>pEachIt hl h) ⟨0,rfl,Nat.zero_le _,(Nat.zero_add _).symm,rfl⟩ ?_ ?_
 ·rintro τ ⟨i,h1,h2,h3,rfl⟩
  by_cases hz:signN (l.drop i)=0
  ·rw [uriN_no (.inl hz)] at h3
   repeat' (first|(with_reducible first|refine AW_seq ?_|refine AW_runRet ?_)|simp only [WL,WM,true_and,Tryz.results136]|with_reducible refine y_load (hK:=?_))
   exact leafL (sub_cons (sub_cons (sub_cons sub_rfl))) (leT_eq (by rw [h3];rfl)) hK
  ·rw [signsA,signsAt_yes hz] at h1;cases h1
 ·rintro dd L Rr Rb hR x xs τ ⟨i,h1,h2,h3,rfl⟩
  by_cases hz:signN (l.drop i)=0
  ·rw [signsA,signsAt_no hz] at h1;cases h1
  rw [signsA,signsAt_yes hz,List.map_cons,List.cons.injEq] at h1
  obtain ⟨rfl,rfl⟩:=h1
  have hsn:=signN_drop_le (l:=l) (i:=i)
  refine ⟨rfl, ?_⟩
  repeat' (first|simp only [WL,WM])
  refine rngA_mk ?_
  repeat' (first|simp only [WL,WM,reduceCtorEq,Nat.reduceAdd,true_and,reduceIte,T3,T22,hF]|simp (disch:=first|omega|(simp only [LN_];omega)) only [getI]|(with_reducible first|refine andA (hb:=?_)|refine y_load (hK:=?_)|refine y_store (hK:=?_)|refine callD_q (hmay _ _ _ isR_mk) ?_)|((with_reducible refine AW_drawM (id:=5) 7 mixed ?_ ?_);kernel_rfl)|(with_reducible refine dmQ_mk ?_)|((with_reducible first|refine grd_cases (fun h=>?_) (fun h=>?_)|refine condC_split (fun h=>?_) (fun h=>?_))<;>(try simp only [h])<;>(try simp only [NR_,NRb] at h)))
  ·refine ⟨_,resS_rfl, ?_⟩
   rw [uriN_no (l:=l.drop i) (.inr (by rw [getD_drop0];assumption)),Nat.add_zero] at h3
   repeat' (first|(with_reducible first|refine AW_seq ?_|refine AW_runRet ?_)|simp only [WL,WM,true_and,Tryz.results136]|with_reducible refine y_load (hK:=?_))
   exact leafL (sub_cons (sub_cons (sub_cons sub_rfl))) (leT_eq (by rw [h3])) hK
  ·exact ⟨_,resS_rfl,i+signN (l.drop i),rfl,by omega,by rw [h3,uriN_yes hz (by rw [getD_drop0];assumption),List.drop_drop];omega,rfl⟩
theorem pUriAll {l:List Int} (hl:l.length≤1000000000) (hK:K (.ret (I (uriN anyC l))) σ):ACallF κ Tryz.prog 136 [SI o l,.raw (.func (.func 137) #[] #[])] σ K:=pUri cok137 (fun c σ K h=>pAll h) hl hK
theorem pUriShort {l:List Int} (hl:l.length≤1000000000) (hK:K (.ret (I (uriN shortC l))) σ):ACallF κ Tryz.prog 136 [SI o l,.raw (.func (.func 153) #[] #[])] σ K:=pUri cok153 (fun c σ K h=>pShort h) hl hK
theorem pWhole {l:List Int} (hl:l.length≤1000000000) (h2:2≤l.length) (hK:K (.ret (.tup [.raw (.string (wholeI l).1),I (wholeI l).2.1,B (wholeI l).2.2])) σ):ACallF κ Tryz.prog 152 [SI o l] σ K:=by
 have hu:=uriN_le anyC (l.drop 2)
 rw [List.length_drop] at hu
 have e1:((uriN anyC (l.drop 2):Int)+2).toNat=uriN anyC (l.drop 2)+2:=by omega
 have e2:(uriN anyC (l.drop 2):Int)+2=((uriN anyC (l.drop 2)+2:Nat):Int):=by omega
 by_cases hz:uriN anyC (l.drop 2)=0
 ·have ew:wholeI l=noneT:=by rw [wholeI,if_pos (.inl hz)]
  rw [ew] at hK
  refine ACallF.dropL (ACallF_intro Tryz.func152 rfl ?_)
  simp only [Tryz.ntmps152]
  repeat' (first|simp only [WL,intF,WM,Int.reduceToNat,reduceCtorEq,WLb,Nat.reduceAdd,Nat.reduceSub,Nat.reduceLeDiff,Bool.not_false,true_and,reduceIte,Bool.false_eq_true,T3,T22,cok108,cok110,cok136,Tryz.results152,hz]|simp (disch:=first|omega|(simp only [LN_];omega)) only [wrap_id]|(with_reducible first|refine andA (hb:=?_)|refine cD (pUriAll ?_ ?_)|refine cD (pIs ?_ ?_ ?_)|refine cD (pText ?_ ?_))|((with_reducible first|refine grd_cases (fun h=>?_) (fun h=>?_)|refine condC_split (fun h=>?_) (fun h=>?_))<;>(try simp only [h])<;>(try simp only [NR_,NRb] at h))|omega|(simp only [LN_];omega))
  all_goals first
   | exact leafL sub_rfl (leT_eq rfl) hK
   | (exfalso;omega)
 ·cases ha:atI l (uriN anyC (l.drop 2)+2) 62
  ·have ew:wholeI l=noneT:=by rw [wholeI,if_pos (.inr ha)]
   rw [ew] at hK
   refine ACallF.dropL (ACallF_intro Tryz.func152 rfl ?_)
   simp only [Tryz.ntmps152]
   repeat' (first|simp only [WL,intF,WM,Int.reduceToNat,reduceCtorEq,WLb,Nat.reduceAdd,Nat.reduceSub,Nat.reduceLeDiff,Bool.not_false,true_and,reduceIte,Bool.false_eq_true,T3,T22,cok108,cok136,Tryz.results152,e2,ha]|simp (disch:=first|omega|(simp only [LN_];omega)) only [wrap_id]|(with_reducible first|refine andA (hb:=?_)|refine cD (pUriAll ?_ ?_)|refine cD (pIs (i:=uriN anyC (l.drop 2)+2) ?_ ?_ ?_))|((with_reducible first|refine grd_cases (fun h=>?_) (fun h=>?_)|refine condC_split (fun h=>?_) (fun h=>?_))<;>(try simp only [h])<;>(try simp only [NR_,NRb] at h))|omega|(simp only [LN_];omega))
   all_goals first
    | exact leafL sub_rfl (leT_eq rfl) hK
    | (exfalso;omega)
  ·have hn:¬(uriN anyC (l.drop 2)=0∨atI l (uriN anyC (l.drop 2)+2) 62=false):=fun h=>by
    rcases h with h|h
    ·exact hz h
    ·rw [ha] at h;cases h
   have ew:wholeI l=(textI ((l.take (uriN anyC (l.drop 2)+2)).drop 1),((uriN anyC (l.drop 2)+3:Nat):Int),true):=by rw [wholeI,if_neg hn]
   rw [ew] at hK
   have hl3:=(atI_lt ha).1
   refine ACallF.dropL (ACallF_intro Tryz.func152 rfl ?_)
   simp only [Tryz.ntmps152]
   repeat' (first|simp only [WL,intF,WM,Int.reduceToNat,reduceCtorEq,WLb,Nat.reduceAdd,Nat.reduceSub,Nat.reduceLeDiff,Bool.not_true,Bool.not_false,true_and,reduceIte,Bool.false_eq_true,T3,T22,cok108,cok110,cok136,Tryz.results152,e1,ha]|simp (disch:=first|omega|(simp only [LN_];omega)) only [wrap_id]|(with_reducible first|refine andA (hb:=?_)|refine cD (pUriAll ?_ ?_)|refine cD (pIs (i:=uriN anyC (l.drop 2)+2) ?_ ?_ ?_)|refine cD (pText ?_ ?_))|((with_reducible first|refine grd_cases (fun h=>?_) (fun h=>?_)|refine condC_split (fun h=>?_) (fun h=>?_))<;>(try simp only [h])<;>(try simp only [NR_,NRb] at h))|omega|(simp only [LN_];omega))
   all_goals first
    | exact leafL sub_rfl (leT_eq (by simp;omega)) hK
    | (exfalso;omega)
theorem pTag {l:List Int} (hl:l.length≤1000000000) (hK:K (.ret (.tup [.raw (.string (tagI l).1),I (tagI l).2.1,B (tagI l).2.2])) σ):ACallF κ Tryz.prog 125 [SI o l] σ K:=by
 cases h0:atI l 0 33
 ·have ew:tagI l=noneT:=by rw [tagI,if_pos h0]
  rw [ew] at hK
  refine ACallF.dropL (ACallF_intro Tryz.func125 rfl ?_)
  simp only [Tryz.ntmps125]
  repeat' (first|simp only [WL,WM,Nat.reduceAdd,Nat.reduceSub,Nat.reduceLeDiff,Bool.not_false,true_and,cok108,Tryz.results125,h0]|with_reducible refine cD (pIs (i:=0) ?_ ?_ ?_)|omega)
  all_goals exact leafL sub_rfl (leT_eq rfl) hK
 have hp:=(atI_lt h0).1
 cases h1:atI l 1 60
 ·have ew:tagI l=shortI l:=by rw [tagI,if_neg (by rw [h0];decide),if_neg (by rw [h1];decide)]
  rw [ew] at hK
  have hh:=handleN_le l
  have hu:=uriN_le shortC (l.drop (max (handleN l) 1))
  rw [List.length_drop] at hu
  have e1:max ((handleN l:Nat):Int) 1=((max (handleN l) 1:Nat):Int):=by omega
  have e2:((uriN shortC (l.drop (max (handleN l) 1)):Int)+((max (handleN l) 1:Nat):Int)).toNat=uriN shortC (l.drop (max (handleN l) 1))+max (handleN l) 1:=by omega
  by_cases hz:0 < handleN l∧uriN shortC (l.drop (max (handleN l) 1))=0
  ·have es:shortI l=noneT:=by rw [shortI,if_pos hz]
   rw [es] at hK
   refine ACallF.dropL (ACallF_intro Tryz.func125 rfl ?_)
   simp only [Tryz.ntmps125]
   repeat' (first|simp only [WL,intF,WM,Int.reduceToNat,reduceCtorEq,WLb,Nat.reduceAdd,Nat.reduceSub,Nat.reduceLeDiff,Bool.not_true,true_and,reduceIte,Bool.false_eq_true,T3,T22,cok108,cok110,cok135,cok136,Tryz.results125,h0,h1,e1]|simp (disch:=first|omega|(simp only [LN_];omega)) only [wrap_id]|(with_reducible first|refine andA (hb:=?_)|refine y_max ?_|refine cD (pIs (i:=0) ?_ ?_ ?_)|refine cD (pIs (i:=1) ?_ ?_ ?_)|refine cD (pUriShort ?_ ?_)|refine cD (pText ?_ ?_)|refine cD (pHandle ?_ ?_ ?_))|((with_reducible first|refine grd_cases (fun h=>?_) (fun h=>?_)|refine condC_split (fun h=>?_) (fun h=>?_))<;>(try simp only [h])<;>(try simp only [NR_,NRb] at h))|omega|(simp only [LN_];omega))
   all_goals first
    | exact leafL sub_rfl (leT_eq rfl) hK
    | (exfalso;omega)
  ·have es:shortI l=(textI (l.take (uriN shortC (l.drop (max (handleN l) 1))+max (handleN l) 1)),((uriN shortC (l.drop (max (handleN l) 1))+max (handleN l) 1:Nat):Int),true):=by rw [shortI,if_neg hz]
   rw [es] at hK
   refine ACallF.dropL (ACallF_intro Tryz.func125 rfl ?_)
   simp only [Tryz.ntmps125]
   repeat' (first|simp only [WL,intF,WM,Int.reduceToNat,reduceCtorEq,WLb,Nat.reduceAdd,Nat.reduceSub,Nat.reduceLeDiff,Bool.not_true,true_and,reduceIte,Bool.false_eq_true,T3,T22,cok108,cok110,cok135,cok136,Tryz.results125,h0,h1,e1,e2]|simp (disch:=first|omega|(simp only [LN_];omega)) only [wrap_id]|(with_reducible first|refine andA (hb:=?_)|refine y_max ?_|refine cD (pIs (i:=0) ?_ ?_ ?_)|refine cD (pIs (i:=1) ?_ ?_ ?_)|refine cD (pUriShort ?_ ?_)|refine cD (pText ?_ ?_)|refine cD (pHandle ?_ ?_ ?_))|((with_reducible first|refine grd_cases (fun h=>?_) (fun h=>?_)|refine condC_split (fun h=>?_) (fun h=>?_))<;>(try simp only [h])<;>(try simp only [NR_,NRb] at h))|omega|(simp only [LN_];omega))
   all_goals first
    | (exfalso;omega)
    | exact leafL sub_rfl (leT_eq (by simp)) hK
 ·have ew:tagI l=wholeI l:=by rw [tagI,if_neg (by rw [h0];decide),if_pos h1]
  rw [ew] at hK
  have hp2:=(atI_lt h1).1
  refine ACallF.dropL (ACallF_intro Tryz.func125 rfl ?_)
  simp only [Tryz.ntmps125]
  repeat' (first|simp only [WL,WM,Nat.reduceAdd,Nat.reduceSub,Nat.reduceLT,Nat.reduceLeDiff,Bool.not_true,true_and,cok108,cok152,Tryz.results125,h0,h1]|(with_reducible first|refine cD (pIs (i:=0) ?_ ?_ ?_)|refine cD (pIs (i:=1) ?_ ?_ ?_)|refine cD (pWhole ?_ ?_ ?_))|omega)
  all_goals exact leafL sub_rfl (leT_eq rfl) hK
def emptyS (s:ByteArray):Bool:=s.toList == ({ data:=#[] }:ByteArray).toList
structure TrV where
 a:ByteArray
 t:ByteArray
 q:Int × Int
abbrev TrC (v:TrV):List AV:=[.raw (.string v.a),.raw (.string v.t),I v.q.1,I v.q.2]
def traitF (ls:List Ln) (p:Int × Int) (v:TrV):Option (Option TrV) :=
  if headF (restF ls p) 38 then
    (if emptyS v.a && (anchorI ((restF ls p).drop 1)).2.2 && endsF (restF ls (p.1,p.2+((anchorI ((restF ls p).drop 1)).2.1+1)))
     then some (some ⟨(anchorI ((restF ls p).drop 1)).1,v.t,(p.1,p.2+((anchorI ((restF ls p).drop 1)).2.1+1))⟩) else none)
  else if headF (restF ls p) 33 then
    (if emptyS v.t && (tagI (restF ls p)).2.2 && endsF (restF ls (p.1,p.2+(tagI (restF ls p)).2.1))
     then some (some ⟨v.a,(tagI (restF ls p)).1,(p.1,p.2+(tagI (restF ls p)).2.1)⟩) else none)
  else some none
theorem headF_0 {l:List Int}{c:Int} (h:l.length=0):headF l c=false:=by unfold headF;rw [h];rfl
theorem headF_t {l:List Int}{c:Int} (h0:0 < l.length) (h:l.getD 0 0=c):headF l c=true:=by unfold headF;rw [decide_eq_true h0,h];simp
theorem headF_f {l:List Int}{c:Int} (h:¬l.getD 0 0=c):headF l c=false:=by unfold headF;rw [show (l.getD 0 0 == c)=false from beq_eq_false_iff_ne.2 h,Bool.and_false]
theorem and3 {a b c:Bool} (h1:a=true) (h2:b=true) (h3:c=true):(a && b && c)=true:=by rw [h1,h2,h3];rfl
theorem nand3 {a b c:Bool} (h:a=false∨b=false∨c=false):¬(a && b && c)=true:=by
 rcases h with h|h|h<;>rw [h]<;>simp
theorem traitF_no {ls:List Ln}{p:Int × Int}{v:TrV} (h1:headF (restF ls p) 38=false) (h2:headF (restF ls p) 33=false):traitF ls p v=some none:=by unfold traitF;rw [h1,h2];rfl
theorem traitF_tag {ls : List Ln} {p : Int × Int} {v : TrV} (h1 : headF (restF ls p) 38 = false) (h2 : headF (restF ls p) 33 = true) : traitF ls p v = if emptyS v.t && (tagI (restF ls p)).2.2 && endsF (restF ls (p.1, p.2 + (tagI (restF ls p)).2.1))
     then some (some ⟨v.a,(tagI (restF ls p)).1,(p.1,p.2+(tagI (restF ls p)).2.1)⟩) else none:=by unfold traitF;rw [h1,h2];rfl
theorem traitF_anc {ls : List Ln} {p : Int × Int} {v : TrV} (h1 : headF (restF ls p) 38 = true) : traitF ls p v = if emptyS v.a && (anchorI ((restF ls p).drop 1)).2.2 && endsF (restF ls (p.1, p.2 + ((anchorI ((restF ls p).drop 1)).2.1 + 1)))
     then some (some ⟨(anchorI ((restF ls p).drop 1)).1,v.t,(p.1,p.2+((anchorI ((restF ls p).drop 1)).2.1+1))⟩) else none:=by unfold traitF;rw [h1];rfl
theorem tagI_in (l:List Int):0≤(tagI l).2.1∧(tagI l).2.1≤3 * l.length+3:=by
 have h1:=uriN_le anyC (l.drop 2)
 have h2:=uriN_le shortC (l.drop (max (handleN l) 1))
 have h3:=handleN_le l
 rw [List.length_drop] at h1 h2
 unfold tagI wholeI shortI noneT
 (repeat' split)<;>dsimp only<;>omega
theorem jTrait {bj bt ix:Nat}{ls:List Ln}{n d:Int}{bk:Bool}{x y:AV} [hJ:Hold σ bj ix (JC ls n bk d x y)] {p:Int × Int}{v:TrV} (hs:Small ls) (hp:In64 p.1∧In64 p.2)
  (h1:∀ v',traitF ls p v=some (some v')→K (.ret (B true)) (.obj bt (TrC v')::σ)) (h2:traitF ls p v=some none→K (.ret (B false)) (.obj bt (TrC v)::σ)) (h3:∀ cs,traitF ls p v=none→K (.pan (wrongC 2)) (.obj bt cs::σ)):ACallF κ Tryz.prog 104 [JP bj,PLA p,JP bt] (.obj bt (TrC v)::σ) K:=by
 have hr:=restF_len (p:=p) hs
 have hsm:=fun h=>restF_some (p:=p) hs h
 have ha:=cnt_le nameI ((restF ls p).drop 1)
 rw [List.length_drop] at ha
 have ha1:(anchorI ((restF ls p).drop 1)).2.1=(cnt nameI ((restF ls p).drop 1):Nat):=rfl
 have ht:=tagI_in (restF ls p)
 have hA:0 < (restF ls p).length→In64 (p.1,p.2+((anchorI ((restF ls p).drop 1)).2.1+1)).1∧In64 (p.1,p.2+((anchorI ((restF ls p).drop 1)).2.1+1)).2:=fun h=>⟨hp.1,by have:=hsm h;dsimp only;omega⟩
 have hT:0 < (restF ls p).length→In64 (p.1,p.2+(tagI (restF ls p)).2.1).1∧In64 (p.1,p.2+(tagI (restF ls p)).2.1).2:=fun h=>⟨hp.1,by have:=hsm h;dsimp only;omega⟩
 rcases Nat.eq_zero_or_pos (restF ls p).length with h0|h0
 ·skip
  refine ACallF.dropL (ACallF_intro Tryz.func104 rfl ?_)
  simp only [Tryz.ntmps104]
  repeat' (first|simp only [WL,intF,strF,WM,Int.reduceToNat,reduceCtorEq,WLb,Nat.reduceAdd,Nat.reduceSub,Nat.reduceLT,Nat.reduceEqDiff,Bool.not_true,Bool.not_false,true_and,reduceIte,Bool.false_eq_true,T3,T9,T22,T131,fR fl133_0,fR fl133_1,fR fl133_2,cok99,cok120,cok123,cok124,cok125,cok126,Tryz.results104]|simp (disch:=first|omega|(simp only [LN_];omega)) only [wrap_id,getI]|(with_reducible first|refine andA (hb:=?_)|refine y_load (hK:=?_)|refine y_loadA (hK:=?_)|refine y_store (hK:=?_)|refine y_storeA (hK:=?_)|refine y_box (hK:=fun b=>?_)|refine cD (jRest hs hp ?_)|refine cD (jNeedF ?_)|refine cD (jBehind ?_ ?_)|refine cD (jNeed (fun h=>?_) (fun h=>?_))|refine cD (pAnchor ?_ ?_)|refine cD (pTag ?_ ?_))|((with_reducible first|refine grd_cases (fun h=>?_) (fun h=>?_)|refine condC_split (fun h=>?_) (fun h=>?_))<;>(try simp only [h])<;>(try simp only [NR_,NRb] at h))|omega)
  exact leafL (sub_cons sub_rfl) (leT_eq rfl) (h2 (traitF_no (headF_0 h0) (headF_0 h0)))
 ·replace hA:=hA h0
  replace hT:=hT h0
  replace hsm:=hsm h0
  refine ACallF.dropL (ACallF_intro Tryz.func104 rfl ?_)
  simp only [Tryz.ntmps104]
  repeat' (first|simp only [WL,intF,strF,WM,Int.reduceToNat,reduceCtorEq,WLb,Nat.reduceAdd,Nat.reduceSub,Nat.reduceLT,Nat.reduceEqDiff,Bool.not_true,Bool.not_false,true_and,reduceIte,Bool.false_eq_true,T3,T9,T22,T131,fR fl133_0,fR fl133_1,fR fl133_2,cok99,cok120,cok123,cok124,cok125,cok126,Tryz.results104]|simp (disch:=first|omega|(simp only [LN_];omega)) only [wrap_id,getI]|(with_reducible first|refine andA (hb:=?_)|refine y_load (hK:=?_)|refine y_loadA (hK:=?_)|refine y_store (hK:=?_)|refine y_storeA (hK:=?_)|refine y_box (hK:=fun b=>?_)|refine cD (jRest hs hp ?_)|refine cD (jNeedF ?_)|refine cD (jEnds (p:=(p.1,p.2+(tagI (restF ls p)).2.1)) hs hT ?_)|refine cD (jEnds (p:=(p.1,p.2+((anchorI ((restF ls p).drop 1)).2.1+1))) hs hA ?_)|refine cD (jBehind ?_ ?_)|refine cD (jNeed (fun h=>?_) (fun h=>?_))|refine cD (pAnchor ?_ ?_)|refine cD (pTag ?_ ?_))|((with_reducible first|refine grd_cases (fun h=>?_) (fun h=>?_)|refine condC_split (fun h=>?_) (fun h=>?_))<;>(try simp only [h])<;>(try simp only [NR_,NRb] at h))|omega|(simp only [LN_];omega))
  all_goals first
   | exact leafL (sub_cons sub_rfl) (leT_eq rfl) (h2 (traitF_no (headF_f (by assumption)) (headF_f (by assumption))))
   | exact leafL (sub_cons sub_rfl) (leT_eq rfl) (h1 ⟨v.a,(tagI (restF ls p)).1,(p.1,p.2+(tagI (restF ls p)).2.1)⟩ ((traitF_tag (headF_f (by assumption)) (headF_t h0 (by assumption))).trans (if_pos (and3 (by assumption) (by assumption) (by assumption)))))
   | exact leafP (sub_cons sub_rfl) rfl (h3 _ ((traitF_tag (headF_f (by assumption)) (headF_t h0 (by assumption))).trans (if_neg (nand3 (by first|exact .inl (by assumption)|exact .inr (.inl (by assumption))|exact .inr (.inr (by assumption)))))))
   | exact leafL (sub_cons sub_rfl) (leT_eq rfl) (h1 ⟨(anchorI ((restF ls p).drop 1)).1,v.t,(p.1,p.2+((anchorI ((restF ls p).drop 1)).2.1+1))⟩ ((traitF_anc (headF_t h0 (by assumption))).trans (if_pos (and3 (by assumption) (by assumption) (by assumption)))))
   | exact leafP (sub_cons sub_rfl) rfl (h3 _ ((traitF_anc (headF_t h0 (by assumption))).trans (if_neg (nand3 (by first|exact .inl (by assumption)|exact .inr (.inl (by assumption))|exact .inr (.inr (by assumption)))))))
end Go.Proofs.YthkabaiamcjdbaaGreat
/-
 The abstract layer,part G: contracts that write a variable,wherever it lies.
-/

namespace Go.Abs
open Go.RowKit
section
variable {κ:Ctx} {P:Program}
class Split (σ:List Res) (b:Nat) (ρ:outParam (List Res)) (cs:outParam (List AV)) (τ:outParam (List Res)):Prop where
 is:σ=ρ++(.obj b cs::τ)
instance (priority:=low) Split.there {σ ρ τ:List Res} {b:Nat} {cs:List AV} {r:Res} [h:Split σ b ρ cs τ]:Split (r::σ) b (r::ρ) cs τ:=⟨by rw [h.is];rfl⟩
instance Split.here {σ:List Res} {b:Nat} {cs:List AV}:Split (.obj b cs::σ) b [] cs σ:=⟨rfl⟩
theorem ACallF.at_ {f:FuncId}{args:List AV}{σ ρ τ:List Res}{b:Nat}{cs:List AV}{K:Ret→List Res→Prop} [h:Split σ b ρ cs τ] (hc:ACallF κ P f args (.obj b cs::τ) (fun r σ'=>K r (ρ++σ'))):ACallF κ P f args σ K:=by
 rw [h.is]
 refine (hc.front ρ).mono ?_
 rintro r σ' ⟨τ',rfl,hk⟩
 exact hk
theorem AW_phS {rd:Option Nat}{l:List Oper}{Q:Exit→St→Prop}{t:List AV}{σ:List Res}{fr:Bool}{df:List Deferred}{id:Nat} (σ0:List Res) (h0:Has σ0 σ) (A0:List Nat) (c0:Option Nat) (r0:Ph) (hm:P.follows .mixedOrders=true) (hok:phOk l ((A0,c0)::r0)=true) (h:phE κ P l (Has σ0) fr df Q A0 c0 r0 t σ):AW κ rd P (.region id l.toArray true) Q ⟨t,σ,fr,df⟩ :=
 AW_phE A0 c0 r0 (Has σ0) h0 hm hok h
theorem AW_phS2 {rd:Option Nat}{l:List Oper}{Q:Exit→St→Prop}{t:List AV}{r1 r2:Res}{σ:List Res}{fr:Bool}{df:List Deferred}{id:Nat} (A0:List Nat) (c0:Option Nat) (r0:Ph) (hm:P.follows .mixedOrders=true) (hok:phOk l ((A0,c0)::r0)=true) (h:phE κ P l (Has [r1,r2]) fr df Q A0 c0 r0 t (r1::r2::σ)):AW κ rd P (.region id l.toArray true) Q ⟨t,r1::r2::σ,fr,df⟩ :=
 AW_phE A0 c0 r0 (Has [r1,r2]) ⟨fun r hr=>by simp at hr;rcases hr with h|h<;>simp [h]⟩ hm hok h
theorem AW_phS1 {rd:Option Nat}{l:List Oper}{Q:Exit→St→Prop}{t:List AV}{r1:Res}{σ:List Res}{fr:Bool}{df:List Deferred}{id:Nat} (A0:List Nat) (c0:Option Nat) (r0:Ph) (hm:P.follows .mixedOrders=true) (hok:phOk l ((A0,c0)::r0)=true) (h:phE κ P l (Has [r1]) fr df Q A0 c0 r0 t (r1::σ)):AW κ rd P (.region id l.toArray true) Q ⟨t,r1::σ,fr,df⟩ :=
 AW_phE A0 c0 r0 (Has [r1]) ⟨fun r hr=>by simp at hr;simp [hr]⟩ hm hok h
theorem AW_phM {rd:Option Nat}{l:List Oper}{Q:Exit→St→Prop}{t:List AV}{r1 r2:Res}{σ:List Res}{fr:Bool}{df:List Deferred}{id:Nat} (A0:List Nat) (c0:Option Nat) (r0:Ph) (h2:r2∈σ) (hm:P.follows .mixedOrders=true) (hok:phOk l ((A0,c0)::r0)=true) (h:phE κ P l (Has [r1,r2]) fr df Q A0 c0 r0 t (r1::σ)):AW κ rd P (.region id l.toArray true) Q ⟨t,r1::σ,fr,df⟩ :=
 AW_phE A0 c0 r0 (Has [r1,r2]) ⟨fun r hr=>by simp at hr;rcases hr with h|h<;>simp [h,h2]⟩ hm hok h
theorem has1 {r1:Res}{σ:List Res} (h1:r1∈σ):Has [r1] σ:=⟨fun r hr=>by simp at hr;rw [hr];exact h1⟩
theorem has2 {r1 r2:Res}{σ:List Res} (h1:r1∈σ) (h2:r2∈σ):Has [r1,r2] σ:=⟨fun r hr=>by simp at hr;rcases hr with h|h<;>rw [h]<;>assumption⟩
inductive RowR (sz:Nat):AV→List AV→List Res→Prop where
 | nil:RowR sz nilS [] []
 | row {b c:Nat} {cs l:List AV} (h0:0 < c) (hn:l.length≤c) (hc:cs.length=c * sz) (ht:cs.take (l.length * sz)=cellsL l):RowR sz (rowV b 0 l.length c) l [.obj b cs]
section
variable {all rest:List Oper} {Q:Exit→St→Prop} {d:Option Tmp} {t:List AV} {σ:List Res} {fr:Bool} {df:List Deferred}
theorem y_app_first {ty e:TypeId}{sz by_:Nat}{z:Value}{l2:List AV}{o2:Option (Option (Nat × Nat))} [hS:TSl P ty e sz by_ z] (hgood:goodL l2=true) (hne:0 < l2.length) (hlen:l2.length * by_≤140737488355328) (hmax:l2.length≤maxLen)
  (hK:∀ b' c' cs',cs'.length=c' * sz→l2.length≤c'→cs'.take (l2.length * sz)=cellsL l2→goK κ false P all Q d rest ⟨t,σ,fr,df⟩ (rowV b' 0 l2.length c') (.obj b' cs'::σ)):actC κ false P all Q d rest ⟨t,σ,fr,df⟩ (.append ty) [nilS,.sl sz o2 l2] :=
 actC_mk (act_append_first hS.sl hS.hz hS.by' hS.zr hS.one hS.pos hgood hne hlen hmax hK)
theorem y_app_row {ty e:TypeId}{sz by_ b n c i:Nat}{z:Value}{cs l2:List AV}{o2:Option (Option (Nat × Nat))} [hS:TSl P ty e sz by_ z] [hH:Hold σ b i cs] (hgood:goodL l2=true) (hcs:cs.length=c * sz) (hn:n≤c) (hlen:(n+l2.length) * by_≤140737488355328) (hmax:n+l2.length≤maxLen)
  (hK:∀ b' c' cs',cs'.length=c' * sz→n+l2.length≤c'→cs'.take ((n+l2.length) * sz)=cs.take (n * sz)++cellsL l2→goK κ false P all Q d rest ⟨t,σ,fr,df⟩ (rowV b' 0 (n+l2.length) c') (σ.set i (.obj b' cs'))):actC κ false P all Q d rest ⟨t,σ,fr,df⟩ (.append ty) [rowV b 0 n c,.sl sz o2 l2] :=
 actC_mk (act_append_row i hH.get hS.sl hS.hz hS.by' hS.zr hS.one hS.pos hgood hcs hn hlen hmax hK)
theorem y_cut {dm:Bool}{ty e:TypeId}{sz by_ b o n c:Nat}{i:Int} (a:Nat) {z:Value} [hS:TSl P ty e sz by_ z] (hi:i=a) (ha:a≤n) (hc:n≤c) (h0:0 < c) (hK:goK κ dm P all Q d rest ⟨t,σ,fr,df⟩ (rowV b o a c) σ):actC κ dm P all Q d rest ⟨t,σ,fr,df⟩ (.slice ty false true false) [rowV b o n c,.any,I i,.any]:=by
 subst hi
 exact actC_q (act_slice_cut hS.sl hS.hz ha hc h0 isA_mk) hK
end
end
section
variable {κ:Ctx} {P:Program} {σ:List Res} {fn:Func} {t:List AV} {fr:Bool} {df:List Deferred} {K:Ret→List Res→Prop}
theorem res_cct {a b c:Tmp}{ty ty':TypeId}{x y:AV} (hf:fn.results = #[.cell a ty,.cell b ty',.tmp c]) (h:LoadsTo P κ σ ty (t.getD a .any) x) (h':LoadsTo P κ σ ty' (t.getD b .any) y) (hK:K (.ret (.tup [x,y,t.getD c .any])) σ):resL κ P fn K ⟨t,σ,fr,df⟩ [.cell a ty,.cell b ty',.tmp c]:=by
 intro φ g w tmps hR ht
 obtain ⟨p,u,h1,h2,h3⟩:=h φ g w _ hR (evT ht a)
 obtain ⟨q,v,k1,k2,k3⟩:=h' φ g w _ hR (evT ht b)
 have h1':tmps[a]?.getD undef=.pointer (some p):=by simpa using h1
 have k1':tmps[b]?.getD undef=.pointer (some q):=by simpa using k1
 have h4:=TR.three h3 k3 (evT ht c)
 exact ⟨.tuple #[u,v,tmps.getD c undef],_,by simp [results,hf,h1',k1',asAddr,h2,k2],.tup _ h4.size h4.get,hK⟩
end
end Go.Abs
/-
 Walks: chapter 13,what is put.
-/


namespace Go.Proofs.YthkabaiamcjdbaaGreat
open Go.Abs
variable {κ:Ctx} {σ:List Res} {K:Ret→List Res→Prop} {o o':Option (Option (Nat × Nat))}
structure EvV where
 k:Int
 x:ByteArray
 t:ByteArray
 a:ByteArray
 s:Int
 f:Bool
abbrev EVA (e:EvV):AV:=.agg [I e.k,.raw (.string e.x),.raw (.string e.t),.raw (.string e.a),I e.s,B e.f]
theorem jPut0 {bj:Nat}{ls:List Ln}{n d:Int}{bk:Bool}{x y:AV}{l:List EvV}{ρ:List Res}{e:EvV} (hR:RowR 6 y (l.map EVA) ρ) (hl:l.length≤1000000000)
  (hK:∀ y' ρ',RowR 6 y' ((l++[e]).map EVA) ρ'→K (.ret (.tup [])) (.obj bj (JC ls n bk d x y')::(ρ'++σ))):ACallF κ Tryz.prog 170 [JP bj,EVA e] (.obj bj (JC ls n bk d x y)::(ρ++σ)) K:=by
 rw [List.map_append] at hK
 generalize hm:l.map EVA=m at *
 have hml:m.length≤1000000000:=by rw [← hm,List.length_map];exact hl
 cases hR with
 | nil =>
  rw [List.nil_append]
  refine ACallF.dropL (ACallF_intro Tryz.func170 rfl ?_)
  simp only [Tryz.ntmps170]
  repeat' (first|( ((with_reducible refine AW_phS1 (id:=1) [0,1,2,3,5,6] (some 4) [([],some 7),([8,9],some 10),([],none)] mixed ?_ ?_);kernel_rfl))|( with_reducible refine phQ_mk (has1 (by first|(simp;done)|fail)) ?_)|simp only [WL,WM,Nat.reduceAdd,Nat.reduceSub,Nat.reduceEqDiff,true_and,T24,fR fl159_5,Tryz.results170]|(with_reducible first|refine andA (hb:=?_)|refine y_load (hK:=?_)|refine y_loadA (hK:=?_)|refine y_store (hK:=?_)|refine y_box (hK:=fun b=>?_)|refine y_bs (hK:=?_))|( refine y_app_first (hgood:=by rfl) (hne:=by simp) (hlen:=by simp) (hmax:=by simp [maxLen]) (hK:=fun b' c' cs' q1 q2 q3=>?_))|((with_reducible apply phE_intro);intro σq hq;have hqi:=has_of hq;clear hq)|(with_reducible exact isT_mk)|((with_reducible apply phC_ops);rfl;rfl))
  refine leafL ⟨.obj b' cs'::.obj bj (JC ls n bk d x (rowV b' 0 1 c'))::σ,List.Perm.swap _ _ _,((List.Sublist.refl _).cons _).cons_cons _⟩ (leT_eq rfl) (hK (rowV b' 0 1 c') [.obj b' cs'] (RowR.row (l:=[EVA e]) (by simp at q2;omega) q2 q1 q3))
 | @row rb rc cs _ h0 hn hc ht =>
  rw [List.cons_append,List.nil_append]
  refine ACallF.dropL (ACallF_intro Tryz.func170 rfl ?_)
  simp only [Tryz.ntmps170]
  repeat' (first|( ((with_reducible refine AW_phS1 (id:=1) [0,1,2,3,5,6] (some 4) [([],some 7),([8,9],some 10),([],none)] mixed ?_ ?_);kernel_rfl))|( with_reducible refine phQ_mk (has1 (by first|(simp;done)|fail)) ?_)|simp only [WL,WM,Nat.reduceAdd,Nat.reduceSub,Nat.reduceEqDiff,true_and,T24,fR fl159_5,Tryz.results170]|(with_reducible first|refine andA (hb:=?_)|refine y_load (hK:=?_)|refine y_loadA (hK:=?_)|refine y_store (hK:=?_)|refine y_box (hK:=fun b=>?_)|refine y_bs (hK:=?_))|( refine y_app_row (hgood:=by rfl) (hcs:=hc) (hn:=hn) (hlen:=by first|(simp;omega)|fail) (hmax:=by first|(simp [maxLen];omega)|fail) (hK:=fun b' c' cs' q1 q2 q3=>?_))|((with_reducible apply phE_intro);intro σq hq;have hqi:=has_of hq;clear hq)|(with_reducible exact isT_mk)|((with_reducible apply phC_ops);rfl;rfl))
  have hr:RowR 6 (rowV b' 0 (m.length+1) c') (m++[EVA e]) [.obj b' cs']:=by
   have:=RowR.row (sz:=6) (b:=b') (c:=c') (cs:=cs') (l:=m++[EVA e]) (by have:m.length+1≤c':=q2;omega) (by simpa using q2) q1 (by rw [List.length_append,q3,ht];simp)
   rwa [List.length_append] at this
  exact leafL (sub_cons sub_rfl) (leT_eq rfl) (hK _ _ hr)
def JX (x y:AV) (op:List Int) (l:List EvV) (τ σ0:List Res):Prop:=∃ ρx ρy,RowR 1 x (op.map I) ρx∧RowR 6 y (l.map EVA) ρy∧τ.Perm (ρx++(ρy++σ0))
theorem jPut {bj:Nat}{ls:List Ln}{n d:Int}{bk:Bool}{x y:AV}{op:List Int}{l:List EvV}{ρ τ σ0:List Res}{e:EvV} [hS:Split σ bj ρ (JC ls n bk d x y) τ] (hJ:JX x y op l τ σ0) (hl:l.length≤1000000000)
  (hK:∀ y' τ',JX x y' op (l++[e]) τ' σ0→K (.ret (.tup [])) (ρ ++ .obj bj (JC ls n bk d x y')::τ')):ACallF κ Tryz.prog 170 [JP bj,EVA e] σ K:=by
 obtain ⟨ρx,ρy,h1,h2,hp⟩:=hJ
 have sw:∀ ρ':List Res,(ρ'++(ρx++σ0)).Perm (ρx++(ρ'++σ0)):=fun ρ'=>by
  rw [← List.append_assoc,← List.append_assoc]
  exact List.perm_append_comm.append_right _
 refine ACallF.at_ (b:=bj) (ACallF.perm (σ2:=.obj bj (JC ls n bk d x y)::(ρy++(ρx++σ0))) (List.Perm.cons _ (hp.trans (sw ρy).symm)) (jPut0 h2 hl (fun y' ρ' h3=>?_)))
 exact hK y' _ ⟨ρx,ρ',h1,h3,sw ρ'⟩
abbrev JO (b:Nat):AV:=.raw (.pointer (some ⟨b,4,none⟩))
theorem jPush0 {bj:Nat}{ls:List Ln}{n d:Int}{bk:Bool}{x y:AV}{l:List Int}{ρ:List Res}{e:Int} (hR:RowR 1 x (l.map I) ρ) (hl:l.length≤1000000000)
  (hK:∀ x' ρ',RowR 1 x' ((l++[e]).map I) ρ'→K (.ret (.tup [])) (.obj bj (JC ls n bk d x' y)::(ρ'++σ))):ACallF κ Tryz.prog 209 [JO bj,I e] (.obj bj (JC ls n bk d x y)::(ρ++σ)) K:=by
 rw [List.map_append] at hK
 generalize hm:l.map I=m at *
 have hml:m.length≤1000000000:=by rw [← hm,List.length_map];exact hl
 cases hR with
 | nil =>
  rw [List.nil_append]
  refine ACallF.dropL (ACallF_intro Tryz.func209 rfl ?_)
  simp only [Tryz.ntmps209]
  repeat' (first|simp only [WL,WM,Nat.reduceAdd,Nat.reduceSub,Nat.reduceEqDiff,true_and,T22,fR fl157_0,Tryz.results209]|(with_reducible first|refine andA (hb:=?_)|refine y_load (hK:=?_)|refine y_store (hK:=?_)|refine y_bs (hK:=?_))|( refine y_app_first (hgood:=by rfl) (hne:=by simp) (hlen:=by simp) (hmax:=by simp [maxLen]) (hK:=fun b' c' cs' q1 q2 q3=>?_)))
  exact leafL ⟨_,List.Perm.swap _ _ _,List.Sublist.refl _⟩ (leT_eq rfl) (hK (rowV b' 0 1 c') [.obj b' cs'] (RowR.row (l:=[I e]) (by simp at q2;omega) q2 q1 q3))
 | @row rb rc cs _ h0 hn hc ht =>
  rw [List.cons_append,List.nil_append]
  refine ACallF.dropL (ACallF_intro Tryz.func209 rfl ?_)
  simp only [Tryz.ntmps209]
  repeat' (first|simp only [WL,WM,Nat.reduceAdd,Nat.reduceSub,Nat.reduceEqDiff,true_and,T22,fR fl157_0,Tryz.results209]|(with_reducible first|refine andA (hb:=?_)|refine y_load (hK:=?_)|refine y_store (hK:=?_)|refine y_bs (hK:=?_))|( refine y_app_row (hgood:=by rfl) (hcs:=hc) (hn:=hn) (hlen:=by first|(simp;omega)|fail) (hmax:=by first|(simp [maxLen];omega)|fail) (hK:=fun b' c' cs' q1 q2 q3=>?_)))
  have hr:RowR 1 (rowV b' 0 (m.length+1) c') (m++[I e]) [.obj b' cs']:=by
   have:=RowR.row (sz:=1) (b:=b') (c:=c') (cs:=cs') (l:=m++[I e]) (by have:m.length+1≤c':=q2;omega) (by simpa using q2) q1 (by rw [List.length_append,q3,ht];simp)
   rwa [List.length_append] at this
  exact leafL sub_rfl (leT_eq rfl) (hK _ _ hr)
theorem jPush {bj:Nat}{ls:List Ln}{n d:Int}{bk:Bool}{x y:AV}{op:List Int}{l:List EvV}{ρ τ σ0:List Res}{e:Int} [hS:Split σ bj ρ (JC ls n bk d x y) τ] (hJ:JX x y op l τ σ0) (hl:op.length≤1000000000)
  (hK:∀ x' τ',JX x' y (op++[e]) l τ' σ0→K (.ret (.tup [])) (ρ ++ .obj bj (JC ls n bk d x' y)::τ')):ACallF κ Tryz.prog 209 [JO bj,I e] σ K:=by
 obtain ⟨ρx,ρy,h1,h2,hp⟩:=hJ
 refine ACallF.at_ (b:=bj) (ACallF.perm (σ2:=.obj bj (JC ls n bk d x y)::(ρx++(ρy++σ0))) (List.Perm.cons _ hp) (jPush0 h1 hl (fun x' ρ' h3=>?_)))
 exact hK x' _ ⟨ρ',ρy,h3,h2,List.Perm.refl _⟩
theorem jLen0 {bj ix:Nat}{ls:List Ln}{n d:Int}{bk:Bool}{x y:AV}{l:List Int}{ρ:List Res} [hJ:Hold σ bj ix (JC ls n bk d x y)] (hR:RowR 1 x (l.map I) ρ) (hl:l.length≤1000000000) (hK:K (.ret (I l.length)) σ):ACallF κ Tryz.prog 185 [JO bj] σ K:=by
 have hml:(l.map I).length=l.length:=List.length_map _
 generalize l.map I=m at *
 cases hR with
 | nil =>
  refine ACallF.dropL (ACallF_intro Tryz.func185 rfl ?_)
  simp only [Tryz.ntmps185]
  repeat' (first|simp only [WL,WM,Nat.reduceAdd,Nat.reduceSub,Nat.reduceEqDiff,true_and,T22,fR fl157_0,Tryz.results185]|(with_reducible first|refine andA (hb:=?_)|refine y_load (hK:=?_)))
  exact leafL sub_rfl (leT_eq rfl) (by simpa [← hml] using hK)
 | @row rb rc cs _ h0 hn hc ht =>
  refine ACallF.dropL (ACallF_intro Tryz.func185 rfl ?_)
  simp only [Tryz.ntmps185]
  repeat' (first|simp only [WL,WM,Nat.reduceAdd,Nat.reduceSub,Nat.reduceEqDiff,true_and,T22,fR fl157_0,Tryz.results185]|(with_reducible first|refine andA (hb:=?_)|refine y_load (hK:=?_)))
  exact leafL sub_rfl (leT_eq rfl) (by simpa [← hml] using hK)
theorem jLen {bj:Nat}{ls:List Ln}{n d:Int}{bk:Bool}{x y:AV}{op:List Int}{l:List EvV}{ρ τ σ0:List Res} [hS:Split σ bj ρ (JC ls n bk d x y) τ] (hJ:JX x y op l τ σ0) (hl:op.length≤1000000000)
  (hK:K (.ret (I op.length)) σ):ACallF κ Tryz.prog 185 [JO bj] σ K:=by
 obtain ⟨ρx,ρy,h1,h2,hp⟩:=hJ
 haveI:Hold σ bj ρ.length (JC ls n bk d x y):=⟨by rw [hS.is];simp⟩
 exact jLen0 h1 hl hK
theorem cellsI:∀ l:List Int,cellsL (l.map I)=l.map I
 | []=>rfl
 | x::l=>by
  show (I x).cells++cellsL (l.map I)=_
  rw [cellsI l];rfl
theorem jDrop0 {bj:Nat}{ls:List Ln}{n d:Int}{bk:Bool}{x y:AV}{l:List Int}{ρ:List Res}{e:Int} (hR:RowR 1 x ((l++[e]).map I) ρ) (hl:l.length≤1000000000)
  (hK:∀ x' ρ',RowR 1 x' (l.map I) ρ'→K (.ret (.tup [])) (.obj bj (JC ls n bk d x' y)::(ρ'++σ))):ACallF κ Tryz.prog 210 [JO bj] (.obj bj (JC ls n bk d x y)::(ρ++σ)) K:=by
 generalize hm2:(l++[e]).map I=m2 at *
 cases hR with
 | nil=>simp at hm2
 | @row rb rc cs _ h0 hn hc ht =>
  have h9:m2.length=l.length+1:=by rw [← hm2];simp
  rw [List.cons_append,List.nil_append,h9]
  have hn2:l.length+1≤rc:=by omega
  have hr:RowR 1 (rowV rb 0 l.length rc) (l.map I) [.obj rb cs]:=by
   have h8:cs.take l.length=l.map I:=by
    rw [← hm2,cellsI,List.map_append,List.length_append,List.length_map] at ht
    have h7:=congrArg (List.take l.length) ht
    rw [List.take_take,List.take_append_of_le_length (by simp)] at h7
    have h6:min l.length ((l.length+(List.map I [e]).length) * 1)=l.length:=by omega
    rw [h6,List.take_of_length_le (l:=l.map I) (by simp)] at h7
    exact h7
   have:=RowR.row (sz:=1) (b:=rb) (c:=rc) (cs:=cs) (l:=l.map I) h0 (by rw [List.length_map];omega) hc (by
    rw [cellsI,List.length_map,Nat.mul_one];exact h8)
   rwa [List.length_map] at this
  refine ACallF.dropL (ACallF_intro Tryz.func210 rfl ?_)
  simp only [Tryz.ntmps210]
  repeat' (first|simp only [WL,intF,WM,reduceCtorEq,WLb,Nat.reduceAdd,Nat.reduceSub,Nat.reduceEqDiff,true_and,T22,fR fl157_0,Tryz.results210]|simp (disch:=first|omega|(simp only [LN_];omega)) only [wrap_id]|(with_reducible first|refine andA (hb:=?_)|refine y_load (hK:=?_)|refine y_store (hK:=?_))|( refine y_cut l.length (by omega) (Nat.le_succ _) hn2 h0 ?_)|((with_reducible refine AW_drawM (id:=0) 14 mixed ?_ ?_);kernel_rfl)|(with_reducible refine dmQ_mk ?_))
  exact leafL sub_rfl (leT_eq rfl) (hK _ _ hr)
theorem jDrop {bj:Nat}{ls:List Ln}{n d:Int}{bk:Bool}{x y:AV}{op:List Int}{l:List EvV}{ρ τ σ0:List Res}{e:Int} [hS:Split σ bj ρ (JC ls n bk d x y) τ] (hJ:JX x y (op++[e]) l τ σ0) (hl:op.length≤1000000000)
  (hK:∀ x' τ',JX x' y op l τ' σ0→K (.ret (.tup [])) (ρ ++ .obj bj (JC ls n bk d x' y)::τ')):ACallF κ Tryz.prog 210 [JO bj] σ K:=by
 obtain ⟨ρx,ρy,h1,h2,hp⟩:=hJ
 refine ACallF.at_ (b:=bj) (ACallF.perm (σ2:=.obj bj (JC ls n bk d x y)::(ρx++(ρy++σ0))) (List.Perm.cons _ hp) (jDrop0 h1 hl (fun x' ρ' h3=>?_)))
 exact hK x' _ ⟨ρ',ρy,h3,h2,List.Perm.refl _⟩
def roomF (d:Int) (k:Nat) (w:Int):Bool:=decide (d < 200) && decide (d+k+w < 200)
theorem split_hold {σ ρ τ:List Res}{b:Nat}{cs:List AV} (h:Split σ b ρ cs τ):Hold σ b ρ.length cs:=⟨by rw [h.is];simp⟩
theorem jPutV {bj:Nat}{ls:List Ln}{n d:Int}{bk:Bool}{x y:AV}{op:List Int}{l:List EvV}{ρ τ σ0:List Res}{k s:Int}{ex et ea:ByteArray}{f:Bool} [hS:Split σ bj ρ (JC ls n bk d x y) τ] (hJ:JX x y op l τ σ0) (hl:l.length≤1000000000)
  (hK:∀ y' τ',JX x y' op (l++[⟨k,ex,et,ea,s,f⟩]) τ' σ0→K (.ret (.tup [])) (ρ ++ .obj bj (JC ls n bk d x y')::τ')):ACallF κ Tryz.prog 170 [JP bj,.agg [I k,.raw (.string ex),.raw (.string et),.raw (.string ea),I s,B f]] σ K :=
 jPut (e:=⟨k,ex,et,ea,s,f⟩) hJ hl hK
theorem len0_beq {k:Nat}:((k:Int) == 0)=decide (k=0):=by
 rw [Bool.eq_iff_iff];simp only [beq_iff_eq,decide_eq_true_eq];omega
theorem jRoom {bj:Nat}{ls:List Ln}{n d:Int}{bk:Bool}{x y:AV}{op:List Int}{l:List EvV}{ρ τ σ0:List Res}{w:Int} [hS:Split σ bj ρ (JC ls n bk d x y) τ] (hJ:JX x y op l τ σ0) (hl:op.length≤1000000000) (hd:0≤d∧d≤1000000000) (hw:0≤w∧w≤1000000000)
  (h1:roomF d op.length w=true→K (.ret (.tup [])) σ) (h2:roomF d op.length w=false→K (.pan (wrongC 8)) σ):ACallF κ Tryz.prog 207 [JP bj,I w] σ K:=by
 haveI hH:=split_hold hS
 unfold roomF at h1 h2
 refine ACallF.dropL (ACallF_intro Tryz.func207 rfl ?_)
 simp only [Tryz.ntmps207]
 repeat' (first|simp only [WL,intF,WM,reduceCtorEq,WLb,Nat.reduceAdd,Nat.reduceSub,Nat.reduceEqDiff,Bool.not_false,true_and,reduceIte,Bool.false_eq_true,T3,T157,fR fl159_3,fR fl159_4,cok122,cok185,Tryz.results207]|simp (disch:=first|omega|(simp only [LN_];omega)) only [wrap_id]|(with_reducible first|refine andA (hb:=?_)|refine y_load (hK:=?_)|refine cD (jFail ?_)|refine cQ (jLen (by assumption) ?_ isR_mk) ?_)|((with_reducible refine AW_drawM (id:=0) 19 mixed ?_ ?_);kernel_rfl)|(with_reducible refine dmQ_mk ?_)|((with_reducible first|refine grd_cases (fun h=>?_) (fun h=>?_)|refine condC_split (fun h=>?_) (fun h=>?_))<;>(try simp only [h])<;>(try simp only [NR_,NRb] at h))|omega)
 all_goals first
  | exact leafP sub_rfl rfl (h2 (by simp;omega))
  | exact leafL sub_rfl (leT_eq rfl) (h1 (by simp;omega))
theorem jBegin0 {bj:Nat}{ls:List Ln}{n d:Int}{bk:Bool}{x y:AV}{op:List Int}{l:List EvV}{τ σ0:List Res}{e:EvV} (hJ:JX x y op l τ σ0) (hl:op.length≤1000000000) (hll:l.length≤1000000000) (hd:0≤d∧d≤1000000000)
  (h1:roomF d op.length 0=true→∀ x' y' τ',JX x' y' (op++[e.k]) (l++[e]) τ' σ0→K (.ret (.tup [])) (.obj bj (JC ls n bk d x' y')::τ')) (h2:roomF d op.length 0=false→K (.pan (wrongC 8)) (.obj bj (JC ls n bk d x y)::τ)):ACallF κ Tryz.prog 179 [JP bj,EVA e] (.obj bj (JC ls n bk d x y)::τ) K:=by
 refine ACallF.dropL (ACallF_intro Tryz.func179 rfl ?_)
 simp only [Tryz.ntmps179]
 repeat' (first|simp only [WL,WM,Nat.reduceAdd,Nat.reduceSub,Nat.reduceEqDiff,true_and,T3,T157,fR fl26_0,fR fl159_4,cok170,cok207,cok209,Tryz.results179]|(with_reducible first|refine andA (hb:=?_)|refine y_load (hK:=?_)|refine y_loadA (hK:=?_)|refine y_box (hK:=fun b=>?_)|refine cD (jRoom hJ hl hd (w:=0) (by omega) (fun h=>?_) (fun h=>?_))|refine cD (jPut hJ hll (fun y' τ' hJ'=>?_))|refine cD (jPush (by assumption) ?_ (fun x' τ' hJ'=>?_)))|((with_reducible refine AW_drawM (id:=3) 5 mixed ?_ ?_);kernel_rfl)|(with_reducible refine dmQ_mk ?_)|omega)
 ·exact leafL (sub_cons sub_rfl) (leT_eq rfl) (h1 h _ _ _ (by assumption))
 ·exact leafP (sub_cons sub_rfl) rfl (h2 h)
theorem jBegin {bj:Nat}{ls:List Ln}{n d:Int}{bk:Bool}{x y:AV}{op:List Int}{l:List EvV}{ρ τ σ0:List Res}{e:EvV} [hS:Split σ bj ρ (JC ls n bk d x y) τ] (hJ:JX x y op l τ σ0) (hl:op.length≤1000000000) (hll:l.length≤1000000000) (hd:0≤d∧d≤1000000000)
  (h1:roomF d op.length 0=true→∀ x' y' τ',JX x' y' (op++[e.k]) (l++[e]) τ' σ0→K (.ret (.tup [])) (ρ ++ .obj bj (JC ls n bk d x' y')::τ')) (h2:roomF d op.length 0=false→K (.pan (wrongC 8)) σ):ACallF κ Tryz.prog 179 [JP bj,EVA e] σ K :=
 ACallF.at_ (b:=bj) (jBegin0 hJ hl hll hd h1 (fun h=>by have:=h2 h;rwa [hS.is] at this))
theorem jEnd0 {bj:Nat}{ls:List Ln}{n d:Int}{bk:Bool}{x y:AV}{op:List Int}{l:List EvV}{τ σ0:List Res}{e k:Int} (hJ:JX x y (op++[e]) l τ σ0) (hl:op.length≤1000000000) (hll:l.length≤1000000000)
  (h1:∀ x' y' τ',JX x' y' op (l++[⟨k,.empty,.empty,.empty,0,false⟩]) τ' σ0→K (.ret (.tup [])) (.obj bj (JC ls n bk d x' y')::τ')):ACallF κ Tryz.prog 182 [JP bj,I k] (.obj bj (JC ls n bk d x y)::τ) K:=by
 refine ACallF.dropL (ACallF_intro Tryz.func182 rfl ?_)
 simp only [Tryz.ntmps182]
 repeat' (first|simp only [WL,WM,Nat.reduceAdd,Nat.reduceSub,Nat.reduceEqDiff,true_and,T157,fR fl159_4,cok170,cok210,Tryz.results182]|(with_reducible first|refine andA (hb:=?_)|refine y_build (hK:=?_)|refine cD (jPutV hJ hll (fun y' τ' hJ'=>?_))|refine cD (jDrop hJ' hl (fun x'' τ'' hJ''=>?_))))
 all_goals exact leafL sub_rfl (leT_eq rfl) (h1 _ _ _ (by assumption))
theorem jEnd {bj:Nat}{ls:List Ln}{n d:Int}{bk:Bool}{x y:AV}{op:List Int}{l:List EvV}{ρ τ σ0:List Res}{e k:Int} [hS:Split σ bj ρ (JC ls n bk d x y) τ] (hJ:JX x y (op++[e]) l τ σ0) (hl:op.length≤1000000000) (hll:l.length≤1000000000)
  (h1:∀ x' y' τ',JX x' y' op (l++[⟨k,.empty,.empty,.empty,0,false⟩]) τ' σ0→K (.ret (.tup [])) (ρ ++ .obj bj (JC ls n bk d x' y')::τ')):ACallF κ Tryz.prog 182 [JP bj,I k] σ K :=
 ACallF.at_ (b:=bj) (jEnd0 hJ hl hll h1)
theorem jInBlockH {bj ix:Nat}{ls:List Ln}{n d:Int}{bk:Bool}{x y:AV}{op:List Int}{ρx:List Res} [hH:Hold σ bj ix (JC ls n bk d x y)] (hR:RowR 1 x (op.map I) ρx) (hl:op.length≤1000000000)
  (hK:K (.ret (B (bk && decide (op.length=0)))) σ):ACallF κ Tryz.prog 146 [JP bj] σ K:=by
 refine ACallF.dropL (ACallF_intro Tryz.func146 rfl ?_)
 simp only [Tryz.ntmps146]
 repeat' (first|simp only [WL,intF,WM,reduceCtorEq,WLb,Nat.reduceAdd,Nat.reduceSub,Nat.reduceEqDiff,Bool.not_true,true_and,reduceIte,Bool.false_eq_true,T4,T157,fR fl159_2,fR fl159_4,cok185,Tryz.results146]|(with_reducible first|refine andA (hb:=?_)|refine y_load (hK:=?_)|refine cD (jLen0 hR hl ?_))|((with_reducible first|refine grd_cases (fun h=>?_) (fun h=>?_)|refine condC_split (fun h=>?_) (fun h=>?_))<;>(try simp only [h])<;>(try simp only [NR_,NRb] at h)))
 all_goals exact leafL sub_rfl (leT_eq (congrArg B (by first|(rw [len0_beq];simp [*];done)|simp [*]))) hK
theorem JX.row {x y:AV}{op:List Int}{l:List EvV}{τ σ0:List Res} (h:JX x y op l τ σ0):∃ ρx,RowR 1 x (op.map I) ρx:=by
 obtain ⟨ρx,_,h1,_⟩:=h;exact ⟨ρx,h1⟩
theorem jInBlock {bj:Nat}{ls:List Ln}{n d:Int}{bk:Bool}{x y:AV}{op:List Int}{l:List EvV}{ρ τ σ0:List Res} [hS:Split σ bj ρ (JC ls n bk d x y) τ] (hJ:JX x y op l τ σ0) (hl:op.length≤1000000000)
  (hK:K (.ret (B (bk && decide (op.length=0)))) σ):ACallF κ Tryz.prog 146 [JP bj] σ K:=by
 haveI hH:=split_hold hS
 obtain ⟨ρx,hR⟩:=hJ.row
 exact jInBlockH hR hl hK
abbrev TrA (v:TrV):AV:=.agg (TrC v)
theorem jEmpty0 {bj:Nat}{ls:List Ln}{n d:Int}{bk:Bool}{x y:AV}{op:List Int}{l:List EvV}{τ σ0:List Res}{v:TrV} (hJ:JX x y op l τ σ0) (hll:l.length≤1000000000)
  (h1:∀ y' τ',JX x y' op (l++[⟨7,.empty,v.t,v.a,1,false⟩]) τ' σ0→K (.ret (.tup [])) (.obj bj (JC ls n bk d x y')::τ')):ACallF κ Tryz.prog 148 [JP bj,TrA v] (.obj bj (JC ls n bk d x y)::τ) K:=by
 refine ACallF.dropL (ACallF_intro Tryz.func148 rfl ?_)
 simp only [Tryz.ntmps148]
 repeat' (first|simp only [WL,WM,Nat.reduceAdd,Nat.reduceSub,Nat.reduceEqDiff,true_and,T9,fR fl133_0,fR fl133_1,cok170,Tryz.results148]|(with_reducible first|refine andA (hb:=?_)|refine y_load (hK:=?_)|refine y_box (hK:=fun b=>?_)|refine y_build (hK:=?_)|refine cD (jPutV hJ hll (fun y' τ' hJ'=>?_))))
 all_goals exact leafL (sub_cons sub_rfl) (leT_eq rfl) (h1 _ _ (by assumption))
theorem jEmpty {bj:Nat}{ls:List Ln}{n d:Int}{bk:Bool}{x y:AV}{op:List Int}{l:List EvV}{ρ τ σ0:List Res}{v:TrV} [hS:Split σ bj ρ (JC ls n bk d x y) τ] (hJ:JX x y op l τ σ0) (hll:l.length≤1000000000)
  (h1:∀ y' τ',JX x y' op (l++[⟨7,.empty,v.t,v.a,1,false⟩]) τ' σ0→K (.ret (.tup [])) (ρ ++ .obj bj (JC ls n bk d x y')::τ')):ACallF κ Tryz.prog 148 [JP bj,TrA v] σ K :=
 ACallF.at_ (b:=bj) (jEmpty0 hJ hll h1)
theorem jScalar0 {bj:Nat}{ls:List Ln}{n d:Int}{bk:Bool}{x y:AV}{op:List Int}{l:List EvV}{τ σ0:List Res}{v:TrV}{t:List Int}{s:Int} (hJ:JX x y op l τ σ0) (hll:l.length≤1000000000) (ht:t.length≤1000000000)
  (h1:∀ y' τ',JX x y' op (l++[⟨7,textI t,v.t,v.a,s,false⟩]) τ' σ0→K (.ret (.tup [])) (.obj bj (JC ls n bk d x y')::τ')):ACallF κ Tryz.prog 175 [JP bj,SI o t,I s,TrA v] (.obj bj (JC ls n bk d x y)::τ) K:=by
 refine ACallF.dropL (ACallF_intro Tryz.func175 rfl ?_)
 simp only [Tryz.ntmps175]
 repeat' (first|simp only [WL,WM,Nat.reduceAdd,Nat.reduceSub,Nat.reduceEqDiff,true_and,convC_sl,T9,fR fl133_0,fR fl133_1,cok131,cok170,Tryz.results175]|(with_reducible first|refine andA (hb:=?_)|refine y_load (hK:=?_)|refine y_box (hK:=fun b=>?_)|refine y_build (hK:=?_)|refine y_bytes ?_|refine cD (jPutV hJ hll (fun y' τ' hJ'=>?_))|refine cQ (uBytes ?_ isR_mk) ?_)|((with_reducible refine AW_drawM (id:=1) 10 mixed ?_ ?_);kernel_rfl)|(with_reducible refine dmQ_mk ?_)|omega)
 all_goals exact leafL (sub_cons sub_rfl) (leT_eq rfl) (h1 _ _ (by assumption))
theorem jScalar {bj:Nat}{ls:List Ln}{n d:Int}{bk:Bool}{x y:AV}{op:List Int}{l:List EvV}{ρ τ σ0:List Res}{v:TrV}{t:List Int}{s:Int} [hS:Split σ bj ρ (JC ls n bk d x y) τ] (hJ:JX x y op l τ σ0) (hll:l.length≤1000000000) (ht:t.length≤1000000000)
  (h1:∀ y' τ',JX x y' op (l++[⟨7,textI t,v.t,v.a,s,false⟩]) τ' σ0→K (.ret (.tup [])) (ρ ++ .obj bj (JC ls n bk d x y')::τ')):ACallF κ Tryz.prog 175 [JP bj,SI o t,I s,TrA v] σ K :=
 ACallF.at_ (b:=bj) (jScalar0 hJ hll ht h1)
theorem blankAt_past {ls:List Ln}{p:Int × Int}:blankAt (pastF ls p).2=false:=by
 unfold pastF blankAt
 dsimp only
 generalize restF ls (p.1,colF ls p)=l
 induction l with
 | nil=>rfl
 | cons c l ih =>
  unfold blN at ih ⊢
  rw [List.takeWhile_cons]
  split
  ·simpa using ih
  ·rename_i h;simp [h]
theorem colF_ge {ls:List Ln}{p:Int × Int}:p.2≤colF ls p:=by unfold colF;split<;>omega
theorem restF_add {ls:List Ln}{p:Int × Int}{k:Nat} (hs:Small ls) (h:k < (restF ls p).length) (h1:(ls.getD p.1.toNat (0,[])).1≤p.2):restF ls (p.1,p.2+k)=(restF ls p).drop k:=by
 have h0:=restF_some hs (Nat.lt_of_le_of_lt (Nat.zero_le _) h)
 have ha:=hs.at_ (i:=p.1.toNat) (by omega)
 rw [restF_in (by omega) (by omega) (by omega),if_neg (by omega),List.length_drop] at h
 rw [restF_in (p:=p) (by omega) (by omega) (by omega),if_neg (by omega),restF_in (by dsimp only;omega) (by dsimp only;omega) (by dsimp only;omega),if_neg (by dsimp only;omega),List.drop_drop]
 congr 1
 dsimp only
 omega
theorem past_rest {ls:List Ln}{p:Int × Int} (hs:Small ls) (h:0 < (pastF ls p).2.length):restF ls (pastF ls p).1=(pastF ls p).2:=by
 unfold pastF at h ⊢
 dsimp only at h ⊢
 rw [List.length_drop] at h
 have h0:=restF_some (p:=(p.1,colF ls p)) hs (by omega)
 dsimp only at h0
 refine restF_add (p:=(p.1,colF ls p)) hs (by omega) ?_
 dsimp only
 unfold colF
 rw [if_pos (by omega)]
 omega
def Le2 (p q:Int × Int):Prop:=p.1 < q.1∨(p.1=q.1∧p.2≤q.2)
theorem Le2.rfl_ {p:Int × Int}:Le2 p p:=.inr ⟨rfl,Int.le_refl _⟩
theorem Le2.trans {p q r:Int × Int} (h1:Le2 p q) (h2:Le2 q r):Le2 p r:=by unfold Le2 at *;omega
theorem placesN_facts {ls:List Ln} (hs:Small ls):∀ {m:Nat}{p:Int × Int}{q:Int × Int},(q,true)∈placesN ls m p→Le2 p q∧0 < (restF ls q).length∧blankAt (restF ls q)=false
 | 0,p,q,h=>by
  have e:(q,true)=someF ls p:=by simpa [placesN] using h
  exact this_ e
 | m+1,p,q,h=>by
  rcases List.mem_cons.1 h with e|h
  ·exact this_ e
  ·split at h
   ·cases h
   ·obtain ⟨h1,h2⟩:=placesN_facts hs h
    refine ⟨?_,h2⟩
    unfold Le2 at h1 ⊢
    dsimp only at h1
    omega
where
 this_ {p q:Int × Int} (e:(q,true)=someF ls p):Le2 p q∧0 < (restF ls q).length∧blankAt (restF ls q)=false:=by
  unfold someF at e
  obtain ⟨e1,e2⟩:=Prod.mk.inj e
  subst e1
  have h0:0 < (pastF ls p).2.length:=by
   have:=e2.symm
   simp only [Bool.and_eq_true,decide_eq_true_eq] at this
   exact this.1
  rw [past_rest hs h0]
  refine ⟨.inr ⟨rfl, ?_⟩,h0,blankAt_past⟩
  have:=colF_ge (ls:=ls) (p:=p)
  unfold pastF
  dsimp only
  omega
theorem onL_mem {ls:List Ln}{n l0:Int}{q:Int × Int}:∀ {l:List ((Int × Int) × Bool)},onL ls n l0 l=some (some q)→(q,true)∈l
 | [],h=>by simp [onL] at h
 | (q',s)::l,h=>by
  unfold onL at h
  cases s
  ·exact List.mem_cons_of_mem _ (onL_mem h)
  ·simp only [if_true] at h
   split at h
   ·cases h
   ·cases h;exact List.mem_cons_self
theorem onF_q {ls:List Ln}{n:Int}{p q:Int × Int} (hs:Small ls) (h:onF ls n p=some (some q)):Le2 p q∧0 < (restF ls q).length∧blankAt (restF ls q)=false :=
 placesN_facts hs (onL_mem h)
def Pl (ls:List Ln) (p:Int × Int):Prop:=0≤p.1∧p.1 < ls.length∧0≤p.2∧p.2≤4000
theorem Pl.of_rest {ls:List Ln}{p:Int × Int} (hs:Small ls) (h:0 < (restF ls p).length):Pl ls p:=by
 have:=restF_some hs h
 unfold Pl;omega
theorem Pl.behind {ls:List Ln}{p:Int × Int}{n:Int} (hs:Small ls) (h0:0 < (restF ls p).length) (h:0≤n∧n≤(restF ls p).length):Pl ls (p.1,p.2+n):=by
 have:=restF_some hs h0
 unfold Pl;dsimp only;omega
theorem tagI_len (l:List Int):(tagI l).2.1≤l.length:=by
 unfold tagI
 split
 ·show (0:Int)≤_;omega
 ·rename_i h0
  have h1:=(atI_lt (by simpa using h0)).1
  split
  ·unfold wholeI
   split
   ·show (0:Int)≤_;omega
   ·rename_i h
    have:=(atI_lt (l:=l) (i:=uriN anyC (l.drop 2)+2) (c:=62) (by cases e:atI l (uriN anyC (l.drop 2)+2) 62<;>simp_all)).1
    dsimp only;omega
  ·unfold shortI
   have h2:=uriN_le shortC (l.drop (max (handleN l) 1))
   have h3:=handleN_le l
   rw [List.length_drop] at h2
   split
   ·show (0:Int)≤_;omega
   ·dsimp only;omega
theorem text_some {l:List Int} (h:0 < l.length):emptyS (textI l)=false:=by
 cases l with
 | nil=>simp at h
 | cons c l =>
  unfold emptyS
  rw [beq_eq_false_iff_ne]
  intro e
  have h2:=congrArg List.length (bytesI_text (c::l))
  rw [bytes_eq e] at h2
  have h1:=(encC_len c).1
  simp only [encL,List.flatMap_cons,List.length_append] at h2
  have h3:(bytesI (ByteArray.mk #[])).length=0:=rfl
  omega
where
 bytes_eq {a b:ByteArray} (h:a.toList=b.toList):a=b:=by
  rw [ByteArray.toList_eq,ByteArray.toList_eq] at h
  exact ByteArray.ext (Array.toList_inj.mp h)
theorem anchor_some {l:List Int} (h:(anchorI l).2.2=true):emptyS (anchorI l).1=false:=by
 have h1:0 < cnt nameI l:=of_decide_eq_true h
 have:=cnt_le nameI l
 exact text_some (by rw [List.length_take];omega)
theorem tag_some {l:List Int} (h:(tagI l).2.2=true):emptyS (tagI l).1=false:=by
 unfold tagI at h ⊢
 split at h
 ·cases h
 ·rename_i h0
  have h1:=(atI_lt (by simpa using h0)).1
  rw [if_neg h0]
  split at h
  ·rename_i h2
   rw [if_pos h2]
   unfold wholeI at h ⊢
   split at h
   ·cases h
   ·rename_i h3
    rw [if_neg h3]
    have h4:¬uriN anyC (l.drop 2)=0:=fun e=>h3 (.inl e)
    refine text_some ?_
    rw [List.length_drop,List.length_take]
    have:=uriN_le anyC (l.drop 2)
    rw [List.length_drop] at this
    omega
  ·rename_i h2
   rw [if_neg h2]
   unfold shortI at h ⊢
   split at h
   ·cases h
   ·rename_i h3
    rw [if_neg h3]
    exact text_some (by rw [List.length_take];omega)
theorem tag_pos {l:List Int} (h:(tagI l).2.2=true):0 < (tagI l).2.1:=by
 unfold tagI at h ⊢
 split at h
 ·cases h
 ·rename_i h0
  rw [if_neg h0]
  split at h
  ·rename_i h2
   rw [if_pos h2]
   unfold wholeI at h ⊢
   split at h
   ·cases h
   ·rename_i h3;rw [if_neg h3];dsimp only;omega
  ·rename_i h2
   rw [if_neg h2]
   unfold shortI at h ⊢
   split at h
   ·cases h
   ·rename_i h3;rw [if_neg h3];dsimp only;omega
def emN (v:TrV):Nat:=(emptyS v.a).toNat+(emptyS v.t).toNat
theorem emN_le (v:TrV):emN v≤2:=by
 unfold emN
 cases emptyS v.a<;>cases emptyS v.t<;>decide
theorem trait_em {ls:List Ln}{p:Int × Int}{v v':TrV} (h:traitF ls p v=some (some v')):emN v' < emN v:=by
 unfold traitF at h
 split at h
 ·split at h
  ·rename_i h1
   simp only [Bool.and_eq_true] at h1
   cases h
   unfold emN
   dsimp only
   rw [anchor_some h1.1.2,h1.1.1]
   simp
  ·cases h
 ·split at h
  ·split at h
   ·rename_i h1
    simp only [Bool.and_eq_true] at h1
    cases h
    unfold emN
    dsimp only
    rw [tag_some h1.1.2,h1.1.1]
    simp
   ·cases h
  ·cases h
theorem trait_pl {ls:List Ln}{p:Int × Int}{v v':TrV} (hs:Small ls) (h:traitF ls p v=some (some v')):0 < (restF ls p).length∧v'.q.1=p.1∧p.2 < v'.q.2∧v'.q.2≤p.2+(restF ls p).length:=by
 have h9:∀ c,headF (restF ls p) c=true→0 < (restF ls p).length:=fun c h=>by
  unfold headF at h;simp only [Bool.and_eq_true,decide_eq_true_eq] at h;exact h.1
 unfold traitF at h
 split at h
 ·rename_i h0
  have h0:=h9 _ h0
  split at h
  ·cases h
   have h1:(anchorI ((restF ls p).drop 1)).2.1=(cnt nameI ((restF ls p).drop 1):Nat):=rfl
   have:=cnt_le nameI ((restF ls p).drop 1)
   rw [List.length_drop] at this
   refine ⟨h0,rfl, ?_, ?_⟩<;>dsimp only<;>omega
  ·cases h
 ·split at h
  ·rename_i h0
   have h0:=h9 _ h0
   split at h
   ·rename_i h1
    cases h
    simp only [Bool.and_eq_true] at h1
    have h2:=tagI_len (restF ls p)
    have h3:=tag_pos h1.1.2
    refine ⟨h0,rfl, ?_, ?_⟩<;>dsimp only<;>omega
   ·cases h
  ·cases h
def traitsG (ls:List Ln) (n:Int):Nat→TrV→Int × Int→Bool→Except Int (TrV × (Int × Int) × Bool)
 | _,v,q,false=>.ok (v,q,false)
 | 0,v,q,true=>match traitF ls q v with
  | none=>.error 2
  | some none=>.ok (v,q,true)
  | some (some _)=>.error 2
 | f+1,v,q,true=>match traitF ls q v with
  | none=>.error 2
  | some none=>.ok (v,q,true)
  | some (some v')=>match onF ls n v'.q with
   | none=>.error 7
   | some none=>traitsG ls n f v' (0,0) false
   | some (some q')=>traitsG ls n f v' q' true
abbrev tr0:TrV:=⟨.empty,.empty,(0,0)⟩
def traitsF (ls:List Ln) (n:Int) (p:Int × Int):Except Int (TrV × (Int × Int) × Bool) :=
 match onF ls n p with
 | none=>.error 7
 | some none=>.ok (tr0,(0,0),false)
 | some (some q)=>traitsG ls n 2 tr0 q true
theorem traitsG_step {ls : List Ln} {n : Int} {q : Int × Int} {v v' : TrV} {f : Nat} (h : traitF ls q v = some (some v')) (hf : emN v ≤ f) : ∃ f', emN v' ≤ f' ∧ traitsG ls n f v q true = match onF ls n v'.q with
      | none=>.error 7
      | some none=>traitsG ls n f' v' (0,0) false
      | some (some q')=>traitsG ls n f' v' q' true:=by
  have h1:=trait_em h
  cases f with
  | zero=>omega
  | succ f =>
    refine ⟨f,by omega, ?_⟩
    simp only [traitsG,h]
theorem traitsG_end {ls:List Ln}{n:Int}{q:Int × Int}{v:TrV}{f:Nat} (h:traitF ls q v=some none):traitsG ls n f v q true=.ok (v,q,true):=by
 cases f<;>simp only [traitsG,h]
theorem traitsG_bad {ls:List Ln}{n:Int}{q:Int × Int}{v:TrV}{f:Nat} (h:traitF ls q v=none):traitsG ls n f v q true=.error 2:=by
 cases f<;>simp only [traitsG,h]
theorem trait_on {ls:List Ln}{q:Int × Int}{v v':TrV} (hs:Small ls) (h:traitF ls q v=some (some v')):0≤v'.q.1∧v'.q.1≤1000000000∧In64 v'.q.2∧0≤v'.q.2:=by
 obtain ⟨h1,h2,h3,h4⟩:=trait_pl hs h
 have h5:=restF_some hs h1
 have:=hs.1
 omega
theorem jTraitS {bj bt ix:Nat}{ls:List Ln}{n d:Int}{bk:Bool}{x y:AV}{p:Int × Int}{v:TrV}{ρ τ:List Res} [hS:Split σ bt ρ (TrC v) τ] [hJ:Hold τ bj ix (JC ls n bk d x y)] (hs:Small ls) (hp:In64 p.1∧In64 p.2)
  (h1:∀ v',traitF ls p v=some (some v')→K (.ret (B true)) (ρ ++ .obj bt (TrC v')::τ)) (h2:traitF ls p v=some none→K (.ret (B false)) (ρ ++ .obj bt (TrC v)::τ)) (h3:∀ cs,traitF ls p v=none→K (.pan (wrongC 2)) (ρ ++ .obj bt cs::τ)):ACallF κ Tryz.prog 104 [JP bj,PLA p,JP bt] σ K :=
 ACallF.at_ (b:=bt) (jTrait hs hp h1 h2 h3)
theorem jTraits {bj ix:Nat}{ls:List Ln}{n d:Int}{bk:Bool}{x y:AV} [hJ:Hold σ bj ix (JC ls n bk d x y)] {p:Int × Int} (hs:Small ls) (hp:0≤p.1∧p.1≤1000000000∧In64 p.2∧0≤p.2)
  (h1:∀ v q ok,traitsF ls n p=.ok (v,q,ok)→K (.ret (.tup [TrA v,PLA q,B ok])) σ) (h2:∀ e,traitsF ls n p=.error e→K (.pan (wrongC e)) σ):ACallF κ Tryz.prog 87 [JP bj,PLA p] σ K:=by
 refine ACallF.dropL (ACallF_intro Tryz.func87 rfl ?_)
 simp only [Tryz.ntmps87]
 repeat' (first|simp only [WL,WM,Nat.reduceAdd,Nat.reduceSub,Nat.reduceLT,true_and,cok103]|(with_reducible first|refine y_loadA (hK:=?_)|refine y_storeA (hK:=?_)|refine y_box (hK:=fun b=>?_)|refine y_new (hK:=fun b=>?_)|refine cD (jOn hs hp (fun q hq=>?_) (fun hq=>?_) (fun hq=>?_))))
 ·
  rename_i c3 c4 c5 c7
  refine loop_by (fun z:TrV × (Int × Int) × Bool=>⟨(JP bj::PLA p::.any::JP c3::JP c4::JP c5::B false::JP c7::JP b::B z.2.2::.any::.any::.any::.any::.any::.any::.any::.any::.any::.any::.any::.any::.any::.any::.any::.any::.any::.any::.any::.any::.any::.any::[]),.obj b [I z.2.1.1,I z.2.1.2]::.obj c7 (TrC z.1)::.obj c5 [I 0,I 0]::.obj c4 (TrC tr0)::.obj c3 [I p.1,I p.2]::σ,true,[]⟩) (fun z=>∃ f,emN z.1≤f∧traitsF ls n p=traitsG ls n f z.1 z.2.1 z.2.2∧(z.2.2=true→0 < (restF ls z.2.1).length)) (fun z=>emN z.1) (tr0,q,true) (St_le_same leA id) ⟨2,emN_le _,by unfold traitsF;rw [hq],fun _=>(onF_q hs hq).2.1⟩ ?_
  rintro ⟨v,q',ok⟩ ⟨f,hf,hR,hq0⟩
  dsimp only at hf hR hq0 ⊢
  cases ok
  ·skip
   repeat' (first|( ((with_reducible refine AW_phS2 (id:=5) [0,1,2] (some 3) [([],some 4),([5],none)] mixed ?_ ?_);kernel_rfl))|( with_reducible refine phQ_mk (has2 (by first|(simp;done)|fail) (by first|(simp;done)|fail)) ?_)|simp only [WL,WM,Nat.reduceAdd,true_and,reduceIte,Bool.false_eq_true,Tryz.results87]|(with_reducible first|refine y_loadA (hK:=?_)|refine y_storeA (hK:=?_))|((with_reducible refine resL_id ?_);apply res_cct (hf:=Tryz.results87);exact y_load2;exact y_load2)|((with_reducible apply phE_intro);intro σq hq)|(with_reducible exact isT_mk)|((with_reducible apply phC_ops);rfl;rfl))
   cases f<;>exact leafL (sub_cons (sub_cons (sub_cons (sub_cons (sub_cons sub_rfl))))) (leT_eq rfl) (h1 _ _ _ hR)
  ·have hpl:=Pl.of_rest hs (hq0 rfl)
   unfold Pl at hpl
   have hl:=hs.1
   repeat' (first|( ((with_reducible refine AW_phS2 (id:=5) [0,1,2] (some 3) [([],some 4),([5],none)] mixed ?_ ?_);kernel_rfl))|( with_reducible refine phQ_mk (has2 (by first|(simp;done)|fail) (by first|(simp;done)|fail)) ?_)|simp only [WL,WM,Nat.reduceAdd,Nat.reduceLT,Nat.reduceEqDiff,true_and,reduceIte,T131,fR fl133_2,cok103,cok104,Tryz.results87]|(with_reducible first|refine andA (hb:=?_)|refine y_loadA (hK:=?_)|refine y_storeA (hK:=?_)|refine cD (jTraitS (p:=q') hs ⟨by omega,by omega⟩ (fun v' hv=>?_) (fun hv=>?_) (fun cs hv=>?_))|refine cD (jOn hs (trait_on hs hv) (fun q2 hq2=>?_) (fun hq2=>?_) (fun hq2=>?_)))|((with_reducible refine resL_id ?_);apply res_cct (hf:=Tryz.results87);exact y_load2;exact y_load2)|((with_reducible apply phE_intro);intro σq hq)|(with_reducible exact isT_mk)|((with_reducible apply phC_ops);rfl;rfl))
   all_goals first
    | exact leafL (sub_cons (sub_cons (sub_cons (sub_cons (sub_cons sub_rfl))))) (leT_eq rfl) (h1 _ _ _ (hR.trans (traitsG_end hv)))
    | exact leafP (sub_cons (sub_cons (sub_cons (sub_cons (sub_cons sub_rfl))))) rfl (h2 2 (hR.trans (traitsG_bad hv)))
    | skip
   all_goals
    have hem:=trait_em hv
    obtain ⟨f',hf',hstep⟩:=traitsG_step (n:=n) hv hf
    rw [hq2] at hstep
    first
     | exact ⟨(v',q2,true),St_le_same leA id,⟨f',hf',hR.trans hstep,fun _=>(onF_q hs hq2).2.1⟩,hem⟩
     | exact ⟨(v',(0,0),false),St_le_same leA id,⟨f',hf',hR.trans hstep,fun h=>by cases h⟩,hem⟩
     | exact leafP (sub_cons (sub_cons (sub_cons (sub_cons (sub_cons sub_rfl))))) rfl (h2 7 (hR.trans hstep))
 ·
  rename_i c3 c4 c5 c7
  refine loop_by (fun z:TrV × (Int × Int) × Bool=>⟨(JP bj::PLA p::.any::JP c3::JP c4::JP c5::B false::JP c7::JP b::B z.2.2::.any::.any::.any::.any::.any::.any::.any::.any::.any::.any::.any::.any::.any::.any::.any::.any::.any::.any::.any::.any::.any::.any::[]),.obj b [I z.2.1.1,I z.2.1.2]::.obj c7 (TrC z.1)::.obj c5 [I 0,I 0]::.obj c4 (TrC tr0)::.obj c3 [I p.1,I p.2]::σ,true,[]⟩) (fun z=>∃ f,emN z.1≤f∧traitsF ls n p=traitsG ls n f z.1 z.2.1 z.2.2∧(z.2.2=true→0 < (restF ls z.2.1).length)) (fun z=>emN z.1) (tr0,(0,0),false) (St_le_same leA id) ⟨2,emN_le _,by unfold traitsF;rw [hq];rfl,fun h=>by cases h⟩ ?_
  rintro ⟨v,q',ok⟩ ⟨f,hf,hR,hq0⟩
  dsimp only at hf hR hq0 ⊢
  cases ok
  ·skip
   repeat' (first|( ((with_reducible refine AW_phS2 (id:=5) [0,1,2] (some 3) [([],some 4),([5],none)] mixed ?_ ?_);kernel_rfl))|( with_reducible refine phQ_mk (has2 (by first|(simp;done)|fail) (by first|(simp;done)|fail)) ?_)|simp only [WL,WM,Nat.reduceAdd,true_and,reduceIte,Bool.false_eq_true,Tryz.results87]|(with_reducible first|refine y_loadA (hK:=?_)|refine y_storeA (hK:=?_))|((with_reducible refine resL_id ?_);apply res_cct (hf:=Tryz.results87);exact y_load2;exact y_load2)|((with_reducible apply phE_intro);intro σq hq)|(with_reducible exact isT_mk)|((with_reducible apply phC_ops);rfl;rfl))
   cases f<;>exact leafL (sub_cons (sub_cons (sub_cons (sub_cons (sub_cons sub_rfl))))) (leT_eq rfl) (h1 _ _ _ hR)
  ·have hpl:=Pl.of_rest hs (hq0 rfl)
   unfold Pl at hpl
   have hl:=hs.1
   repeat' (first|( ((with_reducible refine AW_phS2 (id:=5) [0,1,2] (some 3) [([],some 4),([5],none)] mixed ?_ ?_);kernel_rfl))|( with_reducible refine phQ_mk (has2 (by first|(simp;done)|fail) (by first|(simp;done)|fail)) ?_)|simp only [WL,WM,Nat.reduceAdd,Nat.reduceLT,Nat.reduceEqDiff,true_and,reduceIte,T131,fR fl133_2,cok103,cok104,Tryz.results87]|(with_reducible first|refine andA (hb:=?_)|refine y_loadA (hK:=?_)|refine y_storeA (hK:=?_)|refine cD (jTraitS (p:=q') hs ⟨by omega,by omega⟩ (fun v' hv=>?_) (fun hv=>?_) (fun cs hv=>?_))|refine cD (jOn hs (trait_on hs hv) (fun q2 hq2=>?_) (fun hq2=>?_) (fun hq2=>?_)))|((with_reducible refine resL_id ?_);apply res_cct (hf:=Tryz.results87);exact y_load2;exact y_load2)|((with_reducible apply phE_intro);intro σq hq)|(with_reducible exact isT_mk)|((with_reducible apply phC_ops);rfl;rfl))
   all_goals first
    | exact leafL (sub_cons (sub_cons (sub_cons (sub_cons (sub_cons sub_rfl))))) (leT_eq rfl) (h1 _ _ _ (hR.trans (traitsG_end hv)))
    | exact leafP (sub_cons (sub_cons (sub_cons (sub_cons (sub_cons sub_rfl))))) rfl (h2 2 (hR.trans (traitsG_bad hv)))
    | skip
   all_goals
    have hem:=trait_em hv
    obtain ⟨f',hf',hstep⟩:=traitsG_step (n:=n) hv hf
    rw [hq2] at hstep
    first
     | exact ⟨(v',q2,true),St_le_same leA id,⟨f',hf',hR.trans hstep,fun _=>(onF_q hs hq2).2.1⟩,hem⟩
     | exact ⟨(v',(0,0),false),St_le_same leA id,⟨f',hf',hR.trans hstep,fun h=>by cases h⟩,hem⟩
     | exact leafP (sub_cons (sub_cons (sub_cons (sub_cons (sub_cons sub_rfl))))) rfl (h2 7 (hR.trans hstep))
 ·exact leafP (sub_cons (sub_cons (sub_cons (sub_cons sub_rfl)))) rfl (h2 7 (by unfold traitsF;rw [hq]))
def signL:List Int:=[45,63,58,44,91,93,123,125,35,38,42,33,124,62,39,34,37,64,96]
def signI (c:Int):Bool:=decide (c∈signL)
theorem sign_mem {s:ByteArray} (h:bytesI s=signL) (c:Int):decide (c∈bytesI s)=signI c:=by rw [h];rfl
theorem cSign {c:Int} (hK:K (.ret (B (signI c))) σ):ACallF κ Tryz.prog 184 [I c] σ K:=by
 refine ACallF.dropL (ACallF_intro Tryz.func184 rfl ?_)
 simp only [Tryz.ntmps184]
 repeat' (first|simp only [WL,WM,Nat.reduceAdd,Nat.reduceSub,true_and,cok191,Tryz.results184]|with_reducible refine cD (among ?_ ?_))
 ·decide
 ·exact leafL sub_rfl (leT_eq (congrArg B (sign_mem (by decide) c))) hK
def safeI (c:Int) (fl:Bool):Bool:=printI c && !blankI c && c != 10 && c != 13 && c != 65279 && !(fl && flowI c)
theorem pSafe {c:Int}{fl:Bool} (hK:K (.ret (B (safeI c fl))) σ):ACallF κ Tryz.prog 211 [I c,B fl] σ K:=by
 unfold safeI at hK
 refine ACallF.dropL (ACallF_intro Tryz.func211 rfl ?_)
 simp only [Tryz.ntmps211]
 repeat' (first|simp only [WL,intF,WM,reduceCtorEq,WLb,Nat.reduceAdd,Nat.reduceSub,Bool.not_true,Bool.not_false,true_and,reduceIte,Bool.false_eq_true,cok72,cok154,cok165,Tryz.results211]|(with_reducible first|refine cD (Blank ?_)|refine cD (cFlow ?_)|refine cD (Print ?_))|((with_reducible first|refine grd_cases (fun h=>?_) (fun h=>?_)|refine condC_split (fun h=>?_) (fun h=>?_))<;>(try simp only [h])<;>(try simp only [NR_,NRb] at h)))
 all_goals exact leafL sub_rfl (leT_eq (congrArg B (by simp [*]))) hK
def safeAt (l:List Int) (i:Nat) (fl:Bool):Bool:=decide (i < l.length) && safeI (l.getD i 0) fl
theorem pSafeAt {l:List Int}{i:Nat}{fl:Bool} (hl:l.length≤1000000000) (hi:i≤1000000000) (hK:K (.ret (B (safeAt l i fl))) σ):ACallF κ Tryz.prog 183 [SI o l,I i,B fl] σ K:=by
 unfold safeAt at hK
 refine ACallF.dropL (ACallF_intro Tryz.func183 rfl ?_)
 simp only [Tryz.ntmps183]
 repeat' (first|simp only [WL,intF,WM,reduceCtorEq,WLb,Nat.reduceAdd,Nat.reduceSub,Bool.not_true,true_and,reduceIte,Bool.false_eq_true,T3,T22,cok211,Tryz.results183]|simp (disch:=first|omega|(simp only [LN_];omega)) only [getI]|(with_reducible first|refine andA (hb:=?_)|refine cD (pSafe ?_))|((with_reducible first|refine grd_cases (fun h=>?_) (fun h=>?_)|refine condC_split (fun h=>?_) (fun h=>?_))<;>(try simp only [h])<;>(try simp only [NR_,NRb] at h)))
 all_goals exact leafL sub_rfl (leT_eq (congrArg B (by simp;try omega))) hK
def beginsI (l:List Int) (fl:Bool):Bool :=
 safeAt l 0 fl && (if l.getD 0 0=45∨l.getD 0 0=63∨l.getD 0 0=58 then safeAt l 1 fl else !signI (l.getD 0 0))
theorem safe_lt {l:List Int}{i:Nat}{fl:Bool} (h:safeAt l i fl=true):i < l.length:=by
 unfold safeAt at h
 simp only [Bool.and_eq_true,decide_eq_true_eq] at h
 exact h.1
theorem pBegins {l:List Int}{fl:Bool} (hl:l.length≤1000000000) (hK:K (.ret (B (beginsI l fl))) σ):ACallF κ Tryz.prog 145 [SI o l,B fl] σ K:=by
 unfold beginsI at hK
 cases h0:safeAt l 0 fl
 ·rw [h0] at hK
  refine ACallF.dropL (ACallF_intro Tryz.func145 rfl ?_)
  simp only [Tryz.ntmps145]
  repeat' (first|simp only [WL,WM,Nat.reduceAdd,Nat.reduceSub,Nat.reduceLeDiff,Bool.not_false,true_and,cok183,Tryz.results145,h0]|with_reducible refine cD (pSafeAt (i:=0) ?_ ?_ ?_)|omega)
  all_goals exact leafL sub_rfl (leT_eq rfl) hK
 ·rw [h0] at hK
  have h1:=safe_lt h0
  refine ACallF.dropL (ACallF_intro Tryz.func145 rfl ?_)
  simp only [Tryz.ntmps145]
  repeat' (first|simp only [WL,intF,WM,Int.reduceToNat,reduceCtorEq,WLb,Nat.reduceAdd,Nat.reduceSub,Nat.reduceLeDiff,Bool.not_true,true_and,T3,T22,cok183,cok184,Tryz.results145,h0]|simp (disch:=first|omega|(simp only [LN_];omega)) only [getI,getI]|(with_reducible first|refine andA (hb:=?_)|refine cD (pSafeAt (i:=0) ?_ ?_ ?_)|refine cD (pSafeAt (i:=1) ?_ ?_ ?_)|refine cD (cSign ?_))|((with_reducible first|refine grd_cases (fun h=>?_) (fun h=>?_)|refine condC_split (fun h=>?_) (fun h=>?_))<;>(try simp only [h])<;>(try simp only [NR_,NRb] at h))|omega)
  all_goals first
   | (rw [if_pos (by first|exact .inl (by assumption)|exact .inr (.inl (by assumption))|exact .inr (.inr (by assumption)))] at hK;exact leafL sub_rfl (leT_eq rfl) hK)
   | (rw [if_neg (by simp only [*];decide)] at hK;exact leafL sub_rfl (leT_eq (congrArg B (by simp [*]))) hK)
def stopC (fl:Bool) (c:Int):Bool:=c == 58 || c == 35 || (fl && flowI c)
theorem stopC_f {fl:Bool}{c:Int} (h1:¬c=58) (h2:¬c=35) (h3:fl=false∨flowI c=false):stopC fl c=false:=by
 unfold stopC;rcases h3 with h|h<;>simp [h1,h2,h]
theorem stopC_t {fl:Bool}{c:Int} (h:c=58∨c=35∨(fl=true∧flowI c=true)):stopC fl c=true:=by
 unfold stopC;rcases h with h|h|⟨h1,h2⟩<;>simp [*]
def stopsN (fl:Bool):Nat→List Int→List Nat
 | _,[]=>[]
 | i,c::l=>if stopC fl c then i::stopsN fl (i+1) l else stopsN fl (i+1) l
abbrev stopsAt (l:List Int) (fl:Bool) (i:Nat):List Nat:=stopsN fl i (l.drop i)
theorem stops_end {l:List Int}{fl:Bool}{i:Nat} (h:l.length≤i):stopsAt l fl i=[]:=by
 rw [stopsAt,List.drop_eq_nil_of_le h];rfl
theorem stops_in {l:List Int}{fl:Bool}{i:Nat} (h:i < l.length):stopsAt l fl i=if stopC fl (l.getD i 0) then i::stopsAt l fl (i+1) else stopsAt l fl (i+1):=by
 rw [stopsAt,List.drop_eq_getElem_cons h,List.getD_eq_getElem?_getD,List.getElem?_eq_getElem h]
 rfl
abbrev stopsA (l:List Int) (fl:Bool) (i:Nat):List (List AV):=(stopsAt l fl i).map fun (i:Nat)=>[I i]
theorem pPoints {l:List Int}{fl:Bool} (hK:∀ b1 b2,K (.ret (.raw (.func (.func 228) #[] #[.pointer (some ⟨b1,0,none⟩),.pointer (some ⟨b2,0,none⟩)]))) (.obj b2 [B fl]::.obj b1 [SI o l]::σ)):ACallF κ Tryz.prog 220 [SI o l,B fl] σ K:=by
 refine ACallF.dropL (ACallF_intro Tryz.func220 rfl ?_)
 simp only [Tryz.ntmps220]
 repeat' (first|simp only [WL,WM,Nat.reduceAdd,Nat.reduceSub,true_and,Tryz.results220]|with_reducible refine y_box (hK:=fun b=>?_))
 exact leafL sub_rfl (leT_eq rfl) (hK _ _)
theorem pPointsIt {b1 b2 L : Nat} {l : List Int} {fl : Bool} (hl : l.length ≤ 1000000000) (hI : Iter κ Tryz.prog L K (stopsA l fl 0) σ) :
    ACallF κ Tryz.prog 228 [.raw (.func (.yield L) #[] #[]),.raw (.pointer (some ⟨b1,0,none⟩)),.raw (.pointer (some ⟨b2,0,none⟩))] (.obj b2 [B fl]::.obj b1 [SI o l]::σ) K:=by
  refine ACallF.dropL (ACallF_intro Tryz.func228 rfl ?_)
  simp only [Tryz.ntmps228]
  repeat' (first|simp only [WL,WM,Nat.reduceAdd,Nat.reduceSub,true_and,T22]|with_reducible refine y_load (hK:=?_))
  refine loop_by (fun x:Nat × List Res=>⟨(.raw (.func (.yield L) #[] #[])::.raw (.pointer (some ⟨b1,0,none⟩))::.raw (.pointer (some ⟨b2,0,none⟩))::.any::.any::.any::SI o l::I l.length::I x.1::.any::.any::.any::.any::.any::.any::.any::.any::.any::.any::.any::.any::.any::.any::.any::.any::.any::.any::.any::.any::.any::.any::.any::.any::[]),.obj b2 [B fl]::.obj b1 [SI o l]::x.2,true,[]⟩) (fun x=>x.1≤l.length∧Iter κ Tryz.prog L K (stopsA l fl x.1) x.2) (fun x=>l.length - x.1) (0,σ) (St_le_same leA id) ⟨Nat.zero_le _,hI⟩ ?_
  rintro ⟨k,σ'⟩ ⟨h1,h2⟩
  dsimp only at h1 h2 ⊢
  rcases Nat.lt_or_ge k l.length with hk|hk
  · rw [stopsA,stops_in hk] at h2
    cases fl
    all_goals
      repeat' (first|simp only [WL,intF,WM,reduceCtorEq,WLb,Nat.reduceAdd,Bool.not_true,Bool.not_false,true_and,reduceIte,Bool.false_eq_true,T3,T22,cok154,Tryz.results228]|simp (disch:=first|omega|(simp only [LN_];omega)) only [wrap_id,getI,getI]|(with_reducible first|refine andA (hb:=?_)|refine y_load (hK:=?_)|refine cD (cFlow ?_))|((with_reducible first|refine grd_cases (fun h=>?_) (fun h=>?_)|refine condC_split (fun h=>?_) (fun h=>?_))<;>(try simp only [h])<;>(try simp only [NR_,NRb] at h))|omega)
    all_goals first
      | (rw [stopC_f (by assumption) (by assumption) (by first|exact .inl rfl|exact .inr (by assumption)),if_neg Bool.false_ne_true] at h2
         exact ⟨(k+1,σ'),St_le_same leA id,⟨hk,h2⟩,by dsimp only;omega⟩)
      | skip
    all_goals
      rw [stopC_t (by first|exact .inl (by assumption)|exact .inr (.inl (by assumption))|exact .inr (.inr ⟨rfl,by assumption⟩)),if_pos rfl,List.map_cons] at h2
      refine callYD_iter [.obj b2 [B _],.obj b1 [SI o l]] (leL_one le_rfl) h2 (fun σ3 h=>?_) (fun σ3 h=>?_) (fun c σ3 h=>?_)
      · skip
        repeat' (first|simp only [WL,intF,WM,ne_eq,reduceCtorEq,not_false_eq_true,Bool.not_true,reduceIte]|simp (disch:=first|omega|(simp only [LN_];omega)) only [wrap_id])
        exact ⟨(k+1,σ3),St_le_same leA id,⟨hk,h⟩,by dsimp only;omega⟩
      · skip
        repeat' (first|simp only [WL,WM,Bool.not_false,true_and,reduceIte,Tryz.results228])
        exact leafL (sub_cons (sub_cons sub_rfl)) (leT_eq rfl) h
      · skip
        repeat' (first|simp only [WL,WM,true_and])
        exact leafP (sub_cons (sub_cons sub_rfl)) rfl h
  · rw [stopsA,stops_end hk] at h2
    repeat' (first|simp only [WL,intF,WM,reduceCtorEq,WLb,Nat.reduceAdd,Bool.not_true,Bool.not_false,true_and,reduceIte,Bool.false_eq_true,T3,T22,cok154,Tryz.results228]|simp (disch:=first|omega|(simp only [LN_];omega)) only [wrap_id,getI,getI]|(with_reducible first|refine andA (hb:=?_)|refine y_load (hK:=?_)|refine cD (cFlow ?_))|((with_reducible first|refine grd_cases (fun h=>?_) (fun h=>?_)|refine condC_split (fun h=>?_) (fun h=>?_))<;>(try simp only [h])<;>(try simp only [NR_,NRb] at h))|omega)
    exact leafL (sub_cons (sub_cons sub_rfl)) (leT_eq rfl) h2
def goesOn (l:List Int) (fl:Bool) (i:Nat):Bool:=(l.getD i 0 == 58 && safeAt l (i+1) fl) || (l.getD i 0 == 35 && (i == 0 || !blankI (l.getD (i - 1) 0)))
def stopL (l:List Int) (fl:Bool):List Nat→Nat
 | []=>l.length
 | i::r=>if goesOn l fl i then stopL l fl r else i
def stopI (l:List Int) (fl:Bool):Nat:=stopL l fl (stopsAt l fl 0)
theorem stopsN_lt {fl:Bool}:∀ {l:List Int}{i j:Nat},j∈stopsN fl i l→i≤j∧j < i+l.length
 | [],_,_,h=>by cases h
 | c::l,i,j,h=>by
  unfold stopsN at h
  split at h
  ·rcases List.mem_cons.1 h with rfl|h
   ·simp
   ·have:=stopsN_lt h;simp only [List.length_cons];omega
  ·have:=stopsN_lt h;simp only [List.length_cons];omega
theorem stopL_le {l:List Int}{fl:Bool}:∀ {r:List Nat},(∀ j∈r,j < l.length)→stopL l fl r≤l.length
 | [],_=>Nat.le_refl _
 | i::r,h=>by
  unfold stopL
  split
  ·exact stopL_le (fun j hj=>h j (List.mem_cons_of_mem _ hj))
  ·exact Nat.le_of_lt (h i List.mem_cons_self)
theorem stopsAt_lt {fl:Bool}{l:List Int}{j:Nat} (h:j∈stopsAt l fl 0):j < l.length:=by
 have:=stopsN_lt h;simpa using this.2
theorem stopI_le {l:List Int}{fl:Bool}:stopI l fl≤l.length:=stopL_le (fun _ h=>stopsAt_lt h)
theorem goes_t {l:List Int}{fl:Bool}{i:Nat} (h:(l.getD i 0=58∧safeAt l (i+1) fl=true)∨(l.getD i 0=35∧(i=0∨blankI (l.getD (i - 1) 0)=false))):goesOn l fl i=true:=by
 unfold goesOn
 rcases h with ⟨h1,h2⟩|⟨h1,h2|h2⟩<;>rw [h1,h2]<;>simp
theorem goes_f {l:List Int}{fl:Bool}{i:Nat} (h1:¬l.getD i 0=58∨safeAt l (i+1) fl=false) (h2:¬l.getD i 0=35∨(¬i=0∧blankI (l.getD (i - 1) 0)=true)):goesOn l fl i=false:=by
 unfold goesOn
 rw [Bool.or_eq_false_iff]
 refine ⟨?_, ?_⟩
 ·rcases h1 with h|h
  ·rw [beq_eq_false_iff_ne.2 h];rfl
  ·rw [h,Bool.and_false]
 ·rcases h2 with h|⟨h,h'⟩
  ·rw [beq_eq_false_iff_ne.2 h];rfl
  ·rw [h',beq_eq_false_iff_ne.2 h,Bool.not_true,Bool.or_false,Bool.and_false]
theorem pStop {l:List Int}{fl:Bool} (hl:l.length≤1000000) (hK:K (.ret (I (stopI l fl))) σ):ACallF κ Tryz.prog 212 [SI o l,B fl] σ K:=by
 have hl2:l.length≤1000000000:=by omega
 refine ACallF.dropL (ACallF_introA Tryz.func212 rfl ?_)
 simp only [Tryz.ntmps212]
 repeat' (first|(with_reducible first|refine AW_block ?_|refine AW_seqA (AW_seqA ?_)|refine AW_seq ?_|refine AW_runReg ?_)|simp only [WL,WM,Nat.reduceAdd,Nat.reduceSub,true_and,cok220]|(with_reducible first|refine y_load (hK:=?_)|refine y_box (hK:=fun b=>?_)|refine y_new (hK:=fun b=>?_)|refine cD (pPoints (fun pb1 pb2=>?_))))
 rename_i b1 b2
 refine range_by 228 [] [.pointer (some ⟨pb1,0,none⟩),.pointer (some ⟨pb2,0,none⟩)] (stopsA l fl 0) [.obj pb2 [B fl],.obj pb1 [SI o l]] (.obj b [I 0]::.obj b2 [B fl]::.obj b1 [SI o l]::σ)
  (fun xs τ=>∃ r:List Nat,xs=r.map (fun (i:Nat)=>[I i])∧(∀ i∈r,i < l.length)∧stopI l fl=stopL l fl r∧τ=.obj b [I 0]::.obj b2 [B fl]::.obj b1 [SI o l]::σ)
  rfl cok228 (ResW.refl _) (fun L K σ' h=>pPointsIt hl2 h) ⟨stopsAt l fl 0,rfl,fun i h=>stopsAt_lt h,rfl,rfl⟩ ?_ ?_
 ·rintro τ ⟨r,h1,h2,h3,rfl⟩
  obtain rfl:r=[]:=by cases r with
   | nil=>rfl
   | cons=>simp at h1
  repeat' (first|(with_reducible first|refine AW_seq ?_|refine AW_runRet ?_)|simp only [WL,WM,true_and,T22,Tryz.results212]|(with_reducible first|refine y_load (hK:=?_)|refine y_store (hK:=?_))|((with_reducible refine resL_id ?_);apply res_c (hf:=Tryz.results212);exact y_load1))
  exact leafL (sub_cons (sub_cons (sub_cons sub_rfl))) (leT_eq (by rw [h3];rfl)) hK
 ·rintro dd L Rr Rb hR x xs τ ⟨r,h1,h2,h3,rfl⟩
  cases r with
  | nil=>simp at h1
  | cons i r =>
  rw [List.map_cons,List.cons.injEq] at h1
  obtain ⟨rfl,rfl⟩:=h1
  have hi:=h2 i List.mem_cons_self
  refine ⟨rfl, ?_⟩
  repeat' (first|simp only [WL,WM])
  refine rngA_mk ?_
  repeat' (first|simp only [WL,intF,WM,reduceCtorEq,WLb,Nat.reduceAdd,Nat.reduceLeDiff,Bool.not_true,Bool.not_false,true_and,reduceIte,Bool.false_eq_true,T3,T22,cok72,cok183,Tryz.results212]|simp (disch:=first|omega|(simp only [LN_];omega)) only [wrap_id,getI,getI]|(with_reducible first|refine andA (hb:=?_)|refine y_load (hK:=?_)|refine y_store (hK:=?_)|refine cD (pSafeAt (i:=i+1) ?_ ?_ ?_)|refine cD (Blank ?_))|((with_reducible first|refine grd_cases (fun h=>?_) (fun h=>?_)|refine condC_split (fun h=>?_) (fun h=>?_))<;>(try simp only [h])<;>(try simp only [NR_,NRb] at h))|omega)
  all_goals
   have e1:((i:Int) - 1).toNat=i - 1:=by omega
   try simp only [e1] at h
  all_goals first
   | exact ⟨_,resS_rfl,r,rfl,fun j hj=>h2 j (List.mem_cons_of_mem _ hj),h3.trans (if_pos (goes_t (by first|exact .inl ⟨by assumption,by assumption⟩|exact .inr ⟨by assumption,.inl (by omega)⟩|exact .inr ⟨by assumption,.inr (by assumption)⟩))),rfl⟩
   | skip
  all_goals
   have h4:goesOn l fl i=false:=goes_f (by first|exact .inl (by assumption)|exact .inr (by assumption)) (by first|exact .inl (by assumption)|exact .inr ⟨by omega,by assumption⟩)
   have h5:stopI l fl=i:=h3.trans (if_neg (by rw [h4];exact Bool.false_ne_true))
   refine ⟨_,resS_rfl, ?_⟩
   repeat' (first|((with_reducible refine resL_id ?_);apply res_c (hf:=Tryz.results212);exact y_load1))
   exact leafL (sub_cons (sub_cons (sub_cons sub_rfl))) (leT_eq (by rw [h5])) hK
def endI (l:List Int) (fl:Bool):Nat:=(backI (l.take (stopI l fl))).length
theorem endI_le {l:List Int}{fl:Bool}:endI l fl≤l.length:=by
 unfold endI
 have:=backI_le (l.take (stopI l fl))
 rw [List.length_take] at this
 omega
theorem pEnd {l:List Int}{fl:Bool} (hl:l.length≤1000000) (hK:K (.ret (I (endI l fl))) σ):ACallF κ Tryz.prog 186 [SI o l,B fl] σ K:=by
 have hst:=stopI_le (l:=l) (fl:=fl)
 refine ACallF.dropL (ACallF_introA Tryz.func186 rfl ?_)
 simp only [Tryz.ntmps186]
 repeat' (first|(with_reducible first|refine AW_seqA (AW_block ?_)|refine cut_loop ?_|refine AW_seq ?_)|simp only [WL,WM,Nat.reduceAdd,Nat.reduceSub,true_and,cok212]|with_reducible refine cD (pStop ?_ ?_)|omega)
 refine loopA (fun k:Nat=>⟨(SI o l::B fl::.any::.any::.any::I k::.any::.any::.any::.any::.any::.any::.any::.any::.any::.any::.any::.any::.any::.any::.any::.any::[]),σ,true,[]⟩) (fun k=>k≤stopI l fl∧endI l fl=(backI (l.take k)).length) (fun k=>k) (stopI l fl) (St_le_same leA id) ⟨Nat.le_refl _,rfl⟩ ?_
 rintro k ⟨h1,h2⟩
 have e1:0 < k→((k:Int) - 1).toNat=k - 1:=fun _=>by omega
 have e2:(l.take k).length=k:=by rw [List.length_take];omega
 have e3:0 < k→(l.take k).getD (k - 1) 0=l.getD (k - 1) 0:=fun h=>by
  simp only [List.getD_eq_getElem?_getD]
  rw [List.getElem?_take_of_lt (by omega)]
 repeat' (first|(with_reducible first|refine AW_block ?_|refine AW_seqA (AW_seqA ?_)|refine AW_seq ?_|refine AW_runReg ?_|refine AW_runCond ?_|refine AW_runRet ?_)|simp only [WL,intF,WM,reduceCtorEq,WLb,Nat.reduceAdd,Bool.not_true,true_and,reduceIte,Bool.false_eq_true,T3,T22,cok72,Tryz.results186]|simp (disch:=first|omega|(simp only [LN_];omega)) only [wrap_id,getI,getI]|(with_reducible first|refine andA (hb:=?_)|refine cD (Blank ?_))|((with_reducible first|refine grd_cases (fun h=>?_) (fun h=>?_)|refine condC_split (fun h=>?_) (fun h=>?_))<;>(try simp only [h])<;>(try simp only [NR_,NRb] at h)))
 ·rw [e1 (by omega)] at h
  refine ⟨k - 1,St_le_same leA id,⟨by omega, ?_⟩,by omega⟩
  rw [h2,backI_step (by omega) (by rw [e2,e3 (by omega)];exact h),e2,List.take_take]
  congr 3;omega
 ·rw [e1 (by omega)] at h
  exact leafL sub_rfl (leT_eq (by rw [h2,backI_stop (by omega) (by rw [e2,e3 (by omega)];exact h),e2])) hK
 ·obtain rfl:k=0:=by omega
  exact leafL sub_rfl (leT_eq (by rw [h2];rfl)) hK
def keyI (l:List Int) (fl:Bool):Int:=if stopI l fl < l.length∧l.getD (stopI l fl) 0=58 then stopI l fl else -1
theorem pKey {l:List Int}{fl:Bool} (hl:l.length≤1000000) (hK:K (.ret (I (keyI l fl))) σ):ACallF κ Tryz.prog 187 [SI o l,B fl] σ K:=by
 have hst:=stopI_le (l:=l) (fl:=fl)
 unfold keyI at hK
 refine ACallF.dropL (ACallF_intro Tryz.func187 rfl ?_)
 simp only [Tryz.ntmps187]
 repeat' (first|simp only [WL,intF,WM,reduceCtorEq,WLb,Nat.reduceAdd,Nat.reduceSub,Bool.not_true,true_and,reduceIte,Bool.false_eq_true,T3,T22,cok212,Tryz.results187]|simp (disch:=first|omega|(simp only [LN_];omega)) only [getI,getI]|(with_reducible first|refine andA (hb:=?_)|refine cD (pStop ?_ ?_))|((with_reducible first|refine grd_cases (fun h=>?_) (fun h=>?_)|refine condC_split (fun h=>?_) (fun h=>?_))<;>(try simp only [h])<;>(try simp only [NR_,NRb] at h))|omega)
 all_goals first
  | (rw [if_pos ⟨by omega,by assumption⟩] at hK;exact leafL sub_rfl (leT_eq rfl) hK)
  | (rw [if_neg (by omega)] at hK;exact leafL sub_rfl (leT_eq rfl) hK)
end Go.Proofs.YthkabaiamcjdbaaGreat
/-
 Plain specifications for chapter 8: texts between single quotes. No program in sight.
-/

namespace Go.Abs
def und:List Int→List Int
 | []=>[]
 | [c]=>[c]
 | c::d::r=>if c=39∧d=39 then 39::und r else c::und (d::r)
def endG:Nat→List Int→Int × Bool
 | _,[]=>(0,false)
 | k,[c]=>if c=39 then (k,true) else (0,false)
 | k,c::d::r=>if c=39 then (if d=39 then endG (k+2) r else (k,true)) else endG (k+1) (d::r)
theorem und_two {r:List Int}:und (39::39::r)=39::und r:=by simp [und]
theorem und_lone {c d:Int}{r:List Int} (h:¬(c=39∧d=39)):und (c::d::r)=c::und (d::r):=by simp [und,h]
theorem und_len:∀ l:List Int,(und l).length≤l.length
 | []=>by simp [und]
 | [c]=>by simp [und]
 | c::d::r=>by
  have h1:=und_len r
  have h2:=und_len (d::r)
  unfold und
  split<;>simp only [List.length_cons] at *<;>omega
end Go.Abs
