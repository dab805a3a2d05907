/-
  Texts Ni, one behind the other.
-/
import Derived.Test.YthkabaiamcjdbaaGreatG33
set_option linter.unusedVariables false
set_option linter.unusedSimpArgs false
set_option maxHeartbeats 16000000
/-
 Walks: chapter 14's law ParserBehind.
-/


namespace Go.Proofs.YthkabaiamcjdbaaGreat
open Go.Abs
variable {κ:Ctx} {σ:List Res} {K:Ret→List Res→Prop} {o o':Option (Option (Nat × Nat))}
set_option maxRecDepth 4000 in
theorem bT_lt (a:Int):bT a < 5:=by show (a / 8 % 8 % 5).toNat < 5;omega
set_option maxRecDepth 4000 in
theorem bh_and7 {a:Int}:andI a 7=a % 8:=andI_mod (a:=a) 3 (by decide)
set_option maxRecDepth 4000 in
theorem bh_rem (a:Int):(if (5:Int)=0 then none else some (Value.int .i64 ((a % 8).tmod 5)))=some (Value.int .i64 ((a % 8 % 5).toNat:Nat)):=by
 rw [if_neg (by decide),Int.tmod_eq_emod_of_nonneg (by omega)]
 congr 2;omega
abbrev bhVA:List AV:=[.raw (.string (textI [97])),.raw (.string (textI [34,98,34])),.raw (.string (textI [91,99,93])),.raw (.string (textI [123,100,58,32,101,125])),.raw (.string (textI [39,102,39])),.raw (.string (textI [38,103,32,104])),.raw (.string (textI [33,105,32,106])),.raw (.string (textI []))]
set_option maxRecDepth 4000 in
theorem getV {a:Int}:bhVA.getD (a % 8).toNat .any=.raw (.string (textI (bhV (bV a)))):=by
 have h:(a % 8).toNat < 8:=by omega
 show _=AV.raw (.string (textI (bhV (a % 8).toNat)))
 generalize (a % 8).toNat=k at *
 match k,h with
 | 0,_=>rfl
 | 1,_=>rfl
 | 2,_=>rfl
 | 3,_=>rfl
 | 4,_=>rfl
 | 5,_=>rfl
 | 6,_=>rfl
 | 7,_=>rfl
abbrev bhTA (n:Nat):List AV:=[.raw (.string (textI [])),.raw (.string (textI [32,35,32,120])),.raw (.string (textI [10,35,32,120])),.raw (.string (textI [10,10])),.raw (.string (textI (32::32::32::35::32::121::10::(pdL n++pdL n++[32,35,32,122]))))]
set_option maxRecDepth 4000 in
theorem getTl {n k:Nat} (h:k < 5):(bhTA n).getD k .any=.raw (.string (textI (bhT n k))):=by
 match k,h with
 | 0,_=>rfl
 | 1,_=>rfl
 | 2,_=>rfl
 | 3,_=>rfl
 | 4,_=>rfl
set_option maxRecDepth 4000 in
theorem pb_32:({ data:=#[32] }:ByteArray)=textI [32]:=by decide +kernel
set_option maxRecDepth 4000 in
theorem pb_10:({ data:=#[10] }:ByteArray)=textI [10]:=by decide +kernel
set_option maxRecDepth 4000 in
theorem pb_d:({ data:=#[45,32] }:ByteArray)=textI [45,32]:=by decide +kernel
set_option maxRecDepth 4000 in
theorem pb_v0:({ data:=#[97] }:ByteArray)=textI [97]:=by decide +kernel
set_option maxRecDepth 4000 in
theorem pb_v1:({ data:=#[34,98,34] }:ByteArray)=textI [34,98,34]:=by decide +kernel
set_option maxRecDepth 4000 in
theorem pb_v2:({ data:=#[91,99,93] }:ByteArray)=textI [91,99,93]:=by decide +kernel
set_option maxRecDepth 4000 in
theorem pb_v3:({ data:=#[123,100,58,32,101,125] }:ByteArray)=textI [123,100,58,32,101,125]:=by decide +kernel
set_option maxRecDepth 4000 in
theorem pb_v4:({ data:=#[39,102,39] }:ByteArray)=textI [39,102,39]:=by decide +kernel
set_option maxRecDepth 4000 in
theorem pb_v5:({ data:=#[38,103,32,104] }:ByteArray)=textI [38,103,32,104]:=by decide +kernel
set_option maxRecDepth 4000 in
theorem pb_v6:({ data:=#[33,105,32,106] }:ByteArray)=textI [33,105,32,106]:=by decide +kernel
set_option maxRecDepth 4000 in
theorem pb_t1:({ data:=#[32,35,32,120] }:ByteArray)=textI [32,35,32,120]:=by decide +kernel
set_option maxRecDepth 4000 in
theorem pb_t2:({ data:=#[10,35,32,120] }:ByteArray)=textI [10,35,32,120]:=by decide +kernel
set_option maxRecDepth 4000 in
theorem pb_t3:({ data:=#[10,10] }:ByteArray)=textI [10,10]:=by decide +kernel
set_option maxRecDepth 4000 in
theorem pb_t4:({ data:=#[32,32,32,35,32,121,10] }:ByteArray)=textI [32,32,32,35,32,121,10]:=by decide +kernel
set_option maxRecDepth 4000 in
theorem pb_z:({ data:=#[32,35,32,122] }:ByteArray)=textI [32,35,32,122]:=by decide +kernel
set_option maxRecDepth 4000 in
theorem pb_h:({ data:=#[35,32,104,101,97,100,10,10] }:ByteArray)=textI [35,32,104,101,97,100,10,10]:=by decide +kernel
set_option maxRecDepth 4000 in
theorem pb_e:({ data:=#[10,32,32,35,32,101,110,100] }:ByteArray)=textI [10,32,32,35,32,101,110,100]:=by decide +kernel
set_option maxRecDepth 4000 in
theorem rSameTwo {ra rb rca rcb ix ix2:Nat}{l:List EvV}{cs cs2:List AV} [hH:Hold σ ra ix (cellsL (l.map EVA)++cs)] [hH2:Hold σ rb ix2 (cellsL (l.map EVA)++cs2)] (hl:l.length≤1000000000) (hK:K (.ret (B true)) σ):ACallF κ Tryz.prog 15 [rowV ra 0 l.length rca,rowV rb 0 l.length rcb] σ K:=by
 have hlm:(l.map EVA).length=l.length:=List.length_map _
 have hcl:(cellsL (l.map EVA)).length=l.length * 6:=by rw [cellsL_len _ (evs_el l),hlm]
 refine ACallF.dropL (ACallF_intro Tryz.func15 rfl ?_)
 simp only [Tryz.ntmps15]
 repeat' (first|simp only [WL,intF,WM,reduceCtorEq,WLb,Nat.reduceAdd,Nat.reduceSub,true_and,T24,bne_self_eq_false])
 refine loop_by (fun i:Nat=>⟨(rowV ra 0 l.length rca::rowV rb 0 l.length rcb::.any::.any::.any::I i::.any::.any::.any::.any::.any::.any::.any::.any::.any::.any::.any::.any::.any::.any::.any::.any::.any::.any::.any::.any::[]),σ,true,[]⟩) (fun i=>i≤l.length) (fun i=>l.length - i) 0 (St_le_same leA id) (Nat.zero_le _) ?_
 intro i hi
 rcases Nat.lt_or_ge i l.length with h|h
 ·have e1:=ev_at h cs
  have e2:=ev_at h cs2
  repeat' (first|( with_reducible refine y_idx_row (hK:=?_))|( with_reducible refine y_neq_six ?_)|( with_reducible refine y_loadA (hn:=by rw [List.length_append,hcl];omega) (hK:=?_))|simp only [WL,intF,WM,ne_eq,reduceCtorEq,not_false_eq_true,true_and,T24,Tryz.results15,e1,e2,Nat.zero_add]|simp (disch:=first|omega|(simp only [LN_];omega)) only [wrap_id]|((with_reducible refine AW_drawM (id:=6) 9 mixed ?_ ?_);kernel_rfl)|(with_reducible refine dmQ_mk ?_)|((with_reducible first|refine grd_cases (fun h=>?_) (fun h=>?_)|refine condC_split (fun h=>?_) (fun h=>?_))<;>(try simp only [h])<;>(try simp only [NR_,NRb] at h))|omega)
  exact ⟨i+1,St_le_same leA id,by omega,by omega⟩
 ·repeat' (first|simp only [WL,intF,WM,ne_eq,reduceCtorEq,not_false_eq_true,true_and,T24,Tryz.results15]|((with_reducible refine AW_drawM (id:=6) 9 mixed ?_ ?_);kernel_rfl)|((with_reducible first|refine grd_cases (fun h=>?_) (fun h=>?_)|refine condC_split (fun h=>?_) (fun h=>?_))<;>(try simp only [h])<;>(try simp only [NR_,NRb] at h))|omega)
  exact leafL sub_rfl (leT_eq rfl) hK
set_option maxRecDepth 4000 in
theorem law_ParserBehind (κ:Ctx) (l:List Int) (hl:l.length≤maxLen∧∀ a∈l,IntKind.i64.min≤a∧a≤IntKind.i64.max) (n:Int) (hn:IntKind.i64.min≤n∧n≤IntKind.i64.max):ACallF κ Tryz.prog 7 [.sl 1 none (l.map fun n=>I n),I n] [] (fun r _=>r=.ret (B true)):=by
 have hmin:IntKind.i64.min = -9223372036854775808:=by decide
 have hmax:IntKind.i64.max=9223372036854775807:=by decide
 have hml:maxLen=9223372036854775807:=by decide
 have hl0:=hl.1
 rw [hmin,hmax] at hn
 rw [hml] at hl0
 clear hl
 by_cases hr:(1≤l.length∧l.length≤15)∧0≤n∧n≤8
 ·obtain ⟨n,rfl⟩:∃ k:Nat,n=k:=⟨n.toNat,by omega⟩
  obtain ⟨⟨r0,r1⟩,r2,r3⟩:=hr
  refine ACallF.dropL (ACallF_introA Tryz.func7 rfl ?_)
  simp only [Tryz.ntmps7]
  repeat' (first|(with_reducible first|refine AW_block ?_|refine cut_loop ?_|refine AW_seqA (AW_seqA ?_)|refine AW_seq ?_|refine AW_runReg ?_|refine AW_runCond ?_)|simp only [WL,intF,WM,reduceCtorEq,WLb,Nat.reduceAdd,Nat.reduceSub,Bool.not_true,Bool.not_false,true_and,reduceIte,Bool.false_eq_true,T22,cok10,Tryz.results7,lf_e]|with_reducible refine cD (lAlive4 ?_)|((with_reducible first|refine grd_cases (fun h=>?_) (fun h=>?_)|refine condC_split (fun h=>?_) (fun h=>?_))<;>(try simp only [h])<;>(try simp only [NR_,NRb] at h))|omega)
  refine loopA (fun i:Nat=>⟨(.sl 1 none (l.map fun n=>I n)::I n::.any::.any::.any::B true::.raw (.string (textI (pdL i)))::I i::.any::.any::.any::.any::.any::.any::.any::.any::.any::.any::.any::.any::.any::.any::.any::.any::.any::.any::.any::.any::.any::.any::.any::.any::.any::.any::.any::.any::.any::.any::.any::.any::.any::.any::.any::.any::.any::.any::.any::.any::.any::.any::.any::.any::.any::.any::.any::.any::.any::.any::.any::.any::.any::.any::.any::.any::.any::.any::.any::.any::.any::.any::.any::.any::.any::.any::.any::.any::.any::.any::.any::.any::.any::.any::.any::.any::.any::.any::.any::.any::.any::.any::.any::.any::.any::.any::.any::.any::.any::.any::.any::.any::.any::.any::.any::.any::.any::.any::.any::.any::.any::.any::.any::.any::.any::.any::.any::.any::.any::.any::.any::.any::.any::.any::[]),[],true,[]⟩) (fun i=>i≤n) (fun i=>n - i) 0 (St_le_same leA id) (Nat.zero_le _) ?_
  intro i hi
  have hpl:(pdL i).length=i:=List.length_replicate
  rcases Nat.lt_or_ge i n with hin|hin
  ·skip
   repeat' (first|(with_reducible first|refine AW_seqA (AW_block ?_)|refine AW_block ?_|refine cut_loop ?_|refine AW_seqA (AW_seqA ?_)|refine AW_seq ?_|refine AW_runReg ?_|refine AW_runCond ?_)|simp only [WL,intF,strF,WM,ne_eq,reduceCtorEq,not_false_eq_true,pb_32,textI_app]|simp (disch:=first|omega|(simp only [LN_];omega)) only [wrap_id,str_addT2]|((with_reducible first|refine grd_cases (fun h=>?_) (fun h=>?_)|refine condC_split (fun h=>?_) (fun h=>?_))<;>(try simp only [h])<;>(try simp only [NR_,NRb] at h))|omega)
   exact ⟨i+1,St_le_same (by simp only [pdL,List.replicate_succ'];exact leA) id,hin,by omega⟩
  ·obtain rfl:i=n:=by omega
   repeat' (first|(with_reducible first|refine AW_seqA (AW_block ?_)|refine AW_block ?_|refine cut_loop ?_|refine AW_seqA (AW_seqA ?_)|refine AW_seq ?_|refine AW_runReg ?_|refine AW_runCond ?_)|simp only [WL,intF,strF,WM,ne_eq,reduceCtorEq,not_false_eq_true]|((with_reducible first|refine grd_cases (fun h=>?_) (fun h=>?_)|refine condC_split (fun h=>?_) (fun h=>?_))<;>(try simp only [h])<;>(try simp only [NR_,NRb] at h))|omega)
   refine loopA (fun m:Nat=>⟨(.sl 1 none (l.map fun n=>I n)::I i::.any::.any::.any::B true::.raw (.string (textI (pdL i)))::.any::.raw (.string (textI (bhX i (bhs0 (l.take m)))))::.raw (.string (textI (bhX i (bhs (l.take m)))))::I m::.any::.any::.any::.any::.any::.any::.any::.any::.any::.any::.any::.any::.any::.any::.any::.any::.any::.any::.any::.any::.any::.any::.any::.any::.any::.any::.any::.any::.any::.any::.any::.any::.any::.any::.any::.any::.any::.any::.any::.any::.any::.any::.any::.any::.any::.any::.any::.any::.any::.any::.any::.any::.any::.any::.any::.any::.any::.any::.any::.any::.any::.any::.any::.any::.any::.any::.any::.any::.any::.any::.any::.any::.any::.any::.any::.any::.any::.any::.any::.any::.any::.any::.any::.any::.any::.any::.any::.any::.any::.any::.any::.any::.any::.any::.any::.any::.any::.any::.any::.any::.any::.any::.any::.any::.any::.any::.any::.any::.any::.any::.any::[]),[],true,[]⟩) (fun m=>m≤l.length) (fun m=>l.length - m) 0 (St_le_same leA id) (Nat.zero_le _) ?_
   intro m hm
   obtain ⟨g1,g2⟩:=bhs_ok (l:=l.take m) (n:=i) (by omega)
   have q1:=bhX_len (n:=i) (by omega) g1 (by simp;omega)
   have q2:=bhX_len (n:=i) (by omega) g2 (by simp;omega)
   rcases Nat.lt_or_ge m l.length with hmn|hmn
   ·have e1:bhX i (bhs0 (l.take (m+1)))=bhX i (bhs0 (l.take m))++pdL i++[45,32]++bhV (bV (l.getD m 0))++[10]:=by
     rw [take_snoc hmn]
     unfold bhs0
     rw [List.map_append]
     show bhX i (_++[(bV (l.getD m 0),0)])=_
     rw [bhX_snoc]
     simp [bhT]
    have e2:bhX i (bhs (l.take (m+1)))=bhX i (bhs (l.take m))++pdL i++[45,32]++bhV (bV (l.getD m 0))++bhT i (bT (l.getD m 0))++[10]:=by
     rw [take_snoc hmn]
     unfold bhs
     rw [List.map_append]
     show bhX i (_++[(bV (l.getD m 0),bT (l.getD m 0))])=_
     rw [bhX_snoc]
     simp
    have e3:[32,32,32,35,32,121,10]++pdL i++pdL i++[32,35,32,122]=bhT i 4:=rfl
    have hVl:(bhV (bV (l.getD m 0))).length≤6:=by unfold bhV;split<;>simp
    have hTl:(bhT i (bT (l.getD m 0))).length≤40:=by unfold bhT;split<;>simp<;>omega
    have hgv:=getV (a:=l.getD m 0)
    have hgt:=getTl (n:=i) (bT_lt (l.getD m 0))
    generalize bhX i (bhs0 (l.take m))=X0 at *
    generalize bhX i (bhs (l.take m))=X1 at *
    have hbt:(l.getD m 0 / 8 % 8 % 5).toNat=bT (l.getD m 0):=rfl
    generalize bV (l.getD m 0)=v at *
    generalize bT (l.getD m 0)=t at *
    clear g1 g2
    repeat' (first|(with_reducible first|refine AW_seqA (AW_block ?_)|refine AW_seqA (AW_seqA ?_)|refine AW_seq ?_|refine AW_runReg ?_|refine AW_runCond ?_)|simp only [WL,intF,strF,WM,Int.reduceToNat,reduceCtorEq,WLb,Nat.reduceAdd,true_and,T3,T9,T22,T39,cok12,cok13,pb_d,pb_10,pb_v0,pb_v1,pb_v2,pb_v3,pb_v4,pb_v5,pb_v6,pb_t1,pb_t2,pb_t3,pb_t4,pb_z,textI_app,fold_and,bh_and7,bh_rem,hgv,hgt,hbt,Int.reduceToNat,Int.reducePow]|simp (disch:=first|omega|(simp only [LN_];omega)) only [wrap_id,getI,getI,shr_i,str_addT2]|(with_reducible first|refine andA (hb:=?_)|refine y_bs (hK:=?_)|refine cD (lLines ?_ ?_))|((with_reducible first|refine grd_cases (fun h=>?_) (fun h=>?_)|refine condC_split (fun h=>?_) (fun h=>?_))<;>(try simp only [h])<;>(try simp only [NR_,NRb] at h))|omega)
    exact ⟨m+1,St_le_same (by rw [e1,e2];exact leA) id,hmn,by omega⟩
   ·obtain rfl:m=l.length:=by omega
    rw [List.take_length] at *
    obtain ⟨ev,k1,k2,d1,d2,d3,hA1,hA2,s1,s2,p1,p2⟩:=bh_all (l:=l) (n:=i) (by omega) r0 r1
    have hB1:Asc (bytesI (textI (bhX i (bhs0 l)))):=by rw [asc_text hA1];exact hA1
    have hB2:Asc (bytesI (textI (bhF i l))):=by rw [asc_text hA2];exact hA2
    have hb1:=asc_text hA1
    have hb2:=asc_text hA2
    have hc0:∀ LS:List Ln,Small LS→(0:Int) < LS.length→(0:Int)≤0∧0 - (lineP LS 0).1≤(lineP LS 0).2.length:=fun LS hsm hl0=>by
     have:=(hsm.at_ (i:=0) (by omega)).2.1
     refine ⟨by decide, ?_⟩
     show 0 - (LS.getD 0 (0,[])).1≤_
     omega
    have c1:=hc0 _ s1 p1
    have c2:=hc0 _ s2 p2
    clear hc0
    have hF:bhF i l=35::32::104::101::97::100::10::10::(bhX i (bhs l)++[10,32,32,35,32,101,110,100]):=rfl
    generalize bhF i l=TF at *
    generalize bhX i (bhs0 l)=T0 at *
    generalize bhX i (bhs l)=T1 at *
    generalize hL0:(readR T0).1=L0 at *
    generalize hLF:(readR TF).1=LF at *
    have hF:=hF.symm
    clear q2 g1 g2
    repeat' (first|(with_reducible first|refine AW_seqA (AW_block ?_)|refine AW_seqA (AW_seqA ?_)|refine AW_seq ?_|refine AW_runReg ?_|refine AW_runCond ?_|refine AW_runRet ?_)|simp only [WL,intF,strF,WM,reduceCtorEq,WLb,Nat.reduceAdd,Nat.reduceLT,beq_self_eq_true,true_and,reduceIte,T3,T9,T22,T39,cok12,cok13,cok14,cok15,Tryz.results7,pb_h,pb_e,textI_app,hF,hb1,hb2,hL0,hLF]|simp (disch:=first|omega|(simp only [LN_];omega)) only [wrap_id,getI,str_addT2]|(with_reducible first|refine andA (hb:=?_)|refine y_bs (hK:=?_)|refine cD (lLines hB1 ?_)|refine cD (lLines hB2 ?_)|refine callD_mk (zNodeOk0 d1 s1 ⟨by decide,p1⟩ c1 (fun rb rc cs hrc=>?_))|refine callD_mk (zNodeOk0 d2 s2 ⟨by decide,p2⟩ c2 (fun rb rc cs hrc=>?_))|refine cD (rSameTwo (l:=ev) (by omega) ?_)|refine cD (lNum4 ?_))|((with_reducible first|refine grd_cases (fun h=>?_) (fun h=>?_)|refine condC_split (fun h=>?_) (fun h=>?_))<;>(try simp only [h])<;>(try simp only [NR_,NRb] at h))|omega)
    all_goals first
     | exact leafL subA (leT_eq rfl) rfl
     | (exfalso;omega)
 ·skip
  refine ACallF.dropL (ACallF_intro Tryz.func7 rfl ?_)
  simp only [Tryz.ntmps7]
  repeat' (first|simp only [WL,intF,WM,reduceCtorEq,WLb,Nat.reduceAdd,Nat.reduceSub,Bool.not_true,Bool.not_false,true_and,reduceIte,Bool.false_eq_true,T22,cok10,Tryz.results7]|with_reducible refine cD (lAlive4 ?_)|((with_reducible first|refine grd_cases (fun h=>?_) (fun h=>?_)|refine condC_split (fun h=>?_) (fun h=>?_))<;>(try simp only [h])<;>(try simp only [NR_,NRb] at h))|omega)
  all_goals first
   | exact leafL sub_rfl (leT_eq rfl) rfl
   | (exfalso;omega)
end Go.Proofs.YthkabaiamcjdbaaGreat
