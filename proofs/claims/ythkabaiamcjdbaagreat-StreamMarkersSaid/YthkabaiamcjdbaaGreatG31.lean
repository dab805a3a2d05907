/-
  Texts Vc, one behind the other.
-/
import Derived.Test.YthkabaiamcjdbaaGreatG30
set_option linter.unusedVariables false
set_option linter.unusedSimpArgs false
set_option maxHeartbeats 16000000
/-
 Walks: chapter 15,a document.
-/


namespace Go.Proofs.YthkabaiamcjdbaaGreat
open Go.Abs
variable {κ:Ctx} {σ:List Res} {K:Ret→List Res→Prop} {o o':Option (Option (Nat × Nat))}
abbrev oO (m:Bool):EvV:=⟨1,.empty,.empty,.empty,0,m⟩
abbrev tC (d:Bool):EvV:=⟨2,.empty,.empty,.empty,0,d⟩
def fm (m d:Bool) (ev:List EvV):List EvV:=oO m::(ev++[tC d])
set_option maxRecDepth 4000 in
theorem HO {k:Int}{t:List Int} (h:¬bB k t=0):k=0:=by
 unfold bB at h
 split at h
 ·rename_i h1;exact h1.1
 ·exact absurd rfl h
set_option maxRecDepth 4000 in
theorem xh {l ev:List EvV}{m d:Bool}{b c:Nat}{cs:List AV} (h1:cs.length=c * 6) (h2:l.length+1+ev.length+1≤c) (h3:cs.take ((l.length+1+ev.length+1) * 6)=aI (l.map EVA)++aI [EVA (oO m)]++aI (ev.map EVA)++aI [EVA (tC d)]):RowR 6 (bM b 0 (l.length+1+ev.length+1) c) ((l++fm m d ev).map EVA) [.obj b cs]:=by
 have hll:((l++fm m d ev).map EVA).length=l.length+1+ev.length+1:=by simp [fm];omega
 have:=RowR.row (sz:=6) (b:=b) (c:=c) (cs:=cs) (l:=(l++fm m d ev).map EVA) (by omega) (by rw [hll];exact h2) h1 (by rw [hll,h3];simp [fm,aI])
 rwa [hll] at this
set_option maxRecDepth 4000 in
theorem lI {l ev:List EvV}{L:List AV}{m d:Bool}{b c:Nat}{cs cs1 cs2 cs3:List AV} (hmL:l.map EVA=L) (kt:cs.take (L.length * 6)=aI L) (h1:cs1.take ((L.length + [EVA (oO m)].length) * 6)=cs.take (L.length * 6)++aI [EVA (oO m)]) (h2:cs2.take ((L.length+1+(ev.map EVA).length) * 6)=cs1.take ((L.length+1) * 6)++aI (ev.map EVA))
  (h3:cs3.take ((L.length+1+ev.length + [EVA (tC d)].length) * 6)=cs2.take ((L.length+1+ev.length) * 6)++aI [EVA (tC d)]) (hq1:cs3.length=c * 6) (hq2:L.length+1+ev.length + [EVA (tC d)].length≤c):RowR 6 (bM b 0 (L.length+1+ev.length+1) c) ((l++fm m d ev).map EVA) [.obj b cs3]:=by
 subst hmL
 rw [List.length_map] at kt h1 h2 h3 hq2 ⊢
 rw [List.length_map] at h2
 refine xh hq1 hq2 ?_
 have h3:cs3.take ((l.length+1+ev.length+1) * 6)=_:=h3
 have h1:cs1.take ((l.length+1) * 6)=_:=h1
 rw [h3,h2,h1,kt]
set_option maxRecDepth 4000 in
theorem lL {ev:List EvV}{m d:Bool}{b c:Nat}{cs1 cs2 cs3:List AV} (h1:cs1.take ([EVA (oO m)].length * 6)=aI [EVA (oO m)]) (h2:cs2.take ((1+(ev.map EVA).length) * 6)=cs1.take (1 * 6)++aI (ev.map EVA))
  (h3:cs3.take ((1+ev.length + [EVA (tC d)].length) * 6)=cs2.take ((1+ev.length) * 6)++aI [EVA (tC d)]) (hq1:cs3.length=c * 6) (hq2:1+ev.length + [EVA (tC d)].length≤c):RowR 6 (bM b 0 (1+ev.length+1) c) (([]++fm m d ev).map EVA) [.obj b cs3]:=by
 rw [List.length_map] at h2
 have h3:cs3.take ((1+ev.length+1) * 6)=_:=h3
 have h1:cs1.take (1 * 6)=_:=h1
 have:=xh (l:=[]) (ev:=ev) (m:=m) (d:=d) (b:=b) (c:=c) (cs:=cs3) hq1 (by simpa using hq2) (by rw [List.length_nil,Nat.zero_add,h3,h2,h1];rfl)
 rw [List.length_nil,Nat.zero_add] at this
 exact this
set_option maxRecDepth 4000 in
theorem Ek {pr sb:Nat}{ls:List Ln}{i k:Int}{y:AV}{l ev:List EvV}{ρ:List Res}{m d:Bool} (hR:RowR 6 y (l.map EVA) ρ) (hl:l.length≤100000000) (hs:Small ls) (hi:0≤i∧i < ls.length) (hm:decide (bB (aE ls i).1 (aE ls i).2=1)=m) (hd:iA ls i (if m=true then 3 else 0)=.ok (ev,k)) (he:0 < ev.length) (hel:ev.length≤100000000) (ht:∀ j,j < ev.length→(ev.getD j zw).t=.empty)
  (hdn:decide (k < ls.length∧bB (aE ls k).1 (aE ls k).2=2)=d) (hcl:d=true→cU ((aE ls k).2.drop 3)=true)
  (hK:∀ y' ρ',RowR 6 y' ((l++fm m d ev).map EVA) ρ'→K (.ret (I 0)) (.obj pr (SR ls (if d=true then k+1 else k) y')::(ρ'++σ))):ACallF κ Tryz.prog 59 [JP pr,JP sb] (.obj pr (SR ls i y)::(ρ++σ)) K:=by
 have hll:=hs.1
 have hx:=hs.at_ (i:=i.toNat) (by omega)
 obtain ⟨hk1,hk2,-⟩:=F2 hs hi hd
 have hxk:=fun h:k.toNat < ls.length=>hs.at_ h
 have hm3:=fun h=>mT (k:=(aE ls i).1) (t:=(aE ls i).2) h
 have hm0:=fun h=>HO (k:=(aE ls i).1) (t:=(aE ls i).2) h
 have hk3:=fun h=>mT (k:=(aE ls k).1) (t:=(aE ls k).2) h
 have hcc:(0:Int)≤(if m=true then 3 else 0)∧(if m=true then 3 else 0) - (aE ls i).1≤(aE ls i).2.length:=by
  cases m
  ·refine ⟨by decide, ?_⟩
   show 0 - (ls.getD i.toNat (0,[])).1≤((ls.getD i.toNat (0,[])).2.length:Int)
   omega
  ·have h1:=of_decide_eq_true hm
   have h2:=hm3 (by omega)
   have h4:=hm0 (by omega)
   refine ⟨by decide, ?_⟩
   show 3 - (aE ls i).1≤((aE ls i).2.length:Int)
   omega
 have hNode:=fun (σ:List Res) (K:Ret→List Res→Prop) (h:∀ rb rc cs,ev.length≤rc→K (.ret (.tup [bM rb 0 ev.length rc,I k,I 0])) (.obj rb (aI (ev.map EVA)++cs)::σ))=>H8 (κ:=κ) (σ:=σ) (K:=K) hd hs hi hcc h
 dsimp only [aE] at hm hdn hcl hm3 hm0 hk3
 have hme:(ev.map EVA).length=ev.length:=List.length_map _
 generalize hmL:l.map EVA=L at *
 have hLl:L.length=l.length:=by rw [← hmL,List.length_map]
 cases hR with
 | nil =>
  obtain rfl:l=[]:=List.map_eq_nil_iff.1 hmL
  rw [List.nil_append]
  cases m<;>cases d
  ·have h1:=of_decide_eq_false hm
   simp only [Bool.false_eq_true,if_false] at hNode hd hcc
   have h2:=of_decide_eq_false hdn
   simp only [Bool.false_eq_true,if_false] at hK
   refine ACallF.dropL (aa Tryz.func59 rfl ?_)
   simp only [Tryz.ntmps59]
   repeat' (first|simp only [WL,aD,WM,reduceCtorEq,ba,Nat.reduceAdd,Nat.reduceSub,Nat.reduceLT,Nat.reduceEqDiff,Bool.not_true,true_and,reduceIte,Bool.false_eq_true,T3,jU,fT,jb,fR eP,fR eR,fR iN,pM,gu,f7,ku,pZ,Tryz.results59]|simp (disch:=first|omega|(simp only [aT];omega)) only [aq,dN]|(with_reducible first|refine aC (hb:=?_)|refine ax (hK:=?_)|refine aO (hK:=?_)|refine cF (hK:=?_)|refine aG (hK:=?_)|refine callD_mk (hNode _ _ (fun rb2 rc2 cs2 hrc=>?_))|refine callD_mk (kW he (by omega) ht (fun b4 c4 cs4 hc4 hz4=>?_)))|( refine dY (hgood:=by rfl) (hne:=by simp) (hlen:=by simp) (hmax:=by simp [maxLen]) (hK:=fun b' c' cs' q1 q2 q3=>?_))|( refine cW (hgood:=by rfl) (hcs:=by assumption) (hn:=by first|assumption|omega|(simp;omega)) (hlen:=by first|(simp;omega)|fail) (hmax:=by first|(simp [maxLen];omega)|fail) (hK:=fun b' c' cs' q1 q2 q3=>?_))|( refine c6 (ev.map EVA) (n:=ev.length) (by simp) (dp _) (eJ rfl) (eK _) (by assumption) (by first|assumption|omega|(simp;omega)) (by simp;omega) (by simp [maxLen];omega) (fun b' c' cs' q1 q2 q3=>?_))|(with_reducible first|refine cQ (gr ?_ aW) ?_|refine cQ (dh ?_ aW) ?_|refine cQ (fF ?_ ?_ aW) ?_)|((with_reducible refine aH (id:=1) 13 mixed ?_ ?_);kernel_rfl)|((with_reducible refine dq (id:=5) [0,1,2,3,4,5,6,7,8] (some 9) [([10,11,12,13,14,15,16],none)] mixed ?_ ?_);kernel_rfl)|((with_reducible apply aQ);intro σq hq;have hqi:=cm hq;clear hq)|(with_reducible exact bU)|((with_reducible apply bA);rfl;rfl)|(with_reducible refine bR (jY (by first|(simp;done)|fail)) ?_)|((with_reducible refine aH (id:=13) 17 mixed ?_ ?_);kernel_rfl)|((with_reducible refine aH (id:=14) 12 mixed ?_ ?_);kernel_rfl)|(with_reducible refine bP ?_)|((with_reducible first|refine ai (fun h=>?_) (fun h=>?_)|refine ab (fun h=>?_) (fun h=>?_))<;>(try simp only [h])<;>(try simp only [bg,bm] at h))|omega)
   all_goals first
    | exact absurd trivial (by assumption)
    | (exfalso;omega)
    | exact ak ⟨_,List.Perm.swap _ _ _,List.Sublist.cons_cons _ (List.Sublist.cons _ (List.Sublist.cons _ (List.Sublist.refl _)))⟩ (aj rfl) (hK _ _ (lL (by assumption) (by assumption) q3 q1 q2))
    | (clear hx hxk hm3 hk3 hNode hd hcc hm0;trace_state)
  ·have h1:=of_decide_eq_false hm
   simp only [Bool.false_eq_true,if_false] at hNode hd hcc
   have h2:=of_decide_eq_true hdn
   simp only [if_true] at hK
   have h3:=hcl rfl
   have h4:=h2.2
   have h5:=h2.1
   have h6:=hk3 (by omega)
   have h7:=hxk (by omega)
   refine ACallF.dropL (aa Tryz.func59 rfl ?_)
   simp only [Tryz.ntmps59]
   repeat' (first|simp only [WL,aD,WM,reduceCtorEq,ba,Nat.reduceAdd,Nat.reduceSub,Nat.reduceLT,Nat.reduceEqDiff,Bool.not_true,beq_self_eq_true,true_and,reduceIte,Bool.false_eq_true,T3,jU,fT,jb,fR eP,fR eR,fR iN,pM,gu,f7,ku,pZ,Tryz.results59,h4,h3]|simp (disch:=first|omega|(simp only [aT];omega)) only [aq,dN]|(with_reducible first|refine aC (hb:=?_)|refine ax (hK:=?_)|refine aO (hK:=?_)|refine cF (hK:=?_)|refine aG (hK:=?_)|refine callD_mk (hNode _ _ (fun rb2 rc2 cs2 hrc=>?_))|refine callD_mk (kW he (by omega) ht (fun b4 c4 cs4 hc4 hz4=>?_)))|( refine dY (hgood:=by rfl) (hne:=by simp) (hlen:=by simp) (hmax:=by simp [maxLen]) (hK:=fun b' c' cs' q1 q2 q3=>?_))|( refine cW (hgood:=by rfl) (hcs:=by assumption) (hn:=by first|assumption|omega|(simp;omega)) (hlen:=by first|(simp;omega)|fail) (hmax:=by first|(simp [maxLen];omega)|fail) (hK:=fun b' c' cs' q1 q2 q3=>?_))|( refine c6 (ev.map EVA) (n:=ev.length) (by simp) (dp _) (eJ rfl) (eK _) (by assumption) (by first|assumption|omega|(simp;omega)) (by simp;omega) (by simp [maxLen];omega) (fun b' c' cs' q1 q2 q3=>?_))|(with_reducible first|refine cQ (gr ?_ aW) ?_|refine cQ (dh ?_ aW) ?_|refine cQ (fF ?_ ?_ aW) ?_)|((with_reducible refine aH (id:=1) 13 mixed ?_ ?_);kernel_rfl)|((with_reducible refine dq (id:=5) [0,1,2,3,4,5,6,7,8] (some 9) [([10,11,12,13,14,15,16],none)] mixed ?_ ?_);kernel_rfl)|((with_reducible apply aQ);intro σq hq;have hqi:=cm hq;clear hq)|(with_reducible exact bU)|((with_reducible apply bA);rfl;rfl)|(with_reducible refine bR (jY (by first|(simp;done)|fail)) ?_)|((with_reducible refine aH (id:=13) 17 mixed ?_ ?_);kernel_rfl)|((with_reducible refine aH (id:=14) 12 mixed ?_ ?_);kernel_rfl)|(with_reducible refine bP ?_)|((with_reducible first|refine ai (fun h=>?_) (fun h=>?_)|refine ab (fun h=>?_) (fun h=>?_))<;>(try simp only [h])<;>(try simp only [bg,bm] at h))|omega)
   all_goals first
    | exact absurd trivial (by assumption)
    | (exfalso;omega)
    | exact ak ⟨_,List.Perm.swap _ _ _,List.Sublist.cons_cons _ (List.Sublist.cons _ (List.Sublist.cons _ (List.Sublist.refl _)))⟩ (aj rfl) (hK _ _ (lL (by assumption) (by assumption) q3 q1 q2))
    | (clear hx hxk hm3 hk3 hNode hd hcc hm0;trace_state)
  ·have h1:=of_decide_eq_true hm
   simp only [if_true] at hNode hd hcc
   have h2:=of_decide_eq_false hdn
   simp only [Bool.false_eq_true,if_false] at hK
   refine ACallF.dropL (aa Tryz.func59 rfl ?_)
   simp only [Tryz.ntmps59]
   repeat' (first|simp only [WL,aD,WM,reduceCtorEq,ba,Nat.reduceAdd,Nat.reduceSub,Nat.reduceLT,Nat.reduceEqDiff,Bool.not_true,beq_self_eq_true,true_and,reduceIte,Bool.false_eq_true,T3,jU,fT,jb,fR eP,fR eR,fR iN,pM,gu,f7,ku,pZ,Tryz.results59,h1]|simp (disch:=first|omega|(simp only [aT];omega)) only [aq,dN]|(with_reducible first|refine aC (hb:=?_)|refine ax (hK:=?_)|refine aO (hK:=?_)|refine cF (hK:=?_)|refine aG (hK:=?_)|refine callD_mk (hNode _ _ (fun rb2 rc2 cs2 hrc=>?_))|refine callD_mk (kW he (by omega) ht (fun b4 c4 cs4 hc4 hz4=>?_)))|( refine dY (hgood:=by rfl) (hne:=by simp) (hlen:=by simp) (hmax:=by simp [maxLen]) (hK:=fun b' c' cs' q1 q2 q3=>?_))|( refine cW (hgood:=by rfl) (hcs:=by assumption) (hn:=by first|assumption|omega|(simp;omega)) (hlen:=by first|(simp;omega)|fail) (hmax:=by first|(simp [maxLen];omega)|fail) (hK:=fun b' c' cs' q1 q2 q3=>?_))|( refine c6 (ev.map EVA) (n:=ev.length) (by simp) (dp _) (eJ rfl) (eK _) (by assumption) (by first|assumption|omega|(simp;omega)) (by simp;omega) (by simp [maxLen];omega) (fun b' c' cs' q1 q2 q3=>?_))|(with_reducible first|refine cQ (gr ?_ aW) ?_|refine cQ (dh ?_ aW) ?_|refine cQ (fF ?_ ?_ aW) ?_)|((with_reducible refine aH (id:=1) 13 mixed ?_ ?_);kernel_rfl)|((with_reducible refine dq (id:=5) [0,1,2,3,4,5,6,7,8] (some 9) [([10,11,12,13,14,15,16],none)] mixed ?_ ?_);kernel_rfl)|((with_reducible apply aQ);intro σq hq;have hqi:=cm hq;clear hq)|(with_reducible exact bU)|((with_reducible apply bA);rfl;rfl)|(with_reducible refine bR (jY (by first|(simp;done)|fail)) ?_)|((with_reducible refine aH (id:=13) 17 mixed ?_ ?_);kernel_rfl)|((with_reducible refine aH (id:=14) 12 mixed ?_ ?_);kernel_rfl)|(with_reducible refine bP ?_)|((with_reducible first|refine ai (fun h=>?_) (fun h=>?_)|refine ab (fun h=>?_) (fun h=>?_))<;>(try simp only [h])<;>(try simp only [bg,bm] at h))|omega)
   all_goals first
    | exact absurd trivial (by assumption)
    | (exfalso;omega)
    | exact ak ⟨_,List.Perm.swap _ _ _,List.Sublist.cons_cons _ (List.Sublist.cons _ (List.Sublist.cons _ (List.Sublist.refl _)))⟩ (aj rfl) (hK _ _ (lL (by assumption) (by assumption) q3 q1 q2))
    | (clear hx hxk hm3 hk3 hNode hd hcc hm0;trace_state)
  ·have h1:=of_decide_eq_true hm
   simp only [if_true] at hNode hd hcc
   have h2:=of_decide_eq_true hdn
   simp only [if_true] at hK
   have h3:=hcl rfl
   have h4:=h2.2
   have h5:=h2.1
   have h6:=hk3 (by omega)
   have h7:=hxk (by omega)
   refine ACallF.dropL (aa Tryz.func59 rfl ?_)
   simp only [Tryz.ntmps59]
   repeat' (first|simp only [WL,aD,WM,reduceCtorEq,ba,Nat.reduceAdd,Nat.reduceSub,Nat.reduceLT,Nat.reduceEqDiff,Bool.not_true,beq_self_eq_true,true_and,reduceIte,Bool.false_eq_true,T3,jU,fT,jb,fR eP,fR eR,fR iN,pM,gu,f7,ku,pZ,Tryz.results59,h1,h4,h3]|simp (disch:=first|omega|(simp only [aT];omega)) only [aq,dN]|(with_reducible first|refine aC (hb:=?_)|refine ax (hK:=?_)|refine aO (hK:=?_)|refine cF (hK:=?_)|refine aG (hK:=?_)|refine callD_mk (hNode _ _ (fun rb2 rc2 cs2 hrc=>?_))|refine callD_mk (kW he (by omega) ht (fun b4 c4 cs4 hc4 hz4=>?_)))|( refine dY (hgood:=by rfl) (hne:=by simp) (hlen:=by simp) (hmax:=by simp [maxLen]) (hK:=fun b' c' cs' q1 q2 q3=>?_))|( refine cW (hgood:=by rfl) (hcs:=by assumption) (hn:=by first|assumption|omega|(simp;omega)) (hlen:=by first|(simp;omega)|fail) (hmax:=by first|(simp [maxLen];omega)|fail) (hK:=fun b' c' cs' q1 q2 q3=>?_))|( refine c6 (ev.map EVA) (n:=ev.length) (by simp) (dp _) (eJ rfl) (eK _) (by assumption) (by first|assumption|omega|(simp;omega)) (by simp;omega) (by simp [maxLen];omega) (fun b' c' cs' q1 q2 q3=>?_))|(with_reducible first|refine cQ (gr ?_ aW) ?_|refine cQ (dh ?_ aW) ?_|refine cQ (fF ?_ ?_ aW) ?_)|((with_reducible refine aH (id:=1) 13 mixed ?_ ?_);kernel_rfl)|((with_reducible refine dq (id:=5) [0,1,2,3,4,5,6,7,8] (some 9) [([10,11,12,13,14,15,16],none)] mixed ?_ ?_);kernel_rfl)|((with_reducible apply aQ);intro σq hq;have hqi:=cm hq;clear hq)|(with_reducible exact bU)|((with_reducible apply bA);rfl;rfl)|(with_reducible refine bR (jY (by first|(simp;done)|fail)) ?_)|((with_reducible refine aH (id:=13) 17 mixed ?_ ?_);kernel_rfl)|((with_reducible refine aH (id:=14) 12 mixed ?_ ?_);kernel_rfl)|(with_reducible refine bP ?_)|((with_reducible first|refine ai (fun h=>?_) (fun h=>?_)|refine ab (fun h=>?_) (fun h=>?_))<;>(try simp only [h])<;>(try simp only [bg,bm] at h))|omega)
   all_goals first
    | exact absurd trivial (by assumption)
    | (exfalso;omega)
    | exact ak ⟨_,List.Perm.swap _ _ _,List.Sublist.cons_cons _ (List.Sublist.cons _ (List.Sublist.cons _ (List.Sublist.refl _)))⟩ (aj rfl) (hK _ _ (lL (by assumption) (by assumption) q3 q1 q2))
    | (clear hx hxk hm3 hk3 hNode hd hcc hm0;trace_state)
 | @row rb rc cs _ h0 hn hc htk =>
  rw [List.cons_append,List.nil_append]
  cases m<;>cases d
  ·have h1:=of_decide_eq_false hm
   simp only [Bool.false_eq_true,if_false] at hNode hd hcc
   have h2:=of_decide_eq_false hdn
   simp only [Bool.false_eq_true,if_false] at hK
   refine ACallF.dropL (aa Tryz.func59 rfl ?_)
   simp only [Tryz.ntmps59]
   repeat' (first|simp only [WL,aD,WM,reduceCtorEq,ba,Nat.reduceAdd,Nat.reduceSub,Nat.reduceLT,Nat.reduceEqDiff,Bool.not_true,true_and,reduceIte,Bool.false_eq_true,T3,jU,fT,jb,fR eP,fR eR,fR iN,pM,gu,f7,ku,pZ,Tryz.results59]|simp (disch:=first|omega|(simp only [aT];omega)) only [aq,dN]|(with_reducible first|refine aC (hb:=?_)|refine ax (hK:=?_)|refine aO (hK:=?_)|refine cF (hK:=?_)|refine aG (hK:=?_)|refine callD_mk (hNode _ _ (fun rb2 rc2 cs2 hrc=>?_))|refine callD_mk (kW he (by omega) ht (fun b4 c4 cs4 hc4 hz4=>?_)))|( refine cW (hgood:=by rfl) (hcs:=by assumption) (hn:=by first|assumption|omega|(simp;omega)) (hlen:=by first|(simp;omega)|fail) (hmax:=by first|(simp [maxLen];omega)|fail) (hK:=fun b' c' cs' q1 q2 q3=>?_))|( refine c6 (ev.map EVA) (n:=ev.length) (by simp) (dp _) (eJ rfl) (eK _) (by assumption) (by first|assumption|omega|(simp;omega)) (by simp;omega) (by simp [maxLen];omega) (fun b' c' cs' q1 q2 q3=>?_))|(with_reducible first|refine cQ (gr ?_ aW) ?_|refine cQ (dh ?_ aW) ?_|refine cQ (fF ?_ ?_ aW) ?_)|((with_reducible refine aH (id:=1) 13 mixed ?_ ?_);kernel_rfl)|((with_reducible refine dq (id:=5) [0,1,2,3,4,5,6,7,8] (some 9) [([10,11,12,13,14,15,16],none)] mixed ?_ ?_);kernel_rfl)|((with_reducible apply aQ);intro σq hq;have hqi:=cm hq;clear hq)|(with_reducible exact bU)|((with_reducible apply bA);rfl;rfl)|(with_reducible refine bR (jY (by first|(simp;done)|fail)) ?_)|((with_reducible refine aH (id:=13) 17 mixed ?_ ?_);kernel_rfl)|((with_reducible refine aH (id:=14) 12 mixed ?_ ?_);kernel_rfl)|(with_reducible refine bP ?_)|((with_reducible first|refine ai (fun h=>?_) (fun h=>?_)|refine ab (fun h=>?_) (fun h=>?_))<;>(try simp only [h])<;>(try simp only [bg,bm] at h))|omega)
   all_goals first
    | exact absurd trivial (by assumption)
    | (exfalso;omega)
    | exact ak bE (aj rfl) (hK _ _ (lI hmL htk (by assumption) (by assumption) q3 q1 q2))
    | (clear hx hxk hm3 hk3 hNode hd hcc hm0;trace_state)
  ·have h1:=of_decide_eq_false hm
   simp only [Bool.false_eq_true,if_false] at hNode hd hcc
   have h2:=of_decide_eq_true hdn
   simp only [if_true] at hK
   have h3:=hcl rfl
   have h4:=h2.2
   have h5:=h2.1
   have h6:=hk3 (by omega)
   have h7:=hxk (by omega)
   refine ACallF.dropL (aa Tryz.func59 rfl ?_)
   simp only [Tryz.ntmps59]
   repeat' (first|simp only [WL,aD,WM,reduceCtorEq,ba,Nat.reduceAdd,Nat.reduceSub,Nat.reduceLT,Nat.reduceEqDiff,Bool.not_true,beq_self_eq_true,true_and,reduceIte,Bool.false_eq_true,T3,jU,fT,jb,fR eP,fR eR,fR iN,pM,gu,f7,ku,pZ,Tryz.results59,h4,h3]|simp (disch:=first|omega|(simp only [aT];omega)) only [aq,dN]|(with_reducible first|refine aC (hb:=?_)|refine ax (hK:=?_)|refine aO (hK:=?_)|refine cF (hK:=?_)|refine aG (hK:=?_)|refine callD_mk (hNode _ _ (fun rb2 rc2 cs2 hrc=>?_))|refine callD_mk (kW he (by omega) ht (fun b4 c4 cs4 hc4 hz4=>?_)))|( refine cW (hgood:=by rfl) (hcs:=by assumption) (hn:=by first|assumption|omega|(simp;omega)) (hlen:=by first|(simp;omega)|fail) (hmax:=by first|(simp [maxLen];omega)|fail) (hK:=fun b' c' cs' q1 q2 q3=>?_))|( refine c6 (ev.map EVA) (n:=ev.length) (by simp) (dp _) (eJ rfl) (eK _) (by assumption) (by first|assumption|omega|(simp;omega)) (by simp;omega) (by simp [maxLen];omega) (fun b' c' cs' q1 q2 q3=>?_))|(with_reducible first|refine cQ (gr ?_ aW) ?_|refine cQ (dh ?_ aW) ?_|refine cQ (fF ?_ ?_ aW) ?_)|((with_reducible refine aH (id:=1) 13 mixed ?_ ?_);kernel_rfl)|((with_reducible refine dq (id:=5) [0,1,2,3,4,5,6,7,8] (some 9) [([10,11,12,13,14,15,16],none)] mixed ?_ ?_);kernel_rfl)|((with_reducible apply aQ);intro σq hq;have hqi:=cm hq;clear hq)|(with_reducible exact bU)|((with_reducible apply bA);rfl;rfl)|(with_reducible refine bR (jY (by first|(simp;done)|fail)) ?_)|((with_reducible refine aH (id:=13) 17 mixed ?_ ?_);kernel_rfl)|((with_reducible refine aH (id:=14) 12 mixed ?_ ?_);kernel_rfl)|(with_reducible refine bP ?_)|((with_reducible first|refine ai (fun h=>?_) (fun h=>?_)|refine ab (fun h=>?_) (fun h=>?_))<;>(try simp only [h])<;>(try simp only [bg,bm] at h))|omega)
   all_goals first
    | exact absurd trivial (by assumption)
    | (exfalso;omega)
    | exact ak bE (aj rfl) (hK _ _ (lI hmL htk (by assumption) (by assumption) q3 q1 q2))
    | (clear hx hxk hm3 hk3 hNode hd hcc hm0;trace_state)
  ·have h1:=of_decide_eq_true hm
   simp only [if_true] at hNode hd hcc
   have h2:=of_decide_eq_false hdn
   simp only [Bool.false_eq_true,if_false] at hK
   refine ACallF.dropL (aa Tryz.func59 rfl ?_)
   simp only [Tryz.ntmps59]
   repeat' (first|simp only [WL,aD,WM,reduceCtorEq,ba,Nat.reduceAdd,Nat.reduceSub,Nat.reduceLT,Nat.reduceEqDiff,Bool.not_true,beq_self_eq_true,true_and,reduceIte,Bool.false_eq_true,T3,jU,fT,jb,fR eP,fR eR,fR iN,pM,gu,f7,ku,pZ,Tryz.results59,h1]|simp (disch:=first|omega|(simp only [aT];omega)) only [aq,dN]|(with_reducible first|refine aC (hb:=?_)|refine ax (hK:=?_)|refine aO (hK:=?_)|refine cF (hK:=?_)|refine aG (hK:=?_)|refine callD_mk (hNode _ _ (fun rb2 rc2 cs2 hrc=>?_))|refine callD_mk (kW he (by omega) ht (fun b4 c4 cs4 hc4 hz4=>?_)))|( refine cW (hgood:=by rfl) (hcs:=by assumption) (hn:=by first|assumption|omega|(simp;omega)) (hlen:=by first|(simp;omega)|fail) (hmax:=by first|(simp [maxLen];omega)|fail) (hK:=fun b' c' cs' q1 q2 q3=>?_))|( refine c6 (ev.map EVA) (n:=ev.length) (by simp) (dp _) (eJ rfl) (eK _) (by assumption) (by first|assumption|omega|(simp;omega)) (by simp;omega) (by simp [maxLen];omega) (fun b' c' cs' q1 q2 q3=>?_))|(with_reducible first|refine cQ (gr ?_ aW) ?_|refine cQ (dh ?_ aW) ?_|refine cQ (fF ?_ ?_ aW) ?_)|((with_reducible refine aH (id:=1) 13 mixed ?_ ?_);kernel_rfl)|((with_reducible refine dq (id:=5) [0,1,2,3,4,5,6,7,8] (some 9) [([10,11,12,13,14,15,16],none)] mixed ?_ ?_);kernel_rfl)|((with_reducible apply aQ);intro σq hq;have hqi:=cm hq;clear hq)|(with_reducible exact bU)|((with_reducible apply bA);rfl;rfl)|(with_reducible refine bR (jY (by first|(simp;done)|fail)) ?_)|((with_reducible refine aH (id:=13) 17 mixed ?_ ?_);kernel_rfl)|((with_reducible refine aH (id:=14) 12 mixed ?_ ?_);kernel_rfl)|(with_reducible refine bP ?_)|((with_reducible first|refine ai (fun h=>?_) (fun h=>?_)|refine ab (fun h=>?_) (fun h=>?_))<;>(try simp only [h])<;>(try simp only [bg,bm] at h))|omega)
   all_goals first
    | exact absurd trivial (by assumption)
    | (exfalso;omega)
    | exact ak bE (aj rfl) (hK _ _ (lI hmL htk (by assumption) (by assumption) q3 q1 q2))
    | (clear hx hxk hm3 hk3 hNode hd hcc hm0;trace_state)
  ·have h1:=of_decide_eq_true hm
   simp only [if_true] at hNode hd hcc
   have h2:=of_decide_eq_true hdn
   simp only [if_true] at hK
   have h3:=hcl rfl
   have h4:=h2.2
   have h5:=h2.1
   have h6:=hk3 (by omega)
   have h7:=hxk (by omega)
   refine ACallF.dropL (aa Tryz.func59 rfl ?_)
   simp only [Tryz.ntmps59]
   repeat' (first|simp only [WL,aD,WM,reduceCtorEq,ba,Nat.reduceAdd,Nat.reduceSub,Nat.reduceLT,Nat.reduceEqDiff,Bool.not_true,beq_self_eq_true,true_and,reduceIte,Bool.false_eq_true,T3,jU,fT,jb,fR eP,fR eR,fR iN,pM,gu,f7,ku,pZ,Tryz.results59,h1,h4,h3]|simp (disch:=first|omega|(simp only [aT];omega)) only [aq,dN]|(with_reducible first|refine aC (hb:=?_)|refine ax (hK:=?_)|refine aO (hK:=?_)|refine cF (hK:=?_)|refine aG (hK:=?_)|refine callD_mk (hNode _ _ (fun rb2 rc2 cs2 hrc=>?_))|refine callD_mk (kW he (by omega) ht (fun b4 c4 cs4 hc4 hz4=>?_)))|( refine cW (hgood:=by rfl) (hcs:=by assumption) (hn:=by first|assumption|omega|(simp;omega)) (hlen:=by first|(simp;omega)|fail) (hmax:=by first|(simp [maxLen];omega)|fail) (hK:=fun b' c' cs' q1 q2 q3=>?_))|( refine c6 (ev.map EVA) (n:=ev.length) (by simp) (dp _) (eJ rfl) (eK _) (by assumption) (by first|assumption|omega|(simp;omega)) (by simp;omega) (by simp [maxLen];omega) (fun b' c' cs' q1 q2 q3=>?_))|(with_reducible first|refine cQ (gr ?_ aW) ?_|refine cQ (dh ?_ aW) ?_|refine cQ (fF ?_ ?_ aW) ?_)|((with_reducible refine aH (id:=1) 13 mixed ?_ ?_);kernel_rfl)|((with_reducible refine dq (id:=5) [0,1,2,3,4,5,6,7,8] (some 9) [([10,11,12,13,14,15,16],none)] mixed ?_ ?_);kernel_rfl)|((with_reducible apply aQ);intro σq hq;have hqi:=cm hq;clear hq)|(with_reducible exact bU)|((with_reducible apply bA);rfl;rfl)|(with_reducible refine bR (jY (by first|(simp;done)|fail)) ?_)|((with_reducible refine aH (id:=13) 17 mixed ?_ ?_);kernel_rfl)|((with_reducible refine aH (id:=14) 12 mixed ?_ ?_);kernel_rfl)|(with_reducible refine bP ?_)|((with_reducible first|refine ai (fun h=>?_) (fun h=>?_)|refine ab (fun h=>?_) (fun h=>?_))<;>(try simp only [h])<;>(try simp only [bg,bm] at h))|omega)
   all_goals first
    | exact absurd trivial (by assumption)
    | (exfalso;omega)
    | exact ak bE (aj rfl) (hK _ _ (lI hmL htk (by assumption) (by assumption) q3 q1 q2))
    | (clear hx hxk hm3 hk3 hNode hd hcc hm0;trace_state)
end Go.Proofs.YthkabaiamcjdbaaGreat
