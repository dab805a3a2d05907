/-
  Texts Kg, ML, MN, MO, Ki, Kk, Fg, Fh, one behind the other.
-/
import Derived.Test.YthkabaiamcjdbaaGreatJ19
import Derived.Test.YthkabaiamcjdbaaGreatJ20
set_option linter.unusedVariables false
set_option linter.unusedSimpArgs false
set_option maxHeartbeats 16000000
namespace Go.Proofs.YthkabaiamcjdbaaGreat
open Go.Abs
variable {κ:Ctx} {σ:List Res} {K:Ret→List Res→Prop} {o o':Option (Option (Nat × Nat))}
abbrev PO (b:Nat):AV:=.raw (.pointer (some ⟨b,2,none⟩))
theorem Wg {pr br:Nat}{ls:List Ln}{x y:AV}{l:List EvV}{ρ:List Res}{e:EvV} (hR:RowR 6 y (l.map EVA) ρ) (hl:l.length≤100000000000)
  (hK:∀ y' ρ',RowR 6 y' ((l++[e]).map EVA) ρ'→K (.ret (.tup [])) (.obj pr (RC ls br x y')::(ρ'++σ))):ACallF κ Tryz.prog 77 [JP pr,EVA e] (.obj pr (RC ls br x y)::(ρ++σ)) K:=by
 rw [List.map_append] at hK;generalize hm:l.map EVA=m at *;have hml:m.length≤100000000000:=by rw [← hm,List.length_map];exact hl
 cases hR with
 | nil =>
  rw [List.nil_append];refine ACallF.dropL (aa Tryz.func77 rfl ?_);simp only [Tryz.ntmps77]
  repeat' (first|( ((with_reducible refine dH (id:=1) [0,1,2,3,5,6] (some 4) [([],some 7),([8,9],some 10),([],none)] mixed ?_ ?_);kernel_rfl))|( with_reducible refine bV (me (by first|(simp;done)|fail)) ?_)|simp only [WL,WM,Nat.reduceAdd,Nat.reduceSub,Nat.reduceEqDiff,true_and,mf,fR o4,Tryz.results77]|(with_reducible first|refine ax (hb:=?_)|refine au (hK:=?_)|refine aA (hK:=?_)|refine aP (hK:=?_)|refine aQ (hK:=fun b=>?_)|refine dp (hK:=?_))|( refine gC (hgood:=by rfl) (hne:=by simp) (hlen:=by simp) (hmax:=by simp [maxLen]) (hK:=fun b' c' cs' q1 q2 q3=>?_))|((with_reducible apply aW);intro σq hq;have hqi:=cy hq;clear hq)|(with_reducible exact b9)|((with_reducible apply bD);rfl;rfl))
  refine ak ⟨.obj b' cs'::.obj pr (RC ls br x (bT b' 0 1 c'))::σ,List.Perm.swap _ _ _,((List.Sublist.refl _).cons _).cons_cons _⟩ (aj rfl) (hK (bT b' 0 1 c') [.obj b' cs'] (RowR.row (l:=[EVA e]) (by simp at q2;omega) q2 q1 q3))
 | @row rb rc cs _ h0 hn hc ht =>
  rw [List.cons_append,List.nil_append];refine ACallF.dropL (aa Tryz.func77 rfl ?_);simp only [Tryz.ntmps77]
  repeat' (first|( ((with_reducible refine dH (id:=1) [0,1,2,3,5,6] (some 4) [([],some 7),([8,9],some 10),([],none)] mixed ?_ ?_);kernel_rfl))|( with_reducible refine bV (me (by first|(simp;done)|fail)) ?_)|simp only [WL,WM,Nat.reduceAdd,Nat.reduceSub,Nat.reduceEqDiff,true_and,mf,fR o4,Tryz.results77]|(with_reducible first|refine ax (hb:=?_)|refine au (hK:=?_)|refine aA (hK:=?_)|refine aP (hK:=?_)|refine aQ (hK:=fun b=>?_)|refine dp (hK:=?_))|( refine eP (hgood:=by rfl) (hcs:=hc) (hn:=hn) (hlen:=by first|(simp;omega)|fail) (hmax:=by first|(simp [maxLen];omega)|fail) (hK:=fun b' c' cs' q1 q2 q3=>?_))|((with_reducible apply aW);intro σq hq;have hqi:=cy hq;clear hq)|(with_reducible exact b9)|((with_reducible apply bD);rfl;rfl))
  have hr:RowR 6 (bT b' 0 (m.length+1) c') (m++[EVA e]) [.obj b' cs']:=by
   have:=RowR.row (sz:=6) (b:=b') (c:=c') (cs:=cs') (l:=m++[EVA e]) (by have:m.length+1≤c':=q2;omega) (by simpa using q2) q1 (by rw [List.length_append,q3,ht];simp)
   rwa [List.length_append] at this
  exact ak (ah ae) (aj rfl) (hK _ _ hr)
theorem Zo {pr br:Nat}{ls:List Ln}{x y:AV}{op:List Int}{l:List EvV}{ρ τ σ0:List Res}{e:EvV} [hS:Split σ pr ρ (RC ls br x y) τ] (hJ:JX x y op l τ σ0) (hl:l.length≤100000000000)
  (hK:∀ y' τ',JX x y' op (l++[e]) τ' σ0→K (.ret (.tup [])) (ρ ++ .obj pr (RC ls br x y')::τ')):ACallF κ Tryz.prog 77 [JP pr,EVA e] σ K:=by
 obtain ⟨ρx,ρy,h1,h2,hp⟩:=hJ;have sw:∀ ρ':List Res,(ρ'++(ρx++σ0)).Perm (ρx++(ρ'++σ0)):=fun ρ'=>by
  rw [← List.append_assoc,← List.append_assoc];exact List.perm_append_comm.append_right _
 refine ACallF.at_ (b:=pr) (ACallF.perm (σ2:=.obj pr (RC ls br x y)::(ρy++(ρx++σ0))) (List.Perm.cons _ (hp.trans (sw ρy).symm)) (Wg h2 hl (fun y' ρ' h3=>?_)));exact hK y' _ ⟨ρx,ρ',h1,h3,sw ρ'⟩
theorem TI {pr br:Nat}{ls:List Ln}{x y:AV}{l:List Int}{ρ:List Res}{e:Int} (hR:RowR 1 x (l.map I) ρ) (hl:l.length≤100000000000)
  (hK:∀ x' ρ',RowR 1 x' ((l++[e]).map I) ρ'→K (.ret (.tup [])) (.obj pr (RC ls br x' y)::(ρ'++σ))):ACallF κ Tryz.prog 97 [PO pr,I e] (.obj pr (RC ls br x y)::(ρ++σ)) K:=by
 rw [List.map_append] at hK;generalize hm:l.map I=m at *;have hml:m.length≤100000000000:=by rw [← hm,List.length_map];exact hl
 cases hR with
 | nil =>
  rw [List.nil_append];refine ACallF.dropL (aa Tryz.func97 rfl ?_);simp only [Tryz.ntmps97]
  repeat' (first|simp only [WL,WM,Nat.reduceAdd,Nat.reduceSub,Nat.reduceEqDiff,true_and,cb,fR gW,Tryz.results97]|(with_reducible first|refine ax (hb:=?_)|refine au (hK:=?_)|refine aP (hK:=?_)|refine dp (hK:=?_))|( refine gC (hgood:=by rfl) (hne:=by simp) (hlen:=by simp) (hmax:=by simp [maxLen]) (hK:=fun b' c' cs' q1 q2 q3=>?_)))
  exact ak ⟨_,List.Perm.swap _ _ _,List.Sublist.refl _⟩ (aj rfl) (hK (bT b' 0 1 c') [.obj b' cs'] (RowR.row (l:=[I e]) (by simp at q2;omega) q2 q1 q3))
 | @row rb rc cs _ h0 hn hc ht =>
  rw [List.cons_append,List.nil_append];refine ACallF.dropL (aa Tryz.func97 rfl ?_);simp only [Tryz.ntmps97]
  repeat' (first|simp only [WL,WM,Nat.reduceAdd,Nat.reduceSub,Nat.reduceEqDiff,true_and,cb,fR gW,Tryz.results97]|(with_reducible first|refine ax (hb:=?_)|refine au (hK:=?_)|refine aP (hK:=?_)|refine dp (hK:=?_))|( refine eP (hgood:=by rfl) (hcs:=hc) (hn:=hn) (hlen:=by first|(simp;omega)|fail) (hmax:=by first|(simp [maxLen];omega)|fail) (hK:=fun b' c' cs' q1 q2 q3=>?_)))
  have hr:RowR 1 (bT b' 0 (m.length+1) c') (m++[I e]) [.obj b' cs']:=by
   have:=RowR.row (sz:=1) (b:=b') (c:=c') (cs:=cs') (l:=m++[I e]) (by have:m.length+1≤c':=q2;omega) (by simpa using q2) q1 (by rw [List.length_append,q3,ht];simp)
   rwa [List.length_append] at this
  exact ak ae (aj rfl) (hK _ _ hr)
theorem V3 {pr br:Nat}{ls:List Ln}{x y:AV}{op:List Int}{l:List EvV}{ρ τ σ0:List Res}{e:Int} [hS:Split σ pr ρ (RC ls br x y) τ] (hJ:JX x y op l τ σ0) (hl:op.length≤1000000000)
  (hK:∀ x' τ',JX x' y (op++[e]) l τ' σ0→K (.ret (.tup [])) (ρ ++ .obj pr (RC ls br x' y)::τ')):ACallF κ Tryz.prog 97 [PO pr,I e] σ K:=by
 obtain ⟨ρx,ρy,h1,h2,hp⟩:=hJ;refine ACallF.at_ (b:=pr) (ACallF.perm (σ2:=.obj pr (RC ls br x y)::(ρx++(ρy++σ0))) (List.Perm.cons _ hp) (TI h1 (by omega) (fun x' ρ' h3=>?_)));exact hK x' _ ⟨ρ',ρy,h3,h2,List.Perm.refl _⟩
theorem UA {pr br:Nat}{ls:List Ln}{x y:AV}{l:List Int}{ρ:List Res}{e:Int} (hR:RowR 1 x ((l++[e]).map I) ρ) (hl:l.length≤100000000000)
  (hK:∀ x' ρ',RowR 1 x' (l.map I) ρ'→K (.ret (.tup [])) (.obj pr (RC ls br x' y)::(ρ'++σ))):ACallF κ Tryz.prog 98 [PO pr] (.obj pr (RC ls br x y)::(ρ++σ)) K:=by
 generalize hm2:(l++[e]).map I=m2 at *;cases hR with
 | nil=>simp at hm2
 | @row rb rc cs _ h0 hn hc ht =>
  have h9:m2.length=l.length+1:=by rw [← hm2];simp
  rw [List.cons_append,List.nil_append,h9];have hn2:l.length+1≤rc:=by omega
  have hr:RowR 1 (bT rb 0 l.length rc) (l.map I) [.obj rb cs]:=by
   have h8:cs.take l.length=l.map I:=by
    rw [← hm2,ti,List.map_append,List.length_append,List.length_map] at ht;have h7:=congrArg (List.take l.length) ht
    rw [List.take_take,List.take_append_of_le_length (by simp)] at h7;have h6:min l.length ((l.length+(List.map I [e]).length) * 1)=l.length:=by omega
    rw [h6,List.take_of_length_le (l:=l.map I) (by simp)] at h7;exact h7
   have:=RowR.row (sz:=1) (b:=rb) (c:=rc) (cs:=cs) (l:=l.map I) h0 (by rw [List.length_map];omega) hc (by
    rw [ti,List.length_map,Nat.mul_one];exact h8)
   rwa [List.length_map] at this
  refine ACallF.dropL (aa Tryz.func98 rfl ?_);simp only [Tryz.ntmps98]
  repeat' (first|simp only [WL,ay,WM,reduceCtorEq,bg,Nat.reduceAdd,Nat.reduceSub,Nat.reduceEqDiff,true_and,cb,fR gW,Tryz.results98]|simp (disch:=first|omega|(simp only [aU];omega)) only [an]|(with_reducible first|refine ax (hb:=?_)|refine au (hK:=?_)|refine aP (hK:=?_))|( refine Lv l.length (by omega) (Nat.le_succ _) hn2 h0 ?_)|((with_reducible refine aE (id:=0) 14 mixed ?_ ?_);kernel_rfl)|(with_reducible refine bK ?_))
  exact ak ae (aj rfl) (hK _ _ hr)
theorem W1 {pr br:Nat}{ls:List Ln}{x y:AV}{op:List Int}{l:List EvV}{ρ τ σ0:List Res}{e:Int} [hS:Split σ pr ρ (RC ls br x y) τ] (hJ:JX x y (op++[e]) l τ σ0) (hl:op.length≤1000000000)
  (hK:∀ x' τ',JX x' y op l τ' σ0→K (.ret (.tup [])) (ρ ++ .obj pr (RC ls br x' y)::τ')):ACallF κ Tryz.prog 98 [PO pr] σ K:=by
 obtain ⟨ρx,ρy,h1,h2,hp⟩:=hJ;refine ACallF.at_ (b:=pr) (ACallF.perm (σ2:=.obj pr (RC ls br x y)::(ρx++(ρy++σ0))) (List.Perm.cons _ hp) (UA h1 (by omega) (fun x' ρ' h3=>?_)));exact hK x' _ ⟨ρ',ρy,h3,h2,List.Perm.refl _⟩
end Go.Proofs.YthkabaiamcjdbaaGreat
namespace Go.Abs
section
variable {κ:Ctx} {P:Program} {σ:List Res} {K:AV→List Res→Prop}
theorem BK {t e:TypeId}{sz b o n c:Nat}{k:IntKind}{i:Int} (ht:jg P t=some e) (hs:dj P e=some sz) (h0:0≤i) (h1:i < n) (hK:K (.raw (.pointer (some ⟨b,o+i.toNat * sz,none⟩))) σ) :
  AAct κ P (.indexAddr t) [bT b o n c,.raw (.int k i)] σ K:=by
 intro φ g w vs hR hvs;obtain ⟨v,u,rfl,hv,hu⟩:=dA hvs;cases hv.raw_eq
 cases hu.raw_eq
 refine ⟨_,w,g,_,σ, ?_,hR,GE.refl _ _,.raw _,hK⟩;have hu:=aR ht
 simp [MA.sem,nth,Instr.indexAt,asIntOf,bE hu,Instr.sureAddr,h0,h1,dI hs,Addr.add_lit]
end
section
variable {κ:Ctx} {P:Program} {all rest:List Oper} {Q:Exit→St→Prop} {d:Option Tmp} {t:List AV} {σ:List Res} {fr:Bool} {df:List Deferred} {dm:Bool}
theorem fI {ty e:TypeId}{sz by_ b o n c:Nat}{z:Value}{k:IntKind}{i:Int} [hS:TSl P ty e sz by_ z] (h0:0≤i:=by first|decide|omega) (h1:i < n:=by first|decide|omega) (hK:dw κ dm P all Q d rest ⟨t,σ,fr,df⟩ (.raw (.pointer (some ⟨b,o+i.toNat * sz,none⟩))) σ):cu κ dm P all Q d rest ⟨t,σ,fr,df⟩ (.indexAddr ty) [bT b o n c,.raw (.int k i)] :=
 iZ (BK hS.sl hS.hz h0 h1 iY) hK
end
class TSix (P:Program) (t:TypeId):Prop where
 ex:∃ (f1 f2 f3 f4 f5 f6:Field) (k1 k5:IntKind),P.underlying t=some (.struct #[f1,f2,f3,f4,f5,f6])∧(f1.offset=0∧f2.offset=1∧f3.offset=2∧f4.offset=3∧f5.offset=4∧f6.offset=5) ∧
  (P.underlying f1.type=some (.int k1)∧P.underlying f2.type=some .string∧P.underlying f3.type=some .string∧P.underlying f4.type=some .string∧P.underlying f5.type=some (.int k5)∧P.underlying f6.type=some .bool) ∧
  (aggT P f1.type=some false∧aggT P f2.type=some false∧aggT P f3.type=some false∧aggT P f4.type=some false∧aggT P f5.type=some false∧aggT P f6.type=some false)
 stood:P.stoodInHeld t=false
 guard:P.eqGuardType P.depth t=false
section
variable {κ:Ctx} {P:Program} {all rest:List Oper} {Q:Exit→St→Prop} {d:Option Tmp} {t:List AV} {σ:List Res} {fr:Bool} {df:List Deferred}
theorem Bq {ty:TypeId} (n:Nat) (h:P.underlying ty=some .string) {a c:ByteArray}{w:World}:(Op.equalIn (n+1) ty (.string a) (.string c)).run P w=.ok (a == c) w:=by
 simp [Op.equalIn,bE h]
end
theorem AE {sz:Nat} (hsz:0 < sz):∀ (l:List AV) (cs:List AV),(∀ (i:Nat) (x:AV),l[i]? = some x→x.cells.length=sz)→∀ (i:Nat) (x:AV),l[i]? = some x→((aD l++cs).drop (i * sz)).take sz=x.cells
 | [],_,_,i,x,h=>by simp at h
 | y::l,cs,hl,0,x,h=>by
  have hy:=hl 0 y rfl
  simp at h;subst h;show (((y.cells++aD l)++cs).drop (0 * sz)).take sz=_
  rw [Nat.zero_mul,List.drop_zero,List.append_assoc,← hy,List.take_left]
 | y::l,cs,hl,i+1,x,h=>by
  have hy:=hl 0 y rfl
  show (((y.cells++aD l)++cs).drop ((i+1) * sz)).take sz=_
  rw [List.append_assoc,Nat.add_mul,Nat.one_mul,Nat.add_comm (i * sz),← List.drop_drop,← hy,List.drop_left,hy];exact AE hsz l cs (fun j z hz=>hl (j+1) z (by simpa using hz)) i x (by simpa using h)
open Go.RowKit
section
variable {κ:Ctx} {P:Program} {σ:List Res} {K:AV→List Res→Prop}
theorem r7 {t e:TypeId}{sz:Nat}{b n c:Nat}{cs:List AV}{l2:List AV}{y:AV}{z:Value}{by_:Nat} (i:Nat) (h:σ[i]? = some (.obj b cs)) (he:jg P t=some e) (hs:dj P e=some sz) (hb:mg P e=some by_) (hz:dP P e=some z) (hzs:z.cells.size=sz)
  (hpos:0 < sz) (hsrcR:∀ (φ:List Res) (g:Nat→Nat) (w:World),Rel κ g (φ++σ) w→∀ u,VR g w y u→∃ us2,FR g w sz l2 us2∧Src P sz t u l2.length us2 w) (hcs:cs.length=c * sz) (hn:n≤c) (hlen:(n+l2.length) * by_≤140737488355328) (hmax:n+l2.length≤maxLen)
  (hK:∀ b' c' cs',cs'.length=c' * sz→n+l2.length≤c'→cs'.take ((n+l2.length) * sz)=cs.take (n * sz)++aD l2→K (bT b' 0 (n+l2.length) c') (σ.set i (.obj b' cs'))):AAct κ P (.append t) [bT b 0 n c,y] σ K:=by
 intro φ g w vs hR hvs;obtain ⟨v,u,rfl,hv,hu⟩:=dA hvs;cases hv.raw_eq
 have ht:=aR he
 obtain ⟨inf,hi,hisz,hiby,hizr⟩:∃ inf,P.info? e=some inf∧inf.size=sz∧inf.bytes=by_∧inf.zero=some z:=by
  unfold dj mg dP at *;cases hi:P.info? e with
  | none=>simp [hi] at hs
  | some inf=>exact ⟨inf,rfl,by simpa [hi] using hs,by simpa [hi] using hb,by simpa [hi] using hz⟩
 obtain ⟨us2,hf2,hsrc⟩:=hsrcR φ g w hR u hu;have hset:∀ r',(φ++σ.set i r').Perm (r'::(φ++σ.eraseIdx i)):=fun r'=>((fq h).symm.append_left φ).trans List.perm_middle
 have hR0:=hR.perm (c6 (φ:=φ) (dE h))
 have hRd:Rel κ g (φ++σ.eraseIdx i) w:=hR0.sub (List.sublist_cons_self _ _)
 have hm63:((n+l2.length:Nat):Int)≤9223372036854775807:=by unfold maxLen at hmax;omega
 obtain ⟨hg0,cur,ety,hh,htr⟩:=hR.holds _ (cN h);have hcur:cur.size=c * sz:=by rw [htr.size,hcs]
 have hnc:n * sz≤c * sz:=Nat.mul_le_mul_right sz hn
 have hx2:TR g w (aD l2) us2.toArray:=hf2.cells hpos
 have hl2:(aD l2).length=l2.length * sz:=da l2 hf2.el
 have hadd:(n+l2.length) * sz=n * sz+l2.length * sz:=Nat.add_mul _ _ _
 have hold:TR g w (cs.take (n * sz)) (cur.toList.take (n * sz)).toArray:=TR.of_get (by rw [List.length_take,List.length_take,Array.length_toList,hcur,hcs]) (fun k x hk=>by
  rw [List.getElem?_take] at hk ⊢;split at hk
  ·rename_i hlt;rw [if_pos hlt];exact (show TR g w cs cur.toList.toArray by simpa using htr).get' k x hk
  ·cases hk)
 have holdlen:(cur.toList.take (n * sz)).length=n * sz:=by rw [List.length_take,Array.length_toList,hcur];omega
 have hcell:∀ (k:Nat) (x:Value),(cur.toList.take (n * sz))[k]? = some x→w.cell? ⟨b,k,none⟩=some x:=by
  intro k x hk;rw [List.getElem?_take] at hk;split at hk
  ·rw [Array.getElem?_toList] at hk
   simp [World.cell?,hh,hk]
  ·cases hk
 by_cases hroom:n+l2.length≤c
 ·have hmul:(n+l2.length) * sz≤c * sz:=Nat.mul_le_mul_right sz hroom
  have hrun:=run_append_room_src (P:=P) w t t t e inf ht hi b 0 n c u l2.length us2 (hisz ▸ hsrc) hroom (fun j hj=>by
    have hj':=hf2.len
    have:n * inf.size+j < cur.size:=by rw [hisz];omega
    simp [World.cell?,hh,this]) (fun j hj=>by simp [World.frozen?,hh])
  rw [hisz,Nat.zero_add] at hrun;obtain ⟨arr',k1,k2,k3,k4,k5,k6,k7⟩:=iG b ety us2 (n * sz) w cur hh;generalize hw':w.setCells b (n * sz) us2=w' at *;have hin:=fun j (hj:j < us2.length)=>World.cell?_setCells_in b us2 (n * sz) w (fun j hj=>by
    have hj':=hf2.len
    have:n * sz+j < cur.size:=by omega
    simp [World.cell?,hh,this]) j hj
  have hout:∀ o,o < n * sz→w'.cell? ⟨b,o,none⟩=w.cell? ⟨b,o,none⟩:=fun o ho=>by
   rw [← hw'];exact World.cell?_setCells_out b us2 _ w ⟨b,o,none⟩ (fun _ _=>.inl ho)
  have hge:GE g w g w':=by
   refine ⟨by rw [k3];exact Nat.le_refl _,fun _=>Nat.le_refl _,fun c' o ho=>?_,fun c'=>?_⟩
   ·by_cases ec:c'=b
    ·subst ec;rw [hg0] at ho;omega
    ·simp only [World.cell?];rw [k7 c' ec]
   ·by_cases ec:c'=b
    ·subst ec;simp only [bu,k1,hh];omega
    ·simp only [bu];rw [k7 c' ec];exact Nat.le_refl _
  have hcells:∀ o,w'.cell? ⟨b,o,none⟩=arr'[o]?:=fun o=>by simp [World.cell?,k1]
  have hnew:TR g w' (cs.take (n * sz)++aD l2++List.replicate (c * sz - (n+l2.length) * sz) .any) arr':=by
   refine ⟨by rw [k2,hcur,List.length_append,List.length_append,List.length_take,hl2,List.length_replicate,hcs];omega,fun k x hk=>?_⟩;by_cases h1:k < n * sz
   ·rw [List.append_assoc,List.getElem?_append_left (by rw [List.length_take,hcs];omega)] at hk
    obtain ⟨y,hy1,hy2⟩:=hold.get' k x hk;have:=hcell k y hy1
    rw [← hout k h1,hcells] at this;rw [Array.getD_eq_getD_getElem?,this];exact hy2.mono hge
   ·by_cases h2:k < (n+l2.length) * sz
    ·rw [List.getElem?_append_left (by rw [List.length_append,List.length_take,hl2,hcs];omega),List.getElem?_append_right (by rw [List.length_take,hcs];omega),List.length_take,hcs,Nat.min_eq_left hnc] at hk
     obtain ⟨y,hy1,hy2⟩:=hx2.get' _ x hk;have hlt:=aL hy1
     have h5:=hin (k - n * sz) hlt
     rw [hw',show n * sz+(k - n * sz)=k by omega,hcells] at h5;rw [Array.getD_eq_getD_getElem?,h5];have:us2[k - n * sz]'hlt=y:=by rw [List.getElem?_eq_getElem hlt] at hy1;exact Option.some.inj hy1
     simp only [Option.getD_some];rw [this];exact hy2.mono hge
    ·rw [List.getElem?_append_right (by rw [List.length_append,List.length_take,hl2,hcs];omega),List.getElem?_replicate] at hk
     split at hk
     ·cases hk;exact .any _
     ·cases hk
  have hR2:Rel κ g (.obj b (cs.take (n * sz)++aD l2++List.replicate (c * sz - (n+l2.length) * sz) .any)::(φ++σ.eraseIdx i)) w' :=
   hR0.change hge k4 k5 k6 k3 k7 (fun _ _=>rfl) rfl rfl ⟨hg0,arr',ety,k1,hnew⟩
  refine ⟨_,w',g,_,_,hrun,hR2.perm (hset _).symm,hge,.raw _,hK b c _ ?_ hroom ?_⟩
  ·rw [List.length_append,List.length_append,List.length_take,hl2,List.length_replicate,hcs];omega
  ·rw [List.take_append_of_le_length (by rw [List.length_append,List.length_take,hl2,hcs];omega)]
   exact List.take_of_length_le (by rw [List.length_append,List.length_take,hl2,hcs];omega)
 ·have hrun:=run_append_grow_src (P:=P) w t t t e inf z ht hi hizr (some ⟨b,0,none⟩) n c (cur.toList.take (n * sz)) (run_firstCells_some w.drew inf.size _ _ _ _ (cur.toList.take (n * sz)) (by rw [hisz];exact holdlen) (fun j u hj=>by rw [Addr.add_lit,Nat.zero_add];exact hcell j u hj)) u l2.length us2 (hisz ▸ hsrc) (by omega) hm63 (by rw [hiby];exact growslice_fits (by omega) hlen)
  have hcapge:=grownCap_ge w (n+l2.length) c e
  have hcapmax:=grownCap_le_maxLen w (n+l2.length) c e hmax
  have hRdr:Rel κ g (φ++σ.eraseIdx i) w.drew:=hRd.of_heap rfl rfl rfl rfl
  have hmono:GE g w g w.drew:=GE.of_heap (g:=g) (w:=w) (w':=w.drew) rfl
  generalize hcap:grownCap w (n+l2.length) c e=cap at *;have hcapsz:(n+l2.length) * sz≤cap * sz:=Nat.mul_le_mul_right sz hcapge
  have hzl:(Builtin.zeroCells z.cells (cap - (n+l2.length))).size=cap * sz - (n+l2.length) * sz:=by rw [size_zeroCells,hzs,Nat.sub_mul]
  have hnew:TR g w.drew (cs.take (n * sz)++aD l2++List.replicate (cap * sz - (n+l2.length) * sz) .any) ((cur.toList.take (n * sz)++us2).toArray++Builtin.zeroCells z.cells (cap - (n+l2.length))):=by
   have h1:TR g w.drew (cs.take (n * sz)++aD l2) (cur.toList.take (n * sz)++us2).toArray:=by
    have:=(hold.append hx2).mono hmono
    simpa using this
   refine h1.append ⟨by rw [hzl,List.length_replicate],fun k x hk=>?_⟩;rw [List.getElem?_replicate] at hk;split at hk
   ·cases hk;exact .any _
   ·cases hk
  obtain ⟨b1,b2⟩:=hRdr.new_obj e hnew;refine ⟨_,_,g,_,_,hrun,(b1.perm (hset _).symm),hmono.trans b2,.raw _,hK _ cap _ ?_ hcapge ?_⟩
  ·rw [List.length_append,List.length_append,List.length_take,hl2,List.length_replicate,hcs];omega
  ·rw [List.take_append_of_le_length (by rw [List.length_append,List.length_take,hl2,hcs];omega)]
   exact List.take_of_length_le (by rw [List.length_append,List.length_take,hl2,hcs];omega)
theorem pI {t e:TypeId}{sz:Nat}{l2:List AV}{y:AV}{z:Value}{by_:Nat} (he:jg P t=some e) (hs:dj P e=some sz) (hb:mg P e=some by_) (hz:dP P e=some z) (hzs:z.cells.size=sz)
  (hpos:0 < sz) (hsrcR:∀ (φ:List Res) (g:Nat→Nat) (w:World),Rel κ g (φ++σ) w→∀ u,VR g w y u→∃ us2,FR g w sz l2 us2∧Src P sz t u l2.length us2 w) (hne:0 < l2.length) (hlen:l2.length * by_≤140737488355328) (hmax:l2.length≤maxLen)
  (hK:∀ b' c' cs',cs'.length=c' * sz→l2.length≤c'→cs'.take (l2.length * sz)=aD l2→K (bT b' 0 l2.length c') (.obj b' cs'::σ)):AAct κ P (.append t) [nilS,y] σ K:=by
 intro φ g w vs hR hvs;obtain ⟨v,u,rfl,hv,hu⟩:=dA hvs;cases hv.raw_eq
 have ht:=aR he
 obtain ⟨inf,hi,hisz,hiby,hizr⟩:∃ inf,P.info? e=some inf∧inf.size=sz∧inf.bytes=by_∧inf.zero=some z:=by
  unfold dj mg dP at *;cases hi:P.info? e with
  | none=>simp [hi] at hs
  | some inf=>exact ⟨inf,rfl,by simpa [hi] using hs,by simpa [hi] using hb,by simpa [hi] using hz⟩
 obtain ⟨us2,hf2,hsrc⟩:=hsrcR φ g w hR u hu;have hx2:TR g w (aD l2) us2.toArray:=hf2.cells hpos
 have hl2:(aD l2).length=l2.length * sz:=da l2 hf2.el
 have hm63:((0+l2.length:Nat):Int)≤9223372036854775807:=by unfold maxLen at hmax;omega
 have hrun:=run_append_grow_src (P:=P) w t t t e inf z ht hi hizr none 0 0 [] (by simpa using run_firstCells_none w.drew inf.size 0 0 0) u l2.length us2 (hisz ▸ hsrc) (by omega) hm63 (by rw [hiby];exact growslice_fits (by omega) (by simpa using hlen))
 have hcapge:=grownCap_ge w (0+l2.length) 0 e
 have hcapmax:=grownCap_le_maxLen w (0+l2.length) 0 e (by simpa using hmax)
 have hRdr:Rel κ g (φ++σ) w.drew:=hR.of_heap rfl rfl rfl rfl
 have hmono:GE g w g w.drew:=GE.of_heap (g:=g) (w:=w) (w':=w.drew) rfl
 generalize hcap:grownCap w (0+l2.length) 0 e=cap at *;have hcapsz:l2.length * sz≤cap * sz:=Nat.mul_le_mul_right sz (by omega)
 have hzl:(Builtin.zeroCells z.cells (cap - (0+l2.length))).size=cap * sz - l2.length * sz:=by rw [size_zeroCells,hzs,Nat.sub_mul,Nat.zero_add]
 have hnew:TR g w.drew (aD l2++List.replicate (cap * sz - l2.length * sz) AV.any) (([]++us2).toArray++Builtin.zeroCells z.cells (cap - (0+l2.length))):=by
  have h1:TR g w.drew (aD l2) ([]++us2).toArray:=by simpa using hx2.mono hmono
  refine h1.append ⟨by rw [hzl,List.length_replicate],fun k x hk=>?_⟩;rw [List.getElem?_replicate] at hk;split at hk
  ·cases hk;exact .any _
  ·cases hk
 obtain ⟨b1,b2⟩:=hRdr.new_obj e hnew;have hK2:=hK w.drew.heap.size cap (aD l2++List.replicate (cap * sz - l2.length * sz) AV.any) (by rw [List.length_append,hl2,List.length_replicate];omega) (by omega) (by rw [List.take_append_of_le_length (by omega)];exact List.take_of_length_le (by omega))
 have hv':(.slice (some ⟨w.drew.heap.size,0,none⟩) (0+l2.length) cap:Value)=.slice (some ⟨w.drew.heap.size,0,none⟩) l2.length cap:=by rw [Nat.zero_add]
 exact ⟨_,_,g,bT w.drew.heap.size 0 (0+l2.length) cap,_,hrun,b1.perm List.perm_middle.symm,hmono.trans b2,.raw _,by rw [Nat.zero_add];exact hK2⟩
end
section
variable {κ:Ctx} {P:Program} {all rest:List Oper} {Q:Exit→St→Prop} {d:Option Tmp} {t:List AV} {σ:List Res} {fr:Bool} {df:List Deferred}
theorem lg {ty e:TypeId}{sz by_ j b o n c:Nat}{z:Value}{cs:List AV} (l2:List AV) [hS:TSl P ty e sz by_ z] [hj:Hold σ b j cs] (hn:l2.length=n) (hel:∀ (i:Nat) (x:AV),l2[i]? = some x→x.cells.length=sz) (hcs:(cs.drop o).take (n * sz)=aD l2) (hgood:cY l2=true) (hne:0 < l2.length) (hlen:l2.length * by_≤140737488355328) (hmax:l2.length≤maxLen)
  (hK:∀ b' c' cs',cs'.length=c' * sz→l2.length≤c'→cs'.take (l2.length * sz)=aD l2→dw κ false P all Q d rest ⟨t,σ,fr,df⟩ (bT b' 0 l2.length c') (.obj b' cs'::σ)):cu κ false P all Q d rest ⟨t,σ,fr,df⟩ (.append ty) [nilS,bT b o n c] :=
 cl (pI hS.sl hS.hz hS.by' hS.zr hS.one hS.pos (fun φ g w hR u hu=>yl hj.get (aR hS.sl) hS.pos hn hel hcs hgood hR u hu) hne hlen hmax hK)
theorem fe {ty e:TypeId}{sz by_ b1 n1 c1 i j b o n c:Nat}{z:Value}{cs1 cs:List AV} (l2:List AV) [hS:TSl P ty e sz by_ z] [hH:Hold σ b1 i cs1] [hj:Hold σ b j cs] (hn:l2.length=n) (hel:∀ (i:Nat) (x:AV),l2[i]? = some x→x.cells.length=sz) (hcs:(cs.drop o).take (n * sz)=aD l2) (hgood:cY l2=true) (hcs1:cs1.length=c1 * sz) (hn1:n1≤c1) (hlen:(n1+l2.length) * by_≤140737488355328) (hmax:n1+l2.length≤maxLen)
  (hK:∀ b' c' cs',cs'.length=c' * sz→n1+l2.length≤c'→cs'.take ((n1+l2.length) * sz)=cs1.take (n1 * sz)++aD l2→dw κ false P all Q d rest ⟨t,σ,fr,df⟩ (bT b' 0 (n1+l2.length) c') (σ.set i (.obj b' cs'))):cu κ false P all Q d rest ⟨t,σ,fr,df⟩ (.append ty) [bT b1 0 n1 c1,bT b o n c] :=
 cl (r7 i hH.get hS.sl hS.hz hS.by' hS.zr hS.one hS.pos (fun φ g w hR u hu=>yl hj.get (aR hS.sl) hS.pos hn hel hcs hgood hR u hu) hcs1 hn1 hlen hmax hK)
end
theorem wm {κ:Ctx}{P:Program}{dm:Bool}{all rest:List Oper}{Q:Exit→St→Prop}{d:Option Tmp}{t:List AV}{σ:List Res}{fr:Bool}{df:List Deferred}{f:Fn}{u w x y:Value}:lT κ dm P all Q d rest ⟨t,σ,fr,df⟩ f [] [.raw u,.raw w,.raw x,.raw y]=bA κ dm P all Q rest ⟨bP t d (.raw (.func f #[] #[u,w,x,y])),σ,fr,df⟩:=propext Iff.rfl
class TTwoS (P:Program) (t:TypeId):Prop where
 ex : ∃ (f1 f2 : Field), P.underlying t = some (.struct #[f1, f2]) ∧ f1.name ≠ "_" ∧ f2.name ≠ "_" ∧ f1.offset = 0 ∧ f2.offset = 1 ∧ P.underlying f1.type = some .string ∧ P.underlying f2.type = some .string ∧ aggT P f1.type = some false ∧ aggT P f2.type = some false
 stood:P.stoodInHeld t=false
 guard:P.eqGuardType P.depth t=false
section
variable {κ:Ctx} {P:Program} {all rest:List Oper} {Q:Exit→St→Prop} {d:Option Tmp} {t:List AV} {σ:List Res} {fr:Bool} {df:List Deferred}
theorem HH {ty:TypeId} (n:Nat) (h:TTwoS P ty) {a b c e:ByteArray}{w:World}:(Op.equalIn (n+1+1) ty (.agg #[.string a,.string b]) (.agg #[.string c,.string e])).run P w=.ok (a == c && b == e) w:=by
 obtain ⟨f1,f2,h1,h2,h3,h4,h5,h6,h7,h8,h9⟩:=h.ex;have hp:(program).run P w=.ok P w:=rfl
 have s1:=Bq n h6 (a:=a) (c:=c) (w:=w)
 have s2:=Bq n h7 (a:=b) (c:=e) (w:=w)
 have p1:∀ x y:ByteArray,(part f1.type #[.string x,.string y] f1.offset).run P w=.ok (.string x) w:=fun x y=>by simp [part,dC h8,h4]
 have p2:∀ x y:ByteArray,(part f2.type #[.string x,.string y] f2.offset).run P w=.ok (.string y) w:=fun x y=>by simp [part,dC h9,h5]
 rw [Op.equalIn];simp only [Sem.run_bind,bE h1,Result.andThen_ok,hp,h.stood];cases e1:(a == c)<;>cases e2:(b == e)<;>simp [h2,h3,s1,s2,p1,p2,e1,e2]
theorem s9 {ty:TypeId} (h:TTwoS P ty) {a b c e:ByteArray}{w:World}:(Op.equal ty (.agg #[.string a,.string b]) (.agg #[.string c,.string e])).run P w=.ok (a == c && b == e) w:=by
 have:=HH (w:=w) (a:=a) (b:=b) (c:=c) (e:=e) 9998 h
 simp only [Op.equal,show Op.maxDepth=9998+1+1 from rfl,this]
theorem vO {ty:TypeId}{a b c e:ByteArray} [h:TTwoS P ty] (hK:dw κ false P all Q d rest ⟨t,σ,fr,df⟩ (B (a == c && b == e)) σ):ij κ false P all Q d rest ⟨t,σ,fr,df⟩ .eql ty (.agg [.raw (.string a),.raw (.string b)]) (.agg [.raw (.string c),.raw (.string e)]):=by
 refine ⟨by unfold jT;rw [h.guard];rfl, ?_⟩;show AAct κ P (.bin .eql ty) [.agg [.raw (.string a),.raw (.string b)],.agg [.raw (.string c),.raw (.string e)]] σ _
 intro φ g w vs hR hvs;obtain ⟨v,u,rfl,hu,hv⟩:=dA hvs;cases fv (l:=[.string a,.string b]) hu
 cases fv (l:=[.string c,.string e]) hv
 refine ⟨.bool (a == c && b == e),w,g,_,σ, ?_,hR,GE.refl _ _,.raw _,hK⟩;show (binOp .eql ty (.agg #[.string a,.string b]) (.agg #[.string c,.string e])).run P w=_
 simp only [binOp,Sem.run_bind,s9 h];rfl
theorem xh {ty:TypeId}{a b c e:ByteArray} [h:TTwoS P ty] (hK:dw κ false P all Q d rest ⟨t,σ,fr,df⟩ (B (!(a == c && b == e))) σ):ij κ false P all Q d rest ⟨t,σ,fr,df⟩ .neq ty (.agg [.raw (.string a),.raw (.string b)]) (.agg [.raw (.string c),.raw (.string e)]):=by
 refine ⟨by unfold jT;rw [h.guard];rfl, ?_⟩;show AAct κ P (.bin .neq ty) [.agg [.raw (.string a),.raw (.string b)],.agg [.raw (.string c),.raw (.string e)]] σ _
 intro φ g w vs hR hvs;obtain ⟨v,u,rfl,hu,hv⟩:=dA hvs;cases fv (l:=[.string a,.string b]) hu
 cases fv (l:=[.string c,.string e]) hv
 refine ⟨.bool (!(a == c && b == e)),w,g,_,σ, ?_,hR,GE.refl _ _,.raw _,hK⟩;show (binOp .neq ty (.agg #[.string a,.string b]) (.agg #[.string c,.string e])).run P w=_
 simp only [binOp,Sem.run_bind,s9 h];rfl
end
end Go.Abs
namespace Go.Proofs.YthkabaiamcjdbaaGreat
open Go.Abs
variable {κ:Ctx} {σ:List Res} {K:Ret→List Res→Prop} {o o':Option (Option (Nat × Nat))}
abbrev kH (t:TP):AV:=.agg [.raw (.string t.1),.raw (.string t.2)]
abbrev PT (b:Nat):Value:=.pointer (some ⟨b,0,none⟩)
theorem N0 {be:Nat}{KD:FrameMode→List Res→Prop} (hK:KD .returning σ):i5 κ Tryz.prog 86 [.raw (PT be)] σ .returning KD:=by
 refine fG Tryz.func86 rfl ?_ (by simp [Tryz.ntmps86]);simp only [Tryz.ntmps86]
 repeat' (first|with_reducible refine i6 (id:=1) ?_|simp only [WL,WM,Nat.reduceAdd,Nat.reduceSub])
 refine al (jE (l:=[_]) false Tryz.underlying20 ?_)
 repeat' (first|simp only [WL,WM,and_true,Bool.false_eq_true,qJ])
 refine ⟨⟨.nilIface,rfl,.inl rfl⟩, ?_⟩
 repeat' (first|with_reducible refine aw ?_|simp only [WL,WM])
 exact ⟨rfl,rfl,rfl,hK⟩
theorem Py {be:Nat}{e:Int}{KD:FrameMode→List Res→Prop} (hK:∀ b,KD (ux (Gz e)) (.obj b [I e]::.obj be [I e]::σ)):i5 κ Tryz.prog 86 [.raw (PT be)] (.obj be [I 0]::σ) (Gz e) KD:=by
 refine fG Tryz.func86 rfl ?_ (by simp [Tryz.ntmps86]);simp only [Tryz.ntmps86,show qA (Gz e)=.iface 135 (.agg #[.int .i64 e]) from rfl]
 repeat' (first|with_reducible refine i6 (id:=1) ?_|simp only [WL,WM,Nat.reduceAdd,Nat.reduceSub])
 refine al (jE (l:=[_]) true Tryz.underlying20 ?_)
 repeat' (first|simp only [WL,WM,reduceCtorEq,and_true,qJ]|with_reducible refine ax (hb:=?_))
 repeat' (first|( with_reducible refine qO ?_)|with_reducible refine aw ?_|simp only [WL,WM,Nat.reduceAdd,Nat.reduceLT,Nat.reduceEqDiff,Bool.not_true,true_and,Yv,fR FE]|(with_reducible first|refine ax (hb:=?_)|refine au (hK:=?_)|refine aP (hK:=?_)|refine az (hK:=?_)|refine aV (hK:=fun b=>?_)))
 exact ⟨rfl,rfl,rfl,hK _⟩
theorem Qn {be bt bjj bj b6 bc:Nat}{la:List Ln}{c:Int}{C6:List AV}{τ:List Res} (hs:Small la) (hp:PlW (0,c))
  (h1:∀ v q ok,bS la (-1) (0,c)=.ok (v,q,ok)→K (.ret (.tup [])) (.obj be [I 0]::.obj bt (xj v)::.obj bjj [JP bj]::.obj bj (JC la (-1) true 0 nilS nilS)::.obj b6 C6::.obj bc [I c]::τ))
  (h2:∀ e,bS la (-1) (0,c)=.error e→K (.ret (.tup [])) (.obj be [I e]::.obj bt (xj uX)::.obj bjj [JP bj]::.obj bj (JC la (-1) true 0 nilS nilS)::.obj b6 C6::.obj bc [I c]::τ)) :
  ACallF κ Tryz.prog 85 [.raw (PT be),.raw (PT bjj),.raw (PT bc),.raw (PT bt)] (.obj be [I 0]::.obj bt (xj uX)::.obj bjj [JP bj]::.obj bj (JC la (-1) true 0 nilS nilS)::.obj b6 C6::.obj bc [I c]::τ) K:=by
 refine ACallF.dropL (kE (cap:=fun _=>True) (fd:=86) Tryz.func85 rfl X3 ?_);simp only [Tryz.ntmps85];refine al (uj (l:=[_]) 86 [PT be] ?_)
 repeat' (first|simp only [WL,WM,Nat.reduceAdd,Nat.reduceSub,true_and,tj])
 cases ht:bS la (-1) (0,c) with
 | error e =>
  repeat' (first|with_reducible refine aB ?_|simp only [WL,WM,Nat.reduceAdd,true_and,kh]|(with_reducible first|refine au (hK:=?_)|refine aI (hK:=?_)|refine cD (vL (ls:=la) (p:=(0,c)) ht hs hp ?_)))
  refine ⟨[PT be],rfl,rfl,Py (fun bx=>⟨rfl, ?_⟩)⟩;rw [ko]
  repeat' (first|simp only [WL,WM,Tryz.results85])
  exact ak (ah ae) (aj rfl) (h2 _ ht)
 | ok r =>
  obtain ⟨v,q,ok⟩:=r
  repeat' (first|with_reducible refine aB ?_|simp only [WL,WM,Nat.reduceAdd,Nat.reduceLT,true_and,kh]|(with_reducible first|refine au (hK:=?_)|refine az (hK:=?_)|refine aI (hK:=?_)|refine cD (dD (ls:=la) (p:=(0,c)) ht hs hp ?_)))
  refine ⟨[PT be],rfl,rfl,N0 ⟨rfl, ?_⟩⟩;rw [ko]
  repeat' (first|simp only [WL,WM,Tryz.results85])
  exact ak ae (aj rfl) (h1 _ _ _ ht)
theorem Al {br ix:Nat}{ls:List Ln}{i c:Int} [hR:Hold σ br ix [SL none ls]] (hs:Small ls) (hc:bW c) (h0:0≤c)
  (h1:∀ t c2,gn ls i c=.ok (t,c2)→K (.ret (.tup [kH t,I c2,I 0])) σ) (h2:∀ e,gn ls i c=.error e→K (.ret (.tup [kH tp0,I c,I e])) σ):ACallF κ Tryz.prog 67 [JP br,I i,I c] σ K:=by
 have hl:=hs.1
 have hsa:=ff (i:=i) hs
 generalize he:cd ls i=la at *;have hp:PlW ((0:Int),c):=PlW.of0 hc h0
 cases ht:bS la (-1) (0,c) with
 | error e =>
  refine ACallF.dropL (aa Tryz.func67 rfl ?_);simp only [Tryz.ntmps67]
  repeat' (first|simp only [WL,WM,Nat.reduceAdd,Nat.reduceSub,Nat.reduceEqDiff,true_and,T3,T9,gg,ja,fR nh,fR fa,fR iD,fR ir,fR fc,tw,D8,kY,Tryz.results67,D8,wm]|(with_reducible first|refine ax (hb:=?_)|refine au (hK:=?_)|refine aA (hK:=?_)|refine aP (hK:=?_)|refine az (hK:=?_)|refine aQ (hK:=fun b=>?_)|refine aV (hK:=fun b=>?_)|refine aI (hK:=?_)|refine cD (lR he (by omega) (fun bj=>?_))|refine callD_mk (Qn hsa hp (fun v q ok h=>by rw [ht] at h;cases h) (fun e' h=>?_))|refine cD (qo (v:=uX) ?_))|((with_reducible refine aY ?_);apply pb (hf:=Tryz.results67);exact bn)|((with_reducible refine eE (id:=7) [0,1,2,3,4,5,6,7,8] (some 9) [([10,11],none)] mixed ?_ ?_);kernel_rfl)|((with_reducible apply aW);intro σq hq;have hqi:=cy hq;clear hq)|(with_reducible exact b9)|((with_reducible apply bD);rfl;rfl)|(with_reducible refine bV (nZ (by first|(simp;done)|fail) (by first|(simp;done)|fail)) ?_)|((with_reducible first|refine ai (fun h=>?_) (fun h=>?_)|refine ab (fun h=>?_) (fun h=>?_))<;>(try simp only [h])<;>(try simp only [bf,ba] at h)))
  all_goals first
   | exact ak bC (aj rfl) (h2 _ (by unfold gn;rw [he,ht];cases ht.symm.trans (by assumption);rfl))
   | exact absurd (by assumption:jW uX=true) (by rw [DP];exact Bool.false_ne_true)
 | ok r =>
  obtain ⟨v,q,ok⟩:=r;refine ACallF.dropL (aa Tryz.func67 rfl ?_);simp only [Tryz.ntmps67]
  repeat' (first|simp only [WL,WM,Nat.reduceAdd,Nat.reduceSub,Nat.reduceEqDiff,true_and,T3,T9,gg,ja,fR nh,fR fa,fR iD,fR ir,fR fc,tw,D8,kY,Tryz.results67,D8,wm]|(with_reducible first|refine ax (hb:=?_)|refine au (hK:=?_)|refine aA (hK:=?_)|refine aP (hK:=?_)|refine az (hK:=?_)|refine aQ (hK:=fun b=>?_)|refine aV (hK:=fun b=>?_)|refine aI (hK:=?_)|refine cD (lR he (by omega) (fun bj=>?_))|refine callD_mk (Qn hsa hp (fun v' q' ok' h=>?_) (fun e' h=>by rw [ht] at h;cases h))|refine cD (qo (v:=v') ?_))|((with_reducible refine aY ?_);apply pb (hf:=Tryz.results67);exact bn)|((with_reducible refine eE (id:=7) [0,1,2,3,4,5,6,7,8] (some 9) [([10,11],none)] mixed ?_ ?_);kernel_rfl)|((with_reducible apply aW);intro σq hq;have hqi:=cy hq;clear hq)|(with_reducible exact b9)|((with_reducible apply bD);rfl;rfl)|(with_reducible refine bV (nZ (by first|(simp;done)|fail) (by first|(simp;done)|fail)) ?_)|((with_reducible first|refine ai (fun h=>?_) (fun h=>?_)|refine ab (fun h=>?_) (fun h=>?_))<;>(try simp only [h])<;>(try simp only [bf,ba] at h)))
  all_goals
   cases ht.symm.trans (by assumption)
   first
   | exact ak bC (aj rfl) (h1 (v.a,v.t) _ (by unfold gn;rw [he,ht];dsimp only;rw [if_pos (by assumption)]))
   | exact ak bC (aj rfl) (h1 (v.a,v.t) _ (by unfold gn;rw [he,ht];dsimp only;rw [if_neg (by rw [(by assumption:jW v=false)];exact Bool.false_ne_true)]))
theorem FL {br ix:Nat}{ls:List Ln}{i k n d:Int} [hR:Hold σ br ix [SL none ls]] (hs:Small ls) (hd:0≤d∧d≤1000000000) (hp64:bW i∧bW k) (hn:bW n)
  (h0:∀ bj,(i < 0∨(ls.length:Int)≤i∨k < 0)→K (.ret (.tup [nilS,I 0,I 0,I 2])) (.obj bj (JC ls n true d nilS nilS)::σ))
  (h1:∀ ev e t,ct ls n d true (i,k)=.ok (ev,e,t)→∀ bj x' y' τ',JX x' y' [] ev τ' σ→K (.ret (.tup [y',I e.1,I e.2,I 0])) (.obj bj (JC ls n true d x' y')::τ'))
  (h2:∀ e,ct ls n d true (i,k)=.error e→∀ bj x' y' op' l' τ',JX x' y' op' l' τ' σ→K (.ret (.tup [nilS,I 0,I 0,I e])) (.obj bj (JC ls n true d x' y')::τ')):ACallF κ Tryz.prog 90 [JP br,I i,I k,I n,I d] σ K:=by
 refine ACallF.dropL (aa Tryz.func90 rfl ?_);simp only [Tryz.ntmps90]
 repeat' (first|simp only [WL,WM,Nat.reduceAdd,Nat.reduceSub,Nat.reduceLT,Nat.reduceEqDiff,true_and,gg,fR nh,T2,Tryz.results90]|(with_reducible first|refine ax (hb:=?_)|refine au (hK:=?_)|refine aQ (hK:=fun b=>?_)|refine aI (hK:=?_)|refine callD_mk (SJ (p:=(i,k)) hs hd hp64 (fun hc=>?_) (fun ev e t hp hw x' y' τ' hJ'=>?_) (fun e hp hw x' y' op' l' τ' hJ'=>?_))))
 ·exact ak ae (aj rfl) (h0 _ hc)
 ·exact ak ae (aj rfl) (h1 _ _ _ hw _ _ _ _ hJ')
 ·exact ak ae (aj rfl) (h2 _ hw _ _ _ _ _ _ hJ')
theorem FP {pr br:Nat}{ls:List Ln}{x y:AV}{op:List Int}{l:List EvV}{ρ τ σ0:List Res}{k s:Int}{ex et ea:ByteArray}{f:Bool} [hS:Split σ pr ρ (RC ls br x y) τ] (hJ:JX x y op l τ σ0) (hl:l.length≤100000000000)
  (hK:∀ y' τ',JX x y' op (l++[⟨k,ex,et,ea,s,f⟩]) τ' σ0→K (.ret (.tup [])) (ρ ++ .obj pr (RC ls br x y')::τ')):ACallF κ Tryz.prog 77 [JP pr,.agg [I k,.raw (.string ex),.raw (.string et),.raw (.string ea),I s,B f]] σ K :=
 Zo (e:=⟨k,ex,et,ea,s,f⟩) hJ hl hK
theorem Ns {pr br:Nat}{ls:List Ln}{x y:AV}{op:List Int}{l:List EvV}{τ σ0:List Res}{k:Int}{t:TP} (hJ:JX x y op l τ σ0) (hl:op.length≤1000) (hll:l.length≤100000000000)
  (h1:op.length < 200→∀ x' y' τ',JX x' y' (op++[k]) (l++[dM k t]) τ' σ0→K (.ret (.tup [])) (.obj pr (RC ls br x' y')::τ')) (h2:200≤op.length→K (.pan (bI 8)) (.obj pr (RC ls br x y)::τ)):ACallF κ Tryz.prog 78 [JP pr,I k,kH t] (.obj pr (RC ls br x y)::τ) K:=by
 obtain ⟨ρx,hx⟩:=hJ.row;have hxl:(op.map I).length=op.length:=List.length_map _
 generalize op.map I=m at hx hxl;rcases Nat.lt_or_ge op.length 200 with hb|hb
 ·skip
  refine ACallF.dropL (aa Tryz.func78 rfl ?_);simp only [Tryz.ntmps78]
  repeat' (first|( with_reducible refine dU hx ?_)|simp only [WL,ay,WM,reduceCtorEq,bg,Nat.reduceAdd,Nat.reduceSub,Nat.reduceEqDiff,true_and,T9,cb,OO,fR gW,fR lX,fR oN,fR oX,pj,zo,Xa,Tryz.results78]|(with_reducible first|refine ax (hb:=?_)|refine au (hK:=?_)|refine aQ (hK:=fun b=>?_)|refine aI (hK:=?_)|refine callD_mk (FP hJ hll (fun y' τ' hJ'=>?_))|refine callD_mk (V3 hJ' (by omega) (fun x'' τ'' hJ''=>?_))|refine cD (qg ?_))|((with_reducible first|refine ai (fun h=>?_) (fun h=>?_)|refine ab (fun h=>?_) (fun h=>?_))<;>(try simp only [h])<;>(try simp only [bf,ba] at h))|omega)
  exact ak (ah ae) (aj rfl) (h1 hb _ _ _ (by assumption))
 ·skip
  refine ACallF.dropL (aa Tryz.func78 rfl ?_);simp only [Tryz.ntmps78]
  repeat' (first|( with_reducible refine dU hx ?_)|simp only [WL,ay,WM,reduceCtorEq,bg,Nat.reduceAdd,Nat.reduceSub,Nat.reduceEqDiff,true_and,T9,cb,OO,fR gW,fR lX,fR oN,fR oX,pj,zo]|(with_reducible first|refine ax (hb:=?_)|refine au (hK:=?_)|refine aQ (hK:=fun b=>?_)|refine aI (hK:=?_)|refine cD (qg ?_))|((with_reducible first|refine ai (fun h=>?_) (fun h=>?_)|refine ab (fun h=>?_) (fun h=>?_))<;>(try simp only [h])<;>(try simp only [bf,ba] at h))|omega)
  exact aS (ah ae) rfl (h2 hb)
theorem L7 {pr br:Nat}{ls:List Ln}{x y:AV}{op:List Int}{l:List EvV}{ρ τ σ0:List Res}{k:Int}{t:TP} [hS:Split σ pr ρ (RC ls br x y) τ] (hJ:JX x y op l τ σ0) (hl:op.length≤1000) (hll:l.length≤100000000000)
  (h1:op.length < 200→∀ x' y' τ',JX x' y' (op++[k]) (l++[dM k t]) τ' σ0→K (.ret (.tup [])) (ρ ++ .obj pr (RC ls br x' y')::τ')) (h2:200≤op.length→K (.pan (bI 8)) σ):ACallF κ Tryz.prog 78 [JP pr,I k,kH t] σ K :=
 ACallF.at_ (b:=pr) (Ns hJ hl hll h1 (fun h=>by have:=h2 h;rwa [hS.is] at this))
theorem VV {pr br:Nat}{ls:List Ln}{x y:AV}{op:List Int}{l:List EvV}{τ σ0:List Res}{e k:Int} (hJ:JX x y (op++[e]) l τ σ0) (hl:op.length≤1000) (hll:l.length≤100000000000)
  (h1:∀ x' y' τ',JX x' y' op (l++[ga k]) τ' σ0→K (.ret (.tup [])) (.obj pr (RC ls br x' y')::τ')):ACallF κ Tryz.prog 80 [JP pr,I k] (.obj pr (RC ls br x y)::τ) K:=by
 refine ACallF.dropL (aa Tryz.func80 rfl ?_);simp only [Tryz.ntmps80]
 repeat' (first|simp only [WL,WM,Nat.reduceAdd,Nat.reduceSub,Nat.reduceEqDiff,true_and,OO,fR lX,zo,XP,Tryz.results80]|(with_reducible first|refine ax (hb:=?_)|refine aI (hK:=?_)|refine callD_mk (FP hJ hll (fun y' τ' hJ'=>?_))|refine cD (W1 hJ' (by omega) (fun x'' τ'' hJ''=>?_))))
 exact ak ae (aj rfl) (h1 _ _ _ (by assumption))
theorem NZ {pr br:Nat}{ls:List Ln}{x y:AV}{op:List Int}{l:List EvV}{ρ τ σ0:List Res}{e k:Int} [hS:Split σ pr ρ (RC ls br x y) τ] (hJ:JX x y (op++[e]) l τ σ0) (hl:op.length≤1000) (hll:l.length≤100000000000)
  (h1:∀ x' y' τ',JX x' y' op (l++[ga k]) τ' σ0→K (.ret (.tup [])) (ρ ++ .obj pr (RC ls br x' y')::τ')):ACallF κ Tryz.prog 80 [JP pr,I k] σ K :=
 ACallF.at_ (b:=pr) (VV hJ hl hll h1)
theorem Nx {pr br:Nat}{ls:List Ln}{x y:AV}{op:List Int}{l:List EvV}{τ σ0:List Res}{t:TP} (hJ:JX x y op l τ σ0) (hll:l.length≤100000000000)
  (h1:∀ y' τ',JX x y' op (l++[mR t]) τ' σ0→K (.ret (.tup [])) (.obj pr (RC ls br x y')::τ')):ACallF κ Tryz.prog 62 [JP pr,kH t] (.obj pr (RC ls br x y)::τ) K:=by
 refine ACallF.dropL (aa Tryz.func62 rfl ?_);simp only [Tryz.ntmps62]
 repeat' (first|simp only [WL,WM,Nat.reduceAdd,Nat.reduceSub,Nat.reduceEqDiff,true_and,T9,fR oN,fR oX,zo,Tryz.results62]|(with_reducible first|refine ax (hb:=?_)|refine au (hK:=?_)|refine aQ (hK:=fun b=>?_)|refine aI (hK:=?_)|refine callD_mk (FP hJ hll (fun y' τ' hJ'=>?_))))
 exact ak (ah ae) (aj rfl) (h1 _ _ (by assumption))
theorem ug {pr br:Nat}{ls:List Ln}{x y:AV}{op:List Int}{l:List EvV}{ρ τ σ0:List Res}{t:TP} [hS:Split σ pr ρ (RC ls br x y) τ] (hJ:JX x y op l τ σ0) (hll:l.length≤100000000000)
  (h1:∀ y' τ',JX x y' op (l++[mR t]) τ' σ0→K (.ret (.tup [])) (ρ ++ .obj pr (RC ls br x y')::τ')):ACallF κ Tryz.prog 62 [JP pr,kH t] σ K :=
 ACallF.at_ (b:=pr) (Nx hJ hll h1)
theorem ET {pr br ix:Nat}{ls:List Ln}{x y:AV} [hJ:Hold σ pr ix (RC ls br x y)] {i c:Int} (hs:Small ls) (hi:0≤i∧i < ls.length) (hc:-1000000000≤c∧c≤1000000000)
  (h1:¬0 < (bz ls i c).1.length→K (.ret (I (i+1))) σ) (h2:0 < (bz ls i c).1.length→K (.pan (bI 2)) σ):ACallF κ Tryz.prog 91 [JP pr,I i,I c] σ K:=by
 have hl:=hs.1
 have hr:=(ez (c:=c) hs hi).1
 refine ACallF.dropL (aa Tryz.func91 rfl ?_);simp only [Tryz.ntmps91]
 repeat' (first|simp only [WL,ay,WM,reduceCtorEq,bg,Nat.reduceAdd,Nat.reduceSub,Nat.reduceLT,true_and,cb,kX,j7,Tryz.results91]|simp (disch:=first|omega|(simp only [aU];omega)) only [an]|(with_reducible first|refine cD (kN hs hi hc ?_)|refine cD (Fx (fun h=>?_) (fun h=>?_))))
 ·exact ak ae (aj rfl) (h1 (by have:((bz ls i c).1.length:Int)=0:=beq_iff_eq.1 (by assumption);omega))
 ·exact aS ae rfl (h2 (by have:¬((bz ls i c).1.length:Int)=0:=beq_eq_false_iff_ne.1 (by assumption);omega))
theorem gK {pr br ix:Nat}{ls:List Ln}{x y:AV} [hJ:Hold σ pr ix (RC ls br x y)] {i k:Int}{ok:Bool} (hn:fX ls i=.ok (k,ok)) (hs:Small ls) (hi:0≤i∧i≤ls.length) (hK:K (.ret (.tup [I k,B ok])) σ):ACallF κ Tryz.prog 51 [JP pr,I i] σ K :=
 PI hs hi (fun k' ok' h=>by rw [hn] at h;cases h;exact hK) (fun e h=>by rw [hn] at h;cases h)
theorem sc {pr br ix:Nat}{ls:List Ln}{x y:AV} [hJ:Hold σ pr ix (RC ls br x y)] {i e:Int} (hn:fX ls i=.error e) (hs:Small ls) (hi:0≤i∧i≤ls.length) (hK:K (.pan (bI e)) σ):ACallF κ Tryz.prog 51 [JP pr,I i] σ K :=
 PI hs hi (fun k' ok' h=>by rw [hn] at h;cases h) (fun e h=>by rw [hn] at h;cases h;exact hK)
theorem AZ {pr br ix:Nat}{ls:List Ln}{x y:AV} [hJ:Hold σ pr ix (RC ls br x y)] {i c:Int} (hs:Small ls) (hi:0≤i∧i≤ls.length)
  (h1:∀ k ok,qd ls i c=.ok (k,ok)→K (.ret (.tup [I k,B ok])) σ) (h2:∀ e,qd ls i c=.error e→K (.pan (bI e)) σ):ACallF κ Tryz.prog 79 [JP pr,I i,I c] σ K:=by
 have hl:=hs.1
 unfold qd at h1 h2;cases hn:fX ls i with
 | error e =>
  rw [hn] at h2;refine ACallF.dropL (aa Tryz.func79 rfl ?_);simp only [Tryz.ntmps79]
  repeat' (first|simp only [WL,WM,Nat.reduceAdd,Nat.reduceSub,true_and,jf]|with_reducible refine cD (sc hn hs hi ?_))
  exact aS ae rfl (h2 _ rfl)
 | ok r =>
  obtain ⟨k,ok⟩:=r;rw [hn] at h1 h2;dsimp only at h1 h2;have hk:=jB hi.2 hn
  have hx:=fun h:k.toNat < ls.length=>hs.at_ h
  cases ok
  ·rw [if_pos (.inl rfl)] at h1
   refine ACallF.dropL (aa Tryz.func79 rfl ?_);simp only [Tryz.ntmps79]
   repeat' (first|simp only [WL,WM,Nat.reduceAdd,Nat.reduceSub,Nat.reduceLT,Bool.not_false,true_and,reduceIte,jf,Tryz.results79]|with_reducible refine cD (gK hn hs hi ?_))
   exact ak ae (aj rfl) (h1 _ _ rfl)
  ·have hkl:=hk.2.2 rfl
   dsimp only [aF] at h1 h2;refine ACallF.dropL (aa Tryz.func79 rfl ?_);simp only [Tryz.ntmps79]
   repeat' (first|simp only [WL,ay,WM,reduceCtorEq,bg,Nat.reduceAdd,Nat.reduceSub,Nat.reduceLT,Nat.reduceLeDiff,Nat.reduceEqDiff,Bool.not_true,true_and,reduceIte,Bool.false_eq_true,T3,gg,jm,fC db,fR gL,jf,pj,Tryz.results79]|simp (disch:=first|omega|(simp only [aU];omega)) only [dO]|(with_reducible first|refine ax (hb:=?_)|refine au (hK:=?_)|refine cD (gK hn hs hi ?_)|refine cD (qg ?_))|((with_reducible first|refine ai (fun h=>?_) (fun h=>?_)|refine ab (fun h=>?_) (fun h=>?_))<;>(try simp only [h])<;>(try simp only [bf,ba] at h)))
   all_goals first
    | exact ak ae (aj rfl) (h1 _ _ (by rw [if_pos (.inr (by assumption))]))
    | exact aS ae rfl (h2 _ (by rw [if_neg (by rintro (h|h);cases h;omega),if_pos (by assumption)]))
    | exact ak ae (aj rfl) (h1 _ _ (by rw [if_neg (by rintro (h|h);cases h;omega),if_neg (by omega)]))
theorem nn {pr br ix:Nat}{ls:List Ln}{x y:AV} [hJ:Hold σ pr ix (RC ls br x y)] {i c k:Int}{ok:Bool} (hn:qd ls i c=.ok (k,ok)) (hs:Small ls) (hi:0≤i∧i≤ls.length) (hK:K (.ret (.tup [I k,B ok])) σ):ACallF κ Tryz.prog 79 [JP pr,I i,I c] σ K :=
 AZ hs hi (fun k' ok' h=>by rw [hn] at h;cases h;exact hK) (fun e h=>by rw [hn] at h;cases h)
theorem DJ {pr br ix:Nat}{ls:List Ln}{x y:AV} [hJ:Hold σ pr ix (RC ls br x y)] {i c e:Int} (hn:qd ls i c=.error e) (hs:Small ls) (hi:0≤i∧i≤ls.length) (hK:K (.pan (bI e)) σ):ACallF κ Tryz.prog 79 [JP pr,I i,I c] σ K :=
 AZ hs hi (fun k' ok' h=>by rw [hn] at h;cases h) (fun e h=>by rw [hn] at h;cases h;exact hK)
theorem IA {x y:ByteArray}{v:Option Value} (h:x.size≤1000000∧y.size≤1000000):(if ((x.size+y.size:Nat):Int) > IntKind.i64.max then none else v)=v:=by
 rw [if_neg];have:IntKind.i64.max=9223372036854775807:=by decide
 omega
theorem FC {a b:TP} (hb:a.1.size≤1000000∧a.2.size≤1000000∧b.1.size≤1000000∧b.2.size≤1000000) (h1:∀ t,ob a b=some t→K (.ret (kH t)) σ) (h2:ob a b=none→K (.pan (bI 2)) σ):ACallF κ Tryz.prog 69 [kH a,kH b] σ K:=by
 have hT:((cf a.1 || cf b.1) && (cf a.2 || cf b.2))=true→K (.ret (kH (a.1++b.1,a.2++b.2))) σ:=fun h=>h1 _ (if_pos h)
 have hF:((cf a.1 || cf b.1) && (cf a.2 || cf b.2))=false→K (.pan (bI 2)) σ:=fun h=>h2 (if_neg (by rw [h];exact Bool.false_ne_true))
 clear h1 h2;unfold cf at hT hF;refine ACallF.dropL (aa Tryz.func69 rfl ?_);simp only [Tryz.ntmps69]
 repeat' (first|simp only [WL,dx,WM,Nat.reduceAdd,Nat.reduceSub,Nat.reduceEqDiff,Bool.not_true,Bool.not_false,true_and,reduceIte,Bool.false_eq_true,T9,fR oN,fR oX,j7,Tryz.results69]|simp (disch:=first|omega|(simp only [aU];omega)) only [IA]|(with_reducible first|refine ax (hb:=?_)|refine au (hK:=?_)|refine az (hK:=?_)|refine aQ (hK:=fun b=>?_)|refine aV (hK:=fun b=>?_)|refine aI (hK:=?_)|refine cD (Fx (fun h=>?_) (fun h=>?_)))|((with_reducible refine aY ?_);apply di (hf:=Tryz.results69);exact bn)|((with_reducible first|refine ai (fun h=>?_) (fun h=>?_)|refine ab (fun h=>?_) (fun h=>?_))<;>(try simp only [h])<;>(try simp only [bf,ba] at h)))
 all_goals first
  | exact ak bC (aj rfl) (hT (by generalize ({ data:=#[] }:ByteArray).toList=E at *;simp_all))
  | exact aS bC rfl (hF (by generalize ({ data:=#[] }:ByteArray).toList=E at *;simp_all))
theorem tc {pr br ix iy:Nat}{ls:List Ln}{x y:AV} [hJ:Hold σ pr ix (RC ls br x y)] [hR:Hold σ br iy [SL none ls]] {i c:Int} (hs:Small ls) (hi:0≤i∧i < ls.length) (hc:0≤c∧c≤1000000000) (hK:K (.ret (B (Ao ls i c))) σ):ACallF κ Tryz.prog 65 [JP pr,I i,I c] σ K:=by
 unfold Ao at hK;cases h1:fb ls i c 63<;>cases h2:qa (cd ls i) c
 all_goals
  rw [h1,h2] at hK;refine ACallF.dropL (aa Tryz.func65 rfl ?_);simp only [Tryz.ntmps65]
  repeat' (first|simp only [WL,WM,Nat.reduceAdd,Nat.reduceSub,Nat.reduceLT,Nat.reduceEqDiff,true_and,DO,fR gq,ee,A6,Tryz.results65,h1,h2,wX,nD]|(with_reducible first|refine ax (hb:=?_)|refine au (hK:=?_)|refine cD (eg hs hi (by omega) ?_)|refine callD_mk (JL (ls:=ls) hs (by omega) ?_)))
 all_goals first
  | exact ak ae (aj rfl) hK
theorem KI {l:List (List Int)}{c:Int} (hl:gm l≤1000000000) (hK:K (.ret (SI none (GC l c))) σ):ACallF κ Tryz.prog 129 [nB o l,I c] σ K:=by
 have hlen:=gF l
 have hfl:=pS l
 have hel:=nu l.length (cg l) c hfl
 have hmin:(l.take (cg l)).length=cg l:=by simp;omega
 refine ACallF.dropL (aa Tryz.func129 rfl ?_);simp only [Tryz.ntmps129]
 repeat' (first|simp only [WL,WM,Int.reduceToNat,Nat.reduceAdd,Nat.reduceSub,true_and,cb,js,JK,hmin]|(with_reducible first|refine ax (hb:=?_)|refine cD (P1 ?_ ?_))|omega)
 refine bF (fun x:Nat × List Int × Option (Nat × Nat)=>⟨(nB o l::I c::.any::.any::.any::I (cg l:Nat)::SI (some x.2.2) x.2.1::.any::.any::.any::.any::.any::.any::nB none (l.take (cg l))::I (cg l:Nat)::I x.1::.any::.any::.any::.any::.any::.any::.any::.any::.any::.any::.any::.any::.any::.any::.any::.any::.any::.any::.any::.any::[]),.tip x.2.2::σ,true,[]⟩)
  (fun x=>x.1≤cg l∧jN true (l.take (cg l))=x.2.1++jN (decide (x.1=0)) ((l.take (cg l)).drop x.1)∧(x.1=0→x.2.1=[])) (fun x=>cg l - x.1) (0,[],none) (aM bH ResW.void id) ⟨Nat.zero_le _,by simp,fun _=>rfl⟩ ?_
 rintro ⟨k,out,tk⟩ ⟨h1,h2,h3⟩;dsimp only at h1 h2 h3 ⊢;have ho:=Ox h2
 have e1:k < cg l→k < (l.take (cg l)).length:=fun h=>by simp;omega
 have e2:=pn (l:=l) k
 rcases Nat.lt_or_ge k (cg l) with hk|hk
 ·rw [ni hk hfl] at h2 ho
  have e3:=getD_take (l:=l) hk
  rcases Nat.eq_zero_or_pos k with rfl|hk0
  ·simp only [decide_true,zs] at h2 ho
   simp only [List.length_append] at ho
   repeat' (first|simp only [WL,ay,WM,reduceCtorEq,bg,Nat.reduceAdd,true_and,cb,js,oT,Tryz.results129,e3]|simp (disch:=first|omega|(simp only [aU];omega)) only [an,xK]|(with_reducible first|refine ax (hb:=?_)|refine cX (hlen:=?_) (hmax:=?_) (hK:=fun tk=>?_)|refine dp (hK:=?_)|refine cD (tB (by omega) (by omega) ?_))|((with_reducible first|refine ai (fun h=>?_) (fun h=>?_)|refine ab (fun h=>?_) (fun h=>?_))<;>(try simp only [h])<;>(try simp only [bf,ba] at h))|omega|(refine bq ?_;(first|omega|(simp only [aU];omega))))
   exact ⟨(1,out++l.getD 0 [],tk),aM bH (ResW.refl _) id,⟨by dsimp only;omega,by rw [h2];simp,fun h=>by omega⟩,by dsimp only;omega⟩
  ·have hk1:¬k=0:=by omega
   simp only [decide_eq_false hk1,C9] at h2 ho;simp only [List.length_append,List.length_cons] at ho
   repeat' (first|simp only [WL,ay,WM,reduceCtorEq,bg,Nat.reduceAdd,true_and,cb,js,oT,Tryz.results129,e3]|simp (disch:=first|omega|(simp only [aU];omega)) only [an,xK]|(with_reducible first|refine ax (hb:=?_)|refine cX (hlen:=?_) (hmax:=?_) (hK:=fun tk=>?_)|refine dp (hK:=?_)|refine cD (tB (by omega) (by omega) ?_))|((with_reducible first|refine ai (fun h=>?_) (fun h=>?_)|refine ab (fun h=>?_) (fun h=>?_))<;>(try simp only [h])<;>(try simp only [bf,ba] at h))|omega|(simp only [aU];omega)|(refine bq ?_;(first|omega|(simp only [aU];omega))))
   exact ⟨(k+1,out++10::l.getD k [],tk),aM bH (ResW.refl _) id,⟨by dsimp only;omega,by rw [h2];simp,fun h=>by omega⟩,by dsimp only;omega⟩
 ·rw [List.drop_eq_nil_of_le (by simp;omega)] at h2
  have e4:∀ b,jN b []=[]:=fun b=>rfl
  rw [e4,List.append_nil] at h2
  repeat' (first|simp only [WL,ay,WM,reduceCtorEq,bg,Nat.reduceAdd,true_and,cb,js,oT,Tryz.results129]|(with_reducible first|refine ax (hb:=?_)|refine cX (hlen:=?_) (hmax:=?_) (hK:=fun tk=>?_)|refine dp (hK:=?_)|refine cD (tB (by omega) (by omega) ?_))|((with_reducible first|refine ai (fun h=>?_) (fun h=>?_)|refine ab (fun h=>?_) (fun h=>?_))<;>(try simp only [h])<;>(try simp only [bf,ba] at h))|omega|(refine bq ?_;(first|omega|(simp only [aU];omega))))
  exact ak (ah ae) (eI (by rw [GC,h2];simp only [SI,List.map_append];exact le_ro)) hK
def ve:Option (List Int)→AV
 | none=>nilS
 | some t=>SI none t
theorem TX {l:List (List Int)}{c:Int} (hl:gm l≤1000000000) (hK:K (.ret (SI none (F9 l c))) σ):ACallF κ Tryz.prog 130 [nB o l,I c] σ K:=by
 have hlen:=gF l
 have hfl:=pS l
 have hel:=nu l.length (cg l) c hfl
 have hmin:(l.take (cg l)).length=cg l:=by simp;omega
 refine ACallF.dropL (aa Tryz.func130 rfl ?_);simp only [Tryz.ntmps130]
 repeat' (first|simp only [WL,WM,Int.reduceToNat,Nat.reduceAdd,Nat.reduceSub,true_and,cb,js,JK,hmin]|(with_reducible first|refine ax (hb:=?_)|refine cD (P1 ?_ ?_))|omega)
 refine bF (fun x:Nat × List Int × Option (List Int) × Nat × Option (Nat × Nat)=>⟨(nB o l::I c::.any::.any::.any::I (cg l:Nat)::SI (some x.2.2.2.2) x.2.1::ve x.2.2.1::I x.2.2.2.1::.any::.any::.any::.any::.any::.any::nB none (l.take (cg l))::I (cg l:Nat)::I x.1::.any::.any::.any::.any::.any::.any::.any::.any::.any::.any::.any::.any::.any::.any::.any::.any::.any::.any::.any::.any::.any::.any::.any::.any::.any::.any::.any::.any::.any::.any::.any::.any::.any::.any::.any::.any::.any::.any::.any::.any::.any::.any::.any::[]),.tip x.2.2.2.2::σ,true,[]⟩)
  (fun x=>x.1≤cg l∧gx none 0 (l.take (cg l))=x.2.1++gx x.2.2.1 x.2.2.2.1 ((l.take (cg l)).drop x.1)∧(x.2.2.1=none→x.2.1=[])∧(∀ t,x.2.2.1=some t→0 < t.length∧t.length≤gm l)∧x.2.2.2.1≤x.1) (fun x=>cg l - x.1) (0,[],none,0,none) (aM bH ResW.void id) ⟨Nat.zero_le _,by simp,fun _=>rfl,fun t h=>(by cases h),Nat.le_refl _⟩ ?_
 rintro ⟨k,out,s,e,tk⟩ ⟨h1,h2,h3,h5,h6⟩;dsimp only at h1 h2 h3 h5 h6 ⊢;have ho:=Pk h2
 have e1:k < cg l→k < (l.take (cg l)).length:=fun h=>by simp;omega
 have e2:=pn (l:=l) k
 have hb0:=iS e
 have hb1:=iS (e+1)
 rcases Nat.lt_or_ge k (cg l) with hk|hk
 ·rw [ni hk hfl] at h2 ho
  have e3:=getD_take (l:=l) hk
  by_cases ht:l.getD k []=[]
  ·rw [BG ht] at h2
   have ht2:(l.getD k []).length=0:=by rw [ht];rfl
   repeat' (first|simp only [WL,ay,WM,reduceCtorEq,bg,Nat.reduceAdd,Nat.reduceEqDiff,true_and,reduceIte,cb,js,oT,Tryz.results130,e3]|simp (disch:=first|omega|(simp only [aU];omega)) only [an,xK]|(with_reducible first|refine ax (hb:=?_)|refine cX (hlen:=?_) (hmax:=?_) (hK:=fun tk=>?_)|refine cD (tB (by omega) (by omega) ?_))|((with_reducible first|refine ai (fun h=>?_) (fun h=>?_)|refine ab (fun h=>?_) (fun h=>?_))<;>(try simp only [h])<;>(try simp only [bf,ba] at h))|omega)
   exact ⟨(k+1,out,s,e+1,tk),aM bH (ResW.refl _) id,⟨by dsimp only;omega,h2,h3,h5,by dsimp only;omega⟩,by dsimp only;omega⟩
  ·rw [CH ht] at h2 ho
   have ht2:0 < (l.getD k []).length:=by
    rcases Nat.eq_zero_or_pos (l.getD k []).length with h|h
    ·exact (ht (List.eq_nil_of_length_eq_zero h)).elim
    ·exact h
   simp only [List.length_append] at ho;cases s with
   | none =>
    obtain rfl:=h3 rfl;simp only [sep,ve] at h2 ho ⊢;have hc:(k+1:Int).toNat=k+1:=by omega
    repeat' (first|simp only [WL,ay,WM,reduceCtorEq,bg,Nat.reduceAdd,Nat.reduceEqDiff,true_and,reduceIte,cb,js,oT,Cg,Tryz.results130,e3]|simp (disch:=first|omega|(simp only [aU];omega)) only [an,xK]|(with_reducible first|refine ax (hb:=?_)|refine cX (hlen:=?_) (hmax:=?_) (hK:=fun tk=>?_)|refine dp (hK:=?_))|( refine callD_mk (Ai (c:=10) (by omega) (fun tk=>?_)))|with_reducible refine cD (tB (by omega) (by omega) ?_)|((with_reducible first|refine ai (fun h=>?_) (fun h=>?_)|refine ab (fun h=>?_) (fun h=>?_))<;>(try simp only [h])<;>(try simp only [bf,ba] at h))|omega|(refine bq ?_;(first|omega|(simp only [aU];omega))))
    exact ⟨(k+1,List.replicate e 10++l.getD k [],some (l.getD k []),0,_),aM (by simp only [ve];exact bH) (ResW.cons _ (ResW.sub (List.sublist_cons_self _ _))) id,⟨by dsimp only;omega,by rw [h2];simp,fun h=>(by cases h),fun t h=>(by cases h;exact ⟨ht2,e2⟩),by dsimp only;omega⟩,by dsimp only;omega⟩
   | some t =>
    obtain ⟨h7,h8⟩:=h5 t rfl;have ne1:((e:Int)+1)=((e+1:Nat):Int):=by omega
    have hs:=D7 (some t) e (l.getD k [])
    simp only [sep] at h2 ho hs;simp only [ve]
    repeat' (first|simp only [WL,ay,WM,reduceCtorEq,bg,Nat.reduceAdd,Nat.reduceEqDiff,Bool.not_false,true_and,reduceIte,Bool.false_eq_true,cb,js,oT,RK,yN,Tryz.results130,e3,ne1]|simp (disch:=first|omega|(simp only [aU];omega)) only [an,xK]|(with_reducible first|refine ax (hb:=?_)|refine cX (hlen:=?_) (hmax:=?_) (hK:=fun tk=>?_)|refine cD (tB (by omega) (by omega) ?_)|refine cD (O8 ?_ ?_)|refine cD (pA (by omega) ?_))|with_reducible refine VF (hK:=?_)|((with_reducible first|refine ai (fun h=>?_) (fun h=>?_)|refine ab (fun h=>?_) (fun h=>?_))<;>(try simp only [h])<;>(try simp only [bf,ba] at h))|omega|(simp only [aU];omega)|(refine bq ?_;(first|omega|(simp only [aU];omega))))
    ·rw [if_pos (by simp only [*,Bool.or_true,Bool.true_or])] at h2
     exact ⟨(k+1,out++(fH (e+1)++l.getD k []),some (l.getD k []),0,_),aM (by simp only [ve];exact bH) (ResW.refl _) id,⟨by dsimp only;omega,by rw [h2];simp only [List.append_assoc],fun h=>(by cases h),fun t h=>(by cases h;exact ⟨ht2,e2⟩),by dsimp only;omega⟩,by dsimp only;omega⟩
    ·rw [if_neg (by simp only [*,Bool.or_self];decide)] at h2
     exact ⟨(k+1,out++(fH e++l.getD k []),some (l.getD k []),0,_),aM (by simp only [ve];exact bH) (ResW.refl _) id,⟨by dsimp only;omega,by rw [h2];simp only [List.append_assoc],fun h=>(by cases h),fun t h=>(by cases h;exact ⟨ht2,e2⟩),by dsimp only;omega⟩,by dsimp only;omega⟩
    ·rw [if_pos (by simp only [*,Bool.or_true,Bool.true_or])] at h2
     exact ⟨(k+1,out++(fH (e+1)++l.getD k []),some (l.getD k []),0,_),aM (by simp only [ve];exact bH) (ResW.refl _) id,⟨by dsimp only;omega,by rw [h2];simp only [List.append_assoc],fun h=>(by cases h),fun t h=>(by cases h;exact ⟨ht2,e2⟩),by dsimp only;omega⟩,by dsimp only;omega⟩
 ·rw [List.drop_eq_nil_of_le (by simp;omega)] at h2
  have e4:∀ s e,gx s e []=[]:=fun s e=>rfl
  rw [e4,List.append_nil] at h2
  repeat' (first|simp only [WL,ay,WM,ne_eq,reduceCtorEq,not_false_eq_true,true_and,cb,js,oT,Tryz.results130]|(with_reducible first|refine ax (hb:=?_)|refine cX (hlen:=?_) (hmax:=?_) (hK:=fun tk=>?_)|refine cD (tB (by omega) (by omega) ?_))|((with_reducible first|refine ai (fun h=>?_) (fun h=>?_)|refine ab (fun h=>?_) (fun h=>?_))<;>(try simp only [h])<;>(try simp only [bf,ba] at h))|omega|(refine bq ?_;(first|omega|(simp only [aU];omega))))
  exact ak (ah ae) (eI (by rw [F9,h2];simp only [SI,List.map_append];exact le_ro)) hK
end Go.Proofs.YthkabaiamcjdbaaGreat
