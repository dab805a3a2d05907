/-
  Texts Vt, Iq, Is, Iy, Ky, Nm, Vi, Vu, Vw, MC, one behind the other.
-/
import Derived.Test.YthkabaiamcjdbaaGreatJ34
import Derived.Test.YthkabaiamcjdbaaGreatJ35
import Derived.Handed
set_option linter.unusedVariables false
set_option maxRecDepth 4000
set_option linter.unusedSimpArgs false
set_option maxHeartbeats 16000000
namespace Go.Proofs.YthkabaiamcjdbaaGreat
open Go.Abs
theorem P6 {l:List Int} (h:Wds l) {j:Nat} (hj:j < l.length):¬l.getD j 0=33:=by
 rw [List.getD_eq_getElem?_getD,List.getElem?_eq_getElem hj];have:=h _ (List.getElem_mem hj)
 intro e;rw [show l[j]=33 from e] at this
 revert this;decide
theorem iK {H u:List Int}{j:Nat}:(H++u).getD j 0=if j < H.length then H.getD j 0 else u.getD (j - H.length) 0:=by
 split
 ·rename_i h
  rw [List.getD_eq_getElem?_getD,List.getElem?_append_left h,List.getD_eq_getElem?_getD]
 ·rename_i h
  rw [List.getD_eq_getElem?_getD,List.getElem?_append_right (by omega),List.getD_eq_getElem?_getD]
theorem mC {w:Nat}{h u:List Int} (hh:Wds h) (hu:Wds u):O6 (cz w h u):=fun c hc=>by
 rcases List.mem_append.1 hc with hc|hc
 ·exact si hh c hc
 ·exact np (hu c hc)
theorem vX {w:Nat}{h u:List Int} (hh:Wds h) (hu:Wds u):(aK (cz w h u)).size=(cz w h u).length:=by
 rw [← bJ,gz (mC hh hu)]
theorem Rx {w:Nat}{h u:List Int} (hh:Wds h) (h0:0 < h.length) (hu:Wds u) (u0:0 < u.length):gw (aK (cz w h u))=(dN w h).length:=by
 have hb:=gz (mC (w:=w) hh hu)
 have hs:=vX (w:=w) hh hu
 unfold cz dN at *;split at hb<;>rename_i hw
 ·rw [if_pos hw] at hs ⊢
  have e:33::(h++[33])++u=33::(h++(33::u)):=by simp
  rw [e] at hb hs ⊢;rw [i6 (k:=h.length+1) (by rw [hs];simp) (by omega) (fun j h1 h2=>?_) ?_]
  ·simp
  ·rw [hb,List.getD_cons_succ,iK,if_neg (by omega),Nat.sub_self]
   rfl
  ·obtain ⟨j,rfl⟩:∃ j',j=j'+1:=⟨j - 1,by omega⟩
   rw [hb,List.getD_cons_succ,iK,if_pos (by omega)];exact P6 hh (by omega)
 ·rw [if_neg hw] at hs ⊢
  split at hb<;>rename_i hw2
  ·rw [if_pos hw2] at hs ⊢
   rw [i6 (k:=1) (by rw [hs];simp) (by omega) (fun j h1 h2=>by omega) (by rw [hb];rfl)];rfl
  ·rw [if_neg hw2] at hs ⊢
   rw [Q5 (fun j h1 h2=>?_)]
   ·rfl
   ·rw [hs] at h2
    simp only [List.length_append,List.length_singleton] at h2;rw [hb,iK,if_neg (by simp;omega)];exact P6 hu (by simp only [List.length_singleton];omega)
theorem KM {w:Nat}{h u:List Int} (hh:Wds h) (h0:0 < h.length) (hu:Wds u) (u0:0 < u.length) (r:List Int):¬cz w h u=33::60::r:=by
 intro e;have h1:=congrArg (fun l=>l.getD 1 0) e
 have h1:(cz w h u).getD 1 0=60:=h1
 have hx:∀ l:List Int,Wds l→0 < l.length→¬l.getD 0 0=60:=fun l hl h0=>by
  rw [List.getD_eq_getElem?_getD,List.getElem?_eq_getElem h0];have:=hl _ (List.getElem_mem h0)
  intro e;rw [show l[0]=60 from e] at this
  revert this;decide
 unfold cz dN at h1;split at h1
 ·rw [iK,if_pos (by simp),show 33::(h++[33])=[33]++(h++[33]) from rfl,iK,if_neg (by simp),iK,if_pos (by simp;omega)] at h1
  exact hx h hh h0 h1
 ·split at h1
  ·rw [iK,if_pos (by simp)] at h1
   revert h1;decide
  ·rw [iK,if_neg (by simp)] at h1
   exact hx u hu u0 h1
theorem Dq {w:Nat}{h u:List Int} (hh:Wds h) (h0:0 < h.length) (hu:Wds u) (u0:0 < u.length):TagG (cz w h u):=by
 refine ⟨?_,mC hh hu,(JI hh h0 u0 hu).1⟩;obtain ⟨r,hr⟩:=sX (w:=w) (h:=h);exact ⟨r++u,by unfold cz;rw [hr];rfl⟩
theorem BH {w:Nat}{h u:List Int}{m:MapL} (hh:Wds h) (h0:0 < h.length) (hu:Wds u) (u0:0 < u.length):cV m (aK (cz w h u))=if (o0 m (aK (dN w h))).2=false then (({ data:=#[] }:ByteArray),11) else ((o0 m (aK (dN w h))).1++aK u,0):=by
 have hb:=gz (mC (w:=w) hh hu)
 have hs:=vX (w:=w) hh hu
 have hG:=Dq (w:=w) hh h0 hu u0
 obtain ⟨r,hr⟩:=hG.hd;have hlen:2≤(cz w h u).length:=by
  have:=px (w:=w) (h:=h)
  unfold cz;rw [List.length_append];omega
 have a1:((aK (cz w h u)).toList == ({ data:=#[] }:ByteArray).toList)=false:=sM (by rw [hb,E3,hr];simp)
 have a2:((aK (cz w h u)).toList == bangB.toList)=false:=sM (by
  rw [hb,D1];intro e;rw [e] at hlen;simp at hlen)
 have a3:hasB (aK (cz w h u)) lessB=false:=BV (fun q hq=>by
  rw [hb,OJ,hr] at hq;have:=(List.cons.inj hq).1
  omega)
 have a4:hasB (aK (cz w h u)) less2B=false:=BV (fun q hq=>by
  rw [hb,LL] at hq;exact KM hh h0 hu u0 q hq)
 have a5:pC (aK (cz w h u))=true:=by
  rw [CQ (fun c hc=>by
   rw [hb] at hc;have:=hG.prn c hc
   omega) a3,a4,hb,(JI hh h0 u0 hu).2]
  simp
 have hc:=Rx (w:=w) hh h0 hu u0
 have e1:(aK (cz w h u)).extract 0 (dN w h).length=aK (dN w h):=lp (by
  rw [KT,hb,gz (si hh)];exact List.take_left' rfl)
 have e2:(aK (cz w h u)).extract (dN w h).length (aK (cz w h u)).size=aK u:=lp (by
  rw [Cf,hb,gz hu.prn];exact List.drop_left' rfl)
 unfold cV;rw [a1,a2,a3,a5,hc,e1,e2,if_neg (by simp),if_neg (by simp),if_neg (by simp)]
theorem KZ {w:Nat}{h:List Int} (hh:Wds h) (h0:0 < h.length):o0 [] (aK (dN w h))=if w=0 then (({ data:=#[] }:ByteArray),false) else if w=1 then (yB,true) else (bangB,true):=by
 show mj (aK (dN w h))=_
 have hb:=gz (si (w:=w) hh)
 unfold dN at *;split at hb<;>rename_i hw
 ·rw [if_pos hw,if_pos hw]
  unfold mj;rw [sM (by rw [hb,D1];intro e;have:=congrArg List.length e;simp at this),sM (by rw [hb,JB];intro e;have:=congrArg List.length e;rw [List.length_cons,List.length_append,List.length_singleton] at this;change h.length+1+1=2 at this;omega),if_neg (by simp),if_neg (by simp)]
 ·rw [if_neg hw,if_neg hw]
  split at hb<;>rename_i hw2
  ·rw [if_pos hw2,if_pos hw2,show aK [33,33]=bang2B by decide +kernel,TV]
  ·rw [if_neg hw2,if_neg hw2,show aK [33]=bangB by decide +kernel,Xl]
theorem Oo {H p:ByteArray}:o0 [(H,p,0)] H=(p,true):=by
 unfold o0 cL;rw [if_pos rfl]
abbrev HW (H p t:List Int):Ln:=(0,cW H p t)
abbrev lnB:Ln:=(0,[45,45,45])
theorem uL {w:Nat}{h p t:List Int}{m:MapL}{v:Int} (hh:Wds h) (hp:0 < p.length) (hu:cG dQ p=p.length) (hs:bM t=0) (ht:uq t=true):kM (cW (dN w h) p t) m v=if (cL m (aK (dN w h))).isSome=true then none else some (m++[(aK (dN w h),aK p,m.length)],v):=by
 unfold kM;rw [N3 hh hp hu hs ht];dsimp only;rw [if_neg (by decide),if_neg (by decide +kernel),if_pos (by decide +kernel)]
theorem re {ls:List Ln}{f:Nat}{i:Int}{m:MapL}{v:Int}{s:Bool}{H p t:List Int} (hi:i < ls.length) (hl:aF ls i=HW H p t) (hb:dW (aF ls (i+1)).2=false):kK ls (f+1) i m v s=match kM (cW H p t) m v with
  | none=>.error 2
  | some (m',v')=>kK ls f (i+1) m' v' true:=by
 rw [kK,hl,if_pos ⟨hi,by rfl⟩,lU (by rw [hb];rintro ⟨-,h⟩;cases h)];rfl
structure DrIn (h p u:List Int):Prop where
 hh:Wds h
 h0:0 < h.length
 hu:Wds u
 u0:0 < u.length
 p0:0 < p.length
 pu:cG dQ p=p.length
abbrev cT:List Int:=[32,35,32,99]
theorem LJ {w:Nat}{h p u:List Int} (hI:DrIn h p u) {ls:List Ln} (hl0:aF ls 0=HW (dN w h) p cT) (hl1:aF ls 1=lnB) (hn:1 < ls.length):iO ls 0=.ok ([(aK (dN w h),aK p,0)],1):=by
 obtain ⟨n,hn2⟩:∃ n,ls.length=n+1:=⟨ls.length - 1,by omega⟩
 unfold iO;rw [re (by omega) hl0 (by rw [show (0:Int)+1=1 from rfl,hl1];exact qz (by decide) (by decide)),uL hI.hh hI.p0 hI.pu (by decide) (by decide),if_neg (by simp [cL]),hn2];dsimp only;rw [kK,show (0:Int)+1=1 from rfl,hl1,if_neg (by rintro ⟨-,h⟩;revert h;decide),if_neg (by rintro ⟨-,h⟩;rcases h with h|h;omega;exact h (by decide))];rfl
theorem IK {w:Nat}{h p u:List Int} (hI:DrIn h p u) {ls:List Ln} (hl0:aF ls 0=HW (dN w h) [120] []) (hl1:aF ls 1=HW (dN w h) p cT) (hb:dW (aF ls 2).2=false) (hn:1 < ls.length):iO ls 0=.error 2:=by
 obtain ⟨n,hn2⟩:∃ n,ls.length=n+1:=⟨ls.length - 1,by omega⟩
 unfold iO;rw [re (by omega) hl0 (by rw [show (0:Int)+1=1 from rfl,hl1];exact qz (by decide) (by decide)),uL hI.hh (by decide) (by decide) (by decide) (by decide),if_neg (by simp [cL]),hn2];dsimp only;rw [show (0:Int)+1=1 from rfl,re (by omega) hl1 (by rw [show (1:Int)+1=2 from rfl];exact hb),uL hI.hh hI.p0 hI.pu (by decide) (by decide),if_pos (by simp [cL])]
abbrev PY (t:ByteArray):EvV:=⟨7,aK [97],t,.empty,1,false⟩
theorem Le {G:List Int}{ls:List Ln}{j k:Int}{m:MapL}{t:ByteArray} (hd:jz ls j 3=.ok ([Gj G],k)) (hB:aF ls j=lnB) (hw:cV m (aK G)=(t,0)) (hk:¬(k < ls.length∧aZ (aF ls k).1 (aF ls k).2=2)):mK ls j m=.ok (gY true false [PY t],k,false):=by
 have hmk:Na ls j=true:=by unfold Na;rw [hB];decide
 unfold mK Dj;rw [hmk,if_pos rfl,hd];dsimp only;have:fB m [Gj G]=.ok [PY t]:=by
  unfold fB;rw [if_pos (by simp [hw])];simp [hw]
 rw [this];dsimp only;rw [if_neg hk]
theorem Rl {G:List Int}{ls:List Ln}{j k:Int}{m:MapL}{t:ByteArray} (hd:jz ls j 3=.ok ([Gj G],k)) (hB:aF ls j=lnB) (hw:cV m (aK G)=(t,11)):mK ls j m=.error 11:=by
 have hmk:Na ls j=true:=by unfold Na;rw [hB];decide
 unfold mK Dj;rw [hmk,if_pos rfl,hd];dsimp only;have:fB m [Gj G]=.error 11:=by
  unfold fB;rw [if_neg (by simp [hw])]
 rw [this]
theorem VJ {G:List Int}{ls:List Ln}{j k:Int} (hd:jz ls j 3=.ok ([Gj G],k)) (hB:aF ls j=lnB) (hl:G.length≤1000) (hk:¬(k < ls.length∧aZ (aF ls k).1 (aF ls k).2=2)):Q9 ls j:=by
 have hmk:Na ls j=true:=by unfold Na;rw [hB];decide
 refine ⟨[Gj G],k, ?_,by simp,by simp,fun e he=>?_,hk⟩
 ·unfold Dj
  rw [hmk,if_pos rfl,hd]
 ·have:e=Gj G:=by simpa using he
  subst this;have:=vY G
  show (aK G).size≤_
  omega
theorem zd {ls:List Ln}{i:Int} (hb:dW (aF ls i).2=false) (hm:¬aZ (aF ls i).1 (aF ls i).2=2):gU ls i=(i,false,true):=wg (by rw [hb];rintro ⟨-,h⟩;cases h) (fun h=>hm h.2)
theorem z8 {ls:List Ln}:gU ls (ls.length:Nat)=(((ls.length:Nat):Int),false,true):=wg (by rintro ⟨h,-⟩;omega) (by rintro ⟨h,-⟩;omega)
theorem qt {w:Nat}{h p u:List Int} (hI:DrIn h p u) (hlen:h.length≤100∧u.length≤100) {ls:List Ln}{ev:List EvV}{n:Nat}{x:Option Int} (hl0:aF ls 0=HW (dN w h) p cT) (hl1:aF ls 1=lnB) (hl2:aF ls 2=xv (cz w h u)) (hn:2 < ls.length) (ho:bZ ls 3=true) (hk:¬(3 < (ls.length:Int)∧aZ (aF ls 3).1 (aF ls 3).2=2)) (hr:RunE ls (Q9 ls) 3 false ev n x):RunE ls (Q9 ls) 0 true (gY true false [PY (aK p++aK u)]++ev) (n+1) x:=by
 have hG:=Dq (w:=w) hI.hh hI.h0 hI.hu hI.u0
 obtain ⟨r,hr2⟩:=hG.hd;have hd1:=LJ (w:=w) hI hl0 hl1 (by omega)
 have h0:bZ ls 2=false:=by
  have hl9:ls.getD (2:Int).toNat (0,[])=xv (cz w h u):=hl2
  unfold bZ;rw [hl9,decide_eq_false (by omega)];dsimp only;rw [hr2,List.cons_append,pD (by decide) (by decide)];rfl
 have hdoc:jz ls 1 3=.ok ([Gj (cz w h u)],3):=QB (j:=1) hG ⟨by decide,by omega⟩ hl1 hl2 ho h0 (uA ho)
 have hw:cV [(aK (dN w h),aK p,0)] (aK (cz w h u))=(aK p++aK u,0):=by
  rw [BH hI.hh hI.h0 hI.hu hI.u0,Oo,if_neg (by simp)]
 have hGl:(cz w h u).length≤1000:=by
  have:=px (w:=w) (h:=h)
  unfold cz;rw [List.length_append];omega
 have hmA:aZ 0 (cW (dN w h) p cT)=0:=pD (by decide) (by decide)
 refine .cons (zd (by rw [hl0];exact qz (by decide) (by decide)) (by rw [hl0];show ¬aZ 0 (cW (dN w h) p cT)=2;rw [hmA];decide)) ⟨by decide,by omega⟩ (fun m q _ e=>?_) (fun e=>by cases e) ?_ hr
 ·cases hd1.symm.trans e
  exact VJ hdoc hl1 hGl hk
 ·unfold kW
  rw [if_pos (show (true || false)=true from rfl),hd1];dsimp only;exact Le hdoc hl1 hw hk
variable {κ:Ctx} {σ:List Res} {K:Ret→List Res→Prop} {o o':Option (Option (Nat × Nat))}
theorem MU {x y:ByteArray}{v:Option Value} (h:x.size+y.size≤1000000000):(if ((x.size+y.size:Nat):Int) > IntKind.i64.max then none else v)=v:=by
 rw [if_neg];have:IntKind.i64.max=9223372036854775807:=by decide
 omega
theorem yu {l:List Int} (h:l.length≤2000):(lineOf l).2.length≤2000∧0≤(lineOf l).1∧(lineOf l).1≤2000:=by
 unfold lineOf;have h1:=List.Sublist.length_le (List.takeWhile_sublist (l:=l) (· == 32))
 have h2:=List.Sublist.length_le (List.dropWhile_sublist (l:=l) (· == 32))
 refine ⟨?_, ?_, ?_⟩<;>dsimp only<;>omega
abbrev Es (rows:List (List Int)):List Int:=rows.flatMap fun r=>r++[10]
theorem Fy:∀ rows:List (List Int),(∀ r∈rows,∀ c∈r,¬c=10∧¬c=13)→tx [] (Es rows)=rows
 | [],_=>by simp [tx]
 | r::rs,h=>by
  show tx [] ((r++[10])++Es rs)=_
  rw [List.append_assoc,List.singleton_append,M9 (fun c hc=>by have:=h r (by simp) c hc;simp [CT,this]) (by decide) (by rintro ⟨h,-⟩;exact absurd h (by decide)),Fy rs (fun x hx=>h x (by simp [hx]))]
theorem Cw {rows:List (List Int)} (h:∀ r∈rows,∀ c∈r,c=9∨32≤c∧c≤126):(jh (Es rows)).1=rows.map lineOf:=by
 have hg:Cm (Es rows)=true:=by
  unfold Cm;rw [List.all_eq_true];intro c hc;obtain ⟨r,hr,hcr⟩:=List.mem_flatMap.1 hc;rcases List.mem_append.1 hcr with h1|h1
  ·have:=h r hr c h1
   refine wL ?_ (by omega);unfold kD;simp;omega
  ·simp at h1;subst h1;decide
 unfold jh;rw [if_pos hg];show nC _=_
 unfold nC;rw [Fy rows (fun r hr c hc=>by have:=h r hr c hc;omega)]
theorem Gn {a b:List Int}{v:Option Value} (h:a.length+b.length≤200000000):(if (((aK a).size+(aK b).size:Nat):Int) > IntKind.i64.max then none else v)=v:=by
 have h1:=mw a
 have h2:=mw b
 rw [← gA,bJ] at h1 h2;exact MU (by omega)
abbrev al5T:List Int:=[97,10,45,45,45,10,98,10]
abbrev al5L:List Ln:=[(0,[97]),(0,[45,45,45]),(0,[98])]
abbrev Xu:List EvV:=[zi false,No 1 [97],zh false,zi true,No 1 [98],zh false]
theorem Gl:(jh al5T).1=al5L:=by decide
theorem vP:Small al5L:=⟨by decide,by decide⟩
theorem FJ {e:Int} (hK:K (.ret (I e)) σ):ACallF κ Tryz.prog 21 [I e] σ K:=by
 refine ACallF.dropL (aa Tryz.func21 rfl ?_);simp only [Tryz.ntmps21]
 repeat' (first|simp only [WL,WM,Nat.reduceAdd,Nat.reduceSub,true_and,Tryz.results21])
 exact ak ae (aj rfl) hK
theorem nN {Q:Int→Prop}{ls:List Ln}{ev:List EvV}{n:Nat} (hs:Small ls) (hDC:GM κ ls Q) (hD:RunE ls Q 0 true ev n none) (h0:0 < ev.length) (hl:ev.length≤100000000) (hK:∀ b c cs,K (.ret (.tup [bT b 0 ev.length c,I 0])) (.obj b (aD (ev.map EVA)++cs)::σ)):ACallF κ Tryz.prog 20 [SL none ls] σ K:=by
 refine DX hs hDC hD hl (fun e he=>by cases he) (fun _ y ρ hr=>?_) (fun e he=>by cases he);obtain ⟨b,c,cs,rfl,rfl,hc0,hc1,hc2,hc3⟩:=Bb hr (by rw [List.length_map];exact h0);have h:=hK b c (cs.drop ((ev.map EVA).length * 6))
 rw [← hc3,List.take_append_drop] at h;rw [List.length_map];exact h
theorem NB (h1:K (.ret (.tup [nilS,I 0])) σ) (h2:∀ b c cs,K (.ret (.tup [bT b 0 0 c,I 0])) (.obj b cs::σ)):ACallF κ Tryz.prog 20 [SL none []] σ K:=by
 refine DX (ls:=[]) (Q:=Q9 []) (ev:=[]) (n:=0) (x:=none) ⟨by decide,fun x hx=>by simp at hx⟩ (nd ⟨by decide,fun x hx=>by simp at hx⟩) (.nil (s:=false) (by decide)) (by decide) (fun e he=>by cases he) (fun _ y ρ hr=>?_) (fun e he=>by cases he);generalize hL:([]:List EvV).map EVA=L at hr;cases hr with
 | nil=>exact h1
 | row =>
  have:L.length=0:=by rw [← hL];rfl
  rw [this];exact h2 _ _ _
theorem su {Q:Int→Prop}{ls:List Ln}{ev:List EvV}{n:Nat}{e:Int} (hs:Small ls) (hDC:GM κ ls Q) (hD:RunE ls Q 0 true ev n (some e)) (h0:¬e=0) (hl:ev.length≤100000000) (hK:K (.ret (.tup [nilS,I e])) σ):ACallF κ Tryz.prog 20 [SL none ls] σ K :=
 DX hs hDC hD hl (fun e' he=>by cases he;exact h0) (fun h=>by cases h) (fun e' he=>by cases he;exact hK)
theorem Fs {j k:Int}{c:Int} (hd:jz al5L j (Dj al5L j)=.ok ([No 1 [c]],k)) (hk:¬(k < al5L.length∧aZ (aF al5L k).1 (aF al5L k).2=2)):mK al5L j []=.ok (gY (Na al5L j) false [No 1 [c]],k,false)∧Q9 al5L j:=by
 have e:cV [] ByteArray.empty=(ByteArray.empty,0):=by
  unfold cV;rw [if_pos (.inl (by rw [show ByteArray.empty=({ data:=#[] }:ByteArray) from rfl];exact beq_self_eq_true _))]
 refine ⟨?_,[No 1 [c]],k,hd,by simp,by simp,fun x hx=>?_,hk⟩
 ·unfold mK
  rw [hd];dsimp only;have:fB [] [No 1 [c]]=.ok [No 1 [c]]:=by
   unfold fB;rw [if_pos (by simp [e])];simp [e]
  rw [this];dsimp only;rw [if_neg hk]
 ·have:x=No 1 [c]:=by simpa using hx
  subst this;show ByteArray.empty.size≤_
  decide
theorem N9:RunE al5L (Q9 al5L) 0 true Xu 2 none:=by
 have d1:=Fs (j:=0) (k:=1) (c:=97) (by kernel_rfl) (by decide)
 have d2:=Fs (j:=1) (k:=3) (c:=98) (by kernel_rfl) (by decide)
 have e0:iO al5L 0=.ok ([],0):=by
  unfold iO;rw [kK,if_neg (by rintro ⟨-,h⟩;revert h;decide),if_neg (by rintro ⟨h,-⟩;cases h)]
 have h3:RunE al5L (Q9 al5L) 3 false [] 0 none:=.nil (s:=false) (by decide)
 have h2:=RunE.cons (ls:=al5L) (Q:=Q9 al5L) (i:=1) (j:=1) (k:=3) (may:=false) (s:=false) (d:=false) (ev:=gY true false [No 1 [98]]) (by decide) (by decide) (fun m q h=>by cases h) (fun _=>d2.2) (by
  unfold kW;exact d2.1) h3
 exact RunE.cons (ls:=al5L) (Q:=Q9 al5L) (i:=0) (j:=0) (k:=1) (may:=true) (s:=false) (d:=false) (ev:=gY false false [No 1 [97]]) (by decide) (by decide) (fun m q _ h=>by cases e0.symm.trans h;exact d1.2) (fun h=>by cases h) (by
  unfold kW;rw [if_pos (show (true || false)=true from rfl),e0];exact d1.1) h2
theorem Pt (hK:K (.ret (B true)) σ):ACallF κ Tryz.prog 17 [] σ K:=by
 have hA:Asc (aJ { data:=#[97,10,45,45,45,10,98,10] }):=⟨by decide,by decide⟩
 have hb:aJ { data:=#[97,10,45,45,45,10,98,10] }=al5T:=by decide
 have hN:=fun (σ:List Res) (K:Ret→List Res→Prop) (h1:K (.ret (.tup [nilS,I 0])) σ) (h2:∀ b c cs,K (.ret (.tup [bT b 0 0 c,I 0])) (.obj b cs::σ))=>ACallF.argsS (κ:=κ) (P:=Tryz.prog) (f:=20) (xs:=[nilS]) (ys:=[SL none []]) ⟨dJ (fg (by decide)),trivial⟩ (NB (κ:=κ) h1 h2)
 refine ACallF.dropL (aa Tryz.func17 rfl ?_);simp only [Tryz.ntmps17]
 repeat' (first|( with_reducible refine fI (hK:=?_))|simp only [WL,ay,WM,Int.reduceToNat,reduceCtorEq,bg,Nat.reduceAdd,Nat.reduceSub,Nat.reduceLT,Nat.reduceEqDiff,Bool.not_true,Bool.not_false,beq_self_eq_true,true_and,reduceIte,Bool.false_eq_true,T4,mf,fR xW,Ez,D3,E8,Tryz.results17,hb,Gl]|(with_reducible first|refine ax (hb:=?_)|refine au (hK:=?_)|refine cD (kx hA ?_)|refine callD_mk (hN _ _ ?_ (fun b c cs=>?_))|refine callD_mk (nN (ev:=Xu) vP (nd vP) N9 (by decide) (by decide) (fun rb rc cs=>?_))|refine cD (FJ ?_))|((with_reducible first|refine ai (fun h=>?_) (fun h=>?_)|refine ab (fun h=>?_) (fun h=>?_))<;>(try simp only [h])<;>(try simp only [bf,ba] at h))|omega)
 all_goals first
  | exact ak bC (aj rfl) hK
  | (exfalso;omega)
abbrev Df (H p:List Int):List Int:=[37,84,65,71,32]++H++[32]++p++[32,35,32,99,10,45,45,45,10]
abbrev zg (H u:List Int):List Int:=H++u++[32,97,10]
abbrev R6 (H:List Int):List Int:=[37,84,65,71,32]++H++[32,120,10]
theorem s4 {r:List Int} (h:∀ c∈r,32≤c∧c≤126):xC r:=fun c hc=>.inr (h c hc)
theorem wH {H p t:List Int} (hH:O6 H) (hp:O6 p) (ht:∀ c∈t,32≤c∧c≤126):xC (cW H p t):=s4 fun c hc=>by
 unfold cW at hc;rcases List.mem_append.1 hc with hc|hc
 ·simp at hc;omega
 ·rcases List.mem_append.1 hc with hc|hc
  ·have:=hH c hc;omega
  ·rcases List.mem_append.1 hc with hc|hc
   ·simp at hc;omega
   ·rcases List.mem_append.1 hc with hc|hc
    ·have:=hp c hc;omega
    ·exact ht c hc
theorem G2 {G:List Int} (hG:O6 G):xC (G++[32,97]):=s4 fun c hc=>by
 rcases List.mem_append.1 hc with hc|hc
 ·have:=hG c hc;omega
 ·simp at hc;omega
theorem C8 {c:Int}{r:List Int} (h:¬c=32):lineOf (c::r)=(0,c::r):=GO (k:=0) (l:=c::r) (.inr (by rw [List.getD_cons_zero];exact h))
structure SmL (rows:List (List Int)):Prop where
 g:∀ r∈rows,xC r∧r.length≤300
 n:rows.length≤10
theorem SmL.lines {rows:List (List Int)} (h:SmL rows):(jh (rows.flatMap (· ++ [10]))).1=rows.map lineOf:=Cw fun r hr=>(h.g r hr).1
theorem SmL.small {rows:List (List Int)} (h:SmL rows):Small (rows.map lineOf):=⟨by rw [List.length_map];have:=h.n;omega,fun x hx=>by
 obtain ⟨r,hr,rfl⟩:=List.mem_map.1 hx;exact yu (by have:=(h.g r hr).2;omega)⟩
theorem SmL.asc {rows:List (List Int)} (h:SmL rows):Asc (rows.flatMap (· ++ [10])):=by
 refine ⟨?_,fun c hc=>?_⟩
 ·have:∀ (l:List (List Int)),(∀ r∈l,r.length≤300)→(l.flatMap (· ++ [(10:Int)])).length≤301 * l.length:=fun l=>by
   induction l with
   | nil=>simp
   | cons r l ih =>
    intro hl;have h1:=hl r (by simp)
    have h2:=ih (fun x hx=>hl x (by simp [hx]))
    show ((r++[10])++l.flatMap (· ++ [10])).length≤_
    rw [List.length_append,List.length_append,List.length_singleton,List.length_cons];omega
  have h1:=this rows (fun r hr=>(h.g r hr).2)
  have h2:=h.n
  omega
 ·have:=HS (fun r hr=>(h.g r hr).1) c hc
  omega
theorem Jx {w:Nat}{h p u:List Int} (hI:DrIn h p u) (hlen:h.length≤60∧u.length≤60∧p.length≤60):∀ r∈[cW (dN w h) p cT,[45,45,45],cz w h u++[32,97],cW (dN w h) [120] []],xC r∧r.length≤300:=by
 have hH:=si (w:=w) hI.hh
 have hl:=px (w:=w) (h:=h)
 have hp:=yQ _ p (Nat.le_refl _) hI.pu
 intro r hr;simp only [List.mem_cons,List.not_mem_nil,or_false] at hr;rcases hr with rfl|rfl|rfl|rfl
 ·exact ⟨wH hH hp (by decide),by simp [cW];omega⟩
 ·exact ⟨s4 (by decide),by simp⟩
 ·exact ⟨G2 (mC hI.hh hI.hu),by simp [cz];omega⟩
 ·exact ⟨wH hH (by decide) (by decide),by simp [cW];omega⟩
theorem Dm {H p t:List Int}:lineOf (cW H p t)=HW H p t:=C8 (by decide)
theorem CV {w:Nat}{h u:List Int}:lineOf (cz w h u++[32,97])=xv (cz w h u):=by
 obtain ⟨r,hr⟩:=sX (w:=w) (h:=h);unfold cz;rw [hr];exact C8 (by decide)
theorem Cj:lineOf [45,45,45]=lnB:=C8 (by decide)
theorem TT {w:Nat}{h p u:List Int} (hI:DrIn h p u) (hlen:h.length≤60∧u.length≤60∧p.length≤60):∃ ls,(jh (Df (dN w h) p++zg (dN w h) u)).1=ls∧Small ls∧Asc (Df (dN w h) p++zg (dN w h) u)∧RunE ls (Q9 ls) 0 true [zi true,PY (aK p++aK u),zh false] 1 none:=by
 have hs:=Jx (w:=w) hI hlen
 have hS:SmL [cW (dN w h) p cT,[45,45,45],cz w h u++[32,97]]:=⟨fun r hr=>hs r (by simp only [List.mem_cons,List.not_mem_nil,or_false] at hr ⊢;rcases hr with rfl|rfl|rfl<;>simp),by simp⟩
 have e:Df (dN w h) p++zg (dN w h) u=[cW (dN w h) p cT,[45,45,45],cz w h u++[32,97]].flatMap (· ++ [10]):=by simp [Df,zg,cW,cz]
 rw [e,hS.lines];refine ⟨_,rfl,hS.small,hS.asc, ?_⟩;simp only [List.map_cons,List.map_nil,Dm,Cj,CV];have:=qt (w:=w) (ls:=[HW (dN w h) p cT,lnB,xv (cz w h u)]) (ev:=[]) (n:=0) (x:=none) hI ⟨by omega,by omega⟩ rfl rfl rfl (by simp) zY (by simp) (.nil (s:=false) z8)
 exact this
theorem QV {w:Nat}{h p u:List Int} (hI:DrIn h p u) (hlen:h.length≤60∧u.length≤60∧p.length≤60):∃ ls,(jh (R6 (dN w h)++Df (dN w h) p++zg (dN w h) u)).1=ls∧Small ls∧Asc (R6 (dN w h)++Df (dN w h) p++zg (dN w h) u)∧RunE ls (Q9 ls) 0 true [] 0 (some 2):=by
 have hs:=Jx (w:=w) hI hlen
 have hS:SmL [cW (dN w h) [120] [],cW (dN w h) p cT,[45,45,45],cz w h u++[32,97]]:=⟨fun r hr=>hs r (by simp only [List.mem_cons,List.not_mem_nil,or_false] at hr ⊢;rcases hr with rfl|rfl|rfl|rfl<;>simp),by simp⟩
 have e:R6 (dN w h)++Df (dN w h) p++zg (dN w h) u=[cW (dN w h) [120] [],cW (dN w h) p cT,[45,45,45],cz w h u++[32,97]].flatMap (· ++ [10]):=by simp [Df,zg,R6,cW,cz]
 rw [e,hS.lines];refine ⟨_,rfl,hS.small,hS.asc, ?_⟩;simp only [List.map_cons,List.map_nil,Dm,Cj,CV];generalize hls:[HW (dN w h) [120] [],HW (dN w h) p cT,lnB,xv (cz w h u)]=ls;have hd:=IK (w:=w) (ls:=ls) hI (by rw [← hls];rfl) (by rw [← hls];rfl) (by rw [← hls];exact qz (by decide) (by decide)) (by rw [← hls];simp)
 have hl0:aF ls 0=HW (dN w h) [120] []:=by rw [← hls];rfl
 refine .err (zd (by rw [hl0];exact qz (by decide) (by decide)) (by rw [hl0];show ¬aZ 0 (cW (dN w h) [120] [])=2;rw [show aZ 0 (cW (dN w h) [120] [])=0 from pD (by decide) (by decide)];decide)) ⟨by decide,by rw [← hls];simp⟩ (fun m q _ g=>by rw [hd] at g;cases g) (fun g=>by cases g) ?_ (by decide);unfold kW;rw [if_pos (show (true || false)=true from rfl),hd]
def Qu (w:Nat) (u:ByteArray):ByteArray:=if w=1 then yB++u else bangB++u
theorem KA {w:Nat}{h p u:List Int} (hI:DrIn h p u) (hlen:h.length≤60∧u.length≤60∧p.length≤60):∃ ls,(jh (Df (dN w h) p++zg (dN w h) u++[45,45,45,10]++zg (dN w h) u)).1=ls∧Small ls∧Asc (Df (dN w h) p++zg (dN w h) u++[45,45,45,10]++zg (dN w h) u)∧(w=0→RunE ls (Q9 ls) 0 true [zi true,PY (aK p++aK u),zh false] 1 (some 11))∧(¬w=0→RunE ls (Q9 ls) 0 true [zi true,PY (aK p++aK u),zh false,zi true,PY (Qu w (aK u)),zh false] 2 none):=by
 have hs:=Jx (w:=w) hI hlen
 have hS:SmL [cW (dN w h) p cT,[45,45,45],cz w h u++[32,97],[45,45,45],cz w h u++[32,97]]:=⟨fun r hr=>hs r (by simp only [List.mem_cons,List.not_mem_nil,or_false] at hr ⊢;rcases hr with rfl|rfl|rfl|rfl|rfl<;>simp),by simp⟩
 have e:Df (dN w h) p++zg (dN w h) u++[45,45,45,10]++zg (dN w h) u=[cW (dN w h) p cT,[45,45,45],cz w h u++[32,97],[45,45,45],cz w h u++[32,97]].flatMap (· ++ [10]):=by simp [Df,zg,cW,cz]
 rw [e,hS.lines];refine ⟨_,rfl,hS.small,hS.asc, ?_⟩;simp only [List.map_cons,List.map_nil,Dm,Cj,CV];have hG:=Dq (w:=w) hI.hh hI.h0 hI.hu hI.u0
 obtain ⟨r,hr2⟩:=hG.hd;have hGl:(cz w h u).length≤1000:=by
  have:=px (w:=w) (h:=h)
  unfold cz;rw [List.length_append];omega
 generalize hls:[HW (dN w h) p cT,lnB,xv (cz w h u),lnB,xv (cz w h u)]=ls;have hlen5:ls.length=5:=by rw [← hls];rfl
 have hl0:aF ls 0=HW (dN w h) p cT:=by rw [← hls];rfl
 have hl1:aF ls 1=lnB:=by rw [← hls];rfl
 have hl2:aF ls 2=xv (cz w h u):=by rw [← hls];rfl
 have hl3:aF ls 3=lnB:=by rw [← hls];rfl
 have hl4:aF ls 4=xv (cz w h u):=by rw [← hls];rfl
 have ho3:bZ ls 3=true:=F7 hl3 (by decide)
 have hk3:¬(3 < (ls.length:Int)∧aZ (aF ls 3).1 (aF ls 3).2=2):=by rw [hl3];rintro ⟨-,h⟩;revert h;decide
 have ho5:bZ ls 5=true:=by
  have:=zY (ls:=ls)
  rw [hlen5] at this;exact this
 have h04:bZ ls 4=false:=by
  have hl9:ls.getD (4:Int).toNat (0,[])=xv (cz w h u):=hl4
  unfold bZ;rw [hl9,decide_eq_false (by omega)];dsimp only;rw [hr2,List.cons_append,pD (by decide) (by decide)];rfl
 have hdoc:jz ls 3 3=.ok ([Gj (cz w h u)],5):=QB (j:=3) hG ⟨by decide,by omega⟩ hl3 hl4 ho5 h04 (uA ho5)
 have hk5:¬(5 < (ls.length:Int)∧aZ (aF ls 5).1 (aF ls 5).2=2):=by rintro ⟨h,-⟩;omega
 have hw:=BH (w:=w) (m:=[]) hI.hh hI.h0 hI.hu hI.u0
 rw [KZ hI.hh hI.h0] at hw;have hdt:gU ls 3=(3,false,true):=zd (by rw [hl3];decide) (by rw [hl3];decide)
 have hq:=VJ hdoc hl3 hGl hk5
 constructor
 ·rintro hw0
  rw [if_pos hw0,if_pos rfl] at hw;refine qt hI ⟨by omega,by omega⟩ hl0 hl1 hl2 (by omega) ho3 hk3 (.err hdt ⟨by decide,by omega⟩ (fun m q g=>by cases g) (fun _=>hq) ?_ (by decide));unfold kW;exact Rl hdoc hl3 hw
 ·rintro hw0
  have hw2:cV [] (aK (cz w h u))=(Qu w (aK u),0):=by
   rw [hw,if_neg hw0];unfold Qu;split
   ·rw [if_neg (by simp)]
   ·rw [if_neg (by simp)]
  have hend:RunE ls (Q9 ls) 5 false [] 0 none:=.nil (s:=false) (by
   have:=z8 (ls:=ls)
   rw [hlen5] at this ⊢;exact this)
  have h2:RunE ls (Q9 ls) 3 false (gY true false [PY (Qu w (aK u))]++[]) 1 none:=.cons (k:=5) (d:=false) hdt ⟨by decide,by omega⟩ (fun m q g=>by cases g) (fun _=>hq) (by
   unfold kW;exact Le hdoc hl3 hw2 hk5) hend
  exact qt hI ⟨by omega,by omega⟩ hl0 hl1 hl2 (by omega) ho3 hk3 h2
theorem yc {a b:List Int}{v:Option Value} (h:a.length+b.length≤200000000):(if (((aK a).size+(aK b).size:Nat):Int) > IntKind.i64.max then none else v)=v:=Gn h
theorem VT:({ data:=#[33] }:ByteArray)=aK [33]:=by decide +kernel
theorem Ux:({ data:=#[33,33] }:ByteArray)=aK [33,33]:=by decide +kernel
theorem TY:({ data:=#[37,84,65,71,32] }:ByteArray)=aK [37,84,65,71,32]:=by decide +kernel
theorem SN:({ data:=#[32] }:ByteArray)=aK [32]:=by decide +kernel
theorem Ui:({ data:=#[32,35,32,99,10,45,45,45,10] }:ByteArray)=aK [32,35,32,99,10,45,45,45,10]:=by decide +kernel
theorem Rh:({ data:=#[32,97,10] }:ByteArray)=aK [32,97,10]:=by decide +kernel
theorem TL:({ data:=#[32,120,10] }:ByteArray)=aK [32,120,10]:=by decide +kernel
theorem RP:({ data:=#[45,45,45,10] }:ByteArray)=aK [45,45,45,10]:=by decide +kernel
theorem VC:({ data:=#[116,97,103,58,121,97,109,108,46,111,114,103,44,50,48,48,50,58] }:ByteArray)=yB:=rfl
theorem U1:aK [33]=bangB:=by decide +kernel
theorem uW {s:ByteArray} (h:(aJ s).all cr=true):∃ l,Wds l∧s=aK l∧l.length=s.size:=by
 have hw:Wds (aJ s):=fun c hc=>List.all_eq_true.1 h c hc
 refine ⟨aJ s,hw, ?_,bJ s⟩;exact lp (gz hw.prn).symm
theorem Of {s:ByteArray}{j:Nat} (hj:j < s.size):0≤(aJ s).getD j 0∧(aJ s).getD j 0≤255:=by
 rw [← bJ] at hj;rw [List.getD_eq_getElem?_getD,List.getElem?_eq_getElem hj];exact ei s _ (List.getElem_mem hj)
theorem NS:({ data:=#[116,97,103,58,121,97,109,108,46,111,114,103,44,50,48,48,50,58] }:ByteArray)=aK [116,97,103,58,121,97,109,108,46,111,114,103,44,50,48,48,50,58]:=by decide +kernel
theorem YQ {u:List Int}:Qu 1 (aK u)=aK ([116,97,103,58,121,97,109,108,46,111,114,103,44,50,48,48,50,58]++u):=by
 unfold Qu;rw [if_pos rfl,← VC,NS,jC]
theorem YZ {u:List Int}:Qu 2 (aK u)=aK ([33]++u):=by
 unfold Qu;rw [if_neg (by decide),← U1,jC]
theorem qq {L:List Int} (h:Asc L):aJ (aK L)=L:=by
 rw [gA,lh (fun c hc=>by have:=h.2 c hc;omega)]
theorem CO {s:ByteArray} (h:gI (aJ s)=true):∃ p,s=aK p∧0 < p.length∧cG dQ p=p.length∧p.length=s.size:=by
 obtain ⟨h1,-,h2,h3⟩:=Ct h;exact ⟨_,h1,h2,h3,bJ s⟩
theorem VZ {l:List Int}{k:Nat} (h:(l.take k).all cr=true) (hk:k=l.length):l.all cr=true:=by rwa [hk,List.take_length] at h
theorem j9 (κ:Ctx) (handle:ByteArray) (hh:handle.size≤reachBytes) (prf:ByteArray) (hp:prf.size≤reachBytes) (suffix:ByteArray) (hs:suffix.size≤reachBytes) (which:Int) (hw:IntKind.i64.min≤which∧which≤IntKind.i64.max):ACallF κ Tryz.prog 8 [.raw (.string handle),.raw (.string prf),.raw (.string suffix),I which] [] (fun r _=>r=.ret (B true)):=by
  have hh:=Nat.le_trans hh (show reachBytes≤140737488355328 by decide)
  have hp:=Nat.le_trans hp (show reachBytes≤140737488355328 by decide)
  have hs:=Nat.le_trans hs (show reachBytes≤140737488355328 by decide)
  clear hw;have hz:(handle++suffix).size=handle.size+suffix.size:=ByteArray.size_append
  refine ACallF.dropL (aN Tryz.func8 rfl ?_);simp only [Tryz.ntmps8]
  repeat' (first|(with_reducible first|refine aC ?_|refine bO ?_|refine al (al ?_)|refine aG ?_|refine aB ?_|refine aw ?_)|simp only [WL,ay,dx,WM,reduceCtorEq,bg,Nat.reduceAdd,Nat.reduceSub,Bool.not_true,Bool.not_false,true_and,reduceIte,Bool.false_eq_true,T9,XA,Xd,Tryz.results8,hz]|simp (disch:=first|omega|(simp only [aU];omega)) only [mY]|(with_reducible first|refine cD (Pt ?_)|refine cD (Re ?_ ?_))|((with_reducible first|refine ai (fun h=>?_) (fun h=>?_)|refine ab (fun h=>?_) (fun h=>?_))<;>(try simp only [h])<;>(try simp only [bf,ba] at h))|omega)
  all_goals first
    | exact ny rfl
    | exact absurd trivial (by assumption)
    | (exfalso;omega)
    | skip
  rename_i g1 g2 g3 g4;have g5:gI (aJ prf)=true:=by assumption
  generalize ht:handle++suffix=t at *;have hbl:=bJ t
  refine dq (fun k:Nat=>⟨(.raw (.string handle)::.raw (.string prf)::.raw (.string suffix)::I which::.any::.any::.any::.any::.any::B true::.raw (.string t)::I k::.any::.any::.any::.any::.any::.any::.any::.any::.any::.any::.any::.any::.any::.any::.any::.any::.any::.any::.any::.any::.any::.any::.any::.any::.any::.any::.any::.any::.any::.any::.any::.any::.any::.any::.any::.any::.any::.any::.any::.any::.any::.any::.any::.any::.any::.any::.any::.any::.any::.any::.any::.any::.any::.any::.any::.any::.any::.any::.any::.any::.any::.any::.any::.any::.any::.any::.any::.any::.any::.any::.any::.any::.any::.any::.any::.any::.any::.any::.any::.any::.any::.any::.any::.any::.any::.any::.any::.any::.any::.any::.any::.any::.any::.any::.any::.any::.any::.any::.any::.any::.any::.any::.any::.any::.any::.any::.any::.any::.any::.any::.any::.any::.any::.any::.any::.any::.any::.any::.any::.any::.any::.any::.any::.any::.any::.any::.any::.any::.any::.any::.any::.any::.any::.any::.any::.any::.any::.any::.any::.any::.any::.any::.any::.any::.any::.any::.any::.any::.any::.any::.any::[]),[],true,[]⟩) (fun k=>k≤t.size∧((aJ t).take k).all cr=true) (fun k=>t.size - k) 0 (aq bH id) ⟨Nat.zero_le _,rfl⟩ ?_;rintro k ⟨hk,hall⟩;rcases Nat.lt_or_ge k t.size with hlt|hge
  · have hgk:=Of hlt
    have hgb:=Jn hlt
    cases hw:cr ((aJ t).getD k 0)
    · skip
      repeat' (first|(with_reducible first|refine al (aC ?_)|refine al (al ?_)|refine aG ?_|refine aB ?_|refine aw ?_)|simp only [WL,ay,dx,WM,ne_eq,reduceCtorEq,not_false_eq_true,Bool.not_false,true_and,T9,cI z7,Am,Tryz.results8,hw,hgb]|simp (disch:=first|omega|(simp only [aU];omega)) only [an]|(with_reducible first|refine ax (hb:=?_)|refine cD (AC ?_))|((with_reducible first|refine ai (fun h=>?_) (fun h=>?_)|refine ab (fun h=>?_) (fun h=>?_))<;>(try simp only [h])<;>(try simp only [bf,ba] at h))|omega)
      all_goals first
        | exact ny rfl
    · skip
      repeat' (first|(with_reducible first|refine al (aC ?_)|refine al (al ?_)|refine aG ?_|refine aB ?_|refine aw ?_)|simp only [WL,ay,dx,WM,ne_eq,reduceCtorEq,not_false_eq_true,Bool.not_true,true_and,T9,cI z7,Am,hw,hgb]|simp (disch:=first|omega|(simp only [aU];omega)) only [an]|(with_reducible first|refine ax (hb:=?_)|refine cD (AC ?_))|((with_reducible first|refine ai (fun h=>?_) (fun h=>?_)|refine ab (fun h=>?_) (fun h=>?_))<;>(try simp only [h])<;>(try simp only [bf,ba] at h))|omega)
      all_goals first
        | exact ⟨k+1,aq bH id,⟨by omega,Jg (by rw [hbl];exact hlt) hall hw⟩,by omega⟩
  · have hkt:k=t.size:=by omega
    have hwa:=VZ hall (by rw [hbl];exact hkt)
    subst hkt;subst ht;rw [Co,List.all_append,Bool.and_eq_true] at hwa
    try clear h
    obtain ⟨hn,hhW,rfl,hl1⟩:=uW hwa.1;obtain ⟨u,huW,rfl,hl2⟩:=uW hwa.2;obtain ⟨p,rfl,p0,pu,hl3⟩:=CO g5;have hh0:0 < hn.length:=by
      rcases Nat.eq_zero_or_pos hn.length with e|e
      · exact absurd (by rw [List.eq_nil_of_length_eq_zero e];rfl) g1
      · exact e
    have hu0:0 < u.length:=by
      rcases Nat.eq_zero_or_pos u.length with e|e
      · exact absurd (by rw [List.eq_nil_of_length_eq_zero e];rfl) g2
      · exact e
    have hI:DrIn hn p u:=⟨hhW,hh0,huW,hu0,p0,pu⟩
    have hlen:hn.length≤60∧u.length≤60∧p.length≤60:=by
      try rw [hz] at g3
      omega
    clear hwa hall hk hge hbl g1 g2 g3 g4 g5 hz hh hp hs hl1 hl2 hl3;have q0:dN 0 hn=33::(hn++[33]):=rfl
    have q1:dN 1 hn=[33,33]:=rfl
    have q2:dN 2 hn=[33]:=rfl
    repeat' (first|(with_reducible first|refine jS (id:=11) ?_|refine al (aC ?_)|refine al (al ?_)|refine aG ?_|refine aB ?_|refine aw ?_)|simp only [WL,ay,dx,WM,ne_eq,reduceCtorEq,not_false_eq_true,true_and,T9,cI z7,Am,Tryz.results8,VT,jC]|simp (disch:=first|omega|(simp only [aU];omega)) only [an,yc]|(with_reducible first|refine ax (hb:=?_)|refine cD (AC ?_))|((with_reducible first|refine ai (fun h=>?_) (fun h=>?_)|refine ab (fun h=>?_) (fun h=>?_))<;>(try simp only [h])<;>(try simp only [bf,ba] at h))|omega)
    all_goals first
      | exact absurd trivial (by assumption)
      | (exfalso;omega)
      | skip
    refine nW (fun w:Nat=>⟨(.raw (.string (aK hn))::.raw (.string (aK p))::.raw (.string (aK u))::I w::.any::.any::.any::.any::.any::B true::.any::.any::.raw (.string (aK (dN w hn)))::.any::.any::.any::.any::.any::.any::.any::.any::.any::.any::.any::.any::.any::.any::.any::.any::.any::.any::.any::.any::.any::.any::.any::.any::.any::.any::.any::.any::.any::.any::.any::.any::.any::.any::.any::.any::.any::.any::.any::.any::.any::.any::.any::.any::.any::.any::.any::.any::.any::.any::.any::.any::.any::.any::.any::.any::.any::.any::.any::.any::.any::.any::.any::.any::.any::.any::.any::.any::.any::.any::.any::.any::.any::.any::.any::.any::.any::.any::.any::.any::.any::.any::.any::.any::.any::.any::.any::.any::.any::.any::.any::.any::.any::.any::.any::.any::.any::.any::.any::.any::.any::.any::.any::.any::.any::.any::.any::.any::.any::.any::.any::.any::.any::.any::.any::.any::.any::.any::.any::.any::.any::.any::.any::.any::.any::.any::.any::.any::.any::.any::.any::.any::.any::.any::.any::.any::.any::.any::.any::.any::.any::.any::.any::.any::.any::.any::.any::.any::.any::.any::[]),[],true,[]⟩) (fun w=>w < 3) ?_ ?_
    · skip
      repeat' (first|(with_reducible first|refine aC ?_|refine aG ?_|refine aw ?_)|simp only [WL,ay,WM,ne_eq,reduceCtorEq,not_false_eq_true,true_and,Tryz.results8,Ux]|((with_reducible first|refine ai (fun h=>?_) (fun h=>?_)|refine ab (fun h=>?_) (fun h=>?_))<;>(try simp only [h])<;>(try simp only [bf,ba] at h)))
      all_goals first
        | exact ny rfl
        | exact absurd trivial (by assumption)
        | (exfalso;omega)
        | (have hw9:which=0:=by assumption
           subst hw9;exact ⟨0,aq (by rw [q0];exact bH) id,by decide⟩)
        | (have hw9:which=1:=by assumption
           subst hw9;exact ⟨1,aq (by rw [q1];exact bH) id,by decide⟩)
        | (have hw9:which=2:=by assumption
           subst hw9;exact ⟨2,aq (by rw [q2];exact bH) id,by decide⟩)
    · rintro w hw3
      obtain ⟨ls1,r1,s1,a1,R1⟩:=TT (w:=w) hI hlen;obtain ⟨ls2,r2,s2,a2,R2⟩:=QV (w:=w) hI hlen;obtain ⟨ls3,r3,s3,a3,R3,R4⟩:=KA (w:=w) hI hlen;have b1:=qq a1
      have b2:=qq a2
      have b3:=qq a3
      rw [← b1] at a1;rw [← b2] at a2;rw [← b3] at a3;have hHl:=px (w:=w) (h:=hn)
      rcases (show w=0∨w=1∨w=2 by omega) with rfl|rfl|rfl
      · have R3:=R3 rfl
        generalize dN 0 hn=H at *;clear R4 q0 q1 q2;simp only [Df,zg,R6,List.cons_append,List.nil_append] at a1 a2 a3 b1 b2 b3 r1 r2 r3
        repeat' (first|( with_reducible refine fI (hK:=?_))|(with_reducible first|refine al (al ?_)|refine aG ?_|refine aB ?_|refine aw ?_|refine aO ?_)|simp only [WL,ay,dx,WM,Int.reduceToNat,reduceCtorEq,bg,Nat.reduceAdd,Nat.reduceLT,Nat.reduceEqDiff,Bool.not_true,Bool.not_false,beq_self_eq_true,true_and,reduceIte,Bool.false_eq_true,T9,mf,fR lH,Ez,D3,E8,Tryz.results8,TY,SN,Ui,Rh,TL,RP,NS,jC,b1,b2,b3,r1,r2,r3,beq_self_eq_true,bne_self_eq_false]|simp (disch:=first|omega|(simp only [aU];omega)) only [yc]|(with_reducible first|refine ax (hb:=?_)|refine au (hK:=?_)|refine cD (kx a1 ?_)|refine cD (kx a2 ?_)|refine cD (kx a3 ?_)|refine callD_mk (nN s1 (nd s1) R1 (by simp) (by simp) (fun b c cs=>?_))|refine callD_mk (su s2 (nd s2) R2 (by decide) (by simp) ?_)|refine callD_mk (su s3 (nd s3) R3 (by decide) (by simp) ?_)|refine cD (FJ ?_))|((with_reducible first|refine ai (fun h=>?_) (fun h=>?_)|refine ab (fun h=>?_) (fun h=>?_))<;>(try simp only [h])<;>(try simp only [bf,ba] at h))|omega)
        all_goals first
          | exact ny rfl
          | exact absurd trivial (by assumption)
          | (exfalso;omega)
      · have R4:=R4 (by decide)
        generalize dN 1 hn=H at *;clear R3 q0 q1 q2;simp only [Df,zg,R6,List.cons_append,List.nil_append] at a1 a2 a3 b1 b2 b3 r1 r2 r3
        repeat' (first|( with_reducible refine fI (hK:=?_))|(with_reducible first|refine al (al ?_)|refine aG ?_|refine aB ?_|refine aw ?_|refine aO ?_)|simp only [WL,ay,dx,WM,Int.reduceToNat,reduceCtorEq,bg,Nat.reduceAdd,Nat.reduceLT,Nat.reduceEqDiff,Bool.not_true,Bool.not_false,beq_self_eq_true,true_and,reduceIte,Bool.false_eq_true,T9,mf,fR lH,Ez,D3,E8,Tryz.results8,YQ,TY,SN,Ui,Rh,TL,RP,NS,jC,b1,b2,b3,r1,r2,r3,beq_self_eq_true,bne_self_eq_false]|simp (disch:=first|omega|(simp only [aU];omega)) only [yc]|(with_reducible first|refine ax (hb:=?_)|refine au (hK:=?_)|refine cD (kx a1 ?_)|refine cD (kx a2 ?_)|refine cD (kx a3 ?_)|refine callD_mk (nN s1 (nd s1) R1 (by simp) (by simp) (fun b c cs=>?_))|refine callD_mk (su s2 (nd s2) R2 (by decide) (by simp) ?_)|refine callD_mk (nN s3 (nd s3) R4 (by simp) (by simp) (fun b c cs=>?_))|refine cD (FJ ?_))|((with_reducible first|refine ai (fun h=>?_) (fun h=>?_)|refine ab (fun h=>?_) (fun h=>?_))<;>(try simp only [h])<;>(try simp only [bf,ba] at h))|omega)
        all_goals first
          | exact ny rfl
          | exact absurd trivial (by assumption)
          | (exfalso;omega)
      · have R4:=R4 (by decide)
        generalize dN 2 hn=H at *;clear R3 q0 q1 q2;simp only [Df,zg,R6,List.cons_append,List.nil_append] at a1 a2 a3 b1 b2 b3 r1 r2 r3
        repeat' (first|( with_reducible refine fI (hK:=?_))|(with_reducible first|refine al (al ?_)|refine aG ?_|refine aB ?_|refine aw ?_|refine aO ?_)|simp only [WL,ay,dx,WM,Int.reduceToNat,reduceCtorEq,bg,Nat.reduceAdd,Nat.reduceLT,Nat.reduceEqDiff,Bool.not_true,Bool.not_false,beq_self_eq_true,true_and,reduceIte,Bool.false_eq_true,T9,mf,fR lH,Ez,D3,E8,Tryz.results8,YZ,TY,SN,Ui,Rh,TL,RP,NS,jC,b1,b2,b3,r1,r2,r3,beq_self_eq_true,bne_self_eq_false]|simp (disch:=first|omega|(simp only [aU];omega)) only [yc]|(with_reducible first|refine ax (hb:=?_)|refine au (hK:=?_)|refine cD (kx a1 ?_)|refine cD (kx a2 ?_)|refine cD (kx a3 ?_)|refine callD_mk (nN s1 (nd s1) R1 (by simp) (by simp) (fun b c cs=>?_))|refine callD_mk (su s2 (nd s2) R2 (by decide) (by simp) ?_)|refine callD_mk (nN s3 (nd s3) R4 (by simp) (by simp) (fun b c cs=>?_))|refine cD (FJ ?_))|((with_reducible first|refine ai (fun h=>?_) (fun h=>?_)|refine ab (fun h=>?_) (fun h=>?_))<;>(try simp only [h])<;>(try simp only [bf,ba] at h))|omega)
        all_goals first
          | exact ny rfl
          | exact absurd trivial (by assumption)
          | (exfalso;omega)
end Go.Proofs.YthkabaiamcjdbaaGreat
namespace Go.Abs
open Go.RowKit Go.ChangeShapes Go.WideShapes
def OpensZ (P:Program) (N:Nat) (t:TypeId) {α:Type} (av:α→AV) (ok:α→Prop):Prop :=
 ∀ {H:Type} (enc:TypeId × Value→H) (w:World) (fuel:Nat) (cs:List Value) (x:DataW H × List MemPlace),DataW.trod enc P w 0 (fun _=>true) true fuel t cs=some x→(∀ n∈DataW.weights P t x.1,n≤N)→∃ a:α,ok a∧TR (zp w) w (av a).cells cs.toArray
section
variable {P:Program} {N:Nat} {t:TypeId} {α β:Type} {av:α→AV} {ok:α→Prop}
theorem Opens.z (h:Opens P t av ok):OpensZ P N t av ok:=fun enc w fuel cs x hx _=>h enc w fuel cs x hx
theorem kC (h:isStr P t=true):OpensZ P N t (fun s:ByteArray=>.raw (.string s)) (fun s=>s.size≤N):=by
 intro H enc w fuel cs x hx hz;obtain ⟨s,rfl,rfl,hs⟩:=DataW.trod_string (eC h) hx;exact ⟨s,by have:=hz s.data.toList.length (by simp [DataW.weights]);simpa using this,TR.one (.raw _)⟩
theorem l4 {H:Type}:∀ {ts:List TypeId}{l:List (DataW H)}{i:Nat}{e:TypeId}{d:DataW H},ts[i]? = some e→l[i]? = some d→∀ n∈DataW.weights P e d,n∈DataW.weightsEach P ts l
 | [],_,i,e,d,h,_=>by simp at h
 | _::_,[],i,e,d,_,h=>by simp at h
 | t::ts,x::r,0,e,d,h,h2=>by
  intro n hn;simp at h h2;subst h;subst h2;simp only [DataW.weightsEach,List.mem_append];exact .inl hn
 | t::ts,x::r,i+1,e,d,h,h2=>by
  intro n hn;simp only [DataW.weightsEach,List.mem_append];exact .inr (l4 (by simpa using h) (by simpa using h2) n hn)
theorem OpensZ.one {H:Type}{enc:TypeId × Value→H}{w:World}{v:Value}{d:DataW H}{ps:List MemPlace} (h:OpensZ P N t av ok) (hc:∀ a,(av a).cells=[av a]) (hv:v.cells = #[v]) (hd:DataW.Trod enc P w 0 (fun _=>true) true t v d ps) (hz:∀ n∈DataW.weights P t d,n≤N):∃ a,ok a∧VR (zp w) w (av a) v:=by
 obtain ⟨fuel,hf⟩:=hd;obtain ⟨a,h1,h2⟩:=h enc w fuel _ _ hf hz;refine ⟨a,h1, ?_⟩;rw [hv,hc a] at h2;simpa using h2.get 0 (av a) rfl
theorem lI {H:Type}{ts:List TypeId}{l:List (DataW H)} (h:(DataW.weightsEach P ts l).all (·≤N)=true) {i:Nat}{e:TypeId}{d:DataW H} (h1:ts[i]? = some e) (h2:l[i]? = some d):∀ n∈DataW.weights P e d,n≤N :=
 fun n hn=>by simpa using List.all_eq_true.1 h n (l4 h1 h2 n hn)
end
theorem vw {H:Type}{enc:TypeId × Value→H}{a:Assume}{C:Checked}{os:Os}{f:FuncId}{fn:Func}{s:ChangeSpec}{conds:List PathCond}{apart fresh handsOn again:Bool}
  (own:ownKnob C.prog.godebug=none) (started:os.Started) (noInit:C.prog.inits.idxOf? f=none) (hfn:C.prog.funcs[f]? = some fn)
  (witness:∃ (w:World) (tape:Tape) (i:Input),w.os=os∧(w.forCall tape i).Shaped C.prog∧i.vars=[]∧Input.okWide C.prog (w.forCall tape i) .any w.heap.size f i ∧
   s.pre6 enc C.prog fn conds apart (w.forCall tape i).memory i.args∧a.holds C.prog (lone (Frame.enter C.prog f i.args .normal) [] (w.forCall tape i)))
  (contract:∀ (W:World) (base:Nat) (args:Array Value) (ds gs:List (DataW H)) (before:List MemPlace),
   (∀ (j:Nat) t v,fn.params[j]? = some t→args[j]? = some v→Value.okWide C.prog W .any base t v) →
   DataW.Whole enc C.prog fn.params.toList s.vars apart W args.toList ds gs before →
   (DataW.weightsEach C.prog (fn.params.toList++s.plain.varTypes C.prog) (ds++gs)).all (·≤reachBytes)=true →
   conds.all (PathCond.test C.prog ⟨fn.params.toList,ds,s.plain.varTypes C.prog,gs⟩)=true →
   a.holds C.prog (lone (Frame.enter C.prog f args .normal) [] W) →
   Calls C.prog f args W fun e W'=>∃ v,e=.returned v∧s.post enc C.prog fn apart fresh handsOn again W args v W') :
  ReturnsInHanded a C os f .any (s.pre6 enc C.prog fn conds apart) (s.post enc C.prog fn apart fresh handsOn again):=by
 refine returnsInHanded_of_calls own started noInit witness ?_;intro w tape i _ _ _ hok hpre hholds;obtain ⟨_,_,_,fn',hfn',_,_,_,_,hval⟩:=hok;have e:fn'=fn:=Option.some.inj (hfn'.symm.trans hfn)
 subst e;obtain ⟨⟨ds,gs,before,hw,hc⟩,hz⟩:=hpre;have hw':=DataW.Whole.of_heap (w':=w.forCall tape i) (by rfl) hw
 refine (contract (w.forCall tape i) w.heap.size i.args ds gs before hval hw' (hz.weights hw) hc hholds).mono fun e W' ⟨v,he,hp⟩=>?_
 subst he;exact ChangeSpec.post_blind hp
end Go.Abs
