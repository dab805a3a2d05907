/-
  Texts Kc, Ne, Nf, Ng, Se, Nj, Nk, Vg, Vh, Iq, Is, Iy, Ky, Nm, Vi, Vj, Vk, one behind the other.
-/
import Derived.Test.YthkabaiamcjdbaaGreatG32
set_option linter.unusedVariables false
set_option linter.unusedSimpArgs false
set_option maxHeartbeats 16000000
/-
 Chapter 14: lists that stand in each other by their columns: plain facts.
-/

namespace Go.Proofs.YthkabaiamcjdbaaGreat
open Go.Abs
abbrev En:=Nat × Bool
def IZ (w:Nat) (e:En):Ln:=((w * (e.1 - 1):Nat),if e.2=true then [45,32,119] else [45])
def Ee (w:Nat) (bare:Bool):List En→List Ln
 | []=>[]
 | e::r=>(if bare=true then [(2,[35,32,99]),(0,[])] else [])++IZ w e::Ee w bare r
abbrev wE:EvV:=QP [119]
inductive Blk:Nat→List En→List EvV→List En→Prop
 | last {D:Nat}:Blk D [(D,true)] [wE] []
 | back {D:Nat} {b:Bool} {r:List En} (hD:0 < D):Blk (D+1) ((D+1,true)::(D,b)::r) [wE] ((D,b)::r)
 | same {D:Nat} {b:Bool} {r rest:List En} {ev:List EvV} (h:Blk D ((D,b)::r) ev rest):Blk D ((D,true)::(D,b)::r) (wE::ev) rest
 | deep {D:Nat} {r:List En} {ev:List EvV} (h:Blk (D+1) r ev []):Blk D ((D,false)::r) (dI 3 tp0::(ev++[eo 4])) []
 | more {D:Nat} {b:Bool} {r r2 rest:List En} {ev ev2:List EvV} (h:Blk (D+1) r ev ((D,b)::r2)) (h2:Blk D ((D,b)::r2) ev2 rest):Blk D ((D,false)::r) ((dI 3 tp0::(ev++[eo 4]))++ev2) rest
theorem Blk.head {D:Nat}{es rest:List En}{ev:List EvV} (h:Blk D es ev rest):∃ b r,es=(D,b)::r:=by
 cases h<;>exact ⟨_,_,rfl⟩
def OnL (w:Nat) (bare:Bool) (ls:List Ln) (i:Int) (es:List En):Prop:=0≤i∧i≤ls.length∧ls.drop i.toNat=Ee w bare es
theorem OnL.nil {w:Nat}{bare:Bool}{ls:List Ln}{i:Int} (h:OnL w bare ls i []):(ls.length:Int)≤i:=by
 obtain ⟨h1,h2,h3⟩:=h
 have:=congrArg List.length h3
 rw [List.length_drop] at this
 simp [Ee] at this
 omega
abbrev Tu (bare:Bool) (i:Int):Int:=if bare=true then i+2 else i
theorem fM {ls l:List Ln}{i:Int}{x:Ln} (h0:0≤i) (h:ls.drop i.toNat=x::l):aE ls i=x∧i < ls.length∧ls.drop (i+1).toNat=l:=by
 have hl:=congrArg List.length h
 rw [List.length_drop,List.length_cons] at hl
 refine ⟨?_,by omega, ?_⟩
 ·show ls.getD i.toNat (0,[])=x
  rw [List.getD_eq_getElem?_getD,← List.head?_drop,h];rfl
 ·rw [show (i+1).toNat=i.toNat+1 by omega,← List.drop_drop,h];rfl
theorem OnL.line {w:Nat}{bare:Bool}{ls:List Ln}{i:Int}{e:En}{r:List En} (h:OnL w bare ls i (e::r)):aE ls (Tu bare i)=IZ w e∧Tu bare i < ls.length∧OnL w bare ls (Tu bare i+1) r∧nextP ls i=.ok (Tu bare i,true):=by
 obtain ⟨h1,h2,h3⟩:=h
 have hE:UT (45:Int):=⟨by decide,by decide,by decide⟩
 have key:∀ j:Int,0≤j→ls.drop j.toNat=IZ w e::Ee w bare r→aE ls j=IZ w e∧j < ls.length∧OnL w bare ls (j+1) r∧bC ls j=false:=fun j hj hd=>by
  obtain ⟨l1,l2,l3⟩:=fM hj hd
  refine ⟨l1,l2,⟨by omega,by omega,l3⟩, ?_⟩
  unfold bC
  rw [decide_eq_false (by omega)]
  have:bB (aE ls j).1 (aE ls j).2=0:=by
   rw [l1]
   unfold bB IZ
   rw [if_neg]
   rintro ⟨-,g1,g2,-⟩
   dsimp only at g1 g2
   split at g1<;>rename_i hb
   ·rw [if_pos hb] at g2;simp at g2
   ·simp at g1
  show (false || !(bB (aE ls j).1 (aE ls j).2 == 0))=false
  rw [this];rfl
 have hnx:∀ j:Int,aE ls j=IZ w e→j < ls.length→bC ls j=false→nextP ls j=.ok (j,true):=fun j l1 l2 l4=>by
  refine DY (k:=((w * (e.1 - 1):Nat):Int)) (c:=45) (t:=if e.2=true then [32,119] else []) l2 (by rw [l1];unfold IZ;split<;>rename_i hb<;>simp [hb]) hE l4
 cases bare with
 | false =>
  have h3:ls.drop i.toNat=IZ w e::Ee w false r:=h3
  obtain ⟨l1,l2,l3,l4⟩:=key i h1 h3
  exact ⟨l1,l2,l3,hnx i l1 l2 l4⟩
 | true =>
  have h3:ls.drop i.toNat=(2,[35,32,99])::(0,[])::IZ w e::Ee w true r:=h3
  obtain ⟨a1,a2,a3⟩:=fM h1 h3
  obtain ⟨b1,b2,b3⟩:=fM (by omega) a3
  rw [show i+1+1=i+2 by omega] at b3
  obtain ⟨l1,l2,l3,l4⟩:=key (i+2) (by omega) b3
  refine ⟨l1,l2,l3, ?_⟩
  have hn:=hnx (i+2) l1 l2 l4
  show nextP ls i=.ok (i+2,true)
  have hB:nextB ls ls.length i=nextB ls (ls.length - 2) (i+2):=by
   obtain ⟨n,hn⟩:∃ n,ls.length=n+2:=⟨ls.length - 2,by omega⟩
   rw [hn,Nat.add_sub_cancel,show n+2=(n+1)+1 from rfl,nextB,if_pos ⟨by omega,by rw [a1];decide⟩,nextB,if_pos ⟨by omega,by rw [b1];decide⟩,show i+1+1=i+2 by omega]
  have hS:∀ f,nextB ls f (i+2)=i+2:=fun f=>by
   cases f with
   | zero=>rfl
   | succ f =>
    rw [nextB,if_neg]
    rintro ⟨-,g⟩
    rw [l1] at g
    unfold IZ at g
    dsimp only at g
    split at g<;>revert g<;>decide
  unfold nextP at hn ⊢
  rw [hS] at hn
  rw [hB,hS]
  exact hn
theorem Blk.rest {D:Nat}{es rest:List En}{ev:List EvV} (h:Blk D es ev rest):∀ e r,rest=e::r→e.1+1=D:=by
 induction h with
 | last=>intro e r h;cases h
 | back=>intro e r h;cases h;rfl
 | same _ ih=>exact ih
 | deep _ _=>intro e r h;cases h
 | more _ _ _ ih=>exact ih
theorem Blk.len {D:Nat}{es rest:List En}{ev:List EvV} (h:Blk D es ev rest):rest.length < es.length:=by
 induction h with
 | last=>simp
 | back=>simp
 | same _ ih=>simp at *;omega
 | deep _ _=>simp
 | more _ _ ih ih2=>simp at *;omega
theorem Blk.mem {D:Nat}{es rest:List En}{ev:List EvV} (h:Blk D es ev rest):∀ e∈rest,e∈es:=by
 induction h with
 | last=>simp
 | back=>intro e he;exact List.mem_cons_of_mem _ he
 | same _ ih=>intro e he;exact List.mem_cons_of_mem _ (ih e he)
 | deep _ _=>simp
 | more _ _ ih ih2=>intro e he;exact List.mem_cons_of_mem _ (ih e (ih2 e he))
theorem Small.sub {l l':List Ln} (h:Small l) (hl:l'.length≤l.length) (hm:∀ x∈l',x∈l):Small l':=⟨Nat.le_trans hl h.1,fun x hx=>h.2 x (hm x hx)⟩
def Vm (x:Ln) (c:Int) (k:Int):Bool :=
 decide (0≤c - x.1) && (decide (c - x.1 < x.2.length) && (x.2.getD (c - x.1).toNat 0 == k && (decide (c - x.1+1=x.2.length) || blankI (x.2.getD (c - x.1+1).toNat 0))))
theorem IX {ls:List Ln}{i c k:Int}:signP ls i c k=Vm (aE ls i) c k:=rfl
def Cr (a b:ByteArray):Bool:=a.data.toList == b.data.toList
theorem xL {a b:ByteArray} (h:Cr a b=true):a=b:=by
 unfold Cr at h
 have h2:=eq_of_beq h
 cases a;cases b
 congr 1
 exact Array.toList_inj.1 h2
abbrev Ld (r:List Int):Prop:=∀ c∈r,c=9∨32≤c∧c≤126
theorem DT {rows:List (List Int)} (h:∀ r∈rows,Ld r):∀ c∈rows.flatMap (· ++ [(10:Int)]),c=9∨c=10∨32≤c∧c≤126:=fun c hc=>by
 obtain ⟨r,hr,hcr⟩:=List.mem_flatMap.1 hc
 rcases List.mem_append.1 hcr with h1|h1
 ·have:=h r hr c h1;omega
 ·simp at h1;omega
abbrev Dl (s:Int) (l:List Int):EvV:=⟨7,cu l,.empty,.empty,s,false⟩
end Go.Proofs.YthkabaiamcjdbaaGreat
/-
 Plain facts for chapter 7's laws. No program in sight.
-/

namespace Go.Abs
end Go.Abs
/-
 Chapter 14: ParserScalars (plain): what is folded,and how it stands on lines.
-/


namespace Go.Proofs.YthkabaiamcjdbaaGreat
open Go.Abs
theorem kF {c x:Int}{t:List Int} (h:¬c=x):bV (c::t) x=false:=jv (by rw [List.getD_cons_zero];exact h)
theorem xC {ls:List Ln}{n c:Int}{q:Int × Int}{t:List Int} (h:At ls q (c::t)) (hb:blankI c=false) (h1:¬c=35) (h2:¬c=38) (h3:¬c=33):bG ls n q=.ok (tr0,q,true):=by
 have hr:aF ls q=c::t:=h.2.2.2.2.2
 have hon:onF ls n q=some (some q):=by
  have:=vD (n:=n) (oZ (b:=[]) (by exact h) (fun c hc=>by simp at hc) (by simp) (by rw [List.getD_cons_zero];exact hb) (by rw [List.getD_cons_zero];exact h1)) rfl
  rw [this];simp
 unfold bG
 rw [hon]
 dsimp only
 exact jj (lM (by rw [hr];exact kF h2) (by rw [hr];exact kF h3))
def Ij (x:Ln) (c:Int):Bool:=!Vm x c 45 && (!Vm x c 63 && ((kL [x] c).isNone && match du [x] 0 c with
 | .ok (t,c2)=>Cr t.1 .empty && (Cr t.2 .empty && c2 == c)
 | .error _=>false))
theorem KB {ls:List Ln}{i:Int}{x:Ln} (hi:0≤i∧i < ls.length) (hl:aE ls i=x):bN ls i=[x]:=by
 unfold bN
 rw [if_pos hi]
 exact congrArg (fun x=>[x]) hl
theorem kr {ls:List Ln}{i c:Int}{x:Ln} (hl:aE ls i=x):restP ls i c=restP [x] 0 c:=by
 have h0:aE [x] 0=x:=rfl
 unfold restP iM lh
 rw [hl,h0]
theorem BD {ls:List Ln}{i c d n:Int}{x:Ln}{lead:Bool}{S:Int→Int→Bool→TP→PR}{M:Int→Int→TP→PR}{R:Int→Int→Bool→TP→PR} (hi:0≤i∧i < ls.length) (hl:aE ls i=x) (hv:Ij x c=true) (hr:0 < (restP ls i c).1.length):zx ls S M R d n i c lead tp0=gv ls i c n d tp0:=by
 have hal:=KB hi hl
 unfold Ij at hv
 simp only [Bool.and_eq_true,Bool.not_eq_true'] at hv
 obtain ⟨v1,v2,v3,v4⟩:=hv
 have hp:du ls i c=du [x] 0 c:=by
  unfold du
  rw [hal]
  rfl
 unfold zx qb
 rw [IX,IX,hl,v1,v2,hal,hp,if_neg (by simp)]
 have v3':(kL [x] c).isSome=false:=by cases h:kL [x] c<;>simp_all
 rw [v3',if_neg (by simp)]
 split at v4
 ·rename_i t c2 hpp
  simp only [Bool.and_eq_true,beq_iff_eq] at v4
  obtain ⟨w1,w2,w3⟩:=v4
  obtain ⟨a,b⟩:=t
  obtain rfl:a=.empty:=xL w1
  obtain rfl:b=.empty:=xL w2
  subst w3
  rw [hpp]
  dsimp only
  rw [show nP tp0 (ByteArray.empty,ByteArray.empty)=some tp0 by kernel_rfl]
  dsimp only
  rw [if_pos hr]
 ·cases v4
theorem vX {ls:List Ln}{n c:Int}{p:Int × Int}{t:List Int} (h:At ls p (c::t)) (hb:blankI c=false) (h1:¬c=35):ct ls n p=.ok p:=by
 have hon:onF ls n p=some (some p):=by
  have:=vD (n:=n) (oZ (b:=[]) (by exact h) (fun c hc=>by simp at hc) (by simp) (by rw [List.getD_cons_zero];exact hb) (by rw [List.getD_cons_zero];exact h1)) rfl
  rw [this];simp
 unfold ct
 rw [hon]
theorem vF {ls:List Ln}{x c:Int}{p:Int × Int}{t:List Int} (h:At ls p (c::t)):isF ls p x=(c == x):=by
 unfold isF
 rw [h.2.2.2.2.2]
 unfold bV
 rw [List.getD_cons_zero,decide_eq_true (by simp)]
 rfl
theorem xP {ls:List Ln}{x c:Int}{p:Int × Int}{t:List Int} (h:At ls p (c::t)) (hx:¬c=x):ei ls p x=false:=by
 unfold ei
 rw [h.2.2.2.2.2,kF hx]
 rfl
abbrev wE3:List EvV:=[fe 3 tr0,Dl 1 [119],eo 4]
theorem OZ {ls:List Ln}{q:Int} (hA:At ls (q,0) [91,119,93]):cf ls (-1) 0 true (q,0)=.ok (wE3,(q,3),true):=by
 have hA1:At ls (q,1) [119,93]:=At.step (a:=[91]) hA
 have hA2:At ls (q,2) [93]:=At.step (a:=[119]) hA1
 show nodeS ls (-1) 0 true (nodeF ls (-1) 0 true 199) 0 (q,0)=_
 unfold nodeS
 rw [xC hA (by decide) (by decide) (by decide) (by decide)]
 dsimp only
 rw [if_pos rfl,hA.2.2.2.2.2]
 unfold lE
 rw [kF (by decide),kF (by decide),kF (by decide),if_neg (by simp),if_neg (by simp),if_pos (.inl rfl),List.getD_cons_zero]
 have hw:nodeF ls (-1) 0 true 199 1 (q,1)=.ok ([Dl 1 [119]],(q,2),false):=by
  rw [show nodeF ls (-1) 0 true 199 1=nodeS ls (-1) 0 true (nodeF ls (-1) 0 true 198) 1 from rfl]
  exact D4 (n:=-1) (d:=0) (bk:=true) (k:=1) (w:=[119]) (b:=[]) (r:=[93]) hA1 (fun c hc=>by simp at hc;omega) (by decide) (fun c hc=>by simp at hc) (.inr ⟨93,[],rfl,.inl ⟨by decide,by decide⟩⟩) (.inl ⟨93,[],rfl,by decide⟩)
 have hi:eu ls (-1) 0 1 (nodeF ls (-1) 0 true 199 1) (nodeF ls (-1) 0 true 199 2) (q,1)=.ok ([Dl 1 [119]],(q,2)):=by
  unfold eu
  rw [xP hA1 (by decide),if_neg (by simp),hw]
  dsimp only
  rw [vX hA2 (by decide) (by decide)]
  dsimp only
  have hk:ql ls (q,1) (q,2) ((q,2),false)=false:=by
   unfold ql lD
   rw [xP hA2 (by decide),vF hA2]
   simp
  rw [hk,if_pos rfl]
 have he:cy ls (-1) (eu ls (-1) 0 1 (nodeF ls (-1) 0 true 199 1) (nodeF ls (-1) 0 true 199 2)) 93 (mu (q,0)+1) (q,1) []=.ok ([Dl 1 [119]],(q,2)):=by
  rw [cy,vF hA1,if_neg (by decide),hi]
  dsimp only
  rw [vX hA2 (by decide) (by decide)]
  dsimp only
  rw [vF hA2,vF hA2,if_pos (by decide),if_pos (by decide)]
  rfl
 have hc:gZ ls (-1) 0 0 (nodeF ls (-1) 0 true 199) (q,0) 91 tr0=.ok (wE3,(q,3)):=by
  unfold gZ
  rw [if_neg (by decide),show ((q,0):Int × Int).1=q from rfl,show ((q,0):Int × Int).2+1=1 from rfl,vX hA1 (by decide) (by decide)]
  dsimp only
  rw [if_neg (by decide),if_neg (by decide),he]
  rfl
 rw [hc]
theorem sJ {ls:List Ln}:∀ (f f':Nat) (i:Int),(ls.length:Int) - i≤f→(ls.length:Int) - i≤f'→nextB ls f i=nextB ls f' i
 | 0,0,_,_,_=>rfl
 | 0,f'+1,i,h,_=>by
  unfold nextB
  rw [if_neg (by rintro ⟨h1,-⟩;omega)]
 | f+1,0,i,_,h=>by
  unfold nextB
  rw [if_neg (by rintro ⟨h1,-⟩;omega)]
 | f+1,f'+1,i,h,h'=>by
  rw [nextB,nextB,sJ f f' (i+1) (by omega) (by omega)]
theorem r6 {ls:List Ln}{i:Int} (h0:0≤i) (h:i < ls.length) (hb:cU (aE ls i).2=true):nextB ls ls.length i=nextB ls ls.length (i+1):=by
 obtain ⟨f,hf⟩:∃ f,ls.length=f+1:=⟨ls.length - 1,by omega⟩
 rw [sJ ls.length (ls.length+1) i (by omega) (by omega),nextB,if_pos ⟨h,hb⟩]
theorem j6 {ls:List Ln}{i:Int} (hb:¬(i < ls.length∧cU (aE ls i).2=true)):∀ f,nextB ls f i=i
 | 0=>rfl
 | f+1=>by rw [nextB,if_neg hb]
theorem sE {ls:List Ln}{i:Int} (h0:0≤i) (h:i < ls.length) (hb:cU (aE ls i).2=true):nextP ls i=nextP ls (i+1):=by
 unfold nextP
 rw [r6 h0 h hb]
theorem gG {ls:List Ln}{i:Int} (ho:bC ls i=true):nextP ls i=.ok (i,false):=by
 unfold nextP
 rw [j6 (vd ho),if_pos ho]
theorem xy {ls:List Ln}:bC ls (ls.length:Nat)=true:=by unfold bC;rw [decide_eq_true (by omega)];rfl
theorem lP {ls:List Ln}{i:Int}{x:Ln} (hl:aE ls i=x) (hx:¬bB x.1 x.2=0):bC ls i=true:=by
 have hl:ls.getD i.toNat (0,[])=x:=hl
 unfold bC
 rw [hl]
 simp [hx]
theorem ue {ls:List Ln}{i:Int} (h0:0≤i) (h:i < ls.length) (hb:cU (aE ls i).2=true):dH ls i=dH ls (i+1):=by
 unfold dH
 rw [r6 h0 h hb]
theorem o0 {ls:List Ln}{i:Int} (hb:¬(i < ls.length∧cU (aE ls i).2=true)) (hm:¬(i < ls.length∧bB (aE ls i).1 (aE ls i).2=2)):dH ls i=(i,false,true):=by
 unfold dH
 rw [j6 hb,fv,if_neg hm]
theorem A3 {ls:List Ln}:∀ (f:Nat) (i:Int) (s:Bool),(fv ls f i true).1=(fv ls f i s).1∧(fv ls f i true).2.2=(fv ls f i s).2.2
 | 0,i,s=>⟨rfl,rfl⟩
 | f+1,i,s=>by
  rw [fv,fv]
  split
  ·split<;>exact ⟨rfl,rfl⟩
  ·exact ⟨rfl,rfl⟩
theorem sr {ls:List Ln}:∀ (f f':Nat) (i:Int) (s:Bool),(ls.length:Int) - i < f→(ls.length:Int) - i < f'→fv ls f i s=fv ls f' i s
 | 0,0,_,_,_,_=>rfl
 | 0,f'+1,i,s,h,_=>by rw [fv,fv,if_neg (by rintro ⟨h1,-⟩;omega)]
 | f+1,0,i,s,_,h=>by rw [fv,fv,if_neg (by rintro ⟨h1,-⟩;omega)]
 | f+1,f'+1,i,s,h,h'=>by
  have hg:=jO (ls:=ls) ls.length (i+1)
  rw [fv,fv,sr f f' (nextB ls ls.length (i+1)) true (by omega) (by omega)]
theorem Fo {ls:List Ln}{i:Int} (h0:0≤i) (h:i < ls.length) (hl:aE ls i=(0,[46,46,46])):(dH ls i).1=(dH ls (i+1)).1∧(dH ls i).2.2=(dH ls (i+1)).2.2:=by
 have hg:=jO (ls:=ls) ls.length (i+1)
 have e:dH ls i=fv ls ls.length (nextB ls ls.length (i+1)) true:=by
  unfold dH
  rw [j6 (by rw [hl];rintro ⟨-,h⟩;exact absurd h (by decide)),fv,hl,if_pos ⟨h,by decide⟩,if_pos (by decide)]
 rw [e,sr ls.length (ls.length+1) _ true (by omega) (by omega)]
 exact A3 _ _ _
theorem Docs.at {ls:List Ln}{i i':Int}{ev:List EvV}{n:Nat} (h:Docs ls i ev n) (h1:(dH ls i').1=(dH ls i).1) (h2:(dH ls i').2.2=(dH ls i).2.2):Docs ls i' ev n:=by
 cases h with
 | nil h =>
  rw [h] at h1 h2
  exact .nil (s:=(dH ls i').2.1) (Prod.ext h1 (Prod.ext rfl h2))
 | cons h hj hdr hm hd he hel ht hdn hcl hr =>
  rw [h] at h1 h2
  exact .cons (s:=(dH ls i').2.1) (Prod.ext h1 (Prod.ext rfl h2)) hj hdr hm hd he hel ht hdn hcl hr
abbrev mkL:Ln:=(0,[45,45,45,32,35,32,99])
abbrev wL:Ln:=(0,[91,119,93])
theorem B3:Ij wL 0=true∧restP [wL] 0 0=([91,119,93],0)∧restP [wL] 0 3=([],3)∧(restP [mkL] 0 3).1=[]:=⟨by decide +kernel,by decide +kernel,by decide +kernel,by decide +kernel⟩
theorem HZ {ls:List Ln}{q d:Int} (hi:0≤q∧q < ls.length) (hl:aE ls q=wL):gv ls q 0 (-1) 0 tp0=.ok (wE3,q+1):=by
 obtain ⟨v1,v2,v3,-⟩:=B3
 unfold gv
 rw [kr hl,v2]
 dsimp only
 rw [kF (by decide),kF (by decide),if_neg (by simp),OZ (LR hi.1 hi.2 hl (by decide))]
 dsimp only
 have hset:mi tp0 wE3=some wE3:=by
  unfold mi
  dsimp only
  rw [if_neg (by decide),show rn tp0=true by kernel_rfl]
  rfl
 rw [hset]
 unfold vH
 dsimp only
 rw [kr hl,v3,if_neg (by simp)]
theorem S7 {ls:List Ln}{i k:Int} (hi:0≤i∧i < ls.length) (hl:aE ls i=wL) (hn:nextP ls (i+1)=.ok (k,false)):iA ls i 0=.ok (wE3,k):=by
 obtain ⟨v1,v2,v3,-⟩:=B3
 unfold iA kM
 rw [dO,kr hl,v2,if_pos (by simp)]
 rw [BD hi hl v1 (by rw [kr hl,v2];simp),HZ (d:=0) hi hl]
 dsimp only
 rw [hn]
 rfl
theorem sL {ls:List Ln}{j k:Int} (hl:aE ls j=mkL) (hn:nextP ls (j+1)=.ok (k,false)):iA ls j 3=.ok ([fY tp0],k):=by
 obtain ⟨-,-,-,v4⟩:=B3
 unfold iA kM
 rw [dO,kr hl,v4,if_neg (by simp),hn]
 dsimp only
 rw [if_pos (.inl rfl)]
 dsimp only
 rw [hn]
 rfl
theorem M5 {ls:List Ln}{j q k:Int} (hl:aE ls j=mkL) (hq:0≤q∧q < ls.length) (hlq:aE ls q=wL) (hn:nextP ls (j+1)=.ok (q,true)) (hn2:nextP ls (q+1)=.ok (k,false)):iA ls j 3=.ok (wE3,k):=by
 obtain ⟨v1,v2,v3,v4⟩:=B3
 unfold iA kM
 rw [dO,kr hl,v4,if_neg (by simp),hn]
 dsimp only
 rw [hlq,if_neg (by rintro (h|h|⟨h,-⟩)<;>first|(cases h;done)|(exact absurd h (by decide))),if_neg (by decide),show (wL:Ln).1=0 from rfl]
 rw [BD hq hlq v1 (by rw [kr hlq,v2];simp),HZ (d:=0) hq hlq]
 dsimp only
 rw [hn2]
 rfl
def tp:Bool→Bool→List Nat→List Ln
 | _,_,[]=>[]
 | o,e,0::r=>mkL::tp true true r
 | o,e,1::r=>(0,[46,46,46])::tp false e r
 | o,e,2::r=>(0,[])::(0,[35,32,100])::tp o e r
 | o,e,(_+3)::r=>if (o && !e)=true then tp o e r else wL::tp true false r
def fx (e d:Bool):List EvV:=(if e then [fY tp0] else [])++[tC d]
def oC:Bool→Bool→List Nat→List EvV
 | o,e,[]=>if o then fx e false else []
 | o,e,0::r=>(if o then fx e false else [])++oO true::oC true true r
 | o,e,1::r=>(if o then fx e true else [])++oC false e r
 | o,e,2::r=>oC o e r
 | o,e,(_+3)::r=>if (o && !e)=true then oC o e r else (if o then [] else [oO false])++(wE3++oC true false r)
def zN (ls:List Ln) (k:Int) (E:List EvV):Prop:=∃ d rest n,E=tC d::rest∧decide (k < ls.length∧bB (aE ls k).1 (aE ls k).2=2)=d∧(d=true→cU ((aE ls k).2.drop 3)=true)∧Docs ls (if d=true then k+1 else k) rest n
def B0 (b:List EvV):Prop:=0 < b.length∧b.length≤1000000∧∀ q,q < b.length→(b.getD q zw).t=.empty
theorem AL:B0 [fY tp0]:=⟨by decide,by decide,fun q hq=>by
 obtain rfl:q=0:=by simp at hq;exact hq
 rfl⟩
theorem Gv:B0 wE3:=⟨by decide,by decide,fun q hq=>by
 have:q=0∨q=1∨q=2:=by simp at hq;omega
 rcases this with rfl|rfl|rfl<;>rfl⟩
theorem BQ {ls:List Ln}{i k:Int}{m:Bool}{body E:List EvV} (hi:0≤i∧i < ls.length) (hb:cU (aE ls i).2=false) (h2:¬bB (aE ls i).1 (aE ls i).2=2) (hdr:z4 (aE ls i)=false) (hm:decide (bB (aE ls i).1 (aE ls i).2=1)=m) (hd:iA ls i (if m=true then 3 else 0)=.ok (body,k)) (hg:B0 body) (ht:zN ls k E):∃ n,Docs ls i (oO m::(body++E)) n:=by
 obtain ⟨d,rest,n,rfl,h3,h4,h5⟩:=ht
 have:=Docs.cons (o0 (by rintro ⟨-,h⟩;rw [hb] at h;cases h) (fun h=>h2 h.2)) hi hdr hm hd hg.1 hg.2.1 hg.2.2 h3 h4 h5
 refine ⟨n+1, ?_⟩
 have e:oO m::(body++tC d::rest)=fm m d body++rest:=by simp [fm]
 rw [e]
 exact this
theorem xd {ls:List Ln}:zN ls (ls.length:Nat) [tC false]:=⟨false,[],0,rfl,decide_eq_false (by rintro ⟨h,-⟩;omega),(fun h=>by cases h),.nil (o0 (by rintro ⟨h,-⟩;omega) (by rintro ⟨h,-⟩;omega))⟩
theorem CP {ls:List Ln}{i:Int}{E:List EvV} (hl:aE ls i=mkL) (h:∃ n,Docs ls i E n):zN ls i (tC false::E):=by
 obtain ⟨n,h⟩:=h
 exact ⟨false,E,n,rfl,decide_eq_false (by rw [hl];rintro ⟨-,h⟩;exact absurd h (by decide)),(fun h=>by cases h),h⟩
theorem y8 {ls:List Ln}{i:Int}{E:List EvV} (hi:i < ls.length) (hl:aE ls i=(0,[46,46,46])) (h:∃ n,Docs ls (i+1) E n):zN ls i (tC true::E):=by
 obtain ⟨n,h⟩:=h
 exact ⟨true,E,n,rfl,decide_eq_true ⟨hi,by rw [hl];decide⟩,fun _=>by rw [hl];decide,h⟩
theorem marks:∀ (r:List Nat) (ls:List Ln) (i:Int),0≤i→i≤ls.length →
  (∀ e,ls.drop i.toNat=tp false e r→∃ n,Docs ls i (oC false e r) n) ∧
  (ls.drop i.toNat=tp true true r→∃ body k E,oC true true r=body++E∧B0 body∧zN ls k E∧∀ j,aE ls j=mkL→nextP ls (j+1)=nextP ls i→iA ls j 3=.ok (body,k)) ∧
  (ls.drop i.toNat=tp true false r→∃ k,nextP ls i=.ok (k,false)∧zN ls k (oC true false r))
 | [],ls,i,h0,h1=>by
  have hend:ls.drop i.toNat=[]→i=(ls.length:Nat):=fun h=>by
   have:=congrArg List.length h
   rw [List.length_drop,List.length_nil] at this
   omega
  refine ⟨fun e h=>?_,fun h=>?_,fun h=>?_⟩
  ·obtain rfl:=hend h
   exact ⟨0,.nil (o0 (by rintro ⟨h,-⟩;omega) (by rintro ⟨h,-⟩;omega))⟩
  ·obtain rfl:=hend h
   exact ⟨[fY tp0],_,[tC false],rfl,AL,xd,fun j hj hn=>sL hj (hn.trans (gG xy))⟩
  ·obtain rfl:=hend h
   exact ⟨_,gG xy,xd⟩
 | 0::r,ls,i,h0,h1=>by
  have key:∀ X,ls.drop i.toNat=mkL::X→X=tp true true r→aE ls i=mkL∧i < ls.length∧∃ n,Docs ls i (oO true::oC true true r) n:=fun X h hX=>by
   subst hX
   obtain ⟨l1,l2,l3⟩:=fM h0 h
   obtain ⟨body,k,E,e1,e2,e3,e4⟩:=(marks r ls (i+1) (by omega) (by omega)).2.1 l3
   refine ⟨l1,l2, ?_⟩
   rw [e1]
   exact BQ ⟨h0,l2⟩ (by rw [l1];decide) (by rw [l1];decide) (by rw [l1];decide) (by rw [l1];decide) (e4 i l1 rfl) e2 e3
  refine ⟨fun e h=>(key _ h rfl).2.2,fun h=>?_,fun h=>?_⟩
  ·obtain ⟨l1,l2,l3⟩:=key _ h rfl
   exact ⟨[fY tp0],i,tC false::(oO true::oC true true r),rfl,AL,CP l1 l3,fun j hj hn=>sL hj (hn.trans (gG (lP l1 (by decide))))⟩
  ·obtain ⟨l1,l2,l3⟩:=key _ h rfl
   exact ⟨i,gG (lP l1 (by decide)),CP l1 l3⟩
 | 1::r,ls,i,h0,h1=>by
  have key:∀ e X,ls.drop i.toNat=(0,[46,46,46])::X→X=tp false e r→aE ls i=(0,[46,46,46])∧i < ls.length∧∃ n,Docs ls (i+1) (oC false e r) n:=fun e X h hX=>by
   subst hX
   obtain ⟨l1,l2,l3⟩:=fM h0 h
   exact ⟨l1,l2,(marks r ls (i+1) (by omega) (by omega)).1 e l3⟩
  refine ⟨fun e h=>?_,fun h=>?_,fun h=>?_⟩
  ·obtain ⟨l1,l2,n,l3⟩:=key e _ h rfl
   obtain ⟨d1,d2⟩:=Fo h0 l2 l1
   exact ⟨n,l3.at d1 d2⟩
  ·obtain ⟨l1,l2,l3⟩:=key true _ h rfl
   exact ⟨[fY tp0],i,tC true::oC false true r,rfl,AL,y8 l2 l1 l3,fun j hj hn=>sL hj (hn.trans (gG (lP l1 (by decide))))⟩
  ·obtain ⟨l1,l2,l3⟩:=key false _ h rfl
   exact ⟨i,gG (lP l1 (by decide)),y8 l2 l1 l3⟩
 | 2::r,ls,i,h0,h1=>by
  have key:∀ X,ls.drop i.toNat=(0,[])::(0,[35,32,100])::X→i+2≤ls.length∧ls.drop (i+2).toNat=X∧nextP ls i=nextP ls (i+2)∧dH ls i=dH ls (i+2):=fun X h=>by
   obtain ⟨l1,l2,l3⟩:=fM h0 h
   obtain ⟨m1,m2,m3⟩:=fM (i:=i+1) (by omega) l3
   have b1:cU (aE ls i).2=true:=by rw [l1];decide
   have b2:cU (aE ls (i+1)).2=true:=by rw [m1];decide
   rw [show i+1+1=i+2 by omega] at m3
   refine ⟨by omega,m3, ?_, ?_⟩
   ·rw [sE h0 l2 b1,sE (by omega) m2 b2,show i+1+1=i+2 by omega]
   ·rw [ue h0 l2 b1,ue (by omega) m2 b2,show i+1+1=i+2 by omega]
  refine ⟨fun e h=>?_,fun h=>?_,fun h=>?_⟩
  ·obtain ⟨k1,k2,k3,k4⟩:=key _ h
   obtain ⟨n,hn⟩:=(marks r ls (i+2) (by omega) k1).1 e k2
   exact ⟨n,hn.at (by rw [k4]) (by rw [k4])⟩
  ·obtain ⟨k1,k2,k3,k4⟩:=key _ h
   rw [k3]
   exact (marks r ls (i+2) (by omega) k1).2.1 k2
  ·obtain ⟨k1,k2,k3,k4⟩:=key _ h
   rw [k3]
   exact (marks r ls (i+2) (by omega) k1).2.2 k2
 | (t+3)::r,ls,i,h0,h1=>by
  have key:∀ X,ls.drop i.toNat=wL::X→X=tp true false r→aE ls i=wL∧i < ls.length∧∃ k,nextP ls (i+1)=.ok (k,false)∧zN ls k (oC true false r):=fun X h hX=>by
   subst hX
   obtain ⟨l1,l2,l3⟩:=fM h0 h
   exact ⟨l1,l2,(marks r ls (i+1) (by omega) (by omega)).2.2 l3⟩
  refine ⟨fun e h=>?_,fun h=>?_,fun h=>?_⟩
  ·rw [tp,if_neg (by simp)] at h
   obtain ⟨l1,l2,k,l3,l4⟩:=key _ h rfl
   rw [oC,if_neg (by simp)]
   show ∃ n,Docs ls i (oO false::(wE3++oC true false r)) n
   exact BQ (m:=false) (body:=wE3) ⟨h0,l2⟩ (by rw [l1];decide) (by rw [l1];decide) (by rw [l1];decide) (by rw [l1];decide) (S7 ⟨h0,l2⟩ l1 l3) Gv l4
  ·rw [tp,if_neg (by simp)] at h
   obtain ⟨l1,l2,k,l3,l4⟩:=key _ h rfl
   rw [oC,if_neg (by simp)]
   refine ⟨wE3,k,oC true false r,rfl,Gv,l4,fun j hj hn=>M5 hj ⟨h0,l2⟩ l1 (hn.trans ?_) l3⟩
   unfold nextP
   rw [j6 (by rw [l1];rintro ⟨-,h⟩;exact absurd h (by decide)),l1,if_neg (by
    have ho:bC ls i=false:=by
     have hl9:ls.getD i.toNat (0,[])=wL:=l1
     unfold bC
     rw [hl9,decide_eq_false (by omega)]
     decide
    rw [ho];simp),if_neg (by decide)]
  ·rw [tp,if_pos (by simp)] at h
   rw [oC,if_pos (by simp)]
   exact (marks r ls i h0 h1).2.2 h
end Go.Proofs.YthkabaiamcjdbaaGreat
/-
 Walks: chapter 13's law FlowDeep.
-/


namespace Go.Proofs.YthkabaiamcjdbaaGreat
open Go.Abs
variable {κ:Ctx} {σ:List Res} {K:Ret→List Res→Prop} {o o':Option (Option (Nat × Nat))}
set_option maxRecDepth 4000 in
theorem EC {l:List Int} (h:Asc l):cw (cu l)=l:=by
 rw [je]
 exact zS (fun c hc=>by have:=h.2 c hc;omega)
set_option maxRecDepth 4000 in
theorem IC {x y:ByteArray}{v:Option Value} (h:x.size+y.size≤1000000000):(if ((x.size+y.size:Nat):Int) > IntKind.i64.max then none else v)=v:=by
 rw [if_neg]
 have:IntKind.i64.max=9223372036854775807:=by decide
 omega
end Go.Proofs.YthkabaiamcjdbaaGreat
/-
 Chapter 13: lists of words: plain facts.
-/

namespace Go.Proofs.YthkabaiamcjdbaaGreat
open Go.Abs
def CharsW (T:List Int):Prop:=∀ c∈T,c=9∨c=10∨32≤c∧c≤126
theorem CharsW.app {a b:List Int} (ha:CharsW a) (hb:CharsW b):CharsW (a++b):=fun c hc=>by rcases List.mem_append.1 hc with h|h;exact ha c h;exact hb c h
end Go.Proofs.YthkabaiamcjdbaaGreat
/-
 Walks: chapter 14's law ParserDeep.
-/




namespace Go.Proofs.YthkabaiamcjdbaaGreat
open Go.Abs
variable {κ:Ctx} {σ:List Res} {K:Ret→List Res→Prop} {o o':Option (Option (Nat × Nat))}
abbrev A5 (rows:List (List Int)):List Int:=rows.flatMap fun r=>r++[10]
set_option maxRecDepth 4000 in
theorem BX:∀ rows:List (List Int),(∀ r∈rows,∀ c∈r,¬c=10∧¬c=13)→tx [] (A5 rows)=rows
 | [],_=>by simp [tx]
 | r::rs,h=>by
  show tx [] ((r++[10])++A5 rs)=_
  rw [List.append_assoc,List.singleton_append,E5 (fun c hc=>by have:=h r (by simp) c hc;simp [Au,this]) (by decide) (by rintro ⟨h,-⟩;exact absurd h (by decide)),BX rs (fun x hx=>h x (by simp [hx]))]
set_option maxRecDepth 4000 in
theorem Aa {rows:List (List Int)} (h:∀ r∈rows,∀ c∈r,c=9∨32≤c∧c≤126):(gx (A5 rows)).1=rows.map lineOf:=by
 have hg:AK (A5 rows)=true:=by
  unfold AK
  rw [List.all_eq_true]
  intro c hc
  obtain ⟨r,hr,hcr⟩:=List.mem_flatMap.1 hc
  rcases List.mem_append.1 hcr with h1|h1
  ·have:=h r hr c h1
   refine uX ?_ (by omega)
   unfold jB
   simp;omega
  ·simp at h1;subst h1;decide
 unfold gx
 rw [if_pos hg]
 show lR _=_
 unfold lR
 rw [BX rows (fun r hr c hc=>by have:=h r hr c hc;omega)]
end Go.Proofs.YthkabaiamcjdbaaGreat
/-
 Chapter 14: texts of rows;ParserBehind's texts (plain).
-/


namespace Go.Proofs.YthkabaiamcjdbaaGreat
open Go.Abs
theorem cM {a b:List Int}{v:Option Value} (h:a.length+b.length≤200000000):(if (((cu a).size+(cu b).size:Nat):Int) > IntKind.i64.max then none else v)=v:=by
 have h1:=nJ a
 have h2:=nJ b
 rw [← je,eX] at h1 h2
 exact IC (by omega)
def rowsOk (m:Nat) (rows:List (List Int)):Prop:=rows.length≤m∧∀ r∈rows,r.length≤100∧Ld r
theorem rowsOk.app {m m':Nat}{a b:List (List Int)} (ha:rowsOk m a) (hb:rowsOk m' b):rowsOk (m+m') (a++b):=⟨by rw [List.length_append];have:=ha.1;have:=hb.1;omega,fun r hr=>by
 rcases List.mem_append.1 hr with h|h
 ·exact ha.2 r h
 ·exact hb.2 r h⟩
theorem rowsOk.len {m:Nat}:∀ {rows:List (List Int)},(∀ r∈rows,r.length≤100)→rows.length≤m→(rows.flatMap (· ++ [(10:Int)])).length≤101 * m
 | [],_,_=>by simp
 | r::rs,h,hl=>by
  have ih:=rowsOk.len (m:=m - 1) (rows:=rs) (fun x hx=>h x (by simp [hx])) (by simp at hl;omega)
  have:=h r (by simp)
  show ((r++[10])++rs.flatMap (· ++ [10])).length≤_
  rw [List.length_append,List.length_append,List.length_singleton]
  simp only [List.length_cons] at hl
  omega
theorem rowsOk.small {m:Nat}{rows:List (List Int)} (h:rowsOk m rows) (hm:m≤2000):Small (rows.map lineOf):=⟨by rw [List.length_map];have:=h.1;omega,fun x hx=>by
 obtain ⟨r,hr,rfl⟩:=List.mem_map.1 hx
 have h1:=(h.2 r hr).1
 have h2:=(List.takeWhile_prefix (· == (32:Int)) (l:=r)).length_le
 have h3:=(List.dropWhile_suffix (· == (32:Int)) (l:=r)).length_le
 exact ⟨Nat.le_trans h3 (by omega),by show (0:Int)≤((r.takeWhile (· == 32)).length:Nat);omega,by show (((r.takeWhile (· == 32)).length:Nat):Int)≤2000;omega⟩⟩
theorem rowsOk.flat {α:Type}{f:α→List (List Int)}{m:Nat}:∀ {l:List α},(∀ e∈l,rowsOk m (f e))→rowsOk (m * l.length) (l.flatMap f)
 | [],_=>⟨by simp,fun r hr=>by simp at hr⟩
 | e::l,h=>by
  have h1:=h e (by simp)
  have h2:=rowsOk.flat (l:=l) (fun x hx=>h x (by simp [hx]))
  have:=h1.app h2
  rw [Nat.add_comm] at this
  exact this
def Ae (rows:List (List Int)):Bool:=Nat.ble rows.length 3 && rows.all fun r=>Nat.ble r.length 100 && r.all fun c=>decide (32≤c) && decide (c≤126)
theorem GX {rows:List (List Int)} (h:Ae rows=true):rowsOk 3 rows:=by
 unfold Ae at h
 simp only [Bool.and_eq_true,Nat.ble_eq,List.all_eq_true,decide_eq_true_eq] at h
 exact ⟨h.1,fun r hr=>⟨(h.2 r hr).1,fun c hc=>.inr ((h.2 r hr).2 c hc)⟩⟩
end Go.Proofs.YthkabaiamcjdbaaGreat
/-
 Walks: chapter 15's laws: the example of the streams.
-/


namespace Go.Proofs.YthkabaiamcjdbaaGreat
open Go.Abs
variable {κ:Ctx} {σ:List Res} {K:Ret→List Res→Prop} {o o':Option (Option (Nat × Nat))}
abbrev al5T:List Int:=[97,10,45,45,45,10,98,10]
abbrev al5L:List Ln:=[(0,[97]),(0,[45,45,45]),(0,[98])]
abbrev Ss:List EvV:=[oO false,Dl 1 [97],tC false,oO true,Dl 1 [98],tC false]
set_option maxRecDepth 4000 in
theorem Ed:(gx al5T).1=al5L:=by decide
set_option maxRecDepth 4000 in
theorem El:Small al5L:=⟨by decide,by decide⟩
set_option maxRecDepth 4000 in
theorem La (l:List Int):∀ q,q < [Dl 1 l].length→(([Dl 1 l]:List EvV).getD q zw).t=.empty:=fun q hq=>by
 have:q=0:=by simpa using hq
 subst this;rfl
set_option maxRecDepth 4000 in
theorem EO:Docs al5L 0 Ss 2:=by
 have h3:Docs al5L 3 [] 0:=.nil (s:=false) (by decide)
 have h2:=Docs.cons (ls:=al5L) (i:=1) (j:=1) (k:=3) (s:=false) (m:=true) (d:=false) (ev:=[Dl 1 [98]]) (rest:=[]) (n:=0) (by decide) (by decide) (by decide) (by decide) (by kernel_rfl) (by decide) (by decide) (La _) (by decide) (fun h=>by cases h) h3
 exact Docs.cons (ls:=al5L) (i:=0) (j:=0) (k:=1) (s:=false) (m:=false) (d:=false) (ev:=[Dl 1 [97]]) (n:=1) (by decide) (by decide) (by decide) (by decide) (by kernel_rfl) (by decide) (by decide) (La _) (by decide) (fun h=>by cases h) h2
set_option maxRecDepth 4000 in
theorem Ey:Docs [] 0 [] 0:=.nil (s:=false) (by decide)
set_option maxRecDepth 4000 in
theorem rA {ls:List Ln}{ev:List EvV}{n:Nat} (hs:Small ls) (hD:Docs ls 0 ev n) (h0:0 < ev.length) (hl:ev.length≤100000000) (hK:∀ b c cs,K (.ret (.tup [bM b 0 ev.length c,I 0])) (.obj b (aI (ev.map EVA)++cs)::σ)):ACallF κ Tryz.prog 20 [SL none ls] σ K:=by
 refine rf hs hD hl (fun y ρ hr=>?_)
 obtain ⟨b,c,cs,rfl,rfl,hc0,hc1,hc2,hc3⟩:=xz hr (by rw [List.length_map];exact h0)
 have h:=hK b c (cs.drop ((ev.map EVA).length * 6))
 rw [← hc3,List.take_append_drop] at h
 rw [List.length_map]
 exact h
set_option maxRecDepth 4000 in
theorem GZ (h1:K (.ret (.tup [nilS,I 0])) σ) (h2:∀ b c cs,K (.ret (.tup [bM b 0 0 c,I 0])) (.obj b cs::σ)):ACallF κ Tryz.prog 20 [SL none []] σ K:=by
 refine rf (ls:=[]) ⟨by decide,fun x hx=>by simp at hx⟩ Ey (by decide) (fun y ρ hr=>?_)
 generalize hL:([]:List EvV).map EVA=L at hr
 cases hr with
 | nil=>exact h1
 | row =>
  have:L.length=0:=by rw [← hL];rfl
  rw [this]
  exact h2 _ _ _
set_option maxRecDepth 4000 in
theorem A8 {e:Int} (hK:K (.ret (I e)) σ):ACallF κ Tryz.prog 21 [I e] σ K:=by
 refine ACallF.dropL (aa Tryz.func21 rfl ?_)
 simp only [Tryz.ntmps21]
 repeat' (first|simp only [WL,WM,Nat.reduceAdd,Nat.reduceSub,true_and,Tryz.results21])
 exact ak ah (aj rfl) hK
set_option maxRecDepth 4000 in
theorem Cu (hK:K (.ret (B true)) σ):ACallF κ Tryz.prog 17 [] σ K:=by
 have hA:Asc (cw { data:=#[97,10,45,45,45,10,98,10] }):=⟨by decide,by decide⟩
 have hb:cw { data:=#[97,10,45,45,45,10,98,10] }=al5T:=by decide
 have hN:=fun (σ:List Res) (K:Ret→List Res→Prop) (h1:K (.ret (.tup [nilS,I 0])) σ) (h2:∀ b c cs,K (.ret (.tup [bM b 0 0 c,I 0])) (.obj b cs::σ))=>ACallF.argsS (κ:=κ) (P:=Tryz.prog) (f:=20) (xs:=[nilS]) (ys:=[SL none []]) ⟨dF (fq (by decide)),trivial⟩ (GZ (κ:=κ) h1 h2)
 refine ACallF.dropL (aa Tryz.func17 rfl ?_)
 simp only [Tryz.ntmps17]
 repeat' (first|( with_reducible refine iL (hK:=?_))|simp only [WL,aD,WM,Int.reduceToNat,reduceCtorEq,ba,Nat.reduceAdd,Nat.reduceSub,Nat.reduceLT,Nat.reduceEqDiff,Bool.not_true,Bool.not_false,beq_self_eq_true,true_and,reduceIte,Bool.false_eq_true,T4,jU,fR wi,fQ,fP,Bg,Tryz.results17,hb,Ed]|(with_reducible first|refine aC (hb:=?_)|refine ax (hK:=?_)|refine cD (dS hA ?_)|refine callD_mk (hN _ _ ?_ (fun b c cs=>?_))|refine callD_mk (rA (ev:=Ss) El EO (by decide) (by decide) (fun rb rc cs=>?_))|refine cD (A8 ?_))|((with_reducible first|refine ai (fun h=>?_) (fun h=>?_)|refine ab (fun h=>?_) (fun h=>?_))<;>(try simp only [h])<;>(try simp only [bg,bm] at h))|omega)
 all_goals first
  | exact ak bE (aj rfl) hK
  | (exfalso;omega)
def stM (o e:Bool) (t:Nat):Bool × Bool:=match t with
 | 0=>(true,true)
 | 1=>(false,e)
 | 2=>(o,e)
 | _=>if (o && !e)=true then (o,e) else (true,false)
def qu (o e:Bool) (t:Nat):List (List Int):=match t with
 | 0=>[[45,45,45,32,35,32,99]]
 | 1=>[[46,46,46]]
 | 2=>[[],[35,32,100]]
 | _=>if (o && !e)=true then [] else [[91,119,93]]
def qq (o e:Bool) (t:Nat):List EvV:=match t with
 | 0=>(if o then fx e false else [])++[oO true]
 | 1=>if o then fx e true else []
 | 2=>[]
 | _=>if (o && !e)=true then [] else (if o then [] else [oO false])++wE3
set_option maxRecDepth 4000 in
theorem H2 {o e:Bool}{t:Nat}{r:List Nat}:tp o e (t::r)=(qu o e t).map lineOf++tp (stM o e t).1 (stM o e t).2 r:=by
 have h0:lineOf [45,45,45,32,35,32,99]=mkL:=by decide
 have h1:lineOf [46,46,46]=(0,[46,46,46]):=by decide
 have h2:lineOf []=(0,[]):=by decide
 have h3:lineOf [35,32,100]=(0,[35,32,100]):=by decide
 have h4:lineOf [91,119,93]=wL:=by decide
 match t with
 | 0=>simp only [qu,stM,List.map_cons,List.map_nil,h0];rfl
 | 1=>simp only [qu,stM,List.map_cons,List.map_nil,h1];rfl
 | 2=>simp only [qu,stM,List.map_cons,List.map_nil,h2,h3];rfl
 | t+3 =>
  cases o<;>cases e<;>simp [qu,stM,tp,h4]
set_option maxRecDepth 4000 in
theorem FQ {o e:Bool}{t:Nat}{r:List Nat}:oC o e (t::r)=qq o e t++oC (stM o e t).1 (stM o e t).2 r:=by
 match t with
 | 0=>simp [qq,stM,oC]
 | 1=>simp [qq,stM,oC]
 | 2=>simp [qq,stM,oC]
 | t+3=>cases o<;>cases e<;>simp [qq,stM,oC]
def g7 (ts:List Nat):Nat→Bool × Bool
 | 0=>(false,false)
 | i+1=>stM (g7 ts i).1 (g7 ts i).2 (ts.getD i 0)
def I0 (ts:List Nat):Nat→List (List Int)
 | 0=>[]
 | i+1=>I0 ts i++qu (g7 ts i).1 (g7 ts i).2 (ts.getD i 0)
def lp (ts:List Nat):Nat→List EvV
 | 0=>[]
 | i+1=>lp ts i++qq (g7 ts i).1 (g7 ts i).2 (ts.getD i 0)
set_option maxRecDepth 4000 in
theorem LA {ts:List Nat}:∀ i,i≤ts.length→tp false false ts=(I0 ts i).map lineOf++tp (g7 ts i).1 (g7 ts i).2 (ts.drop i)∧oC false false ts=lp ts i++oC (g7 ts i).1 (g7 ts i).2 (ts.drop i)
 | 0,_=>⟨rfl,rfl⟩
 | i+1,h=>by
  obtain ⟨h1,h2⟩:=LA (ts:=ts) i (by omega)
  have hd:ts.drop i=ts.getD i 0::ts.drop (i+1):=by
   rw [List.drop_eq_getElem_cons (by omega),List.getD_eq_getElem?_getD,List.getElem?_eq_getElem (by omega)]
   rfl
  rw [h1,h2,hd,H2,FQ,I0,lp,g7,List.map_append,List.append_assoc,List.append_assoc]
  exact ⟨rfl,rfl⟩
set_option maxRecDepth 4000 in
theorem Ja (o e:Bool) (t:Nat):(qq o e t).length≤4:=by
 unfold qq fx
 split<;>cases o<;>cases e<;>simp
set_option maxRecDepth 4000 in
theorem CH {ts:List Nat}:∀ i,(lp ts i).length≤4 * i
 | 0=>by simp [lp]
 | i+1=>by
  have h1:=CH (ts:=ts) i
  have h2:=Ja (g7 ts i).1 (g7 ts i).2 (ts.getD i 0)
  rw [lp,List.length_append]
  omega
set_option maxRecDepth 4000 in
theorem Nl (o e:Bool) (t:Nat):rowsOk 2 (qu o e t):=by
 have hk:∀ l:List (List Int),Ae l=true→l.length≤2→rowsOk 2 l:=fun l h hl=>⟨hl,(GX h).2⟩
 unfold qu
 split
 ·exact hk _ (by decide) (by decide)
 ·exact hk _ (by decide) (by decide)
 ·exact hk _ (by decide) (by decide)
 ·split
  ·exact hk _ (by decide) (by decide)
  ·exact hk _ (by decide) (by decide)
set_option maxRecDepth 4000 in
theorem zy {ts:List Nat}:∀ i,rowsOk (2 * i) (I0 ts i)
 | 0=>⟨by simp [I0],fun r hr=>by simp [I0] at hr⟩
 | i+1=>by
  have:=(zy (ts:=ts) i).app (Nl (g7 ts i).1 (g7 ts i).2 (ts.getD i 0))
  exact this
abbrev np (ts:List Nat) (i:Nat):List Int:=(I0 ts i).flatMap (· ++ [10])
set_option maxRecDepth 4000 in
theorem Fk {ts:List Nat}{i:Nat}:np ts (i+1)=np ts i++(qu (g7 ts i).1 (g7 ts i).2 (ts.getD i 0)).flatMap (· ++ [10]):=by
 unfold np
 rw [I0,List.flatMap_append]
set_option maxRecDepth 4000 in
theorem CT {ts:List Nat}{i:Nat} (hi:i≤20):(np ts i).length≤5000:=by
 have h:=zy (ts:=ts) i
 have:=rowsOk.len (m:=40) (fun r hr=>(h.2 r hr).1) (by have:=h.1;omega)
 exact Nat.le_trans this (by decide)
abbrev zC (p:Bool × Bool):List EvV:=if p.1 then fx p.2 false else []
set_option maxRecDepth 4000 in
theorem PP {ts:List Nat} (hl:ts.length≤20):∃ n,Docs (gx (np ts ts.length)).1 0 (lp ts ts.length++zC (g7 ts ts.length)) n∧Asc (np ts ts.length)∧Small (gx (np ts ts.length)).1:=by
 have hr:=zy (ts:=ts) ts.length
 have hlen:=CT (ts:=ts) hl
 have e1:(gx (np ts ts.length)).1=(I0 ts ts.length).map lineOf:=Aa fun r h=>(hr.2 r h).2
 have s1:Small (gx (np ts ts.length)).1:=by rw [e1];exact hr.small (by omega)
 obtain ⟨p1,p2⟩:=LA (ts:=ts) ts.length (Nat.le_refl _)
 rw [List.drop_eq_nil_of_le (Nat.le_refl _)] at p1 p2
 have p1:tp false false ts=(I0 ts ts.length).map lineOf:=by rw [p1];simp [tp]
 have p2:oC false false ts=lp ts ts.length++zC (g7 ts ts.length):=by rw [p2,oC]
 obtain ⟨n,hn⟩:=(marks ts (gx (np ts ts.length)).1 0 (by decide) (by omega)).1 false (by rw [e1,p1];rfl)
 rw [p2] at hn
 refine ⟨n,hn,⟨by omega,fun c hc=>?_⟩,s1⟩
 have:=DT (fun r h=>(hr.2 r h).2) c hc
 omega
set_option maxRecDepth 4000 in
theorem dL {a:Int}:zj a 3=a % 4:=yg (a:=a) 2 (by decide)
set_option maxRecDepth 4000 in
theorem ma:({ data:=#[45,45,45,32,35,32,99,10] }:ByteArray)=cu [45,45,45,32,35,32,99,10]:=by decide +kernel
set_option maxRecDepth 4000 in
theorem mb:({ data:=#[46,46,46,10] }:ByteArray)=cu [46,46,46,10]:=by decide +kernel
set_option maxRecDepth 4000 in
theorem mh:({ data:=#[10,35,32,100,10] }:ByteArray)=cu [10,35,32,100,10]:=by decide +kernel
set_option maxRecDepth 4000 in
theorem l9:({ data:=#[91,119,93,10] }:ByteArray)=cu [91,119,93,10]:=by decide +kernel
set_option maxRecDepth 4000 in
theorem mf:({ data:=#[119] }:ByteArray)=cu [119]:=by decide +kernel
set_option maxRecDepth 4000 in
theorem U1:({ data:=#[] }:ByteArray)=cu []:=by decide +kernel
structure SmS where
 i:Nat
 tk:Option (Nat × Nat)
set_option maxRecDepth 4000 in
theorem nR {tk:Option (Nat × Nat)}{W:List AV}{e p:Bool} (hW:W.length≤1000) (hK:∀ tk',K (.ret (.sl 6 (some tk') (W++(fx e p).map EVA))) (.tip tk'::σ)):ACallF κ Tryz.prog 22 [.sl 6 (some tk) W,B e,B p] (.tip tk::σ) K:=by
 cases e
 all_goals
  refine ACallF.dropL (aa Tryz.func22 rfl ?_)
  simp only [Tryz.ntmps22]
  repeat' (first|simp only [WL,WM,Nat.reduceAdd,Nat.reduceSub,true_and,Tryz.results22]|(with_reducible first|refine cq (hlen:=?_) (hmax:=?_) (hK:=fun tk=>?_)|refine cF (hK:=?_)|refine aG (hK:=?_))|omega|(simp only [aT];omega)|(refine bq ?_;(first|omega|(simp only [aT];omega))))
  all_goals first
   | exact ak ah (aj (by simp [fx])) (hK _)
set_option maxRecDepth 4000 in
theorem Dy {ls:List Ln}{n:Nat} (hs:Small ls) (hD:Docs ls 0 [] n) (h1:K (.ret (.tup [nilS,I 0])) σ) (h2:∀ b c cs,K (.ret (.tup [bM b 0 0 c,I 0])) (.obj b cs::σ)):ACallF κ Tryz.prog 20 [SL none ls] σ K:=by
 refine rf hs hD (by decide) (fun y ρ hr=>?_)
 generalize hL:([]:List EvV).map EVA=L at hr
 cases hr with
 | nil=>exact h1
 | row =>
  have:L.length=0:=by rw [← hL];rfl
  rw [this]
  exact h2 _ _ _
set_option maxRecDepth 4000 in
theorem Gu (hK:K (.ret (B true)) σ):ACallF κ Tryz.prog 15 [nilS,.sl 6 o []] σ K:=by
 refine ACallF.dropL (aR Tryz.func15 rfl ?_)
 simp only [Tryz.ntmps15]
 repeat' (first|(with_reducible first|refine ay ?_|refine bW ?_|refine al (al ?_)|refine aJ ?_|refine aB ?_|refine aw ?_)|simp only [WL,aD,WM,reduceCtorEq,ba,Nat.reduceAdd,Nat.reduceSub,true_and,jU,bne_self_eq_false])
 refine dM (fun _:Unit=>⟨(nilS::.sl 6 o []::.any::.any::.any::I 0::.any::.any::.any::.any::.any::.any::.any::.any::.any::.any::.any::.any::.any::.any::.any::.any::.any::.any::.any::.any::[]),σ,true,[]⟩) (fun _=>True) (fun _=>0) () (ao bz id) trivial ?_
 intro _ _
 repeat' (first|(with_reducible first|refine al (ay ?_)|refine al (al ?_)|refine aJ ?_|refine aB ?_|refine aw ?_|refine aY ?_)|simp only [WL,aD,WM,ne_eq,reduceCtorEq,not_false_eq_true,Nat.reduceLT,true_and,jU,Tryz.results15]|((with_reducible refine aH (id:=6) 9 mixed ?_ ?_);kernel_rfl)|((with_reducible first|refine ai (fun h=>?_) (fun h=>?_)|refine ab (fun h=>?_) (fun h=>?_))<;>(try simp only [h])<;>(try simp only [bg,bm] at h))|omega)
 all_goals first
  | exact ak ah (aj rfl) hK
  | (exfalso;omega)
set_option maxRecDepth 4000 in
theorem NA {b c:Nat}{cs:List AV}{ix:Nat} [hH:Hold σ b ix cs] (hK:K (.ret (B true)) σ):ACallF κ Tryz.prog 15 [bM b 0 0 c,.sl 6 o []] σ K:=by
 have h:Hold σ b ix (aI (([]:List EvV).map EVA)++cs):=hH
 exact ss (l:=[]) (cs:=cs) (hH:=h) (by decide) hK
set_option maxRecDepth 4000 in
theorem jm (κ:Ctx) (st:List Int) (hst:st.length≤maxLen∧∀ a∈st,IntKind.i64.min≤a∧a≤IntKind.i64.max):ACallF κ Tryz.prog 9 [.sl 1 none (st.map fun n=>I n)] [] (fun r _=>r=.ret (B true)):=by
 have hml:maxLen=9223372036854775807:=by decide
 have hs0:=hst.1
 rw [hml] at hs0
 clear hst
 by_cases hr:st.length≤20
 ·generalize hts:st.map (fun a=>(a % 4).toNat)=ts
  have hkl:ts.length=st.length:=by rw [← hts,List.length_map]
  have hkg:∀ j,j < st.length→st.getD j 0 % 4=((ts.getD j 0:Nat):Int):=fun j hj=>by
   rw [← hts,List.getD_eq_getElem?_getD,List.getD_eq_getElem?_getD,List.getElem?_map,List.getElem?_eq_getElem hj]
   show st[j] % 4=(((st[j] % 4).toNat:Nat):Int)
   omega
  clear hts
  refine ACallF.dropL (aR Tryz.func9 rfl ?_)
  simp only [Tryz.ntmps9]
  repeat' (first|(with_reducible first|refine ay ?_|refine bW ?_|refine al (al ?_)|refine aJ ?_|refine aB ?_|refine aw ?_)|simp only [WL,aD,WM,reduceCtorEq,ba,Nat.reduceAdd,Nat.reduceSub,Bool.not_true,true_and,reduceIte,Bool.false_eq_true,bX,LF,Tryz.results9,U1]|with_reducible refine cD (Cu ?_)|((with_reducible first|refine ai (fun h=>?_) (fun h=>?_)|refine ab (fun h=>?_) (fun h=>?_))<;>(try simp only [h])<;>(try simp only [bg,bm] at h))|omega)
  refine dM (fun z:SmS=>⟨(.sl 1 none (st.map fun n=>I n)::.any::.any::B true::.raw (.string (cu (np ts z.i)))::.sl 6 (some z.tk) ((lp ts z.i).map EVA)::B (g7 ts z.i).1::B (g7 ts z.i).2::I z.i::.any::.any::.any::.any::.any::.any::.any::.any::.any::.any::.any::.any::.any::.any::.any::.any::.any::.any::.any::.any::.any::.any::.any::.any::.any::.any::.any::.any::.any::.any::.any::.any::.any::.any::.any::.any::.any::.any::.any::.any::.any::.any::.any::.any::.any::.any::.any::.any::.any::.any::.any::.any::.any::.any::.any::.any::.any::.any::.any::.any::.any::.any::.any::.any::.any::.any::.any::.any::.any::.any::.any::.any::.any::.any::.any::.any::.any::.any::.any::.any::.any::.any::.any::[]),[.tip z.tk],true,[]⟩) (fun z=>z.i≤st.length) (fun z=>st.length - z.i) ⟨0,none⟩ (aL bz ResW.void id) (Nat.zero_le _) ?_
  rintro ⟨m,tk⟩ hm
  dsimp only at hm ⊢
  have hW:=CH (ts:=ts) m
  have hX:=CT (ts:=ts) (i:=m) (by omega)
  rcases Nat.lt_or_ge m st.length with hmn|hmn
  ·have hk:=hkg m hmn
   have e1:=Fk (ts:=ts) (i:=m)
   have e2:(lp ts (m+1)).map EVA=(lp ts m).map EVA++(qq (g7 ts m).1 (g7 ts m).2 (ts.getD m 0)).map EVA:=by rw [lp,List.map_append]
   have e3:g7 ts (m+1)=stM (g7 ts m).1 (g7 ts m).2 (ts.getD m 0):=rfl
   have hWl:((lp ts m).map EVA).length≤100:=by rw [List.length_map];omega
   generalize (lp ts m).map EVA=WW at *
   generalize np ts m=SS at *
   generalize (g7 ts m).1=ob at *
   generalize (g7 ts m).2=eb at *
   have hk4:ts.getD m 0 < 4:=by omega
   generalize ts.getD m 0=k at *
   clear hW hkg hkl
   rcases (show k=0∨k=1∨k=2∨k=3 by omega) with rfl|rfl|rfl|rfl<;>cases ob<;>cases eb
   ·have hk9:st.getD m 0 % 4=0:=hk
    have f1:np ts (m+1)=SS++[45,45,45,32,35,32,99,10]:=by rw [e1];simp [qu]
    have f2:(lp ts (m+1)).map EVA=WW++[EVA (oO true)]:=by rw [e2];simp [qq]
    have f3:g7 ts (m+1)=(true,true):=by rw [e3];rfl
    have hov:(fx false true).length≤2∧(fx false false).length≤2:=by constructor<;>(unfold fx;split<;>simp)
    clear e1 e2 e3
    repeat' (first|(with_reducible first|refine al (ay ?_)|refine ay ?_|refine al (al ?_)|refine aJ ?_|refine aB ?_|refine aw ?_)|simp only [WL,aD,gE,WM,reduceCtorEq,ba,Nat.reduceAdd,beq_self_eq_true,true_and,T3,bX,fQ,fP,da,dL,hk9,ma,mb,mh,l9,mf,cL]|simp (disch:=first|omega|(simp only [aT];omega)) only [aq,aV,aV,cM]|(with_reducible first|refine aC (hb:=?_)|refine cq (hlen:=?_) (hmax:=?_) (hK:=fun tk=>?_)|refine cF (hK:=?_)|refine aG (hK:=?_)|refine cD (dS ?_ ?_))|((with_reducible first|refine ai (fun h=>?_) (fun h=>?_)|refine ab (fun h=>?_) (fun h=>?_))<;>(try simp only [h])<;>(try simp only [bg,bm] at h))|omega)
    all_goals first
     | exact absurd trivial (by assumption)
     | (exfalso;omega)
     | exact ⟨⟨m+1,tk⟩,ao (by dsimp only;rw [f1,f2,f3];exact bz) id,hmn,by dsimp only;omega⟩
     | exact ⟨⟨m+1,tk'⟩,ao (by dsimp only;rw [f1,f2,f3];exact bz) id,hmn,by dsimp only;omega⟩
   ·have hk9:st.getD m 0 % 4=0:=hk
    have f1:np ts (m+1)=SS++[45,45,45,32,35,32,99,10]:=by rw [e1];simp [qu]
    have f2:(lp ts (m+1)).map EVA=WW++[EVA (oO true)]:=by rw [e2];simp [qq]
    have f3:g7 ts (m+1)=(true,true):=by rw [e3];rfl
    have hov:(fx true true).length≤2∧(fx true false).length≤2:=by constructor<;>(unfold fx;split<;>simp)
    clear e1 e2 e3
    repeat' (first|(with_reducible first|refine al (ay ?_)|refine ay ?_|refine al (al ?_)|refine aJ ?_|refine aB ?_|refine aw ?_)|simp only [WL,aD,gE,WM,reduceCtorEq,ba,Nat.reduceAdd,beq_self_eq_true,true_and,T3,bX,fQ,fP,da,dL,hk9,ma,mb,mh,l9,mf,cL]|simp (disch:=first|omega|(simp only [aT];omega)) only [aq,aV,aV,cM]|(with_reducible first|refine aC (hb:=?_)|refine cq (hlen:=?_) (hmax:=?_) (hK:=fun tk=>?_)|refine cF (hK:=?_)|refine aG (hK:=?_)|refine cD (dS ?_ ?_))|((with_reducible first|refine ai (fun h=>?_) (fun h=>?_)|refine ab (fun h=>?_) (fun h=>?_))<;>(try simp only [h])<;>(try simp only [bg,bm] at h))|omega)
    all_goals first
     | exact absurd trivial (by assumption)
     | (exfalso;omega)
     | exact ⟨⟨m+1,tk⟩,ao (by dsimp only;rw [f1,f2,f3];exact bz) id,hmn,by dsimp only;omega⟩
     | exact ⟨⟨m+1,tk'⟩,ao (by dsimp only;rw [f1,f2,f3];exact bz) id,hmn,by dsimp only;omega⟩
   ·have hk9:st.getD m 0 % 4=0:=hk
    have f1:np ts (m+1)=SS++[45,45,45,32,35,32,99,10]:=by rw [e1];simp [qu]
    have f2:(lp ts (m+1)).map EVA=WW++(fx false false).map EVA++[EVA (oO true)]:=by rw [e2];simp [qq]
    have f3:g7 ts (m+1)=(true,true):=by rw [e3];rfl
    have hov:(fx false true).length≤2∧(fx false false).length≤2:=by constructor<;>(unfold fx;split<;>simp)
    clear e1 e2 e3
    repeat' (first|(with_reducible first|refine al (ay ?_)|refine ay ?_|refine al (al ?_)|refine aJ ?_|refine aB ?_|refine aw ?_)|simp only [WL,aD,gE,WM,reduceCtorEq,ba,Nat.reduceAdd,beq_self_eq_true,true_and,T3,bX,fQ,fP,nS,da,dL,hk9,ma,mb,mh,l9,mf,cL]|simp (disch:=first|omega|(simp only [aT];omega)) only [aq,aV,aV,cM]|(with_reducible first|refine aC (hb:=?_)|refine cq (hlen:=?_) (hmax:=?_) (hK:=fun tk=>?_)|refine cF (hK:=?_)|refine aG (hK:=?_)|refine cD (nR ?_ (fun tk'=>?_))|refine cD (dS ?_ ?_))|((with_reducible first|refine ai (fun h=>?_) (fun h=>?_)|refine ab (fun h=>?_) (fun h=>?_))<;>(try simp only [h])<;>(try simp only [bg,bm] at h))|omega|(simp only [aT];omega))
    all_goals first
     | exact absurd trivial (by assumption)
     | (exfalso;omega)
     | exact ⟨⟨m+1,tk⟩,ao (by dsimp only;rw [f1,f2,f3];exact bz) id,hmn,by dsimp only;omega⟩
     | exact ⟨⟨m+1,tk'⟩,ao (by dsimp only;rw [f1,f2,f3];exact bz) id,hmn,by dsimp only;omega⟩
   ·have hk9:st.getD m 0 % 4=0:=hk
    have f1:np ts (m+1)=SS++[45,45,45,32,35,32,99,10]:=by rw [e1];simp [qu]
    have f2:(lp ts (m+1)).map EVA=WW++(fx true false).map EVA++[EVA (oO true)]:=by rw [e2];simp [qq]
    have f3:g7 ts (m+1)=(true,true):=by rw [e3];rfl
    have hov:(fx true true).length≤2∧(fx true false).length≤2:=by constructor<;>(unfold fx;split<;>simp)
    clear e1 e2 e3
    repeat' (first|(with_reducible first|refine al (ay ?_)|refine ay ?_|refine al (al ?_)|refine aJ ?_|refine aB ?_|refine aw ?_)|simp only [WL,aD,gE,WM,reduceCtorEq,ba,Nat.reduceAdd,beq_self_eq_true,true_and,T3,bX,fQ,fP,nS,da,dL,hk9,ma,mb,mh,l9,mf,cL]|simp (disch:=first|omega|(simp only [aT];omega)) only [aq,aV,aV,cM]|(with_reducible first|refine aC (hb:=?_)|refine cq (hlen:=?_) (hmax:=?_) (hK:=fun tk=>?_)|refine cF (hK:=?_)|refine aG (hK:=?_)|refine cD (nR ?_ (fun tk'=>?_))|refine cD (dS ?_ ?_))|((with_reducible first|refine ai (fun h=>?_) (fun h=>?_)|refine ab (fun h=>?_) (fun h=>?_))<;>(try simp only [h])<;>(try simp only [bg,bm] at h))|omega|(simp only [aT];omega))
    all_goals first
     | exact absurd trivial (by assumption)
     | (exfalso;omega)
     | exact ⟨⟨m+1,tk⟩,ao (by dsimp only;rw [f1,f2,f3];exact bz) id,hmn,by dsimp only;omega⟩
     | exact ⟨⟨m+1,tk'⟩,ao (by dsimp only;rw [f1,f2,f3];exact bz) id,hmn,by dsimp only;omega⟩
   ·have hk9:st.getD m 0 % 4=1:=hk
    have f1:np ts (m+1)=SS++[46,46,46,10]:=by rw [e1];simp [qu]
    have f2:(lp ts (m+1)).map EVA=WW:=by rw [e2];simp [qq]
    have f3:g7 ts (m+1)=(false,false):=by rw [e3];rfl
    have hov:(fx false true).length≤2∧(fx false false).length≤2:=by constructor<;>(unfold fx;split<;>simp)
    clear e1 e2 e3
    repeat' (first|(with_reducible first|refine al (ay ?_)|refine ay ?_|refine al (al ?_)|refine aJ ?_|refine aB ?_|refine aw ?_)|simp only [WL,aD,gE,WM,reduceCtorEq,ba,Nat.reduceAdd,beq_self_eq_true,true_and,T3,bX,fQ,fP,da,dL,hk9,Int.reduceBEq,ma,mb,mh,l9,mf,cL]|simp (disch:=first|omega|(simp only [aT];omega)) only [aq,aV,aV,cM]|(with_reducible first|refine aC (hb:=?_)|refine cD (dS ?_ ?_))|((with_reducible first|refine ai (fun h=>?_) (fun h=>?_)|refine ab (fun h=>?_) (fun h=>?_))<;>(try simp only [h])<;>(try simp only [bg,bm] at h))|omega)
    all_goals first
     | exact absurd trivial (by assumption)
     | (exfalso;omega)
     | exact ⟨⟨m+1,tk⟩,ao (by dsimp only;rw [f1,f2,f3];exact bz) id,hmn,by dsimp only;omega⟩
     | exact ⟨⟨m+1,tk'⟩,ao (by dsimp only;rw [f1,f2,f3];exact bz) id,hmn,by dsimp only;omega⟩
   ·have hk9:st.getD m 0 % 4=1:=hk
    have f1:np ts (m+1)=SS++[46,46,46,10]:=by rw [e1];simp [qu]
    have f2:(lp ts (m+1)).map EVA=WW:=by rw [e2];simp [qq]
    have f3:g7 ts (m+1)=(false,true):=by rw [e3];rfl
    have hov:(fx true true).length≤2∧(fx true false).length≤2:=by constructor<;>(unfold fx;split<;>simp)
    clear e1 e2 e3
    repeat' (first|(with_reducible first|refine al (ay ?_)|refine ay ?_|refine al (al ?_)|refine aJ ?_|refine aB ?_|refine aw ?_)|simp only [WL,aD,gE,WM,reduceCtorEq,ba,Nat.reduceAdd,beq_self_eq_true,true_and,T3,bX,fQ,fP,da,dL,hk9,Int.reduceBEq,ma,mb,mh,l9,mf,cL]|simp (disch:=first|omega|(simp only [aT];omega)) only [aq,aV,aV,cM]|(with_reducible first|refine aC (hb:=?_)|refine cD (dS ?_ ?_))|((with_reducible first|refine ai (fun h=>?_) (fun h=>?_)|refine ab (fun h=>?_) (fun h=>?_))<;>(try simp only [h])<;>(try simp only [bg,bm] at h))|omega)
    all_goals first
     | exact absurd trivial (by assumption)
     | (exfalso;omega)
     | exact ⟨⟨m+1,tk⟩,ao (by dsimp only;rw [f1,f2,f3];exact bz) id,hmn,by dsimp only;omega⟩
     | exact ⟨⟨m+1,tk'⟩,ao (by dsimp only;rw [f1,f2,f3];exact bz) id,hmn,by dsimp only;omega⟩
   ·have hk9:st.getD m 0 % 4=1:=hk
    have f1:np ts (m+1)=SS++[46,46,46,10]:=by rw [e1];simp [qu]
    have f2:(lp ts (m+1)).map EVA=WW++(fx false true).map EVA:=by rw [e2];simp [qq]
    have f3:g7 ts (m+1)=(false,false):=by rw [e3];rfl
    have hov:(fx false true).length≤2∧(fx false false).length≤2:=by constructor<;>(unfold fx;split<;>simp)
    clear e1 e2 e3
    repeat' (first|(with_reducible first|refine al (ay ?_)|refine ay ?_|refine al (al ?_)|refine aJ ?_|refine aB ?_|refine aw ?_)|simp only [WL,aD,gE,WM,reduceCtorEq,ba,Nat.reduceAdd,beq_self_eq_true,true_and,T3,bX,fQ,fP,nS,da,dL,hk9,Int.reduceBEq,ma,mb,mh,l9,mf,cL]|simp (disch:=first|omega|(simp only [aT];omega)) only [aq,aV,aV,cM]|(with_reducible first|refine aC (hb:=?_)|refine cD (nR ?_ (fun tk'=>?_))|refine cD (dS ?_ ?_))|((with_reducible first|refine ai (fun h=>?_) (fun h=>?_)|refine ab (fun h=>?_) (fun h=>?_))<;>(try simp only [h])<;>(try simp only [bg,bm] at h))|omega)
    all_goals first
     | exact absurd trivial (by assumption)
     | (exfalso;omega)
     | exact ⟨⟨m+1,tk⟩,ao (by dsimp only;rw [f1,f2,f3];exact bz) id,hmn,by dsimp only;omega⟩
     | exact ⟨⟨m+1,tk'⟩,ao (by dsimp only;rw [f1,f2,f3];exact bz) id,hmn,by dsimp only;omega⟩
   ·have hk9:st.getD m 0 % 4=1:=hk
    have f1:np ts (m+1)=SS++[46,46,46,10]:=by rw [e1];simp [qu]
    have f2:(lp ts (m+1)).map EVA=WW++(fx true true).map EVA:=by rw [e2];simp [qq]
    have f3:g7 ts (m+1)=(false,true):=by rw [e3];rfl
    have hov:(fx true true).length≤2∧(fx true false).length≤2:=by constructor<;>(unfold fx;split<;>simp)
    clear e1 e2 e3
    repeat' (first|(with_reducible first|refine al (ay ?_)|refine ay ?_|refine al (al ?_)|refine aJ ?_|refine aB ?_|refine aw ?_)|simp only [WL,aD,gE,WM,reduceCtorEq,ba,Nat.reduceAdd,beq_self_eq_true,true_and,T3,bX,fQ,fP,nS,da,dL,hk9,Int.reduceBEq,ma,mb,mh,l9,mf,cL]|simp (disch:=first|omega|(simp only [aT];omega)) only [aq,aV,aV,cM]|(with_reducible first|refine aC (hb:=?_)|refine cD (nR ?_ (fun tk'=>?_))|refine cD (dS ?_ ?_))|((with_reducible first|refine ai (fun h=>?_) (fun h=>?_)|refine ab (fun h=>?_) (fun h=>?_))<;>(try simp only [h])<;>(try simp only [bg,bm] at h))|omega)
    all_goals first
     | exact absurd trivial (by assumption)
     | (exfalso;omega)
     | exact ⟨⟨m+1,tk⟩,ao (by dsimp only;rw [f1,f2,f3];exact bz) id,hmn,by dsimp only;omega⟩
     | exact ⟨⟨m+1,tk'⟩,ao (by dsimp only;rw [f1,f2,f3];exact bz) id,hmn,by dsimp only;omega⟩
   ·have hk9:st.getD m 0 % 4=2:=hk
    have f1:np ts (m+1)=SS++[10,35,32,100,10]:=by rw [e1];simp [qu]
    have f2:(lp ts (m+1)).map EVA=WW:=by rw [e2];simp [qq]
    have f3:g7 ts (m+1)=(false,false):=by rw [e3];rfl
    have hov:(fx false true).length≤2∧(fx false false).length≤2:=by constructor<;>(unfold fx;split<;>simp)
    clear e1 e2 e3
    repeat' (first|(with_reducible first|refine al (ay ?_)|refine ay ?_|refine al (al ?_)|refine aJ ?_|refine aB ?_|refine aw ?_)|simp only [WL,aD,gE,WM,reduceCtorEq,ba,Nat.reduceAdd,beq_self_eq_true,true_and,T3,bX,fQ,fP,da,dL,hk9,Int.reduceBEq,ma,mb,mh,l9,mf,cL]|simp (disch:=first|omega|(simp only [aT];omega)) only [aq,aV,aV,cM]|(with_reducible first|refine aC (hb:=?_)|refine cD (dS ?_ ?_))|((with_reducible first|refine ai (fun h=>?_) (fun h=>?_)|refine ab (fun h=>?_) (fun h=>?_))<;>(try simp only [h])<;>(try simp only [bg,bm] at h))|omega)
    all_goals first
     | exact absurd trivial (by assumption)
     | (exfalso;omega)
     | exact ⟨⟨m+1,tk⟩,ao (by dsimp only;rw [f1,f2,f3];exact bz) id,hmn,by dsimp only;omega⟩
     | exact ⟨⟨m+1,tk'⟩,ao (by dsimp only;rw [f1,f2,f3];exact bz) id,hmn,by dsimp only;omega⟩
   ·have hk9:st.getD m 0 % 4=2:=hk
    have f1:np ts (m+1)=SS++[10,35,32,100,10]:=by rw [e1];simp [qu]
    have f2:(lp ts (m+1)).map EVA=WW:=by rw [e2];simp [qq]
    have f3:g7 ts (m+1)=(false,true):=by rw [e3];rfl
    have hov:(fx true true).length≤2∧(fx true false).length≤2:=by constructor<;>(unfold fx;split<;>simp)
    clear e1 e2 e3
    repeat' (first|(with_reducible first|refine al (ay ?_)|refine ay ?_|refine al (al ?_)|refine aJ ?_|refine aB ?_|refine aw ?_)|simp only [WL,aD,gE,WM,reduceCtorEq,ba,Nat.reduceAdd,beq_self_eq_true,true_and,T3,bX,fQ,fP,da,dL,hk9,Int.reduceBEq,ma,mb,mh,l9,mf,cL]|simp (disch:=first|omega|(simp only [aT];omega)) only [aq,aV,aV,cM]|(with_reducible first|refine aC (hb:=?_)|refine cD (dS ?_ ?_))|((with_reducible first|refine ai (fun h=>?_) (fun h=>?_)|refine ab (fun h=>?_) (fun h=>?_))<;>(try simp only [h])<;>(try simp only [bg,bm] at h))|omega)
    all_goals first
     | exact absurd trivial (by assumption)
     | (exfalso;omega)
     | exact ⟨⟨m+1,tk⟩,ao (by dsimp only;rw [f1,f2,f3];exact bz) id,hmn,by dsimp only;omega⟩
     | exact ⟨⟨m+1,tk'⟩,ao (by dsimp only;rw [f1,f2,f3];exact bz) id,hmn,by dsimp only;omega⟩
   ·have hk9:st.getD m 0 % 4=2:=hk
    have f1:np ts (m+1)=SS++[10,35,32,100,10]:=by rw [e1];simp [qu]
    have f2:(lp ts (m+1)).map EVA=WW:=by rw [e2];simp [qq]
    have f3:g7 ts (m+1)=(true,false):=by rw [e3];rfl
    have hov:(fx false true).length≤2∧(fx false false).length≤2:=by constructor<;>(unfold fx;split<;>simp)
    clear e1 e2 e3
    repeat' (first|(with_reducible first|refine al (ay ?_)|refine ay ?_|refine al (al ?_)|refine aJ ?_|refine aB ?_|refine aw ?_)|simp only [WL,aD,gE,WM,reduceCtorEq,ba,Nat.reduceAdd,beq_self_eq_true,true_and,T3,bX,fQ,fP,nS,da,dL,hk9,Int.reduceBEq,ma,mb,mh,l9,mf,cL]|simp (disch:=first|omega|(simp only [aT];omega)) only [aq,aV,aV,cM]|(with_reducible first|refine aC (hb:=?_)|refine cD (nR ?_ (fun tk'=>?_))|refine cD (dS ?_ ?_))|((with_reducible first|refine ai (fun h=>?_) (fun h=>?_)|refine ab (fun h=>?_) (fun h=>?_))<;>(try simp only [h])<;>(try simp only [bg,bm] at h))|omega)
    all_goals first
     | exact absurd trivial (by assumption)
     | (exfalso;omega)
     | exact ⟨⟨m+1,tk⟩,ao (by dsimp only;rw [f1,f2,f3];exact bz) id,hmn,by dsimp only;omega⟩
     | exact ⟨⟨m+1,tk'⟩,ao (by dsimp only;rw [f1,f2,f3];exact bz) id,hmn,by dsimp only;omega⟩
   ·have hk9:st.getD m 0 % 4=2:=hk
    have f1:np ts (m+1)=SS++[10,35,32,100,10]:=by rw [e1];simp [qu]
    have f2:(lp ts (m+1)).map EVA=WW:=by rw [e2];simp [qq]
    have f3:g7 ts (m+1)=(true,true):=by rw [e3];rfl
    have hov:(fx true true).length≤2∧(fx true false).length≤2:=by constructor<;>(unfold fx;split<;>simp)
    clear e1 e2 e3
    repeat' (first|(with_reducible first|refine al (ay ?_)|refine ay ?_|refine al (al ?_)|refine aJ ?_|refine aB ?_|refine aw ?_)|simp only [WL,aD,gE,WM,reduceCtorEq,ba,Nat.reduceAdd,beq_self_eq_true,true_and,T3,bX,fQ,fP,nS,da,dL,hk9,Int.reduceBEq,ma,mb,mh,l9,mf,cL]|simp (disch:=first|omega|(simp only [aT];omega)) only [aq,aV,aV,cM]|(with_reducible first|refine aC (hb:=?_)|refine cD (nR ?_ (fun tk'=>?_))|refine cD (dS ?_ ?_))|((with_reducible first|refine ai (fun h=>?_) (fun h=>?_)|refine ab (fun h=>?_) (fun h=>?_))<;>(try simp only [h])<;>(try simp only [bg,bm] at h))|omega)
    all_goals first
     | exact absurd trivial (by assumption)
     | (exfalso;omega)
     | exact ⟨⟨m+1,tk⟩,ao (by dsimp only;rw [f1,f2,f3];exact bz) id,hmn,by dsimp only;omega⟩
     | exact ⟨⟨m+1,tk'⟩,ao (by dsimp only;rw [f1,f2,f3];exact bz) id,hmn,by dsimp only;omega⟩
   ·have hk9:st.getD m 0 % 4=3:=hk
    have f1:np ts (m+1)=SS++[91,119,93,10]:=by rw [e1];simp [qu]
    have f2:(lp ts (m+1)).map EVA=WW++[EVA (oO false)]++[EVA (fe 3 tr0),EVA (Dl 1 [119]),EVA (eo 4)]:=by rw [e2];simp [qq]
    have f3:g7 ts (m+1)=(true,false):=by rw [e3];rfl
    have hov:(fx false true).length≤2∧(fx false false).length≤2:=by constructor<;>(unfold fx;split<;>simp)
    clear e1 e2 e3
    repeat' (first|(with_reducible first|refine al (ay ?_)|refine ay ?_|refine al (al ?_)|refine aJ ?_|refine aB ?_|refine aw ?_)|simp only [WL,aD,gE,WM,reduceCtorEq,ba,Nat.reduceAdd,Bool.not_false,true_and,reduceIte,Bool.false_eq_true,T3,bX,fQ,fP,da,dL,hk9,Int.reduceBEq,ma,mb,mh,l9,mf,cL]|simp (disch:=first|omega|(simp only [aT];omega)) only [aq,aV,aV,cM]|(with_reducible first|refine aC (hb:=?_)|refine cq (hlen:=?_) (hmax:=?_) (hK:=fun tk=>?_)|refine cF (hK:=?_)|refine aG (hK:=?_)|refine cD (dS ?_ ?_))|((with_reducible first|refine ai (fun h=>?_) (fun h=>?_)|refine ab (fun h=>?_) (fun h=>?_))<;>(try simp only [h])<;>(try simp only [bg,bm] at h))|omega|(simp only [aT];omega))
    all_goals first
     | exact absurd trivial (by assumption)
     | (exfalso;omega)
     | exact ⟨⟨m+1,tk⟩,ao (by dsimp only;rw [f1,f2,f3];exact bz) id,hmn,by dsimp only;omega⟩
     | exact ⟨⟨m+1,tk'⟩,ao (by dsimp only;rw [f1,f2,f3];exact bz) id,hmn,by dsimp only;omega⟩
   ·have hk9:st.getD m 0 % 4=3:=hk
    have f1:np ts (m+1)=SS++[91,119,93,10]:=by rw [e1];simp [qu]
    have f2:(lp ts (m+1)).map EVA=WW++[EVA (oO false)]++[EVA (fe 3 tr0),EVA (Dl 1 [119]),EVA (eo 4)]:=by rw [e2];simp [qq]
    have f3:g7 ts (m+1)=(true,false):=by rw [e3];rfl
    have hov:(fx true true).length≤2∧(fx true false).length≤2:=by constructor<;>(unfold fx;split<;>simp)
    clear e1 e2 e3
    repeat' (first|(with_reducible first|refine al (ay ?_)|refine ay ?_|refine al (al ?_)|refine aJ ?_|refine aB ?_|refine aw ?_)|simp only [WL,aD,gE,WM,reduceCtorEq,ba,Nat.reduceAdd,Bool.not_false,true_and,reduceIte,Bool.false_eq_true,T3,bX,fQ,fP,da,dL,hk9,Int.reduceBEq,ma,mb,mh,l9,mf,cL]|simp (disch:=first|omega|(simp only [aT];omega)) only [aq,aV,aV,cM]|(with_reducible first|refine aC (hb:=?_)|refine cq (hlen:=?_) (hmax:=?_) (hK:=fun tk=>?_)|refine cF (hK:=?_)|refine aG (hK:=?_)|refine cD (dS ?_ ?_))|((with_reducible first|refine ai (fun h=>?_) (fun h=>?_)|refine ab (fun h=>?_) (fun h=>?_))<;>(try simp only [h])<;>(try simp only [bg,bm] at h))|omega|(simp only [aT];omega))
    all_goals first
     | exact absurd trivial (by assumption)
     | (exfalso;omega)
     | exact ⟨⟨m+1,tk⟩,ao (by dsimp only;rw [f1,f2,f3];exact bz) id,hmn,by dsimp only;omega⟩
     | exact ⟨⟨m+1,tk'⟩,ao (by dsimp only;rw [f1,f2,f3];exact bz) id,hmn,by dsimp only;omega⟩
   ·have hk9:st.getD m 0 % 4=3:=hk
    have f1:np ts (m+1)=SS:=by rw [e1];simp [qu]
    have f2:(lp ts (m+1)).map EVA=WW:=by rw [e2];simp [qq]
    have f3:g7 ts (m+1)=(true,false):=by rw [e3];rfl
    have hov:(fx false true).length≤2∧(fx false false).length≤2:=by constructor<;>(unfold fx;split<;>simp)
    clear e1 e2 e3
    repeat' (first|(with_reducible first|refine al (ay ?_)|refine ay ?_|refine al (al ?_)|refine aJ ?_|refine aB ?_|refine aw ?_)|simp only [WL,aD,WM,reduceCtorEq,ba,Nat.reduceAdd,Nat.reduceEqDiff,Bool.not_false,true_and,reduceIte,T3,bX,fQ,fP,nS,da,dL,hk9,Int.reduceBEq,ma,mb,mh,l9,mf]|simp (disch:=first|omega|(simp only [aT];omega)) only [aq,aV,aV]|(with_reducible first|refine aC (hb:=?_)|refine cD (nR ?_ (fun tk'=>?_))|refine cD (dS ?_ ?_))|((with_reducible first|refine ai (fun h=>?_) (fun h=>?_)|refine ab (fun h=>?_) (fun h=>?_))<;>(try simp only [h])<;>(try simp only [bg,bm] at h))|omega)
    all_goals first
     | exact absurd trivial (by assumption)
     | (exfalso;omega)
     | exact ⟨⟨m+1,tk⟩,ao (by dsimp only;rw [f1,f2,f3];exact bz) id,hmn,by dsimp only;omega⟩
     | exact ⟨⟨m+1,tk'⟩,ao (by dsimp only;rw [f1,f2,f3];exact bz) id,hmn,by dsimp only;omega⟩
   ·have hk9:st.getD m 0 % 4=3:=hk
    have f1:np ts (m+1)=SS++[91,119,93,10]:=by rw [e1];simp [qu]
    have f2:(lp ts (m+1)).map EVA=WW++[EVA (fe 3 tr0),EVA (Dl 1 [119]),EVA (eo 4)]:=by rw [e2];simp [qq]
    have f3:g7 ts (m+1)=(true,false):=by rw [e3];rfl
    have hov:(fx true true).length≤2∧(fx true false).length≤2:=by constructor<;>(unfold fx;split<;>simp)
    clear e1 e2 e3
    repeat' (first|(with_reducible first|refine al (ay ?_)|refine ay ?_|refine al (al ?_)|refine aJ ?_|refine aB ?_|refine aw ?_)|simp only [WL,aD,gE,WM,reduceCtorEq,ba,Nat.reduceAdd,Bool.not_true,true_and,reduceIte,T3,bX,fQ,fP,nS,da,dL,hk9,Int.reduceBEq,ma,mb,mh,l9,mf,cL]|simp (disch:=first|omega|(simp only [aT];omega)) only [aq,aV,aV,cM]|(with_reducible first|refine aC (hb:=?_)|refine cq (hlen:=?_) (hmax:=?_) (hK:=fun tk=>?_)|refine cF (hK:=?_)|refine aG (hK:=?_)|refine cD (nR ?_ (fun tk'=>?_))|refine cD (dS ?_ ?_))|((with_reducible first|refine ai (fun h=>?_) (fun h=>?_)|refine ab (fun h=>?_) (fun h=>?_))<;>(try simp only [h])<;>(try simp only [bg,bm] at h))|omega)
    all_goals first
     | exact absurd trivial (by assumption)
     | (exfalso;omega)
     | exact ⟨⟨m+1,tk⟩,ao (by dsimp only;rw [f1,f2,f3];exact bz) id,hmn,by dsimp only;omega⟩
     | exact ⟨⟨m+1,tk'⟩,ao (by dsimp only;rw [f1,f2,f3];exact bz) id,hmn,by dsimp only;omega⟩
  ·obtain rfl:m=st.length:=by omega
   have hst2:=hr
   obtain ⟨n,hD,hA,hsm⟩:=PP (ts:=ts) (by omega)
   have hb1:=EC hA
   have hB1:Asc (cw (cu (np ts ts.length))):=by rw [hb1];exact hA
   rw [← hkl] at hW hX ⊢
   have hWl:((lp ts ts.length).map EVA).length≤100:=by rw [List.length_map];omega
   generalize hEV:lp ts ts.length++zC (g7 ts ts.length)=EV at *
   have hEl:EV.length≤1000:=by
    rw [← hEV,List.length_append]
    have:(zC (g7 ts ts.length)).length≤2:=by unfold zC fx;split<;>(try split)<;>simp
    omega
   have hfin:(g7 ts ts.length).1=true→(lp ts ts.length).map EVA++(fx (g7 ts ts.length).2 false).map EVA=EV.map EVA:=fun h=>by rw [← hEV,List.map_append];unfold zC;rw [if_pos h]
   have hfin0:(g7 ts ts.length).1=false→(lp ts ts.length).map EVA=EV.map EVA:=fun h=>by rw [← hEV,List.map_append];unfold zC;rw [if_neg (by simp [h])];simp
   generalize (lp ts ts.length).map EVA=WW at *
   generalize (g7 ts ts.length).1=ob at *
   generalize (g7 ts ts.length).2=eb at *
   generalize np ts ts.length=X at *
   generalize hLS:(gx X).1=LS at *
   clear hkg hW
   cases ob
   ·have hf:=hfin0 rfl
    subst hf
    rcases Nat.eq_zero_or_pos EV.length with h0|h0
    ·obtain rfl:=List.eq_nil_of_length_eq_zero h0
     repeat' (first|(with_reducible first|refine al (ay ?_)|refine ay ?_|refine al (al ?_)|refine aJ ?_|refine aB ?_|refine aw ?_|refine aY ?_)|simp only [WL,aD,gE,WM,reduceCtorEq,ba,Nat.reduceAdd,Nat.reduceLT,Bool.not_false,beq_self_eq_true,true_and,reduceIte,Bool.false_eq_true,T3,bX,fQ,EY,fP,Bg,Tryz.results9,hb1,hLS]|simp (disch:=first|omega|(simp only [aT];omega)) only [aq,aV]|(with_reducible first|refine aC (hb:=?_)|refine cq (hlen:=?_) (hmax:=?_) (hK:=fun tk=>?_)|refine cF (hK:=?_)|refine aG (hK:=?_)|refine cD (dS hB1 ?_)|refine callD_mk (Dy hsm hD ?_ (fun b c cs=>?_))|refine cD (Gu ?_)|refine cD (NA ?_)|refine cD (A8 ?_))|((with_reducible first|refine ai (fun h=>?_) (fun h=>?_)|refine ab (fun h=>?_) (fun h=>?_))<;>(try simp only [h])<;>(try simp only [bg,bm] at h))|omega)
     all_goals first
      | exact ak bE (aj rfl) rfl
      | (exfalso;omega)
    ·skip
     repeat' (first|(with_reducible first|refine al (ay ?_)|refine ay ?_|refine al (al ?_)|refine aJ ?_|refine aB ?_|refine aw ?_|refine aY ?_)|simp only [WL,aD,gE,WM,reduceCtorEq,ba,Nat.reduceAdd,Nat.reduceLT,Bool.not_false,beq_self_eq_true,true_and,reduceIte,Bool.false_eq_true,T3,bX,fQ,EY,fP,Bg,Tryz.results9,hb1,hLS]|simp (disch:=first|omega|(simp only [aT];omega)) only [aq,aV]|(with_reducible first|refine aC (hb:=?_)|refine cq (hlen:=?_) (hmax:=?_) (hK:=fun tk=>?_)|refine cF (hK:=?_)|refine aG (hK:=?_)|refine cD (dS hB1 ?_)|refine callD_mk (rA hsm hD h0 (by omega) (fun b c cs=>?_))|refine cD (ss (l:=EV) (by omega) ?_)|refine cD (A8 ?_))|((with_reducible first|refine ai (fun h=>?_) (fun h=>?_)|refine ab (fun h=>?_) (fun h=>?_))<;>(try simp only [h])<;>(try simp only [bg,bm] at h))|omega)
     all_goals first
      | exact ak bE (aj rfl) rfl
      | (exfalso;omega)
   ·have hf:=hfin rfl
    have h0:0 < EV.length:=by
     have:=congrArg List.length hf
     rw [List.length_append,List.length_map,List.length_map] at this
     have h2:0 < (fx eb false).length:=by unfold fx;split<;>simp
     omega
    repeat' (first|(with_reducible first|refine al (ay ?_)|refine ay ?_|refine al (al ?_)|refine aJ ?_|refine aB ?_|refine aw ?_|refine aY ?_)|simp only [WL,aD,gE,WM,reduceCtorEq,ba,Nat.reduceAdd,Nat.reduceLT,Nat.reduceEqDiff,Bool.not_true,beq_self_eq_true,true_and,reduceIte,T3,bX,fQ,EY,fP,Bg,nS,Tryz.results9,hb1,hLS,hf]|simp (disch:=first|omega|(simp only [aT];omega)) only [aq,aV]|(with_reducible first|refine aC (hb:=?_)|refine cD (nR ?_ (fun tk'=>?_))|refine cD (dS hB1 ?_)|refine callD_mk (rA hsm hD h0 (by omega) (fun b c cs=>?_))|refine cD (ss (l:=EV) (by omega) ?_)|refine cD (A8 ?_))|((with_reducible first|refine ai (fun h=>?_) (fun h=>?_)|refine ab (fun h=>?_) (fun h=>?_))<;>(try simp only [h])<;>(try simp only [bg,bm] at h))|omega)
    all_goals first
     | exact ak bE (aj rfl) rfl
     | (exfalso;omega)
 ·skip
  refine ACallF.dropL (aa Tryz.func9 rfl ?_)
  simp only [Tryz.ntmps9]
  repeat' (first|simp only [WL,aD,WM,reduceCtorEq,ba,Nat.reduceAdd,Nat.reduceSub,Bool.not_true,true_and,reduceIte,Bool.false_eq_true,bX,LF,Tryz.results9]|with_reducible refine cD (Cu ?_)|((with_reducible first|refine ai (fun h=>?_) (fun h=>?_)|refine ab (fun h=>?_) (fun h=>?_))<;>(try simp only [h])<;>(try simp only [bg,bm] at h))|omega)
  all_goals first
   | exact ak ah (aj rfl) rfl
   | (exfalso;omega)
end Go.Proofs.YthkabaiamcjdbaaGreat
