/-
  Texts Hy, MJ, Hz, HA, HB, one behind the other.
-/
import Derived.Test.YthkabaiamcjdbaaGreatJ11
import Derived.Test.YthkabaiamcjdbaaGreatJ12
import Derived.Test.YthkabaiamcjdbaaGreatJ13
import Derived.Test.YthkabaiamcjdbaaGreatJ14
import Derived.Test.YthkabaiamcjdbaaGreatJ15
import Derived.Test.YthkabaiamcjdbaaGreatJ16
set_option linter.unusedVariables false
set_option linter.unusedSimpArgs false
set_option maxHeartbeats 16000000
namespace Go.Proofs.YthkabaiamcjdbaaGreat
open Go.Abs
theorem uv {l:List Int}{fl:Bool}{m:Nat} (h0:m≤l.length):∀ {r:List Nat},(∀ j∈r,m≤j)→m≤qb l fl r
 | [],_=>h0
 | i::r,h=>by
  unfold qb;split
  ·exact uv h0 (fun j hj=>h j (List.mem_cons_of_mem _ hj))
  ·exact h i List.mem_cons_self
theorem J3 {p:Int→Bool}:∀ {l:List Int},l.dropWhile p=[]→∀ c∈l,p c=true
 | [],_,c,h=>by cases h
 | x::l,h,c,hc=>by
  rw [List.dropWhile_cons] at h;split at h
  ·rename_i hx
   rcases List.mem_cons.1 hc with rfl|hc
   ·exact hx
   ·exact J3 h c hc
  ·cases h
theorem Dx {l:List Int}{fl:Bool} (h:fJ l fl=true):0 < gG l fl:=by
 cases l with
 | nil=>simp [fJ,eW] at h
 | cons c r =>
  unfold fJ at h;rw [Bool.and_eq_true] at h;obtain ⟨h1,h2⟩:=h;have hs:rP c fl=true:=by
   unfold eW at h1;simpa using h1
  have hb:blankI c=false:=by
   unfold rP at hs;simp only [Bool.and_eq_true,Bool.not_eq_true'] at hs;exact hs.1.1.1.1.2
  have hf:(fl && kf c)=false:=by
   unfold rP at hs;simp only [Bool.and_eq_true,Bool.not_eq_true'] at hs;exact hs.2
  have hst:1≤iR (c::r) fl:=by
   unfold iR;rw [gj,List.drop_zero,jL];have hr:∀ j∈jL fl (0+1) r,1≤j:=fun j hj=>(nI hj).1
   split
   ·rename_i hc
    rw [qb];have hgo:oC (c::r) fl 0=true:=by
     unfold oq at hc;rw [hf,Bool.or_false,Bool.or_eq_true] at hc;rcases hc with hc|hc
     ·have e:c=58:=by simpa using hc
      subst e;rw [if_pos (by simp)] at h2;exact Dk (.inl ⟨rfl,h2⟩)
     ·have e:c=35:=by simpa using hc
      subst e;exact Dk (.inr ⟨rfl,.inl rfl⟩)
    rw [if_pos hgo];exact uv (by simp) hr
   ·exact uv (by simp) hr
  unfold gG;rcases Nat.eq_zero_or_pos (iI ((c::r).take (iR (c::r) fl))).length with h0|h0
  ·exfalso
   have e:=List.eq_nil_of_length_eq_zero h0
   unfold iI at e;rw [List.reverse_eq_nil_iff] at e;have:=J3 e c (by
    rw [List.mem_reverse];obtain ⟨m,hm⟩:∃ m,iR (c::r) fl=m+1:=⟨_,(Nat.sub_add_cancel hst).symm⟩
    rw [hm,List.take_succ_cons];exact List.mem_cons_self)
   rw [hb] at this;cases this
  ·exact h0
theorem pe {ls:List Ln}{n c:Int} (hs:Small ls):∀ {f:Nat}{p p':Int × Int}{l:List Int}{all all':List (List Int)}{k:Int},jw ls n c f p l all=.ok (p',all',k) →
  0≤p.1→p.1 < ls.length→0≤p.2→(0 < l.length→p.2+l.length≤4000)→Le2 p p'∧p'.1 < ls.length∧0≤p'.1∧0≤p'.2∧0≤k∧p'.2+(k+1)≤4000
 | f,p,p',l,all,all',k,h,h0,h1,h2,h3=>by
  rw [o3] at h;split at h
  ·rename_i hc
   have hin:=zB hc
   cases h
   exact ⟨Le2.rfl_,h1,h0,h2,hin.1,by have:=h3 (by omega);omega⟩
  ·split at h
   ·cases h
   ·rename_i ho
    have hlt:=ji (Bool.not_eq_true _ |>.mp ho)
    have ha:=hs.at_ (i:=(p.1+1).toNat) (by omega)
    split at h
    ·cases h
    ·cases f with
     | zero=>cases h
     | succ f =>
      obtain ⟨a1,a2,a3,a4,a5,a6⟩:=pe hs h (by dsimp only;omega) (by dsimp only;omega) (by dsimp only;omega) (fun _=>by dsimp only;omega);refine ⟨?_,a2,a3,a4,a5,a6⟩;unfold Le2 at a1 ⊢;dsimp only at a1;omega
theorem zl {ls:List Ln}{n c s:Int}{q e:Int × Int}{t:List Int} (hs:Small ls) (hq:Pl ls q) (h:dk ls n c q=.ok (t,s,e)):Le2 q e∧Pl ls e∧mu e+1≤mu q:=by
 have hm:=en hs hq
 have hl:=hs.1
 unfold dk at h;unfold Pl at hq;have h3:0 < (aH ls (q.1,q.2+1)).length→((q.1,q.2+1):Int × Int).2+(aH ls (q.1,q.2+1)).length≤4000:=fun h=>(cA hs h).2.2.2
 have key:∀ {p':Int × Int} {all':List (List Int)} {k:Int},jw ls n c ls.length (q.1,q.2+1) (aH ls (q.1,q.2+1)) []=.ok (p',all',k)→e=(p'.1,p'.2+(k+1))→Le2 q e∧Pl ls e∧mu e+1≤mu q:=by
  intro p' all' k h4 he;obtain ⟨a1,a2,a3,a4,a5,a6⟩:=pe hs h4 hq.1 hq.2.1 (by dsimp only;omega) h3;subst he;have b1:Le2 (q.1,q.2+1) (p'.1,p'.2+(k+1)):=by unfold Le2 at a1 ⊢;dsimp only at *;omega
  have b2:=iu b1 (by dsimp only;omega) (by dsimp only;omega)
  refine ⟨?_,⟨a3,a2,by dsimp only;omega,by dsimp only;omega⟩,by omega⟩;unfold Le2 at b1 ⊢;dsimp only at *;omega
 split at h
 ·cases h
 ·rename_i p' all' k h4
  split at h
  ·split at h
   ·cases h;exact key h4 rfl
   ·cases h
  ·cases h;exact key h4 rfl
theorem rn {ls:List Ln}{n:Int}{ib:Bool} (hs:Small ls):∀ {f:Nat}{p e:Int × Int}{l:List Int}{all all':List (List Int)},mr ls n ib f p l all=.ok (all',e) →
  Pl ls p→p.2+l.length≤4000→Le2 (p.1,p.2+(gG l (!ib):Nat)) e∧Pl ls e
 | f,p,e,l,all,all',h,h0,h1=>by
  rw [kQ] at h;have hen:=Ei (l:=l) (fl:=!ib)
  split at h
  ·cases h
  ·split at h
   ·rename_i hfu
    cases f with
    | zero=>cases h
    | succ f =>
     obtain ⟨g1,g2,g3,-⟩:=wM (q:=(bX ls n ib p.1).1) hs h0.1 (Prod.ext rfl hfu.2);obtain ⟨a1,a2⟩:=rn hs h g1 (cA hs g3).2.2.2;refine ⟨?_,a2⟩;unfold Le2 at a1 ⊢;dsimp only at a1 ⊢;omega
   ·cases h
    unfold Pl at h0;refine ⟨Le2.rfl_,⟨h0.1,h0.2.1,by dsimp only;omega,by dsimp only;omega⟩⟩
theorem DK {ls:List Ln}{n:Int}{ib:Bool}{q e:Int × Int}{t:List Int} (hs:Small ls) (hq:Pl ls q) (h0:0 < (aH ls q).length) (hb:fJ (aH ls q) (!ib)=true) (h:fP ls n ib q (aH ls q)=.ok (t,e)):Le2 q e∧Pl ls e∧mu e+1≤mu q:=by
 have hm:=en hs hq
 have he:=Dx hb
 unfold fP at h;split at h
 ·cases h
 ·rename_i h4
  cases h
  obtain ⟨a1,a2⟩:=rn hs h4 hq (cA hs h0).2.2.2;unfold Pl at hq a2;have b1:Le2 (q.1,q.2+1) e:=by unfold Le2 at a1 ⊢;dsimp only at *;omega
  have b2:=iu b1 a2.2.2.1 (by dsimp only;omega)
  refine ⟨?_,a2,by omega⟩;unfold Le2 at b1 ⊢;dsimp only at *;omega
theorem HQ {ls:List Ln}{n d c:Int}{k:Nat}{N:Nat→Int × Int→NodeR}{v:TrV}{p e:Int × Int}{ev:List EvV} (hs:Small ls) (hG:∀ k,fU ls (N k)) (hp:Pl ls p) (h:l5 ls n d k N p c v=.ok (ev,e)):Le2 p e∧Pl ls e∧ev.length+4+8 * mu e≤8 * mu p∧0 < ev.length:=by
 have hm:=en hs hp
 have hw:=hp.w1 hs
 have a8:Le2 p (p.1,p.2+1):=.inr ⟨rfl,by dsimp only;omega⟩
 unfold l5 at h;split at h
 ·cases h
 ·split at h
  ·cases h
  ·rename_i q hq
   obtain ⟨c1,c2,c3,c4⟩:=fQ hs hq;have c5:=e8 hs hq hw.2.2.2
   split at h
   ·cases h
   ·rename_i ev1 e1 he
    cases h
    have hE:zT ls (if c=123 then lZ ls n (N (k+1)) else jd ls n d (k+1) (N (k+1)) (N (k+2))):=by
     split
     ·exact wx hs (hG _)
     ·exact vR hs (hG _) (hG _)
    obtain ⟨d1,d2,d3,d4⟩:=qc (M:=8 * mu q) hs hE c2 (by simp) he;have d5:=Pl.behind (n:=1) hs d4 (by omega)
    have d6:=en hs d2
    refine ⟨((a8.trans c1).trans d1).trans (.inr ⟨rfl,by dsimp only;omega⟩),d5, ?_,by simp⟩;simp only [List.length_cons,List.length_append,List.length_nil];omega
theorem wV {ls:List Ln}{n d:Int}{bk:Bool}{k:Nat}{N:Nat→Int × Int→NodeR} (hs:Small ls) (hG:∀ k,fU ls (N k)):fU ls (ki ls n d bk N k):=by
 intro p ev e t hp h;have hpw:=hp.w hs
 unfold ki at h;split at h
 ·cases h
 ·rename_i v q ok ht
  obtain ⟨b1,b2,b3⟩:=vd hs hpw ht;have fin:∀ {e:Int × Int} {ev:List EvV},Le2 p q→Pl ls q→Le2 q e→Pl ls e→mu e+1≤mu q→ev.length=1→Le2 p e∧Pl ls e∧ev.length+4+8 * mu e≤8 * mu p∧0 < ev.length:=by
   intro e ev h1 h2 h3 h4 h5 h6;have:=iu h1 h2.2.2.1 hp.2.2.1
   exact ⟨h1.trans h3,h4,by omega,by omega⟩
  have fin0:jW v=true→Le2 p v.q∧Pl ls v.q∧[mL v].length+4+8 * mu v.q≤8 * mu p∧0 < [mL v].length:=fun h=>by
   obtain ⟨g1,g2,g3⟩:=b3 h;exact ⟨g2,g1,by simp;omega,by simp⟩
  cases ok
  ·obtain rfl:=b2 rfl
   simp only [Bool.false_eq_true,if_false] at h;have hh:∀ c,bU [] c=false:=fun c=>rfl
   unfold rq at h;simp only [hh,Bool.false_eq_true,if_false,false_or,List.length_nil,Nat.lt_irrefl,false_and] at h;split at h
   ·rename_i ha
    cases h
    exact fin0 ha
   ·cases h
  ·obtain ⟨c1,c2,c3,c4⟩:=b1 rfl
   simp only [if_true] at h;unfold rq at h;split at h
   ·rename_i h0
    split at h
    ·cases h
    ·split at h
     ·rename_i hal
      cases h
      have hl:(aH ls q).length - 1=((aH ls q).drop 1).length:=by simp
      have hc:=eX eK ((aH ls q).drop 1)
      have hc1:(bR ((aH ls q).drop 1)).2.1=(gD eK ((aH ls q).drop 1):Nat):=rfl
      rw [hc1];have d1:=Pl.behind (n:=(gD eK ((aH ls q).drop 1):Nat)+1) hs c3 (by omega)
      have d2:=en hs c2
      have d3:Le2 (q.1,q.2+1) (q.1,q.2+((gD eK ((aH ls q).drop 1):Nat)+1)):=.inr ⟨rfl,by dsimp only;omega⟩
      have d4:=iu d3 d1.2.2.1 (by have:=c2.2.2.1;dsimp only;omega)
      exact fin c1 c2 (.inr ⟨rfl,by dsimp only;omega⟩) d1 (by omega) rfl
     ·cases h
   ·split at h
    ·split at h
     ·cases h
     ·rename_i hq
      cases h
      obtain ⟨d1,d2,d3⟩:=zl hs c2 hq;exact fin c1 c2 d1 d2 d3 rfl
    ·split at h
     ·split at h
      ·cases h
      ·rename_i hq
       cases h
       obtain ⟨d1,d2,d3,d4⟩:=HQ hs hG c2 hq;have:=iu c1 c2.2.2.1 hp.2.2.1
       exact ⟨c1.trans d1,d2,by omega,d4⟩
     ·split at h
      ·rename_i hbg
       split at h
       ·cases h
       ·rename_i hq
        cases h
        obtain ⟨d1,d2,d3⟩:=DK hs c2 c3 hbg.2 hq;exact fin c1 c2 d1 d2 d3 rfl
      ·split at h
       ·rename_i ha
        cases h
        exact fin0 ha
       ·cases h
end Go.Proofs.YthkabaiamcjdbaaGreat
namespace Go.Abs
open Go.RowKit
section
variable {κ:Ctx} {P:Program} {σ:List Res} {K:AV→List Res→Prop}
theorem uM {y:AV}{t e:TypeId}{sz:Nat}{tk:Option (Nat × Nat)}{l1 l2:List AV}{z:Value}{by_:Nat} (i:Nat) (h:σ[i]? = some (.tip tk)) (he:jg P t=some e) (hs:dj P e=some sz) (hb:mg P e=some by_) (hz:dP P e=some z) (hzs:z.cells.size=sz)
  (hsrcR:∀ (φ:List Res) (g:Nat→Nat) (w:World),Rel κ g (φ++σ) w→∀ u,VR g w y u→∃ us2,FR g w sz l2 us2∧Src P sz t u l2.length us2 w) (hlen:(l1.length+l2.length) * by_≤140737488355328) (hmax:l1.length+l2.length≤maxLen) (hK:∀ tk',K (.sl sz (some tk') (l1++l2)) (σ.set i (.tip tk'))):AAct κ P (.append t) [.sl sz (some tk) l1,y] σ K:=by
 intro φ g w vs hR hvs;obtain ⟨v,u,rfl,hv,hu⟩:=dA hvs;have ht:=aR he
 obtain ⟨inf,hi,hisz,hiby,hizr⟩:∃ inf,P.info? e=some inf∧inf.size=sz∧inf.bytes=by_∧inf.zero=some z:=by
  unfold dj mg dP at *;cases hi:P.info? e with
  | none=>simp [hi] at hs
  | some inf=>exact ⟨inf,rfl,by simpa [hi] using hs,by simpa [hi] using hb,by simpa [hi] using hz⟩
 obtain ⟨us2,hf2,hsrc⟩:=hsrcR φ g w hR u hu;have hset:∀ tk',(φ++σ.set i (.tip tk')).Perm (.tip tk'::(φ++σ.eraseIdx i)):=fun tk'=>((fq h).symm.append_left φ).trans List.perm_middle
 have hR0:=hR.perm (c6 (φ:=φ) (dE h))
 have hRd:Rel κ g (φ++σ.eraseIdx i) w:=hR0.sub (List.sublist_cons_self _ _)
 have hm63:((l1.length+l2.length:Nat):Int)≤9223372036854775807:=by unfold maxLen at hmax;omega
 have grow:∀ (base:Option Addr) (cap:Nat) (us1:List Value),v=.slice base l1.length cap→FR g w sz l1 us1→(Builtin.firstCells inf.size l1.length (.slice base l1.length cap)).run P w.drew=.ok us1.toArray w.drew→cap < l1.length+l2.length →
   ∃ v_1 w' g' x σ',Sem.run P ((MA.append t).sem [v,u]) w=Result.ok v_1 w'∧Rel κ g' (φ++σ') w'∧GE g w g' w'∧VR g' w' x v_1∧K x σ':=by
  intro base cap us1 hv1 hf1 hold hlt;subst hv1;have hsz:0 < sz:=by
   rcases hv.sl_inv with ⟨_,_,_,h3⟩|⟨_,_,_,_,_,_,h3,_⟩<;>exact h3
  have hrun:=run_append_grow_src (P:=P) w t t t e inf z ht hi hizr base l1.length cap us1 hold u l2.length us2 (hisz ▸ hsrc) hlt hm63 (by rw [hiby];exact growslice_fits hlt hlen)
  have hcapge:=grownCap_ge w (l1.length+l2.length) cap e
  have hcapmax:=grownCap_le_maxLen w (l1.length+l2.length) cap e hmax
  have hRdr:Rel κ g (φ++σ.eraseIdx i) w.drew:=hRd.of_heap rfl rfl rfl rfl
  have hfa:FR g w.drew sz (l1++l2) (us1++us2):=FR.mono (GE.of_heap (g:=g) (w:=w) (w':=w.drew) rfl) (hf1.append hf2)
  have hll:(l1++l2).length=l1.length+l2.length:=by simp
  obtain ⟨b1,b2,b3⟩:=sJ hRdr hfa hsz (Builtin.zeroCells z.cells (grownCap w (l1.length+l2.length) cap e - (l1.length+l2.length))) e (cap:=grownCap w (l1.length+l2.length) cap e) (by rw [hll];exact hcapge) hcapmax (by rw [size_zeroCells,hzs,hll]);rw [hll] at b1 b2 b3;refine ⟨_,_,_,_,_,hrun,(b1.perm (List.perm_middle.trans (hset _).symm)),(GE.of_heap (g:=g) (w:=w) (w':=w.drew) rfl).trans b2,b3,hK _⟩
 rcases hv.sl_inv with ⟨rfl,_,hnil,hsz⟩|⟨b,off,cap,rfl,hcap,hmaxc,hsz,_,_,hgle,hown⟩
 ·-- the destination is nil
  obtain rfl:=hnil rfl;by_cases hl2:l2=[]
  ·subst hl2
   have hus:us2=[]:=by have:=hf2.len;simpa using this
   subst hus;refine ⟨.slice none 0 0,w,g,.sl sz (some none) ([]++[]),σ.set i (.tip none), ?_, ?_,GE.refl _ _,.slnil hsz,hK none⟩
   ·have hc0:(Builtin.firstCells sz 0 u).run P w=.ok #[] w:=hsrc.cells
    have hl0:∀ w':World,(Builtin.lenOf u).run P w'=.ok 0 w':=hsrc.len
    simp [MA.sem,nth,Builtin.append_,bE ht,sizeOf,kJ hi,hl0,hc0,hisz]
   ·exact (hRd.void).perm (hset none).symm
  ·refine grow none 0 [] rfl FR.nil ?_ ?_
   ·simpa using run_firstCells_none w.drew inf.size 0 0 0
   ·have:0 < l2.length:=List.length_pos_iff.2 hl2
    simpa using this
 ·obtain ⟨us1,hf1,hc1⟩:=hv.flat
  by_cases hroom:l1.length+l2.length≤cap
  ·-- in place
   obtain ⟨htk,hblk⟩:=hown tk rfl;subst htk;obtain ⟨hgb,arr,ty,hh⟩:=hR.holds _ (cN h);simp only at hgb hh;have hlenb:bu w b=arr.size:=by simp [bu,hh]
   have hmul:(l1.length+l2.length) * sz≤cap * sz:=Nat.mul_le_mul_right sz hroom
   have hadd:(l1.length+l2.length) * sz=l1.length * sz+l2.length * sz:=Nat.add_mul _ _ _
   have hrun:=run_append_room_src (P:=P) w t t t e inf ht hi b off l1.length cap u l2.length us2 (hisz ▸ hsrc) hroom (fun j hj=>by
     have hj':=hf2.len
     have:off+l1.length * inf.size+j < arr.size:=by rw [hisz];omega
     simp [World.cell?,hh,this]) (fun j hj=>by simp [World.frozen?,hh])
   rw [hisz] at hrun;obtain ⟨arr',k1,k2,k3,k4,k5,k6,k7⟩:=iG b ty us2 (off+l1.length * sz) w arr hh;generalize hw':w.setCells b (off+l1.length * sz) us2=w' at *;have hin:=fun j (hj:j < us2.length)=>World.cell?_setCells_in b us2 (off+l1.length * sz) w (fun j hj=>by
     have hj':=hf2.len
     have:off+l1.length * sz+j < arr.size:=by omega
     simp [World.cell?,hh,this]) j hj
   have hout:∀ o,o < off+l1.length * sz→w'.cell? ⟨b,o,none⟩=w.cell? ⟨b,o,none⟩:=fun o ho=>by
    rw [← hw'];exact World.cell?_setCells_out b us2 _ w ⟨b,o,none⟩ (fun _ _=>.inl ho)
   have hge:GE g w (zk g b (off+(l1.length+l2.length) * sz)) w':=by
    refine ⟨by rw [k3];exact Nat.le_refl _,fun c=>?_,fun c o ho=>?_,fun c=>?_⟩
    ·by_cases ec:c=b
     ·subst ec;rw [eL,hgb];omega
     ·rw [eR ec];exact Nat.le_refl _
    ·by_cases ec:c=b
     ·subst ec;exact hout o (by omega)
     ·simp only [World.cell?];rw [k7 c ec]
    ·by_cases ec:c=b
     ·subst ec;simp only [bu,k1,hh];omega
     ·simp only [bu];rw [k7 c ec];exact Nat.le_refl _
   have hR2:Rel κ (zk g b (off+(l1.length+l2.length) * sz)) (.tip (some (b,off+(l1.length+l2.length) * sz))::(φ++σ.eraseIdx i)) w' :=
    hR0.change hge k4 k5 k6 k3 k7 (fun c hc=>eR hc) rfl rfl ⟨eL _ _ _,arr',ty,k1⟩
   refine ⟨_,w',_,_,_,hrun,hR2.perm (hset _).symm,hge, ?_,hK _⟩;have hll:(l1++l2).length=l1.length+l2.length:=by simp
   refine ((hf1.append hf2).mono hge).slice hsz hll.symm (by rw [hll];exact hroom) hmaxc (fun j x hj=>?_) (by rw [hll,eL];exact Nat.le_refl _) (fun t' ht'=>?_)
   ·by_cases hlt:j < us1.length
    ·rw [List.getElem?_append_left hlt] at hj
     rw [hout _ (by have:=hf1.len;omega)];exact hc1 j x hj
    ·rw [List.getElem?_append_right (by omega)] at hj
     have hlt2:=aL hj
     have h5:=hin (j - us1.length) hlt2
     rw [hw'] at h5;have h6:=hf1.len
     have h7:off+j=off+l1.length * sz+(j - us1.length):=by omega
     rw [h7,h5,← hj,List.getElem?_eq_getElem hlt2]
   ·cases ht'
    refine ⟨by rw [hll], ?_⟩;simp only [bu,k1,k2];omega
  ·exact grow (some ⟨b,off,none⟩) cap us1 rfl hf1 (run_firstCells_some w.drew inf.size _ _ _ _ us1 (by rw [hisz];exact hf1.len) (fun j u hj=>by rw [Addr.add_lit];simpa using hc1 j u hj)) (by omega)
theorem yl {φ:List Res}{g:Nat→Nat}{w:World}{b o n c j sz:Nat}{cs l2:List AV}{t e:TypeId} (hj:σ[j]? = some (.obj b cs)) (ht:P.underlying t=some (.slice e)) (hsz:0 < sz) (hn:l2.length=n) (hel:∀ (i:Nat) (x:AV),l2[i]? = some x→x.cells.length=sz) (hcs:(cs.drop o).take (n * sz)=aD l2) (hgood:cY l2=true)
  (hR:Rel κ g (φ++σ) w) (u:Value) (hu:VR g w (bT b o n c) u):∃ us2,FR g w sz l2 us2∧Src P sz t u l2.length us2 w:=by
 cases hu.raw_eq
 obtain ⟨hg0,cur,ety,hh,htr⟩:=hR.holds _ (cN hj);have hsize:=htr.size
 have hlen:(aD l2).length=n * sz:=by rw [da l2 hel,hn]
 have hcl:=congrArg List.length hcs
 rw [hlen,List.length_take,List.length_drop] at hcl;have hroom:n * sz≤cs.length - o:=by omega
 have hget:∀ k:Nat,k < n * sz→(aD l2)[k]? = cs[o+k]?:=fun k hk=>by
  rw [← hcs,List.getElem?_take_of_lt hk,List.getElem?_drop]
 have hus:∀ k:Nat,k < n * sz→((cur.toList.drop o).take (n * sz))[k]? = cur[o+k]?:=fun k hk=>by
  rw [List.getElem?_take_of_lt hk,List.getElem?_drop,Array.getElem?_toList]
 have hul:((cur.toList.drop o).take (n * sz)).length=n * sz:=by
  rw [List.length_take,List.length_drop,Array.length_toList,hsize];omega
 have hf:FR g w sz l2 ((cur.toList.drop o).take (n * sz)):=by
  refine ⟨by rw [hul,hn],hel,fun i x k y hi hk=>?_⟩;have h1:=aL hi
  have h2:=aL hk
  rw [hel i x hi] at h2;have h3:i * sz+k < n * sz:=by
   have:(i+1) * sz≤n * sz:=Nat.mul_le_mul_right sz (by omega)
   rw [Nat.add_mul,Nat.one_mul] at this;omega
  have h4:(aD l2)[i * sz+k]? = some y:=by
   rw [oZ hsz l2 hel];rw [show (i * sz+k) / sz=i by rw [Nat.add_comm,Nat.add_mul_div_right _ _ hsz,Nat.div_eq_of_lt h2,Nat.zero_add],show (i * sz+k) % sz=k by rw [Nat.add_comm,Nat.add_mul_mod_self_right,Nat.mod_eq_of_lt h2],hi];exact hk
  rw [hget _ h3] at h4;have h5:o+(i * sz+k) < cur.size:=by have:=aL h4;omega
  refine ⟨cur[o+(i * sz+k)],by rw [hus _ h3,Array.getElem?_eq_getElem h5], ?_⟩;have:=htr.get _ _ h4
  rwa [Array.getD_eq_getD_getElem?,Array.getElem?_eq_getElem h5] at this
 refine ⟨_,hf, ?_⟩;rw [hn];refine Src.ofSlice w ht _ _ _ _ hul (fun k u hk=>?_) (hf.one hgood);have hk1:=aL hk
 rw [hul] at hk1;rw [hus k hk1] at hk;rw [Addr.add_lit];simp only [World.cell?,hh];exact hk
end
section
variable {κ:Ctx} {P:Program} {all rest:List Oper} {Q:Exit→St→Prop} {d:Option Tmp} {t:List AV} {σ:List Res} {fr:Bool} {df:List Deferred}
theorem HL {ty e:TypeId}{sz by_ i j b o n c:Nat}{tk:Option (Nat × Nat)}{z:Value}{cs:List AV} (l2:List AV) [hS:TSl P ty e sz by_ z] [h:HasTip σ tk i] [hj:Hold σ b j cs] (hn:l2.length=n) (hel:∀ (i:Nat) (x:AV),l2[i]? = some x→x.cells.length=sz) (hcs:(cs.drop o).take (n * sz)=aD l2) (hgood:cY l2=true)
  (hlen:l2.length * by_≤140737488355328) (hmax:l2.length≤maxLen) (hK:∀ tk',dw κ false P all Q d rest ⟨t,σ,fr,df⟩ (.sl sz (some tk') l2) (σ.set i (.tip tk'))):cu κ false P all Q d rest ⟨t,σ,fr,df⟩ (.append ty) [.sl sz (some tk) [],bT b o n c] :=
 cl (uM (l1:=[]) (l2:=l2) i h.get hS.sl hS.hz hS.by' hS.zr hS.one (fun φ g w hR u hu=>yl hj.get (aR hS.sl) hS.pos hn hel hcs hgood hR u hu) (by simpa using hlen) (by simpa using hmax) (fun tk'=>by simpa using hK tk'))
theorem Lz {ty e:TypeId} (n:Nat) (h:P.underlying ty=some (.slice e)) {a:Addr}{m c:Nat}{w:World}:(Op.equalIn (n+1) ty (.slice (some a) m c) (.slice none 0 0)).run P w=.ok false w:=by
 simp [Op.equalIn,bE h]
theorem xb {ty e:TypeId}{sz by_ b o n c:Nat}{z:Value} [hS:TSl P ty e sz by_ z] (hK:dw κ false P all Q d rest ⟨t,σ,fr,df⟩ (B false) σ):ij κ false P all Q d rest ⟨t,σ,fr,df⟩ .eql ty (bT b o n c) nilS:=by
 refine ⟨rfl, ?_⟩;show AAct κ P (.bin .eql ty) [bT b o n c,nilS] σ _
 intro φ g w vs hR hvs;obtain ⟨v,u,rfl,hu,hv⟩:=dA hvs;cases hu.raw_eq
 cases hv.raw_eq
 refine ⟨.bool false,w,g,_,σ, ?_,hR,GE.refl _ _,.raw _,hK⟩;show (binOp .eql ty (.slice (some ⟨b,o,none⟩) n c) (.slice none 0 0)).run P w=_
 have:=Lz (w:=w) (a:=⟨b,o,none⟩) (m:=n) (c:=c) 9999 (aR hS.sl)
 simp only [binOp,Op.equal,show Op.maxDepth=9999+1 from rfl,Sem.run_bind,this];rfl
theorem TW {ty e:TypeId}{sz by_ b o n c:Nat}{i:Int} (a:Nat) {z:Value} [hS:TSl P ty e sz by_ z] (hi:i=a) (ha:a < n) (hc:n≤c) (hK:dw κ false P all Q d rest ⟨t,σ,fr,df⟩ (bT b (o+a * sz) (n - a) (c - a)) σ):cu κ false P all Q d rest ⟨t,σ,fr,df⟩ (.slice ty true false false) [bT b o n c,I i,.any,.any]:=by
 subst hi;refine cl (u9 hS.sl hS.hz (by omega) hc ?_);rw [if_neg (by omega)];exact hK
theorem dU {dm:Bool}{ty e:TypeId}{sz sz' by_:Nat}{z:Value}{y:AV}{l:List AV}{ρ:List Res} [hS:TSl P ty e sz' by_ z] (hR:RowR sz y l ρ) (hK:dw κ dm P all Q d rest ⟨t,σ,fr,df⟩ (I l.length) σ):Gu κ dm P all Q d rest ⟨t,σ,fr,df⟩ ty y:=by
 cases hR with
 | nil=>exact ⟨by rw [hS.sl];rfl,hK⟩
 | row=>exact ⟨by rw [hS.sl];rfl,hK⟩
end
end Go.Abs
namespace Go.Proofs.YthkabaiamcjdbaaGreat
open Go.Abs
variable {κ:Ctx} {σ:List Res} {K:Ret→List Res→Prop} {o o':Option (Option (Nat × Nat))}
theorem oD (l:List EvV):∀ (i:Nat) (x:AV),(l.map EVA)[i]? = some x→x.cells.length=6:=by
 intro i x h;rw [List.getElem?_map] at h;cases h2:l[i]? with
 | none=>rw [h2] at h;cases h
 | some e=>rw [h2] at h;cases h;rfl
theorem pz (l:List EvV):cY (l.map EVA)=true:=by
 unfold cY;rw [List.all_map];exact List.all_eq_true.2 (fun e _=>rfl)
abbrev ev0:EvV:=⟨0,.empty,.empty,.empty,0,false⟩
theorem W0 {l:List EvV}{k:Nat} (h:k < l.length):(l.map EVA).getD k .any=EVA (l.getD k ev0):=by
 simp [List.getD_eq_getElem?_getD,h]
theorem SA {rb j oo n c:Nat}{cs:List AV}{l2:List EvV} [hH:Hold σ rb j cs] (hn:l2.length=n) (hl:n≤1000000000) (hcs:(cs.drop oo).take (n * 6)=aD (l2.map EVA)) (hK:K (.ret (.sl 6 none (l2.map EVA))) σ):ACallF κ Tryz.prog 95 [bT rb oo n c] σ K:=by
 refine ACallF.dropL (aa Tryz.func95 rfl ?_);simp only [Tryz.ntmps95]
 repeat' (first|( with_reducible refine xb ?_)|simp only [WL,WM,Nat.reduceAdd,Nat.reduceSub,true_and,Tryz.results95]|with_reducible refine TF (ty:=24) (hK:=fun tb=>?_)|( refine HL (l2.map EVA) (by rw [List.length_map];exact hn) (oD l2) hcs (pz l2) (by rw [List.length_map];omega) (by rw [List.length_map];unfold maxLen;omega) (fun tk=>?_)))
 exact ak (ah ae) (eI le_ro) hK
theorem NU {l:List EvV}{k:Nat} (h:k < l.length):l.drop k=l.getD k ev0::l.drop (k+1):=by
 rw [List.drop_eq_getElem_cons h];simp [List.getD_eq_getElem?_getD,h]
theorem lF:∀ (l:List EvV) (d m:Int),m≤ky d m l∧ky d m l≤max m (d+l.length)
 | [],d,m=>⟨Int.le_refl _,by unfold ky;simp;omega⟩
 | e::l,d,m=>by
  unfold ky;simp only [List.length_cons];split
  ·have:=lF l (d+1) (max m (d+1));omega
  ·split
   ·have:=lF l (d - 1) m;omega
   ·have:=lF l d m;omega
theorem Dw (l:List EvV):0≤o1 l∧o1 l≤l.length:=by
 have:=lF l 0 0
 unfold o1;omega
theorem Uw {l:List EvV} (hl:l.length≤1000000000) (hK:K (.ret (I (o1 l))) σ):ACallF κ Tryz.prog 208 [.sl 6 o (l.map EVA)] σ K:=by
 have hlm:(l.map EVA).length=l.length:=List.length_map _
 refine ACallF.dropL (aa Tryz.func208 rfl ?_);simp only [Tryz.ntmps208]
 repeat' (first|simp only [WL,WM,Nat.reduceAdd,Nat.reduceSub,true_and,mf,hlm])
 refine bF (fun z:Nat × Int × Int=>⟨(.sl 6 o (l.map EVA)::.any::.any::I z.2.1::I z.2.2::.any::.any::.sl 6 o (l.map EVA)::I l.length::I z.1::.any::.any::.any::.any::.any::.any::.any::.any::.any::.any::.any::.any::.any::.any::.any::.any::.any::.any::.any::.any::[]),σ,true,[]⟩) (fun z=>z.1≤l.length∧o1 l=ky z.2.1 z.2.2 (l.drop z.1)∧-z.1≤z.2.1∧z.2.1≤z.1∧0≤z.2.2∧z.2.2≤z.1) (fun z=>l.length - z.1) (0,0,0) (aq bH id) ⟨Nat.zero_le _,rfl,by simp,by simp,by simp,by simp⟩ ?_;rintro ⟨i,dd,m⟩ ⟨h1,h2,h3,h4,h5,h6⟩;dsimp only at h1 h2 h3 h4 h5 h6 ⊢;rcases Nat.lt_or_ge i l.length with hi|hi
 ·rw [NU hi,ky] at h2
  repeat' (first|simp only [WL,ay,WM,reduceCtorEq,bg,Nat.reduceAdd,Nat.reduceEqDiff,true_and,T3,mf,Z5,fR q6,Tryz.results208,hlm]|simp (disch:=first|omega|(simp only [aU];omega)) only [an,W0]|(with_reducible first|refine ax (hb:=?_)|refine au (hK:=?_)|refine az (hK:=?_)|refine aV (hK:=fun b=>?_)|refine mS ?_)|((with_reducible first|refine ai (fun h=>?_) (fun h=>?_)|refine ab (fun h=>?_) (fun h=>?_))<;>(try simp only [h])<;>(try simp only [bf,ba] at h))|omega)
  ·rw [if_pos (.inl (by assumption))] at h2
   exact ⟨(i+1,dd+1,max m (dd+1)),aM bH (ResW.sub (List.sublist_cons_self _ _)) id,⟨by dsimp only;omega,h2,by dsimp only;omega,by dsimp only;omega,by dsimp only;omega,by dsimp only;omega⟩,by dsimp only;omega⟩
  ·rw [if_pos (.inr (by assumption))] at h2
   exact ⟨(i+1,dd+1,max m (dd+1)),aM bH (ResW.sub (List.sublist_cons_self _ _)) id,⟨by dsimp only;omega,h2,by dsimp only;omega,by dsimp only;omega,by dsimp only;omega,by dsimp only;omega⟩,by dsimp only;omega⟩
  ·rw [if_neg (by omega),if_pos (.inl (by assumption))] at h2
   exact ⟨(i+1,dd - 1,m),aM bH (ResW.sub (List.sublist_cons_self _ _)) id,⟨by dsimp only;omega,h2,by dsimp only;omega,by dsimp only;omega,by dsimp only;omega,by dsimp only;omega⟩,by dsimp only;omega⟩
  ·rw [if_neg (by omega),if_pos (.inr (by assumption))] at h2
   exact ⟨(i+1,dd - 1,m),aM bH (ResW.sub (List.sublist_cons_self _ _)) id,⟨by dsimp only;omega,h2,by dsimp only;omega,by dsimp only;omega,by dsimp only;omega,by dsimp only;omega⟩,by dsimp only;omega⟩
  ·rw [if_neg (by omega),if_neg (by omega)] at h2
   exact ⟨(i+1,dd,m),aM bH (ResW.sub (List.sublist_cons_self _ _)) id,⟨by dsimp only;omega,h2,by dsimp only;omega,by dsimp only;omega,by dsimp only;omega,by dsimp only;omega⟩,by dsimp only;omega⟩
 ·rw [List.drop_eq_nil_of_le hi] at h2
  repeat' (first|simp only [WL,ay,WM,ne_eq,reduceCtorEq,not_false_eq_true,true_and,mf,Z5,Tryz.results208,hlm]|(with_reducible first|refine ax (hb:=?_)|refine aV (hK:=fun b=>?_))|((with_reducible first|refine ai (fun h=>?_) (fun h=>?_)|refine ab (fun h=>?_) (fun h=>?_))<;>(try simp only [h])<;>(try simp only [bf,ba] at h))|omega)
  exact ak ae (aj (by rw [h2];rfl)) hK
abbrev ES:EvV:=⟨5,.empty,.empty,.empty,0,true⟩
theorem Un {ls:List Ln}{p q:Int × Int}{key:(Int × Int) × Bool} (h:¬key.1.1=p.1∨¬q.1=p.1∨1024 < q.2 - p.2∨uf ls q key=false):Dr ls p q key=false:=by
 unfold Dr;rcases h with h|h|h|h
 ·rw [decide_eq_false h];rfl
 ·rw [decide_eq_false h];simp
 ·rw [decide_eq_false (by omega:¬q.2 - p.2≤1024)];simp
 ·rw [h];simp
theorem Uh {ls:List Ln}{p q:Int × Int}{key:(Int × Int) × Bool} (h1:key.1.1=p.1) (h2:q.1=p.1) (h3:q.2 - p.2≤1024) (h4:uf ls q key=true):Dr ls p q key=true:=by
 unfold Dr;rw [decide_eq_true h1,decide_eq_true h2,decide_eq_true h3,h4];rfl
theorem Ru {d w:Int}{k:Nat} (hw:0≤w) (h:cO d k w=true):cO d k 0=true:=by
 unfold cO at h ⊢;simp only [Bool.and_eq_true,decide_eq_true_eq] at h ⊢;omega
theorem Uu {bj:Nat}{ls:List Ln}{n d:Int}{bk:Bool}{N1:Int × Int→NodeR}{x y:AV}{op:List Int}{l:List EvV}{τ σ0:List Res}{p:Int × Int} (hs:Small ls) (hd:0≤d∧d≤1000000000) (hN1:cO d op.length 0=true→gS κ bj ls n d bk N1 (op.length+1)) (hG1:fU ls N1) (hlo:op.length≤1000000) (hJ:JX x y op l τ σ0) (hp:Pl ls p) (hb:l.length+8 * mu p+8≤1000000000) (h0:gH ls p 63=true)
  (h1:∀ ev e,cO d op.length 0=true→hZ ls n N1 (gr ls n N1 p 93) 93=.ok (ev,e)→∀ x' y' τ',JX x' y' op (l++(iP 5 uX::(ev++[ga 6]))) τ' σ0→K (.ret (cU e)) (.obj bj (JC ls n bk d x' y')::τ'))
  (h2:∀ e,((cO d op.length 0=false∧e=8)∨(cO d op.length 0=true∧hZ ls n N1 (gr ls n N1 p 93) 93=.error e))→∀ x' y' op' l' τ',JX x' y' op' l' τ' σ0→K (.pan (bN e)) (.obj bj (JC ls n bk d x' y')::τ')):ACallF κ Tryz.prog 177 [JP bj,cU p] (.obj bj (JC ls n bk d x y)::τ) K:=by
 have p64:=hp.in64 hs
 have hll:l.length≤1000000000:=by omega
 cases hr:cO d op.length 0
 ·skip
  refine ACallF.dropL (aa Tryz.func177 rfl ?_);simp only [Tryz.ntmps177]
  repeat' (first|simp only [WL,WM,Nat.reduceAdd,Nat.reduceSub,true_and,na,fi,h0]|(with_reducible first|refine aA (hK:=?_)|refine aQ (hK:=fun b=>?_)|refine aV (hK:=fun b=>?_)|refine aI (hK:=?_)|refine cD (fD (p:=p) hs p64 ?_)|refine cD (jH (e:=ES) hJ (by omega) hll hd (fun h=>by rw [hr] at h;cases h) (fun h=>?_))))
  exact aS bC rfl (h2 8 (.inl ⟨hr,rfl⟩) _ _ _ _ _ hJ)
 ·have hN2:gS κ bj ls n d bk N1 (op++[(5:Int)]).length:=by
   rw [List.length_append];exact @fun _ _ _ _ _ _ _ _=>hN1 hr
  unfold hZ at h1 h2;have hl1:(l++[ES]).length=l.length+1:=by simp
  have hpos:=en hs hp
  have hlp:(l++[ES]).length+8 * mu p≤1000000000:=by omega
  cases hn:gr ls n N1 p 93 with
  | error e =>
   rw [hn] at h2;refine ACallF.dropL (aa Tryz.func177 rfl ?_);simp only [Tryz.ntmps177]
   repeat' (first|simp only [WL,WM,Nat.reduceAdd,Nat.reduceSub,true_and,na,fi,qT,h0]|(with_reducible first|refine aA (hK:=?_)|refine aQ (hK:=fun b=>?_)|refine aV (hK:=fun b=>?_)|refine aI (hK:=?_)|refine cD (fD (p:=p) hs p64 ?_)|refine cD (jH (e:=ES) hJ (by omega) hll hd (fun h x' y' τ' hJ'=>?_) (fun h=>by rw [hr] at h;cases h))|refine cD (An (p:=p) hn hN2 hJ' hs hp hlp (fun x'' y'' op' l' τ'' hJ''=>?_))))
   exact aS bC rfl (h2 _ (.inr ⟨hr,rfl⟩) _ _ _ _ _ (by assumption))
  | ok r =>
   obtain ⟨ev,e,tt⟩:=r;rw [hn] at h1 h2;dsimp only at h1 h2;obtain ⟨a1,a2,a3⟩:=lK hs hG1 hp (nF h0) hn;have hl2:(l++[ES]++ev).length+8 * mu (e,tt).1+8≤1000000000:=by rw [List.length_append,hl1];dsimp only;omega
   cases hv:fO ls n N1 (e,tt) 93 with
   | error e2 =>
    rw [hv] at h2;refine ACallF.dropL (aa Tryz.func177 rfl ?_);simp only [Tryz.ntmps177]
    repeat' (first|simp only [WL,WM,Nat.reduceAdd,Nat.reduceSub,true_and,na,fi,mq,qT,h0]|(with_reducible first|refine aA (hK:=?_)|refine aQ (hK:=fun b=>?_)|refine aV (hK:=fun b=>?_)|refine aI (hK:=?_)|refine cD (fD (p:=p) hs p64 ?_)|refine cD (jH (e:=ES) hJ (by omega) hll hd (fun h x' y' τ' hJ'=>?_) (fun h=>by rw [hr] at h;cases h))|refine cD (pJ (p:=p) hn hN2 hJ' hs hp hlp (fun x'' y'' τ'' hJ''=>?_))|refine cD (ph (key:=(e,tt)) hv hN2 hJ'' hs a2 hl2 (fun x3 y3 op' l' τ3 hJ3=>?_))))
    exact aS bC rfl (h2 _ (.inr ⟨hr,rfl⟩) _ _ _ _ _ (by assumption))
   | ok r2 =>
    obtain ⟨ev2,e2⟩:=r2;rw [hv] at h1;obtain ⟨b1,b2,b3⟩:=o5 (key:=(e,tt)) hs hG1 a2 hv;dsimp only at b3;have hl3:(l++[ES]++ev++ev2).length≤1000000000:=by rw [List.length_append,List.length_append,hl1];omega
    refine ACallF.dropL (aa Tryz.func177 rfl ?_);simp only [Tryz.ntmps177]
    repeat' (first|simp only [WL,WM,Nat.reduceAdd,Nat.reduceSub,true_and,na,qB,fi,mq,qT,Tryz.results177,h0]|(with_reducible first|refine aA (hK:=?_)|refine az (hK:=?_)|refine aQ (hK:=fun b=>?_)|refine aV (hK:=fun b=>?_)|refine aI (hK:=?_)|refine cD (fD (p:=p) hs p64 ?_)|refine cD (jH (e:=ES) hJ (by omega) hll hd (fun h x' y' τ' hJ'=>?_) (fun h=>by rw [hr] at h;cases h))|refine cD (pJ (p:=p) hn hN2 hJ' hs hp hlp (fun x'' y'' τ'' hJ''=>?_))|refine cD (pU (key:=(e,tt)) hv hN2 hJ'' hs a2 hl2 (fun x3 y3 τ3 hJ3=>?_))|refine cD (Gv hJ3 (by omega) hl3 (fun x4 y4 τ4 hJ4=>?_)))|((with_reducible refine aY ?_);apply di (hf:=Tryz.results177);exact bn))
    exact ak bC (aj rfl) (h1 _ _ hr rfl _ _ _ (by simpa using hJ4))
end Go.Proofs.YthkabaiamcjdbaaGreat
