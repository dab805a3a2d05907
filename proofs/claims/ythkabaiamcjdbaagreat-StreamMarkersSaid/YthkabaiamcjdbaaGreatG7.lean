/-
  Texts ME, MF, Hc, Hd, Sw, Sp, Sr, Ub, Pb, one behind the other.
-/
import Derived.Test.YthkabaiamcjdbaaGreatG6
set_option linter.unusedVariables false
set_option linter.unusedSimpArgs false
set_option maxHeartbeats 16000000
/-
 Own layer,part E: rows that are one's own,appended to and cut short in place.
-/

namespace Go.Abs
open Go.RowKit
abbrev aI (l:List AV):List AV:=l.flatMap AV.cells
theorem mJ {sz:Nat} (hsz:0 < sz):∀ (l:List AV),(∀ (i:Nat) (x:AV),l[i]? = some x→x.cells.length=sz)→∀ j:Nat,(aI l)[j]? = (l[j / sz]?).bind fun x:AV=>x.cells[j % sz]?
 | [],_,j=>by simp [aI]
 | x::l,hl,j=>by
  have hx:=hl 0 x rfl
  have ih:=mJ hsz l (fun i y hy=>hl (i+1) y (by simpa using hy))
  show (x.cells++aI l)[j]? = _
  by_cases hj:j < sz
  ·rw [List.getElem?_append_left (by omega),Nat.div_eq_of_lt hj,Nat.mod_eq_of_lt hj]
   rfl
  ·rw [List.getElem?_append_right (by omega),ih,hx]
   have e1:j / sz=(j - sz) / sz+1:=by
    rw [Nat.div_eq_sub_div hsz (by omega)]
   have e2:j % sz=(j - sz) % sz:=Nat.mod_eq_sub_mod (by omega)
   rw [e1,e2,List.getElem?_cons_succ]
theorem cZ {sz:Nat}:∀ (l:List AV),(∀ (i:Nat) (x:AV),l[i]? = some x→x.cells.length=sz)→(aI l).length=l.length * sz
 | [],_=>by simp [aI]
 | x::l,hl=>by
  show (x.cells++aI l).length=_
  rw [List.length_append,hl 0 x rfl,cZ l (fun i y hy=>hl (i+1) y (by simpa using hy)),List.length_cons,Nat.succ_mul,Nat.add_comm]
theorem FR.cells {g:Nat→Nat}{w:World}{sz:Nat}{l:List AV}{us:List Value} (h:FR g w sz l us) (hsz:0 < sz):TR g w (aI l) us.toArray:=by
 refine TR.of_get (by rw [h.len,cZ l h.el]) (fun k x hk=>?_)
 rw [mJ hsz l h.el] at hk
 cases hy:l[k / sz]? with
 | none=>rw [hy] at hk;cases hk
 | some y =>
  rw [hy] at hk
  obtain ⟨u,h1,h2⟩:=h.cell _ y _ x hy hk
  rw [show k / sz * sz+k % sz=k by rw [Nat.mul_comm];exact Nat.div_add_mod k sz] at h1
  exact ⟨u,h1,h2⟩
section
variable {κ:Ctx} {P:Program} {σ:List Res} {K:AV→List Res→Prop}
theorem sC {t e:TypeId}{sz:Nat}{b n c:Nat}{cs:List AV}{l2:List AV}{o2:Option (Option (Nat × Nat))}{z:Value}{by_:Nat} (i:Nat) (h:σ[i]? = some (.obj b cs)) (he:g9 P t=some e) (hs:c9 P e=some sz) (hb:ln P e=some by_) (hz:dW P e=some z) (hzs:z.cells.size=sz)
  (hpos:0 < sz) (hgood:cV l2=true) (hcs:cs.length=c * sz) (hn:n≤c) (hlen:(n+l2.length) * by_≤140737488355328) (hmax:n+l2.length≤maxLen)
  (hK:∀ b' c' cs',cs'.length=c' * sz→n+l2.length≤c'→cs'.take ((n+l2.length) * sz)=cs.take (n * sz)++aI l2→K (bM b' 0 (n+l2.length) c') (σ.set i (.obj b' cs'))):AAct κ P (.append t) [bM b 0 n c,.sl sz o2 l2] σ K:=by
 intro φ g w vs hR hvs
 obtain ⟨v,u,rfl,hv,hu⟩:=dZ hvs
 cases hv.raw_eq
 have ht:=aM he
 obtain ⟨inf,hi,hisz,hiby,hizr⟩:∃ inf,P.info? e=some inf∧inf.size=sz∧inf.bytes=by_∧inf.zero=some z:=by
  unfold c9 ln dW at *
  cases hi:P.info? e with
  | none=>simp [hi] at hs
  | some inf=>exact ⟨inf,rfl,by simpa [hi] using hs,by simpa [hi] using hb,by simpa [hi] using hz⟩
 obtain ⟨us2,hf2,hsrc⟩:=z8 ht hu hgood
 have hset:∀ r',(φ++σ.set i r').Perm (r'::(φ++σ.eraseIdx i)):=fun r'=>((gj h).symm.append_left φ).trans List.perm_middle
 have hR0:=hR.perm (eW (φ:=φ) (fk h))
 have hRd:Rel κ g (φ++σ.eraseIdx i) w:=hR0.sub (List.sublist_cons_self _ _)
 have hm63:((n+l2.length:Nat):Int)≤9223372036854775807:=by unfold maxLen at hmax;omega
 obtain ⟨hg0,cur,ety,hh,htr⟩:=hR.holds _ (cK h)
 have hcur:cur.size=c * sz:=by rw [htr.size,hcs]
 have hnc:n * sz≤c * sz:=Nat.mul_le_mul_right sz hn
 have hx2:TR g w (aI l2) us2.toArray:=hf2.cells hpos
 have hl2:(aI l2).length=l2.length * sz:=cZ l2 hf2.el
 have hadd:(n+l2.length) * sz=n * sz+l2.length * sz:=Nat.add_mul _ _ _
 have hold:TR g w (cs.take (n * sz)) (cur.toList.take (n * sz)).toArray:=TR.of_get (by rw [List.length_take,List.length_take,Array.length_toList,hcur,hcs]) (fun k x hk=>by
  rw [List.getElem?_take] at hk ⊢
  split at hk
  ·rename_i hlt;rw [if_pos hlt];exact (show TR g w cs cur.toList.toArray by simpa using htr).get' k x hk
  ·cases hk)
 have holdlen:(cur.toList.take (n * sz)).length=n * sz:=by rw [List.length_take,Array.length_toList,hcur];omega
 have hcell:∀ (k:Nat) (x:Value),(cur.toList.take (n * sz))[k]? = some x→w.cell? ⟨b,k,none⟩=some x:=by
  intro k x hk
  rw [List.getElem?_take] at hk
  split at hk
  ·rw [Array.getElem?_toList] at hk
   simp [World.cell?,hh,hk]
  ·cases hk
 by_cases hroom:n+l2.length≤c
 ·have hmul:(n+l2.length) * sz≤c * sz:=Nat.mul_le_mul_right sz hroom
  have hrun:=run_append_room_src (P:=P) w t t t e inf ht hi b 0 n c u l2.length us2 (hisz ▸ hsrc) hroom (fun j hj=>by
    have hj':=hf2.len
    have:n * inf.size+j < cur.size:=by rw [hisz];omega
    simp [World.cell?,hh,this]) (fun j hj=>by simp [World.frozen?,hh])
  rw [hisz,Nat.zero_add] at hrun
  obtain ⟨arr',k1,k2,k3,k4,k5,k6,k7⟩:=gU b ety us2 (n * sz) w cur hh
  generalize hw':w.setCells b (n * sz) us2=w' at *
  have hin:=fun j (hj:j < us2.length)=>World.cell?_setCells_in b us2 (n * sz) w (fun j hj=>by
    have hj':=hf2.len
    have:n * sz+j < cur.size:=by omega
    simp [World.cell?,hh,this]) j hj
  have hout:∀ o,o < n * sz→w'.cell? ⟨b,o,none⟩=w.cell? ⟨b,o,none⟩:=fun o ho=>by
   rw [← hw'];exact World.cell?_setCells_out b us2 _ w ⟨b,o,none⟩ (fun _ _=>.inl ho)
  have hge:GE g w g w':=by
   refine ⟨by rw [k3];exact Nat.le_refl _,fun _=>Nat.le_refl _,fun c' o ho=>?_,fun c'=>?_⟩
   ·by_cases ec:c'=b
    ·subst ec;rw [hg0] at ho;omega
    ·simp only [World.cell?];rw [k7 c' ec]
   ·by_cases ec:c'=b
    ·subst ec;simp only [bf,k1,hh];omega
    ·simp only [bf];rw [k7 c' ec];exact Nat.le_refl _
  have hcells:∀ o,w'.cell? ⟨b,o,none⟩=arr'[o]?:=fun o=>by simp [World.cell?,k1]
  have hnew:TR g w' (cs.take (n * sz)++aI l2++List.replicate (c * sz - (n+l2.length) * sz) .any) arr':=by
   refine ⟨by rw [k2,hcur,List.length_append,List.length_append,List.length_take,hl2,List.length_replicate,hcs];omega,fun k x hk=>?_⟩
   by_cases h1:k < n * sz
   ·rw [List.append_assoc,List.getElem?_append_left (by rw [List.length_take,hcs];omega)] at hk
    obtain ⟨y,hy1,hy2⟩:=hold.get' k x hk
    have:=hcell k y hy1
    rw [← hout k h1,hcells] at this
    rw [Array.getD_eq_getD_getElem?,this]
    exact hy2.mono hge
   ·by_cases h2:k < (n+l2.length) * sz
    ·rw [List.getElem?_append_left (by rw [List.length_append,List.length_take,hl2,hcs];omega),List.getElem?_append_right (by rw [List.length_take,hcs];omega),List.length_take,hcs,Nat.min_eq_left hnc] at hk
     obtain ⟨y,hy1,hy2⟩:=hx2.get' _ x hk
     have hlt:=aK hy1
     have h5:=hin (k - n * sz) hlt
     rw [hw',show n * sz+(k - n * sz)=k by omega,hcells] at h5
     rw [Array.getD_eq_getD_getElem?,h5]
     have:us2[k - n * sz]'hlt=y:=by rw [List.getElem?_eq_getElem hlt] at hy1;exact Option.some.inj hy1
     simp only [Option.getD_some]
     rw [this]
     exact hy2.mono hge
    ·rw [List.getElem?_append_right (by rw [List.length_append,List.length_take,hl2,hcs];omega),List.getElem?_replicate] at hk
     split at hk
     ·cases hk;exact .any _
     ·cases hk
  have hR2:Rel κ g (.obj b (cs.take (n * sz)++aI l2++List.replicate (c * sz - (n+l2.length) * sz) .any)::(φ++σ.eraseIdx i)) w' :=
   hR0.change hge k4 k5 k6 k3 k7 (fun _ _=>rfl) rfl rfl ⟨hg0,arr',ety,k1,hnew⟩
  refine ⟨_,w',g,_,_,hrun,hR2.perm (hset _).symm,hge,.raw _,hK b c _ ?_ hroom ?_⟩
  ·rw [List.length_append,List.length_append,List.length_take,hl2,List.length_replicate,hcs];omega
  ·rw [List.take_append_of_le_length (by rw [List.length_append,List.length_take,hl2,hcs];omega)]
   exact List.take_of_length_le (by rw [List.length_append,List.length_take,hl2,hcs];omega)
 ·have hrun:=run_append_grow_src (P:=P) w t t t e inf z ht hi hizr (some ⟨b,0,none⟩) n c (cur.toList.take (n * sz)) (run_firstCells_some w.drew inf.size _ _ _ _ (cur.toList.take (n * sz)) (by rw [hisz];exact holdlen) (fun j u hj=>by rw [Addr.add_lit,Nat.zero_add];exact hcell j u hj)) u l2.length us2 (hisz ▸ hsrc) (by omega) hm63 (by rw [hiby];exact growslice_fits (by omega) hlen)
  have hcapge:=grownCap_ge w (n+l2.length) c e
  have hcapmax:=grownCap_le_maxLen w (n+l2.length) c e hmax
  have hRdr:Rel κ g (φ++σ.eraseIdx i) w.drew:=hRd.of_heap rfl rfl rfl rfl
  have hmono:GE g w g w.drew:=GE.of_heap (g:=g) (w:=w) (w':=w.drew) rfl
  generalize hcap:grownCap w (n+l2.length) c e=cap at *
  have hcapsz:(n+l2.length) * sz≤cap * sz:=Nat.mul_le_mul_right sz hcapge
  have hzl:(Builtin.zeroCells z.cells (cap - (n+l2.length))).size=cap * sz - (n+l2.length) * sz:=by rw [size_zeroCells,hzs,Nat.sub_mul]
  have hnew:TR g w.drew (cs.take (n * sz)++aI l2++List.replicate (cap * sz - (n+l2.length) * sz) .any) ((cur.toList.take (n * sz)++us2).toArray++Builtin.zeroCells z.cells (cap - (n+l2.length))):=by
   have h1:TR g w.drew (cs.take (n * sz)++aI l2) (cur.toList.take (n * sz)++us2).toArray:=by
    have:=(hold.append hx2).mono hmono
    simpa using this
   refine h1.append ⟨by rw [hzl,List.length_replicate],fun k x hk=>?_⟩
   rw [List.getElem?_replicate] at hk
   split at hk
   ·cases hk;exact .any _
   ·cases hk
  obtain ⟨b1,b2⟩:=hRdr.new_obj e hnew
  refine ⟨_,_,g,_,_,hrun,(b1.perm (hset _).symm),hmono.trans b2,.raw _,hK _ cap _ ?_ hcapge ?_⟩
  ·rw [List.length_append,List.length_append,List.length_take,hl2,List.length_replicate,hcs];omega
  ·rw [List.take_append_of_le_length (by rw [List.length_append,List.length_take,hl2,hcs];omega)]
   exact List.take_of_length_le (by rw [List.length_append,List.length_take,hl2,hcs];omega)
theorem oF {t e:TypeId}{sz:Nat}{l2:List AV}{o2:Option (Option (Nat × Nat))}{z:Value}{by_:Nat} (he:g9 P t=some e) (hs:c9 P e=some sz) (hb:ln P e=some by_) (hz:dW P e=some z) (hzs:z.cells.size=sz)
  (hpos:0 < sz) (hgood:cV l2=true) (hne:0 < l2.length) (hlen:l2.length * by_≤140737488355328) (hmax:l2.length≤maxLen)
  (hK:∀ b' c' cs',cs'.length=c' * sz→l2.length≤c'→cs'.take (l2.length * sz)=aI l2→K (bM b' 0 l2.length c') (.obj b' cs'::σ)):AAct κ P (.append t) [nilS,.sl sz o2 l2] σ K:=by
 intro φ g w vs hR hvs
 obtain ⟨v,u,rfl,hv,hu⟩:=dZ hvs
 cases hv.raw_eq
 have ht:=aM he
 obtain ⟨inf,hi,hisz,hiby,hizr⟩:∃ inf,P.info? e=some inf∧inf.size=sz∧inf.bytes=by_∧inf.zero=some z:=by
  unfold c9 ln dW at *
  cases hi:P.info? e with
  | none=>simp [hi] at hs
  | some inf=>exact ⟨inf,rfl,by simpa [hi] using hs,by simpa [hi] using hb,by simpa [hi] using hz⟩
 obtain ⟨us2,hf2,hsrc⟩:=z8 ht hu hgood
 have hx2:TR g w (aI l2) us2.toArray:=hf2.cells hpos
 have hl2:(aI l2).length=l2.length * sz:=cZ l2 hf2.el
 have hm63:((0+l2.length:Nat):Int)≤9223372036854775807:=by unfold maxLen at hmax;omega
 have hrun:=run_append_grow_src (P:=P) w t t t e inf z ht hi hizr none 0 0 [] (by simpa using run_firstCells_none w.drew inf.size 0 0 0) u l2.length us2 (hisz ▸ hsrc) (by omega) hm63 (by rw [hiby];exact growslice_fits (by omega) (by simpa using hlen))
 have hcapge:=grownCap_ge w (0+l2.length) 0 e
 have hcapmax:=grownCap_le_maxLen w (0+l2.length) 0 e (by simpa using hmax)
 have hRdr:Rel κ g (φ++σ) w.drew:=hR.of_heap rfl rfl rfl rfl
 have hmono:GE g w g w.drew:=GE.of_heap (g:=g) (w:=w) (w':=w.drew) rfl
 generalize hcap:grownCap w (0+l2.length) 0 e=cap at *
 have hcapsz:l2.length * sz≤cap * sz:=Nat.mul_le_mul_right sz (by omega)
 have hzl:(Builtin.zeroCells z.cells (cap - (0+l2.length))).size=cap * sz - l2.length * sz:=by rw [size_zeroCells,hzs,Nat.sub_mul,Nat.zero_add]
 have hnew:TR g w.drew (aI l2++List.replicate (cap * sz - l2.length * sz) AV.any) (([]++us2).toArray++Builtin.zeroCells z.cells (cap - (0+l2.length))):=by
  have h1:TR g w.drew (aI l2) ([]++us2).toArray:=by simpa using hx2.mono hmono
  refine h1.append ⟨by rw [hzl,List.length_replicate],fun k x hk=>?_⟩
  rw [List.getElem?_replicate] at hk
  split at hk
  ·cases hk;exact .any _
  ·cases hk
 obtain ⟨b1,b2⟩:=hRdr.new_obj e hnew
 have hK2:=hK w.drew.heap.size cap (aI l2++List.replicate (cap * sz - l2.length * sz) AV.any) (by rw [List.length_append,hl2,List.length_replicate];omega) (by omega) (by rw [List.take_append_of_le_length (by omega)];exact List.take_of_length_le (by omega))
 have hv':(.slice (some ⟨w.drew.heap.size,0,none⟩) (0+l2.length) cap:Value)=.slice (some ⟨w.drew.heap.size,0,none⟩) l2.length cap:=by rw [Nat.zero_add]
 exact ⟨_,_,g,bM w.drew.heap.size 0 (0+l2.length) cap,_,hrun,b1.perm List.perm_middle.symm,hmono.trans b2,.raw _,by rw [Nat.zero_add];exact hK2⟩
theorem tj {t e:TypeId}{sz b o n c a:Nat} (he:g9 P t=some e) (hs:c9 P e=some sz) (ha:a≤n) (hc:n≤c) (h0:0 < c) (hK:K (bM b o a c) σ):AAct κ P (.slice t false true false) [bM b o n c,.any,I a,.any] σ K:=by
 intro φ g w vs hR hv
 have h1:=hv.size
 match vs,h1 with
 | [v,u,x,y],_ =>
  have hv0:=hv.get 0 _ rfl
  have hv1:=hv.get 2 _ rfl
  simp at hv0 hv1
  cases hv0.raw_eq
  cases hv1.raw_eq
  have hl:OptR g w none none:=trivial
  have hh:OptR g w (some (I a)) (some (.int .i64 a)):=VR.raw _
  have hsb:=cB (P:=P) (w:=w) (g:=g) (isS:=true) (len:=n) (cap:=c) hl hh rfl rfl (Int.le_refl _) (Int.natCast_nonneg _) (by omega)
  simp only [Int.toNat_natCast,Int.toNat_zero] at hsb
  refine ⟨.slice (some ⟨b,o,none⟩) a c,w,g,_,σ, ?_,hR,GE.refl _ _,.raw _,hK⟩
  have hne:¬c=0:=by omega
  simp [MA.sem,nth,Instr.sliceAt,bu (aM he),Instr.slice,hsb,dy hs,Addr.add_lit,hne]
theorem rB {t e:TypeId}{sz b o n c a:Nat} (he:g9 P t=some e) (hs:c9 P e=some sz) (ha:a≤n) (hc:n≤c) (hK:K (bM b (if c=a then o else o+a * sz) (n - a) (c - a)) σ):AAct κ P (.slice t true false false) [bM b o n c,I a,.any,.any] σ K:=by
 intro φ g w vs hR hv
 have h1:=hv.size
 match vs,h1 with
 | [v,u,x,y],_ =>
  have hv0:=hv.get 0 _ rfl
  have hv1:=hv.get 1 _ rfl
  simp at hv0 hv1
  cases hv0.raw_eq
  cases hv1.raw_eq
  have hl:OptR g w (some (I a)) (some (.int .i64 a)):=VR.raw _
  have hh:OptR g w none none:=trivial
  have hsb:=cB (P:=P) (w:=w) (g:=g) (isS:=true) (len:=n) (cap:=c) hl hh rfl rfl (Int.natCast_nonneg _) (by omega) (by omega)
  simp only [Int.toNat_natCast] at hsb
  refine ⟨.slice (some ⟨b,if c=a then o else o+a * sz,none⟩) (n - a) (c - a),w,g,_,σ, ?_,hR,GE.refl _ _,.raw _,hK⟩
  by_cases hne:c=a
  ·subst hne
   simp [MA.sem,nth,Instr.sliceAt,bu (aM he),Instr.slice,hsb,dy hs,Addr.add_lit]
  ·have h9:¬c - a=0:=by omega
   simp [MA.sem,nth,Instr.sliceAt,bu (aM he),Instr.slice,hsb,dy hs,Addr.add_lit,hne,h9]
end
end Go.Abs
/-
 The abstract layer,part F: a panic in a round of a range over a function.
-/

namespace Go.Abs
open Go.RowKit
section
variable {κ:Ctx} {P:Program} {rd:Option Nat} {Q:Exit→St→Prop} {s:St} {σ:List Res}
def known (P:Program) (f:FuncId):Prop:=∃ fo,P.funcs[f]? = some fo
def Gc (rd:Option Nat) (P:Program) (c:Code) (Q:Exit→Act→World→Prop) (a:Act) (w:World):Prop :=
 ∀ (b:Frame) (k:List Item) (cs:List Frame),b.roundOf=rd→known P b.fn →
  ∃ e a' w',Q e a' w'∧ArrivesIn (Machine.fenced P (FD rd)) P (lone (b.atR a (.code c::k)) cs w) b k cs e a' w'
theorem yR (rd:Option Nat):(FD rd).round=rd:=by cases rd<;>rfl
theorem nx (rd:Option Nat) (n:Nat):(FD rd).room n:=fun d hd=>by rw [wX] at hd;cases hd
theorem eB (rd:Option Nat) (m:Machine):m.fenced P (FD rd):=by
 cases rd with
 | none=>exact fenced_wide P m
 | some l=>exact fenced_wide P m
theorem M0 {c:Code}{Q:Exit→Act→World→Prop}{a:Act}{w:World} (h:c.wpIn (FD rd) 0 P Q a w):Gc rd P c Q a w :=
 fun b k cs hro _=>h b k cs (hro.trans (yR rd).symm) (p7 rd _) (nx rd _)
theorem nV {c:Code}{Q Q':Exit→Act→World→Prop}{a:Act}{w:World} (h:Gc rd P c Q a w) (hq:∀ e a w,Q e a w→Q' e a w):Gc rd P c Q' a w :=
 fun b k cs hro hb=>let ⟨e,a',w',q,r⟩:=h b k cs hro hb;⟨e,a',w',hq _ _ _ q,r⟩
theorem KM {x y:Code}{Q:Exit→Act→World→Prop}{a:Act}{w:World} (h:Gc rd P x (Exit.then (Gc rd P y Q) Q) a w):Gc rd P (.seq x y) Q a w:=by
 intro b k cs hro hb
 have h0:(lone (b.atR a (.code (.seq x y)::k)) cs w).fenced P (FD rd):=eB rd _
 obtain ⟨e,a₁,w₁,hq,harr⟩:=h b (.code y::k) cs hro hb
 cases e with
 | normal =>
  obtain ⟨e₂,a₂,w₂,hq₂,harr₂⟩:=hq b k cs hro hb
  exact ⟨e₂,a₂,w₂,hq₂,.of_steps (.head h0 stepR_seq harr) harr₂⟩
 | exit id=>exact ⟨_,a₁,w₁,hq,.of_steps (.one h0 stepR_seq) (.pass (x:=.code y) rfl (fun _ _=>.inl (by simp)) harr)⟩
 | goto l=>exact ⟨_,a₁,w₁,hq,.of_steps (.one h0 stepR_seq) (.pass (x:=.code y) rfl (fun _ _=>.inl (by simp)) harr)⟩
 | ret=>exact ⟨_,a₁,w₁,hq,.of_steps (.one h0 stepR_seq) (.pass (x:=.code y) rfl (fun _ _=>.inl (by simp)) harr)⟩
 | panic ch=>exact ⟨_,a₁,w₁,hq,.of_steps (.one h0 stepR_seq) (.pass (x:=.code y) rfl (fun _ _=>.inl (by simp)) harr)⟩
 | outgrown=>exact ⟨_,a₁,w₁,hq,.of_steps (.one h0 stepR_seq) (.pass (x:=.code y) rfl (fun _ _=>.inl (by simp)) harr)⟩
theorem DV {id:Nat}{c:Code}{Q:Exit→Act→World→Prop}{a:Act}{w:World} (h:Gc rd P c (Exit.inBlock id Q) a w):Gc rd P (.block id c) Q a w:=by
 intro b k cs hro hb
 have h0:(lone (b.atR a (.code (.block id c)::k)) cs w).fenced P (FD rd):=eB rd _
 obtain ⟨e,a₁,w₁,hq,harr⟩:=h b (.inBlock id::k) cs hro hb
 cases e with
 | normal=>exact ⟨.normal,a₁,w₁,hq,.head h0 stepR_block (StepsIn.trans harr (.one (eB rd _) stepR_inBlock))⟩
 | exit id' =>
  by_cases hid:id'=id
  ·simp only [Exit.inBlock,hid,if_true] at hq
   exact ⟨.normal,a₁,w₁,hq,.head h0 stepR_block (harr.1 k (by simp [exitTo,hid]))⟩
  ·simp only [Exit.inBlock,hid,if_false] at hq
   have this:(id == id')=false:=by simp;exact fun h=>hid h.symm
   have hx:exitTo id' (.inBlock id::k)=exitTo id' k:=by simp [exitTo,this]
   exact ⟨.exit id',a₁,w₁,hq,fun k' hk=>.head h0 stepR_block (harr.1 k' (by rw [hx];exact hk)),
    fun hr' hk=>let ⟨k₁,h1,h2⟩:=harr.2 hr' (by rw [hx];exact hk);⟨k₁,h1,.head h0 stepR_block h2⟩⟩
 | goto l =>
  have hx:gotoIn l (.inBlock id::k)=gotoIn l k:=by simp [gotoIn]
  exact ⟨_,a₁,w₁,hq,fun k' hk=>.head h0 stepR_block (harr.1 k' (by rw [hx];exact hk)),
   fun hr' hk=>let ⟨k₁,h1,h2⟩:=harr.2 hr' (by rw [hx];exact hk);⟨k₁,h1,.head h0 stepR_block h2⟩⟩
 | ret=>exact ⟨_,a₁,w₁,hq,.of_steps (.one h0 stepR_block) harr⟩
 | panic ch=>exact ⟨_,a₁,w₁,hq,.of_steps (.one h0 stepR_block) harr⟩
 | outgrown=>exact ⟨_,a₁,w₁,hq,.of_steps (.one h0 stepR_block) harr⟩
theorem tB {g:Operand}{ps:Array Tmp}{assign body:Code}{Q:Exit→Act→World→Prop}{a:Act}{w:World}
  (h:∀ fn,known P fn→∃ (l:Nat) (mark:List Deferred) (w₁:World) (d:Deferred) (w₁':World) (f:FuncId) (args:Array Value) (w₂:World),
   (Instr.enterLoop fn a.tmps ps assign body rd).run P w=.ok (l,mark) w₁ ∧
   (resolve a.eval (rangeCall g l) 0).run P w₁=.ok d w₁' ∧
   (invoke d.target d.args).run P w₁'=.ok (.enter f args) w₂ ∧
   CallsIn (FD rd) 0 P f args w₂ (rangePost (FD rd) 0 P l Q { a with defers:=mark++a.defers })) :
  Gc rd P (.rangeFunc g ps assign body) Q a w:=by
 intro b k cs hro hb
 obtain ⟨l,mark,w₁,d,w₁',f,args,w₂,he,hres,hinv,hF,hcall⟩:=h b.fn hb
 rw [← hro] at he
 have henter:=stepR_rangeFunc (P:=P) (b:=b) (a:=a) (k:=k) (cs:=cs) (w:=w) he hres hinv
 obtain ⟨e,w₃,fr,hR,hsteps,hfn,hleave⟩:=hcall (b.atR { a with defers:=mark++a.defers } (.inRangeFunc l::k)::cs) (nx rd _)
 cases e with
 | outgrown =>
  obtain ⟨a₀,w₀,hq⟩:=hR
  exact ⟨.outgrown,a₀,w₀,hq,.inr (Outgrown.of_steps (.one henter) hsteps)⟩
 | returned v =>
  obtain ⟨jump,w₄,hend,hj⟩:=hR
  have sback:StepsIn (Machine.fenced P (FD rd)) P (lone (b.atR a (.code (.rangeFunc g ps assign body)::k)) cs w) (lone (b.atR { a with defers:=mark++a.defers } ((jump.map Item.code).toList++k)) cs w₄):=by
   refine .head (eB rd _) henter (StepsIn.trans hsteps (.head (eB rd _) ?_ (.one (eB rd _) (stepR_endRangeFunc hend))))
   rw [← finish_atR_inRangeFunc l v];exact step_leave_returned hleave
  cases jump with
  | none=>exact ⟨.normal,_,w₄,hj,sback⟩
  | some c =>
   obtain ⟨e',a'',w₅,hq,harr⟩:=hj b k cs (hro.trans (yR rd).symm) (p7 rd _) (nx rd _)
   exact ⟨e',a'',w₅,hq,.of_steps sback harr⟩
 | panicked chain =>
  refine ⟨.panic chain,_,w₃,hR,.inRangeFunc l::k,.head (eB rd _) henter (StepsIn.trans hsteps (.one (eB rd _) ?_))⟩
  rw [← Frame.raise_atR];exact step_leave_panicked hleave
def DL (P:Program) (l:Nat) (R:Ending→World→Prop):Exit→Act→World→Prop
 | .normal,_,w=>∃ v w',(Instr.endRound l none).run P w=.ok v w'∧R (.returned v) w'
 | .ret,_,w=>∃ v w',(Instr.endRound l (some .ret)).run P w=.ok v w'∧R (.returned v) w'
 | .exit id,_,w=>∃ v w',(Instr.endRound l (some (.exit id))).run P w=.ok v w'∧R (.returned v) w'
 | .panic ch,a,w=>a.defers=[]∧R (.panicked ch) w
 | .goto _,_,_=>False
 | .outgrown,_,_=>False
theorem wR {l:Nat}{f:FuncId} (hfo:known P f) {tmps:Array Value}{assign body:Code}{w:World}{R:Ending→World→Prop}
  (h:assign.wpIn (FD (some l)) 0 P (Exit.then (fun a₁ w₁=>∃ w₂,(Instr.beginRound l).run P w₁=.ok () w₂∧body.wpIn (FD (some l)) 0 P (DL P l R) a₁ w₂) (fun _ _ _=>False)) { tmps:=tmps,defers:=[] } w) :
  RoundIn Fence.wide 0 P l f tmps assign body w R:=by
 refine ⟨trivial,fun c cs hr=>?_⟩
 let b:Frame:={ (default:Frame) with fn:=f,kind:=.normal,roundOf:=some l }
 have hb0:Frame.round l f tmps assign body .normal=b.atR { tmps:=tmps,defers:=[] } [.code assign,.beginRound,.code body]:=by
  simp [Frame.round,Frame.atR,b]
 have fn:=fun m=>eB (P:=P) (some l) m
 obtain ⟨e,a₁,w₁,hq,harr⟩:=h b [.beginRound,.code body] (c::cs) rfl (p7 _ _) (nx _ _)
 rw [← hb0] at harr
 cases e with
 | normal =>
  obtain ⟨w₂,hbr,hbody⟩:=hq
  have s1:StepsIn (Machine.fenced P (FD (some l))) P (lone (b.atR a₁ [.beginRound,.code body]) (c::cs) w₁) (lone (b.atR a₁ [.code body]) (c::cs) w₂) :=
   .one (fn _) (stepR_beginRound rfl hbr)
  obtain ⟨e₂,a₂,w₃,hq₂,harr₂⟩:=hbody b [] (c::cs) rfl (p7 _ _) (nx _ _)
  cases e₂ with
  | normal =>
   obtain ⟨v,w₄,hend,hR⟩:=hq₂
   exact ⟨.returned v,w₄,hR,(StepsIn.trans harr s1).trans (StepsIn.trans harr₂ (.one (fn _) (stepR_round_end rfl rfl hend)))⟩
  | ret =>
   obtain ⟨v,w₄,hend,hR⟩:=hq₂
   obtain ⟨k₁,hs⟩:=harr₂.2 rfl
   exact ⟨.returned v,w₄,hR,(StepsIn.trans harr s1).trans (StepsIn.trans hs (.one (fn _) (stepR_round_ret rfl rfl hend)))⟩
  | exit id =>
   obtain ⟨v,w₄,hend,hR⟩:=hq₂
   obtain ⟨k₁,hk,hs⟩:=harr₂.2 rfl rfl
   exact ⟨.returned v,w₄,hR,(StepsIn.trans harr s1).trans (StepsIn.trans hs (.one (fn _) (stepR_round_exit rfl rfl hk hend)))⟩
  | panic chain =>
   obtain ⟨hd,hR⟩:=hq₂
   obtain ⟨todo,hs⟩:=harr₂
   have hleave:({ b.atR a₂ todo with mode:=.panicking chain }:Frame).leaving P w₃ (.panicked chain):=⟨rfl,hd,hfo⟩
   exact ⟨.panicked chain,w₃,hR,(StepsIn.trans harr s1).trans (StepsIn.trans hs (.one (fn _) (step_leave_panicked hleave)))⟩
  | goto t=>exact hq₂.elim
  | outgrown=>exact hq₂.elim
 | exit id=>exact hq.elim
 | goto t=>exact hq.elim
 | ret=>exact hq.elim
 | panic chain=>exact hq.elim
 | outgrown=>exact hq.elim
theorem rp {f:FuncId}{fn:Func}{c:Code}{args:Array Value}{w:World}{R:Ending→World→Prop}
  (hf:P.funcs[f]? = some fn) (hb:fn.body=some c) (h:Gc none P c (bodyPostM Fence.wide 0 P fn R) { tmps:=args++Array.replicate (fn.ntmps - args.size) undef,defers:=[] } w):CallsIn Fence.wide 0 P f args w R:=by
 refine ⟨trivial,fun cs hr=>?_⟩
 let b:Frame:={ (default:Frame) with fn:=f,kind:=.normal,roundOf:=none }
 have henter:Frame.enter P f args .normal=b.atR { tmps:=args++Array.replicate (fn.ntmps - args.size) undef,defers:=[] } [.code c]:=by
  simp [Frame.enter,Frame.atR,hf,hb,b]
 obtain ⟨e,a',w',hq,harr⟩:=h b [] cs rfl ⟨fn,hf⟩
 rw [← henter] at harr
 have hF:Fence.wide.fn f:=trivial
 cases e with
 | normal =>
  obtain ⟨e',w'',fr',hR,hs,hfn,hl⟩:=leaves_stepsInM a'.defers .returning w' { b.atR a' [] with mode:=.returning } cs rfl rfl rfl hf rfl hF hr hq
  exact ⟨e',w'',fr',hR,ComesIn.of_steps (StepsIn.trans harr (.one (eB none _) (stepR_end rfl))) hs,hfn,hl⟩
 | ret =>
  obtain ⟨todo,hs₀⟩:=harr.1 rfl
  obtain ⟨e',w'',fr',hR,hs,hfn,hl⟩:=leaves_stepsInM a'.defers .returning w' { b.atR a' todo with mode:=.returning } cs rfl rfl rfl hf rfl hF hr hq
  exact ⟨e',w'',fr',hR,ComesIn.of_steps hs₀ hs,hfn,hl⟩
 | panic chain =>
  obtain ⟨todo,hs₀⟩:=harr
  obtain ⟨e',w'',fr',hR,hs,hfn,hl⟩:=leaves_stepsInM a'.defers (.panicking chain) w' { b.atR a' todo with mode:=.panicking chain } cs rfl rfl rfl hf rfl hF hr hq
  exact ⟨e',w'',fr',hR,ComesIn.of_steps hs₀ hs,hfn,hl⟩
 | exit id=>exact hq.elim
 | goto l=>exact hq.elim
 | outgrown=>exact ⟨.outgrown,w',b,hq,harr.resolve_left (by simp [b]),rfl,trivial⟩
/-! ### The same, of states -/
def Es (κ:Ctx) (rd:Option Nat) (P:Program) (c:Code) (Q:Exit→St→Prop) (s:St):Prop :=
 ∀ φ g a w,SR κ φ g s a w→Gc rd P c (Post κ φ g w Q) a w
theorem z6 {c:Code} (h:AW κ rd P c Q s):Es κ rd P c Q s:=fun φ g a w hs=>M0 (h φ g a w hs)
theorem wb {x y:Code} (h:Es κ rd P x (eN (Es κ rd P y Q) Q) s):Es κ rd P (.seq x y) Q s:=fun φ g a w hs=>by
 refine KM (nV (h φ g a w hs) ?_)
 rintro e a' w' ⟨g',s',hs',hge,hq⟩
 cases e with
 | normal=>exact nV (hq φ g' a' w' hs') (fun e a2 w2 hp=>hp.mono hge)
 | exit id=>exact ⟨g',s',hs',hge,hq⟩
 | goto id=>exact ⟨g',s',hs',hge,hq⟩
 | ret=>exact ⟨g',s',hs',hge,hq⟩
 | panic ch=>exact ⟨g',s',hs',hge,hq⟩
 | outgrown=>exact ⟨g',s',hs',hge,hq⟩
theorem lg {x y:Code} (h:run κ P rd x (eN (Es κ rd P y Q) Q) s):Es κ rd P (.seq x y) Q s:=wb (z6 (cA x _ s h))
theorem tY {id:Nat}{c:Code} (h:Es κ rd P c (fI id Q) s):Es κ rd P (.block id c) Q s:=fun φ g a w hs=>by
 refine DV (nV (h φ g a w hs) ?_)
 rintro e a' w' ⟨g',s',hs',hge,hq⟩
 cases e with
 | exit id' =>
  simp only [fI] at hq
  simp only [Exit.inBlock]
  split at hq
  ·rename_i e;rw [if_pos e];exact ⟨g',s',hs',hge,hq⟩
  ·rename_i e;rw [if_neg e];exact ⟨g',s',hs',hge,hq⟩
 | normal=>exact ⟨g',s',hs',hge,hq⟩
 | goto id=>exact ⟨g',s',hs',hge,hq⟩
 | ret=>exact ⟨g',s',hs',hge,hq⟩
 | panic ch=>exact ⟨g',s',hs',hge,hq⟩
 | outgrown=>exact ⟨g',s',hs',hge,hq⟩
theorem uP {f:Operand}{ps:Array Tmp}{assign body:Code}{gf:FuncId}{first cap:Array Value} (hf:s.ev f=.raw (.func (.func gf) first cap)) (hok:au P gf)
  (h:∀ l (d:Nat × Nat),known P d.2→ACallF κ P gf (first.toList.map .raw++[.raw (.func (.yield l) #[] #[])]++cap.toList.map .raw) (.loop l .ready none s.t ps assign body d::s.σ) (vu κ P none Q s l ps assign body d)) :
  Es κ none P (.rangeFunc f ps assign body) Q s:=by
 intro φ g a w hs
 refine tB (fun fn hkn=>?_)
 obtain ⟨ds,hd,hfr,hR,ht⟩:=hs
 have hfv:=dj ht f
 rw [hf] at hfv
 have hfv':=hfv.raw_eq
 obtain ⟨fnn,hfn,hn1,hn2⟩:=hok
 obtain ⟨b1,b2⟩:=hR.new_blk (.deferred (some [])) trivial
 obtain ⟨c1,c2⟩:=b1.new_loop { state:=.ready,pending:=none,fn:=fn,tmps:=a.tmps,params:=ps,assign:=assign,body:=body,defers:=w.heap.size } (ht.mono b2)
 generalize hw2:(w.alloc (.deferred (some []))).alloc (.loop { state:=.ready,pending:=none,fn:=fn,tmps:=a.tmps,params:=ps,assign:=assign,body:=body,defers:=w.heap.size })=w2 at *
 have hl:(w.alloc (.deferred (some []))).heap.size=w.heap.size+1:=by simp
 rw [hl] at c1
 simp only at c1
 have hp:(Res.loop (w.heap.size+1) .ready none s.t ps assign body (w.heap.size,fn)::(Res.blk w.heap.size (.deferred (some []))::(φ++(ds.map fK++s.σ)))).Perm ((φ++(w.heap.size::ds).map fK)++(Res.loop (w.heap.size+1) .ready none s.t ps assign body (w.heap.size,fn)::s.σ)):=by
  simp only [List.map_cons]
  have p1:(Res.blk w.heap.size (.deferred (some []))::(φ++(ds.map fK++s.σ))).Perm (φ++(fK w.heap.size::ds.map fK)++s.σ):=by
   rw [← List.append_assoc]
   refine List.Perm.trans ?_ ((List.perm_middle (a:=fK w.heap.size) (l₁:=φ) (l₂:=ds.map fK)).symm.append_right s.σ)
   exact List.Perm.refl _
  exact (p1.cons _).trans List.perm_middle.symm
 have hR2:=c1.perm hp
 have hge:=b2.trans c2
 refine ⟨w.heap.size+1,[jz w.heap.size],w2,{ target:=.fn (.func gf) cap,args:=first ++ #[.func (.yield (w.heap.size+1)) #[] #[]] },w2,gf,first ++ #[.func (.yield (w.heap.size+1)) #[] #[]]++cap,w2, ?_, ?_, ?_, ?_⟩
 ·rw [← hw2];exact run_enterLoop_outer fn a.tmps ps assign body
 ·show Sem.run P (Deferred.ofValue (a.eval f) _) w2=_
  rw [hfv']
  simp [Deferred.ofValue,Act.eval]
 ·simp only [invoke];exact iu hfn hn1 hn2 _ _
 ·refine nd (CallsIn.mono (h (w.heap.size+1) (w.heap.size,fn) hkn _ g w2 _ hR2 t8) ?_) none _
  rintro e w3 ⟨g',σ',r,hR3,hge3,her,j,st,pend,hj,hk⟩
  obtain ⟨rec,k1,k2,k3,k4,k5,k6,k7,k8,k9⟩:=fO hR3 hj
  have ht3:TR g' w3 s.t a.tmps:=(ht.mono hge).mono hge3
  cases r with
  | ret x =>
   cases e with
   | returned v =>
    obtain ⟨hst,hk⟩:=hk
    obtain ⟨k10,k11⟩:=k9 .exhausted pend
    refine ⟨pend,{ w3 with heap:=w3.heap.setIfInBounds (w.heap.size+1) (.loop { rec with state:=.exhausted,pending:=pend }) }, ?_, ?_⟩
    ·subst k3
     exact run_endLoop k1 (by rw [k2];exact hst)
    ·have hs':SR κ φ g' ⟨s.t,σ'.eraseIdx j,false,s.df⟩ { a with defers:=[jz w.heap.size]++a.defers } { w3 with heap:=w3.heap.setIfInBounds (w.heap.size+1) (.loop { rec with state:=.exhausted,pending:=pend }) }:=by
      refine ⟨w.heap.size::ds,by simp [hd],fun e=>(by cases e), ?_,ht3.mono k11⟩
      have:=k10.sub ((List.Sublist.refl (φ++(w.heap.size::ds).map fK)).append (lF _ j))
      rw [← List.append_assoc]
      have e2:(σ'.set j (.loop (w.heap.size+1) .exhausted pend s.t ps assign body (w.heap.size,fn))).eraseIdx j=σ'.eraseIdx j:=by
       rw [List.eraseIdx_set_eq]
      rw [e2] at this
      exact this
     cases pend with
     | none=>exact ⟨g',_,hs',(hge.trans hge3).trans k11,hk⟩
     | some c=>exact wpIn_mono (cA c Q _ hk φ g' _ _ hs') (fun e a4 w4 hp=>hp.mono ((hge.trans hge3).trans k11))
   | panicked c=>exact her.elim
   | outgrown=>exact her.elim
  | pan c =>
   cases e with
   | returned v=>exact her.elim
   | panicked c' =>
    cases (show c'=c from her)
    refine ⟨g',⟨s.t,σ'.eraseIdx j,false,s.df⟩,⟨w.heap.size::ds,by simp [hd],fun e=>(by cases e), ?_,ht3⟩,hge.trans hge3,hk⟩
    rw [← List.append_assoc]
    exact hR3.sub ((List.Sublist.refl (φ++(w.heap.size::ds).map fK)).append (lF _ j))
   | outgrown=>exact her.elim
/-! ### A call of yield, whose round may panic -/
def NM (l:Nat) (t:List AV) (ps:Array Tmp) (assign body:Code) (d:Nat × Nat) (K:Ret→List Res→Prop):Exit→St→Prop
 | .normal,s=>∃ j,s.σ[j]? = some (.loop l .busy none t ps assign body d)∧K (.ret (B true)) (s.σ.set j (.loop l .ready none t ps assign body d))
 | .ret,s=>∃ j,s.σ[j]? = some (.loop l .busy none t ps assign body d)∧K (.ret (B false)) (s.σ.set j (.loop l .done (some .ret) t ps assign body d))
 | .exit id,s=>∃ j,s.σ[j]? = some (.loop l .busy none t ps assign body d)∧K (.ret (B false)) (s.σ.set j (.loop l .done (some (.exit id)) t ps assign body d))
 | .panic c,s=>s.fr=true∧s.df=[]∧K (.pan c) s.σ
 | _,_=>False
theorem AF {l:Nat}{args:List AV}{K:Ret→List Res→Prop}{t:List AV}{ps:Array Tmp}{assign body:Code}{d:Nat × Nat} (Q1:Exit→St→Prop) (hQ:∀ e s,Q1 e s→NM l t ps assign body d K e s) (hkn:known P d.2) (i:Nat) (h:σ[i]? = some (.loop l .ready none t ps assign body d)) (hps:ps.size=args.length)
  (hrun:run κ P (some l) assign (eN (fun s1=>∃ j,s1.σ[j]? = some (.loop l .ready none t ps assign body d)∧run κ P (some l) body Q1 ⟨s1.t,s1.σ.set j (.loop l .busy none t ps assign body d),s1.fr,s1.df⟩) (fun _ _=>False)) ⟨ik t ps.toList args,σ,true,[]⟩):ACallY κ P l args σ K:=by
 intro φ g w vs hR hv
 obtain ⟨r,k1,k2,k3,k4,k5,k6,k7,k8,_⟩:=fO hR h
 refine ⟨r.fn,(r.params.zip vs).foldl (fun tmps (x:Tmp × Value)=>tmps.setIfInBounds x.1 x.2) r.tmps,assign,body, ?_, ?_⟩
 ·have:=run_yield (P:=P) (args:=vs) k1 (by rw [hv.size,k4,hps])
  rw [k5,k6] at this;exact this
 ·refine wR (by rw [← k7] at hkn;exact hkn) ?_
  have hs:SR κ φ g ⟨ik t ps.toList args,σ,true,[]⟩ { tmps:=(r.params.zip vs).foldl (fun tmps (x:Tmp × Value)=>tmps.setIfInBounds x.1 x.2) r.tmps,defers:=[] } w:=by
   refine ⟨[],rfl,fun _=>rfl,by simpa using hR, ?_⟩
   have:=ra ps.toList args vs.toList t r.tmps k8 (by simpa using hv)
   rw [k4]
   have e:((ps.zip vs).foldl (fun tmps (x:Tmp × Value)=>tmps.setIfInBounds x.1 x.2) r.tmps)=((ps.toList.zip vs.toList).foldl (fun tmps (x:Tmp × Value)=>tmps.setIfInBounds x.1 x.2) r.tmps):=by
    rw [← Array.toList_zip,Array.foldl_toList]
   rw [e];exact this
  refine wpIn_mono (cA assign _ _ hrun φ g _ w hs) ?_
  rintro e a1 w1 ⟨g1,s1,hs1,hge1,hq⟩
  cases e with
  | normal =>
   obtain ⟨j,hj,hbody⟩:=hq
   obtain ⟨ds1,hd1,hfr1,hR1,ht1⟩:=hs1
   rw [← List.append_assoc] at hR1
   obtain ⟨r1,m1,m2,m3,m4,m5,m6,m7,m8,m9⟩:=fO hR1 hj
   obtain ⟨m10,m11⟩:=m9 .busy none
   refine ⟨{ w1 with heap:=w1.heap.setIfInBounds l (.loop { r1 with state:=.busy,pending:=none }) }, ?_, ?_⟩
   ·have hpend:({ r1 with state:=LoopState.busy,pending:=none }:Loop)={ r1 with state:=LoopState.busy }:=by rw [← m3]
    rw [hpend]
    exact run_beginRound m1 m2
   ·have hs2:SR κ φ g1 ⟨s1.t,s1.σ.set j (.loop l .busy none t ps assign body d),s1.fr,s1.df⟩ a1 { w1 with heap:=w1.heap.setIfInBounds l (.loop { r1 with state:=.busy,pending:=none }) } :=
     ⟨ds1,hd1,hfr1,by rw [← List.append_assoc];exact m10,ht1.mono m11⟩
    refine wpIn_mono (cA body _ _ hbody φ g1 a1 _ hs2) ?_
    have fin:∀ (jump:Option Code) (b:Bool) (a2:Act) (w2:World) (g2:Nat→Nat) (s2:St) (st':LoopState),SR κ φ g2 s2 a2 w2→GE g w g2 w2→st'=(if jump.isNone then .ready else .done)→b=jump.isNone→(∃ j,s2.σ[j]? = some (.loop l .busy none t ps assign body d)∧K (.ret (B b)) (s2.σ.set j (.loop l st' jump t ps assign body d))) →
      ∃ v w',(Instr.endRound l jump).run P w2=.ok v w'∧eE κ φ g w K (.returned v) w':=by
     intro jump b a2 w2 g2 s2 st' hs2 hge2 hst hb hex
     obtain ⟨j2,hj2,hk⟩:=hex
     obtain ⟨ds2,hd2,hfr2,hR2,ht2⟩:=hs2
     rw [← List.append_assoc] at hR2
     obtain ⟨r2,n1,n2,n3,n4,n5,n6,n7,n8,n9⟩:=fO hR2 hj2
     obtain ⟨n10,n11⟩:=n9 st' jump
     refine ⟨.bool jump.isNone,{ w2 with heap:=w2.heap.setIfInBounds l (.loop { r2 with state:=st',pending:=jump }) }, ?_,g2,_,.ret (B b), ?_,hge2.trans n11,by rw [hb];exact .raw _,hk⟩
     ·rw [hst];exact run_endRound jump n1
     ·rw [List.append_assoc] at n10
      exact n10.sub ((List.Sublist.refl φ).append (List.sublist_append_right _ _))
    rintro e a2 w2 ⟨g2,s2,hs3,hge3,hq2⟩
    replace hq2:=hQ _ _ hq2
    have hge4:GE g w g2 w2:=hge1.trans (m11.trans hge3)
    cases e with
    | normal=>exact fin none true a2 w2 g2 s2 .ready hs3 hge4 rfl rfl hq2
    | ret=>exact fin (some .ret) false a2 w2 g2 s2 .done hs3 hge4 rfl rfl hq2
    | exit id=>exact fin (some (.exit id)) false a2 w2 g2 s2 .done hs3 hge4 rfl rfl hq2
    | goto id=>exact hq2.elim
    | panic c =>
     obtain ⟨q1,q2,q3⟩:=hq2
     obtain ⟨ds2,hd2,hfr2,hR2,ht2⟩:=hs3
     cases hfr2 q1
     refine ⟨by rw [hd2,q2];rfl,g2,_,.pan c, ?_,hge4,rfl,q3⟩
     simpa using hR2
    | outgrown=>exact hq2.elim
  | exit id=>exact hq.elim
  | goto id=>exact hq.elim
  | ret=>exact hq.elim
  | panic c=>exact hq.elim
  | outgrown=>exact hq.elim
def Fi (Q:Exit→St→Prop) (t:List AV) (fr:Bool) (df:List Deferred) (Rb:Res) (Inv:List Res→Prop):Exit→St→Prop
 | .normal,s=>∃ τ,me Rb s.σ τ∧Inv τ
 | .ret,s=>∃ τ,me Rb s.σ τ∧Q .ret ⟨t,τ,fr,df⟩
 | .exit id,s=>∃ τ,me Rb s.σ τ∧Q (.exit id) ⟨t,τ,fr,df⟩
 | .panic c,s=>s.fr=true∧s.df=[]∧∃ τ,me Rb s.σ τ∧Q (.panic c) ⟨t,τ,fr,df⟩
 | _,_=>False
def SH (κ:Ctx) (P:Program) (Q:Exit→St→Prop) (t:List AV) (fr:Bool) (df:List Deferred) (l:Nat) (body:Code) (Rr Rb:Res) (Inv:List Res→Prop) (s1:St):Prop :=
 ∃ j,s1.σ[j]? = some Rr∧run κ P (some l) body (Fi Q t fr df Rb Inv) ⟨s1.t,s1.σ.set j Rb,s1.fr,s1.df⟩
theorem qf {Q:Exit→St→Prop}{t:List AV}{fr:Bool}{df:List Deferred}{Rb:Res}{Inv:List Res→Prop}{s:St}:Fi Q t fr df Rb Inv .normal s = ∃ τ,me Rb s.σ τ∧Inv τ:=rfl
theorem yz {Q:Exit→St→Prop}{t:List AV}{fr:Bool}{df:List Deferred}{Rb:Res}{Inv:List Res→Prop}{s:St}:Fi Q t fr df Rb Inv .ret s = ∃ τ,me Rb s.σ τ∧Q .ret ⟨t,τ,fr,df⟩:=rfl
theorem zF {Q:Exit→St→Prop}{t:List AV}{fr:Bool}{df:List Deferred}{Rb:Res}{Inv:List Res→Prop}{s:St}{c:List PanicEntry}:Fi Q t fr df Rb Inv (.panic c) s=(s.fr=true∧s.df=[]∧∃ τ,me Rb s.σ τ∧Q (.panic c) ⟨t,τ,fr,df⟩):=rfl
def Ix (κ:Ctx) (P:Program) (Q:Exit→St→Prop) (t:List AV) (fr:Bool) (df:List Deferred) (ps:Array Tmp) (assign body:Code) (Inv:List (List AV)→List Res→Prop) (d:Nat × Nat):Prop :=
 ∀ (l:Nat) (Rr Rb:Res),Gw l d Rb→∀ x xs τ,Inv (x::xs) τ→ps.size=x.length∧run κ P (some l) assign (eN (SH κ P Q t fr df l body Rr Rb (Inv xs)) (fun _ _=>False)) ⟨ik t ps.toList x,Rr::τ,true,[]⟩
theorem re {Q:Exit→St→Prop}{s0:St}{l:Nat}{ps:Array Tmp}{assign body:Code}{d:Nat × Nat}{Inv:List (List AV)→List Res→Prop}{x:List AV}{xs:List (List AV)}{τ:List Res} (hkn:known P d.2) (hps:ps.size=x.length)
  (h:run κ P (some l) assign (eN (SH κ P Q s0.t (rd.isSome && s0.fr) s0.df l body (.loop l .ready none s0.t ps assign body d) (.loop l .busy none s0.t ps assign body d) (Inv xs)) (fun _ _=>False)) ⟨ik s0.t ps.toList x,.loop l .ready none s0.t ps assign body d::τ,true,[]⟩) :
  ACallY κ P l x (.loop l .ready none s0.t ps assign body d::τ) (YK (fun σ'=>∃ τ',σ'=.loop l .ready none s0.t ps assign body d::τ'∧Inv xs τ') (vu κ P rd Q s0 l ps assign body d)):=by
 refine ACallY.dropW (AF (Fi Q s0.t (rd.isSome && s0.fr) s0.df (.loop l .busy none s0.t ps assign body d) (Inv xs)) ?_ hkn 0 rfl hps h)
 intro e s hq
 cases e with
 | normal =>
  obtain ⟨τ',⟨τ0,hs,hw⟩,hi⟩:=hq
  obtain ⟨j,h1,h2⟩:=j9 hs
  exact ⟨j,h1,_,(iS (h2 _)).trans (hw.cons _),τ',rfl,hi⟩
 | ret =>
  obtain ⟨τ',⟨τ0,hs,hw⟩,hi⟩:=hq
  obtain ⟨j,h1,h2⟩:=j9 hs
  exact ⟨j,h1,_,(iS (h2 _)).trans (hw.cons _),0,_,_,rfl,by simp,hi⟩
 | exit id =>
  obtain ⟨τ',⟨τ0,hs,hw⟩,hi⟩:=hq
  obtain ⟨j,h1,h2⟩:=j9 hs
  exact ⟨j,h1,_,(iS (h2 _)).trans (hw.cons _),0,_,_,rfl,by simp,hi⟩
 | goto id=>exact hq.elim
 | panic c =>
  obtain ⟨q1,q2,τ',⟨τ0,hs,hw⟩,hi⟩:=hq
  obtain ⟨j,h1,h2⟩:=j9 hs
  have h3:=h2 (.loop l .busy none s0.t ps assign body d)
  refine ⟨q1,q2,.loop l .busy none s0.t ps assign body d::τ', ?_,0,_,_,rfl,hi⟩
  have e:s.σ.set j (.loop l .busy none s0.t ps assign body d)=s.σ:=by
   refine List.ext_getElem? fun k=>?_
   rw [List.getElem?_set]
   split
   ·rename_i e;subst e
    rw [h1]
    split
    ·rfl
    ·rename_i hn;rw [List.getElem?_eq_none (by omega)] at h1;cases h1
   ·rfl
  rw [e] at h3
  exact (iS h3).trans (hw.cons _)
 | outgrown=>exact hq.elim
theorem mo {f:FuncId}{fn:Func}{c:Code}{args:List AV}{σ:List Res}{K:Ret→List Res→Prop} (hf:P.funcs[f]? = some fn) (hb:fn.body=some c)
  (h:Es κ none P c (oR κ P fn K) { t:=args++List.replicate (fn.ntmps - args.length) .any,σ:=σ }):ACallF κ P f args σ K:=by
 intro φ g w vs hR hv
 refine rp hf hb ?_
 have hs:SR κ φ g { t:=args++List.replicate (fn.ntmps - args.length) .any,σ:=σ } { tmps:=vs++Array.replicate (fn.ntmps - vs.size) undef,defers:=[] } w:=by
  refine ⟨[],rfl,fun _=>rfl,hR,hv.append ⟨by simp [hv.size],fun k x hk=>?_⟩⟩
  rw [List.getElem?_replicate] at hk
  split at hk
  ·cases hk;exact .any _
  ·cases hk
 refine nV (h φ g _ w hs) ?_
 have leave:∀ (g':Nat→Nat) (s':St) (a':Act) (w':World),SR κ φ g' s' a' w'→GE g w g' w'→s'.df=[]→pn κ P fn s' K→LeavesInM Fence.wide 0 P fn a'.tmps (eE κ φ g w K) a'.defers .returning w':=by
  intro g' s' a' w' hs' hge hdf hk
  obtain ⟨ds,hd,hfr,hR',ht'⟩:=hs'
  rw [hd,hdf,List.append_nil]
  refine gY (κ:=κ) (φ:=φ) (σ:=s'.σ) .returning (by simp) ds g' w' hR' (fun w2 hR2 hge2=>?_)
  obtain ⟨v,x,h1,h2,h3⟩:=mX hk φ g' w2 a'.tmps hR2 (ht'.mono hge2)
  exact ⟨v,h1,g',s'.σ,.ret x,hR2,hge.trans hge2,h2,h3⟩
 rintro e a' w' ⟨g',s',hs',hge,hq⟩
 cases e with
 | normal=>exact leave g' s' a' w' hs' hge hq.1 hq.2
 | ret=>exact leave g' s' a' w' hs' hge hq.1 hq.2
 | panic ch =>
  obtain ⟨hdf,hk⟩:=hq
  obtain ⟨ds,hd,hfr,hR',ht'⟩:=hs'
  show LeavesInM Fence.wide 0 P fn a'.tmps (eE κ φ g w K) a'.defers (.panicking ch) w'
  rw [hd,hdf,List.append_nil]
  refine gY (κ:=κ) (φ:=φ) (σ:=s'.σ) (.panicking ch) (by simp) ds g' w' hR' (fun w2 hR2 hge2=>?_)
  exact ⟨g',s'.σ,.pan ch,hR2,hge.trans hge2,rfl,hk⟩
 | exit id=>exact hq.elim
 | goto id=>exact hq.elim
 | outgrown=>exact hq.elim
def IterH (κ:Ctx) (P:Program) (L:Nat) (K:Ret→List Res→Prop) (H:List Res→Prop):List (List AV)→List Res→Prop
 | [],σ=>H σ∧K (.ret (.tup [])) σ
 | x::xs,σ=>H σ∧ACallY κ P L x σ (YK (fun σ'=>IterH κ P L K H xs σ') K)
theorem IterH.holds {L:Nat}{K:Ret→List Res→Prop}{H:List Res→Prop}:∀ {xs:List (List AV)}{σ:List Res},IterH κ P L K H xs σ→H σ
 | [],_,h=>h.1
 | _::_,_,h=>h.1
theorem xe {L:Nat}{K:Ret→List Res→Prop} (H:List Res→Prop) (Inv:List (List AV)→List Res→Prop) (hH:∀ xs σ,Inv xs σ→H σ) (hend:∀ σ,Inv [] σ→K (.ret (.tup [])) σ) (round:∀ x xs σ,Inv (x::xs) σ→ACallY κ P L x σ (YK (Inv xs) K)):∀ xs σ,Inv xs σ→IterH κ P L K H xs σ
 | [],σ,h=>⟨hH _ _ h,hend σ h⟩
 | x::xs,σ,h=>⟨hH _ _ h,(round x xs σ h).mono fun r σ' hr=>by
  unfold YK at hr ⊢
  split at hr
  ·exact xe H Inv hH hend round xs _ hr
  ·exact hr
  ·exact hr
  ·exact hr.elim⟩
theorem Du {Q:Exit→St→Prop}{t:List AV}{σ:List Res}{fr:Bool}{df:List Deferred}{f:Operand}{ps:Array Tmp}{assign body:Code} (gf:FuncId) (first cap:List Value) (xs:List (List AV)) (ρ τ:List Res) (Inv:List (List AV)→List Res→Prop) (H:List Res→Prop) (hH:∀ xs τ r,Inv xs τ→H (r::τ))
  (hf:(⟨t,σ,fr,df⟩:St).ev f=.raw (.func (.func gf) first.toArray cap.toArray)) (hok:au P gf=True) (hσ:ResW σ (ρ++τ))
  (hiter:∀ (L:Nat) (K:Ret→List Res→Prop) (σ':List Res),IterH κ P L K H xs σ'→ACallF κ P gf (first.map .raw++[.raw (.func (.yield L) #[] #[])]++cap.map .raw) (ρ++σ') K)
  (h0:Inv xs τ)
  (hend:∀ τ,Inv [] τ→Q .normal ⟨t,τ,false,df⟩)
  (hround:∀ d,Ix κ P Q t false df ps assign body Inv d) :
  Es κ none P (.rangeFunc f ps assign body) Q ⟨t,σ,fr,df⟩:=by
 refine uP hf (hok ▸ trivial) (fun l d hkn=>?_)
 have hp:ResW (Res.loop l .ready none t ps assign body d::σ) (ρ++(Res.loop l .ready none t ps assign body d::τ)):=((hσ.cons _).trans (ResW.perm List.perm_middle.symm))
 refine ACallF.weak hp ?_
 have e1:(first.toArray.toList.map AV.raw++[.raw (.func (.yield l) #[] #[])]++cap.toArray.toList.map AV.raw)=(first.map .raw++[.raw (.func (.yield l) #[] #[])]++cap.map .raw):=by simp
 rw [e1]
 refine hiter l _ _ (xe H (fun xs σ'=>∃ τ',σ'=.loop l .ready none t ps assign body d::τ'∧Inv xs τ') (by rintro xs _ ⟨τ',rfl,hi⟩;exact hH _ _ _ hi) ?_ ?_ xs _ ⟨τ,rfl,h0⟩)
 ·rintro _ ⟨τ',rfl,hi⟩
  exact ⟨0,_,_,rfl,by simp,hend τ' hi⟩
 ·rintro x xs _ ⟨τ',rfl,hi⟩
  obtain ⟨h1,h2⟩:=hround d l _ (.loop l .busy none t ps assign body d) ⟨_,_,_,_,_,_,rfl⟩ x xs τ' hi
  exact re (rd:=none) (s0:=⟨t,σ,fr,df⟩) hkn h1 h2
end
end Go.Abs
/-
 Walks: chapter 13,the places at which lines go on.
-/


namespace Go.Proofs.YthkabaiamcjdbaaGreat
open Go.Abs
variable {κ:Ctx} {σ:List Res} {K:Ret→List Res→Prop} {o o':Option (Option (Nat × Nat))}
def ep (ls:List Ln) (p:Int × Int):(Int × Int) × Bool:=((bO ls p).1,decide (0 < (bO ls p).2.length) && !wC ls (bO ls p).1 (bO ls p).2)
def fD (ls:List Ln):Nat→Int × Int→List ((Int × Int) × Bool)
 | 0,p=>[ep ls p]
 | m+1,p=>ep ls p::(if bC ls (p.1+1) then [] else fD ls m (p.1+1,0))
def ju (ls:List Ln) (p:Int × Int):List ((Int × Int) × Bool):=fD ls ((ls.length:Int) - p.1).toNat p
theorem pL {ls:List Ln}{p:Int × Int}:ju ls p=ep ls p::(if bC ls (p.1+1) then [] else ju ls (p.1+1,0)):=by
 unfold ju
 rcases Nat.eq_zero_or_pos ((ls.length:Int) - p.1).toNat with h|h
 ·rw [h]
  have:bC ls (p.1+1)=true:=by unfold bC;rw [decide_eq_true (by omega)];rfl
  rw [if_pos this];rfl
 ·obtain ⟨m,hm⟩:∃ m,((ls.length:Int) - p.1).toNat=m+1:=⟨((ls.length:Int) - p.1).toNat - 1,by omega⟩
  have hm2:((ls.length:Int) - (p.1+1)).toNat=m:=by omega
  rw [hm]
  dsimp only
  rw [hm2];rfl
theorem im {ls:List Ln}{i:Int} (h:bC ls i=false):i < ls.length:=by
 unfold bC at h
 simp only [Bool.or_eq_false_iff,decide_eq_false_iff_not] at h
 omega
theorem ng {ls:List Ln}{p:Int × Int}:(bO ls p).1.1=p.1:=rfl
theorem rJ {ls:List Ln}{p:Int × Int} (hs:Small ls):(bO ls p).2.length≤2000:=by
 unfold bO
 have:=bZ (p:=(p.1,dT ls p)) hs
 simp only [List.length_drop];omega
theorem Ji {ls:List Ln}{p:Int × Int} (hs:Small ls) (hp:bS p.2):bS (dT ls p)∧p.2≤dT ls p:=by
 unfold dT
 split
 ·have:=hs.at_ (i:=p.1.toNat) (by omega);omega
 ·exact ⟨hp,by omega⟩
theorem Ik {ls:List Ln}{p:Int × Int} (hs:Small ls) (hp:bS p.2):bS (bO ls p).1.2∧p.2≤(bO ls p).1.2:=by
 have h1:=Ji hs hp
 have h2:=G9 (aF ls (p.1,dT ls p))
 have h3:=fun h=>cv (p:=(p.1,dT ls p)) hs h
 unfold bO
 dsimp only at *
 rcases Nat.eq_zero_or_pos (aF ls (p.1,dT ls p)).length with h|h
 ·have:nj (aF ls (p.1,dT ls p))=0:=by omega
  rw [this];omega
 ·have:=h3 h;omega
theorem J0 {bj:Nat}{p:Int × Int} (hK:∀ b1 b2,K (.ret (.raw (.func (.func 149) #[] #[.pointer (some ⟨b1,0,none⟩),.pointer (some ⟨b2,0,none⟩)]))) (.obj b2 [I p.1,I p.2]::.obj b1 [JP bj]::σ)):ACallF κ Tryz.prog 121 [JP bj,cS p] σ K:=by
 refine ACallF.dropL (aa Tryz.func121 rfl ?_)
 simp only [Tryz.ntmps121]
 repeat' (first|simp only [WL,WM,Nat.reduceAdd,Nat.reduceSub,true_and,Tryz.results121]|with_reducible refine aP (hK:=fun b=>?_))
 exact ak ah (aj rfl) (hK _ _)
theorem Dm {b1 b2 L bj:Nat}{ls:List Ln}{n d:Int}{bk:Bool}{x y:AV}{p:Int × Int} (hs:Small ls) (hp:0≤p.1∧p.1≤1000000000∧bS p.2∧0≤p.2)
  (hI:IterH κ Tryz.prog L K (fun σ=>∃ ix,Hold σ bj ix (JC ls n bk d x y)) ((ju ls p).map fun q=>[cS q.1,B q.2]) σ) :
  ACallF κ Tryz.prog 149 [.raw (.func (.yield L) #[] #[]),.raw (.pointer (some ⟨b1,0,none⟩)),.raw (.pointer (some ⟨b2,0,none⟩))] (.obj b2 [I p.1,I p.2]::.obj b1 [JP bj]::σ) K:=by
 refine ACallF.dropL (aa Tryz.func149 rfl ?_)
 simp only [Tryz.ntmps149]
 repeat' (first|simp only [WL,WM,Nat.reduceAdd,Nat.reduceSub])
 refine bH (fun x:(Int × Int) × List Res=>⟨(.raw (.func (.yield L) #[] #[])::.raw (.pointer (some ⟨b1,0,none⟩))::.raw (.pointer (some ⟨b2,0,none⟩))::.any::.any::.any::.any::.any::.any::.any::.any::.any::.any::.any::.any::.any::.any::.any::.any::.any::.any::.any::.any::.any::.any::.any::.any::.any::.any::.any::.any::.any::.any::.any::[]),.obj b2 [I x.1.1,I x.1.2]::.obj b1 [JP bj]::x.2,true,[]⟩) (fun z=>(0≤z.1.1∧z.1.1≤1000000000∧bS z.1.2∧0≤z.1.2)∧IterH κ Tryz.prog L K (fun σ=>∃ ix,Hold σ bj ix (JC ls n bk d x y)) ((ju ls z.1).map fun q=>[cS q.1,B q.2]) z.2) (fun z=>((ls.length:Int) - z.1.1).toNat) (p,σ) (ao bz id) ⟨hp,hI⟩ ?_
 rintro ⟨⟨i,k⟩,σ'⟩ ⟨hb,h2⟩
 dsimp only at hb h2 ⊢
 obtain ⟨ix,hJ⟩:=h2.holds
 have hq:=Ik (p:=(i,k)) hs hb.2.2.1
 have hql:=rJ (p:=(i,k)) hs
 rw [pL] at h2
 have h3:=h2.2
 dsimp only at hq h3
 have hin:bS ((i,k):Int × Int).1∧bS ((i,k):Int × Int).2:=⟨by dsimp only;omega,by dsimp only;omega⟩
 have hin2:bS (bO ls (i,k)).1.1∧bS (bO ls (i,k)).1.2∧0≤(bO ls (i,k)).1.2:=⟨by rw [ng];exact hin.1,hq.1,by omega⟩
 repeat' (first|simp only [WL,aD,WM,reduceCtorEq,ba,Nat.reduceAdd,Nat.reduceLT,Bool.not_true,true_and,reduceIte,Bool.false_eq_true,bX,rN,Nu]|(with_reducible first|refine aC (hb:=?_)|refine ax (hK:=?_)|refine aA (hK:=?_)|refine az (hK:=?_)|refine aS (hK:=fun b=>?_)|refine cD (CF (p:=(i,k)) hs hin ?_)|refine cQ (Gk ?_ ?_ ?_ aW) ?_)|((with_reducible refine aH (id:=1) 12 mixed ?_ ?_);kernel_rfl)|(with_reducible refine bP ?_)|((with_reducible first|refine ai (fun h=>?_) (fun h=>?_)|refine ab (fun h=>?_) (fun h=>?_))<;>(try simp only [h])<;>(try simp only [bg,bm] at h))|omega)
 all_goals
  refine dB (y:=[cS (ep ls (i,k)).1,B (ep ls (i,k)).2]) [.obj b [I (bO ls (i,k)).1.1,I (bO ls (i,k)).1.2],.obj b2 [I i,I k],.obj b1 [JP bj]] (⟨le_rfl,iC (le_eq (by unfold ep;simp [*];intro _;omega))⟩) h3 (fun σ3 h9=>?_) (fun σ3 h9=>?_) (fun c σ3 h9=>?_)
  ·obtain ⟨ix3,hJ3⟩:=h9.holds
   cases ho:bC ls (i+1)
   ·rw [ho] at h9
    simp only [Bool.false_eq_true,if_false] at h9
    have hlt:=im ho
    repeat' (first|simp only [WL,aD,WM,reduceCtorEq,ba,Nat.reduceAdd,Nat.reduceEqDiff,Bool.not_true,true_and,T3,fR dK,mZ,ho]|simp (disch:=first|omega|(simp only [aT];omega)) only [aq]|(with_reducible first|refine aC (hb:=?_)|refine ax (hK:=?_)|refine az (hK:=?_)|refine aG (hK:=?_)|refine cD (oa hs (by omega) ?_)))
    exact ⟨((i+1,0),σ3),aL bz (ResW.sub (List.sublist_cons_self _ _)) id,⟨⟨by dsimp only;omega,by have:=hs.1;dsimp only;omega,by dsimp only;omega,by dsimp only;omega⟩,h9⟩,by dsimp only;omega⟩
   ·rw [ho] at h9
    simp only [if_true,List.map_nil] at h9
    repeat' (first|simp only [WL,aD,WM,reduceCtorEq,ba,Nat.reduceAdd,Nat.reduceEqDiff,Bool.not_true,true_and,T3,fR dK,mZ,Tryz.results149,ho]|simp (disch:=first|omega|(simp only [aT];omega)) only [aq]|(with_reducible first|refine aC (hb:=?_)|refine ax (hK:=?_)|refine az (hK:=?_)|refine aG (hK:=?_)|refine cD (oa hs (by omega) ?_)))
    exact ak (ae (ae (ae ah))) (aj rfl) h9.2
  ·skip
   repeat' (first|simp only [WL,WM,Bool.not_false,true_and,Tryz.results149])
   exact ak (ae (ae (ae ah))) (aj rfl) h9
  ·skip
   repeat' (first|simp only [WL,WM,true_and])
   exact aN (ae (ae (ae ah))) rfl h9
def onL (ls:List Ln) (n l0:Int):List ((Int × Int) × Bool)→Option (Option (Int × Int))
 | []=>some none
 | (q,s)::r=>if s then (if l0 < q.1∧(ls.getD q.1.toNat (0,[])).1≤n then none else some (some q)) else onL ls n l0 r
def onF (ls:List Ln) (n:Int) (p:Int × Int):Option (Option (Int × Int)):=onL ls n p.1 (ju ls p)
theorem pB {ls:List Ln}:∀ {m:Nat}{p:Int × Int}{q:(Int × Int) × Bool},q∈fD ls m p→p.1≤q.1.1∧(p.1 < q.1.1→q.1.1 < ls.length)
 | 0,p,q,h=>by
  obtain rfl:q=ep ls p:=by simpa [fD] using h
  exact ⟨Int.le_refl _,fun h=>absurd h (Int.lt_irrefl _)⟩
 | m+1,p,q,h=>by
  rcases List.mem_cons.1 h with rfl|h
  ·exact ⟨Int.le_refl _,fun h=>absurd h (Int.lt_irrefl _)⟩
  ·split at h
   ·cases h
   ·rename_i ho
    have h1:=im (by simpa using ho)
    have h2:=pB h
    dsimp only at h2
    refine ⟨by omega,fun _=>?_⟩
    rcases Int.lt_or_le (p.1+1) q.1.1 with h3|h3
    ·exact h2.2 h3
    ·omega
theorem TA {bj ix:Nat}{ls:List Ln}{n d:Int}{bk:Bool}{x y:AV} [hJ:Hold σ bj ix (JC ls n bk d x y)] {p:Int × Int} (hs:Small ls) (hp:0≤p.1∧p.1≤1000000000∧bS p.2∧0≤p.2)
  (h1:∀ q,onF ls n p=some (some q)→K (.ret (.tup [cS q,B true])) σ) (h2:onF ls n p=some none→K (.ret (.tup [cS (0,0),B false])) σ) (h3:onF ls n p=none→K (.pan (bI 7)) σ):ACallF κ Tryz.prog 103 [JP bj,cS p] σ K:=by
 refine ACallF.dropL (mo Tryz.func103 rfl ?_)
 simp only [Tryz.ntmps103]
 refine lg ?_
 repeat' (first|simp only [WL,WM,Nat.reduceAdd,Nat.reduceSub]|(with_reducible first|refine aP (hK:=fun b=>?_)|refine aS (hK:=fun b=>?_)))
 refine wb (lg ?_)
 repeat' (first|simp only [WL,WM,true_and,Np]|(with_reducible first|refine ax (hK:=?_)|refine aA (hK:=?_)|refine cD (J0 (fun bq1 bq2=>?_))))
 refine tY ?_
 rename_i b1 b2 b3
 refine Du 149 [] [.pointer (some ⟨bq1,0,none⟩),.pointer (some ⟨bq2,0,none⟩)] ((ju ls p).map fun q=>[cS q.1,B q.2]) [.obj bq2 [I p.1,I p.2],.obj bq1 [JP bj]] (.obj b [B false]::.obj b3 [I 0,I 0]::.obj b2 [I p.1,I p.2]::.obj b1 [JP bj]::σ)
  (fun xs τ=>∃ rest,onF ls n p=onL ls n p.1 rest∧(∀ q∈rest,p.1≤q.1.1∧(p.1 < q.1.1→q.1.1 < ls.length))∧xs=rest.map (fun q=>[cS q.1,B q.2])∧τ=.obj b [B false]::.obj b3 [I 0,I 0]::.obj b2 [I p.1,I p.2]::.obj b1 [JP bj]::σ)
  (fun σ=>∃ ix,Hold σ bj ix (JC ls n bk d x y)) (by rintro _ _ r ⟨_,_,_,_,rfl⟩;exact ⟨_,inferInstance⟩)
  rfl Oz (ResW.refl _) (fun L K σ' h=>Dm hs hp h) ⟨ju ls p,rfl,fun q h=>pB h,rfl,rfl⟩ ?_ ?_
 ·rintro τ ⟨rest,e1,e2,e3,rfl⟩
  obtain rfl:rest=[]:=by cases rest with
   | nil=>rfl
   | cons=>simp at e3
  simp only [fI,eN]
  refine z6 (mV ?_)
  repeat' (first|simp only [WL,WM,Nat.reduceAdd,true_and,Tryz.results103]|(with_reducible first|refine aO (hK:=?_)|refine az (hK:=?_)|refine aG (hK:=?_))|((with_reducible refine aU ?_);apply kS (hf:=Tryz.results103);exact aZ;exact eG))
  exact ak (ae (ae (ae (ae ah)))) (aj rfl) (h2 (by rw [e1];rfl))
 ·rintro dd L Rr Rb hR xx xs τ ⟨rest,e1,e2,e3,rfl⟩
  cases rest with
  | nil=>simp at e3
  | cons q rest =>
  simp only [List.map_cons,List.cons.injEq] at e3
  obtain ⟨rfl,rfl⟩:=e3
  obtain ⟨⟨qi,qk⟩,sm⟩:=q
  have eq:=e2 _ List.mem_cons_self
  dsimp only at eq
  refine ⟨rfl, ?_⟩
  repeat' (first|simp only [WL,WM,Nat.reduceAdd]|(with_reducible first|refine az (hK:=?_)|refine aS (hK:=fun b=>?_)))
  refine ⟨1,rfl, ?_⟩
  simp only [List.set_cons_succ,List.set_cons_zero]
  cases sm
  ·skip
   repeat' (first|simp only [WL,WM,Bool.not_false,qf])
   exact ⟨_,oY (ResW.sub (List.sublist_cons_self _ _)),rest,by rw [e1];rfl,fun q hq=>e2 q (List.mem_cons_of_mem _ hq),rfl,rfl⟩
  ·have ha:=fun h=>hs.at_ (i:=qi.toNat) h
   have hon:onF ls n p=if p.1 < qi∧(ls.getD qi.toNat (0,[])).1≤n then none else some (some (qi,qk)):=by rw [e1];rfl
   repeat' (first|simp only [WL,aD,WM,reduceCtorEq,ba,Nat.reduceAdd,Nat.reduceLeDiff,Nat.reduceEqDiff,Bool.not_true,true_and,reduceIte,Bool.false_eq_true,T3,fT,jb,fC cX,fR dK,fR gg,fR vP,rU,Tryz.results103,yz,zF]|simp (disch:=first|omega|(simp only [aT];omega)) only [dN]|(with_reducible first|refine aC (hb:=?_)|refine ax (hK:=?_)|refine aA (hK:=?_)|refine aO (hK:=?_)|refine az (hK:=?_)|refine cD (yY ?_))|((with_reducible refine aH (id:=5) 21 mixed ?_ ?_);kernel_rfl)|(with_reducible refine bP ?_)|((with_reducible first|refine ai (fun h=>?_) (fun h=>?_)|refine ab (fun h=>?_) (fun h=>?_))<;>(try simp only [h])<;>(try simp only [bg,bm] at h)))
   all_goals first
    | exact ⟨_,oY (ResW.sub (List.sublist_cons_self _ _)),aN (ae (ae (ae (ae ah)))) rfl (h3 (by rw [hon,if_pos ⟨by assumption,by assumption⟩]))⟩
    | skip
   all_goals
    refine ⟨_,oY (ResW.sub (List.sublist_cons_self _ _)), ?_⟩
    repeat' (first|simp only [WM]|((with_reducible refine aU ?_);apply kS (hf:=Tryz.results103);exact aZ;exact eG))
    exact ak (ae (ae (ae (ae ah)))) (aj rfl) (h1 (qi,qk) (by rw [hon,if_neg (by omega)]))
theorem QX {bj ix:Nat}{ls:List Ln}{n d:Int}{bk:Bool}{x y:AV} [hJ:Hold σ bj ix (JC ls n bk d x y)] {p:Int × Int} (hs:Small ls) (hp:0≤p.1∧p.1≤1000000000∧bS p.2∧0≤p.2)
  (h1:∀ q,onF ls n p=some (some q)→K (.ret (cS q)) σ) (h2:onF ls n p=some none→K (.pan (bI 2)) σ) (h3:onF ls n p=none→K (.pan (bI 7)) σ):ACallF κ Tryz.prog 180 [JP bj,cS p] σ K:=by
 refine ACallF.dropL (aa Tryz.func180 rfl ?_)
 simp only [Tryz.ntmps180]
 repeat' (first|simp only [WL,WM,Nat.reduceAdd,Nat.reduceSub,Nat.reduceLT,true_and,vt,dr,Tryz.results180]|(with_reducible first|refine aA (hK:=?_)|refine az (hK:=?_)|refine aP (hK:=fun b=>?_)|refine aS (hK:=fun b=>?_)|refine cD (TA hs hp (fun q hq=>?_) (fun hq=>?_) (fun hq=>?_))|refine cD (kz ?_)|refine cD (i9 ?_))|((with_reducible refine aU ?_);apply db (hf:=Tryz.results180);exact aZ))
 all_goals first
  | exact ak (ae (ae (ae ah))) (aj rfl) (h1 q hq)
  | exact aN (ae (ae (ae ah))) rfl (h2 hq)
  | exact aN (ae (ae ah)) rfl (h3 hq)
end Go.Proofs.YthkabaiamcjdbaaGreat
/-
 Plain specifications: bytes as code points. No program in sight.
-/


namespace Go.Abs
def qt:List Int:=[35,59,47,63,58,64,38,61,43,36,44,95,46,33,126,42,39,40,41,91,93]
def wH (c:Int):Bool:=decide (c∈qt)
def ck (l:List Int):Nat :=
 match l with
 | []=>0
 | c::r=>if c=37 then (if 2≤r.length∧0≤ky (r.getD 0 0)∧0≤ky (r.getD 1 0) then 3 else 0) else if jH c || wH c then 1 else 0
theorem kV {l:List Int}{i:Nat} (h:i < l.length):ck (l.drop i)=if l.getD i 0=37 then (if i+2 < l.length∧0≤ky (l.getD (i+1) 0)∧0≤ky (l.getD (i+2) 0) then 3 else 0) else if jH (l.getD i 0) || wH (l.getD i 0) then 1 else 0:=by
 rw [a9 h]
 simp only [ck]
 have e1:(l.drop (i+1)).getD 0 0=l.getD (i+1) 0:=by simp [List.getD_eq_getElem?_getD]
 have e2:(l.drop (i+1)).getD 1 0=l.getD (i+2) 0:=by simp [List.getD_eq_getElem?_getD]
 have e3:(2≤(l.drop (i+1)).length)=(i+2 < l.length):=by simp;omega
 simp only [e1,e2,e3]
theorem xX (l:List Int):ck l≤3∧ck l≤l.length:=by
 unfold ck
 split
 ·simp
 ·rename_i c r
  (repeat' split)<;>simp<;>omega
def jL (may:Int→Bool):Nat→List Int→Nat
 | 0,_=>0
 | f+1,l=>if ck l=0∨may (l.getD 0 0)=false then 0 else ck l+jL may f (l.drop (ck l))
def ek (may:Int→Bool) (l:List Int):Nat:=jL may l.length l
theorem xR (may:Int→Bool):∀ (f:Nat) (l:List Int),jL may f l≤l.length
 | 0,_=>Nat.zero_le _
 | f+1,l=>by
  have h1:=(xX l).2
  have h2:=xR may f (l.drop (ck l))
  rw [List.length_drop] at h2
  simp only [jL]
  split<;>omega
theorem lS (may:Int→Bool) (l:List Int):ek may l≤l.length:=xR may _ l
theorem sn (may:Int→Bool):∀ (f f':Nat) (l:List Int),l.length≤f→l.length≤f'→jL may f l=jL may f' l
 | 0,0,_,_,_=>rfl
 | 0,f'+1,l,h,_=>by
  obtain rfl:=List.eq_nil_of_length_eq_zero (by omega:l.length=0)
  simp [jL,ck]
 | f+1,0,l,_,h=>by
  obtain rfl:=List.eq_nil_of_length_eq_zero (by omega:l.length=0)
  simp [jL,ck]
 | f+1,f'+1,l,h,h'=>by
  simp only [jL]
  split
  ·rfl
  ·rename_i hn
   rw [sn may f f' _ (by rw [List.length_drop];omega) (by rw [List.length_drop];omega)]
theorem CD (may:Int→Bool) (l:List Int):ek may l=if ck l=0∨may (l.getD 0 0)=false then 0 else ck l+ek may (l.drop (ck l)):=by
 unfold ek
 cases l with
 | nil=>simp [jL,ck]
 | cons c r =>
  have:∀ n,0 < n→jL may r.length ((c::r).drop n)=jL may ((c::r).drop n).length ((c::r).drop n):=fun n hn=>sn may _ _ _ (by simp only [List.length_drop,List.length_cons];omega) (Nat.le_refl _)
  rw [List.length_cons]
  simp only [jL]
  split
  ·rfl
  ·rename_i h
   rw [this _ (by omega)]
def iI (c:Int):Bool:=true
def gp (c:Int):Bool:=!(c == 33) && !jN c
def th (p:Int→Bool) (l:List Int):Nat:=(l.takeWhile p).length
theorem jA (p:Int→Bool) (l:List Int):th p l≤l.length:=(List.takeWhile_prefix p).length_le
theorem yL {p:Int→Bool}{l:List Int}{k:Nat} (h:k≤th p l) (h1:k < l.length) (h2:p (l.getD k 0)=true):k+1≤th p l:=wN h h1 h2
theorem ym {p:Int→Bool}{l:List Int}{k:Nat} (h:k≤th p l) (h1:l.length≤k∨p (l.getD k 0)=false):k=th p l:=by
  rcases Nat.lt_or_ge k l.length with hk|hk
  · exact wy      h hk (by rcases h1 with h1 | h1; · omega
                           · exact h1)
  · have:=jA p l;omega
def Et (l:List Int) (i:Nat) (c:Int):Bool:=decide (i < l.length∧l.getD i 0=c)
theorem mQ {l:List Int}{i:Nat}{c:Int} (h:Et l i c=true):i < l.length∧l.getD i 0=c:=of_decide_eq_true h
theorem VC:jH 37=false:=by decide
theorem Vz:wH 37=false:=by decide
theorem OR {l:List Int}{i:Nat} (h:i < l.length) (hw:jH (l.getD i 0)=true):ck (l.drop i)=1:=by
 rw [kV h,if_neg (fun e=>by rw [e,VC] at hw;cases hw),hw];rfl
theorem OI {l:List Int}{i:Nat} (h:i < l.length) (hw:wH (l.getD i 0)=true):ck (l.drop i)=1:=by
 rw [kV h,if_neg (fun e=>by rw [e,Vz] at hw;cases hw),hw,Bool.or_true];rfl
theorem OX {l:List Int}{i:Nat} (h:i+2 < l.length) (h1:l.getD i 0=37) (h2:0≤ky (l.getD (i+1) 0)) (h3:0≤ky (l.getD (i+2) 0)):ck (l.drop i)=3:=by
 rw [kV (by omega),if_pos h1,if_pos ⟨h,h2,h3⟩]
theorem vQ {l:List Int}{i:Nat} (h:i < l.length) (h1:l.getD i 0=37) (h2:l.length≤i+2∨ky (l.getD (i+1) 0) < 0∨ky (l.getD (i+2) 0) < 0):ck (l.drop i)=0:=by
 rw [kV h,if_pos h1,if_neg (by omega)]
theorem O8 {l:List Int}{i:Nat} (h:i < l.length) (h1:¬l.getD i 0=37) (h2:jH (l.getD i 0)=false) (h3:wH (l.getD i 0)=false):ck (l.drop i)=0:=by
 rw [kV h,if_neg h1,h2,h3];rfl
theorem Pd {l:List Int}{i:Nat} (h:l.length≤i):ck (l.drop i)=0:=by rw [List.drop_eq_nil_of_le h];rfl
def mS:Nat→Nat→List Int→List (Nat × Nat)
 | 0,_,_=>[]
 | f+1,i,l=>if ck (l.drop i)=0 then [] else (i,i+ck (l.drop i))::mS f (i+ck (l.drop i)) l
def lJ (l:List Int) (i:Nat):List (Nat × Nat):=mS (l.length - i+1) i l
theorem gK {l:List Int}{i:Nat}:ck (l.drop i)≤l.length - i:=by
 have:=(xX (l.drop i)).2;rwa [List.length_drop] at this
theorem pS:∀ (f f' i:Nat) (l:List Int),l.length - i < f→l.length - i < f'→mS f i l=mS f' i l
 | 0,_,_,_,h,_=>by omega
 | _,0,_,_,_,h=>by omega
 | f+1,f'+1,i,l,h,h'=>by
  have:=gK (l:=l) (i:=i)
  simp only [mS]
  split
  ·rfl
  ·rw [pS f f' _ l (by omega) (by omega)]
theorem si {l:List Int}{i:Nat} (h:ck (l.drop i)=0):lJ l i=[]:=by
 unfold lJ mS;rw [if_pos h]
theorem lb {l:List Int}{i:Nat} (h:¬ck (l.drop i)=0):lJ l i=(i,i+ck (l.drop i))::lJ l (i+ck (l.drop i)):=by
 have:=gK (l:=l) (i:=i)
 unfold lJ
 rw [mS,if_neg h,pS (l.length - i) (l.length - (i+ck (l.drop i))+1) _ _ (by omega) (by omega)]
theorem Cp {may:Int→Bool}{l:List Int} (h:ck l=0∨may (l.getD 0 0)=false):ek may l=0:=by rw [CD,if_pos h]
theorem G3 {may:Int→Bool}{l:List Int} (h:¬ck l=0) (h1:may (l.getD 0 0)=true):ek may l=ck l+ek may (l.drop (ck l)):=by
 rw [CD,if_neg];rw [h1];simp [h]
theorem sM {l:List Int}{i:Nat}:(l.drop i).getD 0 0=l.getD i 0:=by simp [List.getD_eq_getElem?_getD]
def cg (l:List Int):Nat:=if Et l (1+th jH (l.drop 1)) 33 then 1+th jH (l.drop 1)+1 else 0
theorem nb (l:List Int):cg l≤l.length:=by
 unfold cg
 split
 ·rename_i h;have:=(mQ h).1;omega
 ·omega
def bK (l:List Int):ByteArray × Int × Bool:=(cu (l.take (th ff l)),(th ff l:Nat),decide (0 < th ff l))
def noneT:ByteArray × Int × Bool:=(ByteArray.empty,0,false)
def fg (l:List Int):ByteArray × Int × Bool :=
 if ek iI (l.drop 2)=0∨Et l (ek iI (l.drop 2)+2) 62=false then noneT else (cu ((l.take (ek iI (l.drop 2)+2)).drop 1),(ek iI (l.drop 2)+3:Nat),true)
def iW (l:List Int):ByteArray × Int × Bool :=
 if 0 < cg l∧ek gp (l.drop (max (cg l) 1))=0 then noneT else (cu (l.take (ek gp (l.drop (max (cg l) 1))+max (cg l) 1)),(ek gp (l.drop (max (cg l) 1))+max (cg l) 1:Nat),true)
def eV (l:List Int):ByteArray × Int × Bool:=if Et l 0 33=false then noneT else if Et l 1 60 then fg l else iW l
end Go.Abs
/-
 Walks: code points as bytes;the reference's,and the program's.
-/


namespace Go.Proofs.YthkabaiamcjdbaaGreat
open Go.Abs
variable {κ:Ctx} {σ:List Res} {K:Ret→List Res→Prop} {o o':Option (Option (Nat × Nat))}
theorem Vw {c:Int} (hK:K (.ret (B (hZ c))) σ):ACallF κ Tryz.prog 163 [I c] σ K:=by
 refine ACallF.dropL (aa Tryz.func163 rfl ?_)
 simp only [Tryz.ntmps163]
 repeat' (first|simp only [WL,aD,WM,reduceCtorEq,ba,Nat.reduceAdd,Nat.reduceSub,Bool.not_true,Bool.not_false,true_and,reduceIte,Bool.false_eq_true,Tryz.results163]|((with_reducible first|refine ai (fun h=>?_) (fun h=>?_)|refine ab (fun h=>?_) (fun h=>?_))<;>(try simp only [h])<;>(try simp only [bg,bm] at h)))
 all_goals (refine ak ah (aj (congrArg B ?_)) hK;rw [Bool.eq_iff_iff];simp only [gA,decide_eq_true_eq,Bool.false_eq_true,false_iff,true_iff,eq_self];omega)
theorem GW {bs:List Int}{c:Int}{tk:Option (Nat × Nat)} (hb:bs.length≤8000000000) (hc:128≤c) (hr:hZ c=true) (hK:∀ tk',K (.ret (SU (some tk') (bs++mM c))) (.tip tk'::σ)):ACallF κ Tryz.prog 193 [SU (some tk) bs,.raw (.int .i32 c)] (.tip tk::σ) K:=by
 obtain ⟨r1,r2,r3⟩:=gA.1 hr
 refine ACallF.dropL (aa Tryz.func193 rfl ?_)
 simp only [Tryz.ntmps193]
 repeat' (first|simp only [WL,aD,WM,Int.reduceToNat,reduceCtorEq,ba,Nat.reduceAdd,Nat.reduceSub,Bool.not_true,true_and,reduceIte,Bool.false_eq_true,cI Sy,cI MW,Tryz.results193,Fc,Dj,JV,Int.reduceToNat,Int.reducePow]|simp (disch:=first|omega|(simp only [aT];omega)) only [Jq,JZ,I8,KI,I2,vL,Bq]|(with_reducible first|refine aC (hb:=?_)|refine cq (hlen:=?_) (hmax:=?_) (hK:=fun tk=>?_)|refine cF (hK:=?_))|((with_reducible first|refine ai (fun h=>?_) (fun h=>?_)|refine ab (fun h=>?_) (fun h=>?_))<;>(try simp only [h])<;>(try simp only [bg,bm] at h))|omega|(refine bq ?_;(first|omega|(simp only [aT];omega))))
 all_goals
  refine ak ah (aj ?_) (hK _)
  unfold mM zB
  rw [Ak hr]
  first
   | rw [if_pos (by omega)]
   | rw [if_neg (by omega),if_pos (by omega)]
   | rw [if_neg (by omega),if_neg (by omega),if_pos (by omega)]
   | rw [if_neg (by omega),if_neg (by omega),if_neg (by omega)]
  simp
theorem BY {bs:List Int}{c:Int}{tk:Option (Nat × Nat)} (hb:bs.length≤8000000000) (hr:hZ c=true) (hK:∀ tk',K (.ret (SU (some tk') (bs++mM c))) (.tip tk'::σ)):ACallF κ Tryz.prog 164 [SU (some tk) bs,.raw (.int .i32 c)] (.tip tk::σ) K:=by
 obtain ⟨r1,r2,r3⟩:=gA.1 hr
 refine ACallF.dropL (aa Tryz.func164 rfl ?_)
 simp only [Tryz.ntmps164]
 repeat' (first|simp only [WL,aD,WM,reduceCtorEq,ba,Nat.reduceAdd,Nat.reduceSub,true_and,cI Sy,cI MW,Oj,Tryz.results164]|simp (disch:=first|omega|(simp only [aT];omega)) only [Bq,vL]|(with_reducible first|refine aC (hb:=?_)|refine cq (hlen:=?_) (hmax:=?_) (hK:=fun tk=>?_)|refine cF (hK:=?_)|refine cD (GW ?_ ?_ ?_ (fun tkp=>?_)))|((with_reducible first|refine ai (fun h=>?_) (fun h=>?_)|refine ab (fun h=>?_) (fun h=>?_))<;>(try simp only [h])<;>(try simp only [bg,bm] at h))|omega|(refine bq ?_;(first|omega|(simp only [aT];omega))))
 all_goals first
  | exact ak ah (aj (by rw [q5 (by omega) (by omega)];simp)) (hK _)
  | exact ak ah (aj rfl) (hK _)
  | assumption
theorem vC {l:List Int} (hl:l.length≤1000000000) (hK:K (.ret (SU none (jI l))) σ):ACallF κ Tryz.prog 131 [SI o l] σ K:=by
 refine ACallF.dropL (aa Tryz.func131 rfl ?_)
 simp only [Tryz.ntmps131]
 repeat' (first|simp only [WL,WM,Nat.reduceAdd,Nat.reduceSub,true_and,bX])
 refine bH (fun x:Nat × Option (Nat × Nat)=>⟨(SI o l::.any::.any::SU (some x.2) (jI (l.take x.1))::.any::.any::SI o l::I l.length::I x.1::.any::.any::.any::.any::.any::.any::.any::.any::.any::.any::.any::.any::[]),.tip x.2::σ,true,[]⟩) (fun x=>x.1≤l.length) (fun x=>l.length - x.1) (0,none) (aL bz ResW.void id) (Nat.zero_le _) ?_
 rintro ⟨k,tk⟩ h1
 dsimp only at h1 ⊢
 have he:=nJ (l.take k)
 have ht:(l.take k).length=k:=by simp;omega
 cases hr:hZ (l.getD k 0)
 ·have e:mM 65533=mM (l.getD k 0):=by unfold mM;rw [Pw hr,Ak (by decide)]
  repeat' (first|simp only [WL,aD,WM,reduceCtorEq,ba,Nat.reduceAdd,Bool.not_false,true_and,T3,bX,cI M7,Gq,Fq,Tryz.results131,hr]|simp (disch:=first|omega|(simp only [aT];omega)) only [aq,aV,Cj]|(with_reducible first|refine aC (hb:=?_)|refine cD (Vw ?_)|refine cD (BY ?_ ?_ (fun tkp=>?_)))|((with_reducible first|refine ai (fun h=>?_) (fun h=>?_)|refine ab (fun h=>?_) (fun h=>?_))<;>(try simp only [h])<;>(try simp only [bg,bm] at h))|omega)
  ·decide
  ·exact ⟨(k+1,_),aL (by dsimp only;rw [uK (by omega),← e];exact bz) (ResW.refl _) id,by dsimp only;omega,by dsimp only;omega⟩
  ·exact ak (ae ah) (d8 (by rw [List.take_of_length_le (by omega)];exact le_ro)) hK
 ·obtain ⟨r1,r2,r3⟩:=gA.1 hr
  repeat' (first|simp only [WL,aD,WM,reduceCtorEq,ba,Nat.reduceAdd,Bool.not_true,true_and,T3,bX,cI M7,Gq,Fq,Tryz.results131,hr]|simp (disch:=first|omega|(simp only [aT];omega)) only [aq,aV,Cj]|(with_reducible first|refine aC (hb:=?_)|refine cD (Vw ?_)|refine cD (BY ?_ ?_ (fun tkp=>?_)))|((with_reducible first|refine ai (fun h=>?_) (fun h=>?_)|refine ab (fun h=>?_) (fun h=>?_))<;>(try simp only [h])<;>(try simp only [bg,bm] at h))|omega)
  ·exact ⟨(k+1,_),aL (by dsimp only;rw [uK (by omega)];exact bz) (ResW.refl _) id,by dsimp only;omega,by dsimp only;omega⟩
  ·exact ak (ae ah) (d8 (by rw [List.take_of_length_le (by omega)];exact le_ro)) hK
theorem w9 {l:List Int} (hl:l.length≤1000000000) (hK:K (.ret (.raw (.string (cu l)))) σ):ACallF κ Tryz.prog 110 [SI o l] σ K:=by
 refine ACallF.dropL (aa Tryz.func110 rfl ?_)
 simp only [Tryz.ntmps110]
 repeat' (first|simp only [WL,WM,Nat.reduceAdd,Nat.reduceSub,true_and,kD,vW,Tryz.results110]|(with_reducible first|refine qy ?_|refine cD (vC ?_ ?_))|omega)
 exact ak ah (aj rfl) hK
theorem Pq {l:List Int} (hl:l.length≤1000000000) (hK:K (.ret (I (th ff l))) σ):ACallF κ Tryz.prog 109 [SI o l] σ K:=by
 refine ACallF.dropL (aR Tryz.func109 rfl ?_)
 simp only [Tryz.ntmps109]
 repeat' (first|(with_reducible first|refine al (ay ?_)|refine bW ?_|refine aJ ?_)|simp only [WL,WM,Nat.reduceAdd,Nat.reduceSub])
 refine dM (fun k:Nat=>⟨(SI o l::.any::.any::I k::.any::.any::.any::.any::.any::.any::.any::.any::.any::.any::.any::.any::.any::.any::[]),σ,true,[]⟩) (fun k=>k≤th ff l) (fun k=>l.length - k) 0 (ao bz id) (Nat.zero_le _) ?_
 intro k hk
 have hcl:=jA ff l
 repeat' (first|(with_reducible first|refine ay ?_|refine al (al ?_)|refine aJ ?_|refine aB ?_|refine aw ?_|refine aY ?_)|simp only [WL,aD,WM,reduceCtorEq,ba,Nat.reduceAdd,Bool.not_true,true_and,reduceIte,Bool.false_eq_true,T3,bX,OM,Tryz.results109]|simp (disch:=first|omega|(simp only [aT];omega)) only [aq,aV]|(with_reducible first|refine aC (hb:=?_)|refine cD (S4 ?_))|((with_reducible first|refine ai (fun h=>?_) (fun h=>?_)|refine ab (fun h=>?_) (fun h=>?_))<;>(try simp only [h])<;>(try simp only [bg,bm] at h)))
 all_goals first
  | exact ⟨k+1,ao bz id,yL hk (by omega) (by assumption),by omega⟩
  | exact ak ah (aj (by rw [← ym hk (by first|exact .inl (by omega)|exact .inr (by assumption))])) hK
theorem Pk {l:List Int} (hl:l.length≤1000000000) (hK:K (.ret (I (th jH l))) σ):ACallF κ Tryz.prog 166 [SI o l] σ K:=by
 refine ACallF.dropL (aR Tryz.func166 rfl ?_)
 simp only [Tryz.ntmps166]
 repeat' (first|(with_reducible first|refine al (ay ?_)|refine bW ?_|refine aJ ?_)|simp only [WL,WM,Nat.reduceAdd,Nat.reduceSub])
 refine dM (fun k:Nat=>⟨(SI o l::.any::.any::I k::.any::.any::.any::.any::.any::.any::.any::.any::.any::.any::.any::.any::.any::.any::[]),σ,true,[]⟩) (fun k=>k≤th jH l) (fun k=>l.length - k) 0 (ao bz id) (Nat.zero_le _) ?_
 intro k hk
 have hcl:=jA jH l
 repeat' (first|(with_reducible first|refine ay ?_|refine al (al ?_)|refine aJ ?_|refine aB ?_|refine aw ?_|refine aY ?_)|simp only [WL,aD,WM,reduceCtorEq,ba,Nat.reduceAdd,Bool.not_true,true_and,reduceIte,Bool.false_eq_true,T3,bX,GA,Tryz.results166]|simp (disch:=first|omega|(simp only [aT];omega)) only [aq,aV]|(with_reducible first|refine aC (hb:=?_)|refine cD (LB ?_))|((with_reducible first|refine ai (fun h=>?_) (fun h=>?_)|refine ab (fun h=>?_) (fun h=>?_))<;>(try simp only [h])<;>(try simp only [bg,bm] at h)))
 all_goals first
  | exact ⟨k+1,ao bz id,yL hk (by omega) (by assumption),by omega⟩
  | exact ak ah (aj (by rw [← ym hk (by first|exact .inl (by omega)|exact .inr (by assumption))])) hK
theorem Fx {l:List Int}{i:Nat}{c:Int} (hl:l.length≤1000000000) (hi:i≤2000000000) (hK:K (.ret (B (Et l i c))) σ):ACallF κ Tryz.prog 108 [SI o l,I i,I c] σ K:=by
 refine ACallF.dropL (aa Tryz.func108 rfl ?_)
 simp only [Tryz.ntmps108]
 repeat' (first|simp only [WL,aD,WM,reduceCtorEq,ba,Nat.reduceAdd,Nat.reduceSub,Bool.not_true,true_and,reduceIte,Bool.false_eq_true,T3,bX,Tryz.results108]|simp (disch:=first|omega|(simp only [aT];omega)) only [aV]|with_reducible refine aC (hb:=?_)|((with_reducible first|refine ai (fun h=>?_) (fun h=>?_)|refine ab (fun h=>?_) (fun h=>?_))<;>(try simp only [h])<;>(try simp only [bg,bm] at h)))
 all_goals exact ak ah (aj (congrArg B (by rw [Bool.eq_iff_iff];simp [Et];omega))) hK
theorem Ci {l:List Int} (hl:l.length≤1000000000) (h0:0 < l.length) (hK:K (.ret (I (cg l))) σ):ACallF κ Tryz.prog 135 [SI o l] σ K:=by
 have hcl:=jA jH (l.drop 1)
 rw [List.length_drop] at hcl
 refine ACallF.dropL (aa Tryz.func135 rfl ?_)
 simp only [Tryz.ntmps135]
 repeat' (first|simp only [WL,aD,WM,Int.reduceToNat,reduceCtorEq,ba,Nat.reduceAdd,Nat.reduceSub,true_and,T3,bX,kX,NB,Tryz.results135]|simp (disch:=first|omega|(simp only [aT];omega)) only [aq]|(with_reducible first|refine aC (hb:=?_)|refine cD (Fx ?_ ?_ ?_)|refine cD (Pk ?_ ?_))|((with_reducible first|refine ai (fun h=>?_) (fun h=>?_)|refine ab (fun h=>?_) (fun h=>?_))<;>(try simp only [h])<;>(try simp only [bg,bm] at h))|omega|(simp only [aT];omega))
 all_goals exact ak ah (aj (congrArg I (by simp only [cg,h];simp))) hK
theorem vV {l:List Int} (hl:l.length≤1000000000) (hK:K (.ret (.tup [.raw (.string (bK l).1),I (bK l).2.1,B (bK l).2.2])) σ):ACallF κ Tryz.prog 124 [SI o l] σ K:=by
 have hcl:=jA ff l
 refine ACallF.dropL (aa Tryz.func124 rfl ?_)
 simp only [Tryz.ntmps124]
 repeat' (first|simp only [WL,aD,WM,Int.reduceToNat,reduceCtorEq,ba,Nat.reduceAdd,Nat.reduceSub,true_and,T3,bX,PI,sY,Tryz.results124]|(with_reducible first|refine aC (hb:=?_)|refine cD (Pq ?_ ?_)|refine cD (w9 ?_ ?_))|omega|(simp only [aT];omega))
 exact ak ah (aj (by simp [bK])) hK
theorem O6 {c:Int} (hK:K (.ret (B (gp c))) σ):ACallF κ Tryz.prog 153 [I c] σ K:=by
 refine ACallF.dropL (aa Tryz.func153 rfl ?_)
 simp only [Tryz.ntmps153]
 repeat' (first|simp only [WL,aD,WM,reduceCtorEq,ba,Nat.reduceAdd,Nat.reduceSub,Bool.not_true,true_and,reduceIte,Bool.false_eq_true,pj,Tryz.results153]|with_reducible refine cD (uQ ?_)|((with_reducible first|refine ai (fun h=>?_) (fun h=>?_)|refine ab (fun h=>?_) (fun h=>?_))<;>(try simp only [h])<;>(try simp only [bg,bm] at h)))
 all_goals exact ak ah (aj (congrArg B (by simp [gp, *]))) hK
theorem Vn {c:Int} (hK:K (.ret (B (iI c))) σ):ACallF κ Tryz.prog 137 [I c] σ K:=by
 refine ACallF.dropL (aa Tryz.func137 rfl ?_)
 simp only [Tryz.ntmps137]
 repeat' (first|simp only [WL,WM,Nat.reduceAdd,Nat.reduceSub,true_and,Tryz.results137])
 exact ak ah (aj rfl) hK
end Go.Proofs.YthkabaiamcjdbaaGreat
