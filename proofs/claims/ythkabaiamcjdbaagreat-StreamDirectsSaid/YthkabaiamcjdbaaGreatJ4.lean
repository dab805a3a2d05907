/-
  Texts Mu, Mv, Mw, Mx, S, Sb, one behind the other.
-/
import Derived.Test.YthkabaiamcjdbaaGreatJ3
import Derived.Laws.MakeOwn
import Derived.Laws.CopyRow
import Derived.Laws.BytesArg
import Derived.Laws.IdiomStrings
set_option linter.unusedVariables false
set_option linter.unusedSimpArgs false
set_option maxHeartbeats 16000000
namespace Go.Abs
open Go.RowKit
section
variable {κ:Ctx} {P:Program} {σ:List Res} {K:AV→List Res→Prop}
abbrev bT (b o n c:Nat):AV:=.raw (.slice (some ⟨b,o,none⟩) n c)
theorem TR.replicate {g:Nat→Nat}{w:World}{x:AV}{v:Value} (h:VR g w x v) (n:Nat):TR g w (List.replicate n x) (Array.replicate n v) :=
 ⟨by simp,fun k y hk=>by
  rw [List.getElem?_replicate] at hk;split at hk
  ·rename_i hlt
   cases hk
   have:(Array.replicate n v).getD k undef=v:=by simp [Array.getD_eq_getD_getElem?,hlt]
   rw [this];exact h
  ·cases hk⟩
theorem vl {z:Value} (h:z.oneCell'=true) (n:Nat):madeCells z.cells n=Array.replicate n z:=by
 rw [q7 h];refine Array.ext (by simp [madeCells]) (fun i h1 h2=>?_);simp [madeCells,Nat.mod_one]
theorem wT {t e:TypeId}{z:Value}{by_ n:Nat} (he:jg P t=some e) (hs:dj P e=some 1) (hb:mg P e=some by_) (hz:dP P e=some z) (hz1:z.oneCell'=true) (hz2:iL (rU z)=true) (hn:n≤1000000000) (hby:by_≤1000)
  (hK:∀ b,K (bT b 0 n n) (.obj b (List.replicate n (rU z))::σ)):AAct κ P (.mkslice t) [I n,I n] σ K:=by
 intro φ g w vs hR hv;obtain ⟨v,u,rfl,hv1,hv2⟩:=dA hv;cases hv1.raw_eq
 cases hv2.raw_eq
 obtain ⟨inf,hi,hisz,hiby,hizr⟩:∃ inf,P.info? e=some inf∧inf.size=1∧inf.bytes=by_∧inf.zero=some z:=by
  unfold dj mg dP at *;cases hi:P.info? e with
  | none=>simp [hi] at hs
  | some inf=>exact ⟨inf,rfl,by simpa [hi] using hs,by simpa [hi] using hb,by simpa [hi] using hz⟩
 have hbn:(inf.bytes:Int) * (n:Int)≤281474976710656:=by
  rw [hiby];have h1:by_ * n≤1000 * 1000000000:=Nat.mul_le_mul hby hn
  have h2:((by_ * n:Nat):Int)≤281474976710656:=by omega
  rwa [Int.natCast_mul] at h2
 have hrun:=run_make (P:=P) w t e inf z (aR he) hi hizr .i64 .i64 n n (Int.natCast_nonneg _) (Int.le_refl _) hbn (by omega)
 simp only [Int.toNat_natCast,hisz,Nat.mul_one,vl hz1] at hrun;obtain ⟨a1,a2⟩:=hR.new_obj e (TR.replicate (g:=g) (w:=w) (nK z) n);exact ⟨_,_,g,_,_,hrun,a1.perm List.perm_middle.symm,a2,.raw _,hK _⟩
def lay (cs:List AV) (o:Nat) (xs:List AV):List AV:=cs.take o++xs++cs.drop (o+xs.length)
theorem TR.of_get {g:Nat→Nat}{w:World}{xs:List AV}{us:List Value} (hl:us.length=xs.length) (h:∀ (k:Nat) (x:AV),xs[k]? = some x→∃ u,us[k]? = some u∧VR g w x u):TR g w xs us.toArray :=
 ⟨by simpa using hl,fun k x hk=>by
  obtain ⟨u,h1,h2⟩:=h k x hk;have:us.toArray.getD k undef=u:=by simp [Array.getD_eq_getD_getElem?,h1]
  rw [this];exact h2⟩
theorem TR.get' {g:Nat→Nat}{w:World}{xs:List AV}{us:List Value} (h:TR g w xs us.toArray) (k:Nat) (x:AV) (hk:xs[k]? = some x):∃ u,us[k]? = some u∧VR g w x u:=by
 have h1:=h.get k x hk
 have hlt:k < us.length:=by have:=h.size;simp at this;rw [this];exact aL hk
 refine ⟨us[k],List.getElem?_eq_getElem hlt, ?_⟩;have h2:us.toArray.getD k undef=us[k]:=by
  have:us[k]? = some us[k]:=List.getElem?_eq_getElem hlt
  simp [Array.getD_eq_getD_getElem?,this]
 rw [h2] at h1;exact h1
theorem TR.lay {g:Nat→Nat}{w:World}{cs xs:List AV}{cur us:List Value}{o:Nat} (hc:TR g w cs cur.toArray) (hx:TR g w xs us.toArray):TR g w (Go.Abs.lay cs o xs) (cur.take o++us++cur.drop (o+us.length)).toArray:=by
 have e1:cur.length=cs.length:=by have:=hc.size;simpa using this
 have e2:us.length=xs.length:=by have:=hx.size;simpa using this
 unfold Go.Abs.lay;have t1:TR g w (cs.take o) (cur.take o).toArray:=TR.of_get (by simp [e1]) (fun k x hk=>by
  rw [List.getElem?_take] at hk ⊢;split at hk
  ·rename_i hlt;rw [if_pos hlt];exact hc.get' k x hk
  ·cases hk)
 have t2:TR g w (cs.drop (o+xs.length)) (cur.drop (o+us.length)).toArray:=TR.of_get (by simp [e1,e2]) (fun k x hk=>by
  rw [List.getElem?_drop] at hk ⊢;rw [e2];exact hc.get' _ x hk)
 have:=(t1.append hx).append t2
 simpa using this
theorem setRow_other (w:World) (b c:Nat) (cs:Array Value) (h:c≠b):(w.setRow b cs).heap[c]? = w.heap[c]?:=by
 simp only [World.setRow,Array.getElem?_modify];rw [if_neg (fun e=>h e.symm)]
theorem Bc {φ:List Res}{g:Nat→Nat}{w:World}{b i:Nat}{cs cs':List AV}{cur':Array Value} (hR:Rel κ g (φ++σ) w) (h:σ[i]? = some (.obj b cs)) {cur:Array Value}{ty:TypeId} (hh:w.heap[b]? = some (.cells cur ty (0,0))) (hsz:cur'.size=cur.size) (ht:TR g w cs' cur') :
  Rel κ g (φ++σ.set i (.obj b cs')) (w.setRow b cur')∧GE g w g (w.setRow b cur'):=by
 obtain ⟨h0,_⟩:=hR.holds _ (cN h);have hge:GE g w g (w.setRow b cur'):=by
  refine ⟨by simp [World.setRow],fun _=>Nat.le_refl _,fun c o ho=>?_,fun c=>?_⟩
  ·have hc:c≠b:=fun e=>by subst e;rw [h0] at ho;omega
   simp only [World.cell?];rw [setRow_other w b c cur' hc]
  ·by_cases e:c=b
   ·subst e
    simp only [bu];rw [setRow_heap w c cur cur' ty _ hh,hh];simp [hsz]
   ·simp only [bu];rw [setRow_other w b c cur' e];exact Nat.le_refl _
 refine ⟨?_,hge⟩;have hR':=hR.perm (c6 (φ:=φ) (dE h))
 have hR2:Rel κ g (.obj b cs'::(φ++σ.eraseIdx i)) (w.setRow b cur') :=
  hR'.change hge rfl rfl rfl (by simp [World.setRow]) (fun c hc=>setRow_other w b c cur' hc) (fun _ _=>rfl) rfl rfl ⟨h0,cur',ty,setRow_heap w b cur cur' ty _ hh,ht.mono hge⟩
 exact hR2.perm (List.perm_middle.symm.trans ((fq h).append_left φ))
theorem pG {ts:Array TypeId}{t e ty:TypeId}{own:Option (Option (Nat × Nat))}{l:List AV}{b o dl dc:Nat}{cs:List AV} (i:Nat) (h:σ[i]? = some (.obj b cs)) (hts:ts = #[t,t]) (he:jg P t=some e) (hs:dj P e=some 1) (hgood:cY l=true) (hfit:o+min l.length dl≤cs.length)
  (hK:K (I (min l.length dl:Nat)) (σ.set i (.obj b (lay cs o ((l.take dl).flatMap AV.cells))))):AAct κ P (.copy ts ty) [bT b o dl dc,.sl 1 own l] σ K:=by
 intro φ g w vs hR hvs;subst hts;obtain ⟨v,u,rfl,hv,hu⟩:=dA hvs;cases hv.raw_eq
 have ht:=aR he
 obtain ⟨h0,cur,ety,hh,hcs⟩:=hR.holds _ (cN h);have hinf:(P.info? e).map (·.size)=some 1:=hs
 have hcl:∀ x∈l,x.cells.length=1→True:=fun _ _ _=>trivial
 rcases hu.sl_inv with ⟨rfl,⟨ad,cp,rfl,hcp,_⟩,_⟩|⟨b',off',cap',rfl,hcap,hmax,hpos,hel,_⟩
 ·have hrow:Rel κ g (φ++σ.set i (.obj b cs)) w:=by
   have e:σ.set i (.obj b cs)=σ:=by
    apply List.ext_getElem?
    intro m;rw [List.getElem?_set];split
    ·rename_i e;subst e;split
     ·rw [h]
     ·rename_i hlt;exact (hlt (aL h)).elim
    ·rfl
   rw [e];exact hR
  refine ⟨goInt 0,w,g,I 0,_, ?_,hrow,GE.refl _ _,.raw _,by simpa [lay] using hK⟩;cases hq:P.info? e with
  | none=>simp [hq] at hinf
  | some inf =>
   have hi1:inf.size=1:=by simpa [hq] using hinf
   cases ad with
   | none =>
    have:=hcp rfl;subst this
    simp [MA.sem,nth,Builtin.copy_,bE ht,Builtin.lenOf,Builtin.firstCells,sizeOf,typeInfo,hq,storeCells]
   | some ad =>
    simp [MA.sem,nth,Builtin.copy_,bE ht,Builtin.lenOf,Builtin.firstCells,sizeOf,typeInfo,hq,storeCells,loadCells,loadCellsFrom]
 ·obtain ⟨us,hf,hus⟩:=hu.flat
  have husl:us.length=l.length:=by have:=hf.len;omega
  have h1:=hf.one hgood
  let m:=min l.length dl
  have hmlen:(us.take m).length=m:=by rw [List.length_take,husl];omega
  have hrun:=run_copy_row (P:=P) w t t ty e b o dl dc ⟨b',off',none⟩ l.length cap' cur ety (us.take m) ht hinf hh (by rw [hmlen]) (fun j v hj=>by
   have hlt:=aL hj
   rw [hmlen] at hlt;rw [List.getElem?_take_of_lt hlt] at hj;rw [Addr.add_lit];exact hus j v hj) (by rw [hmlen,hcs.size];exact hfit) (fun v hv=>h1 v (List.mem_of_mem_take hv))
  have hx:TR g w ((l.take dl).flatMap AV.cells) (us.take m).toArray:=by
   have hflat:∀ (l:List AV),(∀ x∈l,x.cells.length=1)→∀ k:Nat,(l.flatMap AV.cells)[k]? = (l[k]?).bind fun x:AV=>x.cells[0]?:=by
    intro l;induction l with
    | nil=>intro _ k;simp
    | cons x l ih =>
     intro hl k;have hx1:=hl x (by simp)
     match hxc:x.cells,hx1 with
     | [y],_ =>
      cases k with
      | zero=>simp [hxc]
      | succ k =>
       simp only [List.flatMap_cons,hxc,List.cons_append,List.nil_append,List.getElem?_cons_succ];exact ih (fun z hz=>hl z (by simp [hz])) k
   have hl1:∀ x∈l.take dl,x.cells.length=1:=fun x hx=>by
    obtain ⟨j,hj⟩:=List.mem_iff_getElem?.1 (List.mem_of_mem_take hx);exact hel j x hj
   have hlen:∀ (l:List AV),(∀ x∈l,x.cells.length=1)→(l.flatMap AV.cells).length=l.length:=by
    intro l;induction l with
    | nil=>intro _;rfl
    | cons x l ih=>intro hl;simp only [List.flatMap_cons,List.length_append,hl x (by simp),ih (fun z hz=>hl z (by simp [hz])),List.length_cons];omega
   refine TR.of_get (by rw [hmlen,hlen _ hl1];simp;omega) (fun k x hk=>?_);have hlt:=aL hk
   rw [hlen _ hl1] at hlt;rw [hflat _ hl1] at hk;have hkm:k < m:=by simp at hlt;omega
   rw [List.getElem?_take_of_lt (by simp at hlt;omega)] at hk;cases hy:l[k]? with
   | none=>simp [hy] at hk
   | some y =>
    simp [hy] at hk;obtain ⟨u,h2,h3⟩:=hf.cell k y 0 x hy hk;refine ⟨u, ?_,h3⟩;rw [List.getElem?_take_of_lt hkm];simpa using h2
  have hcur:TR g w cs cur.toList.toArray:=by simpa using hcs
  have hlay:=TR.lay (o:=o) hcur hx
  obtain ⟨r1,r2⟩:=Bc hR h (cur':=(cur.toList.take o++us.take m++cur.toList.drop (o+(us.take m).length)).toArray) hh (by
   have:o+m≤cur.size:=by rw [hcs.size];exact hfit
   simp [husl];omega) hlay
  refine ⟨_,_,g,I (min l.length dl:Nat),_,hrun,r1,r2, ?_,hK⟩;rw [hmlen];exact .raw _
theorem vx {ts:Array TypeId}{t e ty:TypeId}{b o dl dc m mc:Nat}{cs:List AV} (i:Nat) (h:σ[i]? = some (.obj b cs)) (hts:ts = #[t,t]) (he:jg P t=some e) (hs:dj P e=some 1) (hgood:cs.all iL=true) (hm:m≤cs.length) (hfit:o+min m dl≤cs.length)
  (hK:K (I (min m dl:Nat)) (σ.set i (.obj b (lay cs o (cs.take (min m dl)))))):AAct κ P (.copy ts ty) [bT b o dl dc,bT b 0 m mc] σ K:=by
 intro φ g w vs hR hvs;subst hts;obtain ⟨v,u,rfl,hv,hu⟩:=dA hvs;cases hv.raw_eq
 cases hu.raw_eq
 have ht:=aR he
 obtain ⟨h0,cur,ety,hh,hcs⟩:=hR.holds _ (cN h);have hinf:(P.info? e).map (·.size)=some 1:=hs
 have hcsz:=hcs.size
 have hlen:(cur.toList.take (min m dl)).length=min m dl:=by rw [List.length_take,Array.length_toList];omega
 have hcur:TR g w cs cur.toList.toArray:=by simpa using hcs
 have hone:∀ v∈cur.toList,v.oneCell'=true:=fun v hv=>by
  obtain ⟨j,hj⟩:=List.mem_iff_getElem?.1 hv;have hlt:=aL hj
  simp at hlt;have hc:cs[j]? = some (cs[j]'(by omega)):=List.getElem?_eq_getElem _
  obtain ⟨u,h1,h2⟩:=hcur.get' j _ hc;rw [hj] at h1;cases h1;exact ns h2 (List.all_eq_true.1 hgood _ (List.getElem_mem _))
 have hrun:=run_copy_row (P:=P) w t t ty e b o dl dc ⟨b,0,none⟩ m mc cur ety (cur.toList.take (min m dl)) ht hinf hh (by rw [hlen]) (fun j v hj=>by
  have hlt:=aL hj
  rw [hlen] at hlt;rw [List.getElem?_take_of_lt hlt] at hj;have:j < cur.size:=by omega
  simp [Addr.add_lit,World.cell?,hh];simpa using hj) (by rw [hlen,hcsz];exact hfit) (fun v hv=>hone v (List.mem_of_mem_take hv))
 have hx:TR g w (cs.take (min m dl)) (cur.toList.take (min m dl)).toArray:=TR.of_get (by simp [hcsz]) (fun k x hk=>by
  rw [List.getElem?_take] at hk ⊢;split at hk
  ·rename_i hlt;rw [if_pos hlt];exact hcur.get' k x hk
  ·cases hk)
 have hlay:=TR.lay (o:=o) hcur hx
 obtain ⟨r1,r2⟩:=Bc hR h (cur':=(cur.toList.take o++cur.toList.take (min m dl)++cur.toList.drop (o+(cur.toList.take (min m dl)).length)).toArray) hh (by simp;omega) hlay;refine ⟨_,_,g,I (min m dl:Nat),_,hrun,r1,r2, ?_,hK⟩;rw [hlen];exact .raw _
theorem xQ {t e:TypeId}{b o n c a:Nat} (he:jg P t=some e) (hs:dj P e=some 1) (ha:a < n) (hc:n≤c) (hK:K (bT b (o+a) (n - a) (c - a)) σ):AAct κ P (.slice t true false false) [bT b o n c,I a,.any,.any] σ K:=by
 intro φ g w vs hR hv;have h1:=hv.size
 match vs,h1 with
 | [v,u,x,y],_ =>
  have hv0:=hv.get 0 _ rfl
  have hv1:=hv.get 1 _ rfl
  simp at hv0 hv1;cases hv0.raw_eq
  cases hv1.raw_eq
  have hl:OptR g w (some (I a)) (some (.int .i64 a)):=VR.raw _
  have hh:OptR g w none none:=trivial
  have hsb:=cF (P:=P) (w:=w) (g:=g) (isS:=true) (len:=n) (cap:=c) hl hh rfl rfl (Int.natCast_nonneg _) (by omega) (by omega)
  simp only [Int.toNat_natCast] at hsb;refine ⟨.slice (some ⟨b,o+a,none⟩) (n - a) (c - a),w,g,_,σ, ?_,hR,GE.refl _ _,.raw _,hK⟩;have hne:¬c=a:=by omega
  simp [MA.sem,nth,Instr.sliceAt,bE (aR he),Instr.slice,hsb,dI hs,Addr.add_lit,hne]
theorem yx {t e:TypeId}{b o n c a:Nat} (he:jg P t=some e) (hs:dj P e=some 1) (ha:a≤n) (hc:n≤c) (h0:0 < c) (hK:K (bT b o a c) σ):AAct κ P (.slice t false true false) [bT b o n c,.any,I a,.any] σ K:=by
 intro φ g w vs hR hv;have h1:=hv.size
 match vs,h1 with
 | [v,u,x,y],_ =>
  have hv0:=hv.get 0 _ rfl
  have hv1:=hv.get 2 _ rfl
  simp at hv0 hv1;cases hv0.raw_eq
  cases hv1.raw_eq
  have hl:OptR g w none none:=trivial
  have hh:OptR g w (some (I a)) (some (.int .i64 a)):=VR.raw _
  have hsb:=cF (P:=P) (w:=w) (g:=g) (isS:=true) (len:=n) (cap:=c) hl hh rfl rfl (Int.le_refl _) (Int.natCast_nonneg _) (by omega)
  simp only [Int.toNat_natCast,Int.toNat_zero] at hsb;refine ⟨.slice (some ⟨b,o,none⟩) a c,w,g,_,σ, ?_,hR,GE.refl _ _,.raw _,hK⟩;have hne:¬c=0:=by omega
  simp [MA.sem,nth,Instr.sliceAt,bE (aR he),Instr.slice,hsb,dI hs,Addr.add_lit,hne]
end
/-! ### A row that is done -/
section
variable {κ:Ctx} {P:Program} {σ:List Res} {K:Ret→List Res→Prop}
def Ft (K:Ret→List Res→Prop):Ret→List Res→Prop:=fun r σ'=>K r σ'∨∃ b cs ρ,r=.ret (bT b 0 cs.length cs.length)∧ResW σ' (.obj b cs::ρ)∧(∀ x∈cs,x.cells=[x])∧cs.length≤maxLen∧K (.ret (.sl 1 (some (some (b,cs.length))) cs)) (.tip (some (b,cs.length))::ρ)
theorem zC {φ:List Res}{g:Nat→Nat}{w:World}{e:Ending}{w':World} (h:fL κ φ g w (Ft K) e w'):fL κ φ g w K e w':=by
 obtain ⟨g',σ',r,h1,h2,h3,h4⟩:=h;rcases h4 with h4|⟨b,cs,ρ,rfl,hw,hc1,hmax,hk⟩
 ·exact ⟨g',σ',r,h1,h2,h3,h4⟩
 ·have hR:=(hw κ φ g' w' h1).perm List.perm_middle
  obtain ⟨h0,arr,ty,hh,hcs⟩:=hR.holds _ (List.mem_cons_self ..);have hge:GE g' w' (zk g' b cs.length) w':=by
   refine ⟨Nat.le_refl _,fun c=>?_,fun _ _ _=>rfl,fun _=>Nat.le_refl _⟩;by_cases ec:c=b
   ·subst ec;rw [h0];exact Nat.zero_le _
   ·rw [eR ec];exact Nat.le_refl _
  have hR2:Rel κ (zk g' b cs.length) (.tip (some (b,cs.length))::(φ++ρ)) w' :=
   hR.change hge rfl rfl rfl rfl (fun _ _=>rfl) (fun c hc=>eR hc) rfl rfl ⟨eL _ _ _,arr,ty,hh⟩
  have hsz:=hcs.size
  refine ⟨_,.tip (some (b,cs.length))::ρ,_,hR2.perm List.perm_middle.symm,h2.trans hge, ?_,hk⟩;cases e with
  | returned v =>
   have:=VR.raw_eq h3
   subst this;refine VR.sl_mk rfl (Nat.le_refl _) hmax (by decide) (fun i x hi=>by rw [hc1 x (List.mem_of_getElem? hi)];rfl) (fun i x k y hi hk=>?_) (by simp [eL]) (fun t ht=>?_)
   ·rw [hc1 x (List.mem_of_getElem? hi)] at hk
    have hk0:k=0:=by have:=aL hk;simp at this;omega
    subst hk0;simp at hk;subst hk;have hg:=hcs.get i x hi
    have hil:i < arr.size:=by rw [hsz];exact aL hi
    refine ⟨arr.getD i undef, ?_,hg.mono hge⟩;simp [World.cell?,hh,hil]
   ·cases ht
    refine ⟨by simp, ?_⟩;simp [bu,hh,hsz]
  | panicked c=>exact h3.elim
  | outgrown=>exact h3.elim
theorem ACallF.freeze {f:FuncId}{args:List AV} (h:ACallF κ P f args σ (Ft K)):ACallF κ P f args σ K :=
 fun φ g w vs hR hv=>CallsIn.mono (h φ g w vs hR hv) fun _ _=>zC
end
section
variable {κ:Ctx} {P:Program} {rd:Option Nat}
def UX (t':List AV) (σ:List Res) (e:Exit) (s:St):Prop:=e=.normal∧s.t=t'∧s.σ=σ
theorem b9 {t:List AV}{σ:List Res}{fr:Bool}{df:List Deferred}:UX t σ .normal ⟨t,σ,fr,df⟩:=⟨rfl,rfl,rfl⟩
theorem GR {all:List Oper}{o:Oper}{s:St}{X Y X' Y':Prop} (h:de all o s X Y) (hX:X→X') (hY:Y→Y'):de all o s X' Y':=by
 unfold de at h ⊢;split at h
 ·exact hX h
 ·split at h
  ·split at h
   ·exact ⟨fun e=>hX (h.1 e),fun e=>hY (h.2 e)⟩
   ·exact hY h
   ·exact h.elim
  ·exact h.elim
theorem vD {all:List Oper}{o:Oper}{k:Tmp} (h:Operand.tmp k∈o.op.operands.toList):k∈o.looksAt all.toArray:=by
 unfold Oper.looksAt;exact List.mem_append.2 (.inl (List.mem_filterMap.2 ⟨.tmp k,h,rfl⟩))
theorem mW {all:List Oper}{o:Oper}{j:Nat}{want:Bool}{k:Tmp} (h:o.guard=some (j,want)) (hk:(all[j]?).bind (·.dst)=some k):k∈o.looksAt all.toArray:=by
 unfold Oper.looksAt;refine List.mem_append.2 (.inr ?_);rw [h];have:(all.toArray[j]?).bind (·.dst)=some k:=by simpa using hk
 show k∈((all.toArray[j]?).bind (·.dst)).toList
 rw [this];simp
theorem jk {a b:List AV}{k:Nat} (h:a[k]? = b[k]?):a.getD k .any=b.getD k .any:=by simp [List.getD_eq_getElem?_getD,h]
theorem ku {all:List Oper}{o:Oper}{t t2:List AV}{σ:List Res}{fr:Bool}{df:List Deferred} (h:∀ k∈o.looksAt all.toArray,t[k]? = t2[k]?):∀ x∈o.op.operands.toList,St.ev ⟨t,σ,fr,df⟩ x=St.ev ⟨t2,σ,fr,df⟩ x:=by
 intro x hx;cases x with
 | tmp k=>exact jk (h k (vD hx))
 | _=>rfl
def po (κ:Ctx) (P:Program) (all:List Oper) (t:List AV) (σ:List Res) (fr:Bool) (df:List Deferred) (o:Oper):Prop :=
 ∃ x,de all o ⟨t,σ,fr,df⟩ (∀ (K':AV→List Res→Prop) (KP':List PanicEntry→List Res→Prop),K' x σ→eZ κ false P o ⟨t,σ,fr,df⟩ K' KP') (x=U)∧bP t o.dst x=t
theorem Gp {all:List Oper}{o:Oper}{t:List AV}{σ:List Res}{fr:Bool}{df:List Deferred} (h:po κ P all t σ fr df o):bA κ false P all (l8 t σ fr df) [o] ⟨t,σ,fr,df⟩:=by
 obtain ⟨x,h1,h2⟩:=h;simp only [bA];refine GR h1 (fun hr=>hr _ _ ⟨rfl,by rw [h2]⟩) (fun hu=>?_);subst hu;exact ⟨rfl,by rw [h2]⟩
theorem Gk {t t2:List AV}{d:Tmp}{x:AV} (hlen:t2.length=t.length) (ho:t[d]? = t2[d]?) (h:bP t (some d) x=t):bP t2 (some d) x=t2:=by
 refine List.ext_getElem? (fun k=>?_);by_cases e:d=k
 ·subst e
  have h1:=congrArg (fun l:List AV=>l[d]?) h
  simp only [bP,List.getElem?_set,if_true] at h1 ⊢;rw [hlen,← ho];exact h1
 ·exact ey (by simp [e])
theorem tK {all:List Oper}{o:Oper}{d:Tmp}{t t2:List AV}{σ:List Res}{fr:Bool}{df:List Deferred} (hd:o.dst=some d) (hlen:t2.length=t.length) (hl:∀ k∈o.looksAt all.toArray,t[k]? = t2[k]?) (ho:t[d]? = t2[d]?)
  (h:po κ P all t σ fr df o):po κ P all t2 σ fr df o:=by
 obtain ⟨x,h1,h2⟩:=h;refine ⟨x,gN (s:=⟨t,σ,fr,df⟩) (fun j want k hg hk=>jk (hl k (mW hg hk))) (fun hr K' KP' hk=>jD (s:=⟨t,σ,fr,df⟩) rfl (ku hl) (hr K' KP' hk)) h1, ?_⟩;rw [hd] at h2 ⊢;exact Gk hlen ho h2
theorem Cs {all A:List Oper}{t t':List AV}{σ:List Res}{fr:Bool}{df:List Deferred} (hd:∀ (i:Nat) (o:Oper),A[i]? = some o→∃ d,o.dst=some d) (huniq:∀ (i j:Nat) (o o':Oper),A[i]? = some o→A[j]? = some o'→o.dst=o'.dst→i=j)
  (hlook:∀ (i j:Nat) (o o':Oper) (k:Tmp),A[i]? = some o→A[j]? = some o'→k∈o.looksAt all.toArray→o'.dst=some k→j < i) (h:bA κ true P all (UX t' σ) A ⟨t,σ,fr,df⟩) :
  t'.length=t.length∧(∀ (k:Nat),(∀ (i:Nat) (o:Oper),A[i]? = some o→o.dst≠some k)→t'[k]? = t[k]?)∧∀ (i:Nat) (o:Oper),A[i]? = some o→po κ P all t' σ fr df o:=by
 obtain ⟨ts,e1,e2,e3⟩:=xU (Q:=UX t' σ) (fun c s hc=>by cases hc.1) A ⟨t,σ,fr,df⟩ h;have et:ts A.length=t':=e2.2.1
 simp only at e1 e3;have tlen:∀ i,i≤A.length→(ts i).length=t.length:=by
  intro i;induction i with
  | zero=>intro _;rw [e1]
  | succ i ih =>
   intro hi;obtain ⟨x,hx,_⟩:=e3 i _ (List.getElem?_eq_getElem (by omega));rw [hx,ej,ih (by omega)]
 have keep:∀ n i,i+n≤A.length→∀ k,(∀ j o,i≤j→j < i+n→A[j]? = some o→o.dst≠some k)→(ts (i+n))[k]? = (ts i)[k]?:=by
  intro n;induction n with
  | zero=>intro i _ k _;rfl
  | succ n ih =>
   intro i hi k hk;have hg:A[i+n]? = some (A[i+n]'(by omega)):=List.getElem?_eq_getElem _
   obtain ⟨x,hx,_⟩:=e3 (i+n) _ hg;have:=ey (t:=ts (i+n)) (x:=x) (hk (i+n) _ (by omega) (by omega) hg)
   rw [← Nat.add_assoc,hx,this];exact ih i (by omega) k (fun j o h1 h2=>hk j o h1 (by omega))
 have keepF:∀ i,i≤A.length→∀ k,(∀ j o,i≤j→A[j]? = some o→o.dst≠some k)→t'[k]? = (ts i)[k]?:=by
  intro i hi k hk;have:=keep (A.length - i) i (by omega) k (fun j o h1 h2=>hk j o h1)
  rw [show i+(A.length - i)=A.length by omega,et] at this;exact this
 refine ⟨by rw [← et];exact tlen _ (Nat.le_refl _),fun k hk=>?_,fun i o hi=>?_⟩
 ·have:=keepF 0 (Nat.zero_le _) k (fun j o _ ho=>hk j o ho)
  rw [this,e1]
 ·obtain ⟨x,hx,hg⟩:=e3 i o hi
  obtain ⟨d,hdd⟩:=hd i o hi;have hiA:=aL hi
  have look:∀ k∈o.looksAt all.toArray,(ts i)[k]? = t'[k]?:=fun k hk=>by
   refine (keepF i (by omega) k (fun j o' h1 ho' hd'=>?_)).symm;have:=hlook i j o o' k hi ho' hk hd'
   omega
  refine ⟨x,gN (s:=⟨ts i,σ,fr,df⟩) (fun j want k hg hk=>jk (look k (mW hg hk))) (fun hr K' KP' hk=>jD (s:=⟨ts i,σ,fr,df⟩) rfl (ku look) (hr K' KP' hk)) hg, ?_⟩;have h1:t'[d]? = (ts (i+1))[d]?:=keepF (i+1) (by omega) d (fun j o' h1 ho' hd'=>by
   have:=huniq i j o o' hi ho' (by rw [hdd,hd'])
   omega)
  rw [hx,hdd] at h1;rw [hdd];refine List.ext_getElem? (fun k=>?_);by_cases e:d=k
  ·subst e
   rw [h1];simp only [bP,List.getElem?_set,if_true];rw [show t'.length=t.length by rw [← et];exact tlen _ (Nat.le_refl _),tlen i (by omega)]
  ·exact ey (by simp [e])
abbrev Ph:=List (List Nat × Option Nat)
def dZ:Ph→List Nat:=fun ps=>ps.flatMap fun p=>p.1++p.2.toList
def yw:Ph→List Nat:=fun ps=>ps.flatMap fun p=>p.2.toList
def cB (c:Option Nat) (r:Ph):List Nat:=match c with|none=>[]|some e=>e::dZ r
def UM (l:List Oper) (e:Nat) (r:List Nat):Bool:=r.all fun i=>match l[i]? with|some o=>(mN l l.length (bQ o)).contains e|none=>false
def e9 (l:List Oper):Ph→Bool
 | []=>true
 | (_,none)::r=>r.isEmpty
 | (_,some e)::r=>UM l e (dZ r) && e9 l r
def AD (l:List Oper) (ps:Ph):Bool :=
 let q:=dZ ps
 (List.range l.length).all (fun i=>q.contains i) && q.all (fun i=>decide (i < l.length)) && decide q.Nodup &&
 q.zipIdx.all (fun (i,k)=>match l[i]? with|some o=>(bQ o).all (fun j=>(q.take k).contains j && decide (j < i)) && (o.looksAt l.toArray).all (fun t=>l.zipIdx.all (fun (o',j)=>o'.dst != some t || (bQ o).contains j || ((yw ps).contains j && (mN l l.length (bQ o')).contains i)))|none=>false) &&
 ps.all (fun p=>p.1.all fun i=>match l[i]? with|some o=>o.dst.isSome|none=>false) &&
 l.zipIdx.all (fun (o,i)=>l.zipIdx.all (fun (o',j)=>i == j || o.dst.isNone || o.dst != o'.dst)) &&
 e9 l ps
def pick (l:List Oper) (A:List Nat):List Oper:=A.filterMap fun i=>l[i]?
def xT (κ:Ctx) (P:Program) (l:List Oper) (F:List Res→Prop) (fr:Bool) (df:List Deferred) (A:List Nat) (t t':List AV):Prop :=
 ∀ σ,F σ→bA κ true P l (UX t' σ) (pick l A) ⟨t,σ,fr,df⟩
def Np (κ:Ctx) (P:Program) (l:List Oper) (F:List Res→Prop) (fr:Bool) (df:List Deferred) (Q:Exit→St→Prop):Option Nat→Ph→List AV→List Res→Prop
 | none,_,t,σ=>Q .normal ⟨t,σ,fr,df⟩
 | some e,r,t,σ=>∃ o,l[e]? = some o∧o.guard=none∧eZ κ false P o ⟨t,σ,fr,df⟩ (fun x σ'=>F σ'∧(match r with
   | []=>Q .normal ⟨bP t o.dst x,σ',fr,df⟩
   | (A,c)::r'=>∃ t',xT κ P l F fr df A (bP t o.dst x) t'∧Np κ P l F fr df Q c r' t' σ')) (fun pc σ'=>∀ t',Q (.panic pc) ⟨t',σ',fr,df⟩)
theorem td {l:List Oper}{F:List Res→Prop}{fr:Bool}{df:List Deferred}{Q:Exit→St→Prop}{r:Ph}{t:List AV}{σ:List Res}:Np κ P l F fr df Q none r t σ=Q .normal ⟨t,σ,fr,df⟩:=by
 cases r<;>rfl
def Ua (κ:Ctx) (P:Program) (l:List Oper) (F:List Res→Prop) (fr:Bool) (df:List Deferred) (Q:Exit→St→Prop) (r:Ph) (t:List AV) (σ:List Res):Prop :=
 match r with
 | []=>Q .normal ⟨t,σ,fr,df⟩
 | (A,c)::r'=>∃ t',xT κ P l F fr df A t t'∧Np κ P l F fr df Q c r' t' σ
theorem J6 {l:List Oper}{F:List Res→Prop}{fr:Bool}{df:List Deferred}{Q:Exit→St→Prop}{e:Nat}{r:Ph}{t:List AV}{σ:List Res} (h:Np κ P l F fr df Q (some e) r t σ):∃ o,l[e]? = some o∧o.guard=none∧eZ κ false P o ⟨t,σ,fr,df⟩ (fun x σ'=>F σ'∧Ua κ P l F fr df Q r (bP t o.dst x) σ') (fun pc σ'=>∀ t',Q (.panic pc) ⟨t',σ',fr,df⟩):=by
 cases r with
 | nil=>exact h
 | cons p r=>exact h
theorem nx:∀ {l:List Nat},l.Nodup→∀ {a b x:Nat},l[a]? = some x→l[b]? = some x→a=b
 | [],_,a,_,_,ha,_=>by simp at ha
 | y::l,h,a,b,x,ha,hb=>by
  obtain ⟨h1,h2⟩:=List.nodup_cons.1 h;cases a with
  | zero =>
   cases b with
   | zero=>rfl
   | succ b =>
    simp at ha hb;subst ha;exact (h1 (List.mem_of_getElem? hb)).elim
  | succ a =>
   cases b with
   | zero =>
    simp at ha hb;subst hb;exact (h1 (List.mem_of_getElem? ha)).elim
   | succ b =>
    simp at ha hb;rw [nx h2 ha hb]
theorem XO {id:Nat}{l:List Oper}{Q:Exit→St→Prop}{t0:List AV}{σ0:List Res}{fr:Bool}{df:List Deferred} (A0:List Nat) (c0:Option Nat) (r0:Ph) (F:List Res→Prop) (hF0:F σ0) (hm:P.follows .mixedOrders=true) (hok:AD l ((A0,c0)::r0)=true)
  (h:∃ t',xT κ P l F fr df A0 t0 t'∧Np κ P l F fr df Q c0 r0 t' σ0):AW κ rd P (.region id l.toArray true) Q ⟨t0,σ0,fr,df⟩:=by
 unfold AD at hok;simp only [Bool.and_eq_true,decide_eq_true_eq] at hok;obtain ⟨⟨⟨⟨⟨⟨k1,k2⟩,k3⟩,k4⟩,k5⟩,k6⟩,k7⟩:=hok;generalize hq:dZ ((A0,c0)::r0)=q at *;generalize hef:yw ((A0,c0)::r0)=ef at *;have qlt:∀ i∈q,i < l.length:=fun i hi=>by simpa using List.all_eq_true.1 k2 i hi
 have qall:∀ i,i < l.length→i∈q:=fun i hi=>by
  have:=List.all_eq_true.1 k1 i (List.mem_range.2 hi)
  simpa using this
 have qpre:∀ (k i:Nat) (o:Oper),q[k]? = some i→l[i]? = some o→(∀ j∈bQ o,j∈q.take k∧j < i)∧∀ s∈o.looksAt l.toArray,∀ (j:Nat) (o':Oper),l[j]? = some o'→o'.dst=some s→j∈bQ o∨(j∈ef∧i∈mN l l.length (bQ o')):=by
  intro k i o hk ho;have h1:=List.all_eq_true.1 k4 (i,k) (List.mem_iff_getElem?.2 ⟨k,by simp [List.getElem?_zipIdx,hk]⟩)
  simp only [ho,Bool.and_eq_true] at h1;refine ⟨fun j hj=>?_,fun s hs j o' ho' hd=>?_⟩
  ·have:=List.all_eq_true.1 h1.1 j hj
   simpa using this
  ·have h2:=List.all_eq_true.1 h1.2 s hs
   have:=List.all_eq_true.1 h2 (o',j) (List.mem_iff_getElem?.2 ⟨j,by simp [List.getElem?_zipIdx,ho']⟩)
   simp only [hd,bne_self_eq_false,Bool.false_or,Bool.or_eq_true,Bool.and_eq_true,List.contains_iff_mem] at this;exact this
 have huniq:∀ (i j:Nat) (o o':Oper) (d:Tmp),l[i]? = some o→l[j]? = some o'→o.dst=some d→o'.dst=some d→i=j:=by
  intro i j o o' d ho ho' hd hd';have h1:=List.all_eq_true.1 k6 (o,i) (List.mem_iff_getElem?.2 ⟨i,by simp [List.getElem?_zipIdx,ho]⟩)
  have h2:=List.all_eq_true.1 h1 (o',j) (List.mem_iff_getElem?.2 ⟨j,by simp [List.getElem?_zipIdx,ho']⟩)
  simpa [hd,hd'] using h2
 have hlt:∀ (i:Nat) (o:Oper),l[i]? = some o→∀ j∈bQ o,j < i:=by
  intro i o ho j hj;obtain ⟨k,hk⟩:=List.mem_iff_getElem?.1 (qall i (aL ho));exact ((qpre k i o hk ho).1 j hj).2
 have hsee:∀ (i:Nat) (o:Oper),l[i]? = some o→∀ s∈o.looksAt l.toArray,∀ (j:Nat) (o':Oper),l[j]? = some o'→o'.dst=some s→j∈bQ o∨(j∈ef∧i∈mN l l.length (bQ o')):=by
  intro i o ho;obtain ⟨k,hk⟩:=List.mem_iff_getElem?.1 (qall i (aL ho));exact (qpre k i o hk ho).2
 have hdis:∀ (m i j:Nat) (o:Oper),i∈q→i ∉ q.drop m→l[i]? = some o→j∈bQ o→j ∉ q.drop m:=by
  intro m i j o hi hn ho hj hjd;obtain ⟨k,hk⟩:=List.mem_iff_getElem?.1 hi;have hkm:k < m:=by
   refine Classical.byContradiction fun hc=>hn ?_
   exact List.mem_iff_getElem?.2 ⟨k - m,by rw [List.getElem?_drop,show m+(k - m)=k by omega];exact hk⟩
  obtain ⟨h1,_⟩:=(qpre k i o hk ho).1 j hj;obtain ⟨a,ha⟩:=List.mem_iff_getElem?.1 h1;have hak:=aL ha
  rw [List.length_take] at hak;rw [List.getElem?_take_of_lt (by omega)] at ha;obtain ⟨b,hb⟩:=List.mem_iff_getElem?.1 hjd;rw [List.getElem?_drop] at hb;have h4:=nx k3 ha hb
  omega
 have hquiet:∀ (m:Nat) (A rest:List Nat) (t t':List AV),q.drop m=A++rest→(∀ i∈A,∃ o d,l[i]? = some o∧o.dst=some d)→(∀ i∈A,i ∉ ef)→xT κ P l F fr df A t t'→F σ0 →
   t'.length=t.length∧(∀ (k:Nat),(∀ (i:Nat) (o:Oper),i∈A→l[i]? = some o→o.dst≠some k)→t'[k]? = t[k]?)∧∀ (i:Nat) (o:Oper),i∈A→l[i]? = some o→∀ σ',F σ'→po κ P l t' σ' fr df o:=by
  intro m A rest t t' hA hds hAe hqu hFs;have hpick:∀ (A:List Nat),(∀ i∈A,∃ o d,l[i]? = some o∧o.dst=some d)→(pick l A).length=A.length∧∀ (k i:Nat),A[k]? = some i→(pick l A)[k]? = l[i]?:=by
   intro A;induction A with
   | nil=>intro _;exact ⟨rfl,fun k i hk=>by simp at hk⟩
   | cons x A ih =>
    intro hA;obtain ⟨o,d,ho,hd⟩:=hA x (by simp);obtain ⟨i1,i2⟩:=ih (fun i hi=>hA i (by simp [hi]));have e:pick l (x::A)=o::pick l A:=by simp [pick,ho]
    rw [e];refine ⟨by simp [i1],fun k i hk=>?_⟩;cases k with
    | zero=>simp at hk;subst hk;simpa using ho.symm
    | succ k=>simp at hk;simpa using i2 k i hk
  obtain ⟨plen,pget⟩:=hpick A hds;have pinv:∀ (k:Nat) (o:Oper),(pick l A)[k]? = some o→∃ i,A[k]? = some i∧l[i]? = some o:=by
   intro k o hk;have hkl:=aL hk
   rw [plen] at hkl;have h1:A[k]? = some (A[k]'hkl):=List.getElem?_eq_getElem hkl
   exact ⟨_,h1,by rw [← pget k _ h1];exact hk⟩
  have hAq:∀ (k i:Nat),A[k]? = some i→q[m+k]? = some i:=by
   intro k i hk;have:(q.drop m)[k]? = some i:=by rw [hA,List.getElem?_append_left (aL hk)];exact hk
   rwa [List.getElem?_drop] at this
  have hnd:∀ (k k' i:Nat),A[k]? = some i→A[k']? = some i→k=k':=by
   intro k k' i h1 h2;have:=nx k3 (hAq k i h1) (hAq k' i h2)
   omega
  have base:∀ σ',F σ'→t'.length=t.length∧(∀ (k:Nat),(∀ (i:Nat) (o:Oper),(pick l A)[i]? = some o→o.dst≠some k)→t'[k]? = t[k]?)∧∀ (i:Nat) (o:Oper),(pick l A)[i]? = some o→po κ P l t' σ' fr df o:=by
   intro σ' hs;refine Cs (fun i o ho=>?_) (fun i j o o' ho ho' he=>?_) (fun i j o o' k ho ho' hk hd=>?_) (hqu σ' hs)
   ·obtain ⟨x,hx,hlx⟩:=pinv i o ho
    obtain ⟨o2,d,h1,h2⟩:=hds x (List.mem_of_getElem? hx);rw [hlx] at h1;cases h1;exact ⟨d,h2⟩
   ·obtain ⟨x,hx,hlx⟩:=pinv i o ho
    obtain ⟨y,hy,hly⟩:=pinv j o' ho';obtain ⟨o2,d,h1,h2⟩:=hds x (List.mem_of_getElem? hx);rw [hlx] at h1;cases h1;have:=huniq x y o o' d hlx hly h2 (by rw [← he];exact h2)
    subst this;exact hnd i j x hx hy
   ·obtain ⟨x,hx,hlx⟩:=pinv i o ho
    obtain ⟨y,hy,hly⟩:=pinv j o' ho';have hp:=(hsee x o hlx k hk y o' hly hd).resolve_right (fun h=>hAe y (List.mem_of_getElem? hy) h.1)
    obtain ⟨h1,_⟩:=(qpre (m+i) x o (hAq i x hx) hlx).1 y hp;obtain ⟨a,ha⟩:=List.mem_iff_getElem?.1 h1;have hak:=aL ha
    rw [List.length_take] at hak;rw [List.getElem?_take_of_lt (by omega)] at ha;have:=nx k3 ha (hAq j y hy)
    omega
  obtain ⟨b1,b2,_⟩:=base σ0 hFs;refine ⟨b1,fun k hk=>b2 k (fun i o ho=>?_),fun i o hi ho σ' hs=>?_⟩
  ·obtain ⟨x,hx,hlx⟩:=pinv i o ho
   exact hk x o (List.mem_of_getElem? hx) hlx
  ·obtain ⟨k,hk⟩:=List.mem_iff_getElem?.1 hi
   exact (base σ' hs).2.2 k o (by rw [pget k i hk];exact ho)
 intro φ g0 a0 w0 hs0;refine wpIn_region_any hm ?_;have hAd:∀ p∈((A0,c0)::r0),∀ i∈p.1,∃ o d,l[i]? = some o∧o.dst=some d:=by
  intro p hp i hi;have h1:=List.all_eq_true.1 k5 p hp
  have h2:=List.all_eq_true.1 h1 i hi
  cases ho:l[i]? with
  | none=>simp [ho] at h2
  | some o=>simp [ho] at h2;exact ⟨o,_,rfl,(Option.isSome_iff_exists.1 h2).choose_spec⟩
 have hnd0:(dZ ((A0,c0)::r0)).Nodup:=by rw [hq];exact k3
 have hApart:∀ (ps:Ph),(dZ ps).Nodup→∀ p∈ps,∀ i∈p.1,i ∉ yw ps:=by
  intro ps;induction ps with
  | nil=>intro _ p hp;cases hp
  | cons p0 ps ih =>
   intro hnd p hp i hi hie;have e1:dZ (p0::ps)=p0.1++(p0.2.toList++dZ ps):=by simp [dZ,List.append_assoc]
   have e2:yw (p0::ps)=p0.2.toList++yw ps:=by simp [yw]
   have hsub:∀ (ps:Ph) (i:Nat),i∈yw ps→i∈dZ ps:=by
    intro ps i hi;simp only [yw,dZ,List.mem_flatMap] at hi ⊢;obtain ⟨p,h1,h2⟩:=hi;exact ⟨p,h1,List.mem_append.2 (.inr h2)⟩
   have hsub1:∀ (ps:Ph) (p:List Nat × Option Nat),p∈ps→∀ i∈p.1,i∈dZ ps:=by
    intro ps p hp i hi;simp only [dZ,List.mem_flatMap];exact ⟨p,hp,List.mem_append.2 (.inl hi)⟩
   rw [e1] at hnd;rw [e2] at hie;obtain ⟨n1,n2,n3⟩:=List.nodup_append.1 hnd;obtain ⟨n4,n5,n6⟩:=List.nodup_append.1 n2;rcases List.mem_cons.1 hp with rfl|hp
   ·rcases List.mem_append.1 hie with h|h
    ·exact n3 i hi i (List.mem_append.2 (.inl h)) rfl
    ·exact n3 i hi i (List.mem_append.2 (.inr (hsub ps i h))) rfl
   ·rcases List.mem_append.1 hie with h|h
    ·exact n6 i h i (hsub1 ps p hp i hi) rfl
    ·exact ih n5 p hp i hi h
 have main:∀ (fuel:Nat) (c:Option Nat) (r:Ph) (m:Nat) (listed:Array Bool) (t:List AV) (σ:List Res) (g:Nat→Nat) (a:Act) (w:World) (ds:List Nat),
   cB c r=q.drop m→e9 l (([],c)::r)=true→(∀ p∈r,∀ i∈p.1,(∃ o d,l[i]? = some o∧o.dst=some d)∧i ∉ ef)→(∀ i∈ef,i ∉ cB c r→listed.getD i false=true)→listed.size=l.length →
   (∀ (i:Nat) (o:Oper),listed.getD i false=true→l[i]? = some o→∀ j∈bQ o,listed.getD j false=true) →
   (∀ i∈cB c r,listed.getD i false=false) →
   (∀ (i:Nat) (o:Oper),l[i]? = some o→i ∉ cB c r→listed.getD i false=true∨∃ d,o.dst=some d∧∀ σ',F σ'→po κ P l t σ' fr df o) →
   F σ→KN listed l.length≤fuel→a.defers=ds.map kF++df→(fr=true→ds=[])→Rel κ g (φ++(ds.map gk++σ)) w→GE g0 w0 g w→a.tmps.size=t.length →
   (∀ (k:Nat) (x:AV),t[k]? = some x→(∀ (i:Nat) (o:Oper),i ∉ cB c r→l[i]? = some o→o.dst=some k→listed.getD i false=true)→VR g w x (a.tmps.getD k undef)) →
   Np κ P l F fr df Q c r t σ→wpAnyIn (FD rd) 0 P .any l.toArray (Post κ φ g0 w0 Q) fuel listed a w:=by
  intro fuel;have fin:∀ (c:Option Nat) (r:Ph) (m:Nat) (listed:Array Bool) (t:List AV) (σ:List Res) (g:Nat→Nat) (a:Act) (w:World) (ds:List Nat),(∀ i,i < l.length→listed.getD i false=true)→cB c r=q.drop m→(∀ i∈cB c r,listed.getD i false=false) →
    a.defers=ds.map kF++df→(fr=true→ds=[])→Rel κ g (φ++(ds.map gk++σ)) w→GE g0 w0 g w→a.tmps.size=t.length →
    (∀ (k:Nat) (x:AV),t[k]? = some x→(∀ (i:Nat) (o:Oper),i ∉ cB c r→l[i]? = some o→o.dst=some k→listed.getD i false=true)→VR g w x (a.tmps.getD k undef))→Np κ P l F fr df Q c r t σ→Post κ φ g0 w0 Q .normal a w:=by
   intro c r m listed t σ g a w ds hall hlm hlate hd hfr hR hg hts hv hph;cases c with
   | some e =>
    have h1:=hlate e (by simp [cB])
    rw [hall e (qlt e (List.mem_of_mem_drop (by rw [← hlm];simp [cB])))] at h1;cases h1
   | none=>rw [td] at hph;exact ⟨g,⟨t,σ,fr,df⟩,⟨ds,hd,hfr,hR,hts,fun k x hk=>hv k x hk (fun i o _ ho _=>hall i (aL ho))⟩,hg,hph⟩
  induction fuel with
  | zero =>
   intro c r m listed t σ g a w ds hlm hch hrd hefl hsz hcl hlate hpend hF hu hd hfr hR hg hts hv hph;have hall:=uR (Nat.le_zero.1 hu)
   refine ⟨List.eq_nil_iff_forall_not_mem.2 fun i hi=>?_,fin c r m listed t σ g a w ds hall hlm hlate hd hfr hR hg hts hv hph⟩;obtain ⟨h1,h2,_⟩:=mem_ready.1 hi;rw [kg hsz (by simpa using h1),hall i (by simpa using h1)] at h2;cases h2
  | succ fuel ih =>
   intro c r m listed t σ g a w ds hlm hch hrd hefl hsz hcl hlate hpend hF hu hd hfr hR hg hts hv hph;refine ⟨fun hr=>?_,fun i hi=>?_⟩
   ·refine fin c r m listed t σ g a w ds (fun i hi=>?_) hlm hlate hd hfr hR hg hts hv hph
    refine Classical.byContradiction fun hc=>?_
    obtain ⟨k,hk⟩:=oP hsz hlt i i (Nat.le_refl _) hi (by simpa using hc);rw [hr] at hk;cases hk
   ·obtain ⟨h1,h2,h3⟩:=mem_ready.1 hi
    have hil:i < l.length:=by simpa using h1
    rw [kg hsz hil] at h2;have ho:l[i]? = some (l[i]'hil):=List.getElem?_eq_getElem hil
    have ho':l.toArray[i]? = some (l[i]'hil):=by simp
    have hpre:∀ j∈bQ (l[i]'hil),listed.getD j false=true:=h3 _ ho'
    have key:∃ tM:List AV,tM.length=t.length∧(∀ (k:Nat) (x:AV),tM[k]? = some x→x=.any∨((∀ (i:Nat) (o:Oper),i ∉ cB c r→l[i]? = some o→o.dst=some k→listed.getD i false=true)∧t[k]? = some x))∧(∀ (k:Nat),(∀ (i:Nat) (o:Oper),i ∉ cB c r→l[i]? = some o→o.dst=some k→listed.getD i false=true)→tM[k]? = t[k]?):=by
     refine ⟨t.zipIdx.map fun p=>@ite _ (∀ (i:Nat) (o:Oper),i ∉ cB c r→l[i]? = some o→o.dst=some p.2→listed.getD i false=true) (Classical.propDecidable _) p.1 .any,by simp,fun k x hx=>?_,fun k hk=>?_⟩
     ·rw [List.getElem?_map,List.getElem?_zipIdx] at hx
      cases hy:t[k]? with
      | none=>simp [hy] at hx
      | some y =>
       simp only [hy,Option.map_some,Nat.zero_add,Option.some.injEq] at hx;split at hx
       ·rename_i hc;subst hx;exact .inr ⟨hc,rfl⟩
       ·exact .inl hx.symm
     ·rw [List.getElem?_map,List.getElem?_zipIdx]
      cases hy:t[k]? with
      | none=>rfl
      | some y =>
       simp only [Option.map_some,Nat.zero_add,Option.some.injEq];rw [if_pos hk]
    obtain ⟨tM,hM1,hM2,hM3⟩:=key;have hsM:SR κ φ g ⟨tM,σ,fr,df⟩ a w:=by
     refine ⟨ds,hd,hfr,hR,by rw [hts,hM1],fun k x hx=>?_⟩;rcases hM2 k x hx with rfl|⟨hc,hx'⟩
     ·exact .any _
     ·exact hv k x hx' hc
    have hsame:∀ k∈(l[i]'hil).looksAt l.toArray,t[k]? = tM[k]?:=fun k hk =>
     (hM3 k (fun j o hjn hoj hdj=>(hsee i _ ho k hk j o hoj hdj).elim (hpre j) (fun h=>hefl j h.1 hjn))).symm
    have hcl':∀ (j:Nat) (o:Oper),(listed.setIfInBounds i true).getD j false=true→l[j]? = some o→∀ k∈bQ o,(listed.setIfInBounds i true).getD k false=true:=by
     intro j o hj hoj k hk;rw [gX hsz hil] at hj ⊢;split
     ·rfl
     ·split at hj
      ·rename_i e;subst e
       rw [ho] at hoj;cases hoj;exact hpre k hk
      ·exact hcl j o hj hoj k hk
    have hu':KN (listed.setIfInBounds i true) l.length≤fuel:=by
     have:=x9 hsz hil (by rw [kg hsz hil];exact h2)
     omega
    have hlset:∀ j,(listed.setIfInBounds i true).getD j false=true↔j=i∨listed.getD j false=true:=by
     intro j;rw [gX hsz hil];split
     ·rename_i e;simp [e]
     ·rename_i e;simp [e]
    unfold wpOpIn;rw [ho'];by_cases hL:i∈cB c r
    ·-- the operation that writes
     cases c with
     | none=>simp [cB] at hL
     | some e =>
     have hie:i=e:=by
      simp only [cB,List.mem_cons] at hL;rcases hL with hL|hL
      ·exact hL
      ·exfalso
       simp only [e9,Bool.and_eq_true] at hch;have h4:=List.all_eq_true.1 hch.1 i hL
       simp only [ho] at h4;have h5:=iw (L:=fun j=>listed.getD j false=true) (fun j o hj ho=>hcl j o hj ho) l.length (bQ (l[i]'hil)) hpre e (by simpa using h4)
       rw [hlate e (by simp [cB])] at h5;cases h5
     subst hie;obtain ⟨o,hoe,hgd,hop⟩:=J6 hph;rw [ho] at hoe;cases hoe
     have hq1:i::dZ r=q.drop m:=hlm
     have hopM:=jD (s:=⟨t,σ,fr,df⟩) (s':=⟨tM,σ,fr,df⟩) rfl (ku hsame) hop
     have hgR:de l (l[i]'hil) ⟨tM,σ,fr,df⟩ (eZ κ false P (l[i]'hil) ⟨tM,σ,fr,df⟩ (fun x σ'=>F σ'∧Ua κ P l F fr df Q r (bP t (l[i]'hil).dst x) σ') (fun pc σ'=>∀ t',Q (.panic pc) ⟨t',σ',fr,df⟩)) False:=by
      unfold de;rw [hgd];exact hopM
     refine nO hgR hsM (fun g' a' w' x σ' hs' hge' hk=>?_) (fun hf=>hf.elim) (fun g' w' c' σ' hs' hge' hf=>⟨g',_,hs',hg.trans hge',hf tM⟩);obtain ⟨hF',hk⟩:=hk;obtain ⟨ds',hd',hfr',hR',ht'⟩:=hs';simp only at ht' hR' hd' hfr';have hlate_i:∀ j,j∈cB (some i) r↔j=i∨j∈dZ r:=fun j=>by simp [cB]
     have hq2:q.drop (m+1)=dZ r:=by
      have:=congrArg (List.drop 1) hq1
      simpa [List.drop_drop,Nat.add_comm] using this.symm
     have hpendi:∀ (j:Nat) (o:Oper),l[j]? = some o→j ∉ dZ r→j=i∨j ∉ cB (some i) r:=by
      intro j o hj hn;by_cases e:j=i
      ·exact .inl e
      ·exact .inr (by rw [hlate_i];rintro (h|h);exact e h;exact hn h)
     have hnpred:∀ (j:Nat) (o:Oper),l[j]? = some o→j ∉ cB (some i) r→i ∉ bQ o:=by
      intro j o hj hn hp;rw [hlm] at hn;exact hdis m j i o (qall j (aL hj)) hn hj hp (by rw [← hq1];simp)
     have hv1:∀ (k:Nat) (y:AV),(bP t (l[i]'hil).dst x)[k]? = some y→(∀ (j:Nat) (o:Oper),j ∉ dZ r→l[j]? = some o→o.dst=some k→(listed.setIfInBounds i true).getD j false=true)→VR g' w' y (a'.tmps.getD k undef):=by
      intro k y hy hkn;refine ht'.get k y ?_;have hknown:(l[i]'hil).dst≠some k→∀ (j:Nat) (o:Oper),j ∉ cB (some i) r→l[j]? = some o→o.dst=some k→listed.getD j false=true:=by
       intro hne j o hj hoj hdj;have:=hkn j o (fun hm=>hj ((hlate_i j).2 (.inr hm))) hoj hdj
       rcases (hlset j).1 this with e|e
       ·subst e;rw [ho] at hoj;cases hoj;exact (hne hdj).elim
       ·exact e
      cases hdd:(l[i]'hil).dst with
      | none =>
       rw [hdd] at hy hknown;simp only [bP] at hy ⊢;rw [hM3 k (hknown (by simp))];exact hy
      | some d =>
       rw [hdd] at hy hknown;simp only [bP] at hy ⊢;by_cases e:d=k
       ·subst e
        rw [List.getElem?_set] at hy ⊢;rw [if_pos rfl] at hy ⊢;rw [hM1];exact hy
       ·rw [List.getElem?_set_ne e] at hy ⊢
        rw [hM3 k (hknown (by simpa using e))];exact hy
     have hmove:∀ (j:Nat) (o:Oper) (d:Tmp),l[j]? = some o→j ∉ cB (some i) r→o.dst=some d→(∀ σ',F σ'→po κ P l t σ' fr df o)→j≠i→¬listed.getD j false=true→∀ σ',F σ'→po κ P l (bP t (l[i]'hil).dst x) σ' fr df o:=by
      intro j o d hj hn hdj hid hne hunl σ' hs;refine tK hdj (ej _ _ _) (fun k hk=>(ey (fun e=>?_)).symm) (ey (fun e=>?_)).symm (hid σ' hs)
      ·rcases hsee j o hj k hk i _ ho e with h|h
       ·exact hnpred j o hj hn h
       ·exact hunl (iw (L:=fun j=>listed.getD j false=true) (fun j o hj ho=>hcl j o hj ho) l.length _ hpre j h.2)
      ·exact hne (huniq j i o _ d hj ho hdj e)
     have ht1:a'.tmps.size=(bP t (l[i]'hil).dst x).length:=by rw [ht'.size,ej,ej,hM1]
     cases r with
     | nil =>
      have hk:Q .normal ⟨bP t (l[i]'hil).dst x,σ',fr,df⟩:=hk
      refine ih none [] (m+1) _ (bP t (l[i]'hil).dst x) σ' g' a' w' ds' (by rw [hq2];rfl) rfl (fun p hp=>by cases hp) (fun j hje _=>?_) (by simpa using hsz) hcl' (fun j hj=>by simp [cB] at hj) (fun j o hj _=>?_) hF' hu' hd' hfr' hR' (hg.trans hge') ht1 (fun k y hy hkn=>hv1 k y hy (fun j o hjs=>hkn j o (by simp [cB]))) hk
      ·by_cases e:j=i
       ·exact (hlset j).2 (.inl e)
       ·exact (hlset j).2 (.inr (hefl j hje (by rw [hlate_i];rintro (h|h);exact e h;simp [dZ] at h)))
      rcases hpendi j o hj (by simp [dZ]) with e|e
      ·exact .inl ((hlset j).2 (.inl e))
      ·by_cases hji:j=i
       ·exact .inl ((hlset j).2 (.inl hji))
       ·by_cases hjl:listed.getD j false=true
        ·exact .inl ((hlset j).2 (.inr hjl))
        ·rcases hpend j o hj e with h5|⟨d,h5,h6⟩
         ·exact (hjl h5).elim
         ·exact .inr ⟨d,h5,hmove j o d hj e h5 h6 hji hjl⟩
     | cons p r' =>
      obtain ⟨A,c'⟩:=p;obtain ⟨t2,hqu,hph2⟩:=hk;have hch2:e9 l ((A,c')::r')=true:=by
       simp only [e9,Bool.and_eq_true] at hch;exact hch.2
      have hlate2:dZ ((A,c')::r')=A++cB c' r':=by
       cases c' with
       | some e'=>simp [dZ,cB]
       | none =>
        simp only [e9] at hch2;have:r'=[]:=by simpa using hch2
        subst this;simp [dZ,cB]
      have hAdst:∀ i∈A,∃ o d,l[i]? = some o∧o.dst=some d:=fun i hi=>(hrd (A,c') (by simp) i hi).1
      have hq3:q.drop (m+1)=A++cB c' r':=by rw [hq2,hlate2]
      obtain ⟨u1,u2,u3⟩:=hquiet (m+1) A (cB c' r') _ t2 hq3 hAdst (fun i hi=>(hrd (A,c') (by simp) i hi).2) hqu hF0;have hq4:cB c' r'=q.drop (m+1+A.length):=by
       have:=congrArg (List.drop A.length) hq3
       rw [List.drop_drop,List.drop_left] at this;exact this.symm
      have hnA:∀ (j:Nat),j∈cB c' r'→j ∉ A:=by
       intro j h1 h2;have hnd:(A++cB c' r').Nodup:=by rw [← hq3];exact k3.sublist (List.drop_sublist _ _)
       exact (List.nodup_append.1 hnd).2.2 j h2 j h1 rfl
      have hch3:e9 l (([],c')::r')=true:=by
       cases c' with
       | none=>simpa [e9] using hch2
       | some e'=>simpa [e9] using hch2
      refine ih c' r' (m+1+A.length) _ t2 σ' g' a' w' ds' hq4 hch3 (fun p hp=>hrd p (by simp [hp])) (fun j hje hjn=>?_) (by simpa using hsz) hcl' (fun j hj=>?_) (fun j o hj hn=>?_) hF' hu' hd' hfr' hR' (hg.trans hge') (by rw [ht1,u1]) (fun k y hy hkn=>?_) hph2
      ·by_cases e:j=i
       ·exact (hlset j).2 (.inl e)
       ·refine (hlset j).2 (.inr (hefl j hje ?_))
        rw [hlate_i,hlate2];rintro (h|h)
        ·exact e h
        ·rcases List.mem_append.1 h with h|h
         ·exact (hrd (A,c') (by simp) j h).2 hje
         ·exact hjn h
      ·have hjs:j∈dZ ((A,c')::r'):=by rw [hlate2];exact List.mem_append.2 (.inr hj)
       have h5:=hlate j ((hlate_i j).2 (.inr hjs))
       cases h6:(listed.setIfInBounds i true).getD j false with
       | false=>rfl
       | true =>
        rcases (hlset j).1 h6 with e|e
        ·subst e
         have hnd:(j::dZ ((A,c')::r')).Nodup:=by rw [hq1];exact k3.sublist (List.drop_sublist _ _)
         exact ((List.nodup_cons.1 hnd).1 hjs).elim
        ·rw [h5] at e;cases e
      ·by_cases hjA:j∈A
       ·obtain ⟨o2,d,h5,h6⟩:=hAdst j hjA
        rw [hj] at h5;cases h5;exact .inr ⟨d,h6,u3 j o hjA hj⟩
       ·rcases hpendi j o hj (by rw [hlate2];intro hc;rcases List.mem_append.1 hc with h|h;exact hjA h;exact hn h) with e|e
        ·exact .inl ((hlset j).2 (.inl e))
        ·by_cases hji:j=i
         ·exact .inl ((hlset j).2 (.inl hji))
         ·by_cases hjl:listed.getD j false=true
          ·exact .inl ((hlset j).2 (.inr hjl))
          rcases hpend j o hj e with h5|⟨d,h5,h6⟩
          ·exact (hjl h5).elim
          ·refine .inr ⟨d,h5,fun σ2 hs2=>?_⟩
           refine tK h5 u1 (fun k hk=>(u2 k (fun b o' hb hob hdb=>?_)).symm) (u2 d (fun b o' hb hob hdb=>?_)).symm (hmove j o d hj e h5 h6 hji hjl σ2 hs2)
           ·have hp:=(hsee j o hj k hk b o' hob hdb).resolve_right (fun h=>(hrd (A,c') (by simp) b hb).2 h.1)
            have hjn:j ∉ q.drop m:=by rw [← hlm];exact e
            refine hdis m j b o (qall j (aL hj)) hjn hj hp ?_;rw [← hq1,hlate2];simp [hb]
           ·have:=huniq j b o o' d hj hob h5 hdb
            subst this;exact hjA hb
      ·by_cases hkA:∃ b o',b∈A∧l[b]? = some o'∧o'.dst=some k
       ·exfalso
        obtain ⟨b,o',hb,hob,hdb⟩:=hkA;have h5:=hkn b o' (fun hc=>hnA b hc hb) hob hdb
        have hbs:b∈dZ ((A,c')::r'):=by rw [hlate2];exact List.mem_append.2 (.inl hb)
        rcases (hlset b).1 h5 with e|e
        ·subst e
         have hnd:(b::dZ ((A,c')::r')).Nodup:=by rw [hq1];exact k3.sublist (List.drop_sublist _ _)
         exact (List.nodup_cons.1 hnd).1 hbs
        ·rw [hlate b ((hlate_i b).2 (.inr hbs))] at e;cases e
       ·have h5:=u2 k (fun b o' hb hob hdb=>hkA ⟨b,o',hb,hob,hdb⟩)
        rw [h5] at hy;exact hv1 k y hy (fun j o hjs hoj hdj=>hkn j o (fun hc=>hjs (by rw [hlate2];exact List.mem_append.2 (.inr hc))) hoj hdj)
    ·-- one that may be drawn
     rcases hpend i _ ho hL with h5|⟨d,hdd,hid⟩
     ·rw [h2] at h5;cases h5
     ·have hid':=Gp (hid σ hF)
      simp only [bA] at hid';have hgM:=gN (s:=⟨t,σ,fr,df⟩) (s':=⟨tM,σ,fr,df⟩) (fun j want k hgd hk=>jk (hsame k (mW hgd hk))) (fun hr=>jD (s:=⟨t,σ,fr,df⟩) (s':=⟨tM,σ,fr,df⟩) rfl (ku hsame) hr) hid'
      have fin2:∀ (g':Nat→Nat) (a':Act) (w':World) (x:AV) (σ':List Res),SR κ φ g' ⟨bP tM (l[i]'hil).dst x,σ',fr,df⟩ a' w'→GE g w g' w'→l8 t σ fr df .normal ⟨bP t (l[i]'hil).dst x,σ',fr,df⟩→wpAnyIn (FD rd) 0 P .any l.toArray (Post κ φ g0 w0 Q) fuel (listed.setIfInBounds i true) a' w':=by
       intro g' a' w' x σ' hs' hge' hk;obtain ⟨_,hk⟩:=hk;simp only [St.mk.injEq] at hk;obtain ⟨hy2,rfl,_,_⟩:=hk;rw [hdd] at hy2;obtain ⟨ds',hd',hfr',hR',ht'⟩:=hs';refine ih c r m _ t _ g' a' w' ds' hlm hch hrd (fun j hje hjn=>(hlset j).2 (.inr (hefl j hje hjn))) (by simpa using hsz) hcl' (fun j hj=>?_) (fun j o hj hn=>?_) hF hu' hd' hfr' hR' (hg.trans hge') (by rw [ht'.size,ej,hM1]) (fun k z hz hw=>?_) hph
       ·cases h6:(listed.setIfInBounds i true).getD j false with
        | false=>rfl
        | true =>
         rcases (hlset j).1 h6 with e|e
         ·subst e;exact (hL hj).elim
         ·rw [hlate j hj] at e;cases e
       ·rcases hpend j o hj hn with h6|h6
        ·exact .inl ((hlset j).2 (.inr h6))
        ·exact .inr h6
       ·refine ht'.get k z ?_
        simp only [hdd];simp only [bP] at hy2 ⊢;by_cases e:d=k
        ·subst e
         have hlen:d < t.length:=aL hz
         have h5:t[d]? = some x:=by
          have:=congrArg (fun l:List AV=>l[d]?) hy2
          simp only [List.getElem?_set_self hlen] at this;exact this.symm
         rw [hz] at h5;cases h5;rw [List.getElem?_set_self (by rw [hM1];exact hlen)]
        ·rw [List.getElem?_set_ne e]
         rw [hM3 k (fun j o hj hoj hdj=>?_)]
         ·exact hz
         ·rcases (hlset j).1 (hw j o hj hoj hdj) with e2|e2
          ·subst e2
           rw [ho] at hoj;cases hoj;rw [hdd] at hdj;exact (e (Option.some.inj hdj)).elim
          ·exact e2
      exact nO hgM hsM (fun g' a' w' x σ' hs' hge' hk=>fin2 g' a' w' x σ' hs' hge' hk) (fun hy hs'=>fin2 g _ w U σ hs' (GE.refl _ _) hy) (fun g' w' c σ' hs' hge' hk=>(by cases hk.1))
 obtain ⟨t1,hqu,hph⟩:=h;obtain ⟨ds,hd,hfr,hR,ht⟩:=hs0;have hlate0:q=A0++cB c0 r0:=by
  rw [← hq];cases c0 with
  | some e'=>simp [dZ,cB]
  | none =>
   simp only [e9] at k7;have:r0=[]:=by simpa using k7
   subst this;simp [dZ,cB]
 obtain ⟨u1,u2,u3⟩:=hquiet 0 A0 (cB c0 r0) t0 t1 (by simpa using hlate0) (hAd (A0,c0) (by simp)) (fun i hi=>by rw [← hef];exact hApart _ hnd0 (A0,c0) (by simp) i hi) hqu hF0;have hf0:∀ i,(Array.replicate l.toArray.size false).getD i false=false:=fun i=>by
  simp only [Array.getD_eq_getD_getElem?,Array.getElem?_replicate];split<;>rfl
 have hch0:e9 l (([],c0)::r0)=true:=by
  cases c0 with
  | none=>simpa [e9] using k7
  | some e'=>simpa [e9] using k7
 refine main l.toArray.size c0 r0 A0.length _ t1 σ0 g0 a0 _ ds ?_ hch0 (fun p hp i hi=>⟨hAd p (by simp [hp]) i hi,by rw [← hef];exact hApart _ hnd0 p (by simp [hp]) i hi⟩) (fun i hie hin=>?_) (by simp) (fun i o hi=>by rw [hf0] at hi;cases hi) (fun i _=>hf0 i) (fun i o hi hn=>?_) hF0 ?_ hd hfr (hR.of_heap rfl rfl rfl rfl) (GE.of_heap rfl) (by rw [ht.size,u1]) (fun k x hx hw=>?_) hph
 ·rw [hlate0,List.drop_left]
 ·exfalso
  have h5:i∈dZ ((A0,c0)::r0):=by
   rw [← hef] at hie;simp only [yw,dZ,List.mem_flatMap] at hie ⊢;obtain ⟨p,h1,h2⟩:=hie;exact ⟨p,h1,List.mem_append.2 (.inr h2)⟩
  rw [hq,hlate0] at h5;rcases List.mem_append.1 h5 with h|h
  ·exact hApart _ hnd0 (A0,c0) (by simp) i h (by rw [hef];exact hie)
  ·exact hin h
 ·have hiA:i∈A0:=by
   have:=qall i (aL hi)
   rw [hlate0] at this;exact (List.mem_append.1 this).resolve_right hn
  obtain ⟨o2,d,h5,h6⟩:=hAd (A0,c0) (by simp) i hiA;rw [hi] at h5;cases h5;exact .inr ⟨d,h6,u3 i o hiA hi⟩
 ·unfold KN
  exact Nat.le_trans (List.length_filter_le _ _) (by simp)
 ·have hkA:∀ (b:Nat) (o':Oper),b∈A0→l[b]? = some o'→o'.dst≠some k:=by
   intro b o' hb hob hdb;have hn:b ∉ cB c0 r0:=by
    intro hc;have hnd:(A0++cB c0 r0).Nodup:=by rw [← hlate0];exact k3
    exact (List.nodup_append.1 hnd).2.2 b hb b hc rfl
   have:=hw b o' hn hob hdb
   rw [hf0] at this;cases this
  rw [u2 k hkA] at hx;have:=ht.get k x hx
  exact VR.mono (GE.of_heap (g:=g0) (w:=w0) (w':={ w0 with drawn:=w0.drawn+1 }) rfl) this
/-! ### For walks -/
def Qd (κ:Ctx) (P:Program) (l:List Oper) (F:List Res→Prop) (fr:Bool) (df:List Deferred) (Q:Exit→St→Prop) (A:List Nat) (c:Option Nat) (r:Ph) (t:List AV) (σ:List Res):Prop :=
 ∃ t',(∀ σ',F σ'→bA κ true P l (UX t' σ') (pick l A) ⟨t,σ',fr,df⟩)∧Np κ P l F fr df Q c r t' σ
def YF (κ:Ctx) (P:Program) (l:List Oper) (F:List Res→Prop) (Q:Exit→St→Prop) (r:Ph) (e:Exit) (s:St):Prop :=
 match e with
 | .normal=>F s.σ∧Ua κ P l F s.fr s.df Q r s.t s.σ
 | .panic c=>∀ t',Q (.panic c) ⟨t',s.σ,s.fr,s.df⟩
 | _=>False
def P7:Option Oper→List Oper→List Oper
 | some o,r=>o::r
 | none,r=>r
theorem Aa {l:List Oper}:pick l []=[]:=rfl
theorem vT {l:List Oper}{i:Nat}{A:List Nat}:pick l (i::A)=P7 (l[i]?) (pick l A):=by
 unfold pick;rw [List.filterMap_cons];cases l[i]?<;>rfl
theorem uh {o:Oper}{r:List Oper}:P7 (some o) r=o::r:=rfl
variable {l:List Oper} {F:List Res→Prop} {fr:Bool} {df:List Deferred} {Q:Exit→St→Prop} {A:List Nat} {c:Option Nat} {r:Ph} {t t':List AV} {σ:List Res}
theorem aW (t':List AV) (h1:∀ σ',F σ'→bA κ true P l (UX t' σ') (pick l A) ⟨t,σ',fr,df⟩) (h2:Np κ P l F fr df Q c r t' σ):Qd κ P l F fr df Q A c r t σ:=⟨t',h1,h2⟩
theorem ik {id:Nat} (A0:List Nat) (c0:Option Nat) (r0:Ph) (F:List Res→Prop) (hF0:F σ) (hm:P.follows .mixedOrders=true) (hok:AD l ((A0,c0)::r0)=true) (h:Qd κ P l F fr df Q A0 c0 r0 t σ):AW κ rd P (.region id l.toArray true) Q ⟨t,σ,fr,df⟩ :=
 XO A0 c0 r0 F hF0 hm hok h
theorem bD {e:Nat}{o:Oper} (ho:l[e]? = some o) (hg:o.guard=none) (h:bA κ false P l (YF κ P l F Q r) [o] ⟨t,σ,fr,df⟩):Np κ P l F fr df Q (some e) r t σ:=by
 have key:eZ κ false P o ⟨t,σ,fr,df⟩ (fun x σ'=>F σ'∧Ua κ P l F fr df Q r (bP t o.dst x) σ') (fun pc σ'=>∀ t',Q (.panic pc) ⟨t',σ',fr,df⟩):=by
  simp only [bA,de,hg] at h;exact h
 cases r with
 | nil=>exact ⟨o,ho,hg,key⟩
 | cons p r=>exact ⟨o,ho,hg,key⟩
theorem bV (hF:F σ) (h:Ua κ P l F fr df Q r t σ):YF κ P l F Q r .normal ⟨t,σ,fr,df⟩:=⟨hF,h⟩
theorem pk {pc:List PanicEntry} (h:∀ t',Q (.panic pc) ⟨t',σ,fr,df⟩):YF κ P l F Q r (.panic pc) ⟨t,σ,fr,df⟩:=h
theorem Ey:Ua κ P l F fr df Q [] t σ=Q .normal ⟨t,σ,fr,df⟩:=rfl
theorem BN:Ua κ P l F fr df Q ((A,c)::r) t σ=Qd κ P l F fr df Q A c r t σ:=rfl
end
theorem xa {v:Value}:(AV.raw v).cells=[.raw v]:=id rfl
theorem wS {l:List AV}:(AV.agg l).cells=l:=id rfl
theorem zK {n:Nat}{o:Option (Option (Nat × Nat))}{l:List AV}:(AV.sl n o l).cells=[.sl n o l]:=id rfl
theorem zX {l:List AV}:(AV.cp l).cells=[.cp l]:=id rfl
theorem te {t xs:List AV}{p:Tmp}{x:AV}{qs:List Tmp}:je t (p::qs) (x::xs)=je (t.set p x) qs xs:=rfl
theorem xn {t:List AV}:je t [] []=t:=rfl
theorem wu {a:Option Addr}{n m:Nat}:rU (.slice a n m)=.raw (.slice a n m):=rfl
theorem Ef {k:IntKind}{n:Int}:rU (.int k n)=.raw (.int k n):=rfl
theorem B3 {b:Bool}:rU (.bool b)=.raw (.bool b):=rfl
theorem uU {s:ByteArray}:rU (.string s)=.raw (.string s):=rfl
theorem rY {a:Option Addr}:rU (.pointer a)=.raw (.pointer a):=rfl
theorem Fv {a:Option Nat}:rU (.map a)=.raw (.map a):=rfl
theorem rk:rU .nilFunc=.raw .nilFunc:=rfl
theorem pZ:rU .nilIface=.raw .nilIface:=rfl
theorem EC {l:List Value}:rU (.agg l.toArray)=.agg (l.map .raw):=by simp [rU]
theorem pR {cs:List AV}{k:Nat}:setCells cs k []=cs:=rfl
theorem oi {cs xs:List AV}{k:Nat}{x:AV}:setCells cs k (x::xs)=setCells (cs.set k x) (k+1) xs:=rfl
section
variable {κ:Ctx} {dm:Bool} {P:Program} {all rest:List Oper} {Q:Exit→St→Prop} {d:Option Tmp} {ty:TypeId} {pos:String} {af:Array Edge} {t:List AV} {σ:List Res} {fr:Bool} {df:List Deferred} {x y z:Operand}
theorem FI {ts:Array TypeId}:bA κ dm P all Q (⟨d,.call ⟨.builtin .copy,#[x,y],ts⟩,ty,pos,af,none⟩::rest) ⟨t,σ,fr,df⟩=cu κ dm P all Q d rest ⟨t,σ,fr,df⟩ (.copy ts ty) [(St.ev ⟨t,σ,fr,df⟩ x),(St.ev ⟨t,σ,fr,df⟩ y)]:=by simp only [bA,de,eZ];simp [cu];exact Iff.rfl
theorem xH {a:TypeId}{ok:Bool}:bA κ dm P all Q (⟨d,.lookup a x y ok,ty,pos,af,none⟩::rest) ⟨t,σ,fr,df⟩=cu κ dm P all Q d rest ⟨t,σ,fr,df⟩ (.lookup a ok) [(St.ev ⟨t,σ,fr,df⟩ x),(St.ev ⟨t,σ,fr,df⟩ y)]:=propext Iff.rfl
theorem u5 {a:TypeId}:bA κ dm P all Q (⟨d,.makeMap a none,ty,pos,af,none⟩::rest) ⟨t,σ,fr,df⟩=cu κ dm P all Q d rest ⟨t,σ,fr,df⟩ (.makeMap a) []:=propext Iff.rfl
theorem oe {a b:TypeId}{ok:Bool}:bA κ dm P all Q (⟨d,.typeAssert x a b ok,ty,pos,af,none⟩::rest) ⟨t,σ,fr,df⟩=cu κ dm P all Q d rest ⟨t,σ,fr,df⟩ (.typeAssert a b ok) [(St.ev ⟨t,σ,fr,df⟩ x)]:=propext Iff.rfl
end
section
variable {κ:Ctx} {dm:Bool} {P:Program} {all rest:List Oper} {Q:Exit→St→Prop} {d:Option Tmp} {t:List AV} {σ:List Res} {fr:Bool} {df:List Deferred} {xt:TypeId} {a:Addr} {n m:Nat} {x y:AV}
theorem rj:qX κ dm P all Q d rest ⟨t,σ,fr,df⟩ xt (.raw (.slice (some a) n m)) (some x) none none=cu κ dm P all Q d rest ⟨t,σ,fr,df⟩ (.slice xt true false false) [.raw (.slice (some a) n m),x,.any,.any]:=rfl
theorem rF:qX κ dm P all Q d rest ⟨t,σ,fr,df⟩ xt (.raw (.slice (some a) n m)) none (some x) none=cu κ dm P all Q d rest ⟨t,σ,fr,df⟩ (.slice xt false true false) [.raw (.slice (some a) n m),.any,x,.any]:=rfl
theorem ry:qX κ dm P all Q d rest ⟨t,σ,fr,df⟩ xt (.raw (.slice (some a) n m)) (some x) (some y) none=cu κ dm P all Q d rest ⟨t,σ,fr,df⟩ (.slice xt true true false) [.raw (.slice (some a) n m),x,y,.any]:=rfl
theorem zE {k:IntKind}{i:Int}:RW κ dm P all Q d rest ⟨t,σ,fr,df⟩ xt (.raw (.slice (some a) n m)) (.raw (.int k i))=cu κ dm P all Q d rest ⟨t,σ,fr,df⟩ (.indexAddr xt) [.raw (.slice (some a) n m),.raw (.int k i)]:=rfl
end
theorem bH {a b:List AV} (h:zn a b:=by repeat (first|exact trivial|refine ⟨le_rfl, ?_⟩|refine ⟨UT, ?_⟩|refine ⟨le_ro, ?_⟩|refine ⟨le_nil (by decide), ?_⟩|refine ⟨Pu (by omega) (by omega) (by omega), ?_⟩|refine ⟨L6 (by omega), ?_⟩|refine ⟨le_eq (by simp), ?_⟩)):zn a b:=h
theorem bC {a b:List Res} (h:Sub a b:=by repeat (first|exact ae|refine ah ?_)):Sub a b:=h
theorem bG {P : Program} {f : FuncId} {fn : Func} (h : P.funcs[f]? = some fn) (h1 : (fn.name == "runtime.NumGoroutine") = false := by kernel_rfl) (h2 : fn.body.isNone = false := by kernel_rfl) : ao P f = True := eq_true ⟨_, h, h1, h2⟩
theorem ba:type_of% (And.intro @ne_eq.{1} (And.intro @Bool.not_true (And.intro @Bool.not_false @Bool.not_eq_eq_eq_not))):=And.intro @ne_eq.{1} (And.intro @Bool.not_true (And.intro @Bool.not_false @Bool.not_eq_eq_eq_not))
theorem bg:type_of% (And.intro @ne_eq.{1} (And.intro @beq_self_eq_true.{0} (And.intro @not_false_eq_true (And.intro @Bool.not_true (And.intro @Bool.not_false (And.intro @true_and (And.intro @and_true @Bool.false_eq_true))))))):=And.intro @ne_eq.{1} (And.intro @beq_self_eq_true.{0} (And.intro @not_false_eq_true (And.intro @Bool.not_true (And.intro @Bool.not_false (And.intro @true_and (And.intro @and_true @Bool.false_eq_true))))))
theorem WL:type_of% (And.intro @Ey <| And.intro @BN <| And.intro @td <| And.intro @Aa <| And.intro @vT <| And.intro @uh <| And.intro @rj <| And.intro @rF <| And.intro @ry <| And.intro @zE <| And.intro @FI <| And.intro @xH <| And.intro @u5 <| And.intro @oe <| And.intro @pR <| And.intro @oi <| And.intro @wu <| And.intro @Ef <| And.intro @B3 <| And.intro @uU <| And.intro @rY <| And.intro @Fv <| And.intro @rk <| And.intro @pZ <| And.intro @EC <| And.intro @sR <| And.intro @FB <| And.intro @Ac <| And.intro @te <| And.intro @xn <| And.intro @run_seq (And.intro @AI (And.intro @wC (And.intro @A3 (And.intro @uH (And.intro @Av (And.intro @oc (And.intro @AO (And.intro @Ed (And.intro @Ae (And.intro @vV (And.intro @ud (And.intro @rH (And.intro @rr (And.intro @wt (And.intro @BU (And.intro @uB (And.intro @qn (And.intro @uk (And.intro @tU (And.intro @xk (And.intro @rD (And.intro @FF (And.intro @A2 (And.intro @Bg (And.intro @Io (And.intro @KU (And.intro @Lj (And.intro @Ee (And.intro @EG (And.intro @Fj (And.intro @Fb (And.intro @wk (And.intro @wj (And.intro @KR (And.intro @IV (And.intro @Eh (And.intro @vK (And.intro @A8 (And.intro @MS (And.intro @tN (And.intro @rh (And.intro @LH (And.intro @JA (And.intro @DZ (And.intro @xo (And.intro @FW (And.intro @vU (And.intro @Em (And.intro @Jh (And.intro @PS (And.intro @sV (And.intro @Eu (And.intro @A5 (And.intro @Ah (And.intro @Ja (And.intro @zx (And.intro @vH (And.intro @p9 (And.intro @AB (And.intro @o9 (And.intro @zw (And.intro @Au (And.intro @El (And.intro @rZ (And.intro @qj (And.intro @rM (And.intro @zz (And.intro @pX (And.intro @Ay (And.intro @E6 (And.intro @Fl (And.intro @LI (And.intro @wD (And.intro @I1 (And.intro @Lc (And.intro @AP (And.intro @B1 (And.intro @zO (And.intro @A9 (And.intro @AR (And.intro @z6 (And.intro @Bo (And.intro @wI (And.intro @w5 (And.intro @xI (And.intro @B2 (And.intro @xE (And.intro @AU (And.intro @Fa (And.intro @FN (And.intro @tp (And.intro @zL (And.intro @Bd (And.intro @tE (And.intro @uy (And.intro @wB (And.intro @E0 (And.intro @rV (And.intro @wc (And.intro @D5 (And.intro @uo (And.intro @Ea (And.intro @zR (And.intro @D4 (And.intro @zU (And.intro @FY (And.intro @xD (And.intro @wG (And.intro @vI (And.intro @wQ (And.intro @xB (And.intro @E9 (And.intro @zy (And.intro @v8 (And.intro @tJ (And.intro @sO (And.intro @Fc (And.intro @zu (And.intro @Br (And.intro @tD (And.intro @uQ (And.intro @rJ (And.intro @wJ (And.intro @pw (And.intro @rK (And.intro @QF (And.intro @QI (And.intro @PG (And.intro @Qy (And.intro @QQ (And.intro @xa (And.intro @wS (And.intro @zK (@zX))))))))))))))))))))))))))))))))))))))))))))))))))))))))))))))))))))))))))))))))))))))))))))))))))))))))))))))))))))))))))))))))))))))):=And.intro @Ey <| And.intro @BN <| And.intro @td <| And.intro @Aa <| And.intro @vT <| And.intro @uh <| And.intro @rj <| And.intro @rF <| And.intro @ry <| And.intro @zE <| And.intro @FI <| And.intro @xH <| And.intro @u5 <| And.intro @oe <| And.intro @pR <| And.intro @oi <| And.intro @wu <| And.intro @Ef <| And.intro @B3 <| And.intro @uU <| And.intro @rY <| And.intro @Fv <| And.intro @rk <| And.intro @pZ <| And.intro @EC <| And.intro @sR <| And.intro @FB <| And.intro @Ac <| And.intro @te <| And.intro @xn <| And.intro @run_seq (And.intro @AI (And.intro @wC (And.intro @A3 (And.intro @uH (And.intro @Av (And.intro @oc (And.intro @AO (And.intro @Ed (And.intro @Ae (And.intro @vV (And.intro @ud (And.intro @rH (And.intro @rr (And.intro @wt (And.intro @BU (And.intro @uB (And.intro @qn (And.intro @uk (And.intro @tU (And.intro @xk (And.intro @rD (And.intro @FF (And.intro @A2 (And.intro @Bg (And.intro @Io (And.intro @KU (And.intro @Lj (And.intro @Ee (And.intro @EG (And.intro @Fj (And.intro @Fb (And.intro @wk (And.intro @wj (And.intro @KR (And.intro @IV (And.intro @Eh (And.intro @vK (And.intro @A8 (And.intro @MS (And.intro @tN (And.intro @rh (And.intro @LH (And.intro @JA (And.intro @DZ (And.intro @xo (And.intro @FW (And.intro @vU (And.intro @Em (And.intro @Jh (And.intro @PS (And.intro @sV (And.intro @Eu (And.intro @A5 (And.intro @Ah (And.intro @Ja (And.intro @zx (And.intro @vH (And.intro @p9 (And.intro @AB (And.intro @o9 (And.intro @zw (And.intro @Au (And.intro @El (And.intro @rZ (And.intro @qj (And.intro @rM (And.intro @zz (And.intro @pX (And.intro @Ay (And.intro @E6 (And.intro @Fl (And.intro @LI (And.intro @wD (And.intro @I1 (And.intro @Lc (And.intro @AP (And.intro @B1 (And.intro @zO (And.intro @A9 (And.intro @AR (And.intro @z6 (And.intro @Bo (And.intro @wI (And.intro @w5 (And.intro @xI (And.intro @B2 (And.intro @xE (And.intro @AU (And.intro @Fa (And.intro @FN (And.intro @tp (And.intro @zL (And.intro @Bd (And.intro @tE (And.intro @uy (And.intro @wB (And.intro @E0 (And.intro @rV (And.intro @wc (And.intro @D5 (And.intro @uo (And.intro @Ea (And.intro @zR (And.intro @D4 (And.intro @zU (And.intro @FY (And.intro @xD (And.intro @wG (And.intro @vI (And.intro @wQ (And.intro @xB (And.intro @E9 (And.intro @zy (And.intro @v8 (And.intro @tJ (And.intro @sO (And.intro @Fc (And.intro @zu (And.intro @Br (And.intro @tD (And.intro @uQ (And.intro @rJ (And.intro @wJ (And.intro @pw (And.intro @rK (And.intro @QF (And.intro @QI (And.intro @PG (And.intro @Qy (And.intro @QQ (And.intro @xa (And.intro @wS (And.intro @zK (@zX))))))))))))))))))))))))))))))))))))))))))))))))))))))))))))))))))))))))))))))))))))))))))))))))))))))))))))))))))))))))))))))))))))))
section
variable {κ:Ctx} {dm:Bool} {P:Program} {all rest:List Oper} {Q:Exit→St→Prop} {d:Option Tmp} {t:List AV} {σ:List Res} {fr:Bool} {df:List Deferred}
theorem LC {ty:TypeId}{ix:List Nat}{xs cs:List AV}{z:Value}{pl:List (Nat × Nat)} (hp:kL P ty=some pl) (hz:dP P ty=some z) (hz1:(rU z).cells.all iL=true) (hb:mH pl (rU z).cells (ix.zip xs)=some cs) (hk:dw κ dm P all Q d rest ⟨t,σ,fr,df⟩ (.agg cs) σ):cu κ dm P all Q d rest ⟨t,σ,fr,df⟩ (.build ty ix) xs :=
 iZ (G1 hp hz hz1 hb iY) hk
theorem GV {ty e n sz:Nat}{ix:List Nat}{xs:List AV}{z:Value} (he:jg P ty=some e) (hs:dj P e=some sz) (hz:dP P e=some z) (hsz:0 < sz) (hn:0 < n) (hsm:n * sz≤16777216) (hix:ix=List.range n) (hlen:xs.length=n)
  (hgood:cY xs=true) (hc:∀ x∈xs,x.cells.length=sz) (hk:dw κ dm P all Q d rest ⟨t,σ,fr,df⟩ (.sl sz none xs) σ):cu κ dm P all Q d rest ⟨t,σ,fr,df⟩ (.bslice ty n ix) xs :=
 iZ (DD he hs hz hsz hn hsm hix hlen hgood hc iY) hk
end
theorem ny {b:Bool}{σ':List Res} (h:b=true):AY (fun r _=>r=.ret (B true)) (.ret (B b)) σ':=⟨[],.ret (B true),⟨[],List.Perm.refl _,List.nil_sublist _⟩,aj (by rw [h]),rfl⟩
theorem aY {κ:Ctx}{P:Program}{fn:Func}{K:Ret→List Res→Prop}{s:St}{l:List ResultVar} (h:nY κ P fn K s l):nY κ P fn K s l:=h
def leS (x y:AV):Prop:=∀ (g:Nat→Nat) (w:World) (v:Value),VR g w x v→VR g w y v
theorem dJ {x y:AV} (h:x.le y):leS x y:=fun _ _ _ hv=>hv.le h
def qp:List AV→List AV→Prop
 | [],[]=>True
 | x::xs,y::ys=>leS x y∧qp xs ys
 | _,_=>False
theorem mZ:∀ {xs ys:List AV},qp xs ys→ys.length=xs.length
 | [],[],_=>rfl
 | _::_,_::_,h=>by simp [mZ h.2]
 | [],_::_,h=>h.elim
 | _::_,[],h=>h.elim
theorem uw:∀ {xs ys:List AV},qp xs ys→∀ (k:Nat) (x y:AV),xs[k]? = some x→ys[k]? = some y→leS x y
 | [],[],_,k,x,y,h,_=>by simp at h
 | _::_,_::_,h,0,x,y,h1,h2=>by simp at h1 h2;subst h1;subst h2;exact h.1
 | _::_,_::_,h,k+1,x,y,h1,h2=>uw h.2 k x y (by simpa using h1) (by simpa using h2)
 | [],_::_,h,_,_,_,_,_=>h.elim
 | _::_,[],h,_,_,_,_,_=>h.elim
theorem TR.leS {g:Nat→Nat}{w:World}{xs ys:List AV}{vs:Array Value} (h:TR g w xs vs) (hl:qp xs ys):TR g w ys vs :=
 ⟨by rw [h.size,mZ hl],fun k y hy=>by
  have hlt:k < xs.length:=by rw [← mZ hl];exact aL hy
  have hx:xs[k]? = some (xs[k]'hlt):=List.getElem?_eq_getElem hlt
  exact uw hl k _ _ hx hy g w _ (h.get k _ hx)⟩
theorem ACallF.argsS {κ:Ctx}{P:Program}{f:FuncId}{xs ys:List AV}{σ:List Res}{K:Ret→List Res→Prop} (hl:qp xs ys) (h:ACallF κ P f ys σ K):ACallF κ P f xs σ K :=
 fun φ g w vs hR hv=>h φ g w vs hR (hv.leS hl)
def UY:List AV→List AV→Prop
 | [],[]=>True
 | x::xs,y::ys=>qp x.cells y.cells∧UY xs ys
 | _,_=>False
theorem FX:∀ {xs ys:List AV},UY xs ys→ys.length=xs.length
 | [],[],_=>rfl
 | _::_,_::_,h=>by simp [FX h.2]
 | [],_::_,h=>h.elim
 | _::_,[],h=>h.elim
theorem xS:∀ {xs ys:List AV},UY xs ys→∀ (k:Nat) (y:AV),ys[k]? = some y→∃ x,xs[k]? = some x∧qp x.cells y.cells
 | [],[],_,k,y,h=>by simp at h
 | x::_,_::_,h,0,y,h2=>by simp at h2;subst h2;exact ⟨x,rfl,h.1⟩
 | _::_,_::_,h,k+1,y,h2=>by
  obtain ⟨x,h3,h4⟩:=xS h.2 k y (by simpa using h2);exact ⟨x,by simpa using h3,h4⟩
 | [],_::_,h,_,_,_=>h.elim
 | _::_,[],h,_,_,_=>h.elim
theorem RN {sz:Nat}{o:Option (Option (Nat × Nat))}{l l':List AV} (h:UY l l'):leS (.sl sz o l) (.sl sz o l'):=by
 intro g w v hv;have hlen:=FX h
 rcases hv.sl_inv with ⟨rfl,_⟩|⟨b,off,cap,rfl,h1,h2,h3,h4,h5,h6,h7⟩
 ·cases l' with
  | nil=>exact hv
  | cons=>exact h.elim
 ·refine VR.sl_mk hlen.symm (by rw [hlen];exact h1) h2 h3 (fun i y hy=>?_) (fun i y k z hy hz=>?_) (by rw [hlen];exact h6) (fun t ht=>by rw [hlen];exact h7 t ht)
  ·obtain ⟨x,hx,hl⟩:=xS h i y hy
   rw [mZ hl];exact h4 i x hx
  ·obtain ⟨x,hx,hl⟩:=xS h i y hy
   have hk:k < x.cells.length:=by rw [← mZ hl];exact aL hz
   have hxk:x.cells[k]? = some (x.cells[k]'hk):=List.getElem?_eq_getElem hk
   obtain ⟨u,a1,a2⟩:=h5 i x k _ hx hxk;exact ⟨u,a1,uw hl k _ _ hxk hz g w u a2⟩
theorem N6 {x y:AV}{xs ys:List AV} (h1:x.cells=[x]) (h2:y.cells=[y]) (h:leS x y) (hr:UY xs ys):UY (x::xs) (y::ys):=⟨by rw [h1,h2];exact ⟨h,trivial⟩,hr⟩
theorem fg {sz:Nat} (h:0 < sz):nilS.le (.sl sz none []):=.inr (.inr (.inr ⟨_,_,rfl,h,rfl⟩))
theorem bq {n:Nat} (h:n≤9223372036854775807):n≤maxLen:=by unfold maxLen;omega
theorem jy {x y:AV} (h:x.le y):zn [x] [y]:=⟨h,trivial⟩
theorem fF {x y x' y':AV} (h:x.le y) (h':x'.le y'):zn [x,x'] [y,y']:=⟨h,h',trivial⟩
theorem an {n:Int} (h:-9223372036854775808≤n) (h2:n≤9223372036854775807):IntKind.i64.wrap n=n:=by
 rw [IntKind.wrap_i64]<;>omega
theorem Pu {m n:Int} (h:-9223372036854775808≤m) (h2:m≤9223372036854775807) (e:n=m):(AV.raw (.int .i64 (IntKind.i64.wrap m))).le (I n):=by
 rw [an h h2,e];exact le_rfl
theorem L6 {m n:Int} (e:n=m):(I m).le (I n):=by
 rw [e];exact le_rfl
variable {P:Program} {κ:Ctx} {σ:List Res} {K:AV→List Res→Prop}
abbrev U8 (n:Int):AV:=.raw (.int .u8 n)
theorem vF {s d e:TypeId}{own:Option (Option (Nat × Nat))}{l:List Int} (hs:jg P s=some e) (he:mo P e=some .u8) (hd:isStr P d=true)
  (hK:K (.raw (.string (strOfNums l))) σ):AAct κ P (.conv s d) [.sl 1 own (l.map U8)] σ K:=by
 intro φ g w vs hR hvs;obtain ⟨v,rfl,hu⟩:=jU hvs;have hsl:=aR hs
 have hint:=iE he
 have hst:=eC hd
 refine ⟨.string (strOfNums l),w,g,_,σ, ?_,hR,GE.refl _ _,.raw _,hK⟩;show (convert s d v).run P w=_
 rcases hu.sl_inv with ⟨h0,⟨ad,cp,rfl,hcp,_⟩,_⟩|⟨b,off,cap,rfl,hcap,hmax,hpos,hc,hel,_⟩
 ·obtain rfl:l=[]:=by simpa using h0
  cases ad with
  | none=>exact run_convert_bytes_nil w s e hsl hint 0 cp d hst
  | some a =>
   rw [run_convert_bytes_string w s d e _ 0 cp hsl hint hst,run_bytesToString w a 0 cp [] (by simp [loadCells,loadCellsFrom])];rfl
 ·rw [List.length_map]
  refine run_convert_bytes_arg w s e hsl hint b off l.length cap l rfl (fun i hi=>?_) d hst;obtain ⟨u,h1,h2⟩:=hel i (U8 (l.getD i 0)) 0 (U8 (l.getD i 0)) (by simp [List.getD_eq_getElem?_getD,hi]) rfl;cases h2.raw_eq
  simpa using h1
abbrev SU (o:Option (Option (Nat × Nat))) (l:List Int):AV:=.sl 1 o (l.map U8)
theorem za {l:List Int}{k:Nat} (h:k < l.length):(l.map U8).getD k .any=U8 (l.getD k 0):=by
 simp [List.getD_eq_getElem?_getD,h]
def aJ (s:ByteArray):List Int:=s.data.toList.map fun b=>(b.toNat:Int)
theorem bJ (s:ByteArray):(aJ s).length=s.size:=by rw [aJ,List.length_map,Array.length_toList];rfl
theorem ei (s:ByteArray):∀ c∈aJ s,0≤c∧c≤255:=by
 intro c hc;simp only [aJ,List.mem_map] at hc;obtain ⟨b,_,rfl⟩:=hc;have:=b.toNat_lt
 omega
theorem Y3 {s:ByteArray}{k:Nat}:(((s.data.toList.getD k 0).toNat:Nat):Int)=(aJ s).getD k 0:=by
 simp only [aJ,List.getD_eq_getElem?_getD,List.getElem?_map];cases s.data.toList[k]?<;>rfl
theorem im (s:ByteArray):strOfNums (aJ s)=s:=by
 apply ByteArray.ext
 apply Array.ext'
 rw [strOfNums_data,aJ,List.map_map]
 conv=>rhs;rw [← List.map_id s.data.toList]
 apply List.map_congr_left
 intro b _;simp
theorem qN {l:List Int} (h:∀ c∈l,0≤c∧c≤255):aJ (strOfNums l)=l:=by
 rw [aJ,strOfNums_data,List.map_map]
 conv=>rhs;rw [← List.map_id l]
 apply List.map_congr_left
 intro c hc;have:=h c hc
 simp only [Function.comp,UInt8.toNat_ofNat',id];omega
theorem vi (a b:List Int):strOfNums a++strOfNums b=strOfNums (a++b):=by
 apply ByteArray.ext
 apply Array.ext'
 rw [ByteArray.data_append,Array.toList_append,strOfNums_data,strOfNums_data,strOfNums_data,List.map_append]
theorem hU (a b:ByteArray):(a.toList == b.toList)=decide (a=b):=by
 rw [Bool.eq_iff_iff,beq_iff_eq,decide_eq_true_eq];refine ⟨fun h=>?_,fun h=>by rw [h]⟩;rw [ByteArray.toList_eq,ByteArray.toList_eq] at h;exact ByteArray.ext (Array.ext' h)
theorem vp {s d e:TypeId}{x:ByteArray} (hs:isStr P s=true) (hd:jg P d=some e) (he:mo P e=some .u8) (hx:x.size≤maxLen)
  (hK:K (SU none (aJ x)) σ):AAct κ P (.conv s d) [.raw (.string x)] σ K:=by
 intro φ g w vs hR hvs;obtain ⟨v,rfl,hu⟩:=jU hvs;cases hu.raw_eq
 have hrun:=run_bytes_of_string (P:=P) w s d e x (eC hs) (aR hd) (iE he)
 have hcap:=grownCap_ge w x.size 0 e
 have hcapm:=grownCap_le_maxLen w x.size 0 e hx
 generalize grownCap w x.size 0 e=c at hrun hcap hcapm;generalize hfz:((bytesRow x c).size,(bytesRow x c).size+1)=fz at hrun;have hRd:Rel κ g (φ++σ) w.drew:=hR.drew _
 have hge0:GE g w g w.drew:=GE.drew _
 have H:=GE.alloc hRd (.cells (bytesRow x c) e fz) x.size
 have hsize:w.drew.heap.size=w.heap.size:=rfl
 refine ⟨_,_,zk g w.heap.size x.size,SU none (aJ x),σ,hrun, ?_,hge0.trans H, ?_,hK⟩
 ·exact hRd.lost H rfl rfl rfl (by simp) (fun b hb=>fp _ _ b hb) (fun b hb=>eR hb)
 ·refine VR.sl_mk (by rw [List.length_map,bJ]) (by rw [List.length_map,bJ];exact hcap) hcapm (by decide) ?_ ?_ ?_ (fun t ht=>by cases ht)
  ·intro i y hy
   rw [List.getElem?_map] at hy;cases h:(aJ x)[i]? with
   | none=>rw [h] at hy;cases hy
   | some z=>rw [h] at hy;cases hy;rfl
  ·intro i y k z hy hz
   rw [List.getElem?_map] at hy;cases h:(aJ x)[i]? with
   | none=>rw [h] at hy;cases hy
   | some n =>
    rw [h] at hy;cases hy;cases k with
    | succ k=>simp [AV.cells] at hz
    | zero =>
     simp [AV.cells] at hz;subst hz;refine ⟨.int .u8 n, ?_,.raw _⟩;have hi:i < x.data.size:=by
      have:=aL h;rw [bJ] at this;exact this
     simp only [World.cell?];rw [show (w.drew.alloc (Obj.cells (bytesRow x c) e fz)).heap[w.heap.size]? = _ from fj w.drew _];simp only [Option.isSome_none,Bool.false_eq_true,if_false,Nat.zero_add,Nat.mul_one,Nat.add_zero,bytesRow];rw [Array.getElem?_append_left (by simpa using hi)];simp only [aJ,List.getElem?_map] at h;simp only [Array.getElem?_map];cases hb:x.data.toList[i]? with
     | none=>rw [hb] at h;cases h
     | some b=>
      rw [hb] at h;simp only [Option.map_some,Option.some.injEq] at h;have:x.data[i]? = some b:=by simpa using hb
      rw [this,← h];rfl
  ·rw [List.length_map,bJ,eL];omega
section
variable {dm:Bool} {all rest:List Oper} {Q:Exit→St→Prop} {d:Option Tmp} {t:List AV} {fr:Bool} {df:List Deferred} {a b:TypeId}
theorem ml {sz:Nat}{o:Option (Option (Nat × Nat))}{l:List AV}:As κ dm P all Q d rest ⟨t,σ,fr,df⟩ a b (.sl sz o l)=cu κ dm P all Q d rest ⟨t,σ,fr,df⟩ (.conv a b) [.sl sz o l]:=rfl
theorem nL {x:ByteArray}:As κ dm P all Q d rest ⟨t,σ,fr,df⟩ a b (.raw (.string x))=cu κ dm P all Q d rest ⟨t,σ,fr,df⟩ (.conv a b) [.raw (.string x)]:=rfl
end
theorem cw {x:AV}:leS x x:=fun _ _ _ h=>h
theorem sd {xs ys:List AV} (h:qp xs ys):leS (.tup xs) (.tup ys):=fun g w v hv=>by
 cases hv with
 | tup vs hs hv =>
  have ht:TR g w xs vs:=⟨hs,hv⟩
  have h2:=ht.leS h
  exact .tup vs h2.size h2.get
theorem sA {xs ys:List AV} (h:qp xs ys):leS (.agg xs) (.agg ys):=fun g w v hv=>by
 cases hv with
 | agg vs hs hv =>
  have ht:TR g w xs vs:=⟨hs,hv⟩
  have h2:=ht.leS h
  exact .agg vs h2.size h2.get
def Zr:Ret→Ret→Prop
 | .ret x,.ret y=>leS x y
 | .pan c,.pan d=>c=d
 | _,_=>False
def IE (K:Ret→List Res→Prop):Ret→List Res→Prop:=fun r σ'=>∃ (ρ:List Res) (r':Ret),Sub ρ σ'∧Zr r r'∧K r' ρ
theorem CW {K:Ret→List Res→Prop}{φ:List Res}{g:Nat→Nat}{w:World}{e:Ending}{w':World} (h:fL κ φ g w (IE K) e w'):fL κ φ g w K e w':=by
 obtain ⟨g',σ',r,h1,h2,h3,ρ,r',⟨σ2,hp,hs⟩,hle,hk⟩:=h;refine ⟨g',ρ,r', ?_,h2, ?_,hk⟩
 ·exact (h1.sub ((List.Sublist.refl φ).append hs)).perm (hp.append_left φ)
 ·cases r with
  | ret x =>
   cases r' with
   | ret y =>
    cases e with
    | returned v=>exact hle _ _ _ h3
    | panicked c=>exact h3.elim
    | _=>exact h3.elim
   | pan d=>exact hle.elim
  | pan c =>
   cases r' with
   | ret y=>exact hle.elim
   | pan d=>cases hle;exact h3
theorem ACallF.dropS {f:FuncId}{args:List AV}{K:Ret→List Res→Prop} (h:ACallF κ P f args σ (IE K)):ACallF κ P f args σ K :=
 fun φ g w vs hR hv=>CallsIn.mono (h φ g w vs hR hv) (fun _ _ hp=>CW hp)
theorem FH {K:Ret→List Res→Prop}{σ σ':List Res}{x y:AV} (hs:Sub σ σ') (h:leS x y) (hK:K (.ret y) σ):IE K (.ret x) σ':=⟨σ,.ret y,hs,h,hK⟩
theorem ResW.of_eq {σ τ:List Res} (h:σ=τ):ResW σ τ:=h ▸ ResW.refl _
theorem iH:qp [] []:=trivial
theorem cC {x y:AV}{xs ys:List AV} (h:leS x y) (h2:qp xs ys):qp (x::xs) (y::ys):=⟨h,h2⟩
/-! ### Where a walk is cut -/
def UW (p:Prop):Prop:=p
section
variable {rd:Option Nat} {Q:Exit→St→Prop} {s:St}
theorem i6 {id:Nat}{ops:Array Oper}{d:Bool}{y:Code} (h:UW (AW κ rd P (.seq (.region id ops d) y) Q s)):AW κ rd P (.seq (.region id ops d) y) Q s:=h
theorem jS {id:Nat}{ops:Array Oper}{d:Bool}{x y:Code} (h:UW (AW κ rd P (.seq (.seq (.region id ops d) x) y) Q s)):AW κ rd P (.seq (.seq (.region id ops d) x) y) Q s:=h
theorem yq {id:Nat}{x y:Code} (h:UW (AW κ rd P (.seq (.block id x) y) Q s)):AW κ rd P (.seq (.block id x) y) Q s:=h
theorem bO {c:Code} (h:UW (AW κ rd P (.loop c) Q s)):AW κ rd P (.loop c) Q s:=h
theorem dq {X:Type} (st:X→St) (C:X→Prop) (μ:X→Nat) {c:Code} (x0:X) (hle0:s.le (st x0)) (hC0:C x0)
  (hround:∀ x,C x→AW κ rd P c (eY (fun s'=>∃ y,s'.le (st y)∧C y∧μ y < μ x) Q) (st x)):UW (AW κ rd P (.loop c) Q s):=NP st C μ x0 hle0 hC0 hround
theorem nW {X:Type} (st:X→St) (C:X→Prop) {x y:Code} (h1:AW κ rd P x (eY (fun s'=>∃ z,s'.le (st z)∧C z) Q) s) (h2:∀ z,C z→AW κ rd P y Q (st z)):UW (AW κ rd P (.seq x y) Q s):=NR st C h1 h2
end
/-! ### A scope through which the run goes straight -/
theorem iF {P:Program}{b:Frame}{a:Act}{k:List Item}{cs:List Frame}{w:World}{c:Code} :
  step P (lone (b.atR a (.code (.scope c)::k)) cs w)=.next (lone (b.atR a (.code c::.inScope c::k)) cs w) :=
 step_lone_go (by simp [stepG,stepG.exec,Frame.atR])
theorem vt {P:Program}{b:Frame}{a:Act}{k:List Item}{cs:List Frame}{w:World}{c:Code} :
  step P (lone (b.atR a (.inScope c::k)) cs w)=.next (lone (b.atR a k) cs w) :=
 step_lone_go (by simp [stepG,stepG.exec,Frame.atR])
def DI (Q:Exit→St→Prop):Exit→St→Prop
 | .goto _,_=>False
 | e,s=>Q e s
section
variable {Q:Exit→St→Prop} {s:St} {rd:Option Nat}
theorem kP:DI Q .ret s=Q .ret s:=rfl
theorem j4 {c:List PanicEntry}:DI Q (.panic c) s=Q (.panic c) s:=rfl
theorem G9 {c:Code}:run κ P rd (.scope c) Q s=AW κ rd P (.scope c) Q s:=rfl
theorem Ab {c:Code} (h:AW κ rd P c (DI Q) s):AW κ rd P (.scope c) Q s:=fun φ g a w hs=>by
 intro b k cs hro hb hr;obtain ⟨e,a₁,w₁,hq,harr⟩:=h φ g a w hs b (.inScope c::k) cs hro hb hr;have h0:(lone (b.atR a (.code (.scope c)::k)) cs w).fenced P (FD rd):=fenced_calm hb hr rfl
 obtain ⟨g',s',hs',hge,hq⟩:=hq;cases e with
 | normal=>exact ⟨.normal,a₁,w₁,⟨g',s',hs',hge,hq⟩,.head h0 iF (StepsIn.trans harr (.one (fenced_calm hb hr rfl) vt))⟩
 | exit id=>exact ⟨.exit id,a₁,w₁,⟨g',s',hs',hge,hq⟩,.of_steps (.one h0 iF) ⟨fun k' hk=>harr.1 k' (by simpa [exitTo] using hk),fun hr hk=>harr.2 hr (by simpa [exitTo] using hk)⟩⟩
 | goto l=>exact hq.elim
 | ret=>exact ⟨.ret,a₁,w₁,⟨g',s',hs',hge,hq⟩,.of_steps (.one h0 iF) harr⟩
 | panic ch=>exact ⟨.panic ch,a₁,w₁,⟨g',s',hs',hge,hq⟩,.of_steps (.one h0 iF) harr⟩
 | outgrown=>exact ⟨.outgrown,a₁,w₁,⟨g',s',hs',hge,hq⟩,.of_steps (.one h0 iF) harr⟩
end
/-! ### The greater and the smaller of two numbers -/
theorem Ld {ts:Array TypeId}{t:TypeId}{k:IntKind}{a b:Int} (hK:K (.raw (.int k (max a b))) σ):AAct κ P (.minmax true ts t) [.raw (.int k a),.raw (.int k b)] σ K:=by
 intro φ g w vs hR hvs;obtain ⟨v,u,rfl,hv,hu⟩:=dA hvs;cases hv.raw_eq
 cases hu.raw_eq
 have e:(if b > a then b else a)=max a b:=by split<;>omega
 refine ⟨_,w,g,_,σ, ?_,hR,GE.refl _ _,.raw _,hK⟩;show (Builtin.max_ ts t #[.int k a,.int k b]).run P w=_
 rw [← e];simp [Builtin.max_,Builtin.max2]
theorem K7 {ts:Array TypeId}{t:TypeId}{k:IntKind}{a b:Int} (hK:K (.raw (.int k (min a b))) σ):AAct κ P (.minmax false ts t) [.raw (.int k a),.raw (.int k b)] σ K:=by
 intro φ g w vs hR hvs;obtain ⟨v,u,rfl,hv,hu⟩:=dA hvs;cases hv.raw_eq
 cases hu.raw_eq
 have e:(if b < a then b else a)=min a b:=by split<;>omega
 refine ⟨_,w,g,_,σ, ?_,hR,GE.refl _ _,.raw _,hK⟩;show (Builtin.min_ ts t #[.int k a,.int k b]).run P w=_
 rw [← e];simp [Builtin.min_,Builtin.min2]
section
variable {fn:Func} {t:List AV} {fr:Bool} {df:List Deferred} {K:Ret→List Res→Prop}
theorem TR.three {g:Nat→Nat}{w:World}{x y z:AV}{v u r:Value} (h:VR g w x v) (h2:VR g w y u) (h3:VR g w z r):TR g w [x,y,z] #[v,u,r]:=by
 have:=TR.cons (vs:=[u,r]) h (TR.cons (vs:=[r]) h2 (TR.cons (vs:=[]) h3 TR.nil))
 exact this
theorem pb {a b c:Tmp}{ty:TypeId}{x:AV} (hf:fn.results = #[.cell a ty,.tmp b,.tmp c]) (h:gM P κ σ ty (t.getD a .any) x) (hK:K (.ret (.tup [x,t.getD b .any,t.getD c .any])) σ):nY κ P fn K ⟨t,σ,fr,df⟩ [.cell a ty,.tmp b,.tmp c]:=by
 intro φ g w tmps hR ht;obtain ⟨p,u,h1,h2,h3⟩:=h φ g w _ hR (Jq ht a);have h1':tmps[a]?.getD undef=.pointer (some p):=by simpa using h1
 have h4:=TR.three h3 (Jq ht b) (Jq ht c)
 exact ⟨.tuple #[u,tmps.getD b undef,tmps.getD c undef],_,by simp [results,hf,h1',asAddr,h2],.tup _ h4.size h4.get,hK⟩
end
section
variable {rd:Option Nat} {Q:Exit→St→Prop} {s:St}
theorem aB {id:Nat}{ops:Array Oper} (h:run κ P rd (.region id ops false) Q s):AW κ rd P (.region id ops false) Q s:=oW h
theorem aw {c:Operand}{x y:Code} (h:run κ P rd (.cond c x y) Q s):AW κ rd P (.cond c x y) Q s:=oW h
theorem DR {id:Nat} (h:run κ P rd (.exit id) Q s):AW κ rd P (.exit id) Q s:=oW h
theorem aO (h:run κ P rd .ret Q s):AW κ rd P .ret Q s:=oW h
end
open Go.RowKit
def kD (c:Int):Bool:=decide (c=9∨c=10∨c=13∨c=133∨(32≤c∧c≤126)∨(160≤c∧c≤55295)∨(57344≤c∧c≤65533)∨(65536≤c∧c≤1114111))
def blankI (c:Int):Bool:=decide (c=32∨c=9)
abbrev SI (o:Option (Option (Nat × Nat))) (l:List Int):AV:=.sl 1 o (l.map I)
theorem bL {l:List Int}{k:Nat} (h:k < l.length):(l.map I).getD k .any=I (l.getD k 0):=by
 simp [List.getD_eq_getElem?_getD,h]
theorem PZ (l:List Int):cY (l.map I)=true:=by
 unfold cY;rw [List.all_map,List.all_eq_true];intro x _;rfl
theorem yf {α:Type}{p:α→Bool}{d:α}:∀ {l:List α}{k:Nat},k≤(l.takeWhile p).length→k < l.length→p (l.getD k d)=true→k+1≤(l.takeWhile p).length
 | [],_,_,h,_=>by simp at h
 | x::l,0,_,_,h=>by
  have:p x=true:=by simpa using h
  simp [List.takeWhile_cons,this]
 | x::l,k+1,h,h1,h2=>by
  by_cases e:p x=true
  ·simp only [List.takeWhile_cons,e,if_true,List.length_cons] at h ⊢
   have:=yf (p:=p) (d:=d) (l:=l) (k:=k) (by omega) (by simpa using h1) (by simpa using h2)
   omega
  ·simp [List.takeWhile_cons,e] at h
theorem y9 {α:Type}{p:α→Bool}{d:α}:∀ {l:List α}{k:Nat},k≤(l.takeWhile p).length→k < l.length→p (l.getD k d)=false→k=(l.takeWhile p).length
 | [],_,_,h,_=>by simp at h
 | x::l,0,_,_,h=>by
  have:p x=false:=by simpa using h
  simp [List.takeWhile_cons,this]
 | x::l,k+1,h,h1,h2=>by
  by_cases e:p x=true
  ·simp only [List.takeWhile_cons,e,if_true,List.length_cons] at h ⊢
   have:=y9 (p:=p) (d:=d) (l:=l) (k:=k) (by omega) (by simpa using h1) (by simpa using h2)
   omega
  ·simp [List.takeWhile_cons,e] at h
theorem TH {α:Type}{p:α→Bool}{l:List α}{k:Nat} (h:k≤(l.takeWhile p).length) (h1:l.length≤k):k=(l.takeWhile p).length:=by
 have:=(List.takeWhile_prefix p (l:=l)).length_le
 omega
theorem kr {K:Ret→List Res→Prop}{σ σ':List Res}{b b':AV} (hs:Sub σ σ') (h:b=b') (hK:K (.ret b') σ):WY K (.ret b) σ':=⟨σ,hs,h ▸ hK⟩
def dW (l:List Int):Bool:=l.all blankI || (l.dropWhile blankI).getD 0 0 == 35
def aZ (n:Int) (t:List Int):Int:=if n=0∧3≤t.length∧t.getD 0 0=t.getD 1 0∧t.getD 1 0=t.getD 2 0∧(3 < t.length→blankI (t.getD 3 0)=true) then (if t.getD 0 0=45 then 1 else if t.getD 0 0=46 then 2 else 0) else 0
theorem zM {n:Int}{t:List Int} (hb:blankI (t.getD 3 0)=false) (h:3 < t.length):aZ n t=0:=by
 unfold aZ;rw [if_neg];rintro ⟨_,_,_,_,h5⟩;rw [h5 h] at hb;cases hb
theorem EJ {p:Int→Bool}:∀ {l:List Int},0 < l.length→p (l.getD 0 0)=true→l.dropWhile p=(l.drop 1).dropWhile p
 | [],h,_=>by simp at h
 | x::l,_,h=>by
  have:p x=true:=by simpa using h
  simp [List.dropWhile_cons,this]
theorem Fo {p:Int→Bool}:∀ {l:List Int},0 < l.length→p (l.getD 0 0)=false→l.dropWhile p=l
 | [],h,_=>by simp at h
 | x::l,_,h=>by
  have:p x=false:=by simpa using h
  simp [List.dropWhile_cons,this]
theorem qQ {p:Int→Bool}:∀ {l:List Int},((l.dropWhile p).length=0)=(l.all p=true)
 | []=>by simp
 | x::l=>by
  by_cases e:p x=true
  ·simp only [List.dropWhile_cons,e,if_true,List.all_cons,Bool.true_and];exact qQ
  ·simp [List.dropWhile_cons,e]
theorem Qm {p:Int→Bool}:∀ {l:List Int},l.drop (l.takeWhile p).length=l.dropWhile p
 | []=>by simp
 | x::l=>by
  by_cases e:p x=true
  ·simp only [List.takeWhile_cons,e,if_true,List.length_cons,List.dropWhile_cons,List.drop_succ_cons];exact Qm
  ·simp [List.takeWhile_cons,List.dropWhile_cons,e]
theorem PM {n:Nat}:((n:Int)+1).toNat=n+1:=by omega
theorem tn2 {n:Nat}:((n:Int)+2).toNat=n+2:=by omega
theorem rE {n:Int}{l:List Int} (h:dW l=true):aZ n l=0:=by
 unfold aZ;split
 case isFalse=>rfl
 case isTrue hh =>
  obtain ⟨_,h3,h01,h12,_⟩:=hh;cases l with
  | nil=>simp at h3
  | cons c r =>
   simp only [List.getD_cons_zero] at h01 ⊢;by_cases hb:blankI c=true
   ·simp [blankI] at hb
    rw [if_neg (by omega),if_neg (by omega)]
   ·simp [dW,hb,List.dropWhile_cons] at h
    rw [if_neg (by omega),if_neg (by omega)]
def pP (a b:Int):Int:=IntKind.i64.wrap ((BitVec.ofInt 64 a &&& BitVec.ofInt 64 b).toNat:Nat)
def XD (a b:Int):Int:=IntKind.i64.wrap ((BitVec.ofInt 64 a ||| BitVec.ofInt 64 b).toNat:Nat)
theorem AL {a b:Int}:IntKind.i64.wrap ((BitVec.ofInt IntKind.i64.bits a &&& BitVec.ofInt IntKind.i64.bits b).toNat:Nat)=pP a b:=rfl
theorem Om {a:Int}{m:Nat} (hm:m < 9223372036854775808):0≤pP a m∧pP a m≤m:=by
 unfold pP;have h1:(BitVec.ofInt 64 a &&& BitVec.ofInt 64 (m:Int)).toNat≤m:=by
  rw [BitVec.toNat_and];refine Nat.le_trans Nat.and_le_right ?_;have:(BitVec.ofInt 64 (m:Int)).toNat=m:=by
   rw [BitVec.toNat_ofInt];have:((m:Int) % ((2 ^ 64:Nat):Int)).toNat=m:=by omega
   exact this
  omega
 rw [an (by omega) (by omega)];omega
theorem iQ {a:Int} (k:Nat) (hk:k < 63):pP a ((2 ^ k - 1:Nat):Int)=a % (2 ^ k:Nat):=by
 have hp:2 ^ k < 9223372036854775808:=by
  have:=Nat.pow_lt_pow_right (a:=2) (by decide) hk
  simpa using this
 have hb:=Om (a:=a) (m:=2 ^ k - 1) (by omega)
 unfold pP at *;have h0:(BitVec.ofInt 64 ((2 ^ k - 1:Nat):Int)).toNat=2 ^ k - 1:=by
  rw [BitVec.toNat_ofInt];have h2:2 ^ k - 1 < 2 ^ 64:=by omega
  have:(((2 ^ k - 1:Nat):Int) % ((2 ^ 64:Nat):Int)).toNat=2 ^ k - 1:=by omega
  exact this
 have h1:(BitVec.ofInt 64 a &&& BitVec.ofInt 64 ((2 ^ k - 1:Nat):Int)).toNat=(a % ((2 ^ 64:Nat):Int)).toNat % 2 ^ k:=by
  rw [BitVec.toNat_and,h0,BitVec.toNat_ofInt,Nat.and_two_pow_sub_one_eq_mod]
 rw [h1];have h3:(a % ((2 ^ 64:Nat):Int)).toNat % 2 ^ k < 2 ^ k:=Nat.mod_lt _ (by omega)
 rw [an (by omega) (by omega)];have h4:(((a % ((2 ^ 64:Nat):Int)).toNat % 2 ^ k:Nat):Int)=(a % ((2 ^ 64:Nat):Int)) % ((2 ^ k:Nat):Int):=by
  rw [Int.natCast_emod,Int.toNat_of_nonneg (by omega)]
 rw [h4];refine Int.emod_emod_of_dvd a ?_;refine Int.natCast_dvd_natCast.2 (Nat.pow_dvd_pow 2 (by omega))
theorem Th {a:Int}:pP a 3=a % 4:=iQ (a:=a) 2 (by decide)
theorem VL {a:Int}:pP a 7=a % 8:=iQ (a:=a) 3 (by decide)
theorem Qv {a:Int}:pP a 15=a % 16:=iQ (a:=a) 4 (by decide)
theorem Qz {a:Int}:pP a 31=a % 32:=iQ (a:=a) 5 (by decide)
theorem Xv {a:Int}:pP a 63=a % 64:=iQ (a:=a) 6 (by decide)
theorem WE {a b:Int} (h:0≤b) (h2:b < 64):Ow .shr .u64 a b=some (.int .u64 (a / 2 ^ b.toNat)):=by
 have e:min b.toNat IntKind.u64.bits=b.toNat:=by show min b.toNat 64=_;omega
 simp only [Ow,e];rw [if_neg (by omega),Int.fdiv_eq_ediv_of_nonneg _ (Int.pow_nonneg (by decide))]
theorem p7 {n:Int} (h:0≤n) (h2:n≤18446744073709551615):IntKind.u64.wrap n=n:=by
 show n % (2 ^ 64:Int)=n
 omega
def SO (a b:Int):Int:=IntKind.u64.wrap ((BitVec.ofInt 64 a &&& BitVec.ofInt 64 b).toNat:Nat)
theorem GA {a b:Int}:IntKind.u64.wrap ((BitVec.ofInt IntKind.u64.bits a &&& BitVec.ofInt IntKind.u64.bits b).toNat:Nat)=SO a b:=rfl
theorem Um {a:Int} (h:0≤a) (h2:a≤4294967295):SO a 4294967295=a:=by
 obtain ⟨n,rfl⟩:=Int.eq_ofNat_of_zero_le h;unfold SO;have e1:(BitVec.ofInt 64 (n:Int)).toNat=n:=by
  rw [BitVec.toNat_ofInt];have:((n:Int) % ((2 ^ 64:Nat):Int)).toNat=n:=by omega
  exact this
 have e2:(BitVec.ofInt 64 (4294967295:Int)).toNat=2 ^ 32 - 1:=rfl
 have e:(BitVec.ofInt 64 (n:Int) &&& BitVec.ofInt 64 (4294967295:Int)).toNat=n:=by
  rw [BitVec.toNat_and,e1,e2,Nat.and_two_pow_sub_one_eq_mod];omega
 rw [e];exact p7 (by omega) (by omega)
theorem X8 {a b:Int} (h:0≤a) (h2:a < b):a / b=0:=Int.ediv_eq_zero_of_lt h h2
end Go.Abs
