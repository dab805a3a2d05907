/-
  Texts Mt, Mu, Mv, Mw, Mx, one behind the other.
-/
import Derived.Test.YthkabaiamcjdbaaGreatG3
import Derived.Laws.MakeOwn
import Derived.Laws.CopyRow
import Derived.Laws.BytesArg
import Derived.Laws.IdiomStrings
set_option linter.unusedVariables false
set_option linter.unusedSimpArgs false
set_option maxHeartbeats 16000000
/-
 The abstract layer,part t: a range over a function,by what is yielded.
-/

namespace Go.Abs
open Go.RowKit
section
variable {κ:Ctx} {P:Program} {rd:Option Nat}
theorem j9 {τ σ:List Res}{r:Res} (h:Sub (r::τ) σ):∃ j,σ[j]? = some r∧∀ r',Sub (r'::τ) (σ.set j r'):=by
 obtain ⟨ρ,p,q⟩:=h
 have hm:r∈ρ:=p.mem_iff.2 (by simp)
 obtain ⟨k,hk⟩:=List.mem_iff_getElem?.1 hm
 have key:∀ {ρ σ:List Res},ρ.Sublist σ→∀ k,ρ[k]? = some r→∃ j,σ[j]? = some r∧∀ r',(ρ.set k r').Sublist (σ.set j r'):=by
  intro ρ σ h
  induction h with
  | slnil=>intro k hk;simp at hk
  | cons a h ih =>
   intro k hk
   obtain ⟨j,h1,h2⟩:=ih k hk
   exact ⟨j+1,by simpa using h1,fun r'=>by simpa using (h2 r').cons a⟩
  | cons_cons a h ih =>
   intro k hk
   cases k with
   | zero=>exact ⟨0,by simpa using hk,fun r'=>by simpa using h.cons_cons r'⟩
   | succ k =>
    obtain ⟨j,h1,h2⟩:=ih k (by simpa using hk)
    exact ⟨j+1,by simpa using h1,fun r'=>by simpa using (h2 r').cons_cons a⟩
 obtain ⟨j,h1,h2⟩:=key q k hk
 refine ⟨j,h1,fun r'=>⟨ρ.set k r', ?_,h2 r'⟩⟩
 have p2:(r::ρ.eraseIdx k).Perm (r::τ):=(fk hk).symm.trans p
 exact (gj hk).symm.trans ((p2.cons_inv).cons r')
def me (r:Res) (σ τ:List Res):Prop:=∃ τ0,Sub (r::τ0) σ∧ResW τ0 τ
theorem gS {r:Res}{τ:List Res}:me r (r::τ) τ:=⟨τ,ah,ResW.refl τ⟩
theorem oY {r x:Res}{σ τ:List Res} (h:ResW (x::σ) τ):me r (x::r::σ) τ:=by
 refine ⟨x::σ, ?_,h⟩
 exact ⟨x::r::σ,List.Perm.swap _ _ _,List.Sublist.refl _⟩
theorem KS {r:Res}{σ τ:List Res} (h:ResW σ τ):me r (r::σ) τ:=⟨σ,ah,h⟩
def Gw (l:Nat) (d:Nat × Nat) (r:Res):Prop:=∃ st pend t ps as bd,r=.loop l st pend t ps as bd d
def Dp (Q:Exit→St→Prop) (t:List AV) (fr:Bool) (df:List Deferred) (Rb:Res) (Inv:List Res→Prop):Exit→St→Prop
 | .normal,s=>∃ τ,me Rb s.σ τ∧Inv τ
 | .ret,s=>∃ τ,me Rb s.σ τ∧Q .ret ⟨t,τ,fr,df⟩
 | .exit id,s=>∃ τ,me Rb s.σ τ∧Q (.exit id) ⟨t,τ,fr,df⟩
 | _,_=>False
def OF (κ:Ctx) (P:Program) (Q:Exit→St→Prop) (t:List AV) (fr:Bool) (df:List Deferred) (l:Nat) (body:Code) (Rr Rb:Res) (Inv:List Res→Prop) (s1:St):Prop :=
 ∃ j,s1.σ[j]? = some Rr∧run κ P (some l) body (Dp Q t fr df Rb Inv) ⟨s1.t,s1.σ.set j Rb,s1.fr,s1.df⟩
theorem qB {Q:Exit→St→Prop}{t:List AV}{fr fr':Bool}{df df':List Deferred}{l:Nat}{body:Code}{Rr Rb:Res}{Inv:List Res→Prop}{t':List AV}{τ:List Res} (h:run κ P (some l) body (Dp Q t fr df Rb Inv) ⟨t',Rb::τ,fr',df'⟩) :
  OF κ P Q t fr df l body Rr Rb Inv ⟨t',Rr::τ,fr',df'⟩:=⟨0,rfl,h⟩
theorem sf {Q:Exit→St→Prop}{t:List AV}{fr:Bool}{df:List Deferred}{Rb:Res}{Inv:List Res→Prop}{s:St}:Dp Q t fr df Rb Inv .normal s = ∃ τ,me Rb s.σ τ∧Inv τ:=rfl
theorem BI {Q:Exit→St→Prop}{t:List AV}{fr:Bool}{df:List Deferred}{Rb:Res}{Inv:List Res→Prop}{s:St}:Dp Q t fr df Rb Inv .ret s = ∃ τ,me Rb s.σ τ∧Q .ret ⟨t,τ,fr,df⟩:=rfl
theorem zn {Q:Exit→St→Prop}{t:List AV}{fr:Bool}{df:List Deferred}{Rb:Res}{Inv:List Res→Prop}{s:St}{id:Nat}:Dp Q t fr df Rb Inv (.exit id) s = ∃ τ,me Rb s.σ τ∧Q (.exit id) ⟨t,τ,fr,df⟩:=rfl
def QL (κ:Ctx) (P:Program) (Q:Exit→St→Prop) (t:List AV) (fr:Bool) (df:List Deferred) (ps:Array Tmp) (assign body:Code) (Inv:List (List AV)→List Res→Prop) (d:Nat × Nat):Prop :=
 ∀ (l:Nat) (Rr Rb:Res),Gw l d Rb→∀ x xs τ,Inv (x::xs) τ→ps.size=x.length∧run κ P (some l) assign (eN (OF κ P Q t fr df l body Rr Rb (Inv xs)) (fun _ _=>False)) ⟨ik t ps.toList x,Rr::τ,true,[]⟩
theorem D1 {Q:Exit→St→Prop}{s0:St}{l:Nat}{ps:Array Tmp}{assign body:Code}{d:Nat × Nat}{Inv:List (List AV)→List Res→Prop}{x:List AV}{xs:List (List AV)}{τ:List Res} (hps:ps.size=x.length)
  (h:run κ P (some l) assign (eN (OF κ P Q s0.t (rd.isSome && s0.fr) s0.df l body (.loop l .ready none s0.t ps assign body d) (.loop l .busy none s0.t ps assign body d) (Inv xs)) (fun _ _=>False)) ⟨ik s0.t ps.toList x,.loop l .ready none s0.t ps assign body d::τ,true,[]⟩) :
  ACallY κ P l x (.loop l .ready none s0.t ps assign body d::τ) (YK (fun σ'=>∃ τ',σ'=.loop l .ready none s0.t ps assign body d::τ'∧Inv xs τ') (vu κ P rd Q s0 l ps assign body d)):=by
 refine ACallY.dropW (zV (Dp Q s0.t (rd.isSome && s0.fr) s0.df (.loop l .busy none s0.t ps assign body d) (Inv xs)) ?_ 0 rfl hps h)
 intro e s hq
 cases e with
 | normal =>
  obtain ⟨τ',⟨τ0,hs,hw⟩,hi⟩:=hq
  obtain ⟨j,h1,h2⟩:=j9 hs
  exact ⟨j,h1,_,(iS (h2 _)).trans (hw.cons _),τ',rfl,hi⟩
 | ret =>
  obtain ⟨τ',⟨τ0,hs,hw⟩,hi⟩:=hq
  obtain ⟨j,h1,h2⟩:=j9 hs
  exact ⟨j,h1,_,(iS (h2 _)).trans (hw.cons _),0,_,_,rfl,by simp,hi⟩
 | exit id =>
  obtain ⟨τ',⟨τ0,hs,hw⟩,hi⟩:=hq
  obtain ⟨j,h1,h2⟩:=j9 hs
  exact ⟨j,h1,_,(iS (h2 _)).trans (hw.cons _),0,_,_,rfl,by simp,hi⟩
 | goto id=>exact hq.elim
 | panic c=>exact hq.elim
 | outgrown=>exact hq.elim
theorem nv {Q:Exit→St→Prop}{t:List AV}{σ:List Res}{fr:Bool}{df:List Deferred}{f:Operand}{ps:Array Tmp}{assign body:Code} (gf:FuncId) (first cap:List Value) (xs:List (List AV)) (ρ τ:List Res) (Inv:List (List AV)→List Res→Prop)
  (hf:(⟨t,σ,fr,df⟩:St).ev f=.raw (.func (.func gf) first.toArray cap.toArray)) (hok:au P gf=True) (hσ:ResW σ (ρ++τ))
  (hiter:∀ (L:Nat) (K:Ret→List Res→Prop) (σ':List Res),Iter κ P L K xs σ'→ACallF κ P gf (first.map .raw++[.raw (.func (.yield L) #[] #[])]++cap.map .raw) (ρ++σ') K)
  (h0:Inv xs τ)
  (hend:∀ τ,Inv [] τ→Q .normal ⟨t,τ,false,df⟩)
  (hround:∀ d,QL κ P Q t false df ps assign body Inv d) :
  AW κ none P (.rangeFunc f ps assign body) Q ⟨t,σ,fr,df⟩:=by
 refine Io hf (hok ▸ trivial) (fun l d=>?_)
 have hp:ResW (Res.loop l .ready none t ps assign body d::σ) (ρ++(Res.loop l .ready none t ps assign body d::τ)):=((hσ.cons _).trans (ResW.perm List.perm_middle.symm))
 refine ACallF.weak hp ?_
 have e1:(first.toArray.toList.map AV.raw++[.raw (.func (.yield l) #[] #[])]++cap.toArray.toList.map AV.raw)=(first.map .raw++[.raw (.func (.yield l) #[] #[])]++cap.map .raw):=by simp
 rw [e1]
 refine hiter l _ _ (Bs (fun xs σ'=>∃ τ',σ'=.loop l .ready none t ps assign body d::τ'∧Inv xs τ') ?_ ?_ xs _ ⟨τ,rfl,h0⟩)
 ·rintro _ ⟨τ',rfl,hi⟩
  exact ⟨0,_,_,rfl,by simp,hend τ' hi⟩
 ·rintro x xs _ ⟨τ',rfl,hi⟩
  obtain ⟨h1,h2⟩:=hround d l _ (.loop l .busy none t ps assign body d) ⟨_,_,_,_,_,_,rfl⟩ x xs τ' hi
  exact D1 (rd:=none) (s0:=⟨t,σ,fr,df⟩) h1 h2
end
section
variable {κ:Ctx} {P:Program} {σ:List Res} {K:AV→List Res→Prop}
abbrev bM (b o n c:Nat):AV:=.raw (.slice (some ⟨b,o,none⟩) n c)
theorem TR.replicate {g:Nat→Nat}{w:World}{x:AV}{v:Value} (h:VR g w x v) (n:Nat):TR g w (List.replicate n x) (Array.replicate n v) :=
 ⟨by simp,fun k y hk=>by
  rw [List.getElem?_replicate] at hk
  split at hk
  ·rename_i hlt
   cases hk
   have:(Array.replicate n v).getD k undef=v:=by simp [Array.getD_eq_getD_getElem?,hlt]
   rw [this];exact h
  ·cases hk⟩
theorem tv {z:Value} (h:z.oneCell'=true) (n:Nat):madeCells z.cells n=Array.replicate n z:=by
 rw [pf h]
 refine Array.ext (by simp [madeCells]) (fun i h1 h2=>?_)
 simp [madeCells,Nat.mod_one]
theorem uc {t e:TypeId}{z:Value}{by_ n:Nat} (he:g9 P t=some e) (hs:c9 P e=some 1) (hb:ln P e=some by_) (hz:dW P e=some z) (hz1:z.oneCell'=true) (hz2:gR (pE z)=true) (hn:n≤1000000000) (hby:by_≤1000)
  (hK:∀ b,K (bM b 0 n n) (.obj b (List.replicate n (pE z))::σ)):AAct κ P (.mkslice t) [I n,I n] σ K:=by
 intro φ g w vs hR hv
 obtain ⟨v,u,rfl,hv1,hv2⟩:=dZ hv
 cases hv1.raw_eq
 cases hv2.raw_eq
 obtain ⟨inf,hi,hisz,hiby,hizr⟩:∃ inf,P.info? e=some inf∧inf.size=1∧inf.bytes=by_∧inf.zero=some z:=by
  unfold c9 ln dW at *
  cases hi:P.info? e with
  | none=>simp [hi] at hs
  | some inf=>exact ⟨inf,rfl,by simpa [hi] using hs,by simpa [hi] using hb,by simpa [hi] using hz⟩
 have hbn:(inf.bytes:Int) * (n:Int)≤281474976710656:=by
  rw [hiby]
  have h1:by_ * n≤1000 * 1000000000:=Nat.mul_le_mul hby hn
  have h2:((by_ * n:Nat):Int)≤281474976710656:=by omega
  rwa [Int.natCast_mul] at h2
 have hrun:=run_make (P:=P) w t e inf z (aM he) hi hizr .i64 .i64 n n (Int.natCast_nonneg _) (Int.le_refl _) hbn (by omega)
 simp only [Int.toNat_natCast,hisz,Nat.mul_one,tv hz1] at hrun
 obtain ⟨a1,a2⟩:=hR.new_obj e (TR.replicate (g:=g) (w:=w) (lT z) n)
 exact ⟨_,_,g,_,_,hrun,a1.perm List.perm_middle.symm,a2,.raw _,hK _⟩
def lay (cs:List AV) (o:Nat) (xs:List AV):List AV:=cs.take o++xs++cs.drop (o+xs.length)
theorem TR.of_get {g:Nat→Nat}{w:World}{xs:List AV}{us:List Value} (hl:us.length=xs.length) (h:∀ (k:Nat) (x:AV),xs[k]? = some x→∃ u,us[k]? = some u∧VR g w x u):TR g w xs us.toArray :=
 ⟨by simpa using hl,fun k x hk=>by
  obtain ⟨u,h1,h2⟩:=h k x hk
  have:us.toArray.getD k undef=u:=by simp [Array.getD_eq_getD_getElem?,h1]
  rw [this];exact h2⟩
theorem TR.get' {g:Nat→Nat}{w:World}{xs:List AV}{us:List Value} (h:TR g w xs us.toArray) (k:Nat) (x:AV) (hk:xs[k]? = some x):∃ u,us[k]? = some u∧VR g w x u:=by
 have h1:=h.get k x hk
 have hlt:k < us.length:=by have:=h.size;simp at this;rw [this];exact aK hk
 refine ⟨us[k],List.getElem?_eq_getElem hlt, ?_⟩
 have h2:us.toArray.getD k undef=us[k]:=by
  have:us[k]? = some us[k]:=List.getElem?_eq_getElem hlt
  simp [Array.getD_eq_getD_getElem?,this]
 rw [h2] at h1;exact h1
theorem TR.lay {g:Nat→Nat}{w:World}{cs xs:List AV}{cur us:List Value}{o:Nat} (hc:TR g w cs cur.toArray) (hx:TR g w xs us.toArray):TR g w (Go.Abs.lay cs o xs) (cur.take o++us++cur.drop (o+us.length)).toArray:=by
 have e1:cur.length=cs.length:=by have:=hc.size;simpa using this
 have e2:us.length=xs.length:=by have:=hx.size;simpa using this
 unfold Go.Abs.lay
 have t1:TR g w (cs.take o) (cur.take o).toArray:=TR.of_get (by simp [e1]) (fun k x hk=>by
  rw [List.getElem?_take] at hk ⊢
  split at hk
  ·rename_i hlt;rw [if_pos hlt];exact hc.get' k x hk
  ·cases hk)
 have t2:TR g w (cs.drop (o+xs.length)) (cur.drop (o+us.length)).toArray:=TR.of_get (by simp [e1,e2]) (fun k x hk=>by
  rw [List.getElem?_drop] at hk ⊢
  rw [e2];exact hc.get' _ x hk)
 have:=(t1.append hx).append t2
 simpa using this
theorem setRow_other (w:World) (b c:Nat) (cs:Array Value) (h:c≠b):(w.setRow b cs).heap[c]? = w.heap[c]?:=by
 simp only [World.setRow,Array.getElem?_modify]
 rw [if_neg (fun e=>h e.symm)]
theorem xf {φ:List Res}{g:Nat→Nat}{w:World}{b i:Nat}{cs cs':List AV}{cur':Array Value} (hR:Rel κ g (φ++σ) w) (h:σ[i]? = some (.obj b cs)) {cur:Array Value}{ty:TypeId} (hh:w.heap[b]? = some (.cells cur ty (0,0))) (hsz:cur'.size=cur.size) (ht:TR g w cs' cur') :
  Rel κ g (φ++σ.set i (.obj b cs')) (w.setRow b cur')∧GE g w g (w.setRow b cur'):=by
 obtain ⟨h0,_⟩:=hR.holds _ (cK h)
 have hge:GE g w g (w.setRow b cur'):=by
  refine ⟨by simp [World.setRow],fun _=>Nat.le_refl _,fun c o ho=>?_,fun c=>?_⟩
  ·have hc:c≠b:=fun e=>by subst e;rw [h0] at ho;omega
   simp only [World.cell?];rw [setRow_other w b c cur' hc]
  ·by_cases e:c=b
   ·subst e
    simp only [bf];rw [setRow_heap w c cur cur' ty _ hh,hh];simp [hsz]
   ·simp only [bf];rw [setRow_other w b c cur' e];exact Nat.le_refl _
 refine ⟨?_,hge⟩
 have hR':=hR.perm (eW (φ:=φ) (fk h))
 have hR2:Rel κ g (.obj b cs'::(φ++σ.eraseIdx i)) (w.setRow b cur') :=
  hR'.change hge rfl rfl rfl (by simp [World.setRow]) (fun c hc=>setRow_other w b c cur' hc) (fun _ _=>rfl) rfl rfl ⟨h0,cur',ty,setRow_heap w b cur cur' ty _ hh,ht.mono hge⟩
 exact hR2.perm (List.perm_middle.symm.trans ((gj h).append_left φ))
theorem oc {ts:Array TypeId}{t e ty:TypeId}{own:Option (Option (Nat × Nat))}{l:List AV}{b o dl dc:Nat}{cs:List AV} (i:Nat) (h:σ[i]? = some (.obj b cs)) (hts:ts = #[t,t]) (he:g9 P t=some e) (hs:c9 P e=some 1) (hgood:cV l=true) (hfit:o+min l.length dl≤cs.length)
  (hK:K (I (min l.length dl:Nat)) (σ.set i (.obj b (lay cs o ((l.take dl).flatMap AV.cells))))):AAct κ P (.copy ts ty) [bM b o dl dc,.sl 1 own l] σ K:=by
 intro φ g w vs hR hvs
 subst hts
 obtain ⟨v,u,rfl,hv,hu⟩:=dZ hvs
 cases hv.raw_eq
 have ht:=aM he
 obtain ⟨h0,cur,ety,hh,hcs⟩:=hR.holds _ (cK h)
 have hinf:(P.info? e).map (·.size)=some 1:=hs
 have hcl:∀ x∈l,x.cells.length=1→True:=fun _ _ _=>trivial
 rcases hu.sl_inv with ⟨rfl,⟨ad,cp,rfl,hcp,_⟩,_⟩|⟨b',off',cap',rfl,hcap,hmax,hpos,hel,_⟩
 ·have hrow:Rel κ g (φ++σ.set i (.obj b cs)) w:=by
   have e:σ.set i (.obj b cs)=σ:=by
    apply List.ext_getElem?
    intro m
    rw [List.getElem?_set]
    split
    ·rename_i e;subst e;split
     ·rw [h]
     ·rename_i hlt;exact (hlt (aK h)).elim
    ·rfl
   rw [e];exact hR
  refine ⟨goInt 0,w,g,I 0,_, ?_,hrow,GE.refl _ _,.raw _,by simpa [lay] using hK⟩
  cases hq:P.info? e with
  | none=>simp [hq] at hinf
  | some inf =>
   have hi1:inf.size=1:=by simpa [hq] using hinf
   cases ad with
   | none =>
    have:=hcp rfl;subst this
    simp [MA.sem,nth,Builtin.copy_,bu ht,Builtin.lenOf,Builtin.firstCells,sizeOf,typeInfo,hq,storeCells]
   | some ad =>
    simp [MA.sem,nth,Builtin.copy_,bu ht,Builtin.lenOf,Builtin.firstCells,sizeOf,typeInfo,hq,storeCells,loadCells,loadCellsFrom]
 ·obtain ⟨us,hf,hus⟩:=hu.flat
  have husl:us.length=l.length:=by have:=hf.len;omega
  have h1:=hf.one hgood
  let m:=min l.length dl
  have hmlen:(us.take m).length=m:=by rw [List.length_take,husl];omega
  have hrun:=run_copy_row (P:=P) w t t ty e b o dl dc ⟨b',off',none⟩ l.length cap' cur ety (us.take m) ht hinf hh (by rw [hmlen]) (fun j v hj=>by
   have hlt:=aK hj
   rw [hmlen] at hlt
   rw [List.getElem?_take_of_lt hlt] at hj
   rw [Addr.add_lit];exact hus j v hj) (by rw [hmlen,hcs.size];exact hfit) (fun v hv=>h1 v (List.mem_of_mem_take hv))
  have hx:TR g w ((l.take dl).flatMap AV.cells) (us.take m).toArray:=by
   have hflat:∀ (l:List AV),(∀ x∈l,x.cells.length=1)→∀ k:Nat,(l.flatMap AV.cells)[k]? = (l[k]?).bind fun x:AV=>x.cells[0]?:=by
    intro l
    induction l with
    | nil=>intro _ k;simp
    | cons x l ih =>
     intro hl k
     have hx1:=hl x (by simp)
     match hxc:x.cells,hx1 with
     | [y],_ =>
      cases k with
      | zero=>simp [hxc]
      | succ k =>
       simp only [List.flatMap_cons,hxc,List.cons_append,List.nil_append,List.getElem?_cons_succ]
       exact ih (fun z hz=>hl z (by simp [hz])) k
   have hl1:∀ x∈l.take dl,x.cells.length=1:=fun x hx=>by
    obtain ⟨j,hj⟩:=List.mem_iff_getElem?.1 (List.mem_of_mem_take hx)
    exact hel j x hj
   have hlen:∀ (l:List AV),(∀ x∈l,x.cells.length=1)→(l.flatMap AV.cells).length=l.length:=by
    intro l
    induction l with
    | nil=>intro _;rfl
    | cons x l ih=>intro hl;simp only [List.flatMap_cons,List.length_append,hl x (by simp),ih (fun z hz=>hl z (by simp [hz])),List.length_cons];omega
   refine TR.of_get (by rw [hmlen,hlen _ hl1];simp;omega) (fun k x hk=>?_)
   have hlt:=aK hk
   rw [hlen _ hl1] at hlt
   rw [hflat _ hl1] at hk
   have hkm:k < m:=by simp at hlt;omega
   rw [List.getElem?_take_of_lt (by simp at hlt;omega)] at hk
   cases hy:l[k]? with
   | none=>simp [hy] at hk
   | some y =>
    simp [hy] at hk
    obtain ⟨u,h2,h3⟩:=hf.cell k y 0 x hy hk
    refine ⟨u, ?_,h3⟩
    rw [List.getElem?_take_of_lt hkm]
    simpa using h2
  have hcur:TR g w cs cur.toList.toArray:=by simpa using hcs
  have hlay:=TR.lay (o:=o) hcur hx
  obtain ⟨r1,r2⟩:=xf hR h (cur':=(cur.toList.take o++us.take m++cur.toList.drop (o+(us.take m).length)).toArray) hh (by
   have:o+m≤cur.size:=by rw [hcs.size];exact hfit
   simp [husl];omega) hlay
  refine ⟨_,_,g,I (min l.length dl:Nat),_,hrun,r1,r2, ?_,hK⟩
  rw [hmlen];exact .raw _
theorem ti {ts:Array TypeId}{t e ty:TypeId}{b o dl dc m mc:Nat}{cs:List AV} (i:Nat) (h:σ[i]? = some (.obj b cs)) (hts:ts = #[t,t]) (he:g9 P t=some e) (hs:c9 P e=some 1) (hgood:cs.all gR=true) (hm:m≤cs.length) (hfit:o+min m dl≤cs.length)
  (hK:K (I (min m dl:Nat)) (σ.set i (.obj b (lay cs o (cs.take (min m dl)))))):AAct κ P (.copy ts ty) [bM b o dl dc,bM b 0 m mc] σ K:=by
 intro φ g w vs hR hvs
 subst hts
 obtain ⟨v,u,rfl,hv,hu⟩:=dZ hvs
 cases hv.raw_eq
 cases hu.raw_eq
 have ht:=aM he
 obtain ⟨h0,cur,ety,hh,hcs⟩:=hR.holds _ (cK h)
 have hinf:(P.info? e).map (·.size)=some 1:=hs
 have hcsz:=hcs.size
 have hlen:(cur.toList.take (min m dl)).length=min m dl:=by rw [List.length_take,Array.length_toList];omega
 have hcur:TR g w cs cur.toList.toArray:=by simpa using hcs
 have hone:∀ v∈cur.toList,v.oneCell'=true:=fun v hv=>by
  obtain ⟨j,hj⟩:=List.mem_iff_getElem?.1 hv
  have hlt:=aK hj
  simp at hlt
  have hc:cs[j]? = some (cs[j]'(by omega)):=List.getElem?_eq_getElem _
  obtain ⟨u,h1,h2⟩:=hcur.get' j _ hc
  rw [hj] at h1;cases h1
  exact l7 h2 (List.all_eq_true.1 hgood _ (List.getElem_mem _))
 have hrun:=run_copy_row (P:=P) w t t ty e b o dl dc ⟨b,0,none⟩ m mc cur ety (cur.toList.take (min m dl)) ht hinf hh (by rw [hlen]) (fun j v hj=>by
  have hlt:=aK hj
  rw [hlen] at hlt
  rw [List.getElem?_take_of_lt hlt] at hj
  have:j < cur.size:=by omega
  simp [Addr.add_lit,World.cell?,hh]
  simpa using hj) (by rw [hlen,hcsz];exact hfit) (fun v hv=>hone v (List.mem_of_mem_take hv))
 have hx:TR g w (cs.take (min m dl)) (cur.toList.take (min m dl)).toArray:=TR.of_get (by simp [hcsz]) (fun k x hk=>by
  rw [List.getElem?_take] at hk ⊢
  split at hk
  ·rename_i hlt;rw [if_pos hlt];exact hcur.get' k x hk
  ·cases hk)
 have hlay:=TR.lay (o:=o) hcur hx
 obtain ⟨r1,r2⟩:=xf hR h (cur':=(cur.toList.take o++cur.toList.take (min m dl)++cur.toList.drop (o+(cur.toList.take (min m dl)).length)).toArray) hh (by simp;omega) hlay
 refine ⟨_,_,g,I (min m dl:Nat),_,hrun,r1,r2, ?_,hK⟩
 rw [hlen];exact .raw _
theorem vY {t e:TypeId}{b o n c a:Nat} (he:g9 P t=some e) (hs:c9 P e=some 1) (ha:a < n) (hc:n≤c) (hK:K (bM b (o+a) (n - a) (c - a)) σ):AAct κ P (.slice t true false false) [bM b o n c,I a,.any,.any] σ K:=by
 intro φ g w vs hR hv
 have h1:=hv.size
 match vs,h1 with
 | [v,u,x,y],_ =>
  have hv0:=hv.get 0 _ rfl
  have hv1:=hv.get 1 _ rfl
  simp at hv0 hv1
  cases hv0.raw_eq
  cases hv1.raw_eq
  have hl:OptR g w (some (I a)) (some (.int .i64 a)):=VR.raw _
  have hh:OptR g w none none:=trivial
  have hsb:=cB (P:=P) (w:=w) (g:=g) (isS:=true) (len:=n) (cap:=c) hl hh rfl rfl (Int.natCast_nonneg _) (by omega) (by omega)
  simp only [Int.toNat_natCast] at hsb
  refine ⟨.slice (some ⟨b,o+a,none⟩) (n - a) (c - a),w,g,_,σ, ?_,hR,GE.refl _ _,.raw _,hK⟩
  have hne:¬c=a:=by omega
  simp [MA.sem,nth,Instr.sliceAt,bu (aM he),Instr.slice,hsb,dy hs,Addr.add_lit,hne]
theorem wj {t e:TypeId}{b o n c a:Nat} (he:g9 P t=some e) (hs:c9 P e=some 1) (ha:a≤n) (hc:n≤c) (h0:0 < c) (hK:K (bM b o a c) σ):AAct κ P (.slice t false true false) [bM b o n c,.any,I a,.any] σ K:=by
 intro φ g w vs hR hv
 have h1:=hv.size
 match vs,h1 with
 | [v,u,x,y],_ =>
  have hv0:=hv.get 0 _ rfl
  have hv1:=hv.get 2 _ rfl
  simp at hv0 hv1
  cases hv0.raw_eq
  cases hv1.raw_eq
  have hl:OptR g w none none:=trivial
  have hh:OptR g w (some (I a)) (some (.int .i64 a)):=VR.raw _
  have hsb:=cB (P:=P) (w:=w) (g:=g) (isS:=true) (len:=n) (cap:=c) hl hh rfl rfl (Int.le_refl _) (Int.natCast_nonneg _) (by omega)
  simp only [Int.toNat_natCast,Int.toNat_zero] at hsb
  refine ⟨.slice (some ⟨b,o,none⟩) a c,w,g,_,σ, ?_,hR,GE.refl _ _,.raw _,hK⟩
  have hne:¬c=0:=by omega
  simp [MA.sem,nth,Instr.sliceAt,bu (aM he),Instr.slice,hsb,dy hs,Addr.add_lit,hne]
end
/-! ### A row that is done -/
section
variable {κ:Ctx} {P:Program} {σ:List Res} {K:Ret→List Res→Prop}
def B8 (K:Ret→List Res→Prop):Ret→List Res→Prop:=fun r σ'=>K r σ'∨∃ b cs ρ,r=.ret (bM b 0 cs.length cs.length)∧ResW σ' (.obj b cs::ρ)∧(∀ x∈cs,x.cells=[x])∧cs.length≤maxLen∧K (.ret (.sl 1 (some (some (b,cs.length))) cs)) (.tip (some (b,cs.length))::ρ)
theorem zb {φ:List Res}{g:Nat→Nat}{w:World}{e:Ending}{w':World} (h:eE κ φ g w (B8 K) e w'):eE κ φ g w K e w':=by
 obtain ⟨g',σ',r,h1,h2,h3,h4⟩:=h
 rcases h4 with h4|⟨b,cs,ρ,rfl,hw,hc1,hmax,hk⟩
 ·exact ⟨g',σ',r,h1,h2,h3,h4⟩
 ·have hR:=(hw κ φ g' w' h1).perm List.perm_middle
  obtain ⟨h0,arr,ty,hh,hcs⟩:=hR.holds _ (List.mem_cons_self ..)
  have hge:GE g' w' (wU g' b cs.length) w':=by
   refine ⟨Nat.le_refl _,fun c=>?_,fun _ _ _=>rfl,fun _=>Nat.le_refl _⟩
   by_cases ec:c=b
   ·subst ec;rw [h0];exact Nat.zero_le _
   ·rw [eA ec];exact Nat.le_refl _
  have hR2:Rel κ (wU g' b cs.length) (.tip (some (b,cs.length))::(φ++ρ)) w' :=
   hR.change hge rfl rfl rfl rfl (fun _ _=>rfl) (fun c hc=>eA hc) rfl rfl ⟨ez _ _ _,arr,ty,hh⟩
  have hsz:=hcs.size
  refine ⟨_,.tip (some (b,cs.length))::ρ,_,hR2.perm List.perm_middle.symm,h2.trans hge, ?_,hk⟩
  cases e with
  | returned v =>
   have:=VR.raw_eq h3
   subst this
   refine VR.sl_mk rfl (Nat.le_refl _) hmax (by decide) (fun i x hi=>by rw [hc1 x (List.mem_of_getElem? hi)];rfl) (fun i x k y hi hk=>?_) (by simp [ez]) (fun t ht=>?_)
   ·rw [hc1 x (List.mem_of_getElem? hi)] at hk
    have hk0:k=0:=by have:=aK hk;simp at this;omega
    subst hk0
    simp at hk;subst hk
    have hg:=hcs.get i x hi
    have hil:i < arr.size:=by rw [hsz];exact aK hi
    refine ⟨arr.getD i undef, ?_,hg.mono hge⟩
    simp [World.cell?,hh,hil]
   ·cases ht
    refine ⟨by simp, ?_⟩
    simp [bf,hh,hsz]
  | panicked c=>exact h3.elim
  | outgrown=>exact h3.elim
theorem ACallF.freeze {f:FuncId}{args:List AV} (h:ACallF κ P f args σ (B8 K)):ACallF κ P f args σ K :=
 fun φ g w vs hR hv=>CallsIn.mono (h φ g w vs hR hv) fun _ _=>zb
end
section
variable {κ:Ctx} {P:Program} {rd:Option Nat}
def Qq (t':List AV) (σ:List Res) (e:Exit) (s:St):Prop:=e=.normal∧s.t=t'∧s.σ=σ
theorem bU {t:List AV}{σ:List Res}{fr:Bool}{df:List Deferred}:Qq t σ .normal ⟨t,σ,fr,df⟩:=⟨rfl,rfl,rfl⟩
theorem Dk {all:List Oper}{o:Oper}{s:St}{X Y X' Y':Prop} (h:c8 all o s X Y) (hX:X→X') (hY:Y→Y'):c8 all o s X' Y':=by
 unfold c8 at h ⊢
 split at h
 ·exact hX h
 ·split at h
  ·split at h
   ·exact ⟨fun e=>hX (h.1 e),fun e=>hY (h.2 e)⟩
   ·exact hY h
   ·exact h.elim
  ·exact h.elim
theorem tI {all:List Oper}{o:Oper}{k:Tmp} (h:Operand.tmp k∈o.op.operands.toList):k∈o.looksAt all.toArray:=by
 unfold Oper.looksAt
 exact List.mem_append.2 (.inl (List.mem_filterMap.2 ⟨.tmp k,h,rfl⟩))
theorem ly {all:List Oper}{o:Oper}{j:Nat}{want:Bool}{k:Tmp} (h:o.guard=some (j,want)) (hk:(all[j]?).bind (·.dst)=some k):k∈o.looksAt all.toArray:=by
 unfold Oper.looksAt
 refine List.mem_append.2 (.inr ?_)
 rw [h]
 have:(all.toArray[j]?).bind (·.dst)=some k:=by simpa using hk
 show k∈((all.toArray[j]?).bind (·.dst)).toList
 rw [this]
 simp
theorem iq {a b:List AV}{k:Nat} (h:a[k]? = b[k]?):a.getD k .any=b.getD k .any:=by simp [List.getD_eq_getElem?_getD,h]
theorem jw {all:List Oper}{o:Oper}{t t2:List AV}{σ:List Res}{fr:Bool}{df:List Deferred} (h:∀ k∈o.looksAt all.toArray,t[k]? = t2[k]?):∀ x∈o.op.operands.toList,St.ev ⟨t,σ,fr,df⟩ x=St.ev ⟨t2,σ,fr,df⟩ x:=by
 intro x hx
 cases x with
 | tmp k=>exact iq (h k (tI hx))
 | _=>rfl
def nI (κ:Ctx) (P:Program) (all:List Oper) (t:List AV) (σ:List Res) (fr:Bool) (df:List Deferred) (o:Oper):Prop :=
 ∃ x,c8 all o ⟨t,σ,fr,df⟩ (∀ (K':AV→List Res→Prop) (KP':List PanicEntry→List Res→Prop),K' x σ→eL κ false P o ⟨t,σ,fr,df⟩ K' KP') (x=U)∧bJ t o.dst x=t
theorem Dw {all:List Oper}{o:Oper}{t:List AV}{σ:List Res}{fr:Bool}{df:List Deferred} (h:nI κ P all t σ fr df o):bn κ false P all (isF t σ fr df) [o] ⟨t,σ,fr,df⟩:=by
 obtain ⟨x,h1,h2⟩:=h
 simp only [bn]
 refine Dk h1 (fun hr=>hr _ _ ⟨rfl,by rw [h2]⟩) (fun hu=>?_)
 subst hu
 exact ⟨rfl,by rw [h2]⟩
theorem Ea {t t2:List AV}{d:Tmp}{x:AV} (hlen:t2.length=t.length) (ho:t[d]? = t2[d]?) (h:bJ t (some d) x=t):bJ t2 (some d) x=t2:=by
 refine List.ext_getElem? (fun k=>?_)
 by_cases e:d=k
 ·subst e
  have h1:=congrArg (fun l:List AV=>l[d]?) h
  simp only [bJ,List.getElem?_set,if_true] at h1 ⊢
  rw [hlen,← ho];exact h1
 ·exact d7 (by simp [e])
theorem ri {all:List Oper}{o:Oper}{d:Tmp}{t t2:List AV}{σ:List Res}{fr:Bool}{df:List Deferred} (hd:o.dst=some d) (hlen:t2.length=t.length) (hl:∀ k∈o.looksAt all.toArray,t[k]? = t2[k]?) (ho:t[d]? = t2[d]?)
  (h:nI κ P all t σ fr df o):nI κ P all t2 σ fr df o:=by
 obtain ⟨x,h1,h2⟩:=h
 refine ⟨x,gi (s:=⟨t,σ,fr,df⟩) (fun j want k hg hk=>iq (hl k (ly hg hk))) (fun hr K' KP' hk=>iJ (s:=⟨t,σ,fr,df⟩) rfl (jw hl) (hr K' KP' hk)) h1, ?_⟩
 rw [hd] at h2 ⊢
 exact Ea hlen ho h2
theorem zI {all A:List Oper}{t t':List AV}{σ:List Res}{fr:Bool}{df:List Deferred} (hd:∀ (i:Nat) (o:Oper),A[i]? = some o→∃ d,o.dst=some d) (huniq:∀ (i j:Nat) (o o':Oper),A[i]? = some o→A[j]? = some o'→o.dst=o'.dst→i=j)
  (hlook:∀ (i j:Nat) (o o':Oper) (k:Tmp),A[i]? = some o→A[j]? = some o'→k∈o.looksAt all.toArray→o'.dst=some k→j < i) (h:bn κ true P all (Qq t' σ) A ⟨t,σ,fr,df⟩) :
  t'.length=t.length∧(∀ (k:Nat),(∀ (i:Nat) (o:Oper),A[i]? = some o→o.dst≠some k)→t'[k]? = t[k]?)∧∀ (i:Nat) (o:Oper),A[i]? = some o→nI κ P all t' σ fr df o:=by
 obtain ⟨ts,e1,e2,e3⟩:=wo (Q:=Qq t' σ) (fun c s hc=>by cases hc.1) A ⟨t,σ,fr,df⟩ h
 have et:ts A.length=t':=e2.2.1
 simp only at e1 e3
 have tlen:∀ i,i≤A.length→(ts i).length=t.length:=by
  intro i
  induction i with
  | zero=>intro _;rw [e1]
  | succ i ih =>
   intro hi
   obtain ⟨x,hx,_⟩:=e3 i _ (List.getElem?_eq_getElem (by omega))
   rw [hx,dV,ih (by omega)]
 have keep:∀ n i,i+n≤A.length→∀ k,(∀ j o,i≤j→j < i+n→A[j]? = some o→o.dst≠some k)→(ts (i+n))[k]? = (ts i)[k]?:=by
  intro n
  induction n with
  | zero=>intro i _ k _;rfl
  | succ n ih =>
   intro i hi k hk
   have hg:A[i+n]? = some (A[i+n]'(by omega)):=List.getElem?_eq_getElem _
   obtain ⟨x,hx,_⟩:=e3 (i+n) _ hg
   have:=d7 (t:=ts (i+n)) (x:=x) (hk (i+n) _ (by omega) (by omega) hg)
   rw [← Nat.add_assoc,hx,this]
   exact ih i (by omega) k (fun j o h1 h2=>hk j o h1 (by omega))
 have keepF:∀ i,i≤A.length→∀ k,(∀ j o,i≤j→A[j]? = some o→o.dst≠some k)→t'[k]? = (ts i)[k]?:=by
  intro i hi k hk
  have:=keep (A.length - i) i (by omega) k (fun j o h1 h2=>hk j o h1)
  rw [show i+(A.length - i)=A.length by omega,et] at this
  exact this
 refine ⟨by rw [← et];exact tlen _ (Nat.le_refl _),fun k hk=>?_,fun i o hi=>?_⟩
 ·have:=keepF 0 (Nat.zero_le _) k (fun j o _ ho=>hk j o ho)
  rw [this,e1]
 ·obtain ⟨x,hx,hg⟩:=e3 i o hi
  obtain ⟨d,hdd⟩:=hd i o hi
  have hiA:=aK hi
  have look:∀ k∈o.looksAt all.toArray,(ts i)[k]? = t'[k]?:=fun k hk=>by
   refine (keepF i (by omega) k (fun j o' h1 ho' hd'=>?_)).symm
   have:=hlook i j o o' k hi ho' hk hd'
   omega
  refine ⟨x,gi (s:=⟨ts i,σ,fr,df⟩) (fun j want k hg hk=>iq (look k (ly hg hk))) (fun hr K' KP' hk=>iJ (s:=⟨ts i,σ,fr,df⟩) rfl (jw look) (hr K' KP' hk)) hg, ?_⟩
  have h1:t'[d]? = (ts (i+1))[d]?:=keepF (i+1) (by omega) d (fun j o' h1 ho' hd'=>by
   have:=huniq i j o o' hi ho' (by rw [hdd,hd'])
   omega)
  rw [hx,hdd] at h1
  rw [hdd]
  refine List.ext_getElem? (fun k=>?_)
  by_cases e:d=k
  ·subst e
   rw [h1]
   simp only [bJ,List.getElem?_set,if_true]
   rw [show t'.length=t.length by rw [← et];exact tlen _ (Nat.le_refl _),tlen i (by omega)]
  ·exact d7 (by simp [e])
abbrev Ph:=List (List Nat × Option Nat)
def dD:Ph→List Nat:=fun ps=>ps.flatMap fun p=>p.1++p.2.toList
def vS:Ph→List Nat:=fun ps=>ps.flatMap fun p=>p.2.toList
def cx (c:Option Nat) (r:Ph):List Nat:=match c with|none=>[]|some e=>e::dD r
def NC (l:List Oper) (e:Nat) (r:List Nat):Bool:=r.all fun i=>match l[i]? with|some o=>(kH l l.length (bL o)).contains e|none=>false
def eM (l:List Oper):Ph→Bool
 | []=>true
 | (_,none)::r=>r.isEmpty
 | (_,some e)::r=>NC l e (dD r) && eM l r
def yQ (l:List Oper) (ps:Ph):Bool :=
 let q:=dD ps
 (List.range l.length).all (fun i=>q.contains i) && q.all (fun i=>decide (i < l.length)) && decide q.Nodup &&
 q.zipIdx.all (fun (i,k)=>match l[i]? with|some o=>(bL o).all (fun j=>(q.take k).contains j && decide (j < i)) && (o.looksAt l.toArray).all (fun t=>l.zipIdx.all (fun (o',j)=>o'.dst != some t || (bL o).contains j || ((vS ps).contains j && (kH l l.length (bL o')).contains i)))|none=>false) &&
 ps.all (fun p=>p.1.all fun i=>match l[i]? with|some o=>o.dst.isSome|none=>false) &&
 l.zipIdx.all (fun (o,i)=>l.zipIdx.all (fun (o',j)=>i == j || o.dst.isNone || o.dst != o'.dst)) &&
 eM l ps
def pick (l:List Oper) (A:List Nat):List Oper:=A.filterMap fun i=>l[i]?
def wD (κ:Ctx) (P:Program) (l:List Oper) (F:List Res→Prop) (fr:Bool) (df:List Deferred) (A:List Nat) (t t':List AV):Prop :=
 ∀ σ,F σ→bn κ true P l (Qq t' σ) (pick l A) ⟨t,σ,fr,df⟩
def IY (κ:Ctx) (P:Program) (l:List Oper) (F:List Res→Prop) (fr:Bool) (df:List Deferred) (Q:Exit→St→Prop):Option Nat→Ph→List AV→List Res→Prop
 | none,_,t,σ=>Q .normal ⟨t,σ,fr,df⟩
 | some e,r,t,σ=>∃ o,l[e]? = some o∧o.guard=none∧eL κ false P o ⟨t,σ,fr,df⟩ (fun x σ'=>F σ'∧(match r with
   | []=>Q .normal ⟨bJ t o.dst x,σ',fr,df⟩
   | (A,c)::r'=>∃ t',wD κ P l F fr df A (bJ t o.dst x) t'∧IY κ P l F fr df Q c r' t' σ')) (fun pc σ'=>∀ t',Q (.panic pc) ⟨t',σ',fr,df⟩)
theorem rT {l:List Oper}{F:List Res→Prop}{fr:Bool}{df:List Deferred}{Q:Exit→St→Prop}{r:Ph}{t:List AV}{σ:List Res}:IY κ P l F fr df Q none r t σ=Q .normal ⟨t,σ,fr,df⟩:=by
 cases r<;>rfl
def P4 (κ:Ctx) (P:Program) (l:List Oper) (F:List Res→Prop) (fr:Bool) (df:List Deferred) (Q:Exit→St→Prop) (r:Ph) (t:List AV) (σ:List Res):Prop :=
 match r with
 | []=>Q .normal ⟨t,σ,fr,df⟩
 | (A,c)::r'=>∃ t',wD κ P l F fr df A t t'∧IY κ P l F fr df Q c r' t' σ
theorem E8 {l:List Oper}{F:List Res→Prop}{fr:Bool}{df:List Deferred}{Q:Exit→St→Prop}{e:Nat}{r:Ph}{t:List AV}{σ:List Res} (h:IY κ P l F fr df Q (some e) r t σ):∃ o,l[e]? = some o∧o.guard=none∧eL κ false P o ⟨t,σ,fr,df⟩ (fun x σ'=>F σ'∧P4 κ P l F fr df Q r (bJ t o.dst x) σ') (fun pc σ'=>∀ t',Q (.panic pc) ⟨t',σ',fr,df⟩):=by
 cases r with
 | nil=>exact h
 | cons p r=>exact h
theorem l5:∀ {l:List Nat},l.Nodup→∀ {a b x:Nat},l[a]? = some x→l[b]? = some x→a=b
 | [],_,a,_,_,ha,_=>by simp at ha
 | y::l,h,a,b,x,ha,hb=>by
  obtain ⟨h1,h2⟩:=List.nodup_cons.1 h
  cases a with
  | zero =>
   cases b with
   | zero=>rfl
   | succ b =>
    simp at ha hb
    subst ha
    exact (h1 (List.mem_of_getElem? hb)).elim
  | succ a =>
   cases b with
   | zero =>
    simp at ha hb
    subst hb
    exact (h1 (List.mem_of_getElem? ha)).elim
   | succ b =>
    simp at ha hb
    rw [l5 h2 ha hb]
theorem QD {id:Nat}{l:List Oper}{Q:Exit→St→Prop}{t0:List AV}{σ0:List Res}{fr:Bool}{df:List Deferred} (A0:List Nat) (c0:Option Nat) (r0:Ph) (F:List Res→Prop) (hF0:F σ0) (hm:P.follows .mixedOrders=true) (hok:yQ l ((A0,c0)::r0)=true)
  (h:∃ t',wD κ P l F fr df A0 t0 t'∧IY κ P l F fr df Q c0 r0 t' σ0):AW κ rd P (.region id l.toArray true) Q ⟨t0,σ0,fr,df⟩:=by
 unfold yQ at hok
 simp only [Bool.and_eq_true,decide_eq_true_eq] at hok
 obtain ⟨⟨⟨⟨⟨⟨k1,k2⟩,k3⟩,k4⟩,k5⟩,k6⟩,k7⟩:=hok
 generalize hq:dD ((A0,c0)::r0)=q at *
 generalize hef:vS ((A0,c0)::r0)=ef at *
 have qlt:∀ i∈q,i < l.length:=fun i hi=>by simpa using List.all_eq_true.1 k2 i hi
 have qall:∀ i,i < l.length→i∈q:=fun i hi=>by
  have:=List.all_eq_true.1 k1 i (List.mem_range.2 hi)
  simpa using this
 have qpre:∀ (k i:Nat) (o:Oper),q[k]? = some i→l[i]? = some o→(∀ j∈bL o,j∈q.take k∧j < i)∧∀ s∈o.looksAt l.toArray,∀ (j:Nat) (o':Oper),l[j]? = some o'→o'.dst=some s→j∈bL o∨(j∈ef∧i∈kH l l.length (bL o')):=by
  intro k i o hk ho
  have h1:=List.all_eq_true.1 k4 (i,k) (List.mem_iff_getElem?.2 ⟨k,by simp [List.getElem?_zipIdx,hk]⟩)
  simp only [ho,Bool.and_eq_true] at h1
  refine ⟨fun j hj=>?_,fun s hs j o' ho' hd=>?_⟩
  ·have:=List.all_eq_true.1 h1.1 j hj
   simpa using this
  ·have h2:=List.all_eq_true.1 h1.2 s hs
   have:=List.all_eq_true.1 h2 (o',j) (List.mem_iff_getElem?.2 ⟨j,by simp [List.getElem?_zipIdx,ho']⟩)
   simp only [hd,bne_self_eq_false,Bool.false_or,Bool.or_eq_true,Bool.and_eq_true,List.contains_iff_mem] at this
   exact this
 have huniq:∀ (i j:Nat) (o o':Oper) (d:Tmp),l[i]? = some o→l[j]? = some o'→o.dst=some d→o'.dst=some d→i=j:=by
  intro i j o o' d ho ho' hd hd'
  have h1:=List.all_eq_true.1 k6 (o,i) (List.mem_iff_getElem?.2 ⟨i,by simp [List.getElem?_zipIdx,ho]⟩)
  have h2:=List.all_eq_true.1 h1 (o',j) (List.mem_iff_getElem?.2 ⟨j,by simp [List.getElem?_zipIdx,ho']⟩)
  simpa [hd,hd'] using h2
 have hlt:∀ (i:Nat) (o:Oper),l[i]? = some o→∀ j∈bL o,j < i:=by
  intro i o ho j hj
  obtain ⟨k,hk⟩:=List.mem_iff_getElem?.1 (qall i (aK ho))
  exact ((qpre k i o hk ho).1 j hj).2
 have hsee:∀ (i:Nat) (o:Oper),l[i]? = some o→∀ s∈o.looksAt l.toArray,∀ (j:Nat) (o':Oper),l[j]? = some o'→o'.dst=some s→j∈bL o∨(j∈ef∧i∈kH l l.length (bL o')):=by
  intro i o ho
  obtain ⟨k,hk⟩:=List.mem_iff_getElem?.1 (qall i (aK ho))
  exact (qpre k i o hk ho).2
 have hdis:∀ (m i j:Nat) (o:Oper),i∈q→i ∉ q.drop m→l[i]? = some o→j∈bL o→j ∉ q.drop m:=by
  intro m i j o hi hn ho hj hjd
  obtain ⟨k,hk⟩:=List.mem_iff_getElem?.1 hi
  have hkm:k < m:=by
   refine Classical.byContradiction fun hc=>hn ?_
   exact List.mem_iff_getElem?.2 ⟨k - m,by rw [List.getElem?_drop,show m+(k - m)=k by omega];exact hk⟩
  obtain ⟨h1,_⟩:=(qpre k i o hk ho).1 j hj
  obtain ⟨a,ha⟩:=List.mem_iff_getElem?.1 h1
  have hak:=aK ha
  rw [List.length_take] at hak
  rw [List.getElem?_take_of_lt (by omega)] at ha
  obtain ⟨b,hb⟩:=List.mem_iff_getElem?.1 hjd
  rw [List.getElem?_drop] at hb
  have h4:=l5 k3 ha hb
  omega
 have hquiet:∀ (m:Nat) (A rest:List Nat) (t t':List AV),q.drop m=A++rest→(∀ i∈A,∃ o d,l[i]? = some o∧o.dst=some d)→(∀ i∈A,i ∉ ef)→wD κ P l F fr df A t t'→F σ0 →
   t'.length=t.length∧(∀ (k:Nat),(∀ (i:Nat) (o:Oper),i∈A→l[i]? = some o→o.dst≠some k)→t'[k]? = t[k]?)∧∀ (i:Nat) (o:Oper),i∈A→l[i]? = some o→∀ σ',F σ'→nI κ P l t' σ' fr df o:=by
  intro m A rest t t' hA hds hAe hqu hFs
  have hpick:∀ (A:List Nat),(∀ i∈A,∃ o d,l[i]? = some o∧o.dst=some d)→(pick l A).length=A.length∧∀ (k i:Nat),A[k]? = some i→(pick l A)[k]? = l[i]?:=by
   intro A
   induction A with
   | nil=>intro _;exact ⟨rfl,fun k i hk=>by simp at hk⟩
   | cons x A ih =>
    intro hA
    obtain ⟨o,d,ho,hd⟩:=hA x (by simp)
    obtain ⟨i1,i2⟩:=ih (fun i hi=>hA i (by simp [hi]))
    have e:pick l (x::A)=o::pick l A:=by simp [pick,ho]
    rw [e]
    refine ⟨by simp [i1],fun k i hk=>?_⟩
    cases k with
    | zero=>simp at hk;subst hk;simpa using ho.symm
    | succ k=>simp at hk;simpa using i2 k i hk
  obtain ⟨plen,pget⟩:=hpick A hds
  have pinv:∀ (k:Nat) (o:Oper),(pick l A)[k]? = some o→∃ i,A[k]? = some i∧l[i]? = some o:=by
   intro k o hk
   have hkl:=aK hk
   rw [plen] at hkl
   have h1:A[k]? = some (A[k]'hkl):=List.getElem?_eq_getElem hkl
   exact ⟨_,h1,by rw [← pget k _ h1];exact hk⟩
  have hAq:∀ (k i:Nat),A[k]? = some i→q[m+k]? = some i:=by
   intro k i hk
   have:(q.drop m)[k]? = some i:=by rw [hA,List.getElem?_append_left (aK hk)];exact hk
   rwa [List.getElem?_drop] at this
  have hnd:∀ (k k' i:Nat),A[k]? = some i→A[k']? = some i→k=k':=by
   intro k k' i h1 h2
   have:=l5 k3 (hAq k i h1) (hAq k' i h2)
   omega
  have base:∀ σ',F σ'→t'.length=t.length∧(∀ (k:Nat),(∀ (i:Nat) (o:Oper),(pick l A)[i]? = some o→o.dst≠some k)→t'[k]? = t[k]?)∧∀ (i:Nat) (o:Oper),(pick l A)[i]? = some o→nI κ P l t' σ' fr df o:=by
   intro σ' hs
   refine zI (fun i o ho=>?_) (fun i j o o' ho ho' he=>?_) (fun i j o o' k ho ho' hk hd=>?_) (hqu σ' hs)
   ·obtain ⟨x,hx,hlx⟩:=pinv i o ho
    obtain ⟨o2,d,h1,h2⟩:=hds x (List.mem_of_getElem? hx)
    rw [hlx] at h1;cases h1
    exact ⟨d,h2⟩
   ·obtain ⟨x,hx,hlx⟩:=pinv i o ho
    obtain ⟨y,hy,hly⟩:=pinv j o' ho'
    obtain ⟨o2,d,h1,h2⟩:=hds x (List.mem_of_getElem? hx)
    rw [hlx] at h1;cases h1
    have:=huniq x y o o' d hlx hly h2 (by rw [← he];exact h2)
    subst this
    exact hnd i j x hx hy
   ·obtain ⟨x,hx,hlx⟩:=pinv i o ho
    obtain ⟨y,hy,hly⟩:=pinv j o' ho'
    have hp:=(hsee x o hlx k hk y o' hly hd).resolve_right (fun h=>hAe y (List.mem_of_getElem? hy) h.1)
    obtain ⟨h1,_⟩:=(qpre (m+i) x o (hAq i x hx) hlx).1 y hp
    obtain ⟨a,ha⟩:=List.mem_iff_getElem?.1 h1
    have hak:=aK ha
    rw [List.length_take] at hak
    rw [List.getElem?_take_of_lt (by omega)] at ha
    have:=l5 k3 ha (hAq j y hy)
    omega
  obtain ⟨b1,b2,_⟩:=base σ0 hFs
  refine ⟨b1,fun k hk=>b2 k (fun i o ho=>?_),fun i o hi ho σ' hs=>?_⟩
  ·obtain ⟨x,hx,hlx⟩:=pinv i o ho
   exact hk x o (List.mem_of_getElem? hx) hlx
  ·obtain ⟨k,hk⟩:=List.mem_iff_getElem?.1 hi
   exact (base σ' hs).2.2 k o (by rw [pget k i hk];exact ho)
 intro φ g0 a0 w0 hs0
 refine wpIn_region_any hm ?_
 have hAd:∀ p∈((A0,c0)::r0),∀ i∈p.1,∃ o d,l[i]? = some o∧o.dst=some d:=by
  intro p hp i hi
  have h1:=List.all_eq_true.1 k5 p hp
  have h2:=List.all_eq_true.1 h1 i hi
  cases ho:l[i]? with
  | none=>simp [ho] at h2
  | some o=>simp [ho] at h2;exact ⟨o,_,rfl,(Option.isSome_iff_exists.1 h2).choose_spec⟩
 have hnd0:(dD ((A0,c0)::r0)).Nodup:=by rw [hq];exact k3
 have hApart:∀ (ps:Ph),(dD ps).Nodup→∀ p∈ps,∀ i∈p.1,i ∉ vS ps:=by
  intro ps
  induction ps with
  | nil=>intro _ p hp;cases hp
  | cons p0 ps ih =>
   intro hnd p hp i hi hie
   have e1:dD (p0::ps)=p0.1++(p0.2.toList++dD ps):=by simp [dD,List.append_assoc]
   have e2:vS (p0::ps)=p0.2.toList++vS ps:=by simp [vS]
   have hsub:∀ (ps:Ph) (i:Nat),i∈vS ps→i∈dD ps:=by
    intro ps i hi
    simp only [vS,dD,List.mem_flatMap] at hi ⊢
    obtain ⟨p,h1,h2⟩:=hi
    exact ⟨p,h1,List.mem_append.2 (.inr h2)⟩
   have hsub1:∀ (ps:Ph) (p:List Nat × Option Nat),p∈ps→∀ i∈p.1,i∈dD ps:=by
    intro ps p hp i hi
    simp only [dD,List.mem_flatMap]
    exact ⟨p,hp,List.mem_append.2 (.inl hi)⟩
   rw [e1] at hnd
   rw [e2] at hie
   obtain ⟨n1,n2,n3⟩:=List.nodup_append.1 hnd
   obtain ⟨n4,n5,n6⟩:=List.nodup_append.1 n2
   rcases List.mem_cons.1 hp with rfl|hp
   ·rcases List.mem_append.1 hie with h|h
    ·exact n3 i hi i (List.mem_append.2 (.inl h)) rfl
    ·exact n3 i hi i (List.mem_append.2 (.inr (hsub ps i h))) rfl
   ·rcases List.mem_append.1 hie with h|h
    ·exact n6 i h i (hsub1 ps p hp i hi) rfl
    ·exact ih n5 p hp i hi h
 have main:∀ (fuel:Nat) (c:Option Nat) (r:Ph) (m:Nat) (listed:Array Bool) (t:List AV) (σ:List Res) (g:Nat→Nat) (a:Act) (w:World) (ds:List Nat),
   cx c r=q.drop m→eM l (([],c)::r)=true→(∀ p∈r,∀ i∈p.1,(∃ o d,l[i]? = some o∧o.dst=some d)∧i ∉ ef)→(∀ i∈ef,i ∉ cx c r→listed.getD i false=true)→listed.size=l.length →
   (∀ (i:Nat) (o:Oper),listed.getD i false=true→l[i]? = some o→∀ j∈bL o,listed.getD j false=true) →
   (∀ i∈cx c r,listed.getD i false=false) →
   (∀ (i:Nat) (o:Oper),l[i]? = some o→i ∉ cx c r→listed.getD i false=true∨∃ d,o.dst=some d∧∀ σ',F σ'→nI κ P l t σ' fr df o) →
   F σ→ID listed l.length≤fuel→a.defers=ds.map jz++df→(fr=true→ds=[])→Rel κ g (φ++(ds.map fK++σ)) w→GE g0 w0 g w→a.tmps.size=t.length →
   (∀ (k:Nat) (x:AV),t[k]? = some x→(∀ (i:Nat) (o:Oper),i ∉ cx c r→l[i]? = some o→o.dst=some k→listed.getD i false=true)→VR g w x (a.tmps.getD k undef)) →
   IY κ P l F fr df Q c r t σ→wpAnyIn (FD rd) 0 P .any l.toArray (Post κ φ g0 w0 Q) fuel listed a w:=by
  intro fuel
  have fin:∀ (c:Option Nat) (r:Ph) (m:Nat) (listed:Array Bool) (t:List AV) (σ:List Res) (g:Nat→Nat) (a:Act) (w:World) (ds:List Nat),(∀ i,i < l.length→listed.getD i false=true)→cx c r=q.drop m→(∀ i∈cx c r,listed.getD i false=false) →
    a.defers=ds.map jz++df→(fr=true→ds=[])→Rel κ g (φ++(ds.map fK++σ)) w→GE g0 w0 g w→a.tmps.size=t.length →
    (∀ (k:Nat) (x:AV),t[k]? = some x→(∀ (i:Nat) (o:Oper),i ∉ cx c r→l[i]? = some o→o.dst=some k→listed.getD i false=true)→VR g w x (a.tmps.getD k undef))→IY κ P l F fr df Q c r t σ→Post κ φ g0 w0 Q .normal a w:=by
   intro c r m listed t σ g a w ds hall hlm hlate hd hfr hR hg hts hv hph
   cases c with
   | some e =>
    have h1:=hlate e (by simp [cx])
    rw [hall e (qlt e (List.mem_of_mem_drop (by rw [← hlm];simp [cx])))] at h1
    cases h1
   | none=>rw [rT] at hph;exact ⟨g,⟨t,σ,fr,df⟩,⟨ds,hd,hfr,hR,hts,fun k x hk=>hv k x hk (fun i o _ ho _=>hall i (aK ho))⟩,hg,hph⟩
  induction fuel with
  | zero =>
   intro c r m listed t σ g a w ds hlm hch hrd hefl hsz hcl hlate hpend hF hu hd hfr hR hg hts hv hph
   have hall:=sW (Nat.le_zero.1 hu)
   refine ⟨List.eq_nil_iff_forall_not_mem.2 fun i hi=>?_,fin c r m listed t σ g a w ds hall hlm hlate hd hfr hR hg hts hv hph⟩
   obtain ⟨h1,h2,_⟩:=mem_ready.1 hi
   rw [jl hsz (by simpa using h1),hall i (by simpa using h1)] at h2
   cases h2
  | succ fuel ih =>
   intro c r m listed t σ g a w ds hlm hch hrd hefl hsz hcl hlate hpend hF hu hd hfr hR hg hts hv hph
   refine ⟨fun hr=>?_,fun i hi=>?_⟩
   ·refine fin c r m listed t σ g a w ds (fun i hi=>?_) hlm hlate hd hfr hR hg hts hv hph
    refine Classical.byContradiction fun hc=>?_
    obtain ⟨k,hk⟩:=mN hsz hlt i i (Nat.le_refl _) hi (by simpa using hc)
    rw [hr] at hk;cases hk
   ·obtain ⟨h1,h2,h3⟩:=mem_ready.1 hi
    have hil:i < l.length:=by simpa using h1
    rw [jl hsz hil] at h2
    have ho:l[i]? = some (l[i]'hil):=List.getElem?_eq_getElem hil
    have ho':l.toArray[i]? = some (l[i]'hil):=by simp
    have hpre:∀ j∈bL (l[i]'hil),listed.getD j false=true:=h3 _ ho'
    have key:∃ tM:List AV,tM.length=t.length∧(∀ (k:Nat) (x:AV),tM[k]? = some x→x=.any∨((∀ (i:Nat) (o:Oper),i ∉ cx c r→l[i]? = some o→o.dst=some k→listed.getD i false=true)∧t[k]? = some x))∧(∀ (k:Nat),(∀ (i:Nat) (o:Oper),i ∉ cx c r→l[i]? = some o→o.dst=some k→listed.getD i false=true)→tM[k]? = t[k]?):=by
     refine ⟨t.zipIdx.map fun p=>@ite _ (∀ (i:Nat) (o:Oper),i ∉ cx c r→l[i]? = some o→o.dst=some p.2→listed.getD i false=true) (Classical.propDecidable _) p.1 .any,by simp,fun k x hx=>?_,fun k hk=>?_⟩
     ·rw [List.getElem?_map,List.getElem?_zipIdx] at hx
      cases hy:t[k]? with
      | none=>simp [hy] at hx
      | some y =>
       simp only [hy,Option.map_some,Nat.zero_add,Option.some.injEq] at hx
       split at hx
       ·rename_i hc;subst hx;exact .inr ⟨hc,rfl⟩
       ·exact .inl hx.symm
     ·rw [List.getElem?_map,List.getElem?_zipIdx]
      cases hy:t[k]? with
      | none=>rfl
      | some y =>
       simp only [Option.map_some,Nat.zero_add,Option.some.injEq]
       rw [if_pos hk]
    obtain ⟨tM,hM1,hM2,hM3⟩:=key
    have hsM:SR κ φ g ⟨tM,σ,fr,df⟩ a w:=by
     refine ⟨ds,hd,hfr,hR,by rw [hts,hM1],fun k x hx=>?_⟩
     rcases hM2 k x hx with rfl|⟨hc,hx'⟩
     ·exact .any _
     ·exact hv k x hx' hc
    have hsame:∀ k∈(l[i]'hil).looksAt l.toArray,t[k]? = tM[k]?:=fun k hk =>
     (hM3 k (fun j o hjn hoj hdj=>(hsee i _ ho k hk j o hoj hdj).elim (hpre j) (fun h=>hefl j h.1 hjn))).symm
    have hcl':∀ (j:Nat) (o:Oper),(listed.setIfInBounds i true).getD j false=true→l[j]? = some o→∀ k∈bL o,(listed.setIfInBounds i true).getD k false=true:=by
     intro j o hj hoj k hk
     rw [gF hsz hil] at hj ⊢
     split
     ·rfl
     ·split at hj
      ·rename_i e;subst e
       rw [ho] at hoj;cases hoj
       exact hpre k hk
      ·exact hcl j o hj hoj k hk
    have hu':ID (listed.setIfInBounds i true) l.length≤fuel:=by
     have:=vN hsz hil (by rw [jl hsz hil];exact h2)
     omega
    have hlset:∀ j,(listed.setIfInBounds i true).getD j false=true↔j=i∨listed.getD j false=true:=by
     intro j
     rw [gF hsz hil]
     split
     ·rename_i e;simp [e]
     ·rename_i e;simp [e]
    unfold wpOpIn
    rw [ho']
    by_cases hL:i∈cx c r
    ·-- the operation that writes
     cases c with
     | none=>simp [cx] at hL
     | some e =>
     have hie:i=e:=by
      simp only [cx,List.mem_cons] at hL
      rcases hL with hL|hL
      ·exact hL
      ·exfalso
       simp only [eM,Bool.and_eq_true] at hch
       have h4:=List.all_eq_true.1 hch.1 i hL
       simp only [ho] at h4
       have h5:=gO (L:=fun j=>listed.getD j false=true) (fun j o hj ho=>hcl j o hj ho) l.length (bL (l[i]'hil)) hpre e (by simpa using h4)
       rw [hlate e (by simp [cx])] at h5
       cases h5
     subst hie
     obtain ⟨o,hoe,hgd,hop⟩:=E8 hph
     rw [ho] at hoe
     cases hoe
     have hq1:i::dD r=q.drop m:=hlm
     have hopM:=iJ (s:=⟨t,σ,fr,df⟩) (s':=⟨tM,σ,fr,df⟩) rfl (jw hsame) hop
     have hgR:c8 l (l[i]'hil) ⟨tM,σ,fr,df⟩ (eL κ false P (l[i]'hil) ⟨tM,σ,fr,df⟩ (fun x σ'=>F σ'∧P4 κ P l F fr df Q r (bJ t (l[i]'hil).dst x) σ') (fun pc σ'=>∀ t',Q (.panic pc) ⟨t',σ',fr,df⟩)) False:=by
      unfold c8;rw [hgd];exact hopM
     refine lX hgR hsM (fun g' a' w' x σ' hs' hge' hk=>?_) (fun hf=>hf.elim) (fun g' w' c' σ' hs' hge' hf=>⟨g',_,hs',hg.trans hge',hf tM⟩)
     obtain ⟨hF',hk⟩:=hk
     obtain ⟨ds',hd',hfr',hR',ht'⟩:=hs'
     simp only at ht' hR' hd' hfr'
     have hlate_i:∀ j,j∈cx (some i) r↔j=i∨j∈dD r:=fun j=>by simp [cx]
     have hq2:q.drop (m+1)=dD r:=by
      have:=congrArg (List.drop 1) hq1
      simpa [List.drop_drop,Nat.add_comm] using this.symm
     have hpendi:∀ (j:Nat) (o:Oper),l[j]? = some o→j ∉ dD r→j=i∨j ∉ cx (some i) r:=by
      intro j o hj hn
      by_cases e:j=i
      ·exact .inl e
      ·exact .inr (by rw [hlate_i];rintro (h|h);exact e h;exact hn h)
     have hnpred:∀ (j:Nat) (o:Oper),l[j]? = some o→j ∉ cx (some i) r→i ∉ bL o:=by
      intro j o hj hn hp
      rw [hlm] at hn
      exact hdis m j i o (qall j (aK hj)) hn hj hp (by rw [← hq1];simp)
     have hv1:∀ (k:Nat) (y:AV),(bJ t (l[i]'hil).dst x)[k]? = some y→(∀ (j:Nat) (o:Oper),j ∉ dD r→l[j]? = some o→o.dst=some k→(listed.setIfInBounds i true).getD j false=true)→VR g' w' y (a'.tmps.getD k undef):=by
      intro k y hy hkn
      refine ht'.get k y ?_
      have hknown:(l[i]'hil).dst≠some k→∀ (j:Nat) (o:Oper),j ∉ cx (some i) r→l[j]? = some o→o.dst=some k→listed.getD j false=true:=by
       intro hne j o hj hoj hdj
       have:=hkn j o (fun hm=>hj ((hlate_i j).2 (.inr hm))) hoj hdj
       rcases (hlset j).1 this with e|e
       ·subst e;rw [ho] at hoj;cases hoj;exact (hne hdj).elim
       ·exact e
      cases hdd:(l[i]'hil).dst with
      | none =>
       rw [hdd] at hy hknown
       simp only [bJ] at hy ⊢
       rw [hM3 k (hknown (by simp))];exact hy
      | some d =>
       rw [hdd] at hy hknown
       simp only [bJ] at hy ⊢
       by_cases e:d=k
       ·subst e
        rw [List.getElem?_set] at hy ⊢
        rw [if_pos rfl] at hy ⊢
        rw [hM1];exact hy
       ·rw [List.getElem?_set_ne e] at hy ⊢
        rw [hM3 k (hknown (by simpa using e))];exact hy
     have hmove:∀ (j:Nat) (o:Oper) (d:Tmp),l[j]? = some o→j ∉ cx (some i) r→o.dst=some d→(∀ σ',F σ'→nI κ P l t σ' fr df o)→j≠i→¬listed.getD j false=true→∀ σ',F σ'→nI κ P l (bJ t (l[i]'hil).dst x) σ' fr df o:=by
      intro j o d hj hn hdj hid hne hunl σ' hs
      refine ri hdj (dV _ _ _) (fun k hk=>(d7 (fun e=>?_)).symm) (d7 (fun e=>?_)).symm (hid σ' hs)
      ·rcases hsee j o hj k hk i _ ho e with h|h
       ·exact hnpred j o hj hn h
       ·exact hunl (gO (L:=fun j=>listed.getD j false=true) (fun j o hj ho=>hcl j o hj ho) l.length _ hpre j h.2)
      ·exact hne (huniq j i o _ d hj ho hdj e)
     have ht1:a'.tmps.size=(bJ t (l[i]'hil).dst x).length:=by rw [ht'.size,dV,dV,hM1]
     cases r with
     | nil =>
      have hk:Q .normal ⟨bJ t (l[i]'hil).dst x,σ',fr,df⟩:=hk
      refine ih none [] (m+1) _ (bJ t (l[i]'hil).dst x) σ' g' a' w' ds' (by rw [hq2];rfl) rfl (fun p hp=>by cases hp) (fun j hje _=>?_) (by simpa using hsz) hcl' (fun j hj=>by simp [cx] at hj) (fun j o hj _=>?_) hF' hu' hd' hfr' hR' (hg.trans hge') ht1 (fun k y hy hkn=>hv1 k y hy (fun j o hjs=>hkn j o (by simp [cx]))) hk
      ·by_cases e:j=i
       ·exact (hlset j).2 (.inl e)
       ·exact (hlset j).2 (.inr (hefl j hje (by rw [hlate_i];rintro (h|h);exact e h;simp [dD] at h)))
      rcases hpendi j o hj (by simp [dD]) with e|e
      ·exact .inl ((hlset j).2 (.inl e))
      ·by_cases hji:j=i
       ·exact .inl ((hlset j).2 (.inl hji))
       ·by_cases hjl:listed.getD j false=true
        ·exact .inl ((hlset j).2 (.inr hjl))
        ·rcases hpend j o hj e with h5|⟨d,h5,h6⟩
         ·exact (hjl h5).elim
         ·exact .inr ⟨d,h5,hmove j o d hj e h5 h6 hji hjl⟩
     | cons p r' =>
      obtain ⟨A,c'⟩:=p
      obtain ⟨t2,hqu,hph2⟩:=hk
      have hch2:eM l ((A,c')::r')=true:=by
       simp only [eM,Bool.and_eq_true] at hch
       exact hch.2
      have hlate2:dD ((A,c')::r')=A++cx c' r':=by
       cases c' with
       | some e'=>simp [dD,cx]
       | none =>
        simp only [eM] at hch2
        have:r'=[]:=by simpa using hch2
        subst this
        simp [dD,cx]
      have hAdst:∀ i∈A,∃ o d,l[i]? = some o∧o.dst=some d:=fun i hi=>(hrd (A,c') (by simp) i hi).1
      have hq3:q.drop (m+1)=A++cx c' r':=by rw [hq2,hlate2]
      obtain ⟨u1,u2,u3⟩:=hquiet (m+1) A (cx c' r') _ t2 hq3 hAdst (fun i hi=>(hrd (A,c') (by simp) i hi).2) hqu hF0
      have hq4:cx c' r'=q.drop (m+1+A.length):=by
       have:=congrArg (List.drop A.length) hq3
       rw [List.drop_drop,List.drop_left] at this
       exact this.symm
      have hnA:∀ (j:Nat),j∈cx c' r'→j ∉ A:=by
       intro j h1 h2
       have hnd:(A++cx c' r').Nodup:=by rw [← hq3];exact k3.sublist (List.drop_sublist _ _)
       exact (List.nodup_append.1 hnd).2.2 j h2 j h1 rfl
      have hch3:eM l (([],c')::r')=true:=by
       cases c' with
       | none=>simpa [eM] using hch2
       | some e'=>simpa [eM] using hch2
      refine ih c' r' (m+1+A.length) _ t2 σ' g' a' w' ds' hq4 hch3 (fun p hp=>hrd p (by simp [hp])) (fun j hje hjn=>?_) (by simpa using hsz) hcl' (fun j hj=>?_) (fun j o hj hn=>?_) hF' hu' hd' hfr' hR' (hg.trans hge') (by rw [ht1,u1]) (fun k y hy hkn=>?_) hph2
      ·by_cases e:j=i
       ·exact (hlset j).2 (.inl e)
       ·refine (hlset j).2 (.inr (hefl j hje ?_))
        rw [hlate_i,hlate2]
        rintro (h|h)
        ·exact e h
        ·rcases List.mem_append.1 h with h|h
         ·exact (hrd (A,c') (by simp) j h).2 hje
         ·exact hjn h
      ·have hjs:j∈dD ((A,c')::r'):=by rw [hlate2];exact List.mem_append.2 (.inr hj)
       have h5:=hlate j ((hlate_i j).2 (.inr hjs))
       cases h6:(listed.setIfInBounds i true).getD j false with
       | false=>rfl
       | true =>
        rcases (hlset j).1 h6 with e|e
        ·subst e
         have hnd:(j::dD ((A,c')::r')).Nodup:=by rw [hq1];exact k3.sublist (List.drop_sublist _ _)
         exact ((List.nodup_cons.1 hnd).1 hjs).elim
        ·rw [h5] at e;cases e
      ·by_cases hjA:j∈A
       ·obtain ⟨o2,d,h5,h6⟩:=hAdst j hjA
        rw [hj] at h5;cases h5
        exact .inr ⟨d,h6,u3 j o hjA hj⟩
       ·rcases hpendi j o hj (by rw [hlate2];intro hc;rcases List.mem_append.1 hc with h|h;exact hjA h;exact hn h) with e|e
        ·exact .inl ((hlset j).2 (.inl e))
        ·by_cases hji:j=i
         ·exact .inl ((hlset j).2 (.inl hji))
         ·by_cases hjl:listed.getD j false=true
          ·exact .inl ((hlset j).2 (.inr hjl))
          rcases hpend j o hj e with h5|⟨d,h5,h6⟩
          ·exact (hjl h5).elim
          ·refine .inr ⟨d,h5,fun σ2 hs2=>?_⟩
           refine ri h5 u1 (fun k hk=>(u2 k (fun b o' hb hob hdb=>?_)).symm) (u2 d (fun b o' hb hob hdb=>?_)).symm (hmove j o d hj e h5 h6 hji hjl σ2 hs2)
           ·have hp:=(hsee j o hj k hk b o' hob hdb).resolve_right (fun h=>(hrd (A,c') (by simp) b hb).2 h.1)
            have hjn:j ∉ q.drop m:=by rw [← hlm];exact e
            refine hdis m j b o (qall j (aK hj)) hjn hj hp ?_
            rw [← hq1,hlate2]
            simp [hb]
           ·have:=huniq j b o o' d hj hob h5 hdb
            subst this
            exact hjA hb
      ·by_cases hkA:∃ b o',b∈A∧l[b]? = some o'∧o'.dst=some k
       ·exfalso
        obtain ⟨b,o',hb,hob,hdb⟩:=hkA
        have h5:=hkn b o' (fun hc=>hnA b hc hb) hob hdb
        have hbs:b∈dD ((A,c')::r'):=by rw [hlate2];exact List.mem_append.2 (.inl hb)
        rcases (hlset b).1 h5 with e|e
        ·subst e
         have hnd:(b::dD ((A,c')::r')).Nodup:=by rw [hq1];exact k3.sublist (List.drop_sublist _ _)
         exact (List.nodup_cons.1 hnd).1 hbs
        ·rw [hlate b ((hlate_i b).2 (.inr hbs))] at e;cases e
       ·have h5:=u2 k (fun b o' hb hob hdb=>hkA ⟨b,o',hb,hob,hdb⟩)
        rw [h5] at hy
        exact hv1 k y hy (fun j o hjs hoj hdj=>hkn j o (fun hc=>hjs (by rw [hlate2];exact List.mem_append.2 (.inr hc))) hoj hdj)
    ·-- one that may be drawn
     rcases hpend i _ ho hL with h5|⟨d,hdd,hid⟩
     ·rw [h2] at h5;cases h5
     ·have hid':=Dw (hid σ hF)
      simp only [bn] at hid'
      have hgM:=gi (s:=⟨t,σ,fr,df⟩) (s':=⟨tM,σ,fr,df⟩) (fun j want k hgd hk=>iq (hsame k (ly hgd hk))) (fun hr=>iJ (s:=⟨t,σ,fr,df⟩) (s':=⟨tM,σ,fr,df⟩) rfl (jw hsame) hr) hid'
      have fin2:∀ (g':Nat→Nat) (a':Act) (w':World) (x:AV) (σ':List Res),SR κ φ g' ⟨bJ tM (l[i]'hil).dst x,σ',fr,df⟩ a' w'→GE g w g' w'→isF t σ fr df .normal ⟨bJ t (l[i]'hil).dst x,σ',fr,df⟩→wpAnyIn (FD rd) 0 P .any l.toArray (Post κ φ g0 w0 Q) fuel (listed.setIfInBounds i true) a' w':=by
       intro g' a' w' x σ' hs' hge' hk
       obtain ⟨_,hk⟩:=hk
       simp only [St.mk.injEq] at hk
       obtain ⟨hy2,rfl,_,_⟩:=hk
       rw [hdd] at hy2
       obtain ⟨ds',hd',hfr',hR',ht'⟩:=hs'
       refine ih c r m _ t _ g' a' w' ds' hlm hch hrd (fun j hje hjn=>(hlset j).2 (.inr (hefl j hje hjn))) (by simpa using hsz) hcl' (fun j hj=>?_) (fun j o hj hn=>?_) hF hu' hd' hfr' hR' (hg.trans hge') (by rw [ht'.size,dV,hM1]) (fun k z hz hw=>?_) hph
       ·cases h6:(listed.setIfInBounds i true).getD j false with
        | false=>rfl
        | true =>
         rcases (hlset j).1 h6 with e|e
         ·subst e;exact (hL hj).elim
         ·rw [hlate j hj] at e;cases e
       ·rcases hpend j o hj hn with h6|h6
        ·exact .inl ((hlset j).2 (.inr h6))
        ·exact .inr h6
       ·refine ht'.get k z ?_
        simp only [hdd]
        simp only [bJ] at hy2 ⊢
        by_cases e:d=k
        ·subst e
         have hlen:d < t.length:=aK hz
         have h5:t[d]? = some x:=by
          have:=congrArg (fun l:List AV=>l[d]?) hy2
          simp only [List.getElem?_set_self hlen] at this
          exact this.symm
         rw [hz] at h5;cases h5
         rw [List.getElem?_set_self (by rw [hM1];exact hlen)]
        ·rw [List.getElem?_set_ne e]
         rw [hM3 k (fun j o hj hoj hdj=>?_)]
         ·exact hz
         ·rcases (hlset j).1 (hw j o hj hoj hdj) with e2|e2
          ·subst e2
           rw [ho] at hoj;cases hoj
           rw [hdd] at hdj
           exact (e (Option.some.inj hdj)).elim
          ·exact e2
      exact lX hgM hsM (fun g' a' w' x σ' hs' hge' hk=>fin2 g' a' w' x σ' hs' hge' hk) (fun hy hs'=>fin2 g _ w U σ hs' (GE.refl _ _) hy) (fun g' w' c σ' hs' hge' hk=>(by cases hk.1))
 obtain ⟨t1,hqu,hph⟩:=h
 obtain ⟨ds,hd,hfr,hR,ht⟩:=hs0
 have hlate0:q=A0++cx c0 r0:=by
  rw [← hq]
  cases c0 with
  | some e'=>simp [dD,cx]
  | none =>
   simp only [eM] at k7
   have:r0=[]:=by simpa using k7
   subst this
   simp [dD,cx]
 obtain ⟨u1,u2,u3⟩:=hquiet 0 A0 (cx c0 r0) t0 t1 (by simpa using hlate0) (hAd (A0,c0) (by simp)) (fun i hi=>by rw [← hef];exact hApart _ hnd0 (A0,c0) (by simp) i hi) hqu hF0
 have hf0:∀ i,(Array.replicate l.toArray.size false).getD i false=false:=fun i=>by
  simp only [Array.getD_eq_getD_getElem?,Array.getElem?_replicate]
  split<;>rfl
 have hch0:eM l (([],c0)::r0)=true:=by
  cases c0 with
  | none=>simpa [eM] using k7
  | some e'=>simpa [eM] using k7
 refine main l.toArray.size c0 r0 A0.length _ t1 σ0 g0 a0 _ ds ?_ hch0 (fun p hp i hi=>⟨hAd p (by simp [hp]) i hi,by rw [← hef];exact hApart _ hnd0 p (by simp [hp]) i hi⟩) (fun i hie hin=>?_) (by simp) (fun i o hi=>by rw [hf0] at hi;cases hi) (fun i _=>hf0 i) (fun i o hi hn=>?_) hF0 ?_ hd hfr (hR.of_heap rfl rfl rfl rfl) (GE.of_heap rfl) (by rw [ht.size,u1]) (fun k x hx hw=>?_) hph
 ·rw [hlate0,List.drop_left]
 ·exfalso
  have h5:i∈dD ((A0,c0)::r0):=by
   rw [← hef] at hie
   simp only [vS,dD,List.mem_flatMap] at hie ⊢
   obtain ⟨p,h1,h2⟩:=hie
   exact ⟨p,h1,List.mem_append.2 (.inr h2)⟩
  rw [hq,hlate0] at h5
  rcases List.mem_append.1 h5 with h|h
  ·exact hApart _ hnd0 (A0,c0) (by simp) i h (by rw [hef];exact hie)
  ·exact hin h
 ·have hiA:i∈A0:=by
   have:=qall i (aK hi)
   rw [hlate0] at this
   exact (List.mem_append.1 this).resolve_right hn
  obtain ⟨o2,d,h5,h6⟩:=hAd (A0,c0) (by simp) i hiA
  rw [hi] at h5;cases h5
  exact .inr ⟨d,h6,u3 i o hiA hi⟩
 ·unfold ID
  exact Nat.le_trans (List.length_filter_le _ _) (by simp)
 ·have hkA:∀ (b:Nat) (o':Oper),b∈A0→l[b]? = some o'→o'.dst≠some k:=by
   intro b o' hb hob hdb
   have hn:b ∉ cx c0 r0:=by
    intro hc
    have hnd:(A0++cx c0 r0).Nodup:=by rw [← hlate0];exact k3
    exact (List.nodup_append.1 hnd).2.2 b hb b hc rfl
   have:=hw b o' hn hob hdb
   rw [hf0] at this;cases this
  rw [u2 k hkA] at hx
  have:=ht.get k x hx
  exact VR.mono (GE.of_heap (g:=g0) (w:=w0) (w':={ w0 with drawn:=w0.drawn+1 }) rfl) this
/-! ### For walks -/
def Ls (κ:Ctx) (P:Program) (l:List Oper) (F:List Res→Prop) (fr:Bool) (df:List Deferred) (Q:Exit→St→Prop) (A:List Nat) (c:Option Nat) (r:Ph) (t:List AV) (σ:List Res):Prop :=
 ∃ t',(∀ σ',F σ'→bn κ true P l (Qq t' σ') (pick l A) ⟨t,σ',fr,df⟩)∧IY κ P l F fr df Q c r t' σ
def Uw (κ:Ctx) (P:Program) (l:List Oper) (F:List Res→Prop) (Q:Exit→St→Prop) (r:Ph) (e:Exit) (s:St):Prop :=
 match e with
 | .normal=>F s.σ∧P4 κ P l F s.fr s.df Q r s.t s.σ
 | .panic c=>∀ t',Q (.panic c) ⟨t',s.σ,s.fr,s.df⟩
 | _=>False
def Lc:Option Oper→List Oper→List Oper
 | some o,r=>o::r
 | none,r=>r
theorem yq {l:List Oper}:pick l []=[]:=rfl
theorem uJ {l:List Oper}{i:Nat}{A:List Nat}:pick l (i::A)=Lc (l[i]?) (pick l A):=by
 unfold pick
 rw [List.filterMap_cons]
 cases l[i]?<;>rfl
theorem sj {o:Oper}{r:List Oper}:Lc (some o) r=o::r:=rfl
variable {l:List Oper} {F:List Res→Prop} {fr:Bool} {df:List Deferred} {Q:Exit→St→Prop} {A:List Nat} {c:Option Nat} {r:Ph} {t t':List AV} {σ:List Res}
theorem aQ (t':List AV) (h1:∀ σ',F σ'→bn κ true P l (Qq t' σ') (pick l A) ⟨t,σ',fr,df⟩) (h2:IY κ P l F fr df Q c r t' σ):Ls κ P l F fr df Q A c r t σ:=⟨t',h1,h2⟩
theorem gI {id:Nat} (A0:List Nat) (c0:Option Nat) (r0:Ph) (F:List Res→Prop) (hF0:F σ) (hm:P.follows .mixedOrders=true) (hok:yQ l ((A0,c0)::r0)=true) (h:Ls κ P l F fr df Q A0 c0 r0 t σ):AW κ rd P (.region id l.toArray true) Q ⟨t,σ,fr,df⟩ :=
 QD A0 c0 r0 F hF0 hm hok h
theorem bA {e:Nat}{o:Oper} (ho:l[e]? = some o) (hg:o.guard=none) (h:bn κ false P l (Uw κ P l F Q r) [o] ⟨t,σ,fr,df⟩):IY κ P l F fr df Q (some e) r t σ:=by
 have key:eL κ false P o ⟨t,σ,fr,df⟩ (fun x σ'=>F σ'∧P4 κ P l F fr df Q r (bJ t o.dst x) σ') (fun pc σ'=>∀ t',Q (.panic pc) ⟨t',σ',fr,df⟩):=by
  simp only [bn,c8,hg] at h
  exact h
 cases r with
 | nil=>exact ⟨o,ho,hg,key⟩
 | cons p r=>exact ⟨o,ho,hg,key⟩
theorem bR (hF:F σ) (h:P4 κ P l F fr df Q r t σ):Uw κ P l F Q r .normal ⟨t,σ,fr,df⟩:=⟨hF,h⟩
theorem oh {pc:List PanicEntry} (h:∀ t',Q (.panic pc) ⟨t',σ,fr,df⟩):Uw κ P l F Q r (.panic pc) ⟨t,σ,fr,df⟩:=h
theorem Bu:P4 κ P l F fr df Q [] t σ=Q .normal ⟨t,σ,fr,df⟩:=rfl
theorem xS:P4 κ P l F fr df Q ((A,c)::r) t σ=Ls κ P l F fr df Q A c r t σ:=rfl
end
end Go.Abs
/-
 The abstract layer,part w: the rows that a walk rewrites by,under one name.
-/

namespace Go.Abs
theorem uL {v:Value}:(AV.raw v).cells=[.raw v]:=id rfl
theorem uw {l:List AV}:(AV.agg l).cells=l:=id rfl
theorem yj {n:Nat}{o:Option (Option (Nat × Nat))}{l:List AV}:(AV.sl n o l).cells=[.sl n o l]:=id rfl
theorem x5 {l:List AV}:(AV.cp l).cells=[.cp l]:=id rfl
theorem rS {t xs:List AV}{p:Tmp}{x:AV}{qs:List Tmp}:ik t (p::qs) (x::xs)=ik (t.set p x) qs xs:=rfl
theorem uy {t:List AV}:ik t [] []=t:=rfl
theorem t4 {a:Option Addr}{n m:Nat}:pE (.slice a n m)=.raw (.slice a n m):=rfl
theorem CE {k:IntKind}{n:Int}:pE (.int k n)=.raw (.int k n):=rfl
theorem xK {b:Bool}:pE (.bool b)=.raw (.bool b):=rfl
theorem rK {s:ByteArray}:pE (.string s)=.raw (.string s):=rfl
theorem qc {a:Option Addr}:pE (.pointer a)=.raw (.pointer a):=rfl
theorem BS {a:Option Nat}:pE (.map a)=.raw (.map a):=rfl
theorem pH:pE .nilFunc=.raw .nilFunc:=rfl
theorem nu:pE .nilIface=.raw .nilIface:=rfl
theorem Bx {l:List Value}:pE (.agg l.toArray)=.agg (l.map .raw):=by simp [pE]
theorem nN {cs:List AV}{k:Nat}:setCells cs k []=cs:=rfl
theorem mr {cs xs:List AV}{k:Nat}{x:AV}:setCells cs k (x::xs)=setCells (cs.set k x) (k+1) xs:=rfl
section
variable {κ:Ctx} {dm:Bool} {P:Program} {all rest:List Oper} {Q:Exit→St→Prop} {d:Option Tmp} {ty:TypeId} {pos:String} {af:Array Edge} {t:List AV} {σ:List Res} {fr:Bool} {df:List Deferred} {x y z:Operand}
theorem Cb {ts:Array TypeId}:bn κ dm P all Q (⟨d,.call ⟨.builtin .copy,#[x,y],ts⟩,ty,pos,af,none⟩::rest) ⟨t,σ,fr,df⟩=cC κ dm P all Q d rest ⟨t,σ,fr,df⟩ (.copy ts ty) [(St.ev ⟨t,σ,fr,df⟩ x),(St.ev ⟨t,σ,fr,df⟩ y)]:=by simp only [bn,c8,eL];simp [cC];exact Iff.rfl
theorem uI {a:TypeId}{ok:Bool}:bn κ dm P all Q (⟨d,.lookup a x y ok,ty,pos,af,none⟩::rest) ⟨t,σ,fr,df⟩=cC κ dm P all Q d rest ⟨t,σ,fr,df⟩ (.lookup a ok) [(St.ev ⟨t,σ,fr,df⟩ x),(St.ev ⟨t,σ,fr,df⟩ y)]:=propext Iff.rfl
theorem sN {a:TypeId}:bn κ dm P all Q (⟨d,.makeMap a none,ty,pos,af,none⟩::rest) ⟨t,σ,fr,df⟩=cC κ dm P all Q d rest ⟨t,σ,fr,df⟩ (.makeMap a) []:=propext Iff.rfl
theorem ml {a b:TypeId}{ok:Bool}:bn κ dm P all Q (⟨d,.typeAssert x a b ok,ty,pos,af,none⟩::rest) ⟨t,σ,fr,df⟩=cC κ dm P all Q d rest ⟨t,σ,fr,df⟩ (.typeAssert a b ok) [(St.ev ⟨t,σ,fr,df⟩ x)]:=propext Iff.rfl
end
section
variable {κ:Ctx} {dm:Bool} {P:Program} {all rest:List Oper} {Q:Exit→St→Prop} {d:Option Tmp} {t:List AV} {σ:List Res} {fr:Bool} {df:List Deferred} {xt:TypeId} {a:Addr} {n m:Nat} {x y:AV}
theorem py:pe κ dm P all Q d rest ⟨t,σ,fr,df⟩ xt (.raw (.slice (some a) n m)) (some x) none none=cC κ dm P all Q d rest ⟨t,σ,fr,df⟩ (.slice xt true false false) [.raw (.slice (some a) n m),x,.any,.any]:=rfl
theorem pU:pe κ dm P all Q d rest ⟨t,σ,fr,df⟩ xt (.raw (.slice (some a) n m)) none (some x) none=cC κ dm P all Q d rest ⟨t,σ,fr,df⟩ (.slice xt false true false) [.raw (.slice (some a) n m),.any,x,.any]:=rfl
theorem p9:pe κ dm P all Q d rest ⟨t,σ,fr,df⟩ xt (.raw (.slice (some a) n m)) (some x) (some y) none=cC κ dm P all Q d rest ⟨t,σ,fr,df⟩ (.slice xt true true false) [.raw (.slice (some a) n m),x,y,.any]:=rfl
theorem yG {k:IntKind}{i:Int}:Pi κ dm P all Q d rest ⟨t,σ,fr,df⟩ xt (.raw (.slice (some a) n m)) (.raw (.int k i))=cC κ dm P all Q d rest ⟨t,σ,fr,df⟩ (.indexAddr xt) [.raw (.slice (some a) n m),.raw (.int k i)]:=rfl
end
theorem bz {a b:List AV} (h:zl a b:=by repeat (first|exact trivial|refine ⟨le_rfl, ?_⟩|refine ⟨NW, ?_⟩|refine ⟨le_ro, ?_⟩|refine ⟨le_nil (by decide), ?_⟩|refine ⟨KG (by omega) (by omega) (by omega), ?_⟩|refine ⟨IN (by omega), ?_⟩|refine ⟨le_eq (by simp), ?_⟩)):zl a b:=h
theorem bE {a b:List Res} (h:Sub a b:=by repeat (first|exact ah|refine ae ?_)):Sub a b:=h
theorem bQ {P : Program} {f : FuncId} {fn : Func} (h : P.funcs[f]? = some fn) (h1 : (fn.name == "runtime.NumGoroutine") = false := by kernel_rfl) (h2 : fn.body.isNone = false := by kernel_rfl) : au P f = True := eq_true ⟨_, h, h1, h2⟩
theorem bm:type_of% (And.intro @ne_eq.{1} (And.intro @Bool.not_true (And.intro @Bool.not_false @Bool.not_eq_eq_eq_not))):=And.intro @ne_eq.{1} (And.intro @Bool.not_true (And.intro @Bool.not_false @Bool.not_eq_eq_eq_not))
theorem ba:type_of% (And.intro @ne_eq.{1} (And.intro @beq_self_eq_true.{0} (And.intro @not_false_eq_true (And.intro @Bool.not_true (And.intro @Bool.not_false (And.intro @true_and (And.intro @and_true @Bool.false_eq_true))))))):=And.intro @ne_eq.{1} (And.intro @beq_self_eq_true.{0} (And.intro @not_false_eq_true (And.intro @Bool.not_true (And.intro @Bool.not_false (And.intro @true_and (And.intro @and_true @Bool.false_eq_true))))))
theorem WL:type_of% (And.intro @Bu <| And.intro @xS <| And.intro @rT <| And.intro @yq <| And.intro @uJ <| And.intro @sj <| And.intro @py <| And.intro @pU <| And.intro @p9 <| And.intro @yG <| And.intro @Cb <| And.intro @uI <| And.intro @sN <| And.intro @ml <| And.intro @nN <| And.intro @mr <| And.intro @t4 <| And.intro @CE <| And.intro @xK <| And.intro @rK <| And.intro @qc <| And.intro @BS <| And.intro @pH <| And.intro @nu <| And.intro @Bx <| And.intro @sf <| And.intro @BI <| And.intro @zn <| And.intro @rS <| And.intro @uy <| And.intro @run_seq (And.intro @yF (And.intro @t3 (And.intro @xv (And.intro @s7 (And.intro @ya (And.intro @mw (And.intro @xl (And.intro @BT (And.intro @w8 (And.intro @ur (And.intro @se (And.intro @pw (And.intro @pN (And.intro @uf (And.intro @xD (And.intro @rV (And.intro @nC (And.intro @rk (And.intro @qV (And.intro @vl (And.intro @pz (And.intro @CV (And.intro @zo (And.intro @yU (And.intro @Ih (And.intro @Fy (And.intro @IM (And.intro @Cc (And.intro @BF (And.intro @Bh (And.intro @Bo (And.intro @ux (And.intro @uB (And.intro @EJ (And.intro @GQ (And.intro @By (And.intro @vo (And.intro @xm (And.intro @GK (And.intro @sH (And.intro @pC (And.intro @Fu (And.intro @FS (And.intro @CS (And.intro @ua (And.intro @CK (And.intro @tU (And.intro @Cl (And.intro @G7 (And.intro @LZ (And.intro @ta (And.intro @Bc (And.intro @yh (And.intro @xU (And.intro @F5 (And.intro @yZ (And.intro @ud (And.intro @nG (And.intro @xc (And.intro @oA (And.intro @zh (And.intro @xr (And.intro @Br (And.intro @pR (And.intro @ow (And.intro @pJ (And.intro @yB (And.intro @nr (And.intro @xG (And.intro @Bz (And.intro @Cx (And.intro @FT (And.intro @tS (And.intro @Gd (And.intro @IV (And.intro @yJ (And.intro @xV (And.intro @y9 (And.intro @zu (And.intro @zs (And.intro @x6 (And.intro @yC (And.intro @uC (And.intro @vi (And.intro @tW (And.intro @xp (And.intro @vr (And.intro @zg (And.intro @Bv (And.intro @BW (And.intro @rG (And.intro @y6 (And.intro @xT (And.intro @qZ (And.intro @qY (And.intro @vn (And.intro @BV (And.intro @pV (And.intro @uS (And.intro @BR (And.intro @s9 (And.intro @Bi (And.intro @xu (And.intro @B2 (And.intro @zq (And.intro @Ct (And.intro @uR (And.intro @tV (And.intro @uU (And.intro @u9 (And.intro @vf (And.intro @BL (And.intro @zm (And.intro @uE (And.intro @sI (And.intro @qR (And.intro @Bt (And.intro @xW (And.intro @ye (And.intro @sV (And.intro @sZ (And.intro @pF (And.intro @vq (And.intro @ns (And.intro @pQ (And.intro @MB (And.intro @Lw (And.intro @K9 (And.intro @Lh (And.intro @Lt (And.intro @uL (And.intro @uw (And.intro @yj (@x5))))))))))))))))))))))))))))))))))))))))))))))))))))))))))))))))))))))))))))))))))))))))))))))))))))))))))))))))))))))))))))))))))))))):=And.intro @Bu <| And.intro @xS <| And.intro @rT <| And.intro @yq <| And.intro @uJ <| And.intro @sj <| And.intro @py <| And.intro @pU <| And.intro @p9 <| And.intro @yG <| And.intro @Cb <| And.intro @uI <| And.intro @sN <| And.intro @ml <| And.intro @nN <| And.intro @mr <| And.intro @t4 <| And.intro @CE <| And.intro @xK <| And.intro @rK <| And.intro @qc <| And.intro @BS <| And.intro @pH <| And.intro @nu <| And.intro @Bx <| And.intro @sf <| And.intro @BI <| And.intro @zn <| And.intro @rS <| And.intro @uy <| And.intro @run_seq (And.intro @yF (And.intro @t3 (And.intro @xv (And.intro @s7 (And.intro @ya (And.intro @mw (And.intro @xl (And.intro @BT (And.intro @w8 (And.intro @ur (And.intro @se (And.intro @pw (And.intro @pN (And.intro @uf (And.intro @xD (And.intro @rV (And.intro @nC (And.intro @rk (And.intro @qV (And.intro @vl (And.intro @pz (And.intro @CV (And.intro @zo (And.intro @yU (And.intro @Ih (And.intro @Fy (And.intro @IM (And.intro @Cc (And.intro @BF (And.intro @Bh (And.intro @Bo (And.intro @ux (And.intro @uB (And.intro @EJ (And.intro @GQ (And.intro @By (And.intro @vo (And.intro @xm (And.intro @GK (And.intro @sH (And.intro @pC (And.intro @Fu (And.intro @FS (And.intro @CS (And.intro @ua (And.intro @CK (And.intro @tU (And.intro @Cl (And.intro @G7 (And.intro @LZ (And.intro @ta (And.intro @Bc (And.intro @yh (And.intro @xU (And.intro @F5 (And.intro @yZ (And.intro @ud (And.intro @nG (And.intro @xc (And.intro @oA (And.intro @zh (And.intro @xr (And.intro @Br (And.intro @pR (And.intro @ow (And.intro @pJ (And.intro @yB (And.intro @nr (And.intro @xG (And.intro @Bz (And.intro @Cx (And.intro @FT (And.intro @tS (And.intro @Gd (And.intro @IV (And.intro @yJ (And.intro @xV (And.intro @y9 (And.intro @zu (And.intro @zs (And.intro @x6 (And.intro @yC (And.intro @uC (And.intro @vi (And.intro @tW (And.intro @xp (And.intro @vr (And.intro @zg (And.intro @Bv (And.intro @BW (And.intro @rG (And.intro @y6 (And.intro @xT (And.intro @qZ (And.intro @qY (And.intro @vn (And.intro @BV (And.intro @pV (And.intro @uS (And.intro @BR (And.intro @s9 (And.intro @Bi (And.intro @xu (And.intro @B2 (And.intro @zq (And.intro @Ct (And.intro @uR (And.intro @tV (And.intro @uU (And.intro @u9 (And.intro @vf (And.intro @BL (And.intro @zm (And.intro @uE (And.intro @sI (And.intro @qR (And.intro @Bt (And.intro @xW (And.intro @ye (And.intro @sV (And.intro @sZ (And.intro @pF (And.intro @vq (And.intro @ns (And.intro @pQ (And.intro @MB (And.intro @Lw (And.intro @K9 (And.intro @Lh (And.intro @Lt (And.intro @uL (And.intro @uw (And.intro @yj (@x5))))))))))))))))))))))))))))))))))))))))))))))))))))))))))))))))))))))))))))))))))))))))))))))))))))))))))))))))))))))))))))))))))))))
section
variable {κ:Ctx} {dm:Bool} {P:Program} {all rest:List Oper} {Q:Exit→St→Prop} {d:Option Tmp} {t:List AV} {σ:List Res} {fr:Bool} {df:List Deferred}
theorem IQ {ty:TypeId}{ix:List Nat}{xs cs:List AV}{z:Value}{pl:List (Nat × Nat)} (hp:jQ P ty=some pl) (hz:dW P ty=some z) (hz1:(pE z).cells.all gR=true) (hb:kE pl (pE z).cells (ix.zip xs)=some cs) (hk:dJ κ dm P all Q d rest ⟨t,σ,fr,df⟩ (.agg cs) σ):cC κ dm P all Q d rest ⟨t,σ,fr,df⟩ (.build ty ix) xs :=
 gz (C9 hp hz hz1 hb gH) hk
theorem Em {ty e n sz:Nat}{ix:List Nat}{xs:List AV}{z:Value} (he:g9 P ty=some e) (hs:c9 P e=some sz) (hz:dW P e=some z) (hsz:0 < sz) (hn:0 < n) (hsm:n * sz≤16777216) (hix:ix=List.range n) (hlen:xs.length=n)
  (hgood:cV xs=true) (hc:∀ x∈xs,x.cells.length=sz) (hk:dJ κ dm P all Q d rest ⟨t,σ,fr,df⟩ (.sl sz none xs) σ):cC κ dm P all Q d rest ⟨t,σ,fr,df⟩ (.bslice ty n ix) xs :=
 gz (Am he hs hz hsz hn hsm hix hlen hgood hc gH) hk
end
theorem aU {κ:Ctx}{P:Program}{fn:Func}{K:Ret→List Res→Prop}{s:St}{l:List ResultVar} (h:mg κ P fn K s l):mg κ P fn K s l:=h
def leS (x y:AV):Prop:=∀ (g:Nat→Nat) (w:World) (v:Value),VR g w x v→VR g w y v
theorem dF {x y:AV} (h:x.le y):leS x y:=fun _ _ _ hv=>hv.le h
def o8:List AV→List AV→Prop
 | [],[]=>True
 | x::xs,y::ys=>leS x y∧o8 xs ys
 | _,_=>False
theorem kI:∀ {xs ys:List AV},o8 xs ys→ys.length=xs.length
 | [],[],_=>rfl
 | _::_,_::_,h=>by simp [kI h.2]
 | [],_::_,h=>h.elim
 | _::_,[],h=>h.elim
theorem sO:∀ {xs ys:List AV},o8 xs ys→∀ (k:Nat) (x y:AV),xs[k]? = some x→ys[k]? = some y→leS x y
 | [],[],_,k,x,y,h,_=>by simp at h
 | _::_,_::_,h,0,x,y,h1,h2=>by simp at h1 h2;subst h1;subst h2;exact h.1
 | _::_,_::_,h,k+1,x,y,h1,h2=>sO h.2 k x y (by simpa using h1) (by simpa using h2)
 | [],_::_,h,_,_,_,_,_=>h.elim
 | _::_,[],h,_,_,_,_,_=>h.elim
theorem TR.leS {g:Nat→Nat}{w:World}{xs ys:List AV}{vs:Array Value} (h:TR g w xs vs) (hl:o8 xs ys):TR g w ys vs :=
 ⟨by rw [h.size,kI hl],fun k y hy=>by
  have hlt:k < xs.length:=by rw [← kI hl];exact aK hy
  have hx:xs[k]? = some (xs[k]'hlt):=List.getElem?_eq_getElem hlt
  exact sO hl k _ _ hx hy g w _ (h.get k _ hx)⟩
theorem ACallF.argsS {κ:Ctx}{P:Program}{f:FuncId}{xs ys:List AV}{σ:List Res}{K:Ret→List Res→Prop} (hl:o8 xs ys) (h:ACallF κ P f ys σ K):ACallF κ P f xs σ K :=
 fun φ g w vs hR hv=>h φ g w vs hR (hv.leS hl)
def Qs:List AV→List AV→Prop
 | [],[]=>True
 | x::xs,y::ys=>o8 x.cells y.cells∧Qs xs ys
 | _,_=>False
theorem BO:∀ {xs ys:List AV},Qs xs ys→ys.length=xs.length
 | [],[],_=>rfl
 | _::_,_::_,h=>by simp [BO h.2]
 | [],_::_,h=>h.elim
 | _::_,[],h=>h.elim
theorem wg:∀ {xs ys:List AV},Qs xs ys→∀ (k:Nat) (y:AV),ys[k]? = some y→∃ x,xs[k]? = some x∧o8 x.cells y.cells
 | [],[],_,k,y,h=>by simp at h
 | x::_,_::_,h,0,y,h2=>by simp at h2;subst h2;exact ⟨x,rfl,h.1⟩
 | _::_,_::_,h,k+1,y,h2=>by
  obtain ⟨x,h3,h4⟩:=wg h.2 k y (by simpa using h2)
  exact ⟨x,by simpa using h3,h4⟩
 | [],_::_,h,_,_,_=>h.elim
 | _::_,[],h,_,_,_=>h.elim
theorem NI {sz:Nat}{o:Option (Option (Nat × Nat))}{l l':List AV} (h:Qs l l'):leS (.sl sz o l) (.sl sz o l'):=by
 intro g w v hv
 have hlen:=BO h
 rcases hv.sl_inv with ⟨rfl,_⟩|⟨b,off,cap,rfl,h1,h2,h3,h4,h5,h6,h7⟩
 ·cases l' with
  | nil=>exact hv
  | cons=>exact h.elim
 ·refine VR.sl_mk hlen.symm (by rw [hlen];exact h1) h2 h3 (fun i y hy=>?_) (fun i y k z hy hz=>?_) (by rw [hlen];exact h6) (fun t ht=>by rw [hlen];exact h7 t ht)
  ·obtain ⟨x,hx,hl⟩:=wg h i y hy
   rw [kI hl];exact h4 i x hx
  ·obtain ⟨x,hx,hl⟩:=wg h i y hy
   have hk:k < x.cells.length:=by rw [← kI hl];exact aK hz
   have hxk:x.cells[k]? = some (x.cells[k]'hk):=List.getElem?_eq_getElem hk
   obtain ⟨u,a1,a2⟩:=h5 i x k _ hx hxk
   exact ⟨u,a1,sO hl k _ _ hxk hz g w u a2⟩
theorem KE {x y:AV}{xs ys:List AV} (h1:x.cells=[x]) (h2:y.cells=[y]) (h:leS x y) (hr:Qs xs ys):Qs (x::xs) (y::ys):=⟨by rw [h1,h2];exact ⟨h,trivial⟩,hr⟩
theorem fq {sz:Nat} (h:0 < sz):nilS.le (.sl sz none []):=.inr (.inr (.inr ⟨_,_,rfl,h,rfl⟩))
theorem bq {n:Nat} (h:n≤9223372036854775807):n≤maxLen:=by unfold maxLen;omega
theorem iC {x y:AV} (h:x.le y):zl [x] [y]:=⟨h,trivial⟩
theorem fU {x y x' y':AV} (h:x.le y) (h':x'.le y'):zl [x,x'] [y,y']:=⟨h,h',trivial⟩
theorem aq {n:Int} (h:-9223372036854775808≤n) (h2:n≤9223372036854775807):IntKind.i64.wrap n=n:=by
 rw [IntKind.wrap_i64]<;>omega
theorem KG {m n:Int} (h:-9223372036854775808≤m) (h2:m≤9223372036854775807) (e:n=m):(AV.raw (.int .i64 (IntKind.i64.wrap m))).le (I n):=by
 rw [aq h h2,e];exact le_rfl
theorem IN {m n:Int} (e:n=m):(I m).le (I n):=by
 rw [e];exact le_rfl
end Go.Abs
/-
 Own layer,part x: bytes and strings.
-/



namespace Go.Abs
variable {P:Program} {κ:Ctx} {σ:List Res} {K:AV→List Res→Prop}
abbrev U8 (n:Int):AV:=.raw (.int .u8 n)
theorem tu {s d e:TypeId}{own:Option (Option (Nat × Nat))}{l:List Int} (hs:g9 P s=some e) (he:kT P e=some .u8) (hd:isStr P d=true)
  (hK:K (.raw (.string (strOfNums l))) σ):AAct κ P (.conv s d) [.sl 1 own (l.map U8)] σ K:=by
 intro φ g w vs hR hvs
 obtain ⟨v,rfl,hu⟩:=kO hvs
 have hsl:=aM hs
 have hint:=gV he
 have hst:=fV hd
 refine ⟨.string (strOfNums l),w,g,_,σ, ?_,hR,GE.refl _ _,.raw _,hK⟩
 show (convert s d v).run P w=_
 rcases hu.sl_inv with ⟨h0,⟨ad,cp,rfl,hcp,_⟩,_⟩|⟨b,off,cap,rfl,hcap,hmax,hpos,hc,hel,_⟩
 ·obtain rfl:l=[]:=by simpa using h0
  cases ad with
  | none=>exact run_convert_bytes_nil w s e hsl hint 0 cp d hst
  | some a =>
   rw [run_convert_bytes_string w s d e _ 0 cp hsl hint hst,run_bytesToString w a 0 cp [] (by simp [loadCells,loadCellsFrom])]
   rfl
 ·rw [List.length_map]
  refine run_convert_bytes_arg w s e hsl hint b off l.length cap l rfl (fun i hi=>?_) d hst
  obtain ⟨u,h1,h2⟩:=hel i (U8 (l.getD i 0)) 0 (U8 (l.getD i 0)) (by simp [List.getD_eq_getElem?_getD,hi]) rfl
  cases h2.raw_eq
  simpa using h1
abbrev SU (o:Option (Option (Nat × Nat))) (l:List Int):AV:=.sl 1 o (l.map U8)
theorem D3 {l:List Int}{k:Nat} (h:k < l.length):(l.map U8).getD k .any=U8 (l.getD k 0):=by
 simp [List.getD_eq_getElem?_getD,h]
def cw (s:ByteArray):List Int:=s.data.toList.map fun b=>(b.toNat:Int)
theorem eX (s:ByteArray):(cw s).length=s.size:=by rw [cw,List.length_map,Array.length_toList];rfl
theorem xj (s:ByteArray):∀ c∈cw s,0≤c∧c≤255:=by
 intro c hc
 simp only [cw,List.mem_map] at hc
 obtain ⟨b,_,rfl⟩:=hc
 have:=b.toNat_lt
 omega
theorem oE {l:List Int} (h:∀ c∈l,0≤c∧c≤255):cw (strOfNums l)=l:=by
 rw [cw,strOfNums_data,List.map_map]
 conv=>rhs;rw [← List.map_id l]
 apply List.map_congr_left
 intro c hc
 have:=h c hc
 simp only [Function.comp,UInt8.toNat_ofNat',id]
 omega
theorem tH (a b:List Int):strOfNums a++strOfNums b=strOfNums (a++b):=by
 apply ByteArray.ext
 apply Array.ext'
 rw [ByteArray.data_append,Array.toList_append,strOfNums_data,strOfNums_data,strOfNums_data,List.map_append]
theorem rm (a b:ByteArray):(a.toList == b.toList)=decide (a=b):=by
 rw [Bool.eq_iff_iff,beq_iff_eq,decide_eq_true_eq]
 refine ⟨fun h=>?_,fun h=>by rw [h]⟩
 rw [ByteArray.toList_eq,ByteArray.toList_eq] at h
 exact ByteArray.ext (Array.ext' h)
theorem tz {s d e:TypeId}{x:ByteArray} (hs:isStr P s=true) (hd:g9 P d=some e) (he:kT P e=some .u8) (hx:x.size≤maxLen)
  (hK:K (SU none (cw x)) σ):AAct κ P (.conv s d) [.raw (.string x)] σ K:=by
 intro φ g w vs hR hvs
 obtain ⟨v,rfl,hu⟩:=kO hvs
 cases hu.raw_eq
 have hrun:=run_bytes_of_string (P:=P) w s d e x (fV hs) (aM hd) (gV he)
 have hcap:=grownCap_ge w x.size 0 e
 have hcapm:=grownCap_le_maxLen w x.size 0 e hx
 generalize grownCap w x.size 0 e=c at hrun hcap hcapm
 generalize hfz:((bytesRow x c).size,(bytesRow x c).size+1)=fz at hrun
 have hRd:Rel κ g (φ++σ) w.drew:=hR.drew _
 have hge0:GE g w g w.drew:=GE.drew _
 have H:=GE.alloc hRd (.cells (bytesRow x c) e fz) x.size
 have hsize:w.drew.heap.size=w.heap.size:=rfl
 refine ⟨_,_,wU g w.heap.size x.size,SU none (cw x),σ,hrun, ?_,hge0.trans H, ?_,hK⟩
 ·exact hRd.lost H rfl rfl rfl (by simp) (fun b hb=>eS _ _ b hb) (fun b hb=>eA hb)
 ·refine VR.sl_mk (by rw [List.length_map,eX]) (by rw [List.length_map,eX];exact hcap) hcapm (by decide) ?_ ?_ ?_ (fun t ht=>by cases ht)
  ·intro i y hy
   rw [List.getElem?_map] at hy
   cases h:(cw x)[i]? with
   | none=>rw [h] at hy;cases hy
   | some z=>rw [h] at hy;cases hy;rfl
  ·intro i y k z hy hz
   rw [List.getElem?_map] at hy
   cases h:(cw x)[i]? with
   | none=>rw [h] at hy;cases hy
   | some n =>
    rw [h] at hy;cases hy
    cases k with
    | succ k=>simp [AV.cells] at hz
    | zero =>
     simp [AV.cells] at hz
     subst hz
     refine ⟨.int .u8 n, ?_,.raw _⟩
     have hi:i < x.data.size:=by
      have:=aK h;rw [eX] at this;exact this
     simp only [World.cell?]
     rw [show (w.drew.alloc (Obj.cells (bytesRow x c) e fz)).heap[w.heap.size]? = _ from eQ w.drew _]
     simp only [Option.isSome_none,Bool.false_eq_true,if_false,Nat.zero_add,Nat.mul_one,Nat.add_zero,bytesRow]
     rw [Array.getElem?_append_left (by simpa using hi)]
     simp only [cw,List.getElem?_map] at h
     simp only [Array.getElem?_map]
     cases hb:x.data.toList[i]? with
     | none=>rw [hb] at h;cases h
     | some b=>
      rw [hb] at h
      simp only [Option.map_some,Option.some.injEq] at h
      have:x.data[i]? = some b:=by simpa using hb
      rw [this,← h]
      rfl
  ·rw [List.length_map,eX,ez];omega
section
variable {dm:Bool} {all rest:List Oper} {Q:Exit→St→Prop} {d:Option Tmp} {t:List AV} {fr:Bool} {df:List Deferred} {a b:TypeId}
theorem kD {sz:Nat}{o:Option (Option (Nat × Nat))}{l:List AV}:xo κ dm P all Q d rest ⟨t,σ,fr,df⟩ a b (.sl sz o l)=cC κ dm P all Q d rest ⟨t,σ,fr,df⟩ (.conv a b) [.sl sz o l]:=rfl
theorem t9 {x:ByteArray}:xo κ dm P all Q d rest ⟨t,σ,fr,df⟩ a b (.raw (.string x))=cC κ dm P all Q d rest ⟨t,σ,fr,df⟩ (.conv a b) [.raw (.string x)]:=rfl
end
theorem cr {x:AV}:leS x x:=fun _ _ _ h=>h
theorem qO {xs ys:List AV} (h:o8 xs ys):leS (.tup xs) (.tup ys):=fun g w v hv=>by
 cases hv with
 | tup vs hs hv =>
  have ht:TR g w xs vs:=⟨hs,hv⟩
  have h2:=ht.leS h
  exact .tup vs h2.size h2.get
theorem qM {xs ys:List AV} (h:o8 xs ys):leS (.agg xs) (.agg ys):=fun g w v hv=>by
 cases hv with
 | agg vs hs hv =>
  have ht:TR g w xs vs:=⟨hs,hv⟩
  have h2:=ht.leS h
  exact .agg vs h2.size h2.get
def Ur:Ret→Ret→Prop
 | .ret x,.ret y=>leS x y
 | .pan c,.pan d=>c=d
 | _,_=>False
def G5 (K:Ret→List Res→Prop):Ret→List Res→Prop:=fun r σ'=>∃ (ρ:List Res) (r':Ret),Sub ρ σ'∧Ur r r'∧K r' ρ
theorem Ad {K:Ret→List Res→Prop}{φ:List Res}{g:Nat→Nat}{w:World}{e:Ending}{w':World} (h:eE κ φ g w (G5 K) e w'):eE κ φ g w K e w':=by
 obtain ⟨g',σ',r,h1,h2,h3,ρ,r',⟨σ2,hp,hs⟩,hle,hk⟩:=h
 refine ⟨g',ρ,r', ?_,h2, ?_,hk⟩
 ·exact (h1.sub ((List.Sublist.refl φ).append hs)).perm (hp.append_left φ)
 ·cases r with
  | ret x =>
   cases r' with
   | ret y =>
    cases e with
    | returned v=>exact hle _ _ _ h3
    | panicked c=>exact h3.elim
    | _=>exact h3.elim
   | pan d=>exact hle.elim
  | pan c =>
   cases r' with
   | ret y=>exact hle.elim
   | pan d=>cases hle;exact h3
theorem ACallF.dropS {f:FuncId}{args:List AV}{K:Ret→List Res→Prop} (h:ACallF κ P f args σ (G5 K)):ACallF κ P f args σ K :=
 fun φ g w vs hR hv=>CallsIn.mono (h φ g w vs hR hv) (fun _ _ hp=>Ad hp)
theorem B7 {K:Ret→List Res→Prop}{σ σ':List Res}{x y:AV} (hs:Sub σ σ') (h:leS x y) (hK:K (.ret y) σ):G5 K (.ret x) σ':=⟨σ,.ret y,hs,h,hK⟩
theorem ResW.of_eq {σ τ:List Res} (h:σ=τ):ResW σ τ:=h ▸ ResW.refl _
theorem gT:o8 [] []:=trivial
theorem cz {x y:AV}{xs ys:List AV} (h:leS x y) (h2:o8 xs ys):o8 (x::xs) (y::ys):=⟨h,h2⟩
/-! ### Where a walk is cut -/
def Qo (p:Prop):Prop:=p
section
variable {rd:Option Nat} {Q:Exit→St→Prop} {s:St}
theorem ko {id:Nat}{ops:Array Oper}{d:Bool}{y:Code} (h:Qo (AW κ rd P (.seq (.region id ops d) y) Q s)):AW κ rd P (.seq (.region id ops d) y) Q s:=h
theorem jK {id:Nat}{ops:Array Oper}{d:Bool}{x y:Code} (h:Qo (AW κ rd P (.seq (.seq (.region id ops d) x) y) Q s)):AW κ rd P (.seq (.seq (.region id ops d) x) y) Q s:=h
theorem B4 {id:Nat}{x y:Code} (h:Qo (AW κ rd P (.seq (.block id x) y) Q s)):AW κ rd P (.seq (.block id x) y) Q s:=h
theorem bW {c:Code} (h:Qo (AW κ rd P (.loop c) Q s)):AW κ rd P (.loop c) Q s:=h
theorem dM {X:Type} (st:X→St) (C:X→Prop) (μ:X→Nat) {c:Code} (x0:X) (hle0:s.le (st x0)) (hC0:C x0)
  (hround:∀ x,C x→AW κ rd P c (eN (fun s'=>∃ y,s'.le (st y)∧C y∧μ y < μ x) Q) (st x)):Qo (AW κ rd P (.loop c) Q s):=K5 st C μ x0 hle0 hC0 hround
theorem nt {X:Type} (st:X→St) (C:X→Prop) {x y:Code} (h1:AW κ rd P x (eN (fun s'=>∃ z,s'.le (st z)∧C z) Q) s) (h2:∀ z,C z→AW κ rd P y Q (st z)):Qo (AW κ rd P (.seq x y) Q s):=KA st C h1 h2
end
/-! ### A scope through which the run goes straight -/
theorem gQ {P:Program}{b:Frame}{a:Act}{k:List Item}{cs:List Frame}{w:World}{c:Code} :
  step P (lone (b.atR a (.code (.scope c)::k)) cs w)=.next (lone (b.atR a (.code c::.inScope c::k)) cs w) :=
 step_lone_go (by simp [stepG,stepG.exec,Frame.atR])
theorem tO {P:Program}{b:Frame}{a:Act}{k:List Item}{cs:List Frame}{w:World}{c:Code} :
  step P (lone (b.atR a (.inScope c::k)) cs w)=.next (lone (b.atR a k) cs w) :=
 step_lone_go (by simp [stepG,stepG.exec,Frame.atR])
def zH (Q:Exit→St→Prop):Exit→St→Prop
 | .goto _,_=>False
 | e,s=>Q e s
section
variable {Q:Exit→St→Prop} {s:St} {rd:Option Nat}
theorem jS:zH Q .ret s=Q .ret s:=rfl
theorem jq {c:List PanicEntry}:zH Q (.panic c) s=Q (.panic c) s:=rfl
theorem DS {c:Code}:run κ P rd (.scope c) Q s=AW κ rd P (.scope c) Q s:=rfl
theorem y5 {c:Code} (h:AW κ rd P c (zH Q) s):AW κ rd P (.scope c) Q s:=fun φ g a w hs=>by
 intro b k cs hro hb hr
 obtain ⟨e,a₁,w₁,hq,harr⟩:=h φ g a w hs b (.inScope c::k) cs hro hb hr
 have h0:(lone (b.atR a (.code (.scope c)::k)) cs w).fenced P (FD rd):=fenced_calm hb hr rfl
 obtain ⟨g',s',hs',hge,hq⟩:=hq
 cases e with
 | normal=>exact ⟨.normal,a₁,w₁,⟨g',s',hs',hge,hq⟩,.head h0 gQ (StepsIn.trans harr (.one (fenced_calm hb hr rfl) tO))⟩
 | exit id=>exact ⟨.exit id,a₁,w₁,⟨g',s',hs',hge,hq⟩,.of_steps (.one h0 gQ) ⟨fun k' hk=>harr.1 k' (by simpa [exitTo] using hk),fun hr hk=>harr.2 hr (by simpa [exitTo] using hk)⟩⟩
 | goto l=>exact hq.elim
 | ret=>exact ⟨.ret,a₁,w₁,⟨g',s',hs',hge,hq⟩,.of_steps (.one h0 gQ) harr⟩
 | panic ch=>exact ⟨.panic ch,a₁,w₁,⟨g',s',hs',hge,hq⟩,.of_steps (.one h0 gQ) harr⟩
 | outgrown=>exact ⟨.outgrown,a₁,w₁,⟨g',s',hs',hge,hq⟩,.of_steps (.one h0 gQ) harr⟩
end
/-! ### The greater and the smaller of two numbers -/
theorem IL {ts:Array TypeId}{t:TypeId}{k:IntKind}{a b:Int} (hK:K (.raw (.int k (max a b))) σ):AAct κ P (.minmax true ts t) [.raw (.int k a),.raw (.int k b)] σ K:=by
 intro φ g w vs hR hvs
 obtain ⟨v,u,rfl,hv,hu⟩:=dZ hvs
 cases hv.raw_eq
 cases hu.raw_eq
 have e:(if b > a then b else a)=max a b:=by split<;>omega
 refine ⟨_,w,g,_,σ, ?_,hR,GE.refl _ _,.raw _,hK⟩
 show (Builtin.max_ ts t #[.int k a,.int k b]).run P w=_
 rw [← e]
 simp [Builtin.max_,Builtin.max2]
theorem Fa {ts:Array TypeId}{t:TypeId}{k:IntKind}{a b:Int} (hK:K (.raw (.int k (min a b))) σ):AAct κ P (.minmax false ts t) [.raw (.int k a),.raw (.int k b)] σ K:=by
 intro φ g w vs hR hvs
 obtain ⟨v,u,rfl,hv,hu⟩:=dZ hvs
 cases hv.raw_eq
 cases hu.raw_eq
 have e:(if b < a then b else a)=min a b:=by split<;>omega
 refine ⟨_,w,g,_,σ, ?_,hR,GE.refl _ _,.raw _,hK⟩
 show (Builtin.min_ ts t #[.int k a,.int k b]).run P w=_
 rw [← e]
 simp [Builtin.min_,Builtin.min2]
section
variable {fn:Func} {t:List AV} {fr:Bool} {df:List Deferred} {K:Ret→List Res→Prop}
theorem TR.three {g:Nat→Nat}{w:World}{x y z:AV}{v u r:Value} (h:VR g w x v) (h2:VR g w y u) (h3:VR g w z r):TR g w [x,y,z] #[v,u,r]:=by
 have:=TR.cons (vs:=[u,r]) h (TR.cons (vs:=[r]) h2 (TR.cons (vs:=[]) h3 TR.nil))
 exact this
theorem oi {a b c:Tmp}{ty:TypeId}{x:AV} (hf:fn.results = #[.cell a ty,.tmp b,.tmp c]) (h:ga P κ σ ty (t.getD a .any) x) (hK:K (.ret (.tup [x,t.getD b .any,t.getD c .any])) σ):mg κ P fn K ⟨t,σ,fr,df⟩ [.cell a ty,.tmp b,.tmp c]:=by
 intro φ g w tmps hR ht
 obtain ⟨p,u,h1,h2,h3⟩:=h φ g w _ hR (FX ht a)
 have h1':tmps[a]?.getD undef=.pointer (some p):=by simpa using h1
 have h4:=TR.three h3 (FX ht b) (FX ht c)
 exact ⟨.tuple #[u,tmps.getD b undef,tmps.getD c undef],_,by simp [results,hf,h1',asAddr,h2],.tup _ h4.size h4.get,hK⟩
end
section
variable {rd:Option Nat} {Q:Exit→St→Prop} {s:St}
theorem aB {id:Nat}{ops:Array Oper} (h:run κ P rd (.region id ops false) Q s):AW κ rd P (.region id ops false) Q s:=mV h
theorem aw {c:Operand}{x y:Code} (h:run κ P rd (.cond c x y) Q s):AW κ rd P (.cond c x y) Q s:=mV h
theorem AU {id:Nat} (h:run κ P rd (.exit id) Q s):AW κ rd P (.exit id) Q s:=mV h
theorem aY (h:run κ P rd .ret Q s):AW κ rd P .ret Q s:=mV h
end
end Go.Abs
