/-
  Texts Mm, Mn, Mo, Mp, Mq, Mr, Ms, Mt, one behind the other.
-/
import Derived.Test.YthkabaiamcjdbaaGreatJ2
import Derived.RangeFuncNested
import Derived.Laws.Tables
import Derived.Carry
import Derived.ChangeArms
import Derived.ChangeSame
import Derived.DataReads
set_option linter.unusedVariables false
set_option linter.unusedSimpArgs false
set_option maxHeartbeats 16000000
namespace Go.Abs
open Go.RowKit
section
variable {κ:Ctx} {P:Program} {rd:Option Nat} {Q:Exit→St→Prop} {s:St} {σ:List Res}
theorem Rel.new_loop {g:Nat→Nat}{ρ:List Res}{w:World} (h:Rel κ g ρ w) (r:Loop) {t:List AV} (ht:TR g w t r.tmps) :
  Rel κ g (.loop w.heap.size r.state r.pending t r.params r.assign r.body (r.defers,r.fn)::ρ) (w.alloc (.loop r))∧GE g w g (w.alloc (.loop r)):=by
 have H:=GE.alloc h (.loop r) 0
 rw [tA h] at H;refine ⟨h.fresh H rfl rfl rfl (by simp) (fun b hb=>fp w _ b hb) (fun b _=>rfl) rfl ⟨h.new _ (Nat.le_refl _),r,fj w _,rfl,rfl,rfl,rfl,rfl,rfl,ht.mono H⟩,H⟩
theorem gy {φ:List Res}{g:Nat→Nat}{w:World}{l i:Nat}{d:Nat × Nat}{st:LoopState}{pend:Option Code}{t:List AV}{ps:Array Tmp}{assign body:Code} (hR:Rel κ g (φ++σ) w) (h:σ[i]? = some (.loop l st pend t ps assign body d)) :
  ∃ r:Loop,w.heap[l]? = some (.loop r)∧r.state=st∧r.pending=pend∧r.params=ps∧r.assign=assign∧r.body=body∧(r.defers,r.fn)=d∧TR g w t r.tmps ∧
   ∀ st' pend',Rel κ g (φ++σ.set i (.loop l st' pend' t ps assign body d)) { w with heap:=w.heap.setIfInBounds l (.loop { r with state:=st',pending:=pend' }) }∧GE g w g { w with heap:=w.heap.setIfInBounds l (.loop { r with state:=st',pending:=pend' }) }:=by
 obtain ⟨h0,r,h1,a1,a2,a3,a4,a5,a6,a7⟩:=hR.holds _ (cN h);refine ⟨r,h1,a1,a2,a3,a4,a5,a6,a7,fun st' pend'=>?_⟩;have hlt:l < w.heap.size:=(hR.bnd _ (cN h) l rfl).2
 have hsame:∀ b,b≠l→({ w with heap:=w.heap.setIfInBounds l (.loop { r with state:=st',pending:=pend' }) }:World).heap[b]? = w.heap[b]?:=fun b hb=>by
  simp only [Array.getElem?_setIfInBounds];rw [if_neg (fun e=>hb e.symm)]
 have hge:GE g w g { w with heap:=w.heap.setIfInBounds l (.loop { r with state:=st',pending:=pend' }) }:=by
  refine ⟨by simp,fun _=>Nat.le_refl _,fun b o ho=>?_,fun b=>?_⟩
  ·have hb:b≠l:=fun e=>by subst e;rw [h0] at ho;omega
   simp only [World.cell?];rw [hsame b hb]
  ·by_cases hb:b=l
   ·subst hb;simp [bu,h1]
   ·simp only [bu];rw [hsame b hb];exact Nat.le_refl _
 have hR':=hR.perm (c6 (φ:=φ) (dE h))
 have hR2:Rel κ g (.loop l st' pend' t ps assign body d::(φ++σ.eraseIdx i)) { w with heap:=w.heap.setIfInBounds l (.loop { r with state:=st',pending:=pend' }) } :=
  hR'.change hge rfl rfl rfl (by simp) hsame (fun _ _=>rfl) rfl rfl ⟨h0,{ r with state:=st',pending:=pend' },by simp [hlt],rfl,rfl,a3,a4,a5,a6,a7.mono hge⟩
 exact ⟨hR2.perm (List.perm_middle.symm.trans ((fq h).append_left φ)),hge⟩
def yg (κ:Ctx) (P:Program) (rd:Option Nat) (Q:Exit→St→Prop) (s:St) (l:Nat) (ps:Array Tmp) (assign body:Code) (d:Nat × Nat) (r:Ret) (σ':List Res):Prop :=
 ∃ j st pend,σ'[j]? = some (.loop l st pend s.t ps assign body d) ∧
  match r with
  | .ret _=>st≠.busy∧(match pend with
    | none=>Q .normal ⟨s.t,σ'.eraseIdx j,rd.isSome && s.fr,s.df⟩
    | some c=>run κ P rd c Q ⟨s.t,σ'.eraseIdx j,rd.isSome && s.fr,s.df⟩)
  | .pan c=>Q (.panic c) ⟨s.t,σ'.eraseIdx j,rd.isSome && s.fr,s.df⟩
theorem nv {α:Type}:∀ (l:List α) (i:Nat),(l.eraseIdx i).Sublist l:=fun l i=>List.eraseIdx_sublist l i
theorem wb {l:Nat}{g:Nat→Nat}{w:World}{first cap:Array Value}:TR g w (first.toList.map .raw++[.raw (.func (.yield l) #[] #[])]++cap.toList.map .raw) (first ++ #[.func (.yield l) #[] #[]]++cap) :=
 ((TR.raws first).append (TR.one (.raw _))).append (TR.raws cap)
theorem Jv {f:Operand}{ps:Array Tmp}{assign body:Code}{gf:FuncId}{first cap:Array Value} (hf:s.ev f=.raw (.func (.func gf) first cap)) (hok:ao P gf)
  (h:∀ l d,ACallF κ P gf (first.toList.map .raw++[.raw (.func (.yield l) #[] #[])]++cap.toList.map .raw) (.loop l .ready none s.t ps assign body d::s.σ) (yg κ P none Q s l ps assign body d)) :
  AW κ none P (.rangeFunc f ps assign body) Q s:=by
 intro φ g a w hs;refine wpIn_rangeFunc (F:=FD none) (fun fn _=>?_);obtain ⟨ds,hd,hfr,hR,ht⟩:=hs;have hfv:=du ht f
 rw [hf] at hfv;have hfv':=hfv.raw_eq
 obtain ⟨fnn,hfn,hn1,hn2⟩:=hok;obtain ⟨b1,b2⟩:=hR.new_blk (.deferred (some [])) trivial;obtain ⟨c1,c2⟩:=b1.new_loop { state:=.ready,pending:=none,fn:=fn,tmps:=a.tmps,params:=ps,assign:=assign,body:=body,defers:=w.heap.size } (ht.mono b2);generalize hw2:(w.alloc (.deferred (some []))).alloc (.loop { state:=.ready,pending:=none,fn:=fn,tmps:=a.tmps,params:=ps,assign:=assign,body:=body,defers:=w.heap.size })=w2 at *;have hl:(w.alloc (.deferred (some []))).heap.size=w.heap.size+1:=by simp
 rw [hl] at c1;simp only at c1;have hp:(Res.loop (w.heap.size+1) .ready none s.t ps assign body (w.heap.size,fn)::(Res.blk w.heap.size (.deferred (some []))::(φ++(ds.map gk++s.σ)))).Perm ((φ++(w.heap.size::ds).map gk)++(Res.loop (w.heap.size+1) .ready none s.t ps assign body (w.heap.size,fn)::s.σ)):=by
  simp only [List.map_cons];have p1:(Res.blk w.heap.size (.deferred (some []))::(φ++(ds.map gk++s.σ))).Perm (φ++(gk w.heap.size::ds.map gk)++s.σ):=by
   rw [← List.append_assoc];refine List.Perm.trans ?_ ((List.perm_middle (a:=gk w.heap.size) (l₁:=φ) (l₂:=ds.map gk)).symm.append_right s.σ);exact List.Perm.refl _
  exact (p1.cons _).trans List.perm_middle.symm
 have hR2:=c1.perm hp
 have hge:=b2.trans c2
 refine ⟨w.heap.size+1,[kF w.heap.size],w2,{ target:=.fn (.func gf) cap,args:=first ++ #[.func (.yield (w.heap.size+1)) #[] #[]] },w2,gf,first ++ #[.func (.yield (w.heap.size+1)) #[] #[]]++cap,w2, ?_, ?_,fun _ _=>trivial, ?_,yX, ?_⟩
 ·rw [← hw2];exact run_enterLoop_outer fn a.tmps ps assign body
 ·show Sem.run P (Deferred.ofValue (a.eval f) _) w2=_
  rw [hfv'];simp [Deferred.ofValue,Act.eval]
 ·simp only [invoke];exact jA hfn hn1 hn2 _ _
 ·refine oM (CallsIn.mono (h (w.heap.size+1) (w.heap.size,fn) _ g w2 _ hR2 wb) ?_) none _
  rintro e w3 ⟨g',σ',r,hR3,hge3,her,j,st,pend,hj,hk⟩;obtain ⟨rec,k1,k2,k3,k4,k5,k6,k7,k8,k9⟩:=gy hR3 hj;have ht3:TR g' w3 s.t a.tmps:=(ht.mono hge).mono hge3
  cases r with
  | ret x =>
   cases e with
   | returned v =>
    obtain ⟨hst,hk⟩:=hk;obtain ⟨k10,k11⟩:=k9 .exhausted pend;refine ⟨pend,{ w3 with heap:=w3.heap.setIfInBounds (w.heap.size+1) (.loop { rec with state:=.exhausted,pending:=pend }) }, ?_, ?_⟩
    ·subst k3
     exact run_endLoop k1 (by rw [k2];exact hst)
    ·have hs':SR κ φ g' ⟨s.t,σ'.eraseIdx j,false,s.df⟩ { a with defers:=[kF w.heap.size]++a.defers } { w3 with heap:=w3.heap.setIfInBounds (w.heap.size+1) (.loop { rec with state:=.exhausted,pending:=pend }) }:=by
      refine ⟨w.heap.size::ds,by simp [hd],fun e=>(by cases e), ?_,ht3.mono k11⟩;have:=k10.sub ((List.Sublist.refl (φ++(w.heap.size::ds).map gk)).append (nv _ j))
      rw [← List.append_assoc];have e2:(σ'.set j (.loop (w.heap.size+1) .exhausted pend s.t ps assign body (w.heap.size,fn))).eraseIdx j=σ'.eraseIdx j:=by
       rw [List.eraseIdx_set_eq]
      rw [e2] at this;exact this
     cases pend with
     | none=>exact ⟨g',_,hs',(hge.trans hge3).trans k11,hk⟩
     | some c=>exact wpIn_mono (cE c Q _ hk φ g' _ _ hs') (fun e a4 w4 hp=>hp.mono ((hge.trans hge3).trans k11))
   | panicked c=>exact her.elim
   | outgrown=>exact her.elim
  | pan c =>
   cases e with
   | returned v=>exact her.elim
   | panicked c' =>
    cases (show c'=c from her)
    refine ⟨g',⟨s.t,σ'.eraseIdx j,false,s.df⟩,⟨w.heap.size::ds,by simp [hd],fun e=>(by cases e), ?_,ht3⟩,hge.trans hge3,hk⟩;rw [← List.append_assoc];exact hR3.sub ((List.Sublist.refl (φ++(w.heap.size::ds).map gk)).append (nv _ j))
   | outgrown=>exact her.elim
/-! ### A call of yield -/
def je:List AV→List Tmp→List AV→List AV
 | t,p::ps,x::xs=>je (t.set p x) ps xs
 | t,_,_=>t
theorem tC {g:Nat→Nat}{w:World}:∀ (ps:List Tmp) (xs:List AV) (vs:List Value) (t:List AV) (tmps:Array Value),TR g w t tmps→TR g w xs vs.toArray→TR g w (je t ps xs) ((ps.zip vs).foldl (fun tmps (x:Tmp × Value)=>tmps.setIfInBounds x.1 x.2) tmps)
 | [],_,_,t,tmps,h,_=>by simpa [je] using h
 | p::ps,[],vs,t,tmps,h,hv=>by
  have:=mE hv
  subst this;simpa [je] using h
 | p::ps,x::xs,vs,t,tmps,h,hv=>by
  match vs,hv.size with
  | v::vs,hsz =>
   have hx:VR g w x v:=by simpa using hv.get 0 x rfl
   have hxs:TR g w xs vs.toArray:=⟨by simpa using hsz,fun m y hm=>by
    have:=hv.get (m+1) y (by simpa using hm)
    simpa [Array.getD_eq_getD_getElem?] using this⟩
   have h1:TR g w (t.set p x) (tmps.setIfInBounds p v):=TR.put h (some p) hx []
   simpa [je] using tC ps xs vs _ _ h1 hxs
def UJ (l:Nat) (t:List AV) (ps:Array Tmp) (assign body:Code) (d:Nat × Nat) (K:Ret→List Res→Prop):Exit→St→Prop
 | .normal,s=>∃ j,s.σ[j]? = some (.loop l .busy none t ps assign body d)∧K (.ret (B true)) (s.σ.set j (.loop l .ready none t ps assign body d))
 | .ret,s=>∃ j,s.σ[j]? = some (.loop l .busy none t ps assign body d)∧K (.ret (B false)) (s.σ.set j (.loop l .done (some .ret) t ps assign body d))
 | .exit id,s=>∃ j,s.σ[j]? = some (.loop l .busy none t ps assign body d)∧K (.ret (B false)) (s.σ.set j (.loop l .done (some (.exit id)) t ps assign body d))
 | _,_=>False
theorem DE {l:Nat}{args:List AV}{K:Ret→List Res→Prop}{t:List AV}{ps:Array Tmp}{assign body:Code}{d:Nat × Nat} (Q1:Exit→St→Prop) (hQ:∀ e s,Q1 e s→UJ l t ps assign body d K e s) (i:Nat) (h:σ[i]? = some (.loop l .ready none t ps assign body d)) (hps:ps.size=args.length)
  (hrun:run κ P (some l) assign (eY (fun s1=>∃ j,s1.σ[j]? = some (.loop l .ready none t ps assign body d)∧run κ P (some l) body Q1 ⟨s1.t,s1.σ.set j (.loop l .busy none t ps assign body d),s1.fr,s1.df⟩) (fun _ _=>False)) ⟨je t ps.toList args,σ,true,[]⟩):ACallY κ P l args σ K:=by
 intro φ g w vs hR hv;obtain ⟨r,k1,k2,k3,k4,k5,k6,k7,k8,_⟩:=gy hR h;refine ⟨r.fn,(r.params.zip vs).foldl (fun tmps (x:Tmp × Value)=>tmps.setIfInBounds x.1 x.2) r.tmps,assign,body, ?_, ?_⟩
 ·have:=run_yield (P:=P) (args:=vs) k1 (by rw [hv.size,k4,hps])
  rw [k5,k6] at this;exact this
 ·refine roundIn_of_wpIn (F:=Fence.wide) trivial ?_
  have hs:SR κ φ g ⟨je t ps.toList args,σ,true,[]⟩ { tmps:=(r.params.zip vs).foldl (fun tmps (x:Tmp × Value)=>tmps.setIfInBounds x.1 x.2) r.tmps,defers:=[] } w:=by
   refine ⟨[],rfl,fun _=>rfl,by simpa using hR, ?_⟩;have:=tC ps.toList args vs.toList t r.tmps k8 (by simpa using hv)
   rw [k4];have e:((ps.zip vs).foldl (fun tmps (x:Tmp × Value)=>tmps.setIfInBounds x.1 x.2) r.tmps)=((ps.toList.zip vs.toList).foldl (fun tmps (x:Tmp × Value)=>tmps.setIfInBounds x.1 x.2) r.tmps):=by
    rw [← Array.toList_zip,Array.foldl_toList]
   rw [e];exact this
  refine wpIn_mono (cE assign _ _ hrun φ g _ w hs) ?_;rintro e a1 w1 ⟨g1,s1,hs1,hge1,hq⟩;cases e with
  | normal =>
   obtain ⟨j,hj,hbody⟩:=hq;obtain ⟨ds1,hd1,hfr1,hR1,ht1⟩:=hs1;rw [← List.append_assoc] at hR1;obtain ⟨r1,m1,m2,m3,m4,m5,m6,m7,m8,m9⟩:=gy hR1 hj;obtain ⟨m10,m11⟩:=m9 .busy none;refine ⟨{ w1 with heap:=w1.heap.setIfInBounds l (.loop { r1 with state:=.busy,pending:=none }) }, ?_, ?_⟩
   ·have hpend:({ r1 with state:=LoopState.busy,pending:=none }:Loop)={ r1 with state:=LoopState.busy }:=by rw [← m3]
    rw [hpend];exact run_beginRound m1 m2
   ·have hs2:SR κ φ g1 ⟨s1.t,s1.σ.set j (.loop l .busy none t ps assign body d),s1.fr,s1.df⟩ a1 { w1 with heap:=w1.heap.setIfInBounds l (.loop { r1 with state:=.busy,pending:=none }) } :=
     ⟨ds1,hd1,hfr1,by rw [← List.append_assoc];exact m10,ht1.mono m11⟩
    refine wpIn_mono (cE body _ _ hbody φ g1 a1 _ hs2) ?_;have fin:∀ (jump:Option Code) (b:Bool) (a2:Act) (w2:World) (g2:Nat→Nat) (s2:St) (st':LoopState),SR κ φ g2 s2 a2 w2→GE g w g2 w2→st'=(if jump.isNone then .ready else .done)→b=jump.isNone→(∃ j,s2.σ[j]? = some (.loop l .busy none t ps assign body d)∧K (.ret (B b)) (s2.σ.set j (.loop l st' jump t ps assign body d))) →
      ∃ v w',(Instr.endRound l jump).run P w2=.ok v w'∧fL κ φ g w K (.returned v) w':=by
     intro jump b a2 w2 g2 s2 st' hs2 hge2 hst hb hex;obtain ⟨j2,hj2,hk⟩:=hex;obtain ⟨ds2,hd2,hfr2,hR2,ht2⟩:=hs2;rw [← List.append_assoc] at hR2;obtain ⟨r2,n1,n2,n3,n4,n5,n6,n7,n8,n9⟩:=gy hR2 hj2;obtain ⟨n10,n11⟩:=n9 st' jump;refine ⟨.bool jump.isNone,{ w2 with heap:=w2.heap.setIfInBounds l (.loop { r2 with state:=st',pending:=jump }) }, ?_,g2,_,.ret (B b), ?_,hge2.trans n11,by rw [hb];exact .raw _,hk⟩
     ·rw [hst];exact run_endRound jump n1
     ·rw [List.append_assoc] at n10
      exact n10.sub ((List.Sublist.refl φ).append (List.sublist_append_right _ _))
    rintro e a2 w2 ⟨g2,s2,hs3,hge3,hq2⟩
    replace hq2:=hQ _ _ hq2
    have hge4:GE g w g2 w2:=hge1.trans (m11.trans hge3)
    cases e with
    | normal=>exact fin none true a2 w2 g2 s2 .ready hs3 hge4 rfl rfl hq2
    | ret=>exact fin (some .ret) false a2 w2 g2 s2 .done hs3 hge4 rfl rfl hq2
    | exit id=>exact fin (some (.exit id)) false a2 w2 g2 s2 .done hs3 hge4 rfl rfl hq2
    | goto id=>exact hq2.elim
    | panic c=>exact hq2.elim
    | outgrown=>exact hq2.elim
  | exit id=>exact hq.elim
  | goto id=>exact hq.elim
  | ret=>exact hq.elim
  | panic c=>exact hq.elim
  | outgrown=>exact hq.elim
end
def bQ (o:Oper):List Nat:=(o.after.toList.filter (Region.binds .any)).map (·.on)
def mN (ops:List Oper):Nat→List Nat→List Nat
 | 0,l=>l
 | n+1,l=>mN ops n (l++(l.flatMap fun i=>(ops[i]?).elim [] bQ).eraseDups).eraseDups
def yn (ops:List Oper) (nA:Nat):Bool :=
 ops.zipIdx.all (fun (o,i)=>(bQ o).all (fun j=>decide (j < i))) &&
 (ops.take nA).all (fun o=>o.dst.isSome && (o.looksAt ops.toArray).all (fun t=>ops.zipIdx.all (fun (o',j)=>o'.dst != some t || (bQ o).contains j))) &&
 (ops.take nA).zipIdx.all (fun (o,i)=>(ops.take nA).zipIdx.all (fun (o',j)=>i == j || o.dst != o'.dst)) &&
 (ops.zipIdx.drop nA).all (fun (o,i)=>if i == nA then (List.range nA).all (fun j=>(mN ops ops.length (bQ o)).contains j) else (bQ o).contains (i - 1)) &&
 decide (nA≤ops.length)
def blank (ds:List (Option Tmp)) (t:List AV):List AV:=ds.foldl (fun t d=>bP t d .any) t
def l8 (tF:List AV) (σ:List Res) (fr:Bool) (df:List Deferred) (e:Exit) (s:St):Prop:=e=.normal∧s=⟨tF,σ,fr,df⟩
def idem (κ:Ctx) (P:Program) (all:List Oper) (tF:List AV) (σ:List Res) (fr:Bool) (df:List Deferred):List Oper→Prop
 | []=>True
 | o::r=>bA κ false P all (l8 tF σ fr df) [o] ⟨tF,σ,fr,df⟩∧idem κ P all tF σ fr df r
section
variable {κ:Ctx} {P:Program} {rd:Option Nat}
theorem jD {o:Oper}{s s':St}{K:AV→List Res→Prop}{KP:List PanicEntry→List Res→Prop} (hσ:s.σ=s'.σ) (h:∀ x∈o.op.operands.toList,s.ev x=s'.ev x) (hr:eZ κ false P o s K KP):eZ κ false P o s' K KP:=by
 obtain ⟨dst,op,ty,pos,af,gd⟩:=o;have hl:∀ xs:List Operand,(∀ x∈xs,x∈op.operands.toList)→xs.map s.ev=xs.map s'.ev:=fun xs hx=>List.map_congr_left fun x hm=>h x (hx x hm)
 have ho:∀ o:Option Operand,(∀ x∈o,x∈op.operands.toList)→o.map s.ev=o.map s'.ev:=fun o hx=>by
  cases o with
  | none=>rfl
  | some x=>simp [h x (hx x rfl)]
 cases op with
 | move x=>simp only [eZ,← hσ,← h x (by simp [Op.operands])] at hr ⊢;exact hr
 | assign x=>simp only [eZ,← hσ,← h x (by simp [Op.operands])] at hr ⊢;exact hr
 | pick c x y=>simp only [eZ,← hσ,← h c (by simp [Op.operands]),← h x (by simp [Op.operands]),← h y (by simp [Op.operands])] at hr ⊢;exact hr
 | binOp b t x y u=>simp only [eZ,← hσ,← h x (by simp [Op.operands]),← h y (by simp [Op.operands])] at hr ⊢;exact hr
 | unOp b t x=>simp only [eZ,← hσ,← h x (by simp [Op.operands])] at hr ⊢;exact hr
 | extract x i=>simp only [eZ,← hσ,← h x (by simp [Op.operands])] at hr ⊢;exact hr
 | load t x=>simp only [eZ,← hσ,← h x (by simp [Op.operands])] at hr ⊢;exact hr
 | store t x y=>simp only [eZ,← hσ,← h x (by simp [Op.operands]),← h y (by simp [Op.operands])] at hr ⊢;exact hr
 | alloc t=>simp only [eZ,← hσ] at hr ⊢;exact hr
 | box t x=>simp only [eZ,← hσ,← h x (by simp [Op.operands])] at hr ⊢;exact hr
 | build t ps =>
  have e:(ps.toList.map fun p=>s.ev p.2)=ps.toList.map fun p=>s'.ev p.2:=List.map_congr_left fun p hm=>h p.2 (by simp only [Op.operands];exact List.mem_map.2 ⟨p,hm,rfl⟩)
  simp only [eZ,← hσ,← e] at hr ⊢;exact hr
 | buildSlice t n ps =>
  have e:(ps.toList.map fun p=>s.ev p.2)=ps.toList.map fun p=>s'.ev p.2:=List.map_congr_left fun p hm=>h p.2 (by simp only [Op.operands];exact List.mem_map.2 ⟨p,hm,rfl⟩)
  simp only [eZ,← hσ,← e] at hr ⊢;exact hr
 | fieldAddr t x f=>simp only [eZ,← hσ,← h x (by simp [Op.operands])] at hr ⊢;exact hr
 | field t x f=>simp only [eZ,← hσ,← h x (by simp [Op.operands])] at hr ⊢;exact hr
 | indexAddr t x y=>simp only [eZ,← hσ,← h x (by simp [Op.operands]),← h y (by simp [Op.operands])] at hr ⊢;exact hr
 | index t x y=>simp only [eZ,← hσ,← h x (by simp [Op.operands]),← h y (by simp [Op.operands])] at hr ⊢;exact hr
 | slice t x lo hi mx=>simp only [eZ,← hσ,← h x (by simp [Op.operands]),← ho lo (fun y hy=>by simp only [Option.mem_def] at hy;simp [Op.operands,hy]),← ho hi (fun y hy=>by simp only [Option.mem_def] at hy;simp [Op.operands,hy]),← ho mx (fun y hy=>by simp only [Option.mem_def] at hy;simp [Op.operands,hy])] at hr ⊢;exact hr
 | convert a b x=>simp only [eZ,← hσ,← h x (by simp [Op.operands])] at hr ⊢;exact hr
 | makeFunc f a b=>simp only [eZ,← hσ,← hl a.toList (fun y hy=>by simp [Op.operands];left;simpa using hy),← hl b.toList (fun y hy=>by simp [Op.operands];right;simpa using hy)] at hr ⊢;exact hr
 | makeSlice t x y=>simp only [eZ,← hσ,← h x (by simp [Op.operands]),← h y (by simp [Op.operands])] at hr ⊢;exact hr
 | lookup t x y b=>simp only [eZ,← hσ,← h x (by simp [Op.operands]),← h y (by simp [Op.operands])] at hr ⊢;exact hr
 | mapUpdate t x y z=>simp only [eZ,← hσ,← h x (by simp [Op.operands]),← h y (by simp [Op.operands]),← h z (by simp [Op.operands])] at hr ⊢;exact hr
 | makeMap t r=>cases r<;>simp only [eZ,← hσ] at hr ⊢<;>exact hr
 | typeAssert x a b c=>simp only [eZ,← hσ,← h x (by simp [Op.operands])] at hr ⊢;exact hr
 | range t x=>simp only [eZ,← hσ,← h x (by simp [Op.operands])] at hr ⊢;exact hr
 | next x b=>simp only [eZ,← hσ,← h x (by simp [Op.operands])] at hr ⊢;exact hr
 | makeInterface t x=>simp only [eZ,← hσ,← h x (by simp [Op.operands])] at hr ⊢;exact hr
 | nilCheck x=>simp only [eZ,← hσ,← h x (by simp [Op.operands])] at hr ⊢;exact hr
 | panic x=>simp only [eZ,← hσ,← h x (by simp [Op.operands])] at hr ⊢;exact hr
 | call c =>
  obtain ⟨callee,xs,ts⟩:=c;cases callee with
  | value f=>simp only [eZ,← hσ,← h f (by simp [Op.operands,Call.operands]),← hl xs.toList (fun y hy=>by simp [Op.operands,Call.operands];right;simpa using hy)] at hr ⊢;exact hr
  | invoke r m=>exact hr.elim
  | builtin b =>
   have hm:∀ x∈xs.toList,x∈(Op.call { callee:=.builtin b,args:=xs,argTypes:=ts }).operands.toList:=fun x hx=>by simp [Op.operands,Call.operands];simpa using hx
   have hget:∀ k,k < xs.size→s.ev (xs.getD k (.tmp 0))=s'.ev (xs.getD k (.tmp 0)):=fun k hk=>h _ (hm _ (by simp [hk]))
   cases b with
   | len=>simp only [eZ,← hσ] at hr ⊢;obtain ⟨h1,h2,h3⟩:=hr;rw [hget 0 (by omega)] at h3;exact ⟨h1,h2,h3⟩
   | cap=>simp only [eZ,← hσ] at hr ⊢;obtain ⟨h1,h2,h3⟩:=hr;rw [hget 0 (by omega)] at h3;exact ⟨h1,h2,h3⟩
   | append=>simp only [eZ,← hσ] at hr ⊢;obtain ⟨h1,h2,h4,h3⟩:=hr;rw [hget 0 (by omega),hget 1 (by omega)] at h3;exact ⟨h1,h2,h4,h3⟩
   | copy=>simp only [eZ,← hσ] at hr ⊢;obtain ⟨h2,h3⟩:=hr;rw [hget 0 (by omega),hget 1 (by omega)] at h3;exact ⟨h2,h3⟩
   | max=>simp only [eZ,← hσ,← hl xs.toList hm] at hr ⊢;exact hr
   | min=>simp only [eZ,← hσ,← hl xs.toList hm] at hr ⊢;exact hr
   | _=>exact hr.elim
 | _=>exact hr.elim
theorem G5 {o:Oper}{j:Nat} (h:j∈bQ o):∃ e∈o.after.toList,Region.binds .any e=true∧e.on=j:=by
 unfold bQ at h;obtain ⟨e,he,rfl⟩:=List.mem_map.1 h;obtain ⟨h1,h2⟩:=List.mem_filter.1 he;exact ⟨e,h1,h2,rfl⟩
theorem mem_ready {ops:Array Oper}{listed:Array Bool}{i:Nat}:i∈Region.ready .any ops listed↔i < ops.size∧listed.getD i true=false∧∀ o,ops[i]? = some o→∀ j∈bQ o,listed.getD j false=true:=by
 unfold Region.ready;rw [List.mem_filter,List.mem_range];constructor
 ·rintro ⟨h1,h2⟩
  simp only [Bool.and_eq_true,Bool.not_eq_true'] at h2;refine ⟨h1,h2.1,fun o ho j hj=>?_⟩;obtain ⟨e,he,hb,rfl⟩:=G5 hj;have h3:=h2.2
  rw [ho] at h3;simp only [Option.map_some,Option.getD_some,Array.all_eq_true'] at h3;have:=h3 e (by simpa using he)
  simpa [hb] using this
 ·rintro ⟨h1,h2,h3⟩
  refine ⟨h1, ?_⟩;have ho:ops[i]? = some (ops[i]'h1):=Array.getElem?_eq_getElem h1
  rw [ho];simp only [h2,Bool.not_false,Bool.true_and,Option.map_some,Option.getD_some,Array.all_eq_true'];intro e he;by_cases hb:Region.binds .any e=true
  ·have:e.on∈bQ (ops[i]'h1):=List.mem_map.2 ⟨e,List.mem_filter.2 ⟨by simpa using he,hb⟩,rfl⟩
   simp [h3 _ ho _ this]
  ·simp [hb]
theorem iw {ops:List Oper}{L:Nat→Prop} (hcl:∀ i o,L i→ops[i]? = some o→∀ j∈bQ o,L j):∀ (n:Nat) (l:List Nat),(∀ i∈l,L i)→∀ j∈mN ops n l,L j
 | 0,l,h=>h
 | n+1,l,h=>by
  refine iw hcl n _ (fun i hi=>?_);rcases List.mem_append.1 (List.mem_eraseDups.1 hi) with hi|hi
  ·exact h i hi
  ·have hi:=List.mem_eraseDups.1 hi
   obtain ⟨k,hk,hik⟩:=List.mem_flatMap.1 hi;cases ho:ops[k]? with
   | none=>simp [ho] at hik
   | some o=>simp [ho] at hik;exact hcl k o (h k hk) ho i hik
theorem Bv {all:List Oper}{tF:List AV}{σ:List Res}{fr:Bool}{df:List Deferred}:∀ {l:List Oper},idem κ P all tF σ fr df l→∀ (i:Nat) (o:Oper),l[i]? = some o→bA κ false P all (l8 tF σ fr df) [o] ⟨tF,σ,fr,df⟩
 | [],_,i,o,h=>by simp at h
 | x::l,h,0,o,ho=>by simp at ho;subst ho;exact h.1
 | x::l,h,i+1,o,ho=>Bv h.2 i o (by simpa using ho)
def KN (listed:Array Bool) (n:Nat):Nat:=((List.range n).filter fun i=>!listed.getD i false).length
theorem x9 {listed:Array Bool}{n i:Nat} (hsz:listed.size=n) (hi:i < n) (hl:listed.getD i true=false):KN (listed.setIfInBounds i true) n+1≤KN listed n:=by
 unfold KN;have hl':listed.getD i false=false:=by
  have:i < listed.size:=by omega
  simp only [Array.getD_eq_getD_getElem?,Array.getElem?_eq_getElem this,Option.getD_some] at hl ⊢;exact hl
 have e:(List.range n).filter (fun k=>!(listed.setIfInBounds i true).getD k false)=((List.range n).filter fun k=>!listed.getD k false).filter fun k=>k != i:=by
  rw [List.filter_filter];apply List.filter_congr
  intro k hk;have hkn:k < n:=List.mem_range.1 hk
  by_cases e:k=i
  ·subst e
   have:k < listed.size:=by omega
   simp [Array.getD_eq_getD_getElem?,this]
  ·have hne:i≠k:=fun h=>e h.symm
   simp [Array.getD_eq_getD_getElem?,Array.getElem?_setIfInBounds_ne hne,e]
 rw [e];have hm:i∈(List.range n).filter fun k=>!listed.getD k false:=List.mem_filter.2 ⟨List.mem_range.2 hi,by simp [hl']⟩
 have hnd:((List.range n).filter fun k=>!listed.getD k false).Nodup:=List.nodup_range.filter _
 have e2:(((List.range n).filter fun k=>!listed.getD k false).filter fun k=>k != i)=((List.range n).filter fun k=>!listed.getD k false).erase i:=(hnd.erase_eq_filter i).symm
 rw [e2,List.length_erase_of_mem hm];have:=List.length_pos_of_mem hm
 omega
theorem uR {listed:Array Bool}{n:Nat} (h:KN listed n=0):∀ i,i < n→listed.getD i false=true:=by
 intro i hi;unfold KN at h;have h2:=List.length_eq_zero_iff.1 h
 have h3:=List.filter_eq_nil_iff.1 h2 i (List.mem_range.2 hi)
 simpa using h3
theorem nO {all:List Oper}{o:Oper}{s:St}{φ:List Res}{g:Nat→Nat}{a:Act}{w:World}{next:Act→World→Prop}{Qp:Exit→Act→World→Prop}{K:AV→List Res→Prop}{KP:List PanicEntry→List Res→Prop}{Y:Prop}
  (h:de all o s (eZ κ false P o s K KP) Y) (hs:SR κ φ g s a w) (hn:sP κ φ g w s o.dst K next)
  (hno:Y→SR κ φ g { s with t:=bP s.t o.dst U } (a.put o.dst undef) w→next (a.put o.dst undef) w)
  (hp:∀ g' w' c σ',SR κ φ g' { s with σ:=σ' } a w'→GE g w g' w'→KP c σ'→Qp (.panic c) a w') :
  if Region.wanted o (yielded all.toArray a.tmps) then o.wpIn (FD rd) 0 P a w next Qp else (∀ f,o.about P w a.eval=some f→(FD rd).fn f)∧next (a.put o.dst undef) w:=by
 have yes:eZ κ false P o s K KP→o.wpIn (FD rd) 0 P a w next Qp:=fun h=>w8 h hs hn hp
 have no:Y→(∀ f,o.about P w a.eval=some f→(FD rd).fn f)∧next (a.put o.dst undef) w:=fun h=>⟨fun f _=>rQ rd f,hno h (hs.skip o.dst)⟩
 simp only [de] at h;split at h
 ·rename_i hgd
  have:Region.wanted o (yielded all.toArray a.tmps)=true:=by simp [Region.wanted,hgd]
  rw [if_pos this];exact yes h
 ·rename_i j want hgd
  split at h
  ·rename_i d hd
   split at h
   ·rename_i b hb
    have hv:=du hs.tr (.tmp d)
    have hv':VR g w (.raw (.bool b)) (a.tmps.getD d undef):=by rw [← hb];exact hv
    have he:=hv'.raw_eq
    have hy:yielded all.toArray a.tmps j=some b:=by
     have h1:(all.toArray[j]?).bind (·.dst)=some d:=by simpa using hd
     have h2:a.tmps[d]? = some (.bool b):=by
      rw [Array.getD_eq_getD_getElem?] at he;cases hx:a.tmps[d]? with
      | none=>rw [hx] at he;cases he
      | some u=>rw [hx] at he;simp at he;rw [he]
     unfold yielded;rw [h1];simp only [Option.bind_some,h2]
    have hw:Region.wanted o (yielded all.toArray a.tmps)=(b == want):=by
     simp only [Region.wanted,hgd,hy];cases b<;>cases want<;>rfl
    rw [hw];cases hbw:(b == want) with
    | true=>rw [if_pos rfl];exact yes (h.1 hbw)
    | false=>rw [if_neg (by simp)];exact no (h.2 hbw)
   ·rename_i vs hb
    have hv:=du hs.tr (.tmp d)
    have hv':VR g w (.raw (.tuple vs)) (a.tmps.getD d undef):=by rw [← hb];exact hv
    have he:=hv'.raw_eq
    have hy:yielded all.toArray a.tmps j=none:=by
     have h1:(all.toArray[j]?).bind (·.dst)=some d:=by simpa using hd
     unfold yielded;rw [h1];simp only [Option.bind_some];rw [Array.getD_eq_getD_getElem?] at he;cases hx:a.tmps[d]? with
     | none=>rfl
     | some u=>rw [hx] at he;simp at he;rw [he]
    have hw:Region.wanted o (yielded all.toArray a.tmps)=false:=by
     simp only [Region.wanted,hgd,hy];cases want<;>rfl
    rw [hw,if_neg (by simp)];exact no h
   ·exact h.elim
  ·exact h.elim
theorem M3 {all:List Oper}{Q:Exit→St→Prop}{o:Oper}{rest:List Oper}{s:St}{φ:List Res}{g:Nat→Nat}{a:Act}{w:World}{next:Act→World→Prop}{Qp:Exit→Act→World→Prop}
  (h:bA κ false P all Q (o::rest) s) (hs:SR κ φ g s a w)
  (hn:∀ g' a' w' x σ',SR κ φ g' ⟨bP s.t o.dst x,σ',s.fr,s.df⟩ a' w'→GE g w g' w'→bA κ false P all Q rest ⟨bP s.t o.dst x,σ',s.fr,s.df⟩→next a' w')
  (hp:∀ g' w' c σ',SR κ φ g' { s with σ:=σ' } a w'→GE g w g' w'→Q (.panic c) { s with σ:=σ' }→Qp (.panic c) a w') :
  if Region.wanted o (yielded all.toArray a.tmps) then o.wpIn (FD rd) 0 P a w next Qp else (∀ f,o.about P w a.eval=some f→(FD rd).fn f)∧next (a.put o.dst undef) w :=
 nO h hs (fun g' a' w' x σ' hs' hge hk=>hn g' a' w' x σ' hs' hge hk) (fun hy hs'=>hn g _ w U s.σ hs' (GE.refl _ _) hy) (fun g' w' c σ' hs' hge hk=>hp g' w' c σ' hs' hge hk)
theorem gN {all:List Oper}{o:Oper}{s s':St}{X X' Y:Prop} (h:∀ j want d,o.guard=some (j,want)→(all[j]?).bind (·.dst)=some d→s.t.getD d .any=s'.t.getD d .any) (hX:X→X') (hg:de all o s X Y):de all o s' X' Y:=by
 unfold de at hg ⊢;split at hg
 ·exact hX hg
 ·rename_i j want hgd
  cases hd:(all[j]?).bind (·.dst) with
  | none=>rw [hd] at hg;exact hg.elim
  | some d =>
   rw [hd] at hg;simp only at hg ⊢;rw [← h j want d hgd hd];split at hg
   ·exact ⟨fun e=>hX (hg.1 e),hg.2⟩
   ·exact hg
   ·exact hg.elim
theorem lP:∀ (ds:List (Option Tmp)) (t:List AV),(blank ds t).length=t.length
 | [],_=>rfl
 | d::ds,t=>by
  have:=lP ds (bP t d .any)
  simp only [blank,List.foldl_cons] at this ⊢;rw [this];cases d<;>simp [bP]
theorem qF:∀ (ds:List (Option Tmp)) (t:List AV) (k:Nat),(∀ d∈ds,d≠some k)→(blank ds t)[k]? = t[k]?
 | [],_,_,_=>rfl
 | d::ds,t,k,h=>by
  have:=qF ds (bP t d .any) k (fun d' hd=>h d' (by simp [hd]))
  simp only [blank,List.foldl_cons] at this ⊢;rw [this];cases d with
  | none=>rfl
  | some d =>
   have hne:d≠k:=fun e=>h (some d) (by simp) (by rw [e])
   simp [bP,List.getElem?_set_ne hne]
theorem kg {listed:Array Bool}{n i:Nat} (hsz:listed.size=n) (hi:i < n):listed.getD i true=listed.getD i false:=by
 have:i < listed.size:=by omega
 simp [Array.getD_eq_getD_getElem?,this]
theorem gX {listed:Array Bool}{n i j:Nat} (hsz:listed.size=n) (hi:i < n):(listed.setIfInBounds i true).getD j false=(if j=i then true else listed.getD j false):=by
 by_cases e:j=i
 ·subst e
  have:j < listed.size:=by omega
  simp [Array.getD_eq_getD_getElem?,this]
 ·have hne:i≠j:=fun h=>e h.symm
  simp [Array.getD_eq_getD_getElem?,Array.getElem?_setIfInBounds_ne hne,e]
theorem oP {l:List Oper}{listed:Array Bool} (hsz:listed.size=l.length) (hlt:∀ i o,l[i]? = some o→∀ j∈bQ o,j < i):∀ (m i:Nat),i≤m→i < l.length→listed.getD i false=false→∃ k,k∈Region.ready .any l.toArray listed:=by
 intro m;induction m with
 | zero =>
  intro i him hi hl;refine ⟨i,mem_ready.2 ⟨by simpa using hi,by rw [kg hsz hi];exact hl,fun o ho j hj=>?_⟩⟩;have:=hlt i o (by simpa using ho) j hj
  omega
 | succ m ih =>
  intro i him hi hl;by_cases hall:∀ o,l[i]? = some o→∀ j∈bQ o,listed.getD j false=true
  ·exact ⟨i,mem_ready.2 ⟨by simpa using hi,by rw [kg hsz hi];exact hl,fun o ho j hj=>hall o (by simpa using ho) j hj⟩⟩
  ·have ho:l[i]? = some (l[i]'hi):=List.getElem?_eq_getElem hi
   have:∃ j∈bQ (l[i]'hi),listed.getD j false=false:=by
    refine Classical.byContradiction fun hc=>hall fun o ho' j hj=>?_
    rw [ho] at ho';cases ho';cases hv:listed.getD j false with
    | true=>rfl
    | false=>exact (hc ⟨j,hj,hv⟩).elim
   obtain ⟨j,hj,hv⟩:=this;have hji:=hlt i _ ho j hj
   exact ih j (by omega) (by omega) hv
theorem Oi {id:Nat}{l:List Oper}{Q:Exit→St→Prop}{t:List AV}{σ:List Res}{fr:Bool}{df:List Deferred} (nA:Nat) (tF:List AV) (hm:P.follows .mixedOrders=true) (hok:yn l nA=true)
  (hbl:blank ((l.take nA).map (·.dst)) tF=blank ((l.take nA).map (·.dst)) t)
  (hid:idem κ P l tF σ fr df (l.take nA)) (hrest:bA κ false P l Q (l.drop nA) ⟨tF,σ,fr,df⟩):AW κ rd P (.region id l.toArray true) Q ⟨t,σ,fr,df⟩:=by
 unfold yn at hok;simp only [Bool.and_eq_true] at hok;obtain ⟨⟨⟨⟨c1,c2⟩,c3⟩,c4⟩,c5⟩:=hok;have hnA:nA≤l.length:=by simpa using c5
 have hlt:∀ i o,l[i]? = some o→∀ j∈bQ o,j < i:=by
  intro i o ho j hj;have:=List.all_eq_true.1 c1 (o,i) (List.mem_iff_getElem?.2 ⟨i,by simp [List.getElem?_zipIdx,ho]⟩)
  simpa using List.all_eq_true.1 this j hj
 have hA:∀ i o,l[i]? = some o→i < nA→(l.take nA)[i]? = some o:=fun i o ho hi=>by rw [List.getElem?_take_of_lt hi];exact ho
 have hdst:∀ i o,l[i]? = some o→i < nA→∃ d,o.dst=some d:=by
  intro i o ho hi;have:=List.all_eq_true.1 c2 o (List.mem_of_getElem? (hA i o ho hi))
  simp only [Bool.and_eq_true] at this;exact Option.isSome_iff_exists.1 this.1
 have hsee:∀ i o,l[i]? = some o→i < nA→∀ k∈o.looksAt l.toArray,∀ j o',l[j]? = some o'→o'.dst=some k→j∈bQ o:=by
  intro i o ho hi k hk j o' ho' hd;have:=List.all_eq_true.1 c2 o (List.mem_of_getElem? (hA i o ho hi))
  simp only [Bool.and_eq_true] at this;have:=List.all_eq_true.1 this.2 k hk
  have:=List.all_eq_true.1 this (o',j) (List.mem_iff_getElem?.2 ⟨j,by simp [List.getElem?_zipIdx,ho']⟩)
  simpa [hd] using this
 have huniq:∀ i o j o',l[i]? = some o→i < nA→l[j]? = some o'→j < nA→o.dst=o'.dst→i=j:=by
  intro i o j o' ho hi ho' hj he;have h1:=List.all_eq_true.1 c3 (o,i) (List.mem_iff_getElem?.2 ⟨i,by simp [List.getElem?_zipIdx,hA i o ho hi]⟩)
  have h2:=List.all_eq_true.1 h1 (o',j) (List.mem_iff_getElem?.2 ⟨j,by simp [List.getElem?_zipIdx,hA j o' ho' hj]⟩)
  simpa [he] using h2
 have hlate:∀ i o,l[i]? = some o→nA≤i→(if i=nA then ∀ j,j < nA→j∈mN l l.length (bQ o) else i - 1∈bQ o):=by
  intro i o ho hi;have h1:=List.all_eq_true.1 c4 (o,i) (List.mem_iff_getElem?.2 ⟨i - nA,by rw [List.getElem?_drop,List.getElem?_zipIdx,show nA+(i - nA)=i by omega,ho];simp⟩)
  by_cases e:i=nA
  ·subst e
   simp only [beq_self_eq_true,if_true] at h1 ⊢;intro j hj;simpa using List.all_eq_true.1 h1 j (List.mem_range.2 hj)
  ·simp only [beq_iff_eq,e,if_false] at h1 ⊢
   simpa using h1
 have hlenF:tF.length=t.length:=by have:=congrArg List.length hbl;rwa [lP,lP] at this
 intro φ g0 a0 w0 hs0;refine wpIn_region_any hm ?_;have phase2:∀ (fuel k:Nat) (listed:Array Bool) (s:St) (g:Nat→Nat) (a:Act) (w:World),listed.size=l.length→(∀ i,i < l.length→listed.getD i false=decide (i < nA+k))→KN listed l.length≤fuel→SR κ φ g s a w→GE g0 w0 g w→bA κ false P l Q (l.drop (nA+k)) s →
   wpAnyIn (FD rd) 0 P .any l.toArray (Post κ φ g0 w0 Q) fuel listed a w:=by
  intro fuel;induction fuel with
  | zero =>
   intro k listed s g a w hsz hl hu hs hg hops;have hall:=uR (Nat.le_zero.1 hu)
   have hge:l.length≤nA+k:=by
    refine Classical.byContradiction fun hc=>?_
    have h1:=hall (nA+k) (by omega)
    rw [hl _ (by omega)] at h1;simp at h1
   rw [List.drop_eq_nil_of_le hge] at hops;refine ⟨List.eq_nil_iff_forall_not_mem.2 fun i hi=>?_,g,s,hs,hg,hops⟩;obtain ⟨h1,h2,_⟩:=mem_ready.1 hi;rw [kg hsz (by simpa using h1),hall i (by simpa using h1)] at h2;cases h2
  | succ fuel ih =>
   intro k listed s g a w hsz hl hu hs hg hops;refine ⟨fun hr=>?_,fun i hi=>?_⟩
   ·have hge:l.length≤nA+k:=by
     refine Classical.byContradiction fun hc=>?_
     obtain ⟨i,hi⟩:=oP hsz hlt (nA+k) (nA+k) (Nat.le_refl _) (by omega) (by rw [hl _ (by omega)];simp);rw [hr] at hi;cases hi
    rw [List.drop_eq_nil_of_le hge] at hops;exact ⟨g,s,hs,hg,hops⟩
   ·obtain ⟨h1,h2,h3⟩:=mem_ready.1 hi
    have hil:i < l.length:=by simpa using h1
    rw [kg hsz hil,hl i hil] at h2;have hik:nA+k≤i:=by simpa using h2
    have ho:l[i]? = some (l[i]'hil):=List.getElem?_eq_getElem hil
    have hi2:i=nA+k:=by
     refine Classical.byContradiction fun hc=>?_
     have h4:=hlate i _ ho (by omega)
     rw [if_neg (by omega)] at h4;have h5:=h3 _ (by simp) _ h4
     rw [hl (i - 1) (by omega)] at h5;simp at h5;omega
    subst hi2;have hdrop:l.drop (nA+k)=l[nA+k]'hil::l.drop (nA+k+1):=List.drop_eq_getElem_cons hil
    rw [hdrop] at hops;unfold wpOpIn;have ho':l.toArray[nA+k]? = some (l[nA+k]'hil):=by simp
    rw [ho'];refine M3 hops hs (fun g' a' w' x σ' hs' hge' hk=>?_) (fun g' w' c σ' hs' hge' hk=>⟨g',_,hs',hg.trans hge',hk⟩);refine ih (k+1) _ _ g' a' w' (by simp [hsz]) (fun j hj=>?_) ?_ hs' (hg.trans hge') hk
    ·rw [gX hsz hil,hl j hj]
     by_cases e:j=nA+k
     ·rw [if_pos e];subst e;simp
     ·rw [if_neg e]
      congr 1
      simp only [eq_iff_iff];omega
    ·have:=x9 hsz hil (by rw [kg hsz hil,hl _ hil];simp)
     omega
 have phase1:∀ (fuel:Nat) (listed:Array Bool) (g:Nat→Nat) (a:Act) (w:World) (ds:List Nat),listed.size=l.length→(∀ i,listed.getD i false=true→i < nA)→(∀ i o,listed.getD i false=true→l[i]? = some o→∀ j∈bQ o,listed.getD j false=true)→KN listed l.length≤fuel →
   a.defers=ds.map kF++df→(fr=true→ds=[])→Rel κ g (φ++(ds.map gk++σ)) w→GE g0 w0 g w→a.tmps.size=tF.length →
   (∀ (k:Nat) (x:AV),tF[k]? = some x→(∀ i o,i < nA→l[i]? = some o→o.dst=some k→listed.getD i false=true)→VR g w x (a.tmps.getD k undef)) →
   wpAnyIn (FD rd) 0 P .any l.toArray (Post κ φ g0 w0 Q) fuel listed a w:=by
  intro fuel;induction fuel with
  | zero =>
   intro listed g a w ds hsz hin hcl hu hd hfr hR hg hts hv;have hall:=uR (Nat.le_zero.1 hu)
   have hAl:l.length≤nA:=by
    refine Classical.byContradiction fun hc=>?_
    have:=hin nA (hall nA (by omega))
    omega
   exact phase2 0 0 listed ⟨tF,σ,fr,df⟩ g a w hsz (fun i hi=>by rw [hall i hi];simp;omega) hu ⟨ds,hd,hfr,hR,hts,fun k x hx=>hv k x hx (fun i o hi ho _=>hall i (aL ho))⟩ hg (by simpa using hrest)
  | succ fuel ih =>
   intro listed g a w ds hsz hin hcl hu hd hfr hR hg hts hv;by_cases hall:∀ i,i < nA→listed.getD i false=true
   ·refine phase2 (fuel+1) 0 listed ⟨tF,σ,fr,df⟩ g a w hsz (fun i hi=>?_) hu ⟨ds,hd,hfr,hR,hts,fun k x hx=>hv k x hx (fun i o hi ho _=>hall i hi)⟩ hg (by simpa using hrest)
    by_cases e:i < nA
    ·rw [hall i e];simp [e]
    ·cases hli:listed.getD i false with
     | true=>exact (e (hin i hli)).elim
     | false=>simp [e]
   ·have:∃ i,i < nA∧listed.getD i false=false:=by
     refine Classical.byContradiction fun hc=>hall fun i hi=>?_
     cases hv:listed.getD i false with
     | true=>rfl
     | false=>exact (hc ⟨i,hi,hv⟩).elim
    obtain ⟨i0,hi0,hl0⟩:=this;refine ⟨fun hr=>?_,fun i hi=>?_⟩
    ·obtain ⟨k,hk⟩:=oP hsz hlt i0 i0 (Nat.le_refl _) (by omega) hl0
     rw [hr] at hk;cases hk
    ·obtain ⟨h1,h2,h3⟩:=mem_ready.1 hi
     have hil:i < l.length:=by simpa using h1
     have ho:l[i]? = some (l[i]'hil):=List.getElem?_eq_getElem hil
     have ho':l.toArray[i]? = some (l[i]'hil):=by simp
     have hpre:∀ j∈bQ (l[i]'hil),listed.getD j false=true:=h3 _ ho'
     have hiA:i < nA:=by
      refine Classical.byContradiction fun hc=>?_
      have h4:=hlate i _ ho (by omega)
      by_cases e:i=nA
      ·rw [if_pos e] at h4
       have:=iw (L:=fun j=>listed.getD j false=true) (fun j o hj ho=>hcl j o hj ho) l.length (bQ (l[i]'hil)) hpre i0 (h4 i0 hi0)
       rw [hl0] at this;cases this
      ·rw [if_neg e] at h4
       have:=hin _ (hpre _ h4)
       omega
     obtain ⟨d,hdd⟩:=hdst i _ ho hiA;have hid':=Bv hid i _ (hA i _ ho hiA)
     have key:∃ tM:List AV,tM.length=tF.length∧(∀ (k:Nat) (x:AV),tM[k]? = some x→x=.any∨((∀ i o,i < nA→l[i]? = some o→o.dst=some k→listed.getD i false=true)∧tF[k]? = some x))∧(∀ k,(∀ i o,i < nA→l[i]? = some o→o.dst=some k→listed.getD i false=true)→tM[k]? = tF[k]?):=by
      refine ⟨tF.zipIdx.map fun p=>@ite _ (∀ i o,i < nA→l[i]? = some o→o.dst=some p.2→listed.getD i false=true) (Classical.propDecidable _) p.1 .any,by simp,fun k x hx=>?_,fun k hk=>?_⟩
      ·rw [List.getElem?_map,List.getElem?_zipIdx] at hx
       cases hy:tF[k]? with
       | none=>simp [hy] at hx
       | some y =>
        simp only [hy,Option.map_some,Nat.zero_add,Option.some.injEq] at hx;split at hx
        ·rename_i hc;subst hx;exact .inr ⟨hc,rfl⟩
        ·exact .inl hx.symm
      ·rw [List.getElem?_map,List.getElem?_zipIdx]
       cases hy:tF[k]? with
       | none=>rfl
       | some y =>
        simp only [Option.map_some,Nat.zero_add,Option.some.injEq];rw [if_pos hk]
     obtain ⟨tM,hM1,hM2,hM3⟩:=key;have hsM:SR κ φ g ⟨tM,σ,fr,df⟩ a w:=by
      refine ⟨ds,hd,hfr,hR,by rw [hts,hM1],fun k x hx=>?_⟩;rcases hM2 k x hx with rfl|⟨hc,hx'⟩
      ·exact .any _
      ·exact hv k x hx' hc
     have hsame:∀ k∈(l[i]'hil).looksAt l.toArray,tM.getD k .any=tF.getD k .any:=by
      intro k hk;have:=hM3 k (fun j o hj hoj hdj=>hpre j (hsee i _ ho hiA k hk j o hoj hdj))
      simp [List.getD_eq_getElem?_getD,this]
     have hops:∀ K KP,eZ κ false P (l[i]'hil) ⟨tF,σ,fr,df⟩ K KP→eZ κ false P (l[i]'hil) ⟨tM,σ,fr,df⟩ K KP:=by
      intro K KP h;refine jD (s:=⟨tF,σ,fr,df⟩) rfl (fun x hx=>?_) h;cases x with
      | tmp k=>exact (hsame k (by unfold Oper.looksAt;exact List.mem_append.2 (.inl (List.mem_filterMap.2 ⟨.tmp k,hx,rfl⟩)))).symm
      | const v=>rfl
      | global b=>rfl
      | func f=>rfl
     have hgM:=gN (s':=⟨tM,σ,fr,df⟩) (fun j want k hgd hk=>(hsame k (by
      unfold Oper.looksAt;refine List.mem_append.2 (.inr ?_);rw [hgd];have:(l.toArray[j]?).bind (·.dst)=some k:=by simpa using hk
      show k∈((l.toArray[j]?).bind (·.dst)).toList
      rw [this];simp)).symm) (hops _ _) hid'
     unfold wpOpIn;rw [ho'];have fin:∀ (g':Nat→Nat) (a':Act) (w':World) (x:AV) (σ':List Res),SR κ φ g' ⟨bP tM (l[i]'hil).dst x,σ',fr,df⟩ a' w'→GE g w g' w'→l8 tF σ fr df .normal ⟨bP tF (l[i]'hil).dst x,σ',fr,df⟩→wpAnyIn (FD rd) 0 P .any l.toArray (Post κ φ g0 w0 Q) fuel (listed.setIfInBounds i true) a' w':=by
      intro g' a' w' x σ' hs' hge' hk;obtain ⟨_,hk⟩:=hk;simp only [St.mk.injEq] at hk;obtain ⟨hy2,rfl,_,_⟩:=hk;rw [hdd] at hy2;obtain ⟨ds',hd',hfr',hR',ht'⟩:=hs';refine ih _ g' a' w' ds' (by simpa using hsz) (fun j hj=>?_) (fun j o hj hoj k hk=>?_) ?_ hd' hfr' hR' (hg.trans hge') (by rw [ht'.size,hdd];simp [bP,hM1]) (fun k z hz hw=>?_)
      ·rw [gX hsz hil] at hj
       split at hj
       ·omega
       ·exact hin j hj
      ·rw [gX hsz hil] at hj ⊢
       split
       ·rfl
       ·split at hj
        ·rename_i e;subst e
         rw [ho] at hoj;cases hoj;exact hpre k hk
        ·exact hcl j o hj hoj k hk
      ·have:=x9 hsz hil h2
       omega
      ·refine ht'.get k z ?_
       simp only [hdd];simp only [bP] at hy2 ⊢;by_cases e:d=k
       ·subst e
        have hlen:d < tF.length:=aL hz
        have h5:tF[d]? = some x:=by
         have:=congrArg (fun l:List AV=>l[d]?) hy2
         simp only [List.getElem?_set_self hlen] at this;exact this.symm
        rw [hz] at h5;cases h5;rw [List.getElem?_set_self (by rw [hM1];exact hlen)]
       ·rw [List.getElem?_set_ne e]
        rw [hM3 k (fun j o hj hoj hdj=>?_)]
        ·exact hz
        ·have h6:=hw j o hj hoj hdj
         rw [gX hsz hil] at h6;split at h6
         ·rename_i e2;subst e2
          rw [ho] at hoj;cases hoj;rw [hdd] at hdj;exact (e (Option.some.inj hdj)).elim
         ·exact h6
     exact nO hgM hsM (fun g' a' w' x σ' hs' hge' hk=>fin g' a' w' x σ' hs' hge' hk) (fun hy hs'=>fin g _ w U σ hs' (GE.refl _ _) hy) (fun g' w' c σ' hs' hge' hk=>(by cases hk.1))
 obtain ⟨ds,hd,hfr,hR,ht⟩:=hs0;have hsz0:(Array.replicate l.toArray.size false).size=l.length:=by simp
 have hf0:∀ i,(Array.replicate l.toArray.size false).getD i false=false:=fun i=>by
  simp only [Array.getD_eq_getD_getElem?,Array.getElem?_replicate];split<;>rfl
 refine phase1 l.toArray.size _ g0 a0 _ ds hsz0 (fun i hi=>by rw [hf0] at hi;cases hi) (fun i o hi=>by rw [hf0] at hi;cases hi) ?_ hd hfr (hR.of_heap rfl rfl rfl rfl) (GE.of_heap rfl) (by rw [ht.size,hlenF]) (fun k x hx hw=>?_)
 ·unfold KN
  refine Nat.le_trans (List.length_filter_le _ _) (by simp)
 ·have hno:∀ d∈(l.take nA).map (·.dst),d≠some k:=by
   intro d hd' e;subst e;obtain ⟨o,ho,hod⟩:=List.mem_map.1 hd';obtain ⟨i,hi⟩:=List.mem_iff_getElem?.1 ho;have hiA:i < nA:=by have:=aL hi;simp at this;omega
   rw [List.getElem?_take_of_lt hiA] at hi;have:=hw i o hiA hi hod
   rw [hf0] at this;cases this
  have h1:=qF _ tF k hno
  have h2:=qF _ t k hno
  rw [hbl,h2] at h1;rw [← h1] at hx;exact VR.mono (GE.of_heap (g:=g0) (w:=w0) (w':={ w0 with drawn:=w0.drawn+1 }) rfl) (ht.get k x hx)
end
section
variable {κ:Ctx} {P:Program} {σ:List Res} {K:AV→List Res→Prop}
theorem oa {g:Nat→Nat}{w:World}{off:Nat}:∀ (xs:List AV) (vs:List Value) (m:Nat) (cs:List AV) (arr:Array Value),TR g w xs vs.toArray→TR g w cs arr →
  TR g w (setCells cs (off+m) xs) ((vs.zipIdx m).foldl (fun cs (x:Value × Nat)=>cs.setIfInBounds (off+x.2) x.1) arr)
 | [],vs,m,cs,arr,hv,hc=>by
  have:=mE hv
  subst this;simpa [setCells] using hc
 | x::xs,vs,m,cs,arr,hv,hc=>by
  match vs,hv.size with
  | v::vs,hsz =>
   have hx:VR g w x v:=by simpa using hv.get 0 x rfl
   have hxs:TR g w xs vs.toArray:=⟨by simpa using hsz,fun m y hm=>by
    have:=hv.get (m+1) y (by simpa using hm)
    simpa [Array.getD_eq_getD_getElem?] using this⟩
   have h1:TR g w (cs.set (off+m) x) (arr.setIfInBounds (off+m) v):=TR.put hc (some (off+m)) hx []
   have:=oa (off:=off) xs vs (m+1) _ _ hxs h1
   simpa [setCells,List.zipIdx_cons,Nat.add_assoc] using this
theorem MW {g:Nat→Nat}{w:World} (places:List (Nat × Nat)):∀ (ix:List Nat) (xs:List AV) (vs:List Value) (cs:List AV) (cells:Array Value) (cs':List AV),TR g w xs vs.toArray→TR g w cs cells →
  mH places cs (ix.zip xs)=some cs'→∃ cells',Instr.fill (places.toArray[·]?) cells (ix.zip vs)=some cells'∧TR g w cs' cells'
 | [],xs,vs,cs,cells,cs',_,hc,h=>by
  simp only [List.zip_nil_left,mH,Option.some.injEq] at h;subst h;exact ⟨cells,by simp [Instr.fill],hc⟩
 | i::ix,[],vs,cs,cells,cs',hv,hc,h=>by
  have:=mE hv
  subst this;simp only [List.zip_nil_right,mH,Option.some.injEq] at h;subst h;exact ⟨cells,by simp [Instr.fill],hc⟩
 | i::ix,x::xs,vs,cs,cells,cs',hv,hc,h=>by
  match vs,hv.size with
  | v::vs,hsz =>
   have hx:VR g w x v:=by simpa using hv.get 0 x rfl
   have hxs:TR g w xs vs.toArray:=⟨by simpa using hsz,fun m y hm=>by
    have:=hv.get (m+1) y (by simpa using hm)
    simpa [Array.getD_eq_getD_getElem?] using this⟩
   simp only [List.zip_cons_cons,mH] at h;cases hp:places[i]? with
   | none=>simp [hp] at h
   | some p =>
    obtain ⟨off,n⟩:=p;simp only [hp] at h;split at h
    case isFalse=>cases h
    case isTrue hh =>
     obtain ⟨h1,h2,h3⟩:=hh;have hcell:=TR.cells hx h3
     have hvs:v.cells.size=n:=by rw [hcell.size,h1]
     have hcs:cells.size=cs.length:=hc.size
     have hf:=oa (off:=off) x.cells v.cells.toList 0 cs cells (by simpa using hcell) hc
     obtain ⟨cells',e1,e2⟩:=MW places ix xs vs _ _ cs' hxs hf h;refine ⟨cells', ?_,e2⟩;simp only [List.zip_cons_cons,Instr.fill,List.getElem?_toArray,hp];rw [if_neg (by simp;omega)];rw [← Array.foldl_toList,Array.toList_zipIdx];simpa using e1
theorem G1 {t:TypeId}{ix:List Nat}{xs cs:List AV}{z:Value}{pl:List (Nat × Nat)} (hp:kL P t=some pl) (hz:dP P t=some z) (hz1:(rU z).cells.all iL=true) (hb:mH pl (rU z).cells (ix.zip xs)=some cs) (hK:K (.agg cs) σ):AAct κ P (.build t ix) xs σ K:=by
 intro φ g w vs hR hv;obtain ⟨inf,hi,hiz⟩:∃ inf,P.info? t=some inf∧inf.zero=some z:=by
  unfold dP at hz;cases hi:P.info? t with
  | none=>simp [hi] at hz
  | some inf=>exact ⟨inf,rfl,by simpa [hi] using hz⟩
 obtain ⟨fs,hu,hm⟩:∃ fs,P.underlying t=some (.struct fs)∧fs.toList.mapM (fun f=>(P.info? f.type).map fun i=>(f.offset,i.size))=some pl:=by
  unfold kL at hp;split at hp
  ·exact ⟨_,‹_›,hp⟩
  ·cases hp
 have hz0:TR g w (rU z).cells z.cells:=TR.cells (nK z) hz1
 obtain ⟨cells',e1,e2⟩:=MW pl ix xs vs _ _ cs (by simpa using hv) hz0 hb;have hrun:=run_build (P:=P) w t (ix.zip vs).toArray cells' (by simp only [Program.built,hi,hu,hiz,hm];exact e1)
 exact ⟨_,_,_,_,_,hrun,hR,GE.refl _ _,.agg _ e2.size e2.get,hK⟩
end
/-! ### Resources let go -/
section
variable {κ:Ctx} {P:Program} {σ:List Res} {K:Ret→List Res→Prop}
def Sub (ρ σ:List Res):Prop:=∃ τ:List Res,τ.Perm ρ∧τ.Sublist σ
def WY (K:Ret→List Res→Prop):Ret→List Res→Prop:=fun r σ'=>∃ ρ:List Res,Sub ρ σ'∧K r ρ
theorem ACallY.mono {l:Nat}{args:List AV}{K':Ret→List Res→Prop} (h:ACallY κ P l args σ K) (hk:∀ r σ',K r σ'→K' r σ'):ACallY κ P l args σ K':=fun φ g w vs hR hv=>by
 obtain ⟨f,tmps,assign,body,h1,h2⟩:=h φ g w vs hR hv;exact ⟨f,tmps,assign,body,h1,RoundIn.mono h2 fun _ _ ⟨g',σ',r,h1,h2,h3,h4⟩=>⟨g',σ',r,h1,h2,h3,hk r σ' h4⟩⟩
def Kz (K:Ret→List Res→Prop):Ret→List Res→Prop:=fun r σ'=>∃ ρ:List Res,ResW σ' ρ∧K r ρ
theorem uY {φ:List Res}{g:Nat→Nat}{w:World}{e:Ending}{w':World} (h:fL κ φ g w (Kz K) e w'):fL κ φ g w K e w':=by
 obtain ⟨g',σ',r,h1,h2,h3,ρ,q,h4⟩:=h;exact ⟨g',ρ,r,q κ φ g' w' h1,h2,h3,h4⟩
theorem ACallF.dropW {f:FuncId}{args:List AV} (h:ACallF κ P f args σ (Kz K)):ACallF κ P f args σ K :=
 fun φ g w vs hR hv=>CallsIn.mono (h φ g w vs hR hv) fun _ _=>uY
theorem ACallY.dropW {l:Nat}{args:List AV} (h:ACallY κ P l args σ (Kz K)):ACallY κ P l args σ K:=fun φ g w vs hR hv=>by
 obtain ⟨f,tmps,assign,body,h1,h2⟩:=h φ g w vs hR hv;exact ⟨f,tmps,assign,body,h1,RoundIn.mono h2 fun _ _=>uY⟩
theorem jY {σ σ':List Res} (h:Sub σ' σ):ResW σ σ':=by
 obtain ⟨τ,p,q⟩:=h;exact (ResW.sub q).trans (ResW.perm p)
theorem ACallF.weak {f:FuncId}{args:List AV}{σ2:List Res} (p:ResW σ σ2) (h:ACallF κ P f args σ2 K):ACallF κ P f args σ K :=
 fun φ g w vs hR hv=>h φ g w vs (p κ φ g w hR) hv
theorem ResW.obj {b:Nat}{cs cs':List AV}{τ:List Res} (h:zn cs cs'):ResW (.obj b cs::τ) (.obj b cs'::τ):=fun κ φ g w hR=>by
 have h1:Rel κ g (.obj b cs::(φ++τ)) w:=hR.perm List.perm_middle
 have h2:Rel κ g (.obj b cs'::(φ++τ)) w:=by
  refine ⟨h1.below,h1.hB, ?_, ?_, ?_,h1.new⟩
  ·have:=h1.nodup;rwa [pB rfl] at this ⊢
  ·intro r hr c hc
   rcases List.mem_cons.1 hr with rfl|hr
   ·exact h1.bnd _ (List.mem_cons_self ..) c hc
   ·exact h1.bnd r (by simp [hr]) c hc
  ·intro r hr
   rcases List.mem_cons.1 hr with rfl|hr
   ·obtain ⟨h0,arr,t,h3,h4⟩:=h1.holds _ (List.mem_cons_self ..)
    exact ⟨h0,arr,t,h3,TR.le h4 (lD h) (lM h)⟩
   ·exact h1.holds r (by simp [hr])
 exact h2.perm List.perm_middle.symm
def Ni (ρ:List Res) (K:Ret→List Res→Prop):Ret→List Res→Prop:=fun r σ'=>∃ τ,σ'=ρ++τ∧K r τ
theorem uO {ρ φ:List Res}{g:Nat→Nat}{w:World}{e:Ending}{w':World} (h:fL κ (φ++ρ) g w K e w'):fL κ φ g w (Ni ρ K) e w':=by
 obtain ⟨g',σ',r,h1,h2,h3,h4⟩:=h;exact ⟨g',ρ++σ',r,by rw [← List.append_assoc];exact h1,h2,h3,σ',rfl,h4⟩
theorem ACallY.front {l:Nat}{args:List AV} (ρ:List Res) (h:ACallY κ P l args σ K):ACallY κ P l args (ρ++σ) (Ni ρ K):=fun φ g w vs hR hv=>by
 obtain ⟨f,tmps,assign,body,h1,h2⟩:=h (φ++ρ) g w vs (by rw [List.append_assoc];exact hR) hv;exact ⟨f,tmps,assign,body,h1,RoundIn.mono h2 fun _ _=>uO⟩
theorem ACallF.front {f:FuncId}{args:List AV} (ρ:List Res) (h:ACallF κ P f args σ K):ACallF κ P f args (ρ++σ) (Ni ρ K):=fun φ g w vs hR hv =>
 CallsIn.mono (h (φ++ρ) g w vs (by rw [List.append_assoc];exact hR) hv) fun _ _=>uO
/-! ### Functions that yield -/
def YK (C:List Res→Prop) (K:Ret→List Res→Prop):Ret→List Res→Prop
 | .ret (.raw (.bool true)),σ=>C σ
 | .ret (.raw (.bool false)),σ=>K (.ret (.tup [])) σ
 | .pan c,σ=>K (.pan c) σ
 | _,_=>False
def Iter (κ:Ctx) (P:Program) (L:Nat) (K:Ret→List Res→Prop):List (List AV)→List Res→Prop
 | [],σ=>K (.ret (.tup [])) σ
 | x::xs,σ=>ACallY κ P L x σ (YK (fun σ'=>Iter κ P L K xs σ') K)
variable {all:List Oper} {Q:Exit→St→Prop} {d:Option Tmp} {rest:List Oper} {t:List AV} {fr:Bool} {df:List Deferred}
theorem ACallY.args {l:Nat}{xs ys:List AV} (hle:zn xs ys) (h:ACallY κ P l ys σ K):ACallY κ P l xs σ K :=
 fun φ g w vs hR hv=>h φ g w vs hR (TR.le hv (lD hle) (lM hle))
theorem cR {L:Nat}{x y:List AV}{C:List Res→Prop} (ρ:List Res) (hle:zn x y) (h:ACallY κ P L y σ (YK C K)) (h1:∀ σ',C σ'→dw κ false P all Q d rest ⟨t,ρ++σ,fr,df⟩ (B true) (ρ++σ'))
  (h2:∀ σ',K (.ret (.tup [])) σ'→dw κ false P all Q d rest ⟨t,ρ++σ,fr,df⟩ (B false) (ρ++σ')) (h3:∀ c σ',K (.pan c) σ'→N7 Q ⟨t,ρ++σ,fr,df⟩ c (ρ++σ')):vg κ false P all Q d rest ⟨t,ρ++σ,fr,df⟩ L x:=by
 refine Gt (((h.args hle).front ρ).mono ?_);rintro r σ' ⟨τ,rfl,h⟩;unfold YK at h;split at h
 ·exact h1 _ h
 ·exact h2 _ h
 ·exact h3 _ _ h
 ·exact h.elim
theorem Ec {L:Nat} (Inv:List (List AV)→List Res→Prop) (hend:∀ σ,Inv [] σ→K (.ret (.tup [])) σ) (round:∀ x xs σ,Inv (x::xs) σ→ACallY κ P L x σ (YK (Inv xs) K)):∀ xs σ,Inv xs σ→Iter κ P L K xs σ
 | [],σ,h=>hend σ h
 | x::xs,σ,h=>(round x xs σ h).mono fun r σ' hr=>by
  unfold YK at hr ⊢;split at hr
  ·exact Ec Inv hend round xs _ hr
  ·exact hr
  ·exact hr
  ·exact hr.elim
theorem ae {σ:List Res}:Sub σ σ:=⟨σ,List.Perm.refl _,List.Sublist.refl _⟩
theorem ah {σ τ:List Res}{r:Res} (h:Sub σ τ):Sub σ (r::τ):=h.elim fun ρ hρ=>⟨ρ,hρ.1,hρ.2.cons r⟩
theorem pQ {σ τ τ':List Res} (p:τ.Perm τ') (h:Sub σ τ):Sub σ τ':=by
 obtain ⟨ρ,h1,h2⟩:=h;obtain ⟨ρ',h3,h4⟩:=List.exists_perm_sublist h2 p;exact ⟨ρ',h3.trans h1,h4⟩
end
section
variable {κ:Ctx} {P:Program} {σ:List Res} {K:AV→List Res→Prop}
end
section
variable {κ:Ctx} {P:Program} {σ:List Res} {K:AV→List Res→Prop}
theorem r4 {t e sz:Nat} (he:jg P t=some e) (hs:dj P e=some sz) (hsz:0 < sz) (hK:∀ b,K (.sl sz (some (some (b,0))) []) (.tip (some (b,0))::σ)):AAct κ P (.bslice t 0 []) [] σ K:=by
 intro φ g w vs hR hv;have:=mE hv
 subst this;have ht:=aR he
 obtain ⟨inf,hi,hisz⟩:∃ inf,P.info? e=some inf∧inf.size=sz:=by
  unfold dj at hs;cases hi:P.info? e with
  | none=>simp [hi] at hs
  | some inf=>exact ⟨inf,rfl,by simpa [hi] using hs⟩
 have hrun:(Instr.buildSlice t 0 #[]).run P w=.ok (.slice (some ⟨w.heap.size,0,none⟩) 0 0) (w.alloc (.cells #[] e)):=by
  simp [Instr.buildSlice,bE ht,sizeOf,kJ hi,Instr.fill,newRow];rw [Array.eq_empty_of_size_eq_zero (xs:=Array.map (fun _=>default) (Array.range 0)) (by simp)]
 obtain ⟨b1,b2,b3⟩:=sJ hR (FR.nil (g:=g) (w:=w) (sz:=sz)) hsz #[] e (cap:=0) (Nat.le_refl _) (by unfold maxLen;omega) (by simp);have hrun':((MA.bslice t 0 []).sem []).run P w=.ok (.slice (some ⟨w.heap.size,0,none⟩) 0 0) (w.alloc (.cells #[] e)):=hrun
 simp only [List.length_nil,Nat.zero_mul,Array.append_empty] at b1 b2 b3;exact ⟨_,_,_,_,_,hrun',b1,b2,b3,hK _⟩
end
/-! ### Results in variables -/
def gM (P:Program) (κ:Ctx) (σ:List Res) (t:TypeId) (x y:AV):Prop :=
 ∀ (φ:List Res) (g:Nat→Nat) (w:World) (v:Value),Rel κ g (φ++σ) w→VR g w x v→∃ a u,v=.pointer (some a)∧(loadVar t a).run P w=.ok u w∧VR g w y u
section
variable {κ:Ctx} {P:Program} {σ:List Res}
theorem zm {t b k:Nat}{cs:List AV}{x:AV} (i:Nat) (h:σ[i]? = some (.obj b cs)) (ha:aggT P t=some false) (hc:cs[k]? = some x):gM P κ σ t (.raw (.pointer (some ⟨b,k,none⟩))) x:=by
 intro φ g w v hR hv;cases hv.raw_eq
 obtain ⟨_,arr,ty,hh,hcs⟩:=hR.holds _ (cN h);have hx:=hcs.get k x hc
 have hlt:k < arr.size:=by rw [hcs.size];exact aL hc
 have hcell:w.cell? ⟨b,k,none⟩=some (arr.getD k undef):=by
  simp [World.cell?,hh,hlt]
 exact ⟨_,_,rfl,by simp [loadVar,dC ha,hcell],hx⟩
theorem Bf {t b k:Nat}{cs:List AV}{n:Nat} (i:Nat) (h:σ[i]? = some (.obj b cs)) (ha:aggT P t=some true) (hs:dj P t=some n) (hn:k+n≤cs.length):gM P κ σ t (.raw (.pointer (some ⟨b,k,none⟩))) (.agg ((cs.drop k).take n)):=by
 intro φ g w v hR hv;cases hv.raw_eq
 obtain ⟨_,arr,ty,hh,hcs⟩:=hR.holds _ (cN h);have hsz:=hcs.size
 obtain ⟨arr2,h1,h2,h3⟩:=ig (P:=P) (w:=w) b k n (fun j hj=>⟨arr.getD (k+j) undef,by
  have:k+j < arr.size:=by omega
  simp [World.cell?,hh,this]⟩)
 refine ⟨_,.agg arr2,rfl,by simp [loadVar,dC ha,dI hs,h1], ?_⟩;refine .agg arr2 (by simp [h2];omega) (fun j y hy=>?_);have hjn:j < n:=by have:=aL hy;simp at this;omega
 rw [List.getElem?_take_of_lt hjn,List.getElem?_drop] at hy;have h4:=h3 j hjn
 have:k+j < arr.size:=by omega
 have h5:w.cell? ⟨b,k+j,none⟩=some (arr.getD (k+j) undef):=by simp [World.cell?,hh,this]
 rw [h5] at h4;rw [← Option.some.inj h4];exact hcs.get _ y hy
variable {fn:Func} {K:Ret→List Res→Prop} {t:List AV} {fr:Bool} {df:List Deferred}
theorem Jq {s:St}{g:Nat→Nat}{w:World}{tmps:Array Value} (ht:TR g w s.t tmps) (k:Tmp):VR g w (s.t.getD k .any) (tmps.getD k undef):=du (a:=⟨tmps,[]⟩) ht (.tmp k)
theorem di {a:Tmp}{ty:TypeId}{x:AV} (hf:fn.results = #[.cell a ty]) (h:gM P κ σ ty (t.getD a .any) x) (hK:K (.ret x) σ):nY κ P fn K ⟨t,σ,fr,df⟩ [.cell a ty]:=by
 intro φ g w tmps hR ht;obtain ⟨p,u,h1,h2,h3⟩:=h φ g w _ hR (Jq ht a);have h1':tmps[a]?.getD undef=.pointer (some p):=by simpa using h1
 exact ⟨u,x,by simp [results,hf,h1',asAddr,h2],h3,hK⟩
theorem xM {a b:Tmp}{ty:TypeId}{x:AV} (hf:fn.results = #[.cell a ty,.tmp b]) (h:gM P κ σ ty (t.getD a .any) x) (hK:K (.ret (.tup [x,t.getD b .any])) σ):nY κ P fn K ⟨t,σ,fr,df⟩ [.cell a ty,.tmp b]:=by
 intro φ g w tmps hR ht;obtain ⟨p,u,h1,h2,h3⟩:=h φ g w _ hR (Jq ht a);have h1':tmps[a]?.getD undef=.pointer (some p):=by simpa using h1
 have h4:=TR.two h3 (Jq ht b)
 exact ⟨.tuple #[u,tmps.getD b undef],_,by simp [results,hf,h1',asAddr,h2],.tup _ h4.size h4.get,hK⟩
theorem lN {a b:Tmp}{ty ty':TypeId}{x y:AV} (hf:fn.results = #[.cell a ty,.cell b ty']) (h:gM P κ σ ty (t.getD a .any) x) (h':gM P κ σ ty' (t.getD b .any) y) (hK:K (.ret (.tup [x,y])) σ):nY κ P fn K ⟨t,σ,fr,df⟩ [.cell a ty,.cell b ty']:=by
 intro φ g w tmps hR ht;obtain ⟨p,u,h1,h2,h3⟩:=h φ g w _ hR (Jq ht a);obtain ⟨q,v,k1,k2,k3⟩:=h' φ g w _ hR (Jq ht b);have h1':tmps[a]?.getD undef=.pointer (some p):=by simpa using h1
 have k1':tmps[b]?.getD undef=.pointer (some q):=by simpa using k1
 have h4:=TR.two h3 k3
 exact ⟨.tuple #[u,v],_,by simp [results,hf,h1',k1',asAddr,h2,k2],.tup _ h4.size h4.get,hK⟩
end
open Go.RowKit Go.ChangeShapes Go.WideShapes
def zp (w:World):Nat→Nat:=fun b=>bu w b
theorem LA {w:World}{b:Nat} (h:w.heap.size≤b):zp w b=0:=by
 have:w.heap[b]? = none:=Array.getElem?_eq_none h
 simp [zp,bu,this]
theorem HG (w:World):Rel ⟨w.heap.size,w⟩ (zp w) [] w :=
 ⟨Below.refl _ _,Nat.le_refl _,by simp,by simp,by simp,fun _ h=>LA h⟩
def Opens (P:Program) (t:TypeId) {α:Type} (av:α→AV) (ok:α→Prop):Prop :=
 ∀ {H:Type} (enc:TypeId × Value→H) (w:World) (fuel:Nat) (cs:List Value) (x:DataW H × List MemPlace),DataW.trod enc P w 0 (fun _=>true) true fuel t cs=some x→∃ a:α,ok a∧TR (zp w) w (av a).cells cs.toArray
section
variable {P:Program} {t:TypeId} {α β:Type} {av:α→AV} {ok:α→Prop}
theorem HJ {k:IntKind} (h:mo P t=some k):Opens P t (fun n:Int=>.raw (.int k n)) (fun n=>k.min≤n∧n≤k.max):=by
 intro H enc w fuel cs x hx;obtain ⟨n,rfl,_,hw⟩:=DataW.trod_int (iE h) hx;refine ⟨n, ?_,TR.one (.raw _)⟩;simpa [Lit.wf] using hw
end
/-! ### The call of a law -/
theorem Gx {P:Program}{f:FuncId}{xs:List AV}{vs:Array Value}{W:World} (h:∀ κ,ACallF κ P f xs [] (fun r _=>r=.ret (B true))) (hv:TR (zp W) W xs vs) :
  Calls P f vs W fun e w'=>e=.returned (.bool true)∧Below W.heap.size W w':=by
 have h1:=h ⟨W.heap.size,W⟩ [] (zp W) W vs (HG W) hv
 refine (callsIn_wide.1 h1).mono ?_;rintro e w' ⟨g',σ',r,hR,_,her,rfl⟩;cases e with
 | returned v=>cases VR.raw_eq her;exact ⟨rfl,hR.below⟩
 | panicked c=>exact her.elim
 | outgrown=>exact her.elim
section
variable {H:Type} {enc:TypeId × Value→H} {P:Program}
theorem vy {f:Func}{s:ChangeSpec}{apart fresh handsOn again:Bool}{W W':World}{args:Array Value}{v:Value}{ds gs:List (DataW H)}{before pa pv:List MemPlace}
  (hW:DataW.Whole enc P f.params.toList s.vars apart W args.toList ds gs before)
  (hres:∀ (b:Nat) (sp:Nat→Bool) (hd:Bool),DataW.TrodAll enc P W' b sp hd f.resultTypes.toList (v.resultList f.resultTypes.size) (s.fn H (ds++gs)).results [])
  (hargs:∀ sp:Nat→Bool,(∀ p∈before,sp p.block=true)→DataW.TrodAll enc P W' 0 sp true f.params.toList args.toList (s.fn H (ds++gs)).args pa)
  (hvars:∀ sp:Nat→Bool,(∀ p∈before,sp p.block=true)→DataW.TrodVars enc P W' sp s.vars (s.fn H (ds++gs)).vars pv)
  (hps:before=pa++pv) (hb:Below W.heap.size W W')
  (hok:∀ (j:Nat) (t:TypeId) (r:Value),f.resultTypes[j]? = some t→(v.resultList f.resultTypes.size)[j]? = some r→Value.okWide P W' .any 0 t r) :
  s.post enc P f apart fresh handsOn again W args v W':=by
 have hlt:∀ p∈before,p.block < W.heap.size:=fun p hp=>hW.lt p hp
 have hold:∀ p∈before,(fun b=>decide (b < W.heap.size)) p.block=true:=fun p hp=>by simpa using hlt p hp
 refine ⟨ds,gs,before,[],pa,pv,hW,hres _ _ _,hargs _ hold,hvars _ hold,World.keptBut_mono (fun p hp=>⟨hp, ?_⟩) (hb.frame (·∈before)),fun _=>?_⟩
 ·rw [hps,List.mem_append] at hp
  exact Or.inr hp
 ·obtain ⟨_,_,_,_,_,hz,hn⟩:=hW
  refine ⟨hok,_,_,([]++pa)++pv,⟨[]++pa,pv,trodAll_append (hargs _ (fun _ _=>rfl)) (hres _ _ _),hvars _ (fun _ _=>rfl),rfl, ?_, ?_⟩, ?_⟩
  ·intro b off hp
   have hin:MemPlace.cell b off∈before:=by rw [hps];simpa using hp
   rw [hb.frozen (hlt _ hin)];exact hz b off hin
  ·intro ha
   have:=hn ha
   rw [hps] at this;simpa using this
  ·intro p hp _
   rw [hps];simpa using hp
end
open Go.RowKit
section
variable {κ:Ctx} {P:Program} {rd:Option Nat}
/-! ### Results may be told weaker -/
def AV.leT (x y:AV):Prop:=x.le y∨(∃ xs ys,x=.tup xs∧y=.tup ys∧zn xs ys)∨∃ xs ys,x=.agg xs∧y=.agg ys∧zn xs ys
theorem VR.leT {g:Nat→Nat}{w:World}{x y:AV}{v:Value} (h:x.leT y) (hv:VR g w x v):VR g w y v:=by
 rcases h with h|⟨xs,ys,rfl,rfl,h⟩|⟨xs,ys,rfl,rfl,h⟩
 ·exact hv.le h
 ·cases hv with
  | tup vs hs hv =>
  have:=TR.le (vs:=vs) ⟨hs,hv⟩ (lD h) (lM h)
  exact .tup vs this.size this.get
 ·cases hv with
  | agg vs hs hv =>
  have:=TR.le (vs:=vs) ⟨hs,hv⟩ (lD h) (lM h)
  exact .agg vs this.size this.get
def Ret.le:Ret→Ret→Prop
 | .ret x,.ret y=>x.leT y
 | .pan c,.pan d=>c=d
 | _,_=>False
def AY (K:Ret→List Res→Prop):Ret→List Res→Prop:=fun r σ'=>∃ (ρ:List Res) (r':Ret),Sub ρ σ'∧r.le r'∧K r' ρ
theorem CG {K:Ret→List Res→Prop}{φ:List Res}{g:Nat→Nat}{w:World}{e:Ending}{w':World} (h:fL κ φ g w (AY K) e w'):fL κ φ g w K e w':=by
 obtain ⟨g',σ',r,h1,h2,h3,ρ,r',⟨τ,p,q⟩,hle,h4⟩:=h;refine ⟨g',ρ,r',(h1.sub ((List.Sublist.refl φ).append q)).perm (p.append_left φ),h2, ?_,h4⟩;cases r with
 | ret x =>
  cases r' with
  | pan c=>exact hle.elim
  | ret y =>
   cases e with
   | returned v=>exact VR.leT hle h3
   | panicked c=>exact h3.elim
   | outgrown=>exact h3.elim
 | pan c =>
  cases r' with
  | ret y=>exact hle.elim
  | pan d=>cases (show c=d from hle);exact h3
theorem ACallF.dropL {f:FuncId}{args:List AV}{σ:List Res}{K:Ret→List Res→Prop} (h:ACallF κ P f args σ (AY K)):ACallF κ P f args σ K :=
 fun φ g w vs hR hv=>CallsIn.mono (h φ g w vs hR hv) fun _ _=>CG
theorem ak {K:Ret→List Res→Prop}{σ σ':List Res}{x y:AV} (hs:Sub σ σ') (h:x.leT y) (hK:K (.ret y) σ):AY K (.ret x) σ':=⟨σ,.ret y,hs,h,hK⟩
theorem aS {K:Ret→List Res→Prop}{σ σ':List Res}{c d:List PanicEntry} (hs:Sub σ σ') (h:c=d) (hK:K (.pan d) σ):AY K (.pan c) σ':=⟨σ,.pan d,hs,h,hK⟩
theorem eI {x y:AV} (h:x.le y):x.leT y:=.inl h
theorem aj {x y:AV} (h:x=y):x.leT y:=.inl (.inr (.inl h.symm))
theorem iA {xs ys:List AV} (h:zn xs ys):(AV.tup xs).leT (.tup ys):=.inr (.inl ⟨_,_,rfl,rfl,h⟩)
theorem O5 {xs ys:List AV} (h:zn xs ys):(AV.agg xs).leT (.agg ys):=.inr (.inr ⟨_,_,rfl,rfl,h⟩)
end
section
variable {κ:Ctx} {P:Program} {rd:Option Nat} {σ:List Res} {K:AV→List Res→Prop}
theorem sG {v:Option Value}{K:AV→List Res→Prop} (h:Rz v fun x=>K x σ):∃ x,(∀ K':AV→List Res→Prop,K' x σ→Rz v fun y=>K' y σ)∧K x σ:=by
 cases v with
 | none=>exact h.elim
 | some v=>exact ⟨_,fun _ hk=>hk,h⟩
theorem bY {m:MA}{xs:List AV} (h:actM κ true P m xs σ K):∃ v,(∀ K':AV→List Res→Prop,K' v σ→actM κ false P m xs σ K')∧K v σ:=by
 obtain ⟨x,h1,h2⟩:=h;exact ⟨x,fun K' hk=>AAct.mono h1 (fun y σ' hy=>by obtain ⟨rfl,rfl⟩:=hy;exact hk),h2⟩
theorem Lp {op:BinOp}{t:TypeId}{x y:AV} (h:mn κ true P op t x y σ K):∃ v,(∀ K':AV→List Res→Prop,K' v σ→mn κ false P op t x y σ K')∧K v σ:=by
 unfold mn at h ⊢;split at h
 ·split at h
  ·obtain ⟨v,h1,h2⟩:=sG h;exact ⟨v,h1,h2⟩
  ·obtain ⟨v,h1,h2⟩:=sG h;exact ⟨v,h1,h2⟩
  ·rename_i n1 n2
   obtain ⟨he,h⟩:=h;obtain ⟨v,h1,h2⟩:=sG h;refine ⟨v, ?_,h2⟩;intro K' hk;cases op<;>first|exact ⟨he,h1 K' hk⟩|exact (n1 rfl).elim|exact (n2 rfl).elim
 ·exact sG h
 ·split at h
  ·exact ⟨_,fun _ hk=>⟨h.1,hk⟩,h.2⟩
  ·exact ⟨_,fun _ hk=>⟨h.1,hk⟩,h.2⟩
  ·exact h.elim
 ·split at h
  ·obtain ⟨h1,⟨h2,h3⟩|⟨h2,_⟩⟩:=h
   ·exact ⟨_,fun _ hk=>⟨h1,.inl ⟨h2,hk⟩⟩,h3⟩
   ·cases h2
  ·obtain ⟨h1,⟨h2,h3⟩|⟨h2,_⟩⟩:=h
   ·exact ⟨_,fun _ hk=>⟨h1,.inl ⟨h2,hk⟩⟩,h3⟩
   ·cases h2
  ·exact h.elim
 ·split at h
  ·exact ⟨_,fun _ hk=>⟨h.1,hk⟩,h.2⟩
  ·exact ⟨_,fun _ hk=>⟨h.1,hk⟩,h.2⟩
  ·exact h.elim
 ·rename_i n1 n2 n3 n4 n5
  obtain ⟨v,h1,h2⟩:=bY h;exact ⟨v,h1,h2⟩
theorem I9 {t:TypeId}{x:AV} (h:DW κ true P t x σ K):∃ v,(∀ K':AV→List Res→Prop,K' v σ→DW κ false P t x σ K')∧K v σ:=by
 unfold DW at h ⊢;split at h
 ·exact ⟨_,fun _ hk=>⟨h.1,hk⟩,h.2⟩
 ·exact ⟨_,fun _ hk=>⟨h.1,hk⟩,h.2⟩
 ·exact ⟨_,fun _ hk=>⟨h.1,hk⟩,h.2⟩
 ·rename_i n1 n2 n3
  obtain ⟨v,h1,h2⟩:=bY h;exact ⟨v,h1,h2⟩
theorem GN {t:TypeId}{x:AV} (h:uT κ true P t x σ K):∃ v,(∀ K':AV→List Res→Prop,K' v σ→uT κ false P t x σ K')∧K v σ:=by
 unfold uT at h ⊢;split at h
 ·cases ha:aggT P t with
  | none=>simp only [ha] at h
  | some b =>
   cases hs:dj P t with
   | none=>cases b<;>simp only [ha,hs] at h
   | some n =>
    cases b
    ·simp only [ha,hs] at h ⊢;exact ⟨_,fun _ hk=>⟨h.1,hk⟩,h.2⟩
    ·simp only [ha,hs] at h ⊢;exact ⟨_,fun _ hk=>⟨h.1,hk⟩,h.2⟩
 ·rename_i n1
  obtain ⟨v,h1,h2⟩:=bY h;exact ⟨v,h1,h2⟩
theorem th {t:TypeId}{x:AV}{f:Nat} (h:eo κ true P t x f σ K):∃ v,(∀ K':AV→List Res→Prop,K' v σ→eo κ false P t x f σ K')∧K v σ:=by
 unfold eo at h ⊢;split at h
 ·cases hf:cH P t f with
  | none=>simp only [hf] at h
  | some p=>simp only [hf] at h ⊢;exact ⟨_,fun _ hk=>⟨h.1,h.2.1,hk⟩,h.2.2⟩
 ·cases hf:cH P t f with
  | none=>simp only [hf] at h
  | some p=>simp only [hf] at h ⊢;exact ⟨_,fun _ hk=>⟨h.1,hk⟩,h.2⟩
 ·rename_i n1 n2
  obtain ⟨v,h1,h2⟩:=bY h;exact ⟨v,h1,h2⟩
theorem Cy {t:TypeId}{x:AV}{f:Nat} (h:mh κ true P t x f σ K):∃ v,(∀ K':AV→List Res→Prop,K' v σ→mh κ false P t x f σ K')∧K v σ:=by
 unfold mh at h ⊢;split at h
 ·cases hf:cH P t f with
  | none=>simp only [hf] at h
  | some p =>
   obtain ⟨off,ft⟩:=p;simp only [hf] at h ⊢;cases ha:aggT P ft with
   | none=>simp only [ha] at h
   | some b =>
    cases hs:dj P ft with
    | none=>cases b<;>simp only [ha,hs] at h
    | some n =>
     cases b
     ·simp only [ha,hs] at h ⊢;exact ⟨_,fun _ hk=>⟨h.1,hk⟩,h.2⟩
     ·simp only [ha,hs] at h ⊢;exact ⟨_,fun _ hk=>hk,h⟩
 ·rename_i n1
  obtain ⟨v,h1,h2⟩:=bY h;exact ⟨v,h1,h2⟩
theorem H3 {t:TypeId}{x i:AV} (h:Cd κ true P t x i σ K):∃ v,(∀ K':AV→List Res→Prop,K' v σ→Cd κ false P t x i σ K')∧K v σ:=by
 unfold Cd at h ⊢;split at h
 ·exact ⟨_,fun _ hk=>⟨h.1,h.2.1,h.2.2.1,hk⟩,h.2.2.2⟩
 ·rename_i n1
  obtain ⟨v,h1,h2⟩:=bY h;exact ⟨v,h1,h2⟩
theorem zt {t:TypeId}{x i:AV} (h:ln κ true P t x i σ K):∃ v,(∀ K':AV→List Res→Prop,K' v σ→ln κ false P t x i σ K')∧K v σ:=by
 unfold ln at h ⊢;split at h
 ·exact ⟨_,fun _ hk=>⟨h.1,h.2.1,h.2.2.1,hk⟩,h.2.2.2⟩
 ·rename_i n1
  obtain ⟨v,h1,h2⟩:=bY h;exact ⟨v,h1,h2⟩
theorem DG {t:TypeId}{x:AV}{lo hi mx:Option AV} (h:oH κ true P t x lo hi mx σ K):∃ v,(∀ K':AV→List Res→Prop,K' v σ→oH κ false P t x lo hi mx σ K')∧K v σ:=by
 unfold oH at h ⊢;split at h
 ·rename_i sz o l
  cases ha:E2 lo with
  | none=>simp only [ha] at h
  | some a =>
   cases hb:FU l.length hi with
   | none=>simp only [ha,hb] at h
   | some b=>simp only [ha,hb] at h ⊢;exact ⟨_,fun _ hk=>⟨h.1,h.2.1,h.2.2.1,h.2.2.2.1,hk⟩,h.2.2.2.2⟩
 ·cases ha:E2 lo with
  | none=>simp only [ha] at h
  | some a =>
   cases hb:FU 0 hi with
   | none=>simp only [ha,hb] at h
   | some b=>simp only [ha,hb] at h ⊢;exact ⟨_,fun _ hk=>⟨h.1,h.2.1,h.2.2.1,hk⟩,h.2.2.2⟩
 ·rename_i s
  cases ha:E2 lo with
  | none=>simp only [ha] at h
  | some a =>
   cases hb:FU s.size hi with
   | none=>simp only [ha,hb] at h
   | some b=>simp only [ha,hb] at h ⊢;exact ⟨_,fun _ hk=>⟨h.1,h.2.1,h.2.2.1,h.2.2.2.1,hk⟩,h.2.2.2.2⟩
 ·rename_i n1 n2 n3
  obtain ⟨v,h1,h2⟩:=bY h;exact ⟨v,h1,h2⟩
theorem G3 {a b:TypeId}{x:AV} (h:rz κ true P a b x σ K):∃ v,(∀ K':AV→List Res→Prop,K' v σ→rz κ false P a b x σ K')∧K v σ:=by
 unfold rz at h ⊢;split at h
 ·cases hi:mo P b with
  | none=>simp only [hi] at h ⊢;exact bY h
  | some k=>simp only [hi] at h ⊢;exact ⟨_,fun _ hk=>⟨h.1,hk⟩,h.2⟩
 ·rename_i n1
  obtain ⟨v,h1,h2⟩:=bY h;exact ⟨v,h1,h2⟩
theorem Fu {o:Oper}{s:St}{K:AV→List Res→Prop}{KP:List PanicEntry→List Res→Prop} (h:eZ κ true P o s K KP) (hp:∀ c σ',¬KP c σ'):∃ x,(∀ (K':AV→List Res→Prop) (KP':List PanicEntry→List Res→Prop),K' x s.σ→eZ κ false P o s K' KP')∧K x s.σ:=by
 obtain ⟨dst,op,ty,pos,af,gd⟩:=o;cases op with
 | move x=>exact ⟨_,fun _ _ hk=>hk,h⟩
 | assign x=>exact ⟨_,fun _ _ hk=>hk,h⟩
 | pick c x y =>
  simp only [eZ,E4] at h ⊢;split at h
  ·exact ⟨_,fun _ _ hk=>hk,h⟩
  ·exact h.elim
 | binOp b t x y u =>
  simp only [eZ] at h ⊢;obtain ⟨v,h1,h2⟩:=Lp h.2;exact ⟨v,fun K' _ hk=>⟨h.1,h1 K' hk⟩,h2⟩
 | unOp b t x =>
  simp only [eZ,Yp] at h ⊢;split at h
  ·exact ⟨_,fun _ _ hk=>hk,h⟩
  ·exact ⟨_,fun _ _ hk=>hk,h⟩
  ·exact h.elim
 | extract x i =>
  simp only [eZ,OF] at h ⊢;split at h
  ·exact ⟨_,fun _ _ hk=>⟨h.1,hk⟩,h.2⟩
  ·exact h.elim
 | load t x=>(obtain ⟨v,h1,h2⟩:=GN h;exact ⟨v,fun K' _ hk=>h1 K' hk,h2⟩)
 | store t x y =>
  obtain ⟨v,h1,h2⟩:=bY (κ:=κ) (P:=P) h;exact ⟨.any,fun K' _ hk=>h1 (fun _ σ'=>K' .any σ') hk,h2⟩
 | alloc t=>(obtain ⟨v,h1,h2⟩:=bY h;exact ⟨v,fun K' _ hk=>h1 K' hk,h2⟩)
 | box t x=>(obtain ⟨v,h1,h2⟩:=bY h;exact ⟨v,fun K' _ hk=>h1 K' hk,h2⟩)
 | build t ps=>(obtain ⟨v,h1,h2⟩:=bY h;exact ⟨v,fun K' _ hk=>h1 K' hk,h2⟩)
 | buildSlice t n ps=>(obtain ⟨v,h1,h2⟩:=bY h;exact ⟨v,fun K' _ hk=>h1 K' hk,h2⟩)
 | fieldAddr t x f=>(obtain ⟨v,h1,h2⟩:=th h;exact ⟨v,fun K' _ hk=>h1 K' hk,h2⟩)
 | field t x f=>(obtain ⟨v,h1,h2⟩:=Cy h;exact ⟨v,fun K' _ hk=>h1 K' hk,h2⟩)
 | indexAddr t x y=>(obtain ⟨v,h1,h2⟩:=H3 h;exact ⟨v,fun K' _ hk=>h1 K' hk,h2⟩)
 | index t x y=>(obtain ⟨v,h1,h2⟩:=zt h;exact ⟨v,fun K' _ hk=>h1 K' hk,h2⟩)
 | slice t x lo hi mx=>(obtain ⟨v,h1,h2⟩:=DG h;exact ⟨v,fun K' _ hk=>h1 K' hk,h2⟩)
 | convert a b x=>(obtain ⟨v,h1,h2⟩:=G3 h;exact ⟨v,fun K' _ hk=>h1 K' hk,h2⟩)
 | makeFunc f a b =>
  simp only [eZ,sg] at h ⊢;split at h
  ·exact ⟨_,fun _ _ hk=>hk,h⟩
  ·exact h.elim
 | makeSlice t x y=>(obtain ⟨v,h1,h2⟩:=bY h;exact ⟨v,fun K' _ hk=>h1 K' hk,h2⟩)
 | lookup t x y b=>(obtain ⟨v,h1,h2⟩:=bY h;exact ⟨v,fun K' _ hk=>h1 K' hk,h2⟩)
 | mapUpdate t x y z =>
  obtain ⟨v,h1,h2⟩:=bY (κ:=κ) (P:=P) h;exact ⟨.any,fun K' _ hk=>h1 (fun _ σ'=>K' .any σ') hk,h2⟩
 | makeMap t r =>
  cases r with
  | none=>(obtain ⟨v,h1,h2⟩:=bY h;exact ⟨v,fun K' _ hk=>h1 K' hk,h2⟩)
  | some r=>exact h.elim
 | typeAssert x a b c=>(obtain ⟨v,h1,h2⟩:=bY h;exact ⟨v,fun K' _ hk=>h1 K' hk,h2⟩)
 | range t x=>(obtain ⟨v,h1,h2⟩:=bY h;exact ⟨v,fun K' _ hk=>h1 K' hk,h2⟩)
 | next x b=>(obtain ⟨v,h1,h2⟩:=bY h;exact ⟨v,fun K' _ hk=>h1 K' hk,h2⟩)
 | makeInterface t x=>(obtain ⟨v,h1,h2⟩:=bY h;exact ⟨v,fun K' _ hk=>h1 K' hk,h2⟩)
 | nilCheck x =>
  simp only [eZ,Pn] at h ⊢;split at h
  ·exact ⟨_,fun _ _ hk=>hk,h⟩
  ·exact ⟨_,fun _ _ hk=>hk,h⟩
  ·exact ⟨_,fun _ _ hk=>hk,h⟩
  ·exact ⟨_,fun _ _ hk=>hk,h⟩
  ·exact h.elim
 | panic x =>
  simp only [eZ,OV] at h;split at h
  ·exact (hp _ _ h).elim
  ·exact h.elim
 | call c =>
  obtain ⟨callee,xs,ts⟩:=c;cases callee with
  | value f =>
   obtain ⟨x,h1,h2⟩:=h;refine ⟨x,fun K' KP' hk=>?_,h2⟩;simp only [eZ,callM];have hm:∀ (r:Ret) (σ':List Res),(r=.ret x∧σ'=s.σ)→Aj K' KP' r σ':=by
    rintro r σ' ⟨rfl,rfl⟩;exact hk
   unfold il at h1 ⊢;split at h1
   ·refine ⟨h1.1,fun φ g w vs hR hv=>CallsIn.mono (h1.2 φ g w vs hR hv) ?_⟩
    rintro e w' ⟨g',σ',r,a,b,c,d⟩;exact ⟨g',σ',r,a,b,c,hm _ _ d⟩
   ·intro φ g w vs hR hv
    obtain ⟨f,tmps,assign,body,k1,k2⟩:=h1 φ g w vs hR hv;refine ⟨f,tmps,assign,body,k1,RoundIn.mono k2 ?_⟩;rintro e w' ⟨g',σ',r,a,b,c,d⟩;exact ⟨g',σ',r,a,b,c,hm _ _ d⟩
   ·exact h1.elim
  | invoke r m=>exact h.elim
  | builtin b =>
   cases b with
   | len =>
    obtain ⟨h1,h2,h3⟩:=h;obtain ⟨v,k1,k2⟩:=I9 h3;exact ⟨v,fun K' _ hk=>⟨h1,h2,k1 K' hk⟩,k2⟩
   | cap =>
    obtain ⟨h1,h2,h3⟩:=h;obtain ⟨v,k1,k2⟩:=bY h3;exact ⟨v,fun K' _ hk=>⟨h1,h2,k1 K' hk⟩,k2⟩
   | append =>
    obtain ⟨h1,h2,h4,h3⟩:=h;obtain ⟨v,k1,k2⟩:=bY h3;exact ⟨v,fun K' _ hk=>⟨h1,h2,h4,k1 K' hk⟩,k2⟩
   | copy =>
    obtain ⟨h1,h3⟩:=h;obtain ⟨v,k1,k2⟩:=bY h3;exact ⟨v,fun K' _ hk=>⟨h1,k1 K' hk⟩,k2⟩
   | max=>(obtain ⟨v,h1,h2⟩:=bY h;exact ⟨v,fun K' _ hk=>h1 K' hk,h2⟩)
   | min=>(obtain ⟨v,h1,h2⟩:=bY h;exact ⟨v,fun K' _ hk=>h1 K' hk,h2⟩)
   | _=>exact h.elim
 | _=>exact h.elim
theorem Gh {all:List Oper}{o:Oper}{s:St}{K:AV→List Res→Prop}{KP:List PanicEntry→List Res→Prop}{Y:Prop} (h:de all o s (eZ κ true P o s K KP) Y) (hp:∀ c σ',¬KP c σ') :
  ∃ x,de all o s (∀ (K':AV→List Res→Prop) (KP':List PanicEntry→List Res→Prop),K' x s.σ→eZ κ false P o s K' KP') (x=U)∧(K x s.σ∨(x=U∧Y)):=by
 unfold de at h ⊢;split at h
 ·rename_i hg
  obtain ⟨x,h1,h2⟩:=Fu h hp;exact ⟨x,h1,.inl h2⟩
 ·rename_i j want hg
  cases hd:(all[j]?).bind (·.dst) with
  | none=>rw [hd] at h;exact h.elim
  | some d =>
   rw [hd] at h;simp only at h ⊢;split at h
   ·rename_i b hb
    cases hbw:(b == want) with
    | true =>
     obtain ⟨x,h1,h2⟩:=Fu (h.1 hbw) hp;exact ⟨x,⟨fun _=>h1,fun e=>(by cases e)⟩,.inl h2⟩
    | false=>exact ⟨U,⟨fun e=>(by cases e),fun _=>rfl⟩,.inr ⟨rfl,h.2 hbw⟩⟩
   ·exact ⟨U,rfl,.inr ⟨rfl,h⟩⟩
   ·exact h.elim
def Z2 (κ:Ctx) (P:Program) (l:List Oper) (Q:Exit→St→Prop) (nA:Nat) (σ:List Res) (fr:Bool) (df:List Deferred) (e:Exit) (s:St):Prop :=
 e=.normal∧s.σ=σ∧bA κ false P l Q (l.drop nA) ⟨s.t,σ,fr,df⟩
theorem bK {l:List Oper}{Q:Exit→St→Prop}{nA:Nat}{t:List AV}{σ:List Res}{fr fr':Bool}{df df':List Deferred} (h:bA κ false P l Q (l.drop nA) ⟨t,σ,fr,df⟩):Z2 κ P l Q nA σ fr df .normal ⟨t,σ,fr',df'⟩:=⟨rfl,rfl,h⟩
theorem ej (t:List AV) (d:Option Tmp) (x:AV):(bP t d x).length=t.length:=by cases d<;>simp [bP]
theorem ey {t:List AV}{d:Option Tmp}{x:AV}{k:Nat} (h:d≠some k):(bP t d x)[k]? = t[k]?:=by
 cases d with
 | none=>rfl
 | some d =>
  have:d≠k:=fun e=>h (by rw [e])
  simp [bP,List.getElem?_set_ne this]
theorem xU {all:List Oper}{Q:Exit→St→Prop} (hQ:∀ c s,¬Q (.panic c) s):∀ (l:List Oper) (s:St),bA κ true P all Q l s →
  ∃ ts:Nat→List AV,ts 0=s.t∧Q .normal { s with t:=ts l.length }∧∀ i o,l[i]? = some o→∃ x,ts (i+1)=bP (ts i) o.dst x∧de all o { s with t:=ts i } (∀ (K':AV→List Res→Prop) (KP':List PanicEntry→List Res→Prop),K' x s.σ→eZ κ false P o { s with t:=ts i } K' KP') (x=U)
 | [],s,h=>⟨fun _=>s.t,rfl,h,fun i o hi=>by simp at hi⟩
 | o::l,s,h=>by
  simp only [bA] at h;obtain ⟨x,h1,h2⟩:=Gh h (fun c σ'=>hQ c _);have h3:bA κ true P all Q l { s with t:=bP s.t o.dst x }:=by
   rcases h2 with h2|⟨rfl,h2⟩
   ·exact h2
   ·exact h2
  obtain ⟨ts,e1,e2,e3⟩:=xU hQ l _ h3;refine ⟨fun n=>match n with|0=>s.t|n+1=>ts n,rfl, ?_, ?_⟩
  ·simpa using e2
  ·intro i o' hi
   match i,hi with
   | 0,hi =>
    simp at hi;subst hi;exact ⟨x,e1,h1⟩
   | i+1,hi =>
    simp only [List.getElem?_cons_succ] at hi;exact e3 i o' hi
theorem aE {id:Nat}{l:List Oper}{Q:Exit→St→Prop}{t:List AV}{σ:List Res}{fr:Bool}{df:List Deferred} (nA:Nat) (hm:P.follows .mixedOrders=true) (hok:yn l nA=true)
  (h:bA κ true P l (Z2 κ P l Q nA σ fr df) (l.take nA) ⟨t,σ,fr,df⟩):AW κ rd P (.region id l.toArray true) Q ⟨t,σ,fr,df⟩:=by
 obtain ⟨ts,e1,e2,e3⟩:=xU (fun c s hc=>by cases hc.1) _ _ h;obtain ⟨_,_,hrest⟩:=e2;simp only at hrest e1;have hok':=hok
 unfold yn at hok;simp only [Bool.and_eq_true] at hok;obtain ⟨⟨⟨⟨c1,c2⟩,c3⟩,c4⟩,c5⟩:=hok;have hnA:nA≤l.length:=by simpa using c5
 have hlen:(l.take nA).length=nA:=by simp;omega
 rw [hlen] at hrest;have hlt:∀ i o,l[i]? = some o→∀ j∈bQ o,j < i:=by
  intro i o ho j hj;have:=List.all_eq_true.1 c1 (o,i) (List.mem_iff_getElem?.2 ⟨i,by simp [List.getElem?_zipIdx,ho]⟩)
  simpa using List.all_eq_true.1 this j hj
 have hA:∀ i o,l[i]? = some o→i < nA→(l.take nA)[i]? = some o:=fun i o ho hi=>by rw [List.getElem?_take_of_lt hi];exact ho
 have hA':∀ i o,(l.take nA)[i]? = some o→l[i]? = some o∧i < nA:=fun i o ho=>by
  have hi:i < nA:=by rw [← hlen];exact aL ho
  rw [List.getElem?_take_of_lt hi] at ho;exact ⟨ho,hi⟩
 have hsee:∀ i o,l[i]? = some o→i < nA→∀ k∈o.looksAt l.toArray,∀ j o',l[j]? = some o'→o'.dst=some k→j∈bQ o:=by
  intro i o ho hi k hk j o' ho' hd;have:=List.all_eq_true.1 c2 o (List.mem_of_getElem? (hA i o ho hi))
  simp only [Bool.and_eq_true] at this;have:=List.all_eq_true.1 this.2 k hk
  have:=List.all_eq_true.1 this (o',j) (List.mem_iff_getElem?.2 ⟨j,by simp [List.getElem?_zipIdx,ho']⟩)
  simpa [hd] using this
 have hdst:∀ i o,l[i]? = some o→i < nA→∃ d,o.dst=some d:=by
  intro i o ho hi;have:=List.all_eq_true.1 c2 o (List.mem_of_getElem? (hA i o ho hi))
  simp only [Bool.and_eq_true] at this;exact Option.isSome_iff_exists.1 this.1
 have huniq:∀ i o j o',l[i]? = some o→i < nA→l[j]? = some o'→j < nA→o.dst=o'.dst→i=j:=by
  intro i o j o' ho hi ho' hj he;have h1:=List.all_eq_true.1 c3 (o,i) (List.mem_iff_getElem?.2 ⟨i,by simp [List.getElem?_zipIdx,hA i o ho hi]⟩)
  have h2:=List.all_eq_true.1 h1 (o',j) (List.mem_iff_getElem?.2 ⟨j,by simp [List.getElem?_zipIdx,hA j o' ho' hj]⟩)
  simpa [he] using h2
 have tlen:∀ i,i≤nA→(ts i).length=t.length:=by
  intro i;induction i with
  | zero=>intro _;rw [e1]
  | succ i ih =>
   intro hi;obtain ⟨x,hx,_⟩:=e3 i _ (List.getElem?_eq_getElem (by rw [hlen];omega));rw [hx,ej,ih (by omega)]
 have keep:∀ n i,i+n≤nA→∀ k,(∀ j o,i≤j→j < i+n→l[j]? = some o→o.dst≠some k)→(ts (i+n))[k]? = (ts i)[k]?:=by
  intro n;induction n with
  | zero=>intro i _ k _;rfl
  | succ n ih =>
   intro i hi k hk;have hg:(l.take nA)[i+n]? = some ((l.take nA)[i+n]'(by rw [hlen];omega)):=List.getElem?_eq_getElem _
   obtain ⟨x,hx,_⟩:=e3 (i+n) _ hg;have:=ey (t:=ts (i+n)) (x:=x) (hk (i+n) _ (by omega) (by omega) (hA' _ _ hg).1)
   rw [← Nat.add_assoc,hx,this];exact ih i (by omega) k (fun j o h1 h2=>hk j o h1 (by omega))
 have keepF:∀ i,i≤nA→∀ k,(∀ j o,i≤j→j < nA→l[j]? = some o→o.dst≠some k)→(ts nA)[k]? = (ts i)[k]?:=by
  intro i hi k hk;have:=keep (nA - i) i (by omega) k (fun j o h1 h2=>hk j o h1 (by omega))
  rwa [show i+(nA - i)=nA by omega] at this
 have hgetD:∀ {a b:List AV} {k:Nat},a[k]? = b[k]?→a.getD k .any=b.getD k .any:=fun h=>by
  simp [List.getD_eq_getElem?_getD,h]
 refine Oi nA (ts nA) hm hok' ?_ ?_ hrest
 ·-- the slots that are written, aside
  have hb:∀ (ds:List (Option Tmp)) (a b:List AV),a.length=b.length→(∀ k,(∀ d∈ds,d≠some k)→a[k]? = b[k]?)→blank ds a=blank ds b:=by
   intro ds;induction ds with
   | nil=>intro a b _ h;exact List.ext_getElem? (fun k=>h k (by simp))
   | cons d ds ih =>
    intro a b hl h;simp only [blank,List.foldl_cons];refine ih _ _ (by rw [ej,ej,hl]) (fun k hk=>?_);by_cases e:d=some k
    ·subst e
     simp only [bP,List.getElem?_set,if_true];rw [hl]
    ·rw [ey e,ey e]
     exact h k (fun d' hd'=>by
      rcases List.mem_cons.1 hd' with rfl|hd'
      ·exact e
      ·exact hk d' hd')
  refine hb _ _ _ (tlen nA (Nat.le_refl _)) (fun k hk=>?_);have:=keepF 0 (Nat.zero_le _) k (fun j o _ hj ho=>hk _ (List.mem_map.2 ⟨o,List.mem_of_getElem? (hA j o ho hj),rfl⟩))
  rw [this,e1]
 ·-- each one asks the same at the end
  have hall:∀ (m:List Oper),(∀ o∈m,bA κ false P l (l8 (ts nA) σ fr df) [o] ⟨ts nA,σ,fr,df⟩)→idem κ P l (ts nA) σ fr df m:=by
   intro m;induction m with
   | nil=>intro _;exact trivial
   | cons o m ih=>intro h;exact ⟨h o (by simp),ih (fun o' ho'=>h o' (by simp [ho']))⟩
  refine hall _ (fun o ho=>?_);obtain ⟨i,hi⟩:=List.mem_iff_getElem?.1 ho;obtain ⟨hil,hiA⟩:=hA' i o hi;obtain ⟨x,hx,hg⟩:=e3 i o hi;simp only at hg;have look:∀ k∈o.looksAt l.toArray,(ts i)[k]? = (ts nA)[k]?:=fun k hk=>by
   refine (keepF i (by omega) k (fun j o' h1 h2 ho' hd=>?_)).symm;have:=hlt i o hil j (hsee i o hil hiA k hk j o' ho' hd)
   omega
  obtain ⟨d,hd⟩:=hdst i o hil hiA;have own:bP (ts nA) o.dst x=ts nA:=by
   rw [hd];have h1:(ts nA)[d]? = (ts (i+1))[d]?:=keepF (i+1) (by omega) d (fun j o' h1 h2 ho' hd'=>by
    have:=huniq i o j o' hil hiA ho' h2 (by rw [hd,hd'])
    omega)
   rw [hx,hd] at h1;refine List.ext_getElem? (fun k=>?_);by_cases e:d=k
   ·subst e
    rw [h1];simp only [bP,List.getElem?_set,if_true];rw [tlen nA (Nat.le_refl _),tlen i (by omega)]
   ·exact ey (by simp [e])
  simp only [bA];have hops:∀ y∈o.op.operands.toList,St.ev ⟨ts i,σ,fr,df⟩ y=St.ev ⟨ts nA,σ,fr,df⟩ y:=by
   intro y hy;cases y with
   | tmp k=>exact hgetD (look k (by
     unfold Oper.looksAt;exact List.mem_append.2 (.inl (List.mem_filterMap.2 ⟨.tmp k,hy,rfl⟩))))
   | _=>rfl
  have hg2:de l o ⟨ts nA,σ,fr,df⟩ (∀ (K':AV→List Res→Prop) (KP':List PanicEntry→List Res→Prop),K' x σ→eZ κ false P o ⟨ts nA,σ,fr,df⟩ K' KP') (x=U):=by
   refine gN (s:=⟨ts i,σ,fr,df⟩) (fun j want d' hgd hdd=>hgetD (look d' ?_)) (fun hr K' KP' hk=>jD (s:=⟨ts i,σ,fr,df⟩) rfl hops (hr K' KP' hk)) hg;unfold Oper.looksAt;refine List.mem_append.2 (.inr ?_);rw [hgd];have:(l.toArray[j]?).bind (·.dst)=some d':=by simpa using hdd
   show d'∈((l.toArray[j]?).bind (·.dst)).toList
   rw [this];simp
  have hg3:∀ {X Y X' Y':Prop},de l o ⟨ts nA,σ,fr,df⟩ X Y→(X→X')→(Y→Y')→de l o ⟨ts nA,σ,fr,df⟩ X' Y':=by
   intro X Y X' Y' h hX hY;unfold de at h ⊢;split at h
   ·exact hX h
   ·split at h
    ·split at h
     ·exact ⟨fun e=>hX (h.1 e),fun e=>hY (h.2 e)⟩
     ·exact hY h
     ·exact h.elim
    ·exact h.elim
  refine hg3 hg2 (fun hr=>?_) (fun hu=>?_)
  ·exact hr _ _ ⟨rfl,by rw [own]⟩
  ·subst hu
   exact ⟨rfl,by rw [own]⟩
end
section
variable {κ:Ctx} {P:Program} {rd:Option Nat}
theorem ly {τ σ:List Res}{r:Res} (h:Sub (r::τ) σ):∃ j,σ[j]? = some r∧∀ r',Sub (r'::τ) (σ.set j r'):=by
 obtain ⟨ρ,p,q⟩:=h;have hm:r∈ρ:=p.mem_iff.2 (by simp)
 obtain ⟨k,hk⟩:=List.mem_iff_getElem?.1 hm;have key:∀ {ρ σ:List Res},ρ.Sublist σ→∀ k,ρ[k]? = some r→∃ j,σ[j]? = some r∧∀ r',(ρ.set k r').Sublist (σ.set j r'):=by
  intro ρ σ h;induction h with
  | slnil=>intro k hk;simp at hk
  | cons a h ih =>
   intro k hk;obtain ⟨j,h1,h2⟩:=ih k hk;exact ⟨j+1,by simpa using h1,fun r'=>by simpa using (h2 r').cons a⟩
  | cons_cons a h ih =>
   intro k hk;cases k with
   | zero=>exact ⟨0,by simpa using hk,fun r'=>by simpa using h.cons_cons r'⟩
   | succ k =>
    obtain ⟨j,h1,h2⟩:=ih k (by simpa using hk);exact ⟨j+1,by simpa using h1,fun r'=>by simpa using (h2 r').cons_cons a⟩
 obtain ⟨j,h1,h2⟩:=key q k hk;refine ⟨j,h1,fun r'=>⟨ρ.set k r', ?_,h2 r'⟩⟩;have p2:(r::ρ.eraseIdx k).Perm (r::τ):=(dE hk).symm.trans p
 exact (fq hk).symm.trans ((p2.cons_inv).cons r')
def nV (r:Res) (σ τ:List Res):Prop:=∃ τ0,Sub (r::τ0) σ∧ResW τ0 τ
theorem iU {r:Res}{τ:List Res}:nV r (r::τ) τ:=⟨τ,ae,ResW.refl τ⟩
theorem qu {r x:Res}{σ τ:List Res} (h:ResW (x::σ) τ):nV r (x::r::σ) τ:=by
 refine ⟨x::σ, ?_,h⟩;exact ⟨x::r::σ,List.Perm.swap _ _ _,List.Sublist.refl _⟩
theorem Eb {r:Res}{σ τ:List Res} (h:ResW σ τ):nV r (r::σ) τ:=⟨σ,ae,h⟩
def IX (l:Nat) (d:Nat × Nat) (r:Res):Prop:=∃ st pend t ps as bd,r=.loop l st pend t ps as bd d
def Gm (Q:Exit→St→Prop) (t:List AV) (fr:Bool) (df:List Deferred) (Rb:Res) (Inv:List Res→Prop):Exit→St→Prop
 | .normal,s=>∃ τ,nV Rb s.σ τ∧Inv τ
 | .ret,s=>∃ τ,nV Rb s.σ τ∧Q .ret ⟨t,τ,fr,df⟩
 | .exit id,s=>∃ τ,nV Rb s.σ τ∧Q (.exit id) ⟨t,τ,fr,df⟩
 | _,_=>False
def Rq (κ:Ctx) (P:Program) (Q:Exit→St→Prop) (t:List AV) (fr:Bool) (df:List Deferred) (l:Nat) (body:Code) (Rr Rb:Res) (Inv:List Res→Prop) (s1:St):Prop :=
 ∃ j,s1.σ[j]? = some Rr∧run κ P (some l) body (Gm Q t fr df Rb Inv) ⟨s1.t,s1.σ.set j Rb,s1.fr,s1.df⟩
theorem sC {Q:Exit→St→Prop}{t:List AV}{fr fr':Bool}{df df':List Deferred}{l:Nat}{body:Code}{Rr Rb:Res}{Inv:List Res→Prop}{t':List AV}{τ:List Res} (h:run κ P (some l) body (Gm Q t fr df Rb Inv) ⟨t',Rb::τ,fr',df'⟩) :
  Rq κ P Q t fr df l body Rr Rb Inv ⟨t',Rr::τ,fr',df'⟩:=⟨0,rfl,h⟩
theorem sR {Q:Exit→St→Prop}{t:List AV}{fr:Bool}{df:List Deferred}{Rb:Res}{Inv:List Res→Prop}{s:St}:Gm Q t fr df Rb Inv .normal s = ∃ τ,nV Rb s.σ τ∧Inv τ:=rfl
theorem FB {Q:Exit→St→Prop}{t:List AV}{fr:Bool}{df:List Deferred}{Rb:Res}{Inv:List Res→Prop}{s:St}:Gm Q t fr df Rb Inv .ret s = ∃ τ,nV Rb s.σ τ∧Q .ret ⟨t,τ,fr,df⟩:=rfl
theorem Ac {Q:Exit→St→Prop}{t:List AV}{fr:Bool}{df:List Deferred}{Rb:Res}{Inv:List Res→Prop}{s:St}{id:Nat}:Gm Q t fr df Rb Inv (.exit id) s = ∃ τ,nV Rb s.σ τ∧Q (.exit id) ⟨t,τ,fr,df⟩:=rfl
def VG (κ:Ctx) (P:Program) (Q:Exit→St→Prop) (t:List AV) (fr:Bool) (df:List Deferred) (ps:Array Tmp) (assign body:Code) (Inv:List (List AV)→List Res→Prop) (d:Nat × Nat):Prop :=
 ∀ (l:Nat) (Rr Rb:Res),IX l d Rb→∀ x xs τ,Inv (x::xs) τ→ps.size=x.length∧run κ P (some l) assign (eY (Rq κ P Q t fr df l body Rr Rb (Inv xs)) (fun _ _=>False)) ⟨je t ps.toList x,Rr::τ,true,[]⟩
theorem F2 {Q:Exit→St→Prop}{s0:St}{l:Nat}{ps:Array Tmp}{assign body:Code}{d:Nat × Nat}{Inv:List (List AV)→List Res→Prop}{x:List AV}{xs:List (List AV)}{τ:List Res} (hps:ps.size=x.length)
  (h:run κ P (some l) assign (eY (Rq κ P Q s0.t (rd.isSome && s0.fr) s0.df l body (.loop l .ready none s0.t ps assign body d) (.loop l .busy none s0.t ps assign body d) (Inv xs)) (fun _ _=>False)) ⟨je s0.t ps.toList x,.loop l .ready none s0.t ps assign body d::τ,true,[]⟩) :
  ACallY κ P l x (.loop l .ready none s0.t ps assign body d::τ) (YK (fun σ'=>∃ τ',σ'=.loop l .ready none s0.t ps assign body d::τ'∧Inv xs τ') (yg κ P rd Q s0 l ps assign body d)):=by
 refine ACallY.dropW (DE (Gm Q s0.t (rd.isSome && s0.fr) s0.df (.loop l .busy none s0.t ps assign body d) (Inv xs)) ?_ 0 rfl hps h);intro e s hq;cases e with
 | normal =>
  obtain ⟨τ',⟨τ0,hs,hw⟩,hi⟩:=hq;obtain ⟨j,h1,h2⟩:=ly hs;exact ⟨j,h1,_,(jY (h2 _)).trans (hw.cons _),τ',rfl,hi⟩
 | ret =>
  obtain ⟨τ',⟨τ0,hs,hw⟩,hi⟩:=hq;obtain ⟨j,h1,h2⟩:=ly hs;exact ⟨j,h1,_,(jY (h2 _)).trans (hw.cons _),0,_,_,rfl,by simp,hi⟩
 | exit id =>
  obtain ⟨τ',⟨τ0,hs,hw⟩,hi⟩:=hq;obtain ⟨j,h1,h2⟩:=ly hs;exact ⟨j,h1,_,(jY (h2 _)).trans (hw.cons _),0,_,_,rfl,by simp,hi⟩
 | goto id=>exact hq.elim
 | panic c=>exact hq.elim
 | outgrown=>exact hq.elim
theorem pH {Q:Exit→St→Prop}{t:List AV}{σ:List Res}{fr:Bool}{df:List Deferred}{f:Operand}{ps:Array Tmp}{assign body:Code} (gf:FuncId) (first cap:List Value) (xs:List (List AV)) (ρ τ:List Res) (Inv:List (List AV)→List Res→Prop)
  (hf:(⟨t,σ,fr,df⟩:St).ev f=.raw (.func (.func gf) first.toArray cap.toArray)) (hok:ao P gf=True) (hσ:ResW σ (ρ++τ))
  (hiter:∀ (L:Nat) (K:Ret→List Res→Prop) (σ':List Res),Iter κ P L K xs σ'→ACallF κ P gf (first.map .raw++[.raw (.func (.yield L) #[] #[])]++cap.map .raw) (ρ++σ') K)
  (h0:Inv xs τ)
  (hend:∀ τ,Inv [] τ→Q .normal ⟨t,τ,false,df⟩)
  (hround:∀ d,VG κ P Q t false df ps assign body Inv d) :
  AW κ none P (.rangeFunc f ps assign body) Q ⟨t,σ,fr,df⟩:=by
 refine Jv hf (hok ▸ trivial) (fun l d=>?_);have hp:ResW (Res.loop l .ready none t ps assign body d::σ) (ρ++(Res.loop l .ready none t ps assign body d::τ)):=((hσ.cons _).trans (ResW.perm List.perm_middle.symm))
 refine ACallF.weak hp ?_;have e1:(first.toArray.toList.map AV.raw++[.raw (.func (.yield l) #[] #[])]++cap.toArray.toList.map AV.raw)=(first.map .raw++[.raw (.func (.yield l) #[] #[])]++cap.map .raw):=by simp
 rw [e1];refine hiter l _ _ (Ec (fun xs σ'=>∃ τ',σ'=.loop l .ready none t ps assign body d::τ'∧Inv xs τ') ?_ ?_ xs _ ⟨τ,rfl,h0⟩)
 ·rintro _ ⟨τ',rfl,hi⟩
  exact ⟨0,_,_,rfl,by simp,hend τ' hi⟩
 ·rintro x xs _ ⟨τ',rfl,hi⟩
  obtain ⟨h1,h2⟩:=hround d l _ (.loop l .busy none t ps assign body d) ⟨_,_,_,_,_,_,rfl⟩ x xs τ' hi;exact F2 (rd:=none) (s0:=⟨t,σ,fr,df⟩) h1 h2
end
end Go.Abs
