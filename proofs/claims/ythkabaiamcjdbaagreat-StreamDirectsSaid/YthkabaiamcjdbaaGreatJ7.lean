/-
  Texts MF, Hc, Hd, Sw, Sp, Sr, Ub, Pb, one behind the other.
-/
import Derived.Test.YthkabaiamcjdbaaGreatJ6
set_option linter.unusedVariables false
set_option linter.unusedSimpArgs false
set_option maxHeartbeats 16000000
namespace Go.Abs
open Go.RowKit
section
variable {κ:Ctx} {P:Program} {rd:Option Nat} {Q:Exit→St→Prop} {s:St} {σ:List Res}
def known (P:Program) (f:FuncId):Prop:=∃ fo,P.funcs[f]? = some fo
def JU (rd:Option Nat) (P:Program) (c:Code) (Q:Exit→Act→World→Prop) (a:Act) (w:World):Prop :=
 ∀ (b:Frame) (k:List Item) (cs:List Frame),b.roundOf=rd→known P b.fn →
  ∃ e a' w',Q e a' w'∧ArrivesIn (Machine.fenced P (FD rd)) P (lone (b.atR a (.code c::k)) cs w) b k cs e a' w'
theorem zW (rd:Option Nat):(FD rd).round=rd:=by cases rd<;>rfl
theorem pq (rd:Option Nat) (n:Nat):(FD rd).room n:=fun d hd=>by rw [Ad] at hd;cases hd
theorem eQ (rd:Option Nat) (m:Machine):m.fenced P (FD rd):=by
 cases rd with
 | none=>exact fenced_wide P m
 | some l=>exact fenced_wide P m
theorem Q2 {c:Code}{Q:Exit→Act→World→Prop}{a:Act}{w:World} (h:c.wpIn (FD rd) 0 P Q a w):JU rd P c Q a w :=
 fun b k cs hro _=>h b k cs (hro.trans (zW rd).symm) (rQ rd _) (pq rd _)
theorem pO {c:Code}{Q Q':Exit→Act→World→Prop}{a:Act}{w:World} (h:JU rd P c Q a w) (hq:∀ e a w,Q e a w→Q' e a w):JU rd P c Q' a w :=
 fun b k cs hro hb=>let ⟨e,a',w',q,r⟩:=h b k cs hro hb;⟨e,a',w',hq _ _ _ q,r⟩
theorem NF {x y:Code}{Q:Exit→Act→World→Prop}{a:Act}{w:World} (h:JU rd P x (Exit.then (JU rd P y Q) Q) a w):JU rd P (.seq x y) Q a w:=by
 intro b k cs hro hb;have h0:(lone (b.atR a (.code (.seq x y)::k)) cs w).fenced P (FD rd):=eQ rd _
 obtain ⟨e,a₁,w₁,hq,harr⟩:=h b (.code y::k) cs hro hb;cases e with
 | normal =>
  obtain ⟨e₂,a₂,w₂,hq₂,harr₂⟩:=hq b k cs hro hb;exact ⟨e₂,a₂,w₂,hq₂,.of_steps (.head h0 stepR_seq harr) harr₂⟩
 | exit id=>exact ⟨_,a₁,w₁,hq,.of_steps (.one h0 stepR_seq) (.pass (x:=.code y) rfl (fun _ _=>.inl (by simp)) harr)⟩
 | goto l=>exact ⟨_,a₁,w₁,hq,.of_steps (.one h0 stepR_seq) (.pass (x:=.code y) rfl (fun _ _=>.inl (by simp)) harr)⟩
 | ret=>exact ⟨_,a₁,w₁,hq,.of_steps (.one h0 stepR_seq) (.pass (x:=.code y) rfl (fun _ _=>.inl (by simp)) harr)⟩
 | panic ch=>exact ⟨_,a₁,w₁,hq,.of_steps (.one h0 stepR_seq) (.pass (x:=.code y) rfl (fun _ _=>.inl (by simp)) harr)⟩
 | outgrown=>exact ⟨_,a₁,w₁,hq,.of_steps (.one h0 stepR_seq) (.pass (x:=.code y) rfl (fun _ _=>.inl (by simp)) harr)⟩
theorem G7 {id:Nat}{c:Code}{Q:Exit→Act→World→Prop}{a:Act}{w:World} (h:JU rd P c (Exit.inBlock id Q) a w):JU rd P (.block id c) Q a w:=by
 intro b k cs hro hb;have h0:(lone (b.atR a (.code (.block id c)::k)) cs w).fenced P (FD rd):=eQ rd _
 obtain ⟨e,a₁,w₁,hq,harr⟩:=h b (.inBlock id::k) cs hro hb;cases e with
 | normal=>exact ⟨.normal,a₁,w₁,hq,.head h0 stepR_block (StepsIn.trans harr (.one (eQ rd _) stepR_inBlock))⟩
 | exit id' =>
  by_cases hid:id'=id
  ·simp only [Exit.inBlock,hid,if_true] at hq
   exact ⟨.normal,a₁,w₁,hq,.head h0 stepR_block (harr.1 k (by simp [exitTo,hid]))⟩
  ·simp only [Exit.inBlock,hid,if_false] at hq
   have this:(id == id')=false:=by simp;exact fun h=>hid h.symm
   have hx:exitTo id' (.inBlock id::k)=exitTo id' k:=by simp [exitTo,this]
   exact ⟨.exit id',a₁,w₁,hq,fun k' hk=>.head h0 stepR_block (harr.1 k' (by rw [hx];exact hk)),
    fun hr' hk=>let ⟨k₁,h1,h2⟩:=harr.2 hr' (by rw [hx];exact hk);⟨k₁,h1,.head h0 stepR_block h2⟩⟩
 | goto l =>
  have hx:gotoIn l (.inBlock id::k)=gotoIn l k:=by simp [gotoIn]
  exact ⟨_,a₁,w₁,hq,fun k' hk=>.head h0 stepR_block (harr.1 k' (by rw [hx];exact hk)),
   fun hr' hk=>let ⟨k₁,h1,h2⟩:=harr.2 hr' (by rw [hx];exact hk);⟨k₁,h1,.head h0 stepR_block h2⟩⟩
 | ret=>exact ⟨_,a₁,w₁,hq,.of_steps (.one h0 stepR_block) harr⟩
 | panic ch=>exact ⟨_,a₁,w₁,hq,.of_steps (.one h0 stepR_block) harr⟩
 | outgrown=>exact ⟨_,a₁,w₁,hq,.of_steps (.one h0 stepR_block) harr⟩
theorem vj {g:Operand}{ps:Array Tmp}{assign body:Code}{Q:Exit→Act→World→Prop}{a:Act}{w:World}
  (h:∀ fn,known P fn→∃ (l:Nat) (mark:List Deferred) (w₁:World) (d:Deferred) (w₁':World) (f:FuncId) (args:Array Value) (w₂:World),
   (Instr.enterLoop fn a.tmps ps assign body rd).run P w=.ok (l,mark) w₁ ∧
   (resolve a.eval (rangeCall g l) 0).run P w₁=.ok d w₁' ∧
   (invoke d.target d.args).run P w₁'=.ok (.enter f args) w₂ ∧
   CallsIn (FD rd) 0 P f args w₂ (rangePost (FD rd) 0 P l Q { a with defers:=mark++a.defers })) :
  JU rd P (.rangeFunc g ps assign body) Q a w:=by
 intro b k cs hro hb;obtain ⟨l,mark,w₁,d,w₁',f,args,w₂,he,hres,hinv,hF,hcall⟩:=h b.fn hb;rw [← hro] at he;have henter:=stepR_rangeFunc (P:=P) (b:=b) (a:=a) (k:=k) (cs:=cs) (w:=w) he hres hinv
 obtain ⟨e,w₃,fr,hR,hsteps,hfn,hleave⟩:=hcall (b.atR { a with defers:=mark++a.defers } (.inRangeFunc l::k)::cs) (pq rd _);cases e with
 | outgrown =>
  obtain ⟨a₀,w₀,hq⟩:=hR;exact ⟨.outgrown,a₀,w₀,hq,.inr (Outgrown.of_steps (.one henter) hsteps)⟩
 | returned v =>
  obtain ⟨jump,w₄,hend,hj⟩:=hR;have sback:StepsIn (Machine.fenced P (FD rd)) P (lone (b.atR a (.code (.rangeFunc g ps assign body)::k)) cs w) (lone (b.atR { a with defers:=mark++a.defers } ((jump.map Item.code).toList++k)) cs w₄):=by
   refine .head (eQ rd _) henter (StepsIn.trans hsteps (.head (eQ rd _) ?_ (.one (eQ rd _) (stepR_endRangeFunc hend))));rw [← finish_atR_inRangeFunc l v];exact step_leave_returned hleave
  cases jump with
  | none=>exact ⟨.normal,_,w₄,hj,sback⟩
  | some c =>
   obtain ⟨e',a'',w₅,hq,harr⟩:=hj b k cs (hro.trans (zW rd).symm) (rQ rd _) (pq rd _);exact ⟨e',a'',w₅,hq,.of_steps sback harr⟩
 | panicked chain =>
  refine ⟨.panic chain,_,w₃,hR,.inRangeFunc l::k,.head (eQ rd _) henter (StepsIn.trans hsteps (.one (eQ rd _) ?_))⟩;rw [← Frame.raise_atR];exact step_leave_panicked hleave
def G4 (P:Program) (l:Nat) (R:Ending→World→Prop):Exit→Act→World→Prop
 | .normal,_,w=>∃ v w',(Instr.endRound l none).run P w=.ok v w'∧R (.returned v) w'
 | .ret,_,w=>∃ v w',(Instr.endRound l (some .ret)).run P w=.ok v w'∧R (.returned v) w'
 | .exit id,_,w=>∃ v w',(Instr.endRound l (some (.exit id))).run P w=.ok v w'∧R (.returned v) w'
 | .panic ch,a,w=>a.defers=[]∧R (.panicked ch) w
 | .goto _,_,_=>False
 | .outgrown,_,_=>False
theorem xY {l:Nat}{f:FuncId} (hfo:known P f) {tmps:Array Value}{assign body:Code}{w:World}{R:Ending→World→Prop}
  (h:assign.wpIn (FD (some l)) 0 P (Exit.then (fun a₁ w₁=>∃ w₂,(Instr.beginRound l).run P w₁=.ok () w₂∧body.wpIn (FD (some l)) 0 P (G4 P l R) a₁ w₂) (fun _ _ _=>False)) { tmps:=tmps,defers:=[] } w) :
  RoundIn Fence.wide 0 P l f tmps assign body w R:=by
 refine ⟨trivial,fun c cs hr=>?_⟩
 let b:Frame:={ (default:Frame) with fn:=f,kind:=.normal,roundOf:=some l }
 have hb0:Frame.round l f tmps assign body .normal=b.atR { tmps:=tmps,defers:=[] } [.code assign,.beginRound,.code body]:=by
  simp [Frame.round,Frame.atR,b]
 have fn:=fun m=>eQ (P:=P) (some l) m
 obtain ⟨e,a₁,w₁,hq,harr⟩:=h b [.beginRound,.code body] (c::cs) rfl (rQ _ _) (pq _ _);rw [← hb0] at harr;cases e with
 | normal =>
  obtain ⟨w₂,hbr,hbody⟩:=hq;have s1:StepsIn (Machine.fenced P (FD (some l))) P (lone (b.atR a₁ [.beginRound,.code body]) (c::cs) w₁) (lone (b.atR a₁ [.code body]) (c::cs) w₂) :=
   .one (fn _) (stepR_beginRound rfl hbr)
  obtain ⟨e₂,a₂,w₃,hq₂,harr₂⟩:=hbody b [] (c::cs) rfl (rQ _ _) (pq _ _);cases e₂ with
  | normal =>
   obtain ⟨v,w₄,hend,hR⟩:=hq₂;exact ⟨.returned v,w₄,hR,(StepsIn.trans harr s1).trans (StepsIn.trans harr₂ (.one (fn _) (stepR_round_end rfl rfl hend)))⟩
  | ret =>
   obtain ⟨v,w₄,hend,hR⟩:=hq₂;obtain ⟨k₁,hs⟩:=harr₂.2 rfl;exact ⟨.returned v,w₄,hR,(StepsIn.trans harr s1).trans (StepsIn.trans hs (.one (fn _) (stepR_round_ret rfl rfl hend)))⟩
  | exit id =>
   obtain ⟨v,w₄,hend,hR⟩:=hq₂;obtain ⟨k₁,hk,hs⟩:=harr₂.2 rfl rfl;exact ⟨.returned v,w₄,hR,(StepsIn.trans harr s1).trans (StepsIn.trans hs (.one (fn _) (stepR_round_exit rfl rfl hk hend)))⟩
  | panic chain =>
   obtain ⟨hd,hR⟩:=hq₂;obtain ⟨todo,hs⟩:=harr₂;have hleave:({ b.atR a₂ todo with mode:=.panicking chain }:Frame).leaving P w₃ (.panicked chain):=⟨rfl,hd,hfo⟩
   exact ⟨.panicked chain,w₃,hR,(StepsIn.trans harr s1).trans (StepsIn.trans hs (.one (fn _) (step_leave_panicked hleave)))⟩
  | goto t=>exact hq₂.elim
  | outgrown=>exact hq₂.elim
 | exit id=>exact hq.elim
 | goto t=>exact hq.elim
 | ret=>exact hq.elim
 | panic chain=>exact hq.elim
 | outgrown=>exact hq.elim
theorem tu {f:FuncId}{fn:Func}{c:Code}{args:Array Value}{w:World}{R:Ending→World→Prop}
  (hf:P.funcs[f]? = some fn) (hb:fn.body=some c) (h:JU none P c (bodyPostM Fence.wide 0 P fn R) { tmps:=args++Array.replicate (fn.ntmps - args.size) undef,defers:=[] } w):CallsIn Fence.wide 0 P f args w R:=by
 refine ⟨trivial,fun cs hr=>?_⟩
 let b:Frame:={ (default:Frame) with fn:=f,kind:=.normal,roundOf:=none }
 have henter:Frame.enter P f args .normal=b.atR { tmps:=args++Array.replicate (fn.ntmps - args.size) undef,defers:=[] } [.code c]:=by
  simp [Frame.enter,Frame.atR,hf,hb,b]
 obtain ⟨e,a',w',hq,harr⟩:=h b [] cs rfl ⟨fn,hf⟩;rw [← henter] at harr;have hF:Fence.wide.fn f:=trivial
 cases e with
 | normal =>
  obtain ⟨e',w'',fr',hR,hs,hfn,hl⟩:=leaves_stepsInM a'.defers .returning w' { b.atR a' [] with mode:=.returning } cs rfl rfl rfl hf rfl hF hr hq;exact ⟨e',w'',fr',hR,ComesIn.of_steps (StepsIn.trans harr (.one (eQ none _) (stepR_end rfl))) hs,hfn,hl⟩
 | ret =>
  obtain ⟨todo,hs₀⟩:=harr.1 rfl;obtain ⟨e',w'',fr',hR,hs,hfn,hl⟩:=leaves_stepsInM a'.defers .returning w' { b.atR a' todo with mode:=.returning } cs rfl rfl rfl hf rfl hF hr hq;exact ⟨e',w'',fr',hR,ComesIn.of_steps hs₀ hs,hfn,hl⟩
 | panic chain =>
  obtain ⟨todo,hs₀⟩:=harr;obtain ⟨e',w'',fr',hR,hs,hfn,hl⟩:=leaves_stepsInM a'.defers (.panicking chain) w' { b.atR a' todo with mode:=.panicking chain } cs rfl rfl rfl hf rfl hF hr hq;exact ⟨e',w'',fr',hR,ComesIn.of_steps hs₀ hs,hfn,hl⟩
 | exit id=>exact hq.elim
 | goto l=>exact hq.elim
 | outgrown=>exact ⟨.outgrown,w',b,hq,harr.resolve_left (by simp [b]),rfl,trivial⟩
/-! ### The same, of states -/
def HU (κ:Ctx) (rd:Option Nat) (P:Program) (c:Code) (Q:Exit→St→Prop) (s:St):Prop :=
 ∀ φ g a w,SR κ φ g s a w→JU rd P c (Post κ φ g w Q) a w
theorem B8 {c:Code} (h:AW κ rd P c Q s):HU κ rd P c Q s:=fun φ g a w hs=>Q2 (h φ g a w hs)
theorem yO {x y:Code} (h:HU κ rd P x (eY (HU κ rd P y Q) Q) s):HU κ rd P (.seq x y) Q s:=fun φ g a w hs=>by
 refine NF (pO (h φ g a w hs) ?_);rintro e a' w' ⟨g',s',hs',hge,hq⟩;cases e with
 | normal=>exact pO (hq φ g' a' w' hs') (fun e a2 w2 hp=>hp.mono hge)
 | exit id=>exact ⟨g',s',hs',hge,hq⟩
 | goto id=>exact ⟨g',s',hs',hge,hq⟩
 | ret=>exact ⟨g',s',hs',hge,hq⟩
 | panic ch=>exact ⟨g',s',hs',hge,hq⟩
 | outgrown=>exact ⟨g',s',hs',hge,hq⟩
theorem mD {x y:Code} (h:run κ P rd x (eY (HU κ rd P y Q) Q) s):HU κ rd P (.seq x y) Q s:=yO (B8 (cE x _ s h))
theorem wF {id:Nat}{c:Code} (h:HU κ rd P c (gu id Q) s):HU κ rd P (.block id c) Q s:=fun φ g a w hs=>by
 refine G7 (pO (h φ g a w hs) ?_);rintro e a' w' ⟨g',s',hs',hge,hq⟩;cases e with
 | exit id' =>
  simp only [gu] at hq;simp only [Exit.inBlock];split at hq
  ·rename_i e;rw [if_pos e];exact ⟨g',s',hs',hge,hq⟩
  ·rename_i e;rw [if_neg e];exact ⟨g',s',hs',hge,hq⟩
 | normal=>exact ⟨g',s',hs',hge,hq⟩
 | goto id=>exact ⟨g',s',hs',hge,hq⟩
 | ret=>exact ⟨g',s',hs',hge,hq⟩
 | panic ch=>exact ⟨g',s',hs',hge,hq⟩
 | outgrown=>exact ⟨g',s',hs',hge,hq⟩
theorem wh {f:Operand}{ps:Array Tmp}{assign body:Code}{gf:FuncId}{first cap:Array Value} (hf:s.ev f=.raw (.func (.func gf) first cap)) (hok:ao P gf)
  (h:∀ l (d:Nat × Nat),known P d.2→ACallF κ P gf (first.toList.map .raw++[.raw (.func (.yield l) #[] #[])]++cap.toList.map .raw) (.loop l .ready none s.t ps assign body d::s.σ) (yg κ P none Q s l ps assign body d)) :
  HU κ none P (.rangeFunc f ps assign body) Q s:=by
 intro φ g a w hs;refine vj (fun fn hkn=>?_);obtain ⟨ds,hd,hfr,hR,ht⟩:=hs;have hfv:=du ht f
 rw [hf] at hfv;have hfv':=hfv.raw_eq
 obtain ⟨fnn,hfn,hn1,hn2⟩:=hok;obtain ⟨b1,b2⟩:=hR.new_blk (.deferred (some [])) trivial;obtain ⟨c1,c2⟩:=b1.new_loop { state:=.ready,pending:=none,fn:=fn,tmps:=a.tmps,params:=ps,assign:=assign,body:=body,defers:=w.heap.size } (ht.mono b2);generalize hw2:(w.alloc (.deferred (some []))).alloc (.loop { state:=.ready,pending:=none,fn:=fn,tmps:=a.tmps,params:=ps,assign:=assign,body:=body,defers:=w.heap.size })=w2 at *;have hl:(w.alloc (.deferred (some []))).heap.size=w.heap.size+1:=by simp
 rw [hl] at c1;simp only at c1;have hp:(Res.loop (w.heap.size+1) .ready none s.t ps assign body (w.heap.size,fn)::(Res.blk w.heap.size (.deferred (some []))::(φ++(ds.map gk++s.σ)))).Perm ((φ++(w.heap.size::ds).map gk)++(Res.loop (w.heap.size+1) .ready none s.t ps assign body (w.heap.size,fn)::s.σ)):=by
  simp only [List.map_cons];have p1:(Res.blk w.heap.size (.deferred (some []))::(φ++(ds.map gk++s.σ))).Perm (φ++(gk w.heap.size::ds.map gk)++s.σ):=by
   rw [← List.append_assoc];refine List.Perm.trans ?_ ((List.perm_middle (a:=gk w.heap.size) (l₁:=φ) (l₂:=ds.map gk)).symm.append_right s.σ);exact List.Perm.refl _
  exact (p1.cons _).trans List.perm_middle.symm
 have hR2:=c1.perm hp
 have hge:=b2.trans c2
 refine ⟨w.heap.size+1,[kF w.heap.size],w2,{ target:=.fn (.func gf) cap,args:=first ++ #[.func (.yield (w.heap.size+1)) #[] #[]] },w2,gf,first ++ #[.func (.yield (w.heap.size+1)) #[] #[]]++cap,w2, ?_, ?_, ?_, ?_⟩
 ·rw [← hw2];exact run_enterLoop_outer fn a.tmps ps assign body
 ·show Sem.run P (Deferred.ofValue (a.eval f) _) w2=_
  rw [hfv'];simp [Deferred.ofValue,Act.eval]
 ·simp only [invoke];exact jA hfn hn1 hn2 _ _
 ·refine oM (CallsIn.mono (h (w.heap.size+1) (w.heap.size,fn) hkn _ g w2 _ hR2 wb) ?_) none _
  rintro e w3 ⟨g',σ',r,hR3,hge3,her,j,st,pend,hj,hk⟩;obtain ⟨rec,k1,k2,k3,k4,k5,k6,k7,k8,k9⟩:=gy hR3 hj;have ht3:TR g' w3 s.t a.tmps:=(ht.mono hge).mono hge3
  cases r with
  | ret x =>
   cases e with
   | returned v =>
    obtain ⟨hst,hk⟩:=hk;obtain ⟨k10,k11⟩:=k9 .exhausted pend;refine ⟨pend,{ w3 with heap:=w3.heap.setIfInBounds (w.heap.size+1) (.loop { rec with state:=.exhausted,pending:=pend }) }, ?_, ?_⟩
    ·subst k3
     exact run_endLoop k1 (by rw [k2];exact hst)
    ·have hs':SR κ φ g' ⟨s.t,σ'.eraseIdx j,false,s.df⟩ { a with defers:=[kF w.heap.size]++a.defers } { w3 with heap:=w3.heap.setIfInBounds (w.heap.size+1) (.loop { rec with state:=.exhausted,pending:=pend }) }:=by
      refine ⟨w.heap.size::ds,by simp [hd],fun e=>(by cases e), ?_,ht3.mono k11⟩;have:=k10.sub ((List.Sublist.refl (φ++(w.heap.size::ds).map gk)).append (nv _ j))
      rw [← List.append_assoc];have e2:(σ'.set j (.loop (w.heap.size+1) .exhausted pend s.t ps assign body (w.heap.size,fn))).eraseIdx j=σ'.eraseIdx j:=by
       rw [List.eraseIdx_set_eq]
      rw [e2] at this;exact this
     cases pend with
     | none=>exact ⟨g',_,hs',(hge.trans hge3).trans k11,hk⟩
     | some c=>exact wpIn_mono (cE c Q _ hk φ g' _ _ hs') (fun e a4 w4 hp=>hp.mono ((hge.trans hge3).trans k11))
   | panicked c=>exact her.elim
   | outgrown=>exact her.elim
  | pan c =>
   cases e with
   | returned v=>exact her.elim
   | panicked c' =>
    cases (show c'=c from her)
    refine ⟨g',⟨s.t,σ'.eraseIdx j,false,s.df⟩,⟨w.heap.size::ds,by simp [hd],fun e=>(by cases e), ?_,ht3⟩,hge.trans hge3,hk⟩;rw [← List.append_assoc];exact hR3.sub ((List.Sublist.refl (φ++(w.heap.size::ds).map gk)).append (nv _ j))
   | outgrown=>exact her.elim
/-! ### A call of yield, whose round may panic -/
def Rp (l:Nat) (t:List AV) (ps:Array Tmp) (assign body:Code) (d:Nat × Nat) (K:Ret→List Res→Prop):Exit→St→Prop
 | .normal,s=>∃ j,s.σ[j]? = some (.loop l .busy none t ps assign body d)∧K (.ret (B true)) (s.σ.set j (.loop l .ready none t ps assign body d))
 | .ret,s=>∃ j,s.σ[j]? = some (.loop l .busy none t ps assign body d)∧K (.ret (B false)) (s.σ.set j (.loop l .done (some .ret) t ps assign body d))
 | .exit id,s=>∃ j,s.σ[j]? = some (.loop l .busy none t ps assign body d)∧K (.ret (B false)) (s.σ.set j (.loop l .done (some (.exit id)) t ps assign body d))
 | .panic c,s=>s.fr=true∧s.df=[]∧K (.pan c) s.σ
 | _,_=>False
theorem Cz {l:Nat}{args:List AV}{K:Ret→List Res→Prop}{t:List AV}{ps:Array Tmp}{assign body:Code}{d:Nat × Nat} (Q1:Exit→St→Prop) (hQ:∀ e s,Q1 e s→Rp l t ps assign body d K e s) (hkn:known P d.2) (i:Nat) (h:σ[i]? = some (.loop l .ready none t ps assign body d)) (hps:ps.size=args.length)
  (hrun:run κ P (some l) assign (eY (fun s1=>∃ j,s1.σ[j]? = some (.loop l .ready none t ps assign body d)∧run κ P (some l) body Q1 ⟨s1.t,s1.σ.set j (.loop l .busy none t ps assign body d),s1.fr,s1.df⟩) (fun _ _=>False)) ⟨je t ps.toList args,σ,true,[]⟩):ACallY κ P l args σ K:=by
 intro φ g w vs hR hv;obtain ⟨r,k1,k2,k3,k4,k5,k6,k7,k8,_⟩:=gy hR h;refine ⟨r.fn,(r.params.zip vs).foldl (fun tmps (x:Tmp × Value)=>tmps.setIfInBounds x.1 x.2) r.tmps,assign,body, ?_, ?_⟩
 ·have:=run_yield (P:=P) (args:=vs) k1 (by rw [hv.size,k4,hps])
  rw [k5,k6] at this;exact this
 ·refine xY (by rw [← k7] at hkn;exact hkn) ?_
  have hs:SR κ φ g ⟨je t ps.toList args,σ,true,[]⟩ { tmps:=(r.params.zip vs).foldl (fun tmps (x:Tmp × Value)=>tmps.setIfInBounds x.1 x.2) r.tmps,defers:=[] } w:=by
   refine ⟨[],rfl,fun _=>rfl,by simpa using hR, ?_⟩;have:=tC ps.toList args vs.toList t r.tmps k8 (by simpa using hv)
   rw [k4];have e:((ps.zip vs).foldl (fun tmps (x:Tmp × Value)=>tmps.setIfInBounds x.1 x.2) r.tmps)=((ps.toList.zip vs.toList).foldl (fun tmps (x:Tmp × Value)=>tmps.setIfInBounds x.1 x.2) r.tmps):=by
    rw [← Array.toList_zip,Array.foldl_toList]
   rw [e];exact this
  refine wpIn_mono (cE assign _ _ hrun φ g _ w hs) ?_;rintro e a1 w1 ⟨g1,s1,hs1,hge1,hq⟩;cases e with
  | normal =>
   obtain ⟨j,hj,hbody⟩:=hq;obtain ⟨ds1,hd1,hfr1,hR1,ht1⟩:=hs1;rw [← List.append_assoc] at hR1;obtain ⟨r1,m1,m2,m3,m4,m5,m6,m7,m8,m9⟩:=gy hR1 hj;obtain ⟨m10,m11⟩:=m9 .busy none;refine ⟨{ w1 with heap:=w1.heap.setIfInBounds l (.loop { r1 with state:=.busy,pending:=none }) }, ?_, ?_⟩
   ·have hpend:({ r1 with state:=LoopState.busy,pending:=none }:Loop)={ r1 with state:=LoopState.busy }:=by rw [← m3]
    rw [hpend];exact run_beginRound m1 m2
   ·have hs2:SR κ φ g1 ⟨s1.t,s1.σ.set j (.loop l .busy none t ps assign body d),s1.fr,s1.df⟩ a1 { w1 with heap:=w1.heap.setIfInBounds l (.loop { r1 with state:=.busy,pending:=none }) } :=
     ⟨ds1,hd1,hfr1,by rw [← List.append_assoc];exact m10,ht1.mono m11⟩
    refine wpIn_mono (cE body _ _ hbody φ g1 a1 _ hs2) ?_;have fin:∀ (jump:Option Code) (b:Bool) (a2:Act) (w2:World) (g2:Nat→Nat) (s2:St) (st':LoopState),SR κ φ g2 s2 a2 w2→GE g w g2 w2→st'=(if jump.isNone then .ready else .done)→b=jump.isNone→(∃ j,s2.σ[j]? = some (.loop l .busy none t ps assign body d)∧K (.ret (B b)) (s2.σ.set j (.loop l st' jump t ps assign body d))) →
      ∃ v w',(Instr.endRound l jump).run P w2=.ok v w'∧fL κ φ g w K (.returned v) w':=by
     intro jump b a2 w2 g2 s2 st' hs2 hge2 hst hb hex;obtain ⟨j2,hj2,hk⟩:=hex;obtain ⟨ds2,hd2,hfr2,hR2,ht2⟩:=hs2;rw [← List.append_assoc] at hR2;obtain ⟨r2,n1,n2,n3,n4,n5,n6,n7,n8,n9⟩:=gy hR2 hj2;obtain ⟨n10,n11⟩:=n9 st' jump;refine ⟨.bool jump.isNone,{ w2 with heap:=w2.heap.setIfInBounds l (.loop { r2 with state:=st',pending:=jump }) }, ?_,g2,_,.ret (B b), ?_,hge2.trans n11,by rw [hb];exact .raw _,hk⟩
     ·rw [hst];exact run_endRound jump n1
     ·rw [List.append_assoc] at n10
      exact n10.sub ((List.Sublist.refl φ).append (List.sublist_append_right _ _))
    rintro e a2 w2 ⟨g2,s2,hs3,hge3,hq2⟩
    replace hq2:=hQ _ _ hq2
    have hge4:GE g w g2 w2:=hge1.trans (m11.trans hge3)
    cases e with
    | normal=>exact fin none true a2 w2 g2 s2 .ready hs3 hge4 rfl rfl hq2
    | ret=>exact fin (some .ret) false a2 w2 g2 s2 .done hs3 hge4 rfl rfl hq2
    | exit id=>exact fin (some (.exit id)) false a2 w2 g2 s2 .done hs3 hge4 rfl rfl hq2
    | goto id=>exact hq2.elim
    | panic c =>
     obtain ⟨q1,q2,q3⟩:=hq2;obtain ⟨ds2,hd2,hfr2,hR2,ht2⟩:=hs3;cases hfr2 q1
     refine ⟨by rw [hd2,q2];rfl,g2,_,.pan c, ?_,hge4,rfl,q3⟩;simpa using hR2
    | outgrown=>exact hq2.elim
  | exit id=>exact hq.elim
  | goto id=>exact hq.elim
  | ret=>exact hq.elim
  | panic c=>exact hq.elim
  | outgrown=>exact hq.elim
def H0 (Q:Exit→St→Prop) (t:List AV) (fr:Bool) (df:List Deferred) (Rb:Res) (Inv:List Res→Prop):Exit→St→Prop
 | .normal,s=>∃ τ,nV Rb s.σ τ∧Inv τ
 | .ret,s=>∃ τ,nV Rb s.σ τ∧Q .ret ⟨t,τ,fr,df⟩
 | .exit id,s=>∃ τ,nV Rb s.σ τ∧Q (.exit id) ⟨t,τ,fr,df⟩
 | .panic c,s=>s.fr=true∧s.df=[]∧∃ τ,nV Rb s.σ τ∧Q (.panic c) ⟨t,τ,fr,df⟩
 | _,_=>False
def Wn (κ:Ctx) (P:Program) (Q:Exit→St→Prop) (t:List AV) (fr:Bool) (df:List Deferred) (l:Nat) (body:Code) (Rr Rb:Res) (Inv:List Res→Prop) (s1:St):Prop :=
 ∃ j,s1.σ[j]? = some Rr∧run κ P (some l) body (H0 Q t fr df Rb Inv) ⟨s1.t,s1.σ.set j Rb,s1.fr,s1.df⟩
theorem mT {Q:Exit→St→Prop}{t:List AV}{fr:Bool}{df:List Deferred}{Rb:Res}{Inv:List Res→Prop}{s:St}:H0 Q t fr df Rb Inv .normal s = ∃ τ,nV Rb s.σ τ∧Inv τ:=rfl
theorem tI {Q:Exit→St→Prop}{t:List AV}{fr:Bool}{df:List Deferred}{Rb:Res}{Inv:List Res→Prop}{s:St}:H0 Q t fr df Rb Inv .ret s = ∃ τ,nV Rb s.σ τ∧Q .ret ⟨t,τ,fr,df⟩:=rfl
theorem Dn {Q:Exit→St→Prop}{t:List AV}{fr:Bool}{df:List Deferred}{Rb:Res}{Inv:List Res→Prop}{s:St}{c:List PanicEntry}:H0 Q t fr df Rb Inv (.panic c) s=(s.fr=true∧s.df=[]∧∃ τ,nV Rb s.σ τ∧Q (.panic c) ⟨t,τ,fr,df⟩):=rfl
def CZ (κ:Ctx) (P:Program) (Q:Exit→St→Prop) (t:List AV) (fr:Bool) (df:List Deferred) (ps:Array Tmp) (assign body:Code) (Inv:List (List AV)→List Res→Prop) (d:Nat × Nat):Prop :=
 ∀ (l:Nat) (Rr Rb:Res),IX l d Rb→∀ x xs τ,Inv (x::xs) τ→ps.size=x.length∧run κ P (some l) assign (eY (Wn κ P Q t fr df l body Rr Rb (Inv xs)) (fun _ _=>False)) ⟨je t ps.toList x,Rr::τ,true,[]⟩
theorem oI {Q:Exit→St→Prop}{s0:St}{l:Nat}{ps:Array Tmp}{assign body:Code}{d:Nat × Nat}{Inv:List (List AV)→List Res→Prop}{x:List AV}{xs:List (List AV)}{τ:List Res} (hkn:known P d.2) (hps:ps.size=x.length)
  (h:run κ P (some l) assign (eY (Wn κ P Q s0.t (rd.isSome && s0.fr) s0.df l body (.loop l .ready none s0.t ps assign body d) (.loop l .busy none s0.t ps assign body d) (Inv xs)) (fun _ _=>False)) ⟨je s0.t ps.toList x,.loop l .ready none s0.t ps assign body d::τ,true,[]⟩) :
  ACallY κ P l x (.loop l .ready none s0.t ps assign body d::τ) (YK (fun σ'=>∃ τ',σ'=.loop l .ready none s0.t ps assign body d::τ'∧Inv xs τ') (yg κ P rd Q s0 l ps assign body d)):=by
 refine ACallY.dropW (Cz (H0 Q s0.t (rd.isSome && s0.fr) s0.df (.loop l .busy none s0.t ps assign body d) (Inv xs)) ?_ hkn 0 rfl hps h);intro e s hq;cases e with
 | normal =>
  obtain ⟨τ',⟨τ0,hs,hw⟩,hi⟩:=hq;obtain ⟨j,h1,h2⟩:=ly hs;exact ⟨j,h1,_,(jY (h2 _)).trans (hw.cons _),τ',rfl,hi⟩
 | ret =>
  obtain ⟨τ',⟨τ0,hs,hw⟩,hi⟩:=hq;obtain ⟨j,h1,h2⟩:=ly hs;exact ⟨j,h1,_,(jY (h2 _)).trans (hw.cons _),0,_,_,rfl,by simp,hi⟩
 | exit id =>
  obtain ⟨τ',⟨τ0,hs,hw⟩,hi⟩:=hq;obtain ⟨j,h1,h2⟩:=ly hs;exact ⟨j,h1,_,(jY (h2 _)).trans (hw.cons _),0,_,_,rfl,by simp,hi⟩
 | goto id=>exact hq.elim
 | panic c =>
  obtain ⟨q1,q2,τ',⟨τ0,hs,hw⟩,hi⟩:=hq;obtain ⟨j,h1,h2⟩:=ly hs;have h3:=h2 (.loop l .busy none s0.t ps assign body d)
  refine ⟨q1,q2,.loop l .busy none s0.t ps assign body d::τ', ?_,0,_,_,rfl,hi⟩;have e:s.σ.set j (.loop l .busy none s0.t ps assign body d)=s.σ:=by
   refine List.ext_getElem? fun k=>?_
   rw [List.getElem?_set];split
   ·rename_i e;subst e
    rw [h1];split
    ·rfl
    ·rename_i hn;rw [List.getElem?_eq_none (by omega)] at h1;cases h1
   ·rfl
  rw [e] at h3;exact (jY h3).trans (hw.cons _)
 | outgrown=>exact hq.elim
theorem ot {f:FuncId}{fn:Func}{c:Code}{args:List AV}{σ:List Res}{K:Ret→List Res→Prop} (hf:P.funcs[f]? = some fn) (hb:fn.body=some c)
  (h:HU κ none P c (qC κ P fn K) { t:=args++List.replicate (fn.ntmps - args.length) .any,σ:=σ }):ACallF κ P f args σ K:=by
 intro φ g w vs hR hv;refine tu hf hb ?_;have hs:SR κ φ g { t:=args++List.replicate (fn.ntmps - args.length) .any,σ:=σ } { tmps:=vs++Array.replicate (fn.ntmps - vs.size) undef,defers:=[] } w:=by
  refine ⟨[],rfl,fun _=>rfl,hR,hv.append ⟨by simp [hv.size],fun k x hk=>?_⟩⟩;rw [List.getElem?_replicate] at hk;split at hk
  ·cases hk;exact .any _
  ·cases hk
 refine pO (h φ g _ w hs) ?_;have leave:∀ (g':Nat→Nat) (s':St) (a':Act) (w':World),SR κ φ g' s' a' w'→GE g w g' w'→s'.df=[]→qL κ P fn s' K→LeavesInM Fence.wide 0 P fn a'.tmps (fL κ φ g w K) a'.defers .returning w':=by
  intro g' s' a' w' hs' hge hdf hk;obtain ⟨ds,hd,hfr,hR',ht'⟩:=hs';rw [hd,hdf,List.append_nil];refine iJ (κ:=κ) (φ:=φ) (σ:=s'.σ) .returning (by simp) ds g' w' hR' (fun w2 hR2 hge2=>?_);obtain ⟨v,x,h1,h2,h3⟩:=oz hk φ g' w2 a'.tmps hR2 (ht'.mono hge2);exact ⟨v,h1,g',s'.σ,.ret x,hR2,hge.trans hge2,h2,h3⟩
 rintro e a' w' ⟨g',s',hs',hge,hq⟩;cases e with
 | normal=>exact leave g' s' a' w' hs' hge hq.1 hq.2
 | ret=>exact leave g' s' a' w' hs' hge hq.1 hq.2
 | panic ch =>
  obtain ⟨hdf,hk⟩:=hq;obtain ⟨ds,hd,hfr,hR',ht'⟩:=hs';show LeavesInM Fence.wide 0 P fn a'.tmps (fL κ φ g w K) a'.defers (.panicking ch) w'
  rw [hd,hdf,List.append_nil];refine iJ (κ:=κ) (φ:=φ) (σ:=s'.σ) (.panicking ch) (by simp) ds g' w' hR' (fun w2 hR2 hge2=>?_);exact ⟨g',s'.σ,.pan ch,hR2,hge.trans hge2,rfl,hk⟩
 | exit id=>exact hq.elim
 | goto id=>exact hq.elim
 | outgrown=>exact hq.elim
def IterH (κ:Ctx) (P:Program) (L:Nat) (K:Ret→List Res→Prop) (H:List Res→Prop):List (List AV)→List Res→Prop
 | [],σ=>H σ∧K (.ret (.tup [])) σ
 | x::xs,σ=>H σ∧ACallY κ P L x σ (YK (fun σ'=>IterH κ P L K H xs σ') K)
theorem IterH.holds {L:Nat}{K:Ret→List Res→Prop}{H:List Res→Prop}:∀ {xs:List (List AV)}{σ:List Res},IterH κ P L K H xs σ→H σ
 | [],_,h=>h.1
 | _::_,_,h=>h.1
theorem AG {L:Nat}{K:Ret→List Res→Prop} (H:List Res→Prop) (Inv:List (List AV)→List Res→Prop) (hH:∀ xs σ,Inv xs σ→H σ) (hend:∀ σ,Inv [] σ→K (.ret (.tup [])) σ) (round:∀ x xs σ,Inv (x::xs) σ→ACallY κ P L x σ (YK (Inv xs) K)):∀ xs σ,Inv xs σ→IterH κ P L K H xs σ
 | [],σ,h=>⟨hH _ _ h,hend σ h⟩
 | x::xs,σ,h=>⟨hH _ _ h,(round x xs σ h).mono fun r σ' hr=>by
  unfold YK at hr ⊢;split at hr
  ·exact AG H Inv hH hend round xs _ hr
  ·exact hr
  ·exact hr
  ·exact hr.elim⟩
theorem Gr {Q:Exit→St→Prop}{t:List AV}{σ:List Res}{fr:Bool}{df:List Deferred}{f:Operand}{ps:Array Tmp}{assign body:Code} (gf:FuncId) (first cap:List Value) (xs:List (List AV)) (ρ τ:List Res) (Inv:List (List AV)→List Res→Prop) (H:List Res→Prop) (hH:∀ xs τ r,Inv xs τ→H (r::τ))
  (hf:(⟨t,σ,fr,df⟩:St).ev f=.raw (.func (.func gf) first.toArray cap.toArray)) (hok:ao P gf=True) (hσ:ResW σ (ρ++τ))
  (hiter:∀ (L:Nat) (K:Ret→List Res→Prop) (σ':List Res),IterH κ P L K H xs σ'→ACallF κ P gf (first.map .raw++[.raw (.func (.yield L) #[] #[])]++cap.map .raw) (ρ++σ') K)
  (h0:Inv xs τ)
  (hend:∀ τ,Inv [] τ→Q .normal ⟨t,τ,false,df⟩)
  (hround:∀ d,CZ κ P Q t false df ps assign body Inv d) :
  HU κ none P (.rangeFunc f ps assign body) Q ⟨t,σ,fr,df⟩:=by
 refine wh hf (hok ▸ trivial) (fun l d hkn=>?_);have hp:ResW (Res.loop l .ready none t ps assign body d::σ) (ρ++(Res.loop l .ready none t ps assign body d::τ)):=((hσ.cons _).trans (ResW.perm List.perm_middle.symm))
 refine ACallF.weak hp ?_;have e1:(first.toArray.toList.map AV.raw++[.raw (.func (.yield l) #[] #[])]++cap.toArray.toList.map AV.raw)=(first.map .raw++[.raw (.func (.yield l) #[] #[])]++cap.map .raw):=by simp
 rw [e1];refine hiter l _ _ (AG H (fun xs σ'=>∃ τ',σ'=.loop l .ready none t ps assign body d::τ'∧Inv xs τ') (by rintro xs _ ⟨τ',rfl,hi⟩;exact hH _ _ _ hi) ?_ ?_ xs _ ⟨τ,rfl,h0⟩)
 ·rintro _ ⟨τ',rfl,hi⟩
  exact ⟨0,_,_,rfl,by simp,hend τ' hi⟩
 ·rintro x xs _ ⟨τ',rfl,hi⟩
  obtain ⟨h1,h2⟩:=hround d l _ (.loop l .busy none t ps assign body d) ⟨_,_,_,_,_,_,rfl⟩ x xs τ' hi;exact oI (rd:=none) (s0:=⟨t,σ,fr,df⟩) hkn h1 h2
end
end Go.Abs
namespace Go.Proofs.YthkabaiamcjdbaaGreat
open Go.Abs
variable {κ:Ctx} {σ:List Res} {K:Ret→List Res→Prop} {o o':Option (Option (Nat × Nat))}
def kZ (ls:List Ln) (p:Int × Int):(Int × Int) × Bool:=((ca ls p).1,decide (0 < (ca ls p).2.length) && !J5 ls (ca ls p).1 (ca ls p).2)
def nP (ls:List Ln):Nat→Int × Int→List ((Int × Int) × Bool)
 | 0,p=>[kZ ls p]
 | m+1,p=>kZ ls p::(if bZ ls (p.1+1) then [] else nP ls m (p.1+1,0))
def j8 (ls:List Ln) (p:Int × Int):List ((Int × Int) × Bool):=nP ls ((ls.length:Int) - p.1).toNat p
theorem rA {ls:List Ln}{p:Int × Int}:j8 ls p=kZ ls p::(if bZ ls (p.1+1) then [] else j8 ls (p.1+1,0)):=by
 unfold j8;rcases Nat.eq_zero_or_pos ((ls.length:Int) - p.1).toNat with h|h
 ·rw [h]
  have:bZ ls (p.1+1)=true:=by unfold bZ;rw [decide_eq_true (by omega)];rfl
  rw [if_pos this];rfl
 ·obtain ⟨m,hm⟩:∃ m,((ls.length:Int) - p.1).toNat=m+1:=⟨((ls.length:Int) - p.1).toNat - 1,by omega⟩
  have hm2:((ls.length:Int) - (p.1+1)).toNat=m:=by omega
  rw [hm];dsimp only;rw [hm2];rfl
theorem ji {ls:List Ln}{i:Int} (h:bZ ls i=false):i < ls.length:=by
 unfold bZ at h;simp only [Bool.or_eq_false_iff,decide_eq_false_iff_not] at h;omega
theorem oA {ls:List Ln}{p:Int × Int}:(ca ls p).1.1=p.1:=rfl
theorem s6 {ls:List Ln}{p:Int × Int} (hs:Small ls):(ca ls p).2.length≤2000:=by
 unfold ca;have:=cj (p:=(p.1,fV ls p)) hs
 simp only [List.length_drop];omega
theorem NA {ls:List Ln}{p:Int × Int} (hs:Small ls) (hp:bW p.2):bW (fV ls p)∧p.2≤fV ls p:=by
 unfold fV;split
 ·have:=hs.at_ (i:=p.1.toNat) (by omega);omega
 ·exact ⟨hp,by omega⟩
theorem IN {ls:List Ln}{p:Int × Int} (hs:Small ls) (hp:bW p.2):bW (ca ls p).1.2∧p.2≤(ca ls p).1.2:=by
 have h1:=NA hs hp
 have h2:=Jy (aH ls (p.1,fV ls p))
 have h3:=fun h=>cA (p:=(p.1,fV ls p)) hs h
 unfold ca;dsimp only at *;rcases Nat.eq_zero_or_pos (aH ls (p.1,fV ls p)).length with h|h
 ·have:pg (aH ls (p.1,fV ls p))=0:=by omega
  rw [this];omega
 ·have:=h3 h;omega
theorem N8 {bj:Nat}{p:Int × Int} (hK:∀ b1 b2,K (.ret (.raw (.func (.func 149) #[] #[.pointer (some ⟨b1,0,none⟩),.pointer (some ⟨b2,0,none⟩)]))) (.obj b2 [I p.1,I p.2]::.obj b1 [JP bj]::σ)):ACallF κ Tryz.prog 121 [JP bj,cU p] σ K:=by
 refine ACallF.dropL (aa Tryz.func121 rfl ?_);simp only [Tryz.ntmps121]
 repeat' (first|simp only [WL,WM,Nat.reduceAdd,Nat.reduceSub,true_and,Tryz.results121]|with_reducible refine aQ (hK:=fun b=>?_))
 exact ak ae (aj rfl) (hK _ _)
theorem HO {b1 b2 L bj:Nat}{ls:List Ln}{n d:Int}{bk:Bool}{x y:AV}{p:Int × Int} (hs:Small ls) (hp:0≤p.1∧p.1≤1000000000∧bW p.2∧0≤p.2)
  (hI:IterH κ Tryz.prog L K (fun σ=>∃ ix,Hold σ bj ix (JC ls n bk d x y)) ((j8 ls p).map fun q=>[cU q.1,B q.2]) σ) :
  ACallF κ Tryz.prog 149 [.raw (.func (.yield L) #[] #[]),.raw (.pointer (some ⟨b1,0,none⟩)),.raw (.pointer (some ⟨b2,0,none⟩))] (.obj b2 [I p.1,I p.2]::.obj b1 [JP bj]::σ) K:=by
 refine ACallF.dropL (aa Tryz.func149 rfl ?_);simp only [Tryz.ntmps149]
 repeat' (first|simp only [WL,WM,Nat.reduceAdd,Nat.reduceSub])
 refine bF (fun x:(Int × Int) × List Res=>⟨(.raw (.func (.yield L) #[] #[])::.raw (.pointer (some ⟨b1,0,none⟩))::.raw (.pointer (some ⟨b2,0,none⟩))::.any::.any::.any::.any::.any::.any::.any::.any::.any::.any::.any::.any::.any::.any::.any::.any::.any::.any::.any::.any::.any::.any::.any::.any::.any::.any::.any::.any::.any::.any::.any::[]),.obj b2 [I x.1.1,I x.1.2]::.obj b1 [JP bj]::x.2,true,[]⟩) (fun z=>(0≤z.1.1∧z.1.1≤1000000000∧bW z.1.2∧0≤z.1.2)∧IterH κ Tryz.prog L K (fun σ=>∃ ix,Hold σ bj ix (JC ls n bk d x y)) ((j8 ls z.1).map fun q=>[cU q.1,B q.2]) z.2) (fun z=>((ls.length:Int) - z.1.1).toNat) (p,σ) (aq bH id) ⟨hp,hI⟩ ?_;rintro ⟨⟨i,k⟩,σ'⟩ ⟨hb,h2⟩;dsimp only at hb h2 ⊢;obtain ⟨ix,hJ⟩:=h2.holds;have hq:=IN (p:=(i,k)) hs hb.2.2.1
 have hql:=s6 (p:=(i,k)) hs
 rw [rA] at h2;have h3:=h2.2
 dsimp only at hq h3;have hin:bW ((i,k):Int × Int).1∧bW ((i,k):Int × Int).2:=⟨by dsimp only;omega,by dsimp only;omega⟩
 have hin2:bW (ca ls (i,k)).1.1∧bW (ca ls (i,k)).1.2∧0≤(ca ls (i,k)).1.2:=⟨by rw [oA];exact hin.1,hq.1,by omega⟩
 repeat' (first|simp only [WL,ay,WM,reduceCtorEq,bg,Nat.reduceAdd,Nat.reduceLT,Bool.not_true,true_and,reduceIte,Bool.false_eq_true,cb,sW,SD]|(with_reducible first|refine ax (hb:=?_)|refine au (hK:=?_)|refine aA (hK:=?_)|refine az (hK:=?_)|refine aV (hK:=fun b=>?_)|refine cD (Er (p:=(i,k)) hs hin ?_)|refine cQ (IF ?_ ?_ ?_ aT) ?_)|((with_reducible refine aE (id:=1) 12 mixed ?_ ?_);kernel_rfl)|(with_reducible refine bK ?_)|((with_reducible first|refine ai (fun h=>?_) (fun h=>?_)|refine ab (fun h=>?_) (fun h=>?_))<;>(try simp only [h])<;>(try simp only [bf,ba] at h))|omega)
 all_goals
  refine cR (y:=[cU (kZ ls (i,k)).1,B (kZ ls (i,k)).2]) [.obj b [I (ca ls (i,k)).1.1,I (ca ls (i,k)).1.2],.obj b2 [I i,I k],.obj b1 [JP bj]] (⟨le_rfl,jy (le_eq (by unfold kZ;simp [*];intro _;omega))⟩) h3 (fun σ3 h9=>?_) (fun σ3 h9=>?_) (fun c σ3 h9=>?_)
  ·obtain ⟨ix3,hJ3⟩:=h9.holds
   cases ho:bZ ls (i+1)
   ·rw [ho] at h9
    simp only [Bool.false_eq_true,if_false] at h9;have hlt:=ji ho
    repeat' (first|simp only [WL,ay,WM,reduceCtorEq,bg,Nat.reduceAdd,Nat.reduceEqDiff,Bool.not_true,true_and,T3,fR dR,oB,ho]|simp (disch:=first|omega|(simp only [aU];omega)) only [an]|(with_reducible first|refine ax (hb:=?_)|refine au (hK:=?_)|refine az (hK:=?_)|refine aI (hK:=?_)|refine cD (p6 hs (by omega) ?_)))
    exact ⟨((i+1,0),σ3),aM bH (ResW.sub (List.sublist_cons_self _ _)) id,⟨⟨by dsimp only;omega,by have:=hs.1;dsimp only;omega,by dsimp only;omega,by dsimp only;omega⟩,h9⟩,by dsimp only;omega⟩
   ·rw [ho] at h9
    simp only [if_true,List.map_nil] at h9
    repeat' (first|simp only [WL,ay,WM,reduceCtorEq,bg,Nat.reduceAdd,Nat.reduceEqDiff,Bool.not_true,true_and,T3,fR dR,oB,Tryz.results149,ho]|simp (disch:=first|omega|(simp only [aU];omega)) only [an]|(with_reducible first|refine ax (hb:=?_)|refine au (hK:=?_)|refine az (hK:=?_)|refine aI (hK:=?_)|refine cD (p6 hs (by omega) ?_)))
    exact ak (ah (ah (ah ae))) (aj rfl) h9.2
  ·skip
   repeat' (first|simp only [WL,WM,Bool.not_false,true_and,Tryz.results149])
   exact ak (ah (ah (ah ae))) (aj rfl) h9
  ·skip
   repeat' (first|simp only [WL,WM,true_and])
   exact aS (ah (ah (ah ae))) rfl h9
def PP (ls:List Ln) (n l0:Int):List ((Int × Int) × Bool)→Option (Option (Int × Int))
 | []=>some none
 | (q,s)::r=>if s then (if l0 < q.1∧(ls.getD q.1.toNat (0,[])).1≤n then none else some (some q)) else PP ls n l0 r
def zj (ls:List Ln) (n:Int) (p:Int × Int):Option (Option (Int × Int)):=PP ls n p.1 (j8 ls p)
theorem rI {ls:List Ln}:∀ {m:Nat}{p:Int × Int}{q:(Int × Int) × Bool},q∈nP ls m p→p.1≤q.1.1∧(p.1 < q.1.1→q.1.1 < ls.length)
 | 0,p,q,h=>by
  obtain rfl:q=kZ ls p:=by simpa [nP] using h
  exact ⟨Int.le_refl _,fun h=>absurd h (Int.lt_irrefl _)⟩
 | m+1,p,q,h=>by
  rcases List.mem_cons.1 h with rfl|h
  ·exact ⟨Int.le_refl _,fun h=>absurd h (Int.lt_irrefl _)⟩
  ·split at h
   ·cases h
   ·rename_i ho
    have h1:=ji (by simpa using ho)
    have h2:=rI h
    dsimp only at h2;refine ⟨by omega,fun _=>?_⟩;rcases Int.lt_or_le (p.1+1) q.1.1 with h3|h3
    ·exact h2.2 h3
    ·omega
theorem Yr {bj ix:Nat}{ls:List Ln}{n d:Int}{bk:Bool}{x y:AV} [hJ:Hold σ bj ix (JC ls n bk d x y)] {p:Int × Int} (hs:Small ls) (hp:0≤p.1∧p.1≤1000000000∧bW p.2∧0≤p.2)
  (h1:∀ q,zj ls n p=some (some q)→K (.ret (.tup [cU q,B true])) σ) (h2:zj ls n p=some none→K (.ret (.tup [cU (0,0),B false])) σ) (h3:zj ls n p=none→K (.pan (bN 7)) σ):ACallF κ Tryz.prog 103 [JP bj,cU p] σ K:=by
 refine ACallF.dropL (ot Tryz.func103 rfl ?_);simp only [Tryz.ntmps103];refine mD ?_
 repeat' (first|simp only [WL,WM,Nat.reduceAdd,Nat.reduceSub]|(with_reducible first|refine aQ (hK:=fun b=>?_)|refine aV (hK:=fun b=>?_)))
 refine yO (mD ?_)
 repeat' (first|simp only [WL,WM,true_and,T8]|(with_reducible first|refine au (hK:=?_)|refine aA (hK:=?_)|refine cD (N8 (fun bq1 bq2=>?_))))
 refine wF ?_;rename_i b1 b2 b3;refine Gr 149 [] [.pointer (some ⟨bq1,0,none⟩),.pointer (some ⟨bq2,0,none⟩)] ((j8 ls p).map fun q=>[cU q.1,B q.2]) [.obj bq2 [I p.1,I p.2],.obj bq1 [JP bj]] (.obj b [B false]::.obj b3 [I 0,I 0]::.obj b2 [I p.1,I p.2]::.obj b1 [JP bj]::σ)
  (fun xs τ=>∃ rest,zj ls n p=PP ls n p.1 rest∧(∀ q∈rest,p.1≤q.1.1∧(p.1 < q.1.1→q.1.1 < ls.length))∧xs=rest.map (fun q=>[cU q.1,B q.2])∧τ=.obj b [B false]::.obj b3 [I 0,I 0]::.obj b2 [I p.1,I p.2]::.obj b1 [JP bj]::σ)
  (fun σ=>∃ ix,Hold σ bj ix (JC ls n bk d x y)) (by rintro _ _ r ⟨_,_,_,_,rfl⟩;exact ⟨_,inferInstance⟩)
  rfl Ri (ResW.refl _) (fun L K σ' h=>HO hs hp h) ⟨j8 ls p,rfl,fun q h=>rI h,rfl,rfl⟩ ?_ ?_
 ·rintro τ ⟨rest,e1,e2,e3,rfl⟩
  obtain rfl:rest=[]:=by cases rest with
   | nil=>rfl
   | cons=>simp at e3
  simp only [gu,eY];refine B8 (oW ?_)
  repeat' (first|simp only [WL,WM,Nat.reduceAdd,true_and,Tryz.results103]|(with_reducible first|refine aP (hK:=?_)|refine az (hK:=?_)|refine aI (hK:=?_))|((with_reducible refine aY ?_);apply lN (hf:=Tryz.results103);exact bn;exact dT))
  exact ak (ah (ah (ah (ah ae)))) (aj rfl) (h2 (by rw [e1];rfl))
 ·rintro dd L Rr Rb hR xx xs τ ⟨rest,e1,e2,e3,rfl⟩
  cases rest with
  | nil=>simp at e3
  | cons q rest =>
  simp only [List.map_cons,List.cons.injEq] at e3;obtain ⟨rfl,rfl⟩:=e3;obtain ⟨⟨qi,qk⟩,sm⟩:=q;have eq:=e2 _ List.mem_cons_self
  dsimp only at eq;refine ⟨rfl, ?_⟩
  repeat' (first|simp only [WL,WM,Nat.reduceAdd]|(with_reducible first|refine az (hK:=?_)|refine aV (hK:=fun b=>?_)))
  refine ⟨1,rfl, ?_⟩;simp only [List.set_cons_succ,List.set_cons_zero];cases sm
  ·skip
   repeat' (first|simp only [WL,WM,Bool.not_false,mT])
   exact ⟨_,qu (ResW.sub (List.sublist_cons_self _ _)),rest,by rw [e1];rfl,fun q hq=>e2 q (List.mem_cons_of_mem _ hq),rfl,rfl⟩
  ·have ha:=fun h=>hs.at_ (i:=qi.toNat) h
   have hon:zj ls n p=if p.1 < qi∧(ls.getD qi.toNat (0,[])).1≤n then none else some (some (qi,qk)):=by rw [e1];rfl
   repeat' (first|simp only [WL,ay,WM,reduceCtorEq,bg,Nat.reduceAdd,Nat.reduceLeDiff,Nat.reduceEqDiff,Bool.not_true,true_and,reduceIte,Bool.false_eq_true,T3,gg,jm,fC db,fR dR,fR gO,fR yz,tY,Tryz.results103,tI,Dn]|simp (disch:=first|omega|(simp only [aU];omega)) only [dO]|(with_reducible first|refine ax (hb:=?_)|refine au (hK:=?_)|refine aA (hK:=?_)|refine aP (hK:=?_)|refine az (hK:=?_)|refine cD (BR ?_))|((with_reducible refine aE (id:=5) 21 mixed ?_ ?_);kernel_rfl)|(with_reducible refine bK ?_)|((with_reducible first|refine ai (fun h=>?_) (fun h=>?_)|refine ab (fun h=>?_) (fun h=>?_))<;>(try simp only [h])<;>(try simp only [bf,ba] at h)))
   all_goals first
    | exact ⟨_,qu (ResW.sub (List.sublist_cons_self _ _)),aS (ah (ah (ah (ah ae)))) rfl (h3 (by rw [hon,if_pos ⟨by assumption,by assumption⟩]))⟩
    | skip
   all_goals
    refine ⟨_,qu (ResW.sub (List.sublist_cons_self _ _)), ?_⟩
    repeat' (first|simp only [WM]|((with_reducible refine aY ?_);apply lN (hf:=Tryz.results103);exact bn;exact dT))
    exact ak (ah (ah (ah (ah ae)))) (aj rfl) (h1 (qi,qk) (by rw [hon,if_neg (by omega)]))
theorem Yk {bj ix:Nat}{ls:List Ln}{n d:Int}{bk:Bool}{x y:AV} [hJ:Hold σ bj ix (JC ls n bk d x y)] {p:Int × Int} (hs:Small ls) (hp:0≤p.1∧p.1≤1000000000∧bW p.2∧0≤p.2)
  (h1:∀ q,zj ls n p=some (some q)→K (.ret (cU q)) σ) (h2:zj ls n p=some none→K (.pan (bN 2)) σ) (h3:zj ls n p=none→K (.pan (bN 7)) σ):ACallF κ Tryz.prog 180 [JP bj,cU p] σ K:=by
 refine ACallF.dropL (aa Tryz.func180 rfl ?_);simp only [Tryz.ntmps180]
 repeat' (first|simp only [WL,WM,Nat.reduceAdd,Nat.reduceSub,Nat.reduceLT,true_and,yM,dz,Tryz.results180]|(with_reducible first|refine aA (hK:=?_)|refine az (hK:=?_)|refine aQ (hK:=fun b=>?_)|refine aV (hK:=fun b=>?_)|refine cD (Yr hs hp (fun q hq=>?_) (fun hq=>?_) (fun hq=>?_))|refine cD (mI ?_)|refine cD (jQ ?_))|((with_reducible refine aY ?_);apply di (hf:=Tryz.results180);exact bn))
 all_goals first
  | exact ak (ah (ah (ah ae))) (aj rfl) (h1 q hq)
  | exact aS (ah (ah (ah ae))) rfl (h2 hq)
  | exact aS (ah (ah ae)) rfl (h3 hq)
end Go.Proofs.YthkabaiamcjdbaaGreat
namespace Go.Abs
def dv:Nat→Int→List Int→Option Int
 | 0,c,_=>some c
 | _+1,_,[]=>none
 | n+1,c,y::r=>if 128≤y∧y≤191 then dv n (c * 64+y % 64) r else none
def kV (n:Nat) (least:Int):Option Int→Int × Nat
 | none=>(0,0)
 | some c=>if c < least∨ek c=false then (0,0) else (c,n)
def cv:List Int→Int × Nat
 | []=>(0,0)
 | x::r =>
  if x < 128 then (x,1)
  else if 194≤x∧x < 224 then kV 2 128 (dv 1 (x % 32) r)
  else if 224≤x∧x < 240 then kV 3 2048 (dv 2 (x % 16) r)
  else if 240≤x∧x < 245 then kV 4 65536 (dv 3 (x % 8) r)
  else (0,0)
theorem qW {n:Nat}{least:Int}{o:Option Int}{c:Int}{m:Nat} (h:kV n least o=(c,m)) (hm:0 < m):o=some c∧least≤c∧ek c=true∧m=n:=by
 unfold kV at h;cases o with
 | none=>simp only [Prod.mk.injEq] at h;omega
 | some d =>
  simp only at h;split at h
  ·simp only [Prod.mk.injEq] at h;omega
  ·rename_i hn
   simp only [Prod.mk.injEq] at h;obtain ⟨rfl,rfl⟩:=h;refine ⟨rfl,by omega, ?_,rfl⟩;cases hr:ek d
   ·exact absurd (.inr hr) hn
   ·rfl
theorem Lf (b:List Int):(cv b).2≤4:=by
 have he:∀ n least o,n≤4→(kV n least o).2≤4:=by
  intro n least o h;unfold kV;cases o with
  | none=>simp
  | some c=>simp only;split<;>simp<;>omega
 cases b with
 | nil=>simp [cv]
 | cons x r =>
  simp only [cv]
  (repeat' split)<;>first|exact he _ _ _ (by decide)|(simp;done)|decide
theorem qY {b:List Int} (hb:∀ x∈b,0≤x∧x≤255) {c:Int}{n:Nat} (h:cv b=(c,n)) (hn:0 < n):n≤b.length∧kT c=b.take n∧ek c=true:=by
 cases b with
 | nil=>simp only [cv,Prod.mk.injEq] at h;omega
 | cons x r =>
  have hx:=hb x (by simp)
  simp only [cv] at h;split at h
  ·rename_i h1
   simp only [Prod.mk.injEq] at h;obtain ⟨rfl,rfl⟩:=h;exact ⟨by simp,by rw [oU hx.1 h1];rfl,xd hx.1 (by omega) (by omega)⟩
  split at h
  ·rename_i h0 h1
   obtain ⟨h2,h3,h4,rfl⟩:=qW h hn
   match r,hb,h2 with
   | y::r,hb,h2 =>
    simp only [dv] at h2;split at h2
    ·rename_i hy
     simp only [Option.some.injEq] at h2;subst h2;refine ⟨by simp, ?_,h4⟩;unfold kT;rw [qU h4];unfold vA;rw [if_neg (by omega),if_pos (by omega)];simp only [List.take_succ_cons,List.take_zero,List.cons.injEq,and_true];omega
    ·cases h2
  split at h
  ·rename_i h00 h0 h1
   obtain ⟨h2,h3,h4,rfl⟩:=qW h hn
   match r,hb,h2 with
   | y::z::r,hb,h2 =>
    simp only [dv] at h2;split at h2
    ·split at h2
     ·rename_i hy hz
      simp only [Option.some.injEq] at h2;subst h2;refine ⟨by simp, ?_,h4⟩;unfold kT;rw [qU h4];unfold vA;rw [if_neg (by omega),if_neg (by omega),if_pos (by omega)];simp only [List.take_succ_cons,List.take_zero,List.cons.injEq,and_true];omega
     ·cases h2
    ·cases h2
   | [y],hb,h2=>simp only [dv] at h2;split at h2<;>cases h2
  split at h
  ·rename_i h000 h00 h0 h1
   obtain ⟨h2,h3,h4,rfl⟩:=qW h hn
   match r,hb,h2 with
   | y::z::u::r,hb,h2 =>
    simp only [dv] at h2;split at h2
    ·split at h2
     ·split at h2
      ·rename_i hy hz hu
       simp only [Option.some.injEq] at h2;subst h2;have h5:=fw.1 h4
       refine ⟨by simp, ?_,h4⟩;unfold kT;rw [qU h4];unfold vA;rw [if_neg (by omega),if_neg (by omega),if_neg (by omega)];simp only [List.take_succ_cons,List.take_zero,List.cons.injEq,and_true];omega
      ·cases h2
     ·cases h2
    ·cases h2
   | [y,z],hb,h2=>simp only [dv] at h2;(repeat' split at h2)<;>cases h2
   | [y],hb,h2=>simp only [dv] at h2;split at h2<;>cases h2
  ·simp only [Prod.mk.injEq] at h;omega
def dS:Nat→List Int→List Int→Option (List Int)
 | _,acc,[]=>some acc
 | 0,_,_=>none
 | f+1,acc,x::r=>if (cv (x::r)).2=0 then none else dS f (acc++[(cv (x::r)).1]) ((x::r).drop (cv (x::r)).2)
def ie (l:List Int):Option (List Int):=dS l.length [] l
theorem ql:∀ (f f':Nat) (acc l:List Int),l.length≤f→l.length≤f'→dS f acc l=dS f' acc l
 | 0,0,_,_,_,_=>rfl
 | 0,f'+1,acc,l,h,_=>by
  obtain rfl:=List.eq_nil_of_length_eq_zero (by omega:l.length=0);rfl
 | f+1,0,acc,l,_,h=>by
  obtain rfl:=List.eq_nil_of_length_eq_zero (by omega:l.length=0);rfl
 | f+1,f'+1,acc,[],_,_=>rfl
 | f+1,f'+1,acc,x::r,h,h'=>by
  simp only [List.length_cons] at h h';simp only [dS];split
  ·rfl
  ·rename_i hn
   exact ql f f' _ _ (by simp only [List.length_drop,List.length_cons];omega) (by simp only [List.length_drop,List.length_cons];omega)
theorem rO:∀ (f:Nat) (acc l m:List Int),(∀ x∈l,0≤x∧x≤255)→dS f acc l=some m→∃ d,m=acc++d∧ic d=l∧∀ c∈d,ek c=true
 | _,acc,[],m,_,h=>by
  have:some acc=some m:=by cases ‹Nat›<;>simpa [dS] using h
  exact ⟨[],by simpa using (Option.some.inj this).symm,rfl,by simp⟩
 | 0,acc,x::r,m,_,h=>by simp [dS] at h
 | f+1,acc,x::r,m,hb,h=>by
  simp only [dS] at h;split at h
  ·cases h
  ·rename_i hn
   obtain ⟨h1,h2,h3⟩:=qY hb (c:=(cv (x::r)).1) (n:=(cv (x::r)).2) rfl (by omega);obtain ⟨d,hd,he,hr⟩:=rO f _ _ m (fun y hy=>hb y (List.mem_of_mem_drop hy)) h;refine ⟨(cv (x::r)).1::d,by rw [hd];simp, ?_,fun c hc=>?_⟩
   ·have:ic ((cv (x::r)).1::d)=kT (cv (x::r)).1++ic d:=by simp [ic]
    rw [this,h2,he,List.take_append_drop]
   ·rcases List.mem_cons.1 hc with rfl|hc
    ·exact h3
    ·exact hr c hc
theorem sY {l m:List Int} (hb:∀ x∈l,0≤x∧x≤255) (h:ie l=some m):ic m=l∧∀ c∈m,ek c=true:=by
 obtain ⟨d,hd,he,hr⟩:=rO _ _ _ _ hb h;rw [List.nil_append] at hd;subst hd;exact ⟨he,hr⟩
theorem og:∀ (f:Nat) (acc l:List Int),l.length≤f→(∀ x∈l,0≤x∧x < 128)→dS f acc l=some (acc++l)
 | f,acc,[],_,_=>by cases f<;>simp [dS]
 | 0,acc,x::r,h,_=>by simp at h
 | f+1,acc,x::r,h,ha=>by
  have hx:=ha x (by simp)
  have hp:cv (x::r)=(x,1):=by simp only [cv];rw [if_pos hx.2]
  simp only [dS,hp];rw [if_neg (by decide),List.drop_succ_cons,List.drop_zero,og f _ r (by simpa using h) (fun y hy=>ha y (by simp [hy]))];simp
theorem lB {l:List Int} (h:∀ x∈l,0≤x∧x < 128):ie l=some l:=by
 unfold ie;rw [og _ _ _ (Nat.le_refl _) h];rfl
def uriL:List Int:=[35,59,47,63,58,64,38,61,43,36,44,95,46,33,126,42,39,40,41,91,93]
def oE (c:Int):Bool:=decide (c∈uriL)
def bM (l:List Int):Nat :=
 match l with
 | []=>0
 | c::r=>if c=37 then (if 2≤r.length∧0≤iN (r.getD 0 0)∧0≤iN (r.getD 1 0) then 3 else 0) else if cr c || oE c then 1 else 0
theorem nq {l:List Int}{i:Nat} (h:i < l.length):bM (l.drop i)=if l.getD i 0=37 then (if i+2 < l.length∧0≤iN (l.getD (i+1) 0)∧0≤iN (l.getD (i+2) 0) then 3 else 0) else if cr (l.getD i 0) || oE (l.getD i 0) then 1 else 0:=by
 rw [aX h];simp only [bM];have e1:(l.drop (i+1)).getD 0 0=l.getD (i+1) 0:=by simp [List.getD_eq_getElem?_getD]
 have e2:(l.drop (i+1)).getD 1 0=l.getD (i+2) 0:=by simp [List.getD_eq_getElem?_getD]
 have e3:(2≤(l.drop (i+1)).length)=(i+2 < l.length):=by simp;omega
 simp only [e1,e2,e3]
theorem ur (l:List Int):bM l≤3∧bM l≤l.length:=by
 unfold bM;split
 ·simp
 ·rename_i c r
  (repeat' split)<;>simp<;>omega
def ld (may:Int→Bool):Nat→List Int→Nat
 | 0,_=>0
 | f+1,l=>if bM l=0∨may (l.getD 0 0)=false then 0 else bM l+ld may f (l.drop (bM l))
def cG (may:Int→Bool) (l:List Int):Nat:=ld may l.length l
theorem Af (may:Int→Bool):∀ (f:Nat) (l:List Int),ld may f l≤l.length
 | 0,_=>Nat.zero_le _
 | f+1,l=>by
  have h1:=(ur l).2
  have h2:=Af may f (l.drop (bM l))
  rw [List.length_drop] at h2;simp only [ld];split<;>omega
theorem lr (may:Int→Bool) (l:List Int):cG may l≤l.length:=Af may _ l
theorem uP (may:Int→Bool):∀ (f f':Nat) (l:List Int),l.length≤f→l.length≤f'→ld may f l=ld may f' l
 | 0,0,_,_,_=>rfl
 | 0,f'+1,l,h,_=>by
  obtain rfl:=List.eq_nil_of_length_eq_zero (by omega:l.length=0);simp [ld,bM]
 | f+1,0,l,_,h=>by
  obtain rfl:=List.eq_nil_of_length_eq_zero (by omega:l.length=0);simp [ld,bM]
 | f+1,f'+1,l,h,h'=>by
  simp only [ld];split
  ·rfl
  ·rename_i hn
   rw [uP may f f' _ (by rw [List.length_drop];omega) (by rw [List.length_drop];omega)]
theorem sf (may:Int→Bool) (l:List Int):cG may l=if bM l=0∨may (l.getD 0 0)=false then 0 else bM l+cG may (l.drop (bM l)):=by
 unfold cG;cases l with
 | nil=>simp [ld,bM]
 | cons c r =>
  have:∀ n,0 < n→ld may r.length ((c::r).drop n)=ld may ((c::r).drop n).length ((c::r).drop n):=fun n hn=>uP may _ _ _ (by simp only [List.length_drop,List.length_cons];omega) (Nat.le_refl _)
  rw [List.length_cons];simp only [ld];split
  ·rfl
  ·rename_i h
   rw [this _ (by omega)]
def dQ (c:Int):Bool:=true
def eV (c:Int):Bool:=!(c == 33) && !kf c
def gI (l:List Int):Bool:=decide (0 < l.length∧cG dQ l=l.length)
theorem DS {c:Int} (h:cr c=true):0≤c∧c < 128:=by
 unfold cr at h;have:=of_decide_eq_true h
 omega
theorem FZ {c:Int} (h:oE c=true):0≤c∧c < 128:=by
 unfold oE at h;have:=of_decide_eq_true h
 simp only [uriL,List.mem_cons,List.not_mem_nil,or_false] at this;omega
theorem wY {c:Int} (h:0≤iN c):0≤c∧c < 128:=by
 unfold iN at h
 (repeat' split at h)<;>omega
theorem D6:∀ (n:Nat) (l:List Int),l.length≤n→cG dQ l=l.length→∀ c∈l,0≤c∧c < 128
 | n,[],_,_=>by simp
 | 0,c::r,h,_=>by simp at h
 | n+1,c::r,h,hu=>by
  rw [sf] at hu;split at hu
  ·simp at hu
  ·rename_i hn
   have hs:¬bM (c::r)=0:=fun e=>hn (.inl e)
   have ih:=D6 n ((c::r).drop (bM (c::r))) (by simp only [List.length_drop,List.length_cons] at *;omega) (by rw [List.length_drop];omega)
   intro x hx;rw [← List.take_append_drop (bM (c::r)) (c::r)] at hx;rcases List.mem_append.1 hx with hx|hx
   ·clear ih hu hn
    unfold bM at hs hx;simp only at hs hx;split at hs
    ·rename_i h37
     simp only [h37,if_true] at hx;split at hs
     ·rename_i hh
      simp only [hh,and_self,if_true] at hx
      match r,hh with
      | y::z::r,hh =>
       have hy:=wY hh.2.1
       have hz:=wY hh.2.2
       simp at hx hy hz;omega
      | [y],hh=>exact absurd hh.1 (by simp)
      | [],hh=>exact absurd hh.1 (by simp)
     ·exact absurd rfl hs
    ·rename_i h37
     simp only [h37,if_false] at hx;split at hs
     ·rename_i hw
      simp only [hw,if_true] at hx;simp at hx;subst hx;rcases Bool.or_eq_true_iff.1 hw with h|h
      ·exact DS h
      ·exact FZ h
     ·exact absurd rfl hs
   ·exact ih x hx
theorem ke {l:List Int} (h:gI l=true):∀ c∈l,0≤c∧c < 128:=D6 _ l (Nat.le_refl _) (of_decide_eq_true h).2
theorem zZ {l:List Int} (hb:∀ x∈l,0≤x∧x≤255):gI l=match ie l with|none=>false|some m=>gI m:=by
 cases h:ie l with
 | none =>
  simp only;cases hv:gI l with
  | false=>rfl
  | true=>rw [lB (ke hv)] at h;cases h
 | some m =>
  simp only;obtain ⟨he,_⟩:=sY hb h;cases hv:gI l with
  | true =>
   rw [lB (ke hv)] at h;rw [← Option.some.inj h,hv]
  | false =>
   cases hm:gI m with
   | false=>rfl
   | true =>
    rw [lh (ke hm)] at he;rw [he,hv] at hm;cases hm
def gD (p:Int→Bool) (l:List Int):Nat:=(l.takeWhile p).length
theorem eX (p:Int→Bool) (l:List Int):gD p l≤l.length:=(List.takeWhile_prefix p).length_le
theorem qe {p:Int→Bool}{l:List Int}{k:Nat} (h:k≤gD p l) (h1:k < l.length) (h2:p (l.getD k 0)=true):k+1≤gD p l:=yf h h1 h2
theorem pW {p:Int→Bool}{l:List Int}{k:Nat} (h:k≤gD p l) (h1:l.length≤k∨p (l.getD k 0)=false):k=gD p l:=by
  rcases Nat.lt_or_ge k l.length with hk|hk
  · exact y9      h hk (by rcases h1 with h1 | h1; · omega
                           · exact h1)
  · have:=eX p l;omega
def nH (l:List Int) (i:Nat) (c:Int):Bool:=decide (i < l.length∧l.getD i 0=c)
theorem kA {l:List Int}{i:Nat}{c:Int} (h:nH l i c=true):i < l.length∧l.getD i 0=c:=of_decide_eq_true h
theorem w37:cr 37=false:=by decide
theorem u37:oE 37=false:=by decide
theorem Lu {l:List Int}{i:Nat} (h:i < l.length) (hw:cr (l.getD i 0)=true):bM (l.drop i)=1:=by
 rw [nq h,if_neg (fun e=>by rw [e,w37] at hw;cases hw),hw];rfl
theorem L8 {l:List Int}{i:Nat} (h:i < l.length) (hw:oE (l.getD i 0)=true):bM (l.drop i)=1:=by
 rw [nq h,if_neg (fun e=>by rw [e,u37] at hw;cases hw),hw,Bool.or_true];rfl
theorem M0 {l:List Int}{i:Nat} (h:i+2 < l.length) (h1:l.getD i 0=37) (h2:0≤iN (l.getD (i+1) 0)) (h3:0≤iN (l.getD (i+2) 0)):bM (l.drop i)=3:=by
 rw [nq (by omega),if_pos h1,if_pos ⟨h,h2,h3⟩]
theorem sF {l:List Int}{i:Nat} (h:i < l.length) (h1:l.getD i 0=37) (h2:l.length≤i+2∨iN (l.getD (i+1) 0) < 0∨iN (l.getD (i+2) 0) < 0):bM (l.drop i)=0:=by
 rw [nq h,if_pos h1,if_neg (by omega)]
theorem KQ {l:List Int}{i:Nat} (h:i < l.length) (h1:¬l.getD i 0=37) (h2:cr (l.getD i 0)=false) (h3:oE (l.getD i 0)=false):bM (l.drop i)=0:=by
 rw [nq h,if_neg h1,h2,h3];rfl
theorem MY {l:List Int}{i:Nat} (h:l.length≤i):bM (l.drop i)=0:=by rw [List.drop_eq_nil_of_le h];rfl
theorem AK {c:Int}:oE c=true↔c∈uriL:=by unfold oE;exact decide_eq_true_iff
def oR:Nat→Nat→List Int→List (Nat × Nat)
 | 0,_,_=>[]
 | f+1,i,l=>if bM (l.drop i)=0 then [] else (i,i+bM (l.drop i))::oR f (i+bM (l.drop i)) l
def nE (l:List Int) (i:Nat):List (Nat × Nat):=oR (l.length - i+1) i l
theorem fW {l:List Int}{i:Nat}:bM (l.drop i)≤l.length - i:=by
 have:=(ur (l.drop i)).2;rwa [List.length_drop] at this
theorem rv:∀ (f f' i:Nat) (l:List Int),l.length - i < f→l.length - i < f'→oR f i l=oR f' i l
 | 0,_,_,_,h,_=>by omega
 | _,0,_,_,_,h=>by omega
 | f+1,f'+1,i,l,h,h'=>by
  have:=fW (l:=l) (i:=i)
  simp only [oR];split
  ·rfl
  ·rw [rv f f' _ l (by omega) (by omega)]
theorem sZ {l:List Int}{i:Nat} (h:bM (l.drop i)=0):nE l i=[]:=by
 unfold nE oR;rw [if_pos h]
theorem mJ {l:List Int}{i:Nat} (h:¬bM (l.drop i)=0):nE l i=(i,i+bM (l.drop i))::nE l (i+bM (l.drop i)):=by
 have:=fW (l:=l) (i:=i)
 unfold nE;rw [oR,if_neg h,rv (l.length - i) (l.length - (i+bM (l.drop i))+1) _ _ (by omega) (by omega)]
theorem nw {may:Int→Bool}{l:List Int} (h:bM l=0∨may (l.getD 0 0)=false):cG may l=0:=by rw [sf,if_pos h]
theorem mQ {may:Int→Bool}{l:List Int} (h:¬bM l=0) (h1:may (l.getD 0 0)=true):cG may l=bM l+cG may (l.drop (bM l)):=by
 rw [sf,if_neg];rw [h1];simp [h]
theorem uN {l:List Int}{i:Nat}:(l.drop i).getD 0 0=l.getD i 0:=by simp [List.getD_eq_getElem?_getD]
def bB (l:List Int):Nat:=if nH l (1+gD cr (l.drop 1)) 33 then 1+gD cr (l.drop 1)+1 else 0
theorem lq (l:List Int):bB l≤l.length:=by
 unfold bB;split
 ·rename_i h;have:=(kA h).1;omega
 ·omega
def bR (l:List Int):ByteArray × Int × Bool:=(aK (l.take (gD eK l)),(gD eK l:Nat),decide (0 < gD eK l))
def noneT:ByteArray × Int × Bool:=(ByteArray.empty,0,false)
def fS (l:List Int):ByteArray × Int × Bool :=
 if cG dQ (l.drop 2)=0∨nH l (cG dQ (l.drop 2)+2) 62=false then noneT else (aK ((l.take (cG dQ (l.drop 2)+2)).drop 1),(cG dQ (l.drop 2)+3:Nat),true)
def gl (l:List Int):ByteArray × Int × Bool :=
 if 0 < bB l∧cG eV (l.drop (max (bB l) 1))=0 then noneT else (aK (l.take (cG eV (l.drop (max (bB l) 1))+max (bB l) 1)),(cG eV (l.drop (max (bB l) 1))+max (bB l) 1:Nat),true)
def cK (l:List Int):ByteArray × Int × Bool:=if nH l 0 33=false then noneT else if nH l 1 60 then fS l else gl l
/-! ### Directives -/
def eB (c:Int):Bool:=decide (48≤c∧c≤57)
def uq (l:List Int):Bool:=decide (gD blankI l=l.length∨(0 < gD blankI l∧l.getD (gD blankI l) 0=35))
def pE (l:List Int) (i:Nat):ByteArray × ByteArray × Bool :=
 if gD eB (l.drop i)=0∨nH l (i+gD eB (l.drop i)) 46=false then (ByteArray.empty,ByteArray.empty,false)
 else (aK ((l.take (i+gD eB (l.drop i))).drop i),aK ((l.take (i+gD eB (l.drop i)+1+gD eB (l.drop (i+gD eB (l.drop i)+1)))).drop (i+gD eB (l.drop i)+1)),
  decide (0 < gD eB (l.drop (i+gD eB (l.drop i)+1))) && uq (l.drop (i+gD eB (l.drop i)+1+gD eB (l.drop (i+gD eB (l.drop i)+1)))))
def kG (l:List Int) (i:Nat):Nat:=i+max 1 (bB (l.drop i))
def jl (l:List Int) (i:Nat):Nat:=kG l i+gD blankI (l.drop (kG l i))
def nU (l:List Int) (i:Nat):Nat:=cG dQ (l.drop (jl l i))
def sa (l:List Int) (i:Nat):ByteArray × ByteArray × Bool :=
 if nH l i 33=false then (ByteArray.empty,ByteArray.empty,false)
 else (aK ((l.take (kG l i)).drop i),aK ((l.take (jl l i+nU l i)).drop (jl l i)),decide (kG l i < jl l i) && (decide (0 < nU l i) && uq (l.drop (jl l i+nU l i))))
theorem IL {l:List Int}{i:Nat} (h:nH l i 33=true):sa l i=(aK ((l.take (kG l i)).drop i),aK ((l.take (jl l i+nU l i)).drop (jl l i)),decide (kG l i < jl l i) && (decide (0 < nU l i) && uq (l.drop (jl l i+nU l i)))):=by
 rw [sa,if_neg (by rw [h];decide)]
abbrev litY:ByteArray:={ data:=#[89,65,77,76] }
abbrev litT:ByteArray:={ data:=#[84,65,71] }
def zV:ByteArray × ByteArray × ByteArray × Bool:=(ByteArray.empty,ByteArray.empty,ByteArray.empty,false)
def gT (l:List Int):Nat:=1+gD eK (l.drop 1)
def oL (l:List Int):Nat:=gD blankI (l.drop (gT l))
def mX (l:List Int):ByteArray:=aK ((l.take (gT l)).drop 1)
def kB (l:List Int):ByteArray × ByteArray × ByteArray × Bool :=
 if nH l 0 37=false then zV
 else if (mX l).toList=litY.toList then (if (pE l (gT l+oL l)).2.2=true∧0 < oL l then (mX l,(pE l (gT l+oL l)).1,(pE l (gT l+oL l)).2.1,true) else zV)
 else if (mX l).toList=litT.toList then (if (sa l (gT l+oL l)).2.2=true∧0 < oL l then (mX l,(sa l (gT l+oL l)).1,(sa l (gT l+oL l)).2.1,true) else zV)
 else if ¬(mX l).toList=({ data:=#[] }:ByteArray).toList∧(gT l=l.length∨0 < oL l) then (mX l,ByteArray.empty,ByteArray.empty,true) else zV
theorem OT {l:List Int} (h:0 < l.length):gT l≤l.length:=by
 have:=eX eK (l.drop 1)
 rw [List.length_drop] at this;unfold gT;omega
theorem Nt (l:List Int):oL l≤l.length - gT l:=by
 have:=eX blankI (l.drop (gT l))
 rwa [List.length_drop] at this
theorem FG {l:List Int}{i:Nat} (h:i < l.length):i+1≤kG l i∧kG l i≤l.length:=by
 have:=lq (l.drop i)
 rw [List.length_drop] at this;unfold kG;omega
theorem FM {l:List Int}{i:Nat} (h:i < l.length):kG l i≤jl l i∧jl l i≤l.length:=by
 have h1:=FG h
 have:=eX blankI (l.drop (kG l i))
 rw [List.length_drop] at this;unfold jl;omega
theorem OG {l:List Int}{i:Nat} (h:i < l.length):jl l i+nU l i≤l.length:=by
 have h1:=FM h
 have:=lr dQ (l.drop (jl l i))
 rw [List.length_drop] at this;unfold nU;omega
end Go.Abs
namespace Go.Proofs.YthkabaiamcjdbaaGreat
open Go.Abs
variable {κ:Ctx} {σ:List Res} {K:Ret→List Res→Prop} {o o':Option (Option (Nat × Nat))}
theorem IM {c:Int} (hK:K (.ret (B (ek c))) σ):ACallF κ Tryz.prog 40 [I c] σ K:=by
 refine ACallF.dropL (aa Tryz.func40 rfl ?_);simp only [Tryz.ntmps40]
 repeat' (first|simp only [WL,ay,WM,reduceCtorEq,bg,Nat.reduceAdd,Nat.reduceSub,Bool.not_true,Bool.not_false,true_and,reduceIte,Bool.false_eq_true,Tryz.results40]|((with_reducible first|refine ai (fun h=>?_) (fun h=>?_)|refine ab (fun h=>?_) (fun h=>?_))<;>(try simp only [h])<;>(try simp only [bf,ba] at h)))
 all_goals (refine ak ae (aj (congrArg B ?_)) hK;rw [Bool.eq_iff_iff];simp only [fw,decide_eq_true_eq,Bool.false_eq_true,false_iff,true_iff,eq_self];omega)
theorem Z3 {c:Int} (hK:K (.ret (B (ek c))) σ):ACallF κ Tryz.prog 163 [I c] σ K:=by
 refine ACallF.dropL (aa Tryz.func163 rfl ?_);simp only [Tryz.ntmps163]
 repeat' (first|simp only [WL,ay,WM,reduceCtorEq,bg,Nat.reduceAdd,Nat.reduceSub,Bool.not_true,Bool.not_false,true_and,reduceIte,Bool.false_eq_true,Tryz.results163]|((with_reducible first|refine ai (fun h=>?_) (fun h=>?_)|refine ab (fun h=>?_) (fun h=>?_))<;>(try simp only [h])<;>(try simp only [bf,ba] at h)))
 all_goals (refine ak ae (aj (congrArg B ?_)) hK;rw [Bool.eq_iff_iff];simp only [fw,decide_eq_true_eq,Bool.false_eq_true,false_iff,true_iff,eq_self];omega)
theorem Lm {bs:List Int}{c:Int}{tk:Option (Nat × Nat)} (hb:bs.length≤8000000000) (hc:128≤c) (hr:ek c=true) (hK:∀ tk',K (.ret (SU (some tk') (bs++kT c))) (.tip tk'::σ)):ACallF κ Tryz.prog 193 [SU (some tk) bs,.raw (.int .i32 c)] (.tip tk::σ) K:=by
 obtain ⟨r1,r2,r3⟩:=fw.1 hr;refine ACallF.dropL (aa Tryz.func193 rfl ?_);simp only [Tryz.ntmps193]
 repeat' (first|simp only [WL,ay,WM,Int.reduceToNat,reduceCtorEq,bg,Nat.reduceAdd,Nat.reduceSub,Bool.not_true,true_and,reduceIte,Bool.false_eq_true,cI W9,cI QL,Tryz.results193,K8,Gb,OK,Int.reduceToNat,Int.reducePow]|simp (disch:=first|omega|(simp only [aU];omega)) only [Oy,Po,O4,OP,PA,yW,ED]|(with_reducible first|refine ax (hb:=?_)|refine cX (hlen:=?_) (hmax:=?_) (hK:=fun tk=>?_)|refine dp (hK:=?_))|((with_reducible first|refine ai (fun h=>?_) (fun h=>?_)|refine ab (fun h=>?_) (fun h=>?_))<;>(try simp only [h])<;>(try simp only [bf,ba] at h))|omega|(refine bq ?_;(first|omega|(simp only [aU];omega))))
 all_goals
  refine ak ae (aj ?_) (hK _);unfold kT vA;rw [qU hr]
  first
   | rw [if_pos (by omega)]
   | rw [if_neg (by omega),if_pos (by omega)]
   | rw [if_neg (by omega),if_neg (by omega),if_pos (by omega)]
   | rw [if_neg (by omega),if_neg (by omega),if_neg (by omega)]
  simp
theorem EF {bs:List Int}{c:Int}{tk:Option (Nat × Nat)} (hb:bs.length≤8000000000) (hr:ek c=true) (hK:∀ tk',K (.ret (SU (some tk') (bs++kT c))) (.tip tk'::σ)):ACallF κ Tryz.prog 164 [SU (some tk) bs,.raw (.int .i32 c)] (.tip tk::σ) K:=by
 obtain ⟨r1,r2,r3⟩:=fw.1 hr;refine ACallF.dropL (aa Tryz.func164 rfl ?_);simp only [Tryz.ntmps164]
 repeat' (first|simp only [WL,ay,WM,reduceCtorEq,bg,Nat.reduceAdd,Nat.reduceSub,true_and,cI W9,cI QL,Ty,Tryz.results164]|simp (disch:=first|omega|(simp only [aU];omega)) only [ED,yW]|(with_reducible first|refine ax (hb:=?_)|refine cX (hlen:=?_) (hmax:=?_) (hK:=fun tk=>?_)|refine dp (hK:=?_)|refine cD (Lm ?_ ?_ ?_ (fun tkp=>?_)))|((with_reducible first|refine ai (fun h=>?_) (fun h=>?_)|refine ab (fun h=>?_) (fun h=>?_))<;>(try simp only [h])<;>(try simp only [bf,ba] at h))|omega|(refine bq ?_;(first|omega|(simp only [aU];omega))))
 all_goals first
  | exact ak ae (aj (by rw [oU (by omega) (by omega)];simp)) (hK _)
  | exact ak ae (aj rfl) (hK _)
  | assumption
theorem y8 {l:List Int} (hl:l.length≤1000000000) (hK:K (.ret (SU none (ic l))) σ):ACallF κ Tryz.prog 131 [SI o l] σ K:=by
 refine ACallF.dropL (aa Tryz.func131 rfl ?_);simp only [Tryz.ntmps131]
 repeat' (first|simp only [WL,WM,Nat.reduceAdd,Nat.reduceSub,true_and,cb])
 refine bF (fun x:Nat × Option (Nat × Nat)=>⟨(SI o l::.any::.any::SU (some x.2) (ic (l.take x.1))::.any::.any::SI o l::I l.length::I x.1::.any::.any::.any::.any::.any::.any::.any::.any::.any::.any::.any::.any::[]),.tip x.2::σ,true,[]⟩) (fun x=>x.1≤l.length) (fun x=>l.length - x.1) (0,none) (aM bH ResW.void id) (Nat.zero_le _) ?_;rintro ⟨k,tk⟩ h1;dsimp only at h1 ⊢;have he:=mw (l.take k)
 have ht:(l.take k).length=k:=by simp;omega
 cases hr:ek (l.getD k 0)
 ·have e:kT 65533=kT (l.getD k 0):=by unfold kT;rw [Ul hr,qU (by decide)]
  repeat' (first|simp only [WL,ay,WM,reduceCtorEq,bg,Nat.reduceAdd,Bool.not_false,true_and,T3,cb,cI Uc,MM,ID,Tryz.results131,hr]|simp (disch:=first|omega|(simp only [aU];omega)) only [an,bL,EZ]|(with_reducible first|refine ax (hb:=?_)|refine cD (Z3 ?_)|refine cD (EF ?_ ?_ (fun tkp=>?_)))|((with_reducible first|refine ai (fun h=>?_) (fun h=>?_)|refine ab (fun h=>?_) (fun h=>?_))<;>(try simp only [h])<;>(try simp only [bf,ba] at h))|omega)
  ·decide
  ·exact ⟨(k+1,_),aM (by dsimp only;rw [wz (by omega),← e];exact bH) (ResW.refl _) id,by dsimp only;omega,by dsimp only;omega⟩
  ·exact ak (ah ae) (eI (by rw [List.take_of_length_le (by omega)];exact le_ro)) hK
 ·obtain ⟨r1,r2,r3⟩:=fw.1 hr
  repeat' (first|simp only [WL,ay,WM,reduceCtorEq,bg,Nat.reduceAdd,Bool.not_true,true_and,T3,cb,cI Uc,MM,ID,Tryz.results131,hr]|simp (disch:=first|omega|(simp only [aU];omega)) only [an,bL,EZ]|(with_reducible first|refine ax (hb:=?_)|refine cD (Z3 ?_)|refine cD (EF ?_ ?_ (fun tkp=>?_)))|((with_reducible first|refine ai (fun h=>?_) (fun h=>?_)|refine ab (fun h=>?_) (fun h=>?_))<;>(try simp only [h])<;>(try simp only [bf,ba] at h))|omega)
  ·exact ⟨(k+1,_),aM (by dsimp only;rw [wz (by omega)];exact bH) (ResW.refl _) id,by dsimp only;omega,by dsimp only;omega⟩
  ·exact ak (ah ae) (eI (by rw [List.take_of_length_le (by omega)];exact le_ro)) hK
theorem nm {l:List Int} (hl:l.length≤1000000000) (hK:K (.ret (.raw (.string (aK l)))) σ):ACallF κ Tryz.prog 110 [SI o l] σ K:=by
 refine ACallF.dropL (aa Tryz.func110 rfl ?_);simp only [Tryz.ntmps110]
 repeat' (first|simp only [WL,WM,Nat.reduceAdd,Nat.reduceSub,true_and,ml,yv,Tryz.results110]|(with_reducible first|refine sy ?_|refine cD (y8 ?_ ?_))|omega)
 exact ak ae (aj rfl) hK
theorem yF {l:List Int} (hl:l.length≤1000000000) (hK:K (.ret (I (gD eK l))) σ):ACallF κ Tryz.prog 109 [SI o l] σ K:=by
 refine ACallF.dropL (aN Tryz.func109 rfl ?_);simp only [Tryz.ntmps109]
 repeat' (first|(with_reducible first|refine al (aC ?_)|refine bO ?_|refine aG ?_)|simp only [WL,WM,Nat.reduceAdd,Nat.reduceSub])
 refine dq (fun k:Nat=>⟨(SI o l::.any::.any::I k::.any::.any::.any::.any::.any::.any::.any::.any::.any::.any::.any::.any::.any::.any::[]),σ,true,[]⟩) (fun k=>k≤gD eK l) (fun k=>l.length - k) 0 (aq bH id) (Nat.zero_le _) ?_;intro k hk;have hcl:=eX eK l
 repeat' (first|(with_reducible first|refine aC ?_|refine al (al ?_)|refine aG ?_|refine aB ?_|refine aw ?_|refine aO ?_)|simp only [WL,ay,WM,reduceCtorEq,bg,Nat.reduceAdd,Bool.not_true,true_and,reduceIte,Bool.false_eq_true,T3,cb,Rv,Tryz.results109]|simp (disch:=first|omega|(simp only [aU];omega)) only [an,bL]|(with_reducible first|refine ax (hb:=?_)|refine cD (XI ?_))|((with_reducible first|refine ai (fun h=>?_) (fun h=>?_)|refine ab (fun h=>?_) (fun h=>?_))<;>(try simp only [h])<;>(try simp only [bf,ba] at h)))
 all_goals first
  | exact ⟨k+1,aq bH id,qe hk (by omega) (by assumption),by omega⟩
  | exact ak ae (aj (by rw [← pW hk (by first|exact .inl (by omega)|exact .inr (by assumption))])) hK
theorem Rn {l:List Int} (hl:l.length≤1000000000) (hK:K (.ret (I (gD cr l))) σ):ACallF κ Tryz.prog 166 [SI o l] σ K:=by
 refine ACallF.dropL (aN Tryz.func166 rfl ?_);simp only [Tryz.ntmps166]
 repeat' (first|(with_reducible first|refine al (aC ?_)|refine bO ?_|refine aG ?_)|simp only [WL,WM,Nat.reduceAdd,Nat.reduceSub])
 refine dq (fun k:Nat=>⟨(SI o l::.any::.any::I k::.any::.any::.any::.any::.any::.any::.any::.any::.any::.any::.any::.any::.any::.any::[]),σ,true,[]⟩) (fun k=>k≤gD cr l) (fun k=>l.length - k) 0 (aq bH id) (Nat.zero_le _) ?_;intro k hk;have hcl:=eX cr l
 repeat' (first|(with_reducible first|refine aC ?_|refine al (al ?_)|refine aG ?_|refine aB ?_|refine aw ?_|refine aO ?_)|simp only [WL,ay,WM,reduceCtorEq,bg,Nat.reduceAdd,Bool.not_true,true_and,reduceIte,Bool.false_eq_true,T3,cb,LK,Tryz.results166]|simp (disch:=first|omega|(simp only [aU];omega)) only [an,bL]|(with_reducible first|refine ax (hb:=?_)|refine cD (PJ ?_))|((with_reducible first|refine ai (fun h=>?_) (fun h=>?_)|refine ab (fun h=>?_) (fun h=>?_))<;>(try simp only [h])<;>(try simp only [bf,ba] at h)))
 all_goals first
  | exact ⟨k+1,aq bH id,qe hk (by omega) (by assumption),by omega⟩
  | exact ak ae (aj (by rw [← pW hk (by first|exact .inl (by omega)|exact .inr (by assumption))])) hK
theorem xF {l:List Int}{i:Nat}{c:Int} (hl:l.length≤1000000000) (hi:i≤2000000000) (hK:K (.ret (B (nH l i c))) σ):ACallF κ Tryz.prog 108 [SI o l,I i,I c] σ K:=by
 refine ACallF.dropL (aa Tryz.func108 rfl ?_);simp only [Tryz.ntmps108]
 repeat' (first|simp only [WL,ay,WM,reduceCtorEq,bg,Nat.reduceAdd,Nat.reduceSub,Bool.not_true,true_and,reduceIte,Bool.false_eq_true,T3,cb,Tryz.results108]|simp (disch:=first|omega|(simp only [aU];omega)) only [bL]|with_reducible refine ax (hb:=?_)|((with_reducible first|refine ai (fun h=>?_) (fun h=>?_)|refine ab (fun h=>?_) (fun h=>?_))<;>(try simp only [h])<;>(try simp only [bf,ba] at h)))
 all_goals exact ak ae (aj (congrArg B (by rw [Bool.eq_iff_iff];simp [nH];omega))) hK
theorem x5 {l:List Int} (hl:l.length≤1000000000) (h0:0 < l.length) (hK:K (.ret (I (bB l))) σ):ACallF κ Tryz.prog 135 [SI o l] σ K:=by
 have hcl:=eX cr (l.drop 1)
 rw [List.length_drop] at hcl;refine ACallF.dropL (aa Tryz.func135 rfl ?_);simp only [Tryz.ntmps135]
 repeat' (first|simp only [WL,ay,WM,Int.reduceToNat,reduceCtorEq,bg,Nat.reduceAdd,Nat.reduceSub,true_and,T3,cb,fy,TE,Tryz.results135]|simp (disch:=first|omega|(simp only [aU];omega)) only [an]|(with_reducible first|refine ax (hb:=?_)|refine cD (xF ?_ ?_ ?_)|refine cD (Rn ?_ ?_))|((with_reducible first|refine ai (fun h=>?_) (fun h=>?_)|refine ab (fun h=>?_) (fun h=>?_))<;>(try simp only [h])<;>(try simp only [bf,ba] at h))|omega|(simp only [aU];omega))
 all_goals exact ak ae (aj (congrArg I (by simp only [bB,h];simp))) hK
theorem ye {l:List Int} (hl:l.length≤1000000000) (hK:K (.ret (.tup [.raw (.string (bR l).1),I (bR l).2.1,B (bR l).2.2])) σ):ACallF κ Tryz.prog 124 [SI o l] σ K:=by
 have hcl:=eX eK l
 refine ACallF.dropL (aa Tryz.func124 rfl ?_);simp only [Tryz.ntmps124]
 repeat' (first|simp only [WL,ay,WM,Int.reduceToNat,reduceCtorEq,bg,Nat.reduceAdd,Nat.reduceSub,true_and,T3,cb,zc,jP,Tryz.results124]|(with_reducible first|refine ax (hb:=?_)|refine cD (yF ?_ ?_)|refine cD (nm ?_ ?_))|omega|(simp only [aU];omega))
 exact ak ae (aj (by simp [bR])) hK
theorem RR {c:Int} (hK:K (.ret (B (eV c))) σ):ACallF κ Tryz.prog 153 [I c] σ K:=by
 refine ACallF.dropL (aa Tryz.func153 rfl ?_);simp only [Tryz.ntmps153]
 repeat' (first|simp only [WL,ay,WM,reduceCtorEq,bg,Nat.reduceAdd,Nat.reduceSub,Bool.not_true,true_and,reduceIte,Bool.false_eq_true,qy,Tryz.results153]|with_reducible refine cD (wU ?_)|((with_reducible first|refine ai (fun h=>?_) (fun h=>?_)|refine ab (fun h=>?_) (fun h=>?_))<;>(try simp only [h])<;>(try simp only [bf,ba] at h)))
 all_goals exact ak ae (aj (congrArg B (by simp [eV, *]))) hK
theorem Ze {c:Int} (hK:K (.ret (B (dQ c))) σ):ACallF κ Tryz.prog 137 [I c] σ K:=by
 refine ACallF.dropL (aa Tryz.func137 rfl ?_);simp only [Tryz.ntmps137]
 repeat' (first|simp only [WL,WM,Nat.reduceAdd,Nat.reduceSub,true_and,Tryz.results137])
 exact ak ae (aj rfl) hK
end Go.Proofs.YthkabaiamcjdbaaGreat
