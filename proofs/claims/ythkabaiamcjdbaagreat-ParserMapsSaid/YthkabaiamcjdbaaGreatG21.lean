/-
  Texts Kg, ML, MN, MO, Ki, Kk, Fg, Fh, one behind the other.
-/
import Derived.Test.YthkabaiamcjdbaaGreatG19
import Derived.Test.YthkabaiamcjdbaaGreatG20
set_option linter.unusedVariables false
set_option linter.unusedSimpArgs false
set_option maxHeartbeats 16000000
/-
 Walks: chapter 14,what is put and open.
-/

namespace Go.Proofs.YthkabaiamcjdbaaGreat
open Go.Abs
variable {κ:Ctx} {σ:List Res} {K:Ret→List Res→Prop} {o o':Option (Option (Nat × Nat))}
abbrev PO (b:Nat):AV:=.raw (.pointer (some ⟨b,2,none⟩))
theorem zPut0 {pr br:Nat}{ls:List Ln}{x y:AV}{l:List EvV}{ρ:List Res}{e:EvV} (hR:RowR 6 y (l.map EVA) ρ) (hl:l.length≤100000000000)
  (hK:∀ y' ρ',RowR 6 y' ((l++[e]).map EVA) ρ'→K (.ret (.tup [])) (.obj pr (RC ls br x y')::(ρ'++σ))):ACallF κ Tryz.prog 77 [JP pr,EVA e] (.obj pr (RC ls br x y)::(ρ++σ)) K:=by
 rw [List.map_append] at hK
 generalize hm:l.map EVA=m at *
 have hml:m.length≤100000000000:=by rw [← hm,List.length_map];exact hl
 cases hR with
 | nil =>
  rw [List.nil_append]
  refine ACallF.dropL (ACallF_intro Tryz.func77 rfl ?_)
  simp only [Tryz.ntmps77]
  repeat' (first|( ((with_reducible refine AW_phS1 (id:=1) [0,1,2,3,5,6] (some 4) [([],some 7),([8,9],some 10),([],none)] mixed ?_ ?_);kernel_rfl))|( with_reducible refine phQ_mk (has1 (by first|(simp;done)|fail)) ?_)|simp only [WL,WM,Nat.reduceAdd,Nat.reduceSub,Nat.reduceEqDiff,true_and,T24,fR fl58_3,Tryz.results77]|(with_reducible first|refine andA (hb:=?_)|refine y_load (hK:=?_)|refine y_loadA (hK:=?_)|refine y_store (hK:=?_)|refine y_box (hK:=fun b=>?_)|refine y_bs (hK:=?_))|( refine y_app_first (hgood:=by rfl) (hne:=by simp) (hlen:=by simp) (hmax:=by simp [maxLen]) (hK:=fun b' c' cs' q1 q2 q3=>?_))|((with_reducible apply phE_intro);intro σq hq;have hqi:=has_of hq;clear hq)|(with_reducible exact isT_mk)|((with_reducible apply phC_ops);rfl;rfl))
  refine leafL ⟨.obj b' cs'::.obj pr (RC ls br x (rowV b' 0 1 c'))::σ,List.Perm.swap _ _ _,((List.Sublist.refl _).cons _).cons_cons _⟩ (leT_eq rfl) (hK (rowV b' 0 1 c') [.obj b' cs'] (RowR.row (l:=[EVA e]) (by simp at q2;omega) q2 q1 q3))
 | @row rb rc cs _ h0 hn hc ht =>
  rw [List.cons_append,List.nil_append]
  refine ACallF.dropL (ACallF_intro Tryz.func77 rfl ?_)
  simp only [Tryz.ntmps77]
  repeat' (first|( ((with_reducible refine AW_phS1 (id:=1) [0,1,2,3,5,6] (some 4) [([],some 7),([8,9],some 10),([],none)] mixed ?_ ?_);kernel_rfl))|( with_reducible refine phQ_mk (has1 (by first|(simp;done)|fail)) ?_)|simp only [WL,WM,Nat.reduceAdd,Nat.reduceSub,Nat.reduceEqDiff,true_and,T24,fR fl58_3,Tryz.results77]|(with_reducible first|refine andA (hb:=?_)|refine y_load (hK:=?_)|refine y_loadA (hK:=?_)|refine y_store (hK:=?_)|refine y_box (hK:=fun b=>?_)|refine y_bs (hK:=?_))|( refine y_app_row (hgood:=by rfl) (hcs:=hc) (hn:=hn) (hlen:=by first|(simp;omega)|fail) (hmax:=by first|(simp [maxLen];omega)|fail) (hK:=fun b' c' cs' q1 q2 q3=>?_))|((with_reducible apply phE_intro);intro σq hq;have hqi:=has_of hq;clear hq)|(with_reducible exact isT_mk)|((with_reducible apply phC_ops);rfl;rfl))
  have hr:RowR 6 (rowV b' 0 (m.length+1) c') (m++[EVA e]) [.obj b' cs']:=by
   have:=RowR.row (sz:=6) (b:=b') (c:=c') (cs:=cs') (l:=m++[EVA e]) (by have:m.length+1≤c':=q2;omega) (by simpa using q2) q1 (by rw [List.length_append,q3,ht];simp)
   rwa [List.length_append] at this
  exact leafL (sub_cons sub_rfl) (leT_eq rfl) (hK _ _ hr)
theorem zPut {pr br:Nat}{ls:List Ln}{x y:AV}{op:List Int}{l:List EvV}{ρ τ σ0:List Res}{e:EvV} [hS:Split σ pr ρ (RC ls br x y) τ] (hJ:JX x y op l τ σ0) (hl:l.length≤100000000000)
  (hK:∀ y' τ',JX x y' op (l++[e]) τ' σ0→K (.ret (.tup [])) (ρ ++ .obj pr (RC ls br x y')::τ')):ACallF κ Tryz.prog 77 [JP pr,EVA e] σ K:=by
 obtain ⟨ρx,ρy,h1,h2,hp⟩:=hJ
 have sw:∀ ρ':List Res,(ρ'++(ρx++σ0)).Perm (ρx++(ρ'++σ0)):=fun ρ'=>by
  rw [← List.append_assoc,← List.append_assoc]
  exact List.perm_append_comm.append_right _
 refine ACallF.at_ (b:=pr) (ACallF.perm (σ2:=.obj pr (RC ls br x y)::(ρy++(ρx++σ0))) (List.Perm.cons _ (hp.trans (sw ρy).symm)) (zPut0 h2 hl (fun y' ρ' h3=>?_)))
 exact hK y' _ ⟨ρx,ρ',h1,h3,sw ρ'⟩
theorem zPush0 {pr br:Nat}{ls:List Ln}{x y:AV}{l:List Int}{ρ:List Res}{e:Int} (hR:RowR 1 x (l.map I) ρ) (hl:l.length≤100000000000)
  (hK:∀ x' ρ',RowR 1 x' ((l++[e]).map I) ρ'→K (.ret (.tup [])) (.obj pr (RC ls br x' y)::(ρ'++σ))):ACallF κ Tryz.prog 97 [PO pr,I e] (.obj pr (RC ls br x y)::(ρ++σ)) K:=by
 rw [List.map_append] at hK
 generalize hm:l.map I=m at *
 have hml:m.length≤100000000000:=by rw [← hm,List.length_map];exact hl
 cases hR with
 | nil =>
  rw [List.nil_append]
  refine ACallF.dropL (ACallF_intro Tryz.func97 rfl ?_)
  simp only [Tryz.ntmps97]
  repeat' (first|simp only [WL,WM,Nat.reduceAdd,Nat.reduceSub,Nat.reduceEqDiff,true_and,T22,fR fl56_0,Tryz.results97]|(with_reducible first|refine andA (hb:=?_)|refine y_load (hK:=?_)|refine y_store (hK:=?_)|refine y_bs (hK:=?_))|( refine y_app_first (hgood:=by rfl) (hne:=by simp) (hlen:=by simp) (hmax:=by simp [maxLen]) (hK:=fun b' c' cs' q1 q2 q3=>?_)))
  exact leafL ⟨_,List.Perm.swap _ _ _,List.Sublist.refl _⟩ (leT_eq rfl) (hK (rowV b' 0 1 c') [.obj b' cs'] (RowR.row (l:=[I e]) (by simp at q2;omega) q2 q1 q3))
 | @row rb rc cs _ h0 hn hc ht =>
  rw [List.cons_append,List.nil_append]
  refine ACallF.dropL (ACallF_intro Tryz.func97 rfl ?_)
  simp only [Tryz.ntmps97]
  repeat' (first|simp only [WL,WM,Nat.reduceAdd,Nat.reduceSub,Nat.reduceEqDiff,true_and,T22,fR fl56_0,Tryz.results97]|(with_reducible first|refine andA (hb:=?_)|refine y_load (hK:=?_)|refine y_store (hK:=?_)|refine y_bs (hK:=?_))|( refine y_app_row (hgood:=by rfl) (hcs:=hc) (hn:=hn) (hlen:=by first|(simp;omega)|fail) (hmax:=by first|(simp [maxLen];omega)|fail) (hK:=fun b' c' cs' q1 q2 q3=>?_)))
  have hr:RowR 1 (rowV b' 0 (m.length+1) c') (m++[I e]) [.obj b' cs']:=by
   have:=RowR.row (sz:=1) (b:=b') (c:=c') (cs:=cs') (l:=m++[I e]) (by have:m.length+1≤c':=q2;omega) (by simpa using q2) q1 (by rw [List.length_append,q3,ht];simp)
   rwa [List.length_append] at this
  exact leafL sub_rfl (leT_eq rfl) (hK _ _ hr)
theorem zPush {pr br:Nat}{ls:List Ln}{x y:AV}{op:List Int}{l:List EvV}{ρ τ σ0:List Res}{e:Int} [hS:Split σ pr ρ (RC ls br x y) τ] (hJ:JX x y op l τ σ0) (hl:op.length≤1000000000)
  (hK:∀ x' τ',JX x' y (op++[e]) l τ' σ0→K (.ret (.tup [])) (ρ ++ .obj pr (RC ls br x' y)::τ')):ACallF κ Tryz.prog 97 [PO pr,I e] σ K:=by
 obtain ⟨ρx,ρy,h1,h2,hp⟩:=hJ
 refine ACallF.at_ (b:=pr) (ACallF.perm (σ2:=.obj pr (RC ls br x y)::(ρx++(ρy++σ0))) (List.Perm.cons _ hp) (zPush0 h1 (by omega) (fun x' ρ' h3=>?_)))
 exact hK x' _ ⟨ρ',ρy,h3,h2,List.Perm.refl _⟩
theorem zDrop0 {pr br:Nat}{ls:List Ln}{x y:AV}{l:List Int}{ρ:List Res}{e:Int} (hR:RowR 1 x ((l++[e]).map I) ρ) (hl:l.length≤100000000000)
  (hK:∀ x' ρ',RowR 1 x' (l.map I) ρ'→K (.ret (.tup [])) (.obj pr (RC ls br x' y)::(ρ'++σ))):ACallF κ Tryz.prog 98 [PO pr] (.obj pr (RC ls br x y)::(ρ++σ)) K:=by
 generalize hm2:(l++[e]).map I=m2 at *
 cases hR with
 | nil=>simp at hm2
 | @row rb rc cs _ h0 hn hc ht =>
  have h9:m2.length=l.length+1:=by rw [← hm2];simp
  rw [List.cons_append,List.nil_append,h9]
  have hn2:l.length+1≤rc:=by omega
  have hr:RowR 1 (rowV rb 0 l.length rc) (l.map I) [.obj rb cs]:=by
   have h8:cs.take l.length=l.map I:=by
    rw [← hm2,cellsI,List.map_append,List.length_append,List.length_map] at ht
    have h7:=congrArg (List.take l.length) ht
    rw [List.take_take,List.take_append_of_le_length (by simp)] at h7
    have h6:min l.length ((l.length+(List.map I [e]).length) * 1)=l.length:=by omega
    rw [h6,List.take_of_length_le (l:=l.map I) (by simp)] at h7
    exact h7
   have:=RowR.row (sz:=1) (b:=rb) (c:=rc) (cs:=cs) (l:=l.map I) h0 (by rw [List.length_map];omega) hc (by
    rw [cellsI,List.length_map,Nat.mul_one];exact h8)
   rwa [List.length_map] at this
  refine ACallF.dropL (ACallF_intro Tryz.func98 rfl ?_)
  simp only [Tryz.ntmps98]
  repeat' (first|simp only [WL,intF,WM,reduceCtorEq,WLb,Nat.reduceAdd,Nat.reduceSub,Nat.reduceEqDiff,true_and,T22,fR fl56_0,Tryz.results98]|simp (disch:=first|omega|(simp only [LN_];omega)) only [wrap_id]|(with_reducible first|refine andA (hb:=?_)|refine y_load (hK:=?_)|refine y_store (hK:=?_))|( refine y_cut l.length (by omega) (Nat.le_succ _) hn2 h0 ?_)|((with_reducible refine AW_drawM (id:=0) 14 mixed ?_ ?_);kernel_rfl)|(with_reducible refine dmQ_mk ?_))
  exact leafL sub_rfl (leT_eq rfl) (hK _ _ hr)
theorem zDrop {pr br:Nat}{ls:List Ln}{x y:AV}{op:List Int}{l:List EvV}{ρ τ σ0:List Res}{e:Int} [hS:Split σ pr ρ (RC ls br x y) τ] (hJ:JX x y (op++[e]) l τ σ0) (hl:op.length≤1000000000)
  (hK:∀ x' τ',JX x' y op l τ' σ0→K (.ret (.tup [])) (ρ ++ .obj pr (RC ls br x' y)::τ')):ACallF κ Tryz.prog 98 [PO pr] σ K:=by
 obtain ⟨ρx,ρy,h1,h2,hp⟩:=hJ
 refine ACallF.at_ (b:=pr) (ACallF.perm (σ2:=.obj pr (RC ls br x y)::(ρx++(ρy++σ0))) (List.Perm.cons _ hp) (zDrop0 h1 (by omega) (fun x' ρ' h3=>?_)))
 exact hK x' _ ⟨ρ',ρy,h3,h2,List.Perm.refl _⟩
end Go.Proofs.YthkabaiamcjdbaaGreat
/-
 The abstract layer,part L: elements of rows of one's own.
-/

namespace Go.Abs
section
variable {κ:Ctx} {P:Program} {σ:List Res} {K:AV→List Res→Prop}
theorem act_idx_row {t e:TypeId}{sz b o n c:Nat}{k:IntKind}{i:Int} (ht:slE P t=some e) (hs:szT P e=some sz) (h0:0≤i) (h1:i < n) (hK:K (.raw (.pointer (some ⟨b,o+i.toNat * sz,none⟩))) σ) :
  AAct κ P (.indexAddr t) [rowV b o n c,.raw (.int k i)] σ K:=by
 intro φ g w vs hR hvs
 obtain ⟨v,u,rfl,hv,hu⟩:=two_vs hvs
 cases hv.raw_eq
 cases hu.raw_eq
 refine ⟨_,w,g,_,σ, ?_,hR,GE.refl _ _,.raw _,hK⟩
 have hu:=und_of_slE ht
 simp [MA.sem,nth,Instr.indexAt,asIntOf,run_und hu,Instr.sureAddr,h0,h1,run_szT hs,Addr.add_lit]
end
section
variable {κ:Ctx} {P:Program} {all rest:List Oper} {Q:Exit→St→Prop} {d:Option Tmp} {t:List AV} {σ:List Res} {fr:Bool} {df:List Deferred} {dm:Bool}
theorem y_idx_row {ty e:TypeId}{sz by_ b o n c:Nat}{z:Value}{k:IntKind}{i:Int} [hS:TSl P ty e sz by_ z] (h0:0≤i:=by first|decide|omega) (h1:i < n:=by first|decide|omega) (hK:goK κ dm P all Q d rest ⟨t,σ,fr,df⟩ (.raw (.pointer (some ⟨b,o+i.toNat * sz,none⟩))) σ):actC κ dm P all Q d rest ⟨t,σ,fr,df⟩ (.indexAddr ty) [rowV b o n c,.raw (.int k i)] :=
 actC_q (act_idx_row hS.sl hS.hz h0 h1 isA_mk) hK
end
class TSix (P:Program) (t:TypeId):Prop where
 ex:∃ (f1 f2 f3 f4 f5 f6:Field) (k1 k5:IntKind),P.underlying t=some (.struct #[f1,f2,f3,f4,f5,f6])∧(f1.offset=0∧f2.offset=1∧f3.offset=2∧f4.offset=3∧f5.offset=4∧f6.offset=5) ∧
  (P.underlying f1.type=some (.int k1)∧P.underlying f2.type=some .string∧P.underlying f3.type=some .string∧P.underlying f4.type=some .string∧P.underlying f5.type=some (.int k5)∧P.underlying f6.type=some .bool) ∧
  (aggT P f1.type=some false∧aggT P f2.type=some false∧aggT P f3.type=some false∧aggT P f4.type=some false∧aggT P f5.type=some false∧aggT P f6.type=some false)
 stood:P.stoodInHeld t=false
 guard:P.eqGuardType P.depth t=false
section
variable {κ:Ctx} {P:Program} {all rest:List Oper} {Q:Exit→St→Prop} {d:Option Tmp} {t:List AV} {σ:List Res} {fr:Bool} {df:List Deferred}
theorem eqIn_str {ty:TypeId} (n:Nat) (h:P.underlying ty=some .string) {a c:ByteArray}{w:World}:(Op.equalIn (n+1) ty (.string a) (.string c)).run P w=.ok (a == c) w:=by
 simp [Op.equalIn,run_und h]
theorem eqIn_bool {ty:TypeId} (n:Nat) (h:P.underlying ty=some .bool) {a c:Bool}{w:World}:(Op.equalIn (n+1) ty (.bool a) (.bool c)).run P w=.ok (a == c) w:=by
 simp [Op.equalIn,run_und h]
theorem ba_refl (x:ByteArray):(x == x)=true:=by
 cases x with
 | mk d=>show (d == d)=true;exact beq_self_eq_true d
abbrev six (k:Int) (x t a:ByteArray) (s:Int) (f:Bool):Array Value:=#[.int .i64 k,.string x,.string t,.string a,.int .i64 s,.bool f]
theorem eqIn_six {ty:TypeId} (n:Nat) (h:TSix P ty) {k s:Int}{x t a:ByteArray}{f:Bool}{w:World}:(Op.equalIn (n+1+1) ty (.agg (six k x t a s f)) (.agg (six k x t a s f))).run P w=.ok true w:=by
 obtain ⟨f1,f2,f3,f4,f5,f6,k1,k5,h1,⟨o1,o2,o3,o4,o5,o6⟩,⟨u1,u2,u3,u4,u5,u6⟩,⟨g1,g2,g3,g4,g5,g6⟩⟩:=h.ex
 have hp:(program).run P w=.ok P w:=rfl
 have s1:=eqIn_int n u1 (a:=k) (c:=k) (w:=w)
 have s2:=eqIn_str n u2 (a:=x) (c:=x) (w:=w)
 have s3:=eqIn_str n u3 (a:=t) (c:=t) (w:=w)
 have s4:=eqIn_str n u4 (a:=a) (c:=a) (w:=w)
 have s5:=eqIn_int n u5 (a:=s) (c:=s) (w:=w)
 have s6:=eqIn_bool n u6 (a:=f) (c:=f) (w:=w)
 have p1:(part f1.type (six k x t a s f) f1.offset).run P w=.ok (.int .i64 k) w:=by simp [part,run_isAgg g1,o1]
 have p2:(part f2.type (six k x t a s f) f2.offset).run P w=.ok (.string x) w:=by simp [part,run_isAgg g2,o2]
 have p3:(part f3.type (six k x t a s f) f3.offset).run P w=.ok (.string t) w:=by simp [part,run_isAgg g3,o3]
 have p4:(part f4.type (six k x t a s f) f4.offset).run P w=.ok (.string a) w:=by simp [part,run_isAgg g4,o4]
 have p5:(part f5.type (six k x t a s f) f5.offset).run P w=.ok (.int .i64 s) w:=by simp [part,run_isAgg g5,o5]
 have p6:(part f6.type (six k x t a s f) f6.offset).run P w=.ok (.bool f) w:=by simp [part,run_isAgg g6,o6]
 rw [Op.equalIn]
 simp only [Sem.run_bind,run_und h1,Result.andThen_ok,hp,h.stood]
 simp only [beq_self_eq_true,ba_refl] at s1 s2 s3 s4 s5 s6
 generalize six k x t a s f=vs at *
 simp [s1,s2,s3,s4,s5,s6,p1,p2,p3,p4,p5,p6]
theorem act_neq_six {ty:TypeId}{k s:Int}{x tt a:ByteArray}{f:Bool} (h:TSix P ty):AAct κ P (.bin .neq ty) [.agg [I k,.raw (.string x),.raw (.string tt),.raw (.string a),I s,B f],.agg [I k,.raw (.string x),.raw (.string tt),.raw (.string a),I s,B f]] σ (isA (B false) σ):=by
 intro φ g w vs hR hvs
 obtain ⟨v,u,rfl,hu,hv⟩:=two_vs hvs
 cases agg_raw_inv (l:=[.int .i64 k,.string x,.string tt,.string a,.int .i64 s,.bool f]) hu
 cases agg_raw_inv (l:=[.int .i64 k,.string x,.string tt,.string a,.int .i64 s,.bool f]) hv
 refine ⟨.bool false,w,g,_,σ, ?_,hR,GE.refl _ _,.raw _,isA_mk⟩
 show (binOp .neq ty (.agg (six k x tt a s f)) (.agg (six k x tt a s f))).run P w=_
 have he:(Op.equal ty (.agg (six k x tt a s f)) (.agg (six k x tt a s f))).run P w=.ok true w:=by
  have:=eqIn_six (w:=w) (k:=k) (s:=s) (x:=x) (t:=tt) (a:=a) (f:=f) 9998 h
  simp only [Op.equal,show Op.maxDepth=9998+1+1 from rfl,this]
 simp only [binOp,Sem.run_bind,he]
 rfl
theorem y_neq_six {dm:Bool}{ty:TypeId}{k s:Int}{x tt a:ByteArray}{f:Bool} [h:TSix P ty] (hK:goK κ dm P all Q d rest ⟨t,σ,fr,df⟩ (B false) σ):binC κ dm P all Q d rest ⟨t,σ,fr,df⟩ .neq ty (.agg [I k,.raw (.string x),.raw (.string tt),.raw (.string a),I s,B f]) (.agg [I k,.raw (.string x),.raw (.string tt),.raw (.string a),I s,B f]) :=
 ⟨by unfold calmT;rw [h.guard];rfl,actC_q (act_neq_six h) hK⟩
end
theorem cells_at {sz:Nat} (hsz:0 < sz):∀ (l:List AV) (cs:List AV),(∀ (i:Nat) (x:AV),l[i]? = some x→x.cells.length=sz)→∀ (i:Nat) (x:AV),l[i]? = some x→((cellsL l++cs).drop (i * sz)).take sz=x.cells
 | [],_,_,i,x,h=>by simp at h
 | y::l,cs,hl,0,x,h=>by
  have hy:=hl 0 y rfl
  simp at h
  subst h
  show (((y.cells++cellsL l)++cs).drop (0 * sz)).take sz=_
  rw [Nat.zero_mul,List.drop_zero,List.append_assoc,← hy,List.take_left]
 | y::l,cs,hl,i+1,x,h=>by
  have hy:=hl 0 y rfl
  show (((y.cells++cellsL l)++cs).drop ((i+1) * sz)).take sz=_
  rw [List.append_assoc,Nat.add_mul,Nat.one_mul,Nat.add_comm (i * sz),← List.drop_drop,← hy,List.drop_left,hy]
  exact cells_at hsz l cs (fun j z hz=>hl (j+1) z (by simpa using hz)) i x (by simpa using h)
end Go.Abs
/-
 The abstract layer,part O: a row of one's own is appended to a row of one's own;structs of two texts.
-/

namespace Go.Abs
open Go.RowKit
section
variable {κ:Ctx} {P:Program} {σ:List Res} {K:AV→List Res→Prop}
theorem act_append_rowS {t e:TypeId}{sz:Nat}{b n c:Nat}{cs:List AV}{l2:List AV}{y:AV}{z:Value}{by_:Nat} (i:Nat) (h:σ[i]? = some (.obj b cs)) (he:slE P t=some e) (hs:szT P e=some sz) (hb:byT P e=some by_) (hz:zrT P e=some z) (hzs:z.cells.size=sz)
  (hpos:0 < sz) (hsrcR:∀ (φ:List Res) (g:Nat→Nat) (w:World),Rel κ g (φ++σ) w→∀ u,VR g w y u→∃ us2,FR g w sz l2 us2∧Src P sz t u l2.length us2 w) (hcs:cs.length=c * sz) (hn:n≤c) (hlen:(n+l2.length) * by_≤140737488355328) (hmax:n+l2.length≤maxLen)
  (hK:∀ b' c' cs',cs'.length=c' * sz→n+l2.length≤c'→cs'.take ((n+l2.length) * sz)=cs.take (n * sz)++cellsL l2→K (rowV b' 0 (n+l2.length) c') (σ.set i (.obj b' cs'))):AAct κ P (.append t) [rowV b 0 n c,y] σ K:=by
 intro φ g w vs hR hvs
 obtain ⟨v,u,rfl,hv,hu⟩:=two_vs hvs
 cases hv.raw_eq
 have ht:=und_of_slE he
 obtain ⟨inf,hi,hisz,hiby,hizr⟩:∃ inf,P.info? e=some inf∧inf.size=sz∧inf.bytes=by_∧inf.zero=some z:=by
  unfold szT byT zrT at *
  cases hi:P.info? e with
  | none=>simp [hi] at hs
  | some inf=>exact ⟨inf,rfl,by simpa [hi] using hs,by simpa [hi] using hb,by simpa [hi] using hz⟩
 obtain ⟨us2,hf2,hsrc⟩:=hsrcR φ g w hR u hu
 have hset:∀ r',(φ++σ.set i r').Perm (r'::(φ++σ.eraseIdx i)):=fun r'=>((perm_set h).symm.append_left φ).trans List.perm_middle
 have hR0:=hR.perm (perm_front (φ:=φ) (perm_get h))
 have hRd:Rel κ g (φ++σ.eraseIdx i) w:=hR0.sub (List.sublist_cons_self _ _)
 have hm63:((n+l2.length:Nat):Int)≤9223372036854775807:=by unfold maxLen at hmax;omega
 obtain ⟨hg0,cur,ety,hh,htr⟩:=hR.holds _ (mem_right h)
 have hcur:cur.size=c * sz:=by rw [htr.size,hcs]
 have hnc:n * sz≤c * sz:=Nat.mul_le_mul_right sz hn
 have hx2:TR g w (cellsL l2) us2.toArray:=hf2.cells hpos
 have hl2:(cellsL l2).length=l2.length * sz:=cellsL_len l2 hf2.el
 have hadd:(n+l2.length) * sz=n * sz+l2.length * sz:=Nat.add_mul _ _ _
 have hold:TR g w (cs.take (n * sz)) (cur.toList.take (n * sz)).toArray:=TR.of_get (by rw [List.length_take,List.length_take,Array.length_toList,hcur,hcs]) (fun k x hk=>by
  rw [List.getElem?_take] at hk ⊢
  split at hk
  ·rename_i hlt;rw [if_pos hlt];exact (show TR g w cs cur.toList.toArray by simpa using htr).get' k x hk
  ·cases hk)
 have holdlen:(cur.toList.take (n * sz)).length=n * sz:=by rw [List.length_take,Array.length_toList,hcur];omega
 have hcell:∀ (k:Nat) (x:Value),(cur.toList.take (n * sz))[k]? = some x→w.cell? ⟨b,k,none⟩=some x:=by
  intro k x hk
  rw [List.getElem?_take] at hk
  split at hk
  ·rw [Array.getElem?_toList] at hk
   simp [World.cell?,hh,hk]
  ·cases hk
 by_cases hroom:n+l2.length≤c
 ·have hmul:(n+l2.length) * sz≤c * sz:=Nat.mul_le_mul_right sz hroom
  have hrun:=run_append_room_src (P:=P) w t t t e inf ht hi b 0 n c u l2.length us2 (hisz ▸ hsrc) hroom (fun j hj=>by
    have hj':=hf2.len
    have:n * inf.size+j < cur.size:=by rw [hisz];omega
    simp [World.cell?,hh,this]) (fun j hj=>by simp [World.frozen?,hh])
  rw [hisz,Nat.zero_add] at hrun
  obtain ⟨arr',k1,k2,k3,k4,k5,k6,k7⟩:=setCells_at b ety us2 (n * sz) w cur hh
  generalize hw':w.setCells b (n * sz) us2=w' at *
  have hin:=fun j (hj:j < us2.length)=>World.cell?_setCells_in b us2 (n * sz) w (fun j hj=>by
    have hj':=hf2.len
    have:n * sz+j < cur.size:=by omega
    simp [World.cell?,hh,this]) j hj
  have hout:∀ o,o < n * sz→w'.cell? ⟨b,o,none⟩=w.cell? ⟨b,o,none⟩:=fun o ho=>by
   rw [← hw'];exact World.cell?_setCells_out b us2 _ w ⟨b,o,none⟩ (fun _ _=>.inl ho)
  have hge:GE g w g w':=by
   refine ⟨by rw [k3];exact Nat.le_refl _,fun _=>Nat.le_refl _,fun c' o ho=>?_,fun c'=>?_⟩
   ·by_cases ec:c'=b
    ·subst ec;rw [hg0] at ho;omega
    ·simp only [World.cell?];rw [k7 c' ec]
   ·by_cases ec:c'=b
    ·subst ec;simp only [blockLen,k1,hh];omega
    ·simp only [blockLen];rw [k7 c' ec];exact Nat.le_refl _
  have hcells:∀ o,w'.cell? ⟨b,o,none⟩=arr'[o]?:=fun o=>by simp [World.cell?,k1]
  have hnew:TR g w' (cs.take (n * sz)++cellsL l2++List.replicate (c * sz - (n+l2.length) * sz) .any) arr':=by
   refine ⟨by rw [k2,hcur,List.length_append,List.length_append,List.length_take,hl2,List.length_replicate,hcs];omega,fun k x hk=>?_⟩
   by_cases h1:k < n * sz
   ·rw [List.append_assoc,List.getElem?_append_left (by rw [List.length_take,hcs];omega)] at hk
    obtain ⟨y,hy1,hy2⟩:=hold.get' k x hk
    have:=hcell k y hy1
    rw [← hout k h1,hcells] at this
    rw [Array.getD_eq_getD_getElem?,this]
    exact hy2.mono hge
   ·by_cases h2:k < (n+l2.length) * sz
    ·rw [List.getElem?_append_left (by rw [List.length_append,List.length_take,hl2,hcs];omega),List.getElem?_append_right (by rw [List.length_take,hcs];omega),List.length_take,hcs,Nat.min_eq_left hnc] at hk
     obtain ⟨y,hy1,hy2⟩:=hx2.get' _ x hk
     have hlt:=lt_of_get hy1
     have h5:=hin (k - n * sz) hlt
     rw [hw',show n * sz+(k - n * sz)=k by omega,hcells] at h5
     rw [Array.getD_eq_getD_getElem?,h5]
     have:us2[k - n * sz]'hlt=y:=by rw [List.getElem?_eq_getElem hlt] at hy1;exact Option.some.inj hy1
     simp only [Option.getD_some]
     rw [this]
     exact hy2.mono hge
    ·rw [List.getElem?_append_right (by rw [List.length_append,List.length_take,hl2,hcs];omega),List.getElem?_replicate] at hk
     split at hk
     ·cases hk;exact .any _
     ·cases hk
  have hR2:Rel κ g (.obj b (cs.take (n * sz)++cellsL l2++List.replicate (c * sz - (n+l2.length) * sz) .any)::(φ++σ.eraseIdx i)) w' :=
   hR0.change hge k4 k5 k6 k3 k7 (fun _ _=>rfl) rfl rfl ⟨hg0,arr',ety,k1,hnew⟩
  refine ⟨_,w',g,_,_,hrun,hR2.perm (hset _).symm,hge,.raw _,hK b c _ ?_ hroom ?_⟩
  ·rw [List.length_append,List.length_append,List.length_take,hl2,List.length_replicate,hcs];omega
  ·rw [List.take_append_of_le_length (by rw [List.length_append,List.length_take,hl2,hcs];omega)]
   exact List.take_of_length_le (by rw [List.length_append,List.length_take,hl2,hcs];omega)
 ·have hrun:=run_append_grow_src (P:=P) w t t t e inf z ht hi hizr (some ⟨b,0,none⟩) n c (cur.toList.take (n * sz)) (run_firstCells_some w.drew inf.size _ _ _ _ (cur.toList.take (n * sz)) (by rw [hisz];exact holdlen) (fun j u hj=>by rw [Addr.add_lit,Nat.zero_add];exact hcell j u hj)) u l2.length us2 (hisz ▸ hsrc) (by omega) hm63 (by rw [hiby];exact growslice_fits (by omega) hlen)
  have hcapge:=grownCap_ge w (n+l2.length) c e
  have hcapmax:=grownCap_le_maxLen w (n+l2.length) c e hmax
  have hRdr:Rel κ g (φ++σ.eraseIdx i) w.drew:=hRd.of_heap rfl rfl rfl rfl
  have hmono:GE g w g w.drew:=GE.of_heap (g:=g) (w:=w) (w':=w.drew) rfl
  generalize hcap:grownCap w (n+l2.length) c e=cap at *
  have hcapsz:(n+l2.length) * sz≤cap * sz:=Nat.mul_le_mul_right sz hcapge
  have hzl:(Builtin.zeroCells z.cells (cap - (n+l2.length))).size=cap * sz - (n+l2.length) * sz:=by rw [size_zeroCells,hzs,Nat.sub_mul]
  have hnew:TR g w.drew (cs.take (n * sz)++cellsL l2++List.replicate (cap * sz - (n+l2.length) * sz) .any) ((cur.toList.take (n * sz)++us2).toArray++Builtin.zeroCells z.cells (cap - (n+l2.length))):=by
   have h1:TR g w.drew (cs.take (n * sz)++cellsL l2) (cur.toList.take (n * sz)++us2).toArray:=by
    have:=(hold.append hx2).mono hmono
    simpa using this
   refine h1.append ⟨by rw [hzl,List.length_replicate],fun k x hk=>?_⟩
   rw [List.getElem?_replicate] at hk
   split at hk
   ·cases hk;exact .any _
   ·cases hk
  obtain ⟨b1,b2⟩:=hRdr.new_obj e hnew
  refine ⟨_,_,g,_,_,hrun,(b1.perm (hset _).symm),hmono.trans b2,.raw _,hK _ cap _ ?_ hcapge ?_⟩
  ·rw [List.length_append,List.length_append,List.length_take,hl2,List.length_replicate,hcs];omega
  ·rw [List.take_append_of_le_length (by rw [List.length_append,List.length_take,hl2,hcs];omega)]
   exact List.take_of_length_le (by rw [List.length_append,List.length_take,hl2,hcs];omega)
theorem act_append_firstS {t e:TypeId}{sz:Nat}{l2:List AV}{y:AV}{z:Value}{by_:Nat} (he:slE P t=some e) (hs:szT P e=some sz) (hb:byT P e=some by_) (hz:zrT P e=some z) (hzs:z.cells.size=sz)
  (hpos:0 < sz) (hsrcR:∀ (φ:List Res) (g:Nat→Nat) (w:World),Rel κ g (φ++σ) w→∀ u,VR g w y u→∃ us2,FR g w sz l2 us2∧Src P sz t u l2.length us2 w) (hne:0 < l2.length) (hlen:l2.length * by_≤140737488355328) (hmax:l2.length≤maxLen)
  (hK:∀ b' c' cs',cs'.length=c' * sz→l2.length≤c'→cs'.take (l2.length * sz)=cellsL l2→K (rowV b' 0 l2.length c') (.obj b' cs'::σ)):AAct κ P (.append t) [nilS,y] σ K:=by
 intro φ g w vs hR hvs
 obtain ⟨v,u,rfl,hv,hu⟩:=two_vs hvs
 cases hv.raw_eq
 have ht:=und_of_slE he
 obtain ⟨inf,hi,hisz,hiby,hizr⟩:∃ inf,P.info? e=some inf∧inf.size=sz∧inf.bytes=by_∧inf.zero=some z:=by
  unfold szT byT zrT at *
  cases hi:P.info? e with
  | none=>simp [hi] at hs
  | some inf=>exact ⟨inf,rfl,by simpa [hi] using hs,by simpa [hi] using hb,by simpa [hi] using hz⟩
 obtain ⟨us2,hf2,hsrc⟩:=hsrcR φ g w hR u hu
 have hx2:TR g w (cellsL l2) us2.toArray:=hf2.cells hpos
 have hl2:(cellsL l2).length=l2.length * sz:=cellsL_len l2 hf2.el
 have hm63:((0+l2.length:Nat):Int)≤9223372036854775807:=by unfold maxLen at hmax;omega
 have hrun:=run_append_grow_src (P:=P) w t t t e inf z ht hi hizr none 0 0 [] (by simpa using run_firstCells_none w.drew inf.size 0 0 0) u l2.length us2 (hisz ▸ hsrc) (by omega) hm63 (by rw [hiby];exact growslice_fits (by omega) (by simpa using hlen))
 have hcapge:=grownCap_ge w (0+l2.length) 0 e
 have hcapmax:=grownCap_le_maxLen w (0+l2.length) 0 e (by simpa using hmax)
 have hRdr:Rel κ g (φ++σ) w.drew:=hR.of_heap rfl rfl rfl rfl
 have hmono:GE g w g w.drew:=GE.of_heap (g:=g) (w:=w) (w':=w.drew) rfl
 generalize hcap:grownCap w (0+l2.length) 0 e=cap at *
 have hcapsz:l2.length * sz≤cap * sz:=Nat.mul_le_mul_right sz (by omega)
 have hzl:(Builtin.zeroCells z.cells (cap - (0+l2.length))).size=cap * sz - l2.length * sz:=by rw [size_zeroCells,hzs,Nat.sub_mul,Nat.zero_add]
 have hnew:TR g w.drew (cellsL l2++List.replicate (cap * sz - l2.length * sz) AV.any) (([]++us2).toArray++Builtin.zeroCells z.cells (cap - (0+l2.length))):=by
  have h1:TR g w.drew (cellsL l2) ([]++us2).toArray:=by simpa using hx2.mono hmono
  refine h1.append ⟨by rw [hzl,List.length_replicate],fun k x hk=>?_⟩
  rw [List.getElem?_replicate] at hk
  split at hk
  ·cases hk;exact .any _
  ·cases hk
 obtain ⟨b1,b2⟩:=hRdr.new_obj e hnew
 have hK2:=hK w.drew.heap.size cap (cellsL l2++List.replicate (cap * sz - l2.length * sz) AV.any) (by rw [List.length_append,hl2,List.length_replicate];omega) (by omega) (by rw [List.take_append_of_le_length (by omega)];exact List.take_of_length_le (by omega))
 have hv':(.slice (some ⟨w.drew.heap.size,0,none⟩) (0+l2.length) cap:Value)=.slice (some ⟨w.drew.heap.size,0,none⟩) l2.length cap:=by rw [Nat.zero_add]
 exact ⟨_,_,g,rowV w.drew.heap.size 0 (0+l2.length) cap,_,hrun,b1.perm List.perm_middle.symm,hmono.trans b2,.raw _,by rw [Nat.zero_add];exact hK2⟩
end
section
variable {κ:Ctx} {P:Program} {all rest:List Oper} {Q:Exit→St→Prop} {d:Option Tmp} {t:List AV} {σ:List Res} {fr:Bool} {df:List Deferred}
theorem y_app_firstS {ty e:TypeId}{sz by_ j b o n c:Nat}{z:Value}{cs:List AV} (l2:List AV) [hS:TSl P ty e sz by_ z] [hj:Hold σ b j cs] (hn:l2.length=n) (hel:∀ (i:Nat) (x:AV),l2[i]? = some x→x.cells.length=sz) (hcs:(cs.drop o).take (n * sz)=cellsL l2) (hgood:goodL l2=true) (hne:0 < l2.length) (hlen:l2.length * by_≤140737488355328) (hmax:l2.length≤maxLen)
  (hK:∀ b' c' cs',cs'.length=c' * sz→l2.length≤c'→cs'.take (l2.length * sz)=cellsL l2→goK κ false P all Q d rest ⟨t,σ,fr,df⟩ (rowV b' 0 l2.length c') (.obj b' cs'::σ)):actC κ false P all Q d rest ⟨t,σ,fr,df⟩ (.append ty) [nilS,rowV b o n c] :=
 actC_mk (act_append_firstS hS.sl hS.hz hS.by' hS.zr hS.one hS.pos (fun φ g w hR u hu=>src_row hj.get (und_of_slE hS.sl) hS.pos hn hel hcs hgood hR u hu) hne hlen hmax hK)
theorem y_app_rowS {ty e:TypeId}{sz by_ b1 n1 c1 i j b o n c:Nat}{z:Value}{cs1 cs:List AV} (l2:List AV) [hS:TSl P ty e sz by_ z] [hH:Hold σ b1 i cs1] [hj:Hold σ b j cs] (hn:l2.length=n) (hel:∀ (i:Nat) (x:AV),l2[i]? = some x→x.cells.length=sz) (hcs:(cs.drop o).take (n * sz)=cellsL l2) (hgood:goodL l2=true) (hcs1:cs1.length=c1 * sz) (hn1:n1≤c1) (hlen:(n1+l2.length) * by_≤140737488355328) (hmax:n1+l2.length≤maxLen)
  (hK:∀ b' c' cs',cs'.length=c' * sz→n1+l2.length≤c'→cs'.take ((n1+l2.length) * sz)=cs1.take (n1 * sz)++cellsL l2→goK κ false P all Q d rest ⟨t,σ,fr,df⟩ (rowV b' 0 (n1+l2.length) c') (σ.set i (.obj b' cs'))):actC κ false P all Q d rest ⟨t,σ,fr,df⟩ (.append ty) [rowV b1 0 n1 c1,rowV b o n c] :=
 actC_mk (act_append_rowS i hH.get hS.sl hS.hz hS.by' hS.zr hS.one hS.pos (fun φ g w hR u hu=>src_row hj.get (und_of_slE hS.sl) hS.pos hn hel hcs hgood hR u hu) hcs1 hn1 hlen hmax hK)
end
theorem mkFuncC_4 {κ:Ctx}{P:Program}{dm:Bool}{all rest:List Oper}{Q:Exit→St→Prop}{d:Option Tmp}{t:List AV}{σ:List Res}{fr:Bool}{df:List Deferred}{f:Fn}{u w x y:Value}:mkFuncC κ dm P all Q d rest ⟨t,σ,fr,df⟩ f [] [.raw u,.raw w,.raw x,.raw y]=opsR κ dm P all Q rest ⟨setT t d (.raw (.func f #[] #[u,w,x,y])),σ,fr,df⟩:=propext Iff.rfl
class TTwoS (P:Program) (t:TypeId):Prop where
 ex : ∃ (f1 f2 : Field), P.underlying t = some (.struct #[f1, f2]) ∧ f1.name ≠ "_" ∧ f2.name ≠ "_" ∧ f1.offset = 0 ∧ f2.offset = 1 ∧ P.underlying f1.type = some .string ∧ P.underlying f2.type = some .string ∧ aggT P f1.type = some false ∧ aggT P f2.type = some false
 stood:P.stoodInHeld t=false
 guard:P.eqGuardType P.depth t=false
section
variable {κ:Ctx} {P:Program} {all rest:List Oper} {Q:Exit→St→Prop} {d:Option Tmp} {t:List AV} {σ:List Res} {fr:Bool} {df:List Deferred}
theorem eqIn_twoS {ty:TypeId} (n:Nat) (h:TTwoS P ty) {a b c e:ByteArray}{w:World}:(Op.equalIn (n+1+1) ty (.agg #[.string a,.string b]) (.agg #[.string c,.string e])).run P w=.ok (a == c && b == e) w:=by
 obtain ⟨f1,f2,h1,h2,h3,h4,h5,h6,h7,h8,h9⟩:=h.ex
 have hp:(program).run P w=.ok P w:=rfl
 have s1:=eqIn_str n h6 (a:=a) (c:=c) (w:=w)
 have s2:=eqIn_str n h7 (a:=b) (c:=e) (w:=w)
 have p1:∀ x y:ByteArray,(part f1.type #[.string x,.string y] f1.offset).run P w=.ok (.string x) w:=fun x y=>by simp [part,run_isAgg h8,h4]
 have p2:∀ x y:ByteArray,(part f2.type #[.string x,.string y] f2.offset).run P w=.ok (.string y) w:=fun x y=>by simp [part,run_isAgg h9,h5]
 rw [Op.equalIn]
 simp only [Sem.run_bind,run_und h1,Result.andThen_ok,hp,h.stood]
 cases e1:(a == c)<;>cases e2:(b == e)<;>simp [h2,h3,s1,s2,p1,p2,e1,e2]
theorem equal_twoS {ty:TypeId} (h:TTwoS P ty) {a b c e:ByteArray}{w:World}:(Op.equal ty (.agg #[.string a,.string b]) (.agg #[.string c,.string e])).run P w=.ok (a == c && b == e) w:=by
 have:=eqIn_twoS (w:=w) (a:=a) (b:=b) (c:=c) (e:=e) 9998 h
 simp only [Op.equal,show Op.maxDepth=9998+1+1 from rfl,this]
theorem y_eq_twoS {ty:TypeId}{a b c e:ByteArray} [h:TTwoS P ty] (hK:goK κ false P all Q d rest ⟨t,σ,fr,df⟩ (B (a == c && b == e)) σ):binC κ false P all Q d rest ⟨t,σ,fr,df⟩ .eql ty (.agg [.raw (.string a),.raw (.string b)]) (.agg [.raw (.string c),.raw (.string e)]):=by
 refine ⟨by unfold calmT;rw [h.guard];rfl, ?_⟩
 show AAct κ P (.bin .eql ty) [.agg [.raw (.string a),.raw (.string b)],.agg [.raw (.string c),.raw (.string e)]] σ _
 intro φ g w vs hR hvs
 obtain ⟨v,u,rfl,hu,hv⟩:=two_vs hvs
 cases agg_raw_inv (l:=[.string a,.string b]) hu
 cases agg_raw_inv (l:=[.string c,.string e]) hv
 refine ⟨.bool (a == c && b == e),w,g,_,σ, ?_,hR,GE.refl _ _,.raw _,hK⟩
 show (binOp .eql ty (.agg #[.string a,.string b]) (.agg #[.string c,.string e])).run P w=_
 simp only [binOp,Sem.run_bind,equal_twoS h]
 rfl
theorem y_ne_twoS {ty:TypeId}{a b c e:ByteArray} [h:TTwoS P ty] (hK:goK κ false P all Q d rest ⟨t,σ,fr,df⟩ (B (!(a == c && b == e))) σ):binC κ false P all Q d rest ⟨t,σ,fr,df⟩ .neq ty (.agg [.raw (.string a),.raw (.string b)]) (.agg [.raw (.string c),.raw (.string e)]):=by
 refine ⟨by unfold calmT;rw [h.guard];rfl, ?_⟩
 show AAct κ P (.bin .neq ty) [.agg [.raw (.string a),.raw (.string b)],.agg [.raw (.string c),.raw (.string e)]] σ _
 intro φ g w vs hR hvs
 obtain ⟨v,u,rfl,hu,hv⟩:=two_vs hvs
 cases agg_raw_inv (l:=[.string a,.string b]) hu
 cases agg_raw_inv (l:=[.string c,.string e]) hv
 refine ⟨.bool (!(a == c && b == e)),w,g,_,σ, ?_,hR,GE.refl _ _,.raw _,hK⟩
 show (binOp .neq ty (.agg #[.string a,.string b]) (.agg #[.string c,.string e])).run P w=_
 simp only [binOp,Sem.run_bind,equal_twoS h]
 rfl
end
end Go.Abs
/-
 Walks: chapter 13,what a reader tells of properties,and of nodes that stand in no brackets.
-/



namespace Go.Proofs.YthkabaiamcjdbaaGreat
open Go.Abs
variable {κ:Ctx} {σ:List Res} {K:Ret→List Res→Prop} {o o':Option (Option (Nat × Nat))}
abbrev TPA (t:TP):AV:=.agg [.raw (.string t.1),.raw (.string t.2)]
abbrev PT (b:Nat):Value:=.pointer (some ⟨b,0,none⟩)
theorem jTrRec0 {be:Nat}{KD:FrameMode→List Res→Prop} (hK:KD .returning σ):ACallD κ Tryz.prog 86 [.raw (PT be)] σ .returning KD:=by
 refine ACallD_intro Tryz.func86 rfl ?_ (by simp [Tryz.ntmps86])
 simp only [Tryz.ntmps86]
 repeat' (first|with_reducible refine cut_at (id:=1) ?_|simp only [WL,WM,Nat.reduceAdd,Nat.reduceSub])
 refine AW_seqA (AW_nilcmp (l:=[_]) false Tryz.underlying20 ?_)
 repeat' (first|simp only [WL,WM,and_true,Bool.false_eq_true,nilQ_n])
 refine ⟨⟨.nilIface,rfl,.inl rfl⟩, ?_⟩
 repeat' (first|with_reducible refine AW_runCond ?_|simp only [WL,WM])
 exact ⟨rfl,rfl,rfl,hK⟩
theorem jTrRec1 {be:Nat}{e:Int}{KD:FrameMode→List Res→Prop} (hK:∀ b,KD (recM (panW e)) (.obj b [I e]::.obj be [I e]::σ)):ACallD κ Tryz.prog 86 [.raw (PT be)] (.obj be [I 0]::σ) (panW e) KD:=by
 refine ACallD_intro Tryz.func86 rfl ?_ (by simp [Tryz.ntmps86])
 simp only [Tryz.ntmps86,show recV (panW e)=.iface 135 (.agg #[.int .i64 e]) from rfl]
 repeat' (first|with_reducible refine cut_at (id:=1) ?_|simp only [WL,WM,Nat.reduceAdd,Nat.reduceSub])
 refine AW_seqA (AW_nilcmp (l:=[_]) true Tryz.underlying20 ?_)
 repeat' (first|simp only [WL,WM,reduceCtorEq,and_true,nilQ_n]|with_reducible refine andA (hb:=?_))
 repeat' (first|( with_reducible refine y_assert1 ?_)|with_reducible refine AW_runCond ?_|simp only [WL,WM,Nat.reduceAdd,Nat.reduceLT,Nat.reduceEqDiff,Bool.not_true,true_and,T28,fR fl135_0]|(with_reducible first|refine andA (hb:=?_)|refine y_load (hK:=?_)|refine y_store (hK:=?_)|refine y_storeA (hK:=?_)|refine y_new (hK:=fun b=>?_)))
 exact ⟨rfl,rfl,rfl,hK _⟩
theorem jTrIn {be bt bjj bj b6 bc:Nat}{la:List Ln}{c:Int}{C6:List AV}{τ:List Res} (hs:Small la) (hp:PlW (0,c))
  (h1:∀ v q ok,traitsF la (-1) (0,c)=.ok (v,q,ok)→K (.ret (.tup [])) (.obj be [I 0]::.obj bt (TrC v)::.obj bjj [JP bj]::.obj bj (JC la (-1) true 0 nilS nilS)::.obj b6 C6::.obj bc [I c]::τ))
  (h2:∀ e,traitsF la (-1) (0,c)=.error e→K (.ret (.tup [])) (.obj be [I e]::.obj bt (TrC tr0)::.obj bjj [JP bj]::.obj bj (JC la (-1) true 0 nilS nilS)::.obj b6 C6::.obj bc [I c]::τ)) :
  ACallF κ Tryz.prog 85 [.raw (PT be),.raw (PT bjj),.raw (PT bc),.raw (PT bt)] (.obj be [I 0]::.obj bt (TrC tr0)::.obj bjj [JP bj]::.obj bj (JC la (-1) true 0 nilS nilS)::.obj b6 C6::.obj bc [I c]::τ) K:=by
 refine ACallF.dropL (ACallF_introD (cap:=fun _=>True) (fd:=86) Tryz.func85 rfl cok86 ?_)
 simp only [Tryz.ntmps85]
 refine AW_seqA (AW_defer (l:=[_]) 86 [PT be] ?_)
 repeat' (first|simp only [WL,WM,Nat.reduceAdd,Nat.reduceSub,true_and,deferQ_n])
 cases ht:traitsF la (-1) (0,c) with
 | error e =>
  repeat' (first|with_reducible refine AW_runReg ?_|simp only [WL,WM,Nat.reduceAdd,true_and,cok87]|(with_reducible first|refine y_load (hK:=?_)|refine y_build (hK:=?_)|refine cD (jTraitsEr (ls:=la) (p:=(0,c)) ht hs hp ?_)))
  refine ⟨[PT be],rfl,rfl,jTrRec1 (fun bx=>⟨rfl, ?_⟩)⟩
  rw [resK_eq]
  repeat' (first|simp only [WL,WM,Tryz.results85])
  exact leafL (sub_cons sub_rfl) (leT_eq rfl) (h2 _ ht)
 | ok r =>
  obtain ⟨v,q,ok⟩:=r
  repeat' (first|with_reducible refine AW_runReg ?_|simp only [WL,WM,Nat.reduceAdd,Nat.reduceLT,true_and,cok87]|(with_reducible first|refine y_load (hK:=?_)|refine y_storeA (hK:=?_)|refine y_build (hK:=?_)|refine cD (jTraitsOk (ls:=la) (p:=(0,c)) ht hs hp ?_)))
  refine ⟨[PT be],rfl,rfl,jTrRec0 ⟨rfl, ?_⟩⟩
  rw [resK_eq]
  repeat' (first|simp only [WL,WM,Tryz.results85])
  exact leafL sub_rfl (leT_eq rfl) (h1 _ _ _ ht)
theorem jTraitsR {br ix:Nat}{ls:List Ln}{i c:Int} [hR:Hold σ br ix [SL none ls]] (hs:Small ls) (hc:In64 c) (h0:0≤c)
  (h1:∀ t c2,propsP ls i c=.ok (t,c2)→K (.ret (.tup [TPA t,I c2,I 0])) σ) (h2:∀ e,propsP ls i c=.error e→K (.ret (.tup [TPA tp0,I c,I e])) σ):ACallF κ Tryz.prog 67 [JP br,I i,I c] σ K:=by
 have hl:=hs.1
 have hsa:=alone_small (i:=i) hs
 generalize he:aloneF ls i=la at *
 have hp:PlW ((0:Int),c):=PlW.of0 hc h0
 cases ht:traitsF la (-1) (0,c) with
 | error e =>
  refine ACallF.dropL (ACallF_intro Tryz.func67 rfl ?_)
  simp only [Tryz.ntmps67]
  repeat' (first|simp only [WL,WM,Nat.reduceAdd,Nat.reduceSub,Nat.reduceEqDiff,true_and,T3,T9,T31,T131,fR fl77_0,fR fl131_1,fR fl133_0,fR fl133_1,fR fl133_2,cok84,cok85,cok88,Tryz.results67,cok85,mkFuncC_4]|(with_reducible first|refine andA (hb:=?_)|refine y_load (hK:=?_)|refine y_loadA (hK:=?_)|refine y_store (hK:=?_)|refine y_storeA (hK:=?_)|refine y_box (hK:=fun b=>?_)|refine y_new (hK:=fun b=>?_)|refine y_build (hK:=?_)|refine cD (jAloneE he (by omega) (fun bj=>?_))|refine callD_mk (jTrIn hsa hp (fun v q ok h=>by rw [ht] at h;cases h) (fun e' h=>?_))|refine cD (jAny (v:=tr0) ?_))|((with_reducible refine resL_id ?_);apply res_ctt (hf:=Tryz.results67);exact y_load2)|((with_reducible refine AW_phS2 (id:=7) [0,1,2,3,4,5,6,7,8] (some 9) [([10,11],none)] mixed ?_ ?_);kernel_rfl)|((with_reducible apply phE_intro);intro σq hq;have hqi:=has_of hq;clear hq)|(with_reducible exact isT_mk)|((with_reducible apply phC_ops);rfl;rfl)|(with_reducible refine phQ_mk (has2 (by first|(simp;done)|fail) (by first|(simp;done)|fail)) ?_)|((with_reducible first|refine grd_cases (fun h=>?_) (fun h=>?_)|refine condC_split (fun h=>?_) (fun h=>?_))<;>(try simp only [h])<;>(try simp only [NR_,NRb] at h)))
  all_goals first
   | exact leafL subA (leT_eq rfl) (h2 _ (by unfold propsP;rw [he,ht];cases ht.symm.trans (by assumption);rfl))
   | exact absurd (by assumption:anyT tr0=true) (by rw [anyT_0];exact Bool.false_ne_true)
 | ok r =>
  obtain ⟨v,q,ok⟩:=r
  refine ACallF.dropL (ACallF_intro Tryz.func67 rfl ?_)
  simp only [Tryz.ntmps67]
  repeat' (first|simp only [WL,WM,Nat.reduceAdd,Nat.reduceSub,Nat.reduceEqDiff,true_and,T3,T9,T31,T131,fR fl77_0,fR fl131_1,fR fl133_0,fR fl133_1,fR fl133_2,cok84,cok85,cok88,Tryz.results67,cok85,mkFuncC_4]|(with_reducible first|refine andA (hb:=?_)|refine y_load (hK:=?_)|refine y_loadA (hK:=?_)|refine y_store (hK:=?_)|refine y_storeA (hK:=?_)|refine y_box (hK:=fun b=>?_)|refine y_new (hK:=fun b=>?_)|refine y_build (hK:=?_)|refine cD (jAloneE he (by omega) (fun bj=>?_))|refine callD_mk (jTrIn hsa hp (fun v' q' ok' h=>?_) (fun e' h=>by rw [ht] at h;cases h))|refine cD (jAny (v:=v') ?_))|((with_reducible refine resL_id ?_);apply res_ctt (hf:=Tryz.results67);exact y_load2)|((with_reducible refine AW_phS2 (id:=7) [0,1,2,3,4,5,6,7,8] (some 9) [([10,11],none)] mixed ?_ ?_);kernel_rfl)|((with_reducible apply phE_intro);intro σq hq;have hqi:=has_of hq;clear hq)|(with_reducible exact isT_mk)|((with_reducible apply phC_ops);rfl;rfl)|(with_reducible refine phQ_mk (has2 (by first|(simp;done)|fail) (by first|(simp;done)|fail)) ?_)|((with_reducible first|refine grd_cases (fun h=>?_) (fun h=>?_)|refine condC_split (fun h=>?_) (fun h=>?_))<;>(try simp only [h])<;>(try simp only [NR_,NRb] at h)))
  all_goals
   cases ht.symm.trans (by assumption)
   first
   | exact leafL subA (leT_eq rfl) (h1 (v.a,v.t) _ (by unfold propsP;rw [he,ht];dsimp only;rw [if_pos (by assumption)]))
   | exact leafL subA (leT_eq rfl) (h1 (v.a,v.t) _ (by unfold propsP;rw [he,ht];dsimp only;rw [if_neg (by rw [(by assumption:anyT v=false)];exact Bool.false_ne_true)]))
theorem jBlockR {br ix:Nat}{ls:List Ln}{i k n d:Int} [hR:Hold σ br ix [SL none ls]] (hs:Small ls) (hd:0≤d∧d≤1000000000) (hp64:In64 i∧In64 k) (hn:In64 n)
  (h0:∀ bj,(i < 0∨(ls.length:Int)≤i∨k < 0)→K (.ret (.tup [nilS,I 0,I 0,I 2])) (.obj bj (JC ls n true d nilS nilS)::σ))
  (h1:∀ ev e t,wholeF ls n d true (i,k)=.ok (ev,e,t)→∀ bj x' y' τ',JX x' y' [] ev τ' σ→K (.ret (.tup [y',I e.1,I e.2,I 0])) (.obj bj (JC ls n true d x' y')::τ'))
  (h2:∀ e,wholeF ls n d true (i,k)=.error e→∀ bj x' y' op' l' τ',JX x' y' op' l' τ' σ→K (.ret (.tup [nilS,I 0,I 0,I e])) (.obj bj (JC ls n true d x' y')::τ')):ACallF κ Tryz.prog 90 [JP br,I i,I k,I n,I d] σ K:=by
 refine ACallF.dropL (ACallF_intro Tryz.func90 rfl ?_)
 simp only [Tryz.ntmps90]
 repeat' (first|simp only [WL,WM,Nat.reduceAdd,Nat.reduceSub,Nat.reduceLT,Nat.reduceEqDiff,true_and,T31,fR fl77_0,cok107,Tryz.results90]|(with_reducible first|refine andA (hb:=?_)|refine y_load (hK:=?_)|refine y_box (hK:=fun b=>?_)|refine y_build (hK:=?_)|refine callD_mk (jTold0 (p:=(i,k)) hs hd hp64 (fun hc=>?_) (fun ev e t hp hw x' y' τ' hJ'=>?_) (fun e hp hw x' y' op' l' τ' hJ'=>?_))))
 ·exact leafL sub_rfl (leT_eq rfl) (h0 _ hc)
 ·exact leafL sub_rfl (leT_eq rfl) (h1 _ _ _ hw _ _ _ _ hJ')
 ·exact leafL sub_rfl (leT_eq rfl) (h2 _ hw _ _ _ _ _ _ hJ')
theorem zPutV {pr br:Nat}{ls:List Ln}{x y:AV}{op:List Int}{l:List EvV}{ρ τ σ0:List Res}{k s:Int}{ex et ea:ByteArray}{f:Bool} [hS:Split σ pr ρ (RC ls br x y) τ] (hJ:JX x y op l τ σ0) (hl:l.length≤100000000000)
  (hK:∀ y' τ',JX x y' op (l++[⟨k,ex,et,ea,s,f⟩]) τ' σ0→K (.ret (.tup [])) (ρ ++ .obj pr (RC ls br x y')::τ')):ACallF κ Tryz.prog 77 [JP pr,.agg [I k,.raw (.string ex),.raw (.string et),.raw (.string ea),I s,B f]] σ K :=
 zPut (e:=⟨k,ex,et,ea,s,f⟩) hJ hl hK
theorem zBegin0 {pr br:Nat}{ls:List Ln}{x y:AV}{op:List Int}{l:List EvV}{τ σ0:List Res}{k:Int}{t:TP} (hJ:JX x y op l τ σ0) (hl:op.length≤1000) (hll:l.length≤100000000000)
  (h1:op.length < 200→∀ x' y' τ',JX x' y' (op++[k]) (l++[openP k t]) τ' σ0→K (.ret (.tup [])) (.obj pr (RC ls br x' y')::τ')) (h2:200≤op.length→K (.pan (wrongP 8)) (.obj pr (RC ls br x y)::τ)):ACallF κ Tryz.prog 78 [JP pr,I k,TPA t] (.obj pr (RC ls br x y)::τ) K:=by
 obtain ⟨ρx,hx⟩:=hJ.row
 have hxl:(op.map I).length=op.length:=List.length_map _
 generalize op.map I=m at hx hxl
 rcases Nat.lt_or_ge op.length 200 with hb|hb
 ·skip
  refine ACallF.dropL (ACallF_intro Tryz.func78 rfl ?_)
  simp only [Tryz.ntmps78]
  repeat' (first|( with_reducible refine y_len_row hx ?_)|simp only [WL,intF,WM,reduceCtorEq,WLb,Nat.reduceAdd,Nat.reduceSub,Nat.reduceEqDiff,true_and,T9,T22,T56,fR fl56_0,fR fl58_2,fR fl99_0,fR fl99_1,cok52,cok77,cok97,Tryz.results78]|(with_reducible first|refine andA (hb:=?_)|refine y_load (hK:=?_)|refine y_box (hK:=fun b=>?_)|refine y_build (hK:=?_)|refine callD_mk (zPutV hJ hll (fun y' τ' hJ'=>?_))|refine callD_mk (zPush hJ' (by omega) (fun x'' τ'' hJ''=>?_))|refine cD (zFail ?_))|((with_reducible first|refine grd_cases (fun h=>?_) (fun h=>?_)|refine condC_split (fun h=>?_) (fun h=>?_))<;>(try simp only [h])<;>(try simp only [NR_,NRb] at h))|omega)
  exact leafL (sub_cons sub_rfl) (leT_eq rfl) (h1 hb _ _ _ (by assumption))
 ·skip
  refine ACallF.dropL (ACallF_intro Tryz.func78 rfl ?_)
  simp only [Tryz.ntmps78]
  repeat' (first|( with_reducible refine y_len_row hx ?_)|simp only [WL,intF,WM,reduceCtorEq,WLb,Nat.reduceAdd,Nat.reduceSub,Nat.reduceEqDiff,true_and,T9,T22,T56,fR fl56_0,fR fl58_2,fR fl99_0,fR fl99_1,cok52,cok77]|(with_reducible first|refine andA (hb:=?_)|refine y_load (hK:=?_)|refine y_box (hK:=fun b=>?_)|refine y_build (hK:=?_)|refine cD (zFail ?_))|((with_reducible first|refine grd_cases (fun h=>?_) (fun h=>?_)|refine condC_split (fun h=>?_) (fun h=>?_))<;>(try simp only [h])<;>(try simp only [NR_,NRb] at h))|omega)
  exact leafP (sub_cons sub_rfl) rfl (h2 hb)
theorem zBegin {pr br:Nat}{ls:List Ln}{x y:AV}{op:List Int}{l:List EvV}{ρ τ σ0:List Res}{k:Int}{t:TP} [hS:Split σ pr ρ (RC ls br x y) τ] (hJ:JX x y op l τ σ0) (hl:op.length≤1000) (hll:l.length≤100000000000)
  (h1:op.length < 200→∀ x' y' τ',JX x' y' (op++[k]) (l++[openP k t]) τ' σ0→K (.ret (.tup [])) (ρ ++ .obj pr (RC ls br x' y')::τ')) (h2:200≤op.length→K (.pan (wrongP 8)) σ):ACallF κ Tryz.prog 78 [JP pr,I k,TPA t] σ K :=
 ACallF.at_ (b:=pr) (zBegin0 hJ hl hll h1 (fun h=>by have:=h2 h;rwa [hS.is] at this))
theorem zEnd0 {pr br:Nat}{ls:List Ln}{x y:AV}{op:List Int}{l:List EvV}{τ σ0:List Res}{e k:Int} (hJ:JX x y (op++[e]) l τ σ0) (hl:op.length≤1000) (hll:l.length≤100000000000)
  (h1:∀ x' y' τ',JX x' y' op (l++[shutE k]) τ' σ0→K (.ret (.tup [])) (.obj pr (RC ls br x' y')::τ')):ACallF κ Tryz.prog 80 [JP pr,I k] (.obj pr (RC ls br x y)::τ) K:=by
 refine ACallF.dropL (ACallF_intro Tryz.func80 rfl ?_)
 simp only [Tryz.ntmps80]
 repeat' (first|simp only [WL,WM,Nat.reduceAdd,Nat.reduceSub,Nat.reduceEqDiff,true_and,T56,fR fl58_2,cok77,cok98,Tryz.results80]|(with_reducible first|refine andA (hb:=?_)|refine y_build (hK:=?_)|refine callD_mk (zPutV hJ hll (fun y' τ' hJ'=>?_))|refine cD (zDrop hJ' (by omega) (fun x'' τ'' hJ''=>?_))))
 exact leafL sub_rfl (leT_eq rfl) (h1 _ _ _ (by assumption))
theorem zEnd {pr br:Nat}{ls:List Ln}{x y:AV}{op:List Int}{l:List EvV}{ρ τ σ0:List Res}{e k:Int} [hS:Split σ pr ρ (RC ls br x y) τ] (hJ:JX x y (op++[e]) l τ σ0) (hl:op.length≤1000) (hll:l.length≤100000000000)
  (h1:∀ x' y' τ',JX x' y' op (l++[shutE k]) τ' σ0→K (.ret (.tup [])) (ρ ++ .obj pr (RC ls br x' y')::τ')):ACallF κ Tryz.prog 80 [JP pr,I k] σ K :=
 ACallF.at_ (b:=pr) (zEnd0 hJ hl hll h1)
theorem zEmpty0 {pr br:Nat}{ls:List Ln}{x y:AV}{op:List Int}{l:List EvV}{τ σ0:List Res}{t:TP} (hJ:JX x y op l τ σ0) (hll:l.length≤100000000000)
  (h1:∀ y' τ',JX x y' op (l++[emptyP t]) τ' σ0→K (.ret (.tup [])) (.obj pr (RC ls br x y')::τ')):ACallF κ Tryz.prog 62 [JP pr,TPA t] (.obj pr (RC ls br x y)::τ) K:=by
 refine ACallF.dropL (ACallF_intro Tryz.func62 rfl ?_)
 simp only [Tryz.ntmps62]
 repeat' (first|simp only [WL,WM,Nat.reduceAdd,Nat.reduceSub,Nat.reduceEqDiff,true_and,T9,fR fl99_0,fR fl99_1,cok77,Tryz.results62]|(with_reducible first|refine andA (hb:=?_)|refine y_load (hK:=?_)|refine y_box (hK:=fun b=>?_)|refine y_build (hK:=?_)|refine callD_mk (zPutV hJ hll (fun y' τ' hJ'=>?_))))
 exact leafL (sub_cons sub_rfl) (leT_eq rfl) (h1 _ _ (by assumption))
theorem zEmpty {pr br:Nat}{ls:List Ln}{x y:AV}{op:List Int}{l:List EvV}{ρ τ σ0:List Res}{t:TP} [hS:Split σ pr ρ (RC ls br x y) τ] (hJ:JX x y op l τ σ0) (hll:l.length≤100000000000)
  (h1:∀ y' τ',JX x y' op (l++[emptyP t]) τ' σ0→K (.ret (.tup [])) (ρ ++ .obj pr (RC ls br x y')::τ')):ACallF κ Tryz.prog 62 [JP pr,TPA t] σ K :=
 ACallF.at_ (b:=pr) (zEmpty0 hJ hll h1)
theorem zBehind {pr br ix:Nat}{ls:List Ln}{x y:AV} [hJ:Hold σ pr ix (RC ls br x y)] {i c:Int} (hs:Small ls) (hi:0≤i∧i < ls.length) (hc:-1000000000≤c∧c≤1000000000)
  (h1:¬0 < (restP ls i c).1.length→K (.ret (I (i+1))) σ) (h2:0 < (restP ls i c).1.length→K (.pan (wrongP 2)) σ):ACallF κ Tryz.prog 91 [JP pr,I i,I c] σ K:=by
 have hl:=hs.1
 have hr:=(restP_some (c:=c) hs hi).1
 refine ACallF.dropL (ACallF_intro Tryz.func91 rfl ?_)
 simp only [Tryz.ntmps91]
 repeat' (first|simp only [WL,intF,WM,reduceCtorEq,WLb,Nat.reduceAdd,Nat.reduceSub,Nat.reduceLT,true_and,T22,cok60,cok64,Tryz.results91]|simp (disch:=first|omega|(simp only [LN_];omega)) only [wrap_id]|(with_reducible first|refine cD (zRest hs hi hc ?_)|refine cD (zNeed (fun h=>?_) (fun h=>?_))))
 ·exact leafL sub_rfl (leT_eq rfl) (h1 (by have:((restP ls i c).1.length:Int)=0:=beq_iff_eq.1 (by assumption);omega))
 ·exact leafP sub_rfl rfl (h2 (by have:¬((restP ls i c).1.length:Int)=0:=beq_eq_false_iff_ne.1 (by assumption);omega))
theorem zNextOk {pr br ix:Nat}{ls:List Ln}{x y:AV} [hJ:Hold σ pr ix (RC ls br x y)] {i k:Int}{ok:Bool} (hn:nextP ls i=.ok (k,ok)) (hs:Small ls) (hi:0≤i∧i≤ls.length) (hK:K (.ret (.tup [I k,B ok])) σ):ACallF κ Tryz.prog 51 [JP pr,I i] σ K :=
 zNext hs hi (fun k' ok' h=>by rw [hn] at h;cases h;exact hK) (fun e h=>by rw [hn] at h;cases h)
theorem zNextEr {pr br ix:Nat}{ls:List Ln}{x y:AV} [hJ:Hold σ pr ix (RC ls br x y)] {i e:Int} (hn:nextP ls i=.error e) (hs:Small ls) (hi:0≤i∧i≤ls.length) (hK:K (.pan (wrongP e)) σ):ACallF κ Tryz.prog 51 [JP pr,I i] σ K :=
 zNext hs hi (fun k' ok' h=>by rw [hn] at h;cases h) (fun e h=>by rw [hn] at h;cases h;exact hK)
theorem zFurther {pr br ix:Nat}{ls:List Ln}{x y:AV} [hJ:Hold σ pr ix (RC ls br x y)] {i c:Int} (hs:Small ls) (hi:0≤i∧i≤ls.length)
  (h1:∀ k ok,furP ls i c=.ok (k,ok)→K (.ret (.tup [I k,B ok])) σ) (h2:∀ e,furP ls i c=.error e→K (.pan (wrongP e)) σ):ACallF κ Tryz.prog 79 [JP pr,I i,I c] σ K:=by
 have hl:=hs.1
 unfold furP at h1 h2
 cases hn:nextP ls i with
 | error e =>
  rw [hn] at h2
  refine ACallF.dropL (ACallF_intro Tryz.func79 rfl ?_)
  simp only [Tryz.ntmps79]
  repeat' (first|simp only [WL,WM,Nat.reduceAdd,Nat.reduceSub,true_and,cok51]|with_reducible refine cD (zNextEr hn hs hi ?_))
  exact leafP sub_rfl rfl (h2 _ rfl)
 | ok r =>
  obtain ⟨k,ok⟩:=r
  rw [hn] at h1 h2
  dsimp only at h1 h2
  have hk:=next_ok hi.2 hn
  have hx:=fun h:k.toNat < ls.length=>hs.at_ h
  cases ok
  ·rw [if_pos (.inl rfl)] at h1
   refine ACallF.dropL (ACallF_intro Tryz.func79 rfl ?_)
   simp only [Tryz.ntmps79]
   repeat' (first|simp only [WL,WM,Nat.reduceAdd,Nat.reduceSub,Nat.reduceLT,Bool.not_false,true_and,reduceIte,cok51,Tryz.results79]|with_reducible refine cD (zNextOk hn hs hi ?_))
   exact leafL sub_rfl (leT_eq rfl) (h1 _ _ rfl)
  ·have hkl:=hk.2.2 rfl
   dsimp only [lineP] at h1 h2
   refine ACallF.dropL (ACallF_intro Tryz.func79 rfl ?_)
   simp only [Tryz.ntmps79]
   repeat' (first|simp only [WL,intF,WM,reduceCtorEq,WLb,Nat.reduceAdd,Nat.reduceSub,Nat.reduceLT,Nat.reduceLeDiff,Nat.reduceEqDiff,Bool.not_true,true_and,reduceIte,Bool.false_eq_true,T3,T31,T51,fC fl51_0,fR fl58_0,cok51,cok52,Tryz.results79]|simp (disch:=first|omega|(simp only [LN_];omega)) only [getL]|(with_reducible first|refine andA (hb:=?_)|refine y_load (hK:=?_)|refine cD (zNextOk hn hs hi ?_)|refine cD (zFail ?_))|((with_reducible first|refine grd_cases (fun h=>?_) (fun h=>?_)|refine condC_split (fun h=>?_) (fun h=>?_))<;>(try simp only [h])<;>(try simp only [NR_,NRb] at h)))
   all_goals first
    | exact leafL sub_rfl (leT_eq rfl) (h1 _ _ (by rw [if_pos (.inr (by assumption))]))
    | exact leafP sub_rfl rfl (h2 _ (by rw [if_neg (by rintro (h|h);cases h;omega),if_pos (by assumption)]))
    | exact leafL sub_rfl (leT_eq rfl) (h1 _ _ (by rw [if_neg (by rintro (h|h);cases h;omega),if_neg (by omega)]))
theorem zFurOk {pr br ix:Nat}{ls:List Ln}{x y:AV} [hJ:Hold σ pr ix (RC ls br x y)] {i c k:Int}{ok:Bool} (hn:furP ls i c=.ok (k,ok)) (hs:Small ls) (hi:0≤i∧i≤ls.length) (hK:K (.ret (.tup [I k,B ok])) σ):ACallF κ Tryz.prog 79 [JP pr,I i,I c] σ K :=
 zFurther hs hi (fun k' ok' h=>by rw [hn] at h;cases h;exact hK) (fun e h=>by rw [hn] at h;cases h)
theorem zFurEr {pr br ix:Nat}{ls:List Ln}{x y:AV} [hJ:Hold σ pr ix (RC ls br x y)] {i c e:Int} (hn:furP ls i c=.error e) (hs:Small ls) (hi:0≤i∧i≤ls.length) (hK:K (.pan (wrongP e)) σ):ACallF κ Tryz.prog 79 [JP pr,I i,I c] σ K :=
 zFurther hs hi (fun k' ok' h=>by rw [hn] at h;cases h) (fun e h=>by rw [hn] at h;cases h;exact hK)
theorem str_add4 {x y:ByteArray}{v:Option Value} (h:x.size≤1000000∧y.size≤1000000):(if ((x.size+y.size:Nat):Int) > IntKind.i64.max then none else v)=v:=by
 rw [if_neg]
 have:IntKind.i64.max=9223372036854775807:=by decide
 omega
theorem zJoined {a b:TP} (hb:a.1.size≤1000000∧a.2.size≤1000000∧b.1.size≤1000000∧b.2.size≤1000000) (h1:∀ t,joinP a b=some t→K (.ret (TPA t)) σ) (h2:joinP a b=none→K (.pan (wrongP 2)) σ):ACallF κ Tryz.prog 69 [TPA a,TPA b] σ K:=by
 have hT:((emptyS a.1 || emptyS b.1) && (emptyS a.2 || emptyS b.2))=true→K (.ret (TPA (a.1++b.1,a.2++b.2))) σ:=fun h=>h1 _ (if_pos h)
 have hF:((emptyS a.1 || emptyS b.1) && (emptyS a.2 || emptyS b.2))=false→K (.pan (wrongP 2)) σ:=fun h=>h2 (if_neg (by rw [h];exact Bool.false_ne_true))
 clear h1 h2
 unfold emptyS at hT hF
 refine ACallF.dropL (ACallF_intro Tryz.func69 rfl ?_)
 simp only [Tryz.ntmps69]
 repeat' (first|simp only [WL,strF,WM,Nat.reduceAdd,Nat.reduceSub,Nat.reduceEqDiff,Bool.not_true,Bool.not_false,true_and,reduceIte,Bool.false_eq_true,T9,fR fl99_0,fR fl99_1,cok64,Tryz.results69]|simp (disch:=first|omega|(simp only [LN_];omega)) only [str_add4]|(with_reducible first|refine andA (hb:=?_)|refine y_load (hK:=?_)|refine y_storeA (hK:=?_)|refine y_box (hK:=fun b=>?_)|refine y_new (hK:=fun b=>?_)|refine y_build (hK:=?_)|refine cD (zNeed (fun h=>?_) (fun h=>?_)))|((with_reducible refine resL_id ?_);apply res_c (hf:=Tryz.results69);exact y_load2)|((with_reducible first|refine grd_cases (fun h=>?_) (fun h=>?_)|refine condC_split (fun h=>?_) (fun h=>?_))<;>(try simp only [h])<;>(try simp only [NR_,NRb] at h)))
 all_goals first
  | exact leafL subA (leT_eq rfl) (hT (by generalize ({ data:=#[] }:ByteArray).toList=E at *;simp_all))
  | exact leafP subA rfl (hF (by generalize ({ data:=#[] }:ByteArray).toList=E at *;simp_all))
theorem zAsks {pr br ix iy:Nat}{ls:List Ln}{x y:AV} [hJ:Hold σ pr ix (RC ls br x y)] [hR:Hold σ br iy [SL none ls]] {i c:Int} (hs:Small ls) (hi:0≤i∧i < ls.length) (hc:0≤c∧c≤1000000000) (hK:K (.ret (B (asksP ls i c))) σ):ACallF κ Tryz.prog 65 [JP pr,I i,I c] σ K:=by
 unfold asksP at hK
 cases h1:signP ls i c 63<;>cases h2:keyF (aloneF ls i) c
 all_goals
  rw [h1,h2] at hK
  refine ACallF.dropL (ACallF_intro Tryz.func65 rfl ?_)
  simp only [Tryz.ntmps65]
  repeat' (first|simp only [WL,WM,Nat.reduceAdd,Nat.reduceSub,Nat.reduceLT,Nat.reduceEqDiff,true_and,T53,fR fl58_1,cok61,cok81,Tryz.results65,h1,h2,keyA_none,keyA_some]|(with_reducible first|refine andA (hb:=?_)|refine y_load (hK:=?_)|refine cD (zSign hs hi (by omega) ?_)|refine callD_mk (jKey (ls:=ls) hs (by omega) ?_)))
 all_goals first
  | exact leafL sub_rfl (leT_eq rfl) hK
theorem literal1 {l:List (List Int)}{c:Int} (hl:tot l≤1000000000) (hK:K (.ret (SI none (litF l c))) σ):ACallF κ Tryz.prog 129 [SSI o l,I c] σ K:=by
 have hlen:=tot_len l
 have hfl:=fullN_le l
 have hel:=endsC_len l.length (fullN l) c hfl
 have hmin:(l.take (fullN l)).length=fullN l:=by simp;omega
 refine ACallF.dropL (ACallF_intro Tryz.func129 rfl ?_)
 simp only [Tryz.ntmps129]
 repeat' (first|simp only [WL,WM,Int.reduceToNat,Nat.reduceAdd,Nat.reduceSub,true_and,T22,T191,cok158,hmin]|(with_reducible first|refine andA (hb:=?_)|refine cD (full1 ?_ ?_))|omega)
 refine loop_by (fun x:Nat × List Int × Option (Nat × Nat)=>⟨(SSI o l::I c::.any::.any::.any::I (fullN l:Nat)::SI (some x.2.2) x.2.1::.any::.any::.any::.any::.any::.any::SSI none (l.take (fullN l))::I (fullN l:Nat)::I x.1::.any::.any::.any::.any::.any::.any::.any::.any::.any::.any::.any::.any::.any::.any::.any::.any::.any::.any::.any::.any::[]),.tip x.2.2::σ,true,[]⟩)
  (fun x=>x.1≤fullN l∧litGo true (l.take (fullN l))=x.2.1++litGo (decide (x.1=0)) ((l.take (fullN l)).drop x.1)∧(x.1=0→x.2.1=[])) (fun x=>fullN l - x.1) (0,[],none) (St_leW leA ResW.void id) ⟨Nat.zero_le _,by simp,fun _=>rfl⟩ ?_
 rintro ⟨k,out,tk⟩ ⟨h1,h2,h3⟩
 dsimp only at h1 h2 h3 ⊢
 have ho:=lit_out h2
 have e1:k < fullN l→k < (l.take (fullN l)).length:=fun h=>by simp;omega
 have e2:=tot_get (l:=l) k
 rcases Nat.lt_or_ge k (fullN l) with hk|hk
 ·rw [take_drop_cons hk hfl] at h2 ho
  have e3:=getD_take (l:=l) hk
  rcases Nat.eq_zero_or_pos k with rfl|hk0
  ·simp only [decide_true,litGo_first] at h2 ho
   simp only [List.length_append] at ho
   repeat' (first|simp only [WL,intF,WM,reduceCtorEq,WLb,Nat.reduceAdd,true_and,T22,T191,cok159,Tryz.results129,e3]|simp (disch:=first|omega|(simp only [LN_];omega)) only [wrap_id,getS]|(with_reducible first|refine andA (hb:=?_)|refine y_app (hlen:=?_) (hmax:=?_) (hK:=fun tk=>?_)|refine y_bs (hK:=?_)|refine cD (ends1 (by omega) (by omega) ?_))|((with_reducible first|refine grd_cases (fun h=>?_) (fun h=>?_)|refine condC_split (fun h=>?_) (fun h=>?_))<;>(try simp only [h])<;>(try simp only [NR_,NRb] at h))|omega|(refine maxLen_ok ?_;(first|omega|(simp only [LN_];omega))))
   exact ⟨(1,out++l.getD 0 [],tk),St_leW leA (ResW.refl _) id,⟨by dsimp only;omega,by rw [h2];simp,fun h=>by omega⟩,by dsimp only;omega⟩
  ·have hk1:¬k=0:=by omega
   simp only [decide_eq_false hk1,litGo_next] at h2 ho
   simp only [List.length_append,List.length_cons] at ho
   repeat' (first|simp only [WL,intF,WM,reduceCtorEq,WLb,Nat.reduceAdd,true_and,T22,T191,cok159,Tryz.results129,e3]|simp (disch:=first|omega|(simp only [LN_];omega)) only [wrap_id,getS]|(with_reducible first|refine andA (hb:=?_)|refine y_app (hlen:=?_) (hmax:=?_) (hK:=fun tk=>?_)|refine y_bs (hK:=?_)|refine cD (ends1 (by omega) (by omega) ?_))|((with_reducible first|refine grd_cases (fun h=>?_) (fun h=>?_)|refine condC_split (fun h=>?_) (fun h=>?_))<;>(try simp only [h])<;>(try simp only [NR_,NRb] at h))|omega|(simp only [LN_];omega)|(refine maxLen_ok ?_;(first|omega|(simp only [LN_];omega))))
   exact ⟨(k+1,out++10::l.getD k [],tk),St_leW leA (ResW.refl _) id,⟨by dsimp only;omega,by rw [h2];simp,fun h=>by omega⟩,by dsimp only;omega⟩
 ·rw [List.drop_eq_nil_of_le (by simp;omega)] at h2
  have e4:∀ b,litGo b []=[]:=fun b=>rfl
  rw [e4,List.append_nil] at h2
  repeat' (first|simp only [WL,intF,WM,reduceCtorEq,WLb,Nat.reduceAdd,true_and,T22,T191,cok159,Tryz.results129]|(with_reducible first|refine andA (hb:=?_)|refine y_app (hlen:=?_) (hmax:=?_) (hK:=fun tk=>?_)|refine y_bs (hK:=?_)|refine cD (ends1 (by omega) (by omega) ?_))|((with_reducible first|refine grd_cases (fun h=>?_) (fun h=>?_)|refine condC_split (fun h=>?_) (fun h=>?_))<;>(try simp only [h])<;>(try simp only [NR_,NRb] at h))|omega|(refine maxLen_ok ?_;(first|omega|(simp only [LN_];omega))))
  exact leafL (sub_cons sub_rfl) (leT_le (by rw [litF,h2];simp only [SI,List.map_append];exact le_ro)) hK
def lastV:Option (List Int)→AV
 | none=>nilS
 | some t=>SI none t
theorem block1 {l:List (List Int)}{c:Int} (hl:tot l≤1000000000) (hK:K (.ret (SI none (blkF l c))) σ):ACallF κ Tryz.prog 130 [SSI o l,I c] σ K:=by
 have hlen:=tot_len l
 have hfl:=fullN_le l
 have hel:=endsC_len l.length (fullN l) c hfl
 have hmin:(l.take (fullN l)).length=fullN l:=by simp;omega
 refine ACallF.dropL (ACallF_intro Tryz.func130 rfl ?_)
 simp only [Tryz.ntmps130]
 repeat' (first|simp only [WL,WM,Int.reduceToNat,Nat.reduceAdd,Nat.reduceSub,true_and,T22,T191,cok158,hmin]|(with_reducible first|refine andA (hb:=?_)|refine cD (full1 ?_ ?_))|omega)
 refine loop_by (fun x:Nat × List Int × Option (List Int) × Nat × Option (Nat × Nat)=>⟨(SSI o l::I c::.any::.any::.any::I (fullN l:Nat)::SI (some x.2.2.2.2) x.2.1::lastV x.2.2.1::I x.2.2.2.1::.any::.any::.any::.any::.any::.any::SSI none (l.take (fullN l))::I (fullN l:Nat)::I x.1::.any::.any::.any::.any::.any::.any::.any::.any::.any::.any::.any::.any::.any::.any::.any::.any::.any::.any::.any::.any::.any::.any::.any::.any::.any::.any::.any::.any::.any::.any::.any::.any::.any::.any::.any::.any::.any::.any::.any::.any::.any::.any::.any::[]),.tip x.2.2.2.2::σ,true,[]⟩)
  (fun x=>x.1≤fullN l∧blkGo none 0 (l.take (fullN l))=x.2.1++blkGo x.2.2.1 x.2.2.2.1 ((l.take (fullN l)).drop x.1)∧(x.2.2.1=none→x.2.1=[])∧(∀ t,x.2.2.1=some t→0 < t.length∧t.length≤tot l)∧x.2.2.2.1≤x.1) (fun x=>fullN l - x.1) (0,[],none,0,none) (St_leW leA ResW.void id) ⟨Nat.zero_le _,by simp,fun _=>rfl,fun t h=>(by cases h),Nat.le_refl _⟩ ?_
 rintro ⟨k,out,s,e,tk⟩ ⟨h1,h2,h3,h5,h6⟩
 dsimp only at h1 h2 h3 h5 h6 ⊢
 have ho:=blk_out h2
 have e1:k < fullN l→k < (l.take (fullN l)).length:=fun h=>by simp;omega
 have e2:=tot_get (l:=l) k
 have hb0:=between_len e
 have hb1:=between_len (e+1)
 rcases Nat.lt_or_ge k (fullN l) with hk|hk
 ·rw [take_drop_cons hk hfl] at h2 ho
  have e3:=getD_take (l:=l) hk
  by_cases ht:l.getD k []=[]
  ·rw [blkGo_empty ht] at h2
   have ht2:(l.getD k []).length=0:=by rw [ht];rfl
   repeat' (first|simp only [WL,intF,WM,reduceCtorEq,WLb,Nat.reduceAdd,Nat.reduceEqDiff,true_and,reduceIte,T22,T191,cok159,Tryz.results130,e3]|simp (disch:=first|omega|(simp only [LN_];omega)) only [wrap_id,getS]|(with_reducible first|refine andA (hb:=?_)|refine y_app (hlen:=?_) (hmax:=?_) (hK:=fun tk=>?_)|refine cD (ends1 (by omega) (by omega) ?_))|((with_reducible first|refine grd_cases (fun h=>?_) (fun h=>?_)|refine condC_split (fun h=>?_) (fun h=>?_))<;>(try simp only [h])<;>(try simp only [NR_,NRb] at h))|omega)
   exact ⟨(k+1,out,s,e+1,tk),St_leW leA (ResW.refl _) id,⟨by dsimp only;omega,h2,h3,h5,by dsimp only;omega⟩,by dsimp only;omega⟩
  ·rw [blkGo_cons ht] at h2 ho
   have ht2:0 < (l.getD k []).length:=by
    rcases Nat.eq_zero_or_pos (l.getD k []).length with h|h
    ·exact (ht (List.eq_nil_of_length_eq_zero h)).elim
    ·exact h
   simp only [List.length_append] at ho
   cases s with
   | none =>
    obtain rfl:=h3 rfl
    simp only [sep,lastV] at h2 ho ⊢
    have hc:(k+1:Int).toNat=k+1:=by omega
    repeat' (first|simp only [WL,intF,WM,reduceCtorEq,WLb,Nat.reduceAdd,Nat.reduceEqDiff,true_and,reduceIte,T22,T191,cok159,cok160,Tryz.results130,e3]|simp (disch:=first|omega|(simp only [LN_];omega)) only [wrap_id,getS]|(with_reducible first|refine andA (hb:=?_)|refine y_app (hlen:=?_) (hmax:=?_) (hK:=fun tk=>?_)|refine y_bs (hK:=?_))|( refine callD_mk (repeat1o (c:=10) (by omega) (fun tk=>?_)))|with_reducible refine cD (ends1 (by omega) (by omega) ?_)|((with_reducible first|refine grd_cases (fun h=>?_) (fun h=>?_)|refine condC_split (fun h=>?_) (fun h=>?_))<;>(try simp only [h])<;>(try simp only [NR_,NRb] at h))|omega|(refine maxLen_ok ?_;(first|omega|(simp only [LN_];omega))))
    exact ⟨(k+1,List.replicate e 10++l.getD k [],some (l.getD k []),0,_),St_leW (by simp only [lastV];exact leA) (ResW.cons _ (ResW.sub (List.sublist_cons_self _ _))) id,⟨by dsimp only;omega,by rw [h2];simp,fun h=>(by cases h),fun t h=>(by cases h;exact ⟨ht2,e2⟩),by dsimp only;omega⟩,by dsimp only;omega⟩
   | some t =>
    obtain ⟨h7,h8⟩:=h5 t rfl
    have ne1:((e:Int)+1)=((e+1:Nat):Int):=by omega
    have hs:=sep_len (some t) e (l.getD k [])
    simp only [sep] at h2 ho hs
    simp only [lastV]
    repeat' (first|simp only [WL,intF,WM,reduceCtorEq,WLb,Nat.reduceAdd,Nat.reduceEqDiff,Bool.not_false,true_and,reduceIte,Bool.false_eq_true,T22,T191,cok159,cok161,cok162,Tryz.results130,e3,ne1]|simp (disch:=first|omega|(simp only [LN_];omega)) only [wrap_id,getS]|(with_reducible first|refine andA (hb:=?_)|refine y_app (hlen:=?_) (hmax:=?_) (hK:=fun tk=>?_)|refine cD (ends1 (by omega) (by omega) ?_)|refine cD (spaced1 ?_ ?_)|refine cD (between1 (by omega) ?_))|with_reducible refine y_nil (hK:=?_)|((with_reducible first|refine grd_cases (fun h=>?_) (fun h=>?_)|refine condC_split (fun h=>?_) (fun h=>?_))<;>(try simp only [h])<;>(try simp only [NR_,NRb] at h))|omega|(simp only [LN_];omega)|(refine maxLen_ok ?_;(first|omega|(simp only [LN_];omega))))
    ·rw [if_pos (by simp only [*,Bool.or_true,Bool.true_or])] at h2
     exact ⟨(k+1,out++(between (e+1)++l.getD k []),some (l.getD k []),0,_),St_leW (by simp only [lastV];exact leA) (ResW.refl _) id,⟨by dsimp only;omega,by rw [h2];simp only [List.append_assoc],fun h=>(by cases h),fun t h=>(by cases h;exact ⟨ht2,e2⟩),by dsimp only;omega⟩,by dsimp only;omega⟩
    ·rw [if_neg (by simp only [*,Bool.or_self];decide)] at h2
     exact ⟨(k+1,out++(between e++l.getD k []),some (l.getD k []),0,_),St_leW (by simp only [lastV];exact leA) (ResW.refl _) id,⟨by dsimp only;omega,by rw [h2];simp only [List.append_assoc],fun h=>(by cases h),fun t h=>(by cases h;exact ⟨ht2,e2⟩),by dsimp only;omega⟩,by dsimp only;omega⟩
    ·rw [if_pos (by simp only [*,Bool.or_true,Bool.true_or])] at h2
     exact ⟨(k+1,out++(between (e+1)++l.getD k []),some (l.getD k []),0,_),St_leW (by simp only [lastV];exact leA) (ResW.refl _) id,⟨by dsimp only;omega,by rw [h2];simp only [List.append_assoc],fun h=>(by cases h),fun t h=>(by cases h;exact ⟨ht2,e2⟩),by dsimp only;omega⟩,by dsimp only;omega⟩
 ·rw [List.drop_eq_nil_of_le (by simp;omega)] at h2
  have e4:∀ s e,blkGo s e []=[]:=fun s e=>rfl
  rw [e4,List.append_nil] at h2
  repeat' (first|simp only [WL,intF,WM,ne_eq,reduceCtorEq,not_false_eq_true,true_and,T22,T191,cok159,Tryz.results130]|(with_reducible first|refine andA (hb:=?_)|refine y_app (hlen:=?_) (hmax:=?_) (hK:=fun tk=>?_)|refine cD (ends1 (by omega) (by omega) ?_))|((with_reducible first|refine grd_cases (fun h=>?_) (fun h=>?_)|refine condC_split (fun h=>?_) (fun h=>?_))<;>(try simp only [h])<;>(try simp only [NR_,NRb] at h))|omega|(refine maxLen_ok ?_;(first|omega|(simp only [LN_];omega))))
  exact leafL (sub_cons sub_rfl) (leT_le (by rw [blkF,h2];simp only [SI,List.map_append];exact le_ro)) hK
end Go.Proofs.YthkabaiamcjdbaaGreat
