/-
  Texts Nh, No, one behind the other.
-/
import Derived.Test.YthkabaiamcjdbaaGreatG33
set_option linter.unusedVariables false
set_option linter.unusedSimpArgs false
set_option maxHeartbeats 16000000
/-
 Chapter 14: ParserMaps (plain).
-/

namespace Go.Proofs.YthkabaiamcjdbaaGreat
open Go.Abs
theorem cok11:callOk Tryz.prog 11=True:=okM Tryz.func11
theorem cok16:callOk Tryz.prog 16=True:=okM Tryz.func16
abbrev prF (s:Int) (l:List Ln):PR:=pairP l (levB l) 1 0 s
theorem nd_of {l p b:List Ln}{i s:Int} (hl:l=p++b) (hi:i=(p.length:Nat)) (hb:∀ x,b.head? = some x→sgL x s 45=false) (ho:overF l i=false):signP l i s 45=false:=by
 have hlt:=over_lt ho
 cases b with
 | nil=>rw [hl,List.append_nil] at hlt;omega
 | cons x b =>
  have e:lineP l i=x:=by
   show l.getD _ _=x
   rw [hl,hi,List.getD_eq_getElem?_getD,List.getElem?_append_right (by omega)]
   simp
  rw [sgL_eq,e]
  exact hb x rfl
theorem pairs_parts {s:Int}{ls:List Ln} (h0:0≤s∧s≤2000) (hs:Small ls) {last:Part} (hL:LastOk s (prF s) last):∀ (l:List Part) (pre:List Ln) (f:Nat) (acc:List EvV),(∀ e∈l,PartOk s (prF s) e)→(∀ e∈l++[last],sgL (e.1.headD (0,[])) s 45=false∧sgL (e.1.headD (0,[])) s 63=false)→ls=pre++allL (l++[last])→l.length < f →
  ∃ k,pairsP ls (levB ls) 1 s f (pre.length:Nat) acc=.ok (acc++allE (l++[last]),k)∧nextP ls k=.ok (((ls.length:Nat):Int),false):=by
 have hF:FG s ls (fun x=>sgL x s 45=false) (prF s) (fun i=>pairP ls (levB ls) 1 i s):=by
  intro pre a b b' hls hA hb hb' ha
  have hnd:ND ls (a++b') (pre.length:Nat) (a.length:Nat) s:=fun ho =>
   ⟨nd_of (p:=pre++a) (b:=b) (by rw [hls];simp) (by simp only [List.length_append];omega) hb (by rw [hA.over];exact ho),nd_of (p:=a) (b:=b') rfl rfl hb' ho⟩
  have hN:LocL ls (a++b') (pre.length:Nat) (a.length:Nat) s (levB ls) (levB (a++b')):=fun i c n b h0 h1 hc hc2 hn hn2 hND=>hA.lev 199 hn hn2 hND i c (!b) tp0 h0 h1 hc hc2
  have:=hA.pairP (d0:=1) (i:=0) (c:=s) hN (.inr ⟨rfl,hnd⟩) (by omega) (Int.le_refl _) (by omega)
  rw [Int.zero_add] at this
  exact this
 have hq:sgL (s,[120]) s 45=false:=by unfold sgL;dsimp only;rw [show s - s=0 by omega];rfl
 intro l
 induction l with
 | nil =>
  intro pre f acc _ hd hls hf
  cases f with
  | zero=>omega
  | succ f =>
   have hls2:ls=pre++last.1:=hls.trans (by simp [allL])
   obtain ⟨i2,a1,a2,a3⟩:=last_on h0 hs hF hls2 hL
   obtain ⟨x,r,hx,-,hsg⟩:=parts_head (l:=[]) (T:=fun x=>sgL x s 63=false) (fun e he=>by cases he) hL (fun e he=>(hd e he).2)
   have hk:lineP ls ((pre.length+([]:List Ln).length:Nat):Int)=x:=line_at (a:=[]) (r:=r) (by rw [hls,hx];rfl)
   refine ⟨i2, ?_,a3⟩
   rw [pairsP,sgL_eq,show lineP ls ((pre.length:Nat):Int)=x from hk,hsg,if_neg (by simp),a1]
   dsimp only
   rw [a2]
   simp [allE]
 | cons e l ih =>
  intro pre f acc hl hd hls hf
  cases f with
  | zero=>omega
  | succ f =>
   obtain ⟨x0,r0,hx0,-,hsg0⟩:=parts_head (l:=e::l) (T:=fun x=>sgL x s 63=false) hl hL (fun e he=>(hd e he).2)
   have hk0:lineP ls ((pre.length+([]:List Ln).length:Nat):Int)=x0:=line_at (a:=[]) (r:=r0) (by rw [hls,hx0];rfl)
   obtain ⟨x,r,hx,hst,hsg⟩:=parts_head (T:=fun x=>sgL x s 45=false) (fun e he=>hl e (List.mem_cons_of_mem _ he)) hL (fun e he=>(hd e (List.mem_cons_of_mem _ he)).1)
   have hls2:ls=pre++(e.1++x::r):=by rw [← hx,hls];simp [allL]
   obtain ⟨i2,a1,a2⟩:=part_on h0 hs hF hq hls2 hst hsg (hl e List.mem_cons_self)
   obtain ⟨k,b1,b2⟩:=ih (pre++e.1) f (acc++e.2) (fun e he=>hl e (List.mem_cons_of_mem _ he)) (fun e he=>hd e (List.mem_cons_of_mem _ he)) (by rw [hls];simp [allL]) (by simp only [List.length_cons] at hf;omega)
   refine ⟨k, ?_,b2⟩
   rw [List.length_append] at b1
   rw [pairsP,sgL_eq,show lineP ls ((pre.length:Nat):Int)=x0 from hk0,hsg0,if_neg (by simp),a1]
   dsimp only
   rw [a2]
   dsimp only
   rw [if_neg (by simp),b1]
   simp [allE]
theorem map_parts {s:Int}{ls:List Ln} (h0:0≤s∧s≤2000) (hs:Small ls) {last:Part}{l:List Part}{pre:List Ln}{t:TP} (hL:LastOk s (prF s) last) (hl:∀ e∈l,PartOk s (prF s) e) (hd:∀ e∈l++[last],sgL (e.1.headD (0,[])) s 45=false∧sgL (e.1.headD (0,[])) s 63=false) (hls:ls=pre++allL (l++[last])) (hlen:l.length≤ls.length) :
  ∃ k,mapP ls (levB ls) 1 (pre.length:Nat) s t=.ok (openP 5 t::(allE (l++[last])++[shutE 6]),k)∧nextP ls k=.ok (((ls.length:Nat):Int),false):=by
 obtain ⟨k,a1,a2⟩:=pairs_parts h0 hs hL l pre (ls.length+1) [] hl hd hls (by omega)
 refine ⟨k, ?_,a2⟩
 unfold mapP
 rw [a1]
 simp
def dg2 (i:Nat):List Int:=if i < 10 then [48+(i:Int)] else [48+((i / 10:Nat):Int),48+((i % 10:Nat):Int)]
abbrev kyL (i:Nat):List Int:=107::dg2 i
def mpT (n k:Nat):List Int:=match k with
 | 0=>[32,118,32,35,32,99,10]
 | 1=>[10]
 | 2=>[10]++pdL n++[45,32,118,10]++pdL n++[45,10]
 | 3=>[10]++pdL n++[32,120,58,32,118,10]
 | 4=>[32,124,10]++pdL n++[32,118,10,10]
 | 5=>[32,118,10]++pdL n++[32,32,119,10,10]++pdL n++[32,120,10]
 | 6=>[32,38,97,32,33,116,32,91,118,44,10]++pdL n++[32,32,34,119,34,32,93,10]
 | _=>[32,42,97,10]
def mpR (n i k:Nat):List (List Int):=match k with
 | 0=>[pdL n++kyL i++[58,32,118,32,35,32,99]]
 | 1=>[pdL n++kyL i++[58]]
 | 2=>[pdL n++kyL i++[58],pdL n++[45,32,118],pdL n++[45]]
 | 3=>[pdL n++kyL i++[58],pdL n++[32,120,58,32,118]]
 | 4=>[pdL n++kyL i++[58,32,124],pdL n++[32,118],[]]
 | 5=>[pdL n++kyL i++[58,32,118],pdL n++[32,32,119],[],pdL n++[32,120]]
 | 6=>[pdL n++kyL i++[58,32,38,97,32,33,116,32,91,118,44],pdL n++[32,32,34,119,34,32,93]]
 | _=>[pdL n++kyL i++[58,32,42,97]]
theorem mpR_text (n i k:Nat):(mpR n i k).flatMap (· ++ [10])=pdL n++kyL i++[58]++mpT n k:=by
 unfold mpR mpT
 split<;>simp
def mpE (k:Nat):List EvV:=match k with
 | 0=>[scE 1 [118]]
 | 1=>[scE 1 []]
 | 2=>[openP 3 tp0,scE 1 [118],scE 1 [],shutE 4]
 | 3=>[openP 5 tp0,scE 1 [120],scE 1 [118],shutE 6]
 | 4=>[scE 4 [118,10]]
 | 5=>[scE 1 [118,32,119,10,120]]
 | 6=>[⟨3,.empty,textI [33,116],textI [97],0,true⟩,scE 1 [118],scE 3 [119],shutE 4]
 | _=>[⟨8,.empty,.empty,textI [97],0,false⟩]
abbrev mpL (n i k:Nat):List Ln:=(mpR n i k).map lineOf
abbrev mpEv (i k:Nat):List EvV:=scE 1 (kyL i)::mpE k
def mpOk (n i k:Nat):Bool:=okPart n (prF n) (mpL n i k) (mpEv i k) && okLast n (prF n) (mpL n i k) (mpEv i k)
def mpHd (n i k:Nat):Bool:=let x:=(mpL n i k).headD (0,[]);!sgL x n 45 && (!sgL x n 63 && (!blankI (x.2.getD 0 0) && (keyF [x] n).isSome))
theorem mp_hd0:((List.range 11).all fun n=>(List.range 20).all fun i=>(List.range 8).all fun k=>mpHd n i k)=true:=by decide +kernel
def mpAll (n:Nat):Bool:=(List.range 20).all fun i=>(List.range 8).all fun k=>mpOk n i k
theorem mp_a0:mpAll 0=true:=by decide +kernel
theorem mp_a1:mpAll 1=true:=by decide +kernel
theorem mp_a2:mpAll 2=true:=by decide +kernel
theorem mp_a3:mpAll 3=true:=by decide +kernel
theorem mp_a4:mpAll 4=true:=by decide +kernel
theorem mp_a5:mpAll 5=true:=by decide +kernel
theorem mp_a6:mpAll 6=true:=by decide +kernel
theorem mp_a7:mpAll 7=true:=by decide +kernel
theorem mp_a8:mpAll 8=true:=by decide +kernel
theorem mp_a9:mpAll 9=true:=by decide +kernel
theorem mp_a10:mpAll 10=true:=by decide +kernel
theorem mp_ok0 {n:Nat} (h:n < 11):mpAll n=true:=by
 match n,h with
 | 0,_=>exact mp_a0
 | 1,_=>exact mp_a1
 | 2,_=>exact mp_a2
 | 3,_=>exact mp_a3
 | 4,_=>exact mp_a4
 | 5,_=>exact mp_a5
 | 6,_=>exact mp_a6
 | 7,_=>exact mp_a7
 | 8,_=>exact mp_a8
 | 9,_=>exact mp_a9
 | 10,_=>exact mp_a10
theorem mp_ok {n i k:Nat} (h1:n < 11) (h2:i < 20) (h3:k < 8):mpOk n i k=true:=all_range (all_range (mp_ok0 h1) h2) h3
theorem mp_hd {n i k:Nat} (h1:n < 11) (h2:i < 20) (h3:k < 8):mpHd n i k=true:=all_range (all_range (all_range mp_hd0 h1) h2) h3
abbrev mpP (n:Nat) (e:Nat × Nat):Part:=(mpL n e.1 e.2,mpEv e.1 e.2)
theorem mp_doc {n:Nat} (hn:n < 11) {l:List (Nat × Nat)}{last:Nat × Nat} (hl:∀ e∈l++[last],e.1 < 20∧e.2 < 8) (hs:Small (allL ((l++[last]).map (mpP n)))) :
  ∃ k,docP (allL ((l++[last]).map (mpP n))) 0 0=.ok (openP 5 tp0::(allE ((l++[last]).map (mpP n))++[shutE 6]),k):=by
 generalize hls:allL ((l++[last]).map (mpP n))=ls at *
 have hk:∀ e∈l++[last],PartOk n (prF n) (mpP n e)∧LastOk n (prF n) (mpP n e)∧sgL ((mpL n e.1 e.2).headD (0,[])) n 45=false∧sgL ((mpL n e.1 e.2).headD (0,[])) n 63=false∧blankI (((mpL n e.1 e.2).headD (0,[])).2.getD 0 0)=false∧(keyF [(mpL n e.1 e.2).headD (0,[])] n).isSome=true:=fun e he=>by
  obtain ⟨h1,h2⟩:=hl e he
  have h:=mp_ok hn h1 h2
  have h':=mp_hd hn h1 h2
  unfold mpOk at h
  unfold mpHd at h'
  simp only [Bool.and_eq_true,Bool.not_eq_true'] at h h'
  exact ⟨okPart_s h.1,okLast_s h.2,h'⟩
 have hL:LastOk n (prF n) (mpP n last):=(hk last (by simp)).2.1
 have hP:∀ e∈l.map (mpP n),PartOk n (prF n) e:=fun e he=>by
  obtain ⟨e0,h0,rfl⟩:=List.mem_map.1 he
  exact (hk e0 (by simp [h0])).1
 have hT:∀ (T:Ln→Prop),(∀ e∈l++[last],T ((mpL n e.1 e.2).headD (0,[])))→∀ e∈l.map (mpP n)++[mpP n last],T (e.1.headD (0,[])):=fun T h e he=>by
  rw [show l.map (mpP n)++[mpP n last]=(l++[last]).map (mpP n) by simp] at he
  obtain ⟨e0,h0,rfl⟩:=List.mem_map.1 he
  exact h e0 h0
 have hd:=hT (fun x=>sgL x n 45=false∧sgL x n 63=false) (fun e he=>⟨(hk e he).2.2.1,(hk e he).2.2.2.1⟩)
 have hls2:ls=[]++allL (l.map (mpP n)++[mpP n last]):=by
  rw [← hls];simp [allL]
 have hlen:(l.map (mpP n)).length≤ls.length:=by
  have h1:∀ l:List Part,(∀ e∈l,0 < e.1.length)→l.length≤(allL l).length:=fun l=>by
   induction l with
   | nil=>intro _;simp
   | cons e l ih =>
    intro h
    have a1:=ih (fun x hx=>h x (by simp [hx]))
    have a2:=h e (by simp)
    show l.length+1≤(e.1++allL l).length
    rw [List.length_append];omega
  have h2:=h1 _ fun e he=>(hP e he).1
  rw [hls2,List.nil_append]
  unfold allL at h2 ⊢
  rw [List.flatMap_append,List.length_append]
  omega
 obtain ⟨k,a1,a2⟩:=map_parts (t:=tp0) (pre:=[]) ⟨by omega,by omega⟩ hs hL hP hd hls2 hlen
 obtain ⟨x,r,hx,hst,⟨hbl,hsg⟩,hky⟩:=parts_head (T:=fun x=>(blankI (x.2.getD 0 0)=false∧sgL x n 45=false)∧(keyF [x] n).isSome=true) hP hL (hT (fun x=>(blankI (x.2.getD 0 0)=false∧sgL x n 45=false)∧(keyF [x] n).isSome=true) fun e he=>⟨⟨(hk e he).2.2.2.2.1,(hk e he).2.2.1⟩,(hk e he).2.2.2.2.2⟩)
 have hev:allE (l.map (mpP n)++[mpP n last])=allE ((l++[last]).map (mpP n)):=by simp [allE]
 rw [hev] at a1
 have hl0:lineP ls 0=x:=by rw [hls2,hx];rfl
 refine ⟨_,doc_head (b:=false) (x:=x) (r:=r) (s:=n) (by omega) (by rw [hls2,hx];rfl) hst hbl ?_ a2⟩
 have hal:aloneF ls 0=[x]:=by
  unfold aloneF
  rw [if_pos ⟨by omega,by rw [hls2,hx];simp⟩]
  exact congrArg (fun x=>[x]) hl0
 show atP ls _ _ _ _ _ 0 _ _ _=_
 unfold atP asksP
 rw [sgL_eq,hl0,hsg,if_neg (by simp),hal,hky,Bool.or_true,if_pos rfl,if_pos rfl]
 exact a1
end Go.Proofs.YthkabaiamcjdbaaGreat
/-
 Walks: chapter 14's law ParserMaps.
-/



namespace Go.Proofs.YthkabaiamcjdbaaGreat
open Go.Abs
variable {κ:Ctx} {σ:List Res} {K:Ret→List Res→Prop} {o o':Option (Option (Nat × Nat))}
theorem rSameRow {rb rc ix:Nat}{l:List EvV}{cs:List AV} [hH:Hold σ rb ix (cellsL (l.map EVA)++cs)] (hl:l.length≤1000000000) (hK:K (.ret (B true)) σ):ACallF κ Tryz.prog 15 [rowV rb 0 l.length rc,.sl 6 o (l.map EVA)] σ K:=by
 have hlm:(l.map EVA).length=l.length:=List.length_map _
 have hcl:(cellsL (l.map EVA)).length=l.length * 6:=by rw [cellsL_len _ (evs_el l),hlm]
 refine ACallF.dropL (ACallF_intro Tryz.func15 rfl ?_)
 simp only [Tryz.ntmps15]
 repeat' (first|simp only [WL,intF,WM,reduceCtorEq,WLb,Nat.reduceAdd,Nat.reduceSub,true_and,T24,hlm,bne_self_eq_false])
 refine loop_by (fun i:Nat=>⟨(rowV rb 0 l.length rc::.sl 6 o (l.map EVA)::.any::.any::.any::I i::.any::.any::.any::.any::.any::.any::.any::.any::.any::.any::.any::.any::.any::.any::.any::.any::.any::.any::.any::.any::[]),σ,true,[]⟩) (fun i=>i≤l.length) (fun i=>l.length - i) 0 (St_le_same leA id) (Nat.zero_le _) ?_
 intro i hi
 rcases Nat.lt_or_ge i l.length with h|h
 ·have e1:=ev_at h cs
  repeat' (first|( with_reducible refine y_idx_row (hK:=?_))|( with_reducible refine y_neq_six ?_)|( with_reducible refine y_loadA (hn:=by rw [List.length_append,hcl];omega) (hK:=?_))|simp only [WL,intF,WM,reduceCtorEq,WLb,Nat.reduceAdd,true_and,T24,T26,Tryz.results15,hlm,e1,Nat.zero_add]|simp (disch:=first|omega|(simp only [LN_];omega)) only [wrap_id,getEV]|with_reducible refine andA (hb:=?_)|((with_reducible refine AW_drawM (id:=6) 9 mixed ?_ ?_);kernel_rfl)|(with_reducible refine dmQ_mk ?_)|((with_reducible first|refine grd_cases (fun h=>?_) (fun h=>?_)|refine condC_split (fun h=>?_) (fun h=>?_))<;>(try simp only [h])<;>(try simp only [NR_,NRb] at h))|omega)
  exact ⟨i+1,St_le_same leA id,by omega,by omega⟩
 ·repeat' (first|simp only [WL,intF,WM,ne_eq,reduceCtorEq,not_false_eq_true,true_and,T24,Tryz.results15]|((with_reducible refine AW_drawM (id:=6) 9 mixed ?_ ?_);kernel_rfl)|((with_reducible first|refine grd_cases (fun h=>?_) (fun h=>?_)|refine condC_split (fun h=>?_) (fun h=>?_))<;>(try simp only [h])<;>(try simp only [NR_,NRb] at h))|omega)
  exact leafL sub_rfl (leT_eq rfl) hK
abbrev mpX (n:Nat) (l:List (Nat × Nat)):List Int:=(l.flatMap fun e=>mpR n e.1 e.2).flatMap (· ++ [10])
set_option maxRecDepth 4000 in
theorem mpX_snoc {n:Nat}{l:List (Nat × Nat)}{e:Nat × Nat}:mpX n (l++[e])=mpX n l++(pdL n++kyL e.1++[58]++mpT n e.2):=by
 unfold mpX
 rw [List.flatMap_append,List.flatMap_append,List.flatMap_singleton,mpR_text]
def mps (l:List Int) (m:Nat):List (Nat × Nat):=(List.range m).map fun j=>(j,(l.getD j 0 % 8).toNat)
set_option maxRecDepth 4000 in
theorem mps_succ {l:List Int}{m:Nat}:mps l (m+1)=mps l m++[(m,(l.getD m 0 % 8).toNat)]:=by
 unfold mps
 rw [List.range_succ,List.map_append];rfl
set_option maxRecDepth 4000 in
theorem mps_ok {l:List Int}{m:Nat} (hm:m≤20):∀ e∈mps l m,e.1 < 20∧e.2 < 8:=fun e he=>by
 unfold mps at he
 obtain ⟨j,hj,rfl⟩:=List.mem_map.1 he
 have:=List.mem_range.1 hj
 dsimp only
 omega
set_option maxRecDepth 4000 in
theorem mps_len {l:List Int}{m:Nat}:(mps l m).length=m:=by unfold mps;rw [List.length_map,List.length_range]
def rowsBn (m:Nat) (rows:List (List Int)):Bool:=Nat.ble rows.length m && rows.all fun r=>Nat.ble r.length 100 && r.all fun c=>decide (32≤c) && decide (c≤126)
set_option maxRecDepth 4000 in
theorem rowsBn_s {m:Nat}{rows:List (List Int)} (h:rowsBn m rows=true):rowsOk m rows:=by
 unfold rowsBn at h
 simp only [Bool.and_eq_true,Nat.ble_eq,List.all_eq_true,decide_eq_true_eq] at h
 exact ⟨h.1,fun r hr=>⟨(h.2 r hr).1,fun c hc=>.inr ((h.2 r hr).2 c hc)⟩⟩
set_option maxRecDepth 4000 in
theorem mp_rows0:((List.range 11).all fun n=>(List.range 20).all fun i=>(List.range 8).all fun k=>rowsBn 4 (mpR n i k))=true:=by decide +kernel
set_option maxRecDepth 4000 in
theorem mp_rows {n i k:Nat} (h1:n < 11) (h2:i < 20) (h3:k < 8):rowsOk 4 (mpR n i k):=rowsBn_s (all_range (all_range (all_range mp_rows0 h1) h2) h3)
set_option maxRecDepth 4000 in
theorem mpX_rows {l:List (Nat × Nat)}{n:Nat} (hn:n < 11) (h:∀ e∈l,e.1 < 20∧e.2 < 8):rowsOk (4 * l.length) (l.flatMap fun e=>mpR n e.1 e.2):=rowsOk.flat fun e he=>mp_rows hn (h e he).1 (h e he).2
set_option maxRecDepth 4000 in
theorem mpX_len {l:List (Nat × Nat)}{n:Nat} (hn:n < 11) (h:∀ e∈l,e.1 < 20∧e.2 < 8) (hl:l.length≤20):(mpX n l).length≤10000:=by
 have h1:=mpX_rows hn h
 have h2:=rowsOk.len (m:=80) (fun r hr=>(h1.2 r hr).1) (by have:=h1.1;omega)
 exact Nat.le_trans h2 (by decide)
set_option maxRecDepth 4000 in
theorem mpX_lines {l:List (Nat × Nat)}{n:Nat}:(l.flatMap fun e=>mpR n e.1 e.2).map lineOf=allL (l.map (mpP n)):=by
 unfold allL
 rw [List.map_flatMap,List.flatMap_map]
def mpEs (l:List (Nat × Nat)):List EvV:=l.flatMap fun e=>mpEv e.1 e.2
set_option maxRecDepth 4000 in
theorem mpEs_eq {l:List (Nat × Nat)}{n:Nat}:allE (l.map (mpP n))=mpEs l:=by
 unfold allE mpEs
 rw [List.flatMap_map]
set_option maxRecDepth 4000 in
theorem mpEs_snoc {l:List (Nat × Nat)}{e:Nat × Nat}:mpEs (l++[e])=mpEs l++mpEv e.1 e.2:=by
 unfold mpEs
 rw [List.flatMap_append,List.flatMap_singleton]
set_option maxRecDepth 4000 in
theorem mpEs_len (l:List (Nat × Nat)):(mpEs l).length≤5 * l.length:=by
 induction l with
 | nil=>simp [mpEs]
 | cons e l ih =>
  show (mpEv e.1 e.2++mpEs l).length≤_
  rw [List.length_append,List.length_cons,List.length_cons]
  have:(mpE e.2).length≤4:=by unfold mpE;split<;>simp
  omega
set_option maxRecDepth 4000 in
theorem mp_all {l:List Int}{n:Nat} (hn:n < 11) (h0:0 < l.length) (hl:l.length≤20):∃ k,docP (readR (mpX n (mps l l.length))).1 0 0=.ok (openP 5 tp0::(mpEs (mps l l.length)++[shutE 6]),k)∧Asc (mpX n (mps l l.length))∧Small (readR (mpX n (mps l l.length))).1∧(0:Int) < (readR (mpX n (mps l l.length))).1.length:=by
 have hok:=mps_ok (l:=l) hl
 have r1:=mpX_rows hn hok
 have q1:=mpX_len hn hok (by rw [mps_len];exact hl)
 rw [mps_len] at r1
 obtain ⟨l',e,hle⟩:∃ l' e,mps l l.length=l'++[e]:=by
  obtain ⟨m,hm⟩:∃ m,l.length=m+1:=⟨l.length - 1,by omega⟩
  rw [hm]
  exact ⟨_,_,mps_succ⟩
 have e1:(readR (mpX n (mps l l.length))).1=allL ((mps l l.length).map (mpP n)):=by
  rw [← mpX_lines]
  exact rows_lines fun r hr=>(r1.2 r hr).2
 have s1:Small (allL ((mps l l.length).map (mpP n))):=by
  rw [← mpX_lines]
  exact r1.small (by omega)
 rw [e1]
 have hd:∀ x∈l'++[e],x.1 < 20∧x.2 < 8:=by rw [← hle];exact hok
 obtain ⟨k,d⟩:=mp_doc hn hd (by rw [← hle];exact s1)
 rw [← hle,mpEs_eq] at d
 refine ⟨k,d,⟨by omega,fun c hc=>?_⟩,s1, ?_⟩
 ·have:=rows_good (fun r hr=>(r1.2 r hr).2) c hc
  omega
 ·rw [← mpX_lines,List.length_map,hle,List.flatMap_append,List.length_append]
  have:0 < (mpR n e.1 e.2).length:=by unfold mpR;split<;>simp
  simp
  omega
set_option maxRecDepth 4000 in
theorem pm_and7 {a:Int}:andI a 7=a % 8:=andI_mod (a:=a) 3 (by decide)
set_option maxRecDepth 4000 in
theorem pm_lit {d:Nat} (h:d < 10):({ data:=#[48,49,50,51,52,53,54,55,56,57] }:ByteArray).extract d (d+1)=textI [48+(d:Int)]:=by
 rcases (show d=0∨d=1∨d=2∨d=3∨d=4∨d=5∨d=6∨d=7∨d=8∨d=9 by omega) with rfl|rfl|rfl|rfl|rfl|rfl|rfl|rfl|rfl|rfl<;>decide +kernel
set_option maxRecDepth 4000 in
theorem pm_lit_size:({ data:=#[48,49,50,51,52,53,54,55,56,57] }:ByteArray).size=10:=by decide +kernel
set_option maxRecDepth 4000 in
theorem pm_ten0:((10:Int)=0)=False:=by simp
set_option maxRecDepth 4000 in
theorem pm_tmod {n:Nat}:(n:Int).tmod 10=((n % 10:Nat):Int):=by rw [Int.tmod_eq_emod_of_nonneg (by omega)];omega
set_option maxRecDepth 4000 in
theorem pm_tdiv {n:Nat}:(n:Int).tdiv 10=((n / 10:Nat):Int):=by rw [Int.tdiv_eq_ediv_of_nonneg (by omega)];omega
set_option maxRecDepth 4000 in
theorem pm_32:({ data:=#[32] }:ByteArray)=textI [32]:=by decide +kernel
set_option maxRecDepth 4000 in
theorem pm_10:({ data:=#[10] }:ByteArray)=textI [10]:=by decide +kernel
set_option maxRecDepth 4000 in
theorem pm_k:({ data:=#[107] }:ByteArray)=textI [107]:=by decide +kernel
set_option maxRecDepth 4000 in
theorem pm_c:({ data:=#[58] }:ByteArray)=textI [58]:=by decide +kernel
set_option maxRecDepth 4000 in
theorem pm_v:({ data:=#[118] }:ByteArray)=textI [118]:=by decide +kernel
set_option maxRecDepth 4000 in
theorem pm_x:({ data:=#[120] }:ByteArray)=textI [120]:=by decide +kernel
set_option maxRecDepth 4000 in
theorem pm_w:({ data:=#[119] }:ByteArray)=textI [119]:=by decide +kernel
set_option maxRecDepth 4000 in
theorem pm_a:({ data:=#[97] }:ByteArray)=textI [97]:=by decide +kernel
set_option maxRecDepth 4000 in
theorem pm_t:({ data:=#[33,116] }:ByteArray)=textI [33,116]:=by decide +kernel
set_option maxRecDepth 4000 in
theorem pm_vn:({ data:=#[118,10] }:ByteArray)=textI [118,10]:=by decide +kernel
set_option maxRecDepth 4000 in
theorem pm_vw:({ data:=#[118,32,119,10,120] }:ByteArray)=textI [118,32,119,10,120]:=by decide +kernel
set_option maxRecDepth 4000 in
theorem pm_s0:({ data:=#[32,118,32,35,32,99,10] }:ByteArray)=textI [32,118,32,35,32,99,10]:=by decide +kernel
set_option maxRecDepth 4000 in
theorem pm_s2a:({ data:=#[45,32,118,10] }:ByteArray)=textI [45,32,118,10]:=by decide +kernel
set_option maxRecDepth 4000 in
theorem pm_s2b:({ data:=#[45,10] }:ByteArray)=textI [45,10]:=by decide +kernel
set_option maxRecDepth 4000 in
theorem pm_s3:({ data:=#[32,120,58,32,118,10] }:ByteArray)=textI [32,120,58,32,118,10]:=by decide +kernel
set_option maxRecDepth 4000 in
theorem pm_s4a:({ data:=#[32,124,10] }:ByteArray)=textI [32,124,10]:=by decide +kernel
set_option maxRecDepth 4000 in
theorem pm_s4b:({ data:=#[32,118,10,10] }:ByteArray)=textI [32,118,10,10]:=by decide +kernel
set_option maxRecDepth 4000 in
theorem pm_s5a:({ data:=#[32,118,10] }:ByteArray)=textI [32,118,10]:=by decide +kernel
set_option maxRecDepth 4000 in
theorem pm_s5b:({ data:=#[32,32,119,10,10] }:ByteArray)=textI [32,32,119,10,10]:=by decide +kernel
set_option maxRecDepth 4000 in
theorem pm_s5c:({ data:=#[32,120,10] }:ByteArray)=textI [32,120,10]:=by decide +kernel
set_option maxRecDepth 4000 in
theorem pm_s6a:({ data:=#[32,38,97,32,33,116,32,91,118,44,10] }:ByteArray)=textI [32,38,97,32,33,116,32,91,118,44,10]:=by decide +kernel
set_option maxRecDepth 4000 in
theorem pm_s6b:({ data:=#[32,32,34,119,34,32,93,10] }:ByteArray)=textI [32,32,34,119,34,32,93,10]:=by decide +kernel
set_option maxRecDepth 4000 in
theorem pm_s7:({ data:=#[32,42,97,10] }:ByteArray)=textI [32,42,97,10]:=by decide +kernel
set_option maxRecDepth 4000 in
theorem dg2_len (i:Nat):(dg2 i).length≤2:=by unfold dg2;split<;>simp
structure MpS where
 i:Nat
 tk:Option (Nat × Nat)
set_option maxRecDepth 4000 in
theorem lDig0 {n:Nat} (h:n < 10) (hK:K (.ret (.raw (.string (textI [48+(n:Int)])))) σ):ACallF κ Tryz.prog 16 [I n] σ K:=by
 have e1:=pm_lit (d:=n % 10) (by omega)
 have e2:(((n % 10:Nat):Int)+1).toNat=n % 10+1:=by omega
 refine ACallF.dropL (ACallF_intro Tryz.func16 rfl ?_)
 simp only [Tryz.ntmps16]
 repeat' (first|simp only [WL,intF,WM,reduceCtorEq,WLb,Nat.reduceAdd,Nat.reduceSub,true_and,reduceIte,T9,cok16,Tryz.results16,pm_ten0,pm_tmod,pm_tdiv,e1,e2,pm_lit_size]|simp (disch:=first|omega|(simp only [LN_];omega)) only [wrap_id]|with_reducible refine andA (hb:=?_)|((with_reducible first|refine grd_cases (fun h=>?_) (fun h=>?_)|refine condC_split (fun h=>?_) (fun h=>?_))<;>(try simp only [h])<;>(try simp only [NR_,NRb] at h))|omega)
 exact leafL sub_rfl (leT_eq (by rw [Nat.mod_eq_of_lt (by omega)])) hK
set_option maxRecDepth 4000 in
theorem lDig {n:Nat} (h:n < 20) (hK:K (.ret (.raw (.string (textI (dg2 n))))) σ):ACallF κ Tryz.prog 16 [I n] σ K:=by
 by_cases h10:n < 10
 ·exact lDig0 h10 (by unfold dg2 at hK;rwa [if_pos h10] at hK)
 ·unfold dg2 at hK
  rw [if_neg h10] at hK
  have e1:=pm_lit (d:=n % 10) (by omega)
  have e2:(((n % 10:Nat):Int)+1).toNat=n % 10+1:=by omega
  have ih:∀ (K:Ret→List Res→Prop),K (.ret (.raw (.string (textI [48+((n / 10:Nat):Int)])))) σ→ACallF κ Tryz.prog 16 [I (n / 10:Nat)] σ K:=fun K h=>lDig0 (by omega) h
  refine ACallF.dropL (ACallF_intro Tryz.func16 rfl ?_)
  simp only [Tryz.ntmps16]
  repeat' (first|simp only [WL,intF,strF,WM,reduceCtorEq,WLb,Nat.reduceAdd,Nat.reduceSub,true_and,reduceIte,T9,cok16,Tryz.results16,pm_ten0,pm_tmod,pm_tdiv,e1,e2,pm_lit_size,textI_app]|simp (disch:=first|omega|(simp only [LN_];omega)) only [wrap_id,str_addT2]|(with_reducible first|refine andA (hb:=?_)|refine callD_mk (ih _ ?_))|((with_reducible first|refine grd_cases (fun h=>?_) (fun h=>?_)|refine condC_split (fun h=>?_) (fun h=>?_))<;>(try simp only [h])<;>(try simp only [NR_,NRb] at h))|omega)
  exact leafL sub_rfl (leT_eq rfl) hK
set_option maxRecDepth 4000 in
theorem lPlainM {s:ByteArray} (hK:K (.ret (.agg [I 7,.raw (.string s),.raw (.string .empty),.raw (.string .empty),I 1,B false])) σ):ACallF κ Tryz.prog 11 [.raw (.string s)] σ K:=by
 refine ACallF.dropL (ACallF_intro Tryz.func11 rfl ?_)
 simp only [Tryz.ntmps11]
 repeat' (first|simp only [WL,WM,Nat.reduceAdd,Nat.reduceSub,true_and,Tryz.results11]|(with_reducible first|refine y_storeA (hK:=?_)|refine y_new (hK:=fun b=>?_)|refine y_build (hK:=?_))|((with_reducible refine resL_id ?_);apply res_c (hf:=Tryz.results11);exact y_load2))
 exact leafL subA (leT_eq rfl) hK
set_option maxRecDepth 4000 in
theorem law_ParserMaps (κ:Ctx) (l:List Int) (hl:l.length≤maxLen∧∀ a∈l,IntKind.i64.min≤a∧a≤IntKind.i64.max) (n:Int) (hn:IntKind.i64.min≤n∧n≤IntKind.i64.max):ACallF κ Tryz.prog 4 [.sl 1 none (l.map fun n=>I n),I n] [] (fun r _=>r=.ret (B true)):=by
 have hmin:IntKind.i64.min = -9223372036854775808:=by decide
 have hmax:IntKind.i64.max=9223372036854775807:=by decide
 have hml:maxLen=9223372036854775807:=by decide
 have hl0:=hl.1
 rw [hmin,hmax] at hn
 rw [hml] at hl0
 clear hl
 by_cases hr:(1≤l.length∧l.length≤20)∧0≤n∧n≤10
 ·obtain ⟨n,rfl⟩:∃ k:Nat,n=k:=⟨n.toNat,by omega⟩
  obtain ⟨⟨r0,r1⟩,r2,r3⟩:=hr
  refine ACallF.dropL (ACallF_introA Tryz.func4 rfl ?_)
  simp only [Tryz.ntmps4]
  repeat' (first|(with_reducible first|refine AW_block ?_|refine cut_loop ?_|refine AW_seqA (AW_seqA ?_)|refine AW_seq ?_|refine AW_runReg ?_|refine AW_runCond ?_)|simp only [WL,intF,WM,reduceCtorEq,WLb,Nat.reduceAdd,Nat.reduceSub,Bool.not_true,Bool.not_false,true_and,reduceIte,Bool.false_eq_true,T22,cok10,Tryz.results4,lf_e]|with_reducible refine cD (lAlive4 ?_)|((with_reducible first|refine grd_cases (fun h=>?_) (fun h=>?_)|refine condC_split (fun h=>?_) (fun h=>?_))<;>(try simp only [h])<;>(try simp only [NR_,NRb] at h))|omega)
  refine loopA (fun i:Nat=>⟨(.sl 1 none (l.map fun n=>I n)::I n::.any::.any::.any::B true::.raw (.string (textI (pdL i)))::I i::.any::.any::.any::.any::.any::.any::.any::.any::.any::.any::.any::.any::.any::.any::.any::.any::.any::.any::.any::.any::.any::.any::.any::.any::.any::.any::.any::.any::.any::.any::.any::.any::.any::.any::.any::.any::.any::.any::.any::.any::.any::.any::.any::.any::.any::.any::.any::.any::.any::.any::.any::.any::.any::.any::.any::.any::.any::.any::.any::.any::.any::.any::.any::.any::.any::.any::.any::.any::.any::.any::.any::.any::.any::.any::.any::.any::.any::.any::.any::.any::.any::.any::.any::.any::.any::.any::.any::.any::.any::.any::.any::.any::.any::.any::.any::.any::.any::.any::.any::.any::.any::.any::.any::.any::.any::.any::.any::.any::.any::.any::.any::.any::.any::.any::.any::.any::.any::.any::.any::.any::.any::.any::.any::.any::.any::.any::.any::.any::.any::.any::.any::.any::.any::.any::.any::.any::.any::.any::.any::.any::.any::.any::.any::.any::.any::.any::.any::.any::.any::.any::.any::.any::.any::.any::.any::.any::.any::.any::.any::.any::.any::.any::.any::.any::.any::.any::.any::.any::.any::.any::.any::.any::.any::.any::[]),[],true,[]⟩) (fun i=>i≤n) (fun i=>n - i) 0 (St_le_same leA id) (Nat.zero_le _) ?_
  intro i hi
  have hpl:(pdL i).length=i:=List.length_replicate
  rcases Nat.lt_or_ge i n with hin|hin
  ·skip
   repeat' (first|(with_reducible first|refine AW_seqA (AW_block ?_)|refine AW_block ?_|refine cut_loop ?_|refine AW_seqA (AW_seqA ?_)|refine AW_seq ?_|refine AW_runReg ?_|refine AW_runCond ?_)|simp only [WL,intF,strF,WM,reduceCtorEq,WLb,Nat.reduceAdd,pm_32,textI_app]|simp (disch:=first|omega|(simp only [LN_];omega)) only [wrap_id,str_addT2]|(with_reducible first|refine y_bs (hK:=?_)|refine y_build (hK:=?_))|((with_reducible first|refine grd_cases (fun h=>?_) (fun h=>?_)|refine condC_split (fun h=>?_) (fun h=>?_))<;>(try simp only [h])<;>(try simp only [NR_,NRb] at h))|omega)
   exact ⟨i+1,St_le_same (by simp only [pdL,List.replicate_succ'];exact leA) id,hin,by omega⟩
  ·obtain rfl:i=n:=by omega
   repeat' (first|(with_reducible first|refine AW_seqA (AW_block ?_)|refine AW_block ?_|refine cut_loop ?_|refine AW_seqA (AW_seqA ?_)|refine AW_seq ?_|refine AW_runReg ?_|refine AW_runCond ?_)|simp only [WL,intF,strF,WM,reduceCtorEq,WLb,Nat.reduceAdd]|(with_reducible first|refine y_bso (ty:=24) (hK:=fun tb=>?_)|refine y_build (hK:=?_))|((with_reducible first|refine grd_cases (fun h=>?_) (fun h=>?_)|refine condC_split (fun h=>?_) (fun h=>?_))<;>(try simp only [h])<;>(try simp only [NR_,NRb] at h))|omega)
   refine loopA (fun z:MpS=>⟨(.sl 1 none (l.map fun n=>I n)::I i::.any::.any::.any::B true::.raw (.string (textI (pdL i)))::.any::.raw (.string (textI (mpX i (mps l z.i))))::.sl 6 (some z.tk) (EVA (openP 5 tp0)::(mpEs (mps l z.i)).map EVA)::I z.i::.any::.any::.any::.any::.any::.any::.any::.any::.any::.any::.any::.any::.any::.any::.any::.any::.any::.any::.any::.any::.any::.any::.any::.any::.any::.any::.any::.any::.any::.any::.any::.any::.any::.any::.any::.any::.any::.any::.any::.any::.any::.any::.any::.any::.any::.any::.any::.any::.any::.any::.any::.any::.any::.any::.any::.any::.any::.any::.any::.any::.any::.any::.any::.any::.any::.any::.any::.any::.any::.any::.any::.any::.any::.any::.any::.any::.any::.any::.any::.any::.any::.any::.any::.any::.any::.any::.any::.any::.any::.any::.any::.any::.any::.any::.any::.any::.any::.any::.any::.any::.any::.any::.any::.any::.any::.any::.any::.any::.any::.any::.any::.any::.any::.any::.any::.any::.any::.any::.any::.any::.any::.any::.any::.any::.any::.any::.any::.any::.any::.any::.any::.any::.any::.any::.any::.any::.any::.any::.any::.any::.any::.any::.any::.any::.any::.any::.any::.any::.any::.any::.any::.any::.any::.any::.any::.any::.any::.any::.any::.any::.any::.any::.any::.any::.any::.any::.any::.any::.any::.any::.any::[]),[.tip z.tk],true,[]⟩) (fun z=>z.i≤l.length) (fun z=>l.length - z.i) ⟨0,_⟩ (St_le_same leA id) (Nat.zero_le _) ?_
   rintro ⟨m,tk⟩ hm
   dsimp only at hm ⊢
   have hok:=mps_ok (l:=l) (m:=m) (by omega)
   have q1:=mpX_len (n:=i) (by omega) hok (by rw [mps_len];omega)
   have q2:=mpEs_len (mps l m)
   rw [mps_len] at q2
   rcases Nat.lt_or_ge m l.length with hmn|hmn
   ·have e1:mpX i (mps l (m+1))=mpX i (mps l m)++(pdL i++kyL m++[58]++mpT i (l.getD m 0 % 8).toNat):=by rw [mps_succ,mpX_snoc]
    have e2:(mpEs (mps l (m+1))).map EVA=(mpEs (mps l m)).map EVA++(mpEv m (l.getD m 0 % 8).toNat).map EVA:=by rw [mps_succ,mpEs_snoc,List.map_append]
    have hdl:=dg2_len m
    have hWl:(EVA (openP 5 tp0)::(mpEs (mps l m)).map EVA).length≤101:=by rw [List.length_cons,List.length_map];omega
    have e3:EVA (openP 5 tp0)::(mpEs (mps l (m+1))).map EVA=(EVA (openP 5 tp0)::(mpEs (mps l m)).map EVA)++(mpEv m (l.getD m 0 % 8).toNat).map EVA:=by rw [e2];rfl
    generalize (EVA (openP 5 tp0)::(mpEs (mps l m)).map EVA)=WW at *
    generalize mpX i (mps l m)=SS at *
    clear e2 q2 hok
    obtain ⟨k,hk⟩:∃ k:Nat,l.getD m 0 % 8=k:=⟨(l.getD m 0 % 8).toNat,by omega⟩
    have hk8:k < 8:=by omega
    have hkn:(l.getD m 0 % 8).toNat=k:=by omega
    rw [hkn] at e1 e3
    have hkl:(kyL m).length≤3:=by show (dg2 m).length+1≤3;omega
    repeat' (first|(with_reducible first|refine cut_at (id:=16) ?_|refine AW_seqA (AW_block ?_)|refine AW_seqA (AW_seqA ?_)|refine AW_seq ?_|refine AW_runReg ?_|refine AW_runCond ?_)|simp only [WL,intF,strF,WM,reduceCtorEq,WLb,Nat.reduceAdd,true_and,T22,cok11,cok12,cok13,cok16,pm_k,pm_c,textI_app]|simp (disch:=first|omega|(simp only [LN_];omega)) only [str_addT2]|(with_reducible first|refine y_app (hlen:=?_) (hmax:=?_) (hK:=fun tk=>?_)|refine y_bs (hK:=?_)|refine y_build (hK:=?_)|refine cD (lDig (n:=m) (by omega) ?_)|refine cD (lPlainM ?_)|refine cD (lLines ?_ ?_))|((with_reducible first|refine grd_cases (fun h=>?_) (fun h=>?_)|refine condC_split (fun h=>?_) (fun h=>?_))<;>(try simp only [h])<;>(try simp only [NR_,NRb] at h))|omega)
    refine midA (fun tk':Option (Nat × Nat)=>⟨(.sl 1 none (l.map fun n=>I n)::I i::.any::.any::.any::B true::.raw (.string (textI (pdL i)))::.any::.raw (.string (textI (SS++pdL i++kyL m++[58])))::.sl 6 (some tk') (WW++[EVA (scE 1 (kyL m))])::I m::.raw (.string (textI (kyL m)))::.any::.any::.any::.any::.any::.any::.any::.any::.any::.any::.any::.any::.any::.any::.any::.any::.any::.any::.any::.any::.any::.any::.any::.any::.any::.any::.any::.any::.any::.any::.any::.any::.any::.any::.any::.any::.any::.any::.any::.any::.any::.any::.any::.any::.any::.any::.any::.any::.any::.any::.any::.any::.any::.any::.any::.any::.any::.any::.any::.any::.any::.any::.any::.any::.any::.any::.any::.any::.any::.any::.any::.any::.any::.any::.any::.any::.any::.any::.any::.any::.any::.any::.any::.any::.any::.any::.any::.any::.any::.any::.any::.any::.any::.any::.any::.any::.any::.any::.any::.any::.any::.any::.any::.any::.any::.any::.any::.any::.any::.any::.any::.any::.any::.any::.any::.any::.any::.any::.any::.any::.any::.any::.any::.any::.any::.any::.any::.any::.any::.any::.any::.any::.any::.any::.any::.any::.any::.any::.any::.any::.any::.any::.any::.any::.any::.any::.any::.any::.any::.any::.any::.any::.any::.any::.any::.any::.any::.any::.any::.any::.any::.any::.any::.any::.any::.any::.any::.any::.any::.any::[]),[.tip tk'],true,[]⟩) (fun _=>True) ?_ ?_
    ·skip
     repeat' (first|with_reducible refine AW_runReg ?_|simp only [WL,strF,WM,and_true,textI_app]|simp (disch:=first|omega|(simp only [LN_];omega)) only [str_addT2])
     exact ⟨tk,St_le_same leA id⟩
    intro tk' _
    have hS:(SS++pdL i++kyL m++[58]).length≤10020:=by simp only [List.length_append,List.length_singleton];omega
    have hW2:(WW++[EVA (scE 1 (kyL m))]).length≤102:=by simp only [List.length_append,List.length_singleton];omega
    have e4:EVA (openP 5 tp0)::(mpEs (mps l (m+1))).map EVA=(WW++[EVA (scE 1 (kyL m))])++(mpE k).map EVA:=by rw [e3];simp
    have e5:mpX i (mps l (m+1))=(SS++pdL i++kyL m++[58])++mpT i k:=by rw [e1];simp
    generalize (SS++pdL i++kyL m++[58])=S2 at *
    generalize (WW++[EVA (scE 1 (kyL m))])=W2 at *
    generalize textI (kyL m)=ky at *
    clear e1 e3 hkl hdl hWl hkn q1
    rcases (show k=0∨k=1∨k=2∨k=3∨k=4∨k=5∨k=6∨k=7 by omega) with rfl|rfl|rfl|rfl|rfl|rfl|rfl|rfl
    ·have hk9:l.getD m 0 % 8=0:=hk
     have e7:EVA (openP 5 tp0)::(mpEs (mps l (m+1))).map EVA=W2++[EVA (scE 1 [118])]:=e4
     have e6:mpX i (mps l (m+1))=S2++[32,118,32,35,32,99,10]:=by rw [e5];simp [mpT]
     repeat' (first|(with_reducible first|refine AW_block ?_|refine AW_seq ?_|refine AW_runReg ?_|refine AW_runCond ?_)|simp only [WL,intF,strF,WM,reduceCtorEq,WLb,Nat.reduceAdd,beq_self_eq_true,true_and,T3,T22,cok11,fold_and,pm_and7,hk9,pm_s0,pm_v,textI_app]|simp (disch:=first|omega|(simp only [LN_];omega)) only [wrap_id,getI,getI,str_addT2]|(with_reducible first|refine andA (hb:=?_)|refine y_app (hlen:=?_) (hmax:=?_) (hK:=fun tk=>?_)|refine y_bs (hK:=?_)|refine cD (lPlainM ?_))|omega)
     all_goals first
      | (exfalso;omega)
      | (refine ⟨⟨m+1,tk⟩, ?_,hmn,by dsimp only;omega⟩;dsimp only;rw [e6,e7];exact St_le_same leA id)
    ·have hk9:l.getD m 0 % 8=1:=hk
     have e7:EVA (openP 5 tp0)::(mpEs (mps l (m+1))).map EVA=W2++[EVA (scE 1 [])]:=e4
     have e6:mpX i (mps l (m+1))=S2++[10]:=by rw [e5];simp [mpT]
     repeat' (first|(with_reducible first|refine AW_block ?_|refine AW_seq ?_|refine AW_runReg ?_|refine AW_runCond ?_)|simp only [WL,intF,strF,WM,reduceCtorEq,WLb,Nat.reduceAdd,beq_self_eq_true,true_and,T3,T22,cok11,fold_and,pm_and7,hk9,Int.reduceBEq,pm_10,textI_app]|simp (disch:=first|omega|(simp only [LN_];omega)) only [wrap_id,getI,getI,str_addT2]|(with_reducible first|refine andA (hb:=?_)|refine y_app (hlen:=?_) (hmax:=?_) (hK:=fun tk=>?_)|refine y_bs (hK:=?_)|refine cD (lPlainM ?_))|omega)
     all_goals first
      | (exfalso;omega)
      | (refine ⟨⟨m+1,tk⟩, ?_,hmn,by dsimp only;omega⟩;dsimp only;rw [e6,e7];exact St_le_same leA id)
    ·have hk9:l.getD m 0 % 8=2:=hk
     have e7:EVA (openP 5 tp0)::(mpEs (mps l (m+1))).map EVA=W2++[EVA (openP 3 tp0),EVA (scE 1 [118]),EVA (scE 1 []),EVA (shutE 4)]:=e4
     have e6:mpX i (mps l (m+1))=S2++[10]++pdL i++[45,32,118,10]++pdL i++[45,10]:=by rw [e5];simp [mpT]
     repeat' (first|(with_reducible first|refine AW_block ?_|refine AW_seq ?_|refine AW_runReg ?_|refine AW_runCond ?_)|simp only [WL,intF,strF,WM,reduceCtorEq,WLb,Nat.reduceAdd,beq_self_eq_true,true_and,T3,T22,cok11,fold_and,pm_and7,hk9,Int.reduceBEq,pm_10,pm_v,pm_s2a,pm_s2b,textI_app]|simp (disch:=first|omega|(simp only [LN_];omega)) only [wrap_id,getI,getI,str_addT2]|(with_reducible first|refine andA (hb:=?_)|refine y_app (hlen:=?_) (hmax:=?_) (hK:=fun tk=>?_)|refine y_bs (hK:=?_)|refine y_build (hK:=?_)|refine cD (lPlainM ?_))|omega)
     all_goals first
      | (exfalso;omega)
      | (refine ⟨⟨m+1,tk⟩, ?_,hmn,by dsimp only;omega⟩;dsimp only;rw [e6,e7];exact St_le_same leA id)
    ·have hk9:l.getD m 0 % 8=3:=hk
     have e7:EVA (openP 5 tp0)::(mpEs (mps l (m+1))).map EVA=W2++[EVA (openP 5 tp0),EVA (scE 1 [120]),EVA (scE 1 [118]),EVA (shutE 6)]:=e4
     have e6:mpX i (mps l (m+1))=S2++[10]++pdL i++[32,120,58,32,118,10]:=by rw [e5];simp [mpT]
     repeat' (first|(with_reducible first|refine AW_block ?_|refine AW_seq ?_|refine AW_runReg ?_|refine AW_runCond ?_)|simp only [WL,intF,strF,WM,reduceCtorEq,WLb,Nat.reduceAdd,beq_self_eq_true,true_and,T3,T22,cok11,fold_and,pm_and7,hk9,Int.reduceBEq,pm_10,pm_x,pm_v,pm_s3,textI_app]|simp (disch:=first|omega|(simp only [LN_];omega)) only [wrap_id,getI,getI,str_addT2]|(with_reducible first|refine andA (hb:=?_)|refine y_app (hlen:=?_) (hmax:=?_) (hK:=fun tk=>?_)|refine y_bs (hK:=?_)|refine y_build (hK:=?_)|refine cD (lPlainM ?_))|omega)
     all_goals first
      | (exfalso;omega)
      | (refine ⟨⟨m+1,tk⟩, ?_,hmn,by dsimp only;omega⟩;dsimp only;rw [e6,e7];exact St_le_same leA id)
    ·have hk9:l.getD m 0 % 8=4:=hk
     have e7:EVA (openP 5 tp0)::(mpEs (mps l (m+1))).map EVA=W2++[EVA (scE 4 [118,10])]:=e4
     have e6:mpX i (mps l (m+1))=S2++[32,124,10]++pdL i++[32,118,10,10]:=by rw [e5];simp [mpT]
     repeat' (first|(with_reducible first|refine AW_block ?_|refine AW_seq ?_|refine AW_runReg ?_|refine AW_runCond ?_)|simp only [WL,intF,strF,WM,reduceCtorEq,WLb,Nat.reduceAdd,beq_self_eq_true,true_and,T3,T22,fold_and,pm_and7,hk9,Int.reduceBEq,pm_s4a,pm_s4b,pm_vn,textI_app]|simp (disch:=first|omega|(simp only [LN_];omega)) only [wrap_id,getI,getI,str_addT2]|(with_reducible first|refine andA (hb:=?_)|refine y_app (hlen:=?_) (hmax:=?_) (hK:=fun tk=>?_)|refine y_bs (hK:=?_)|refine y_build (hK:=?_))|omega)
     all_goals first
      | (exfalso;omega)
      | (refine ⟨⟨m+1,tk⟩, ?_,hmn,by dsimp only;omega⟩;dsimp only;rw [e6,e7];exact St_le_same leA id)
    ·have hk9:l.getD m 0 % 8=5:=hk
     have e7:EVA (openP 5 tp0)::(mpEs (mps l (m+1))).map EVA=W2++[EVA (scE 1 [118,32,119,10,120])]:=e4
     have e6:mpX i (mps l (m+1))=S2++[32,118,10]++pdL i++[32,32,119,10,10]++pdL i++[32,120,10]:=by rw [e5];simp [mpT]
     repeat' (first|(with_reducible first|refine AW_block ?_|refine AW_seq ?_|refine AW_runReg ?_|refine AW_runCond ?_)|simp only [WL,intF,strF,WM,reduceCtorEq,WLb,Nat.reduceAdd,beq_self_eq_true,true_and,T3,T22,cok11,fold_and,pm_and7,hk9,Int.reduceBEq,pm_s5a,pm_s5b,pm_s5c,pm_vw,textI_app]|simp (disch:=first|omega|(simp only [LN_];omega)) only [wrap_id,getI,getI,str_addT2]|(with_reducible first|refine andA (hb:=?_)|refine y_app (hlen:=?_) (hmax:=?_) (hK:=fun tk=>?_)|refine y_bs (hK:=?_)|refine cD (lPlainM ?_))|omega)
     all_goals first
      | (exfalso;omega)
      | (refine ⟨⟨m+1,tk⟩, ?_,hmn,by dsimp only;omega⟩;dsimp only;rw [e6,e7];exact St_le_same leA id)
    ·have hk9:l.getD m 0 % 8=6:=hk
     have e7:EVA (openP 5 tp0)::(mpEs (mps l (m+1))).map EVA=W2++[EVA ⟨3,.empty,textI [33,116],textI [97],0,true⟩,EVA (scE 1 [118]),EVA (scE 3 [119]),EVA (shutE 4)]:=e4
     have e6:mpX i (mps l (m+1))=S2++[32,38,97,32,33,116,32,91,118,44,10]++pdL i++[32,32,34,119,34,32,93,10]:=by rw [e5];simp [mpT]
     repeat' (first|(with_reducible first|refine AW_block ?_|refine AW_seq ?_|refine AW_runReg ?_|refine AW_runCond ?_)|simp only [WL,intF,strF,WM,reduceCtorEq,WLb,Nat.reduceAdd,beq_self_eq_true,true_and,T3,T22,cok11,fold_and,pm_and7,hk9,Int.reduceBEq,pm_s6a,pm_s6b,pm_a,pm_t,pm_v,pm_w,textI_app]|simp (disch:=first|omega|(simp only [LN_];omega)) only [wrap_id,getI,getI,str_addT2]|(with_reducible first|refine andA (hb:=?_)|refine y_app (hlen:=?_) (hmax:=?_) (hK:=fun tk=>?_)|refine y_bs (hK:=?_)|refine y_build (hK:=?_)|refine cD (lPlainM ?_))|omega)
     all_goals first
      | (exfalso;omega)
      | (refine ⟨⟨m+1,tk⟩, ?_,hmn,by dsimp only;omega⟩;dsimp only;rw [e6,e7];exact St_le_same leA id)
    ·have hk9:l.getD m 0 % 8=7:=hk
     have e7:EVA (openP 5 tp0)::(mpEs (mps l (m+1))).map EVA=W2++[EVA ⟨8,.empty,.empty,textI [97],0,false⟩]:=e4
     have e6:mpX i (mps l (m+1))=S2++[32,42,97,10]:=by rw [e5];simp [mpT]
     repeat' (first|(with_reducible first|refine AW_block ?_|refine AW_seq ?_|refine AW_runReg ?_|refine AW_runCond ?_)|simp only [WL,intF,strF,WM,reduceCtorEq,WLb,Nat.reduceAdd,true_and,T3,T22,fold_and,pm_and7,hk9,Int.reduceBEq,pm_s7,pm_a,textI_app]|simp (disch:=first|omega|(simp only [LN_];omega)) only [wrap_id,getI,getI,str_addT2]|(with_reducible first|refine andA (hb:=?_)|refine y_app (hlen:=?_) (hmax:=?_) (hK:=fun tk=>?_)|refine y_bs (hK:=?_)|refine y_build (hK:=?_))|omega)
     all_goals first
      | (exfalso;omega)
      | (refine ⟨⟨m+1,tk⟩, ?_,hmn,by dsimp only;omega⟩;dsimp only;rw [e6,e7];exact St_le_same leA id)
   ·obtain rfl:m=l.length:=by omega
    obtain ⟨k,d1,hA,hsm,hp⟩:=mp_all (l:=l) (n:=i) (by omega) r0 r1
    have hb1:=asc_text hA
    have hB1:Asc (bytesI (textI (mpX i (mps l l.length)))):=by rw [hb1];exact hA
    have c1:(0:Int)≤0∧0 - (lineP (readR (mpX i (mps l l.length))).1 0).1≤(lineP (readR (mpX i (mps l l.length))).1 0).2.length:=by
     have:=(hsm.at_ (i:=0) (by omega)).2.1
     refine ⟨by decide, ?_⟩
     show 0 - ((readR (mpX i (mps l l.length))).1.getD 0 (0,[])).1≤_
     omega
    have hW:(EVA (openP 5 tp0)::(mpEs (mps l l.length)).map EVA)++[EVA (shutE 6)]=(openP 5 tp0::(mpEs (mps l l.length)++[shutE 6])).map EVA:=by simp
    have hEl:(openP 5 tp0::(mpEs (mps l l.length)++[shutE 6])).length≤1000000000:=by simp only [List.length_cons,List.length_append,List.length_nil];omega
    have hWl:(EVA (openP 5 tp0)::(mpEs (mps l l.length)).map EVA).length≤101:=by rw [List.length_cons,List.length_map];omega
    generalize (EVA (openP 5 tp0)::(mpEs (mps l l.length)).map EVA)=WW at *
    generalize (openP 5 tp0::(mpEs (mps l l.length)++[shutE 6]))=EV at *
    generalize mpX i (mps l l.length)=X at *
    generalize hLS:(readR X).1=LS at *
    clear q2 hok
    repeat' (first|(with_reducible first|refine AW_seqA (AW_block ?_)|refine AW_seqA (AW_seqA ?_)|refine AW_seq ?_|refine AW_runReg ?_|refine AW_runCond ?_|refine AW_runRet ?_)|simp only [WL,intF,WM,reduceCtorEq,WLb,Nat.reduceAdd,Nat.reduceLT,beq_self_eq_true,true_and,reduceIte,T22,cok12,cok13,cok14,cok15,cok16,Tryz.results4,hb1,hLS,hW]|(with_reducible first|refine y_app (hlen:=?_) (hmax:=?_) (hK:=fun tk=>?_)|refine y_bs (hK:=?_)|refine y_build (hK:=?_)|refine cD (lLines hB1 ?_)|refine callD_mk (zNodeOk0 d1 hsm ⟨by decide,hp⟩ c1 (fun rb rc cs hrc=>?_))|refine cD (rSameRow (l:=EV) hEl ?_)|refine cD (lNum4 ?_))|((with_reducible first|refine grd_cases (fun h=>?_) (fun h=>?_)|refine condC_split (fun h=>?_) (fun h=>?_))<;>(try simp only [h])<;>(try simp only [NR_,NRb] at h))|omega)
    all_goals first
     | exact leafL subA (leT_eq rfl) rfl
     | (exfalso;omega)
 ·skip
  refine ACallF.dropL (ACallF_intro Tryz.func4 rfl ?_)
  simp only [Tryz.ntmps4]
  repeat' (first|simp only [WL,intF,WM,reduceCtorEq,WLb,Nat.reduceAdd,Nat.reduceSub,Bool.not_true,Bool.not_false,true_and,reduceIte,Bool.false_eq_true,T22,cok10,Tryz.results4]|with_reducible refine cD (lAlive4 ?_)|((with_reducible first|refine grd_cases (fun h=>?_) (fun h=>?_)|refine condC_split (fun h=>?_) (fun h=>?_))<;>(try simp only [h])<;>(try simp only [NR_,NRb] at h))|omega)
  all_goals first
   | exact leafL sub_rfl (leT_eq rfl) rfl
   | (exfalso;omega)
end Go.Proofs.YthkabaiamcjdbaaGreat
