/-
  Texts Ne, Nf, one behind the other.
-/
import Derived.Test.YthkabaiamcjdbaaGreatG30
set_option linter.unusedVariables false
set_option linter.unusedSimpArgs false
set_option maxHeartbeats 16000000
/-
 Chapter 14: lists and mappings by their parts (plain): each part is read by itself.
-/


namespace Go.Proofs.YthkabaiamcjdbaaGreat
open Go.Abs
def Stp (s:Int) (x:Ln):Prop:=bareI x.2=false∧x.1=s∧¬x.2.getD 0 0=9∧markerI x.1 x.2=0
def StE (s:Int) (b b':List Ln):Prop:=(b=[]∧b'=[])∨∃ x r x',b=x::r∧b'=[x']∧Stp s x∧Stp s x'
theorem Small.sub {l l':List Ln} (h:Small l) (hl:l'.length≤l.length) (hm:∀ x∈l',x∈l):Small l':=⟨Nat.le_trans hl h.1,fun x hx=>h.2 x (hm x hx)⟩
theorem getD_pre {pre l:List Ln}{i:Int} (h:0≤i):(pre++l).getD (i+(pre.length:Nat)).toNat (0,[])=l.getD i.toNat (0,[]):=by
 rw [List.getD_eq_getElem?_getD,List.getD_eq_getElem?_getD,List.getElem?_append_right (by omega),show (i+(pre.length:Nat)).toNat - pre.length=i.toNat by omega]
theorem getD_left {a b:List Ln}{i:Int} (h:0≤i) (h1:i < a.length):(a++b).getD i.toNat (0,[])=a.getD i.toNat (0,[]):=by
 rw [List.getD_eq_getElem?_getD,List.getD_eq_getElem?_getD,List.getElem?_append_left (by omega)]
theorem ag_app {pre a b b':List Ln}{s:Int} (h0:0≤s) (hs:Small (pre++(a++b))) (hs':Small (a++b')) (h:StE s b b'):Ag (pre++(a++b)) (a++b') (pre.length:Nat) (a.length:Nat) s:=by
 have hb:b'.length≤b.length:=by
  rcases h with ⟨rfl,rfl⟩|⟨x,r,x',rfl,rfl,-,-⟩<;>simp
 have e1:lineP (pre++(a++b)) ((a.length:Nat)+(pre.length:Nat):Int)=b.headD (0,[]):=by
  show (pre++(a++b)).getD _ _=_
  rw [getD_pre (by omega),List.getD_eq_getElem?_getD,List.getElem?_append_right (by omega)]
  cases b<;>simp
 have e2:lineP (a++b') ((a.length:Nat):Int)=b'.headD (0,[]):=by
  show (a++b').getD _ _=_
  rw [List.getD_eq_getElem?_getD,List.getElem?_append_right (by omega)]
  cases b'<;>simp
 refine ⟨by omega,by omega,h0,fun i hi hm=>?_,by simp only [List.length_append];omega,by simp only [List.length_append];omega, ?_,fun ho=>?_,by simp only [List.length_append];omega,hs,hs'⟩
 ·rw [getD_pre hi,getD_left hi hm,getD_left hi hm]
 ·rcases h with ⟨rfl,rfl⟩|⟨x,r,x',rfl,rfl,s1,s2⟩
  ·unfold overF
   rw [decide_eq_true (by simp only [List.length_append,List.length_nil];omega),decide_eq_true (by simp)]
   rfl
  ·have f1:((pre++(a++x::r)).getD ((a.length:Nat)+(pre.length:Nat):Int).toNat (0,[]))=x:=e1
   have f2:((a++[x']).getD ((a.length:Nat):Int).toNat (0,[]))=x':=e2
   unfold overF
   rw [f1,f2,s1.2.2.2,s2.2.2.2,decide_eq_false (by simp only [List.length_append,List.length_cons];omega),decide_eq_false (by simp only [List.length_append,List.length_cons];omega)]
 ·rcases h with ⟨rfl,rfl⟩|⟨x,r,x',rfl,rfl,s1,s2⟩
  ·unfold overF at ho
   rw [decide_eq_true (by simp)] at ho
   cases ho
  ·unfold StopL
   rw [e1,e2]
   exact ⟨⟨s1.1,s1.2.1,s1.2.2.1⟩,⟨s2.1,s2.2.1,s2.2.2.1⟩⟩
abbrev Part:=List Ln × List EvV
def sgL (x:Ln) (c:Int) (k:Int):Bool :=
 decide (0≤c - x.1) && (decide (c - x.1 < x.2.length) && (x.2.getD (c - x.1).toNat 0 == k && (decide (c - x.1+1=x.2.length) || blankI (x.2.getD (c - x.1+1).toNat 0))))
theorem sgL_eq {ls:List Ln}{i c k:Int}:signP ls i c k=sgL (lineP ls i) c k:=rfl
abbrev levB (ls:List Ln):Int→Int→Int→Bool→PR:=fun i c n pair=>levP ls 199 1 n pair i c (!pair) tp0
def PartOk (s:Int) (F:List Ln→PR) (e:Part):Prop :=
 0 < e.1.length∧Small e.1∧Stp s (e.1.headD (0,[])) ∧
 ∃ i2,F (e.1++[(s,[120])])=.ok (e.2,i2)∧nextP (e.1++[(s,[120])]) i2=.ok (e.1.length,true)
def LastOk (s:Int) (F:List Ln→PR) (e:Part):Prop :=
 0 < e.1.length∧Small e.1∧Stp s (e.1.headD (0,[]))∧∃ i2,F e.1=.ok (e.2,i2)∧nextP e.1 i2=.ok (e.1.length,false)
abbrev allL (l:List Part):List Ln:=l.flatMap (·.1)
abbrev allE (l:List Part):List EvV:=l.flatMap (·.2)
theorem stp_x {s:Int}:Stp s (s,[120]):=⟨(by decide:bareI [120]=false),rfl,(by decide:¬([120]:List Int).getD 0 0=9),by unfold markerI;rw [if_neg (by rintro ⟨-,h,-⟩;simp at h)]⟩
theorem small_x {s:Int}{a:List Ln} (h:Small a) (hl:a.length < 2000) (h0:0≤s∧s≤2000):Small (a++[(s,[120])]):=⟨by simp;omega,fun x hx=>by
 rcases List.mem_append.1 hx with hx|hx
 ·exact h.2 x hx
 ·rw [List.mem_singleton.1 hx];exact ⟨(by decide:([120]:List Int).length≤2000),h0⟩⟩
theorem parts_head {s:Int}{F:List Ln→PR}{T:Ln→Prop}{l:List Part}{last:Part} (h:∀ e∈l,PartOk s F e) (hl:LastOk s F last) (hd:∀ e∈l++[last],T (e.1.headD (0,[]))):∃ x r,allL (l++[last])=x::r∧Stp s x∧T x:=by
 cases l with
 | nil =>
  obtain ⟨h1,-,h3,-⟩:=hl
  have h4:=hd last (by simp)
  cases hq:last.1 with
  | nil=>rw [hq] at h1;simp at h1
  | cons x r=>rw [hq] at h3 h4;exact ⟨x,r,by simp [allL,hq],h3,h4⟩
 | cons e l =>
  obtain ⟨h1,-,h3,-⟩:=h e List.mem_cons_self
  have h4:=hd e (by simp)
  cases hq:e.1 with
  | nil=>rw [hq] at h1;simp at h1
  | cons x r=>rw [hq] at h3 h4;exact ⟨x,r++allL (l++[last]),by simp [allL,hq],h3,h4⟩
theorem fur_at {ls:List Ln}{i k s:Int}{x:Ln} (hn:nextP ls i=.ok (k,true)) (hx:lineP ls k=x) (hs:x.1=s):furP ls i s=.ok (k,true):=by
 unfold furP
 rw [hn]
 dsimp only
 rw [hx,if_neg (by simp;omega),if_neg (by omega)]
theorem line_at {ls pre a r:List Ln}{x:Ln} (h:ls=pre++(a++x::r)):lineP ls ((pre.length+a.length:Nat):Int)=x:=by
 show ls.getD _ _=x
 rw [h,show (((pre.length+a.length:Nat):Int))=((a.length:Nat):Int)+(pre.length:Nat) by omega,getD_pre (by omega),List.getD_eq_getElem?_getD,List.getElem?_append_right (by omega)]
 simp
def FG (s:Int) (ls:List Ln) (Q:Ln→Prop) (F:List Ln→PR) (G:Int→PR):Prop:=∀ pre a b b',ls=pre++(a++b)→Ag ls (a++b') (pre.length:Nat) (a.length:Nat) s→(∀ x,b.head? = some x→Q x)→(∀ x,b'.head? = some x→Q x)→0 < a.length→MvP (pre.length:Nat) (a.length:Nat) (G (pre.length:Nat)) (F (a++b'))
theorem part_on {s:Int}{ls:List Ln}{Q:Ln→Prop}{F:List Ln→PR}{G:Int→PR} (h0:0≤s∧s≤2000) (hs:Small ls) (hF:FG s ls Q F G) (hq:Q (s,[120])) {pre:List Ln}{e:Part}{x:Ln}{r:List Ln} (hls:ls=pre++(e.1++x::r)) (hx:Stp s x) (hqx:Q x) (he:PartOk s F e) :
  ∃ i2,G (pre.length:Nat)=.ok (e.2,i2)∧furP ls i2 s=.ok (((pre.length+e.1.length:Nat):Int),true):=by
 obtain ⟨e1,e2,e3,i2,e4,e5⟩:=he
 have hle:e.1.length < 2000:=by have:=hs.1;rw [hls] at this;simp only [List.length_append,List.length_cons] at this;omega
 have hSt:StE s (x::r) [(s,[120])]:=.inr ⟨x,r,_,rfl,rfl,hx,stp_x⟩
 have hA:Ag ls (e.1++[(s,[120])]) (pre.length:Nat) (e.1.length:Nat) s:=by
  have:=ag_app (pre:=pre) (a:=e.1) h0.1 (by rw [← hls];exact hs) (small_x e2 hle h0) hSt
  rwa [← hls] at this
 obtain ⟨a1,a2,a3⟩:=hF _ _ _ _ hls hA (fun y h=>by cases h;exact hqx) (fun y h=>by cases h;exact hq) e1 _ _ e4
 obtain ⟨b1,b2,b3,b4⟩:=hA.nextP a2 a3 e5
 refine ⟨_,a1,fur_at (x:=x) (s:=s) ?_ (line_at hls) hx.2.1⟩
 rw [b1]
 congr 2
 omega
theorem last_on {s:Int}{ls:List Ln}{Q:Ln→Prop}{F:List Ln→PR}{G:Int→PR} (h0:0≤s∧s≤2000) (hs:Small ls) (hF:FG s ls Q F G) {pre:List Ln}{e:Part} (hls:ls=pre++e.1) (he:LastOk s F e) :
  ∃ i2,G (pre.length:Nat)=.ok (e.2,i2)∧furP ls i2 s=.ok (i2,false)∧nextP ls i2=.ok (((ls.length:Nat):Int),false):=by
 obtain ⟨e1,e2,e3,i2,e4,e5⟩:=he
 have hls':ls=pre++(e.1++[]):=by rw [List.append_nil];exact hls
 have hA:Ag ls (e.1++[]) (pre.length:Nat) (e.1.length:Nat) s:=by
  have:=ag_app (pre:=pre) (a:=e.1) (b:=[]) (b':=[]) h0.1 (by rw [← hls'];exact hs) (by rw [List.append_nil];exact e2) (.inl ⟨rfl,rfl⟩)
  rwa [← hls'] at this
 obtain ⟨a1,a2,a3⟩:=hF pre e.1 [] [] hls' hA (fun y h=>by cases h) (fun y h=>by cases h) e1 e.2 i2 (by rw [List.append_nil];exact e4)
 rw [List.append_nil] at hA
 obtain ⟨b1,b2,b3,b4⟩:=hA.nextP a2 a3 e5
 have hlen:((e.1.length:Nat):Int)+(pre.length:Nat)=((ls.length:Nat):Int):=by rw [hls];simp only [List.length_append];omega
 rw [hlen] at b1
 refine ⟨_,a1, ?_,b1⟩
 unfold furP
 rw [b1]
 dsimp only
 rw [if_pos (.inl rfl)]
abbrev entF (s:Int) (l:List Ln):PR:=levB l 0 (s+1) s false
theorem ents_parts {s:Int}{ls:List Ln} (h0:0≤s∧s≤2000) (hs:Small ls) {last:Part} (hL:LastOk s (entF s) last):∀ (l:List Part) (pre:List Ln) (f:Nat) (acc:List EvV),(∀ e∈l,PartOk s (entF s) e)→(∀ e∈l++[last],sgL (e.1.headD (0,[])) s 45=true)→ls=pre++allL (l++[last])→l.length < f →
  ∃ k,entriesP ls (levB ls) s false f (pre.length:Nat) acc=.ok (acc++allE (l++[last]),k)∧nextP ls k=.ok (((ls.length:Nat):Int),false):=by
 have hF:FG s ls (fun _=>True) (entF s) (fun i=>levB ls i (s+1) s false):=by
  intro pre a b b' _ hA _ _ ha
  have:=hA.lev 199 (d0:=1) (n:=s) (pair:=false) (Int.le_refl _) (by omega) (fun _ h=>by cases h) 0 (s+1) true tp0 (Int.le_refl _) (by omega) (by omega) (by omega)
  rw [Int.zero_add] at this
  exact this
 intro l
 induction l with
 | nil =>
  intro pre f acc _ _ hls hf
  cases f with
  | zero=>omega
  | succ f =>
   obtain ⟨i2,a1,a2,a3⟩:=last_on (pre:=pre) h0 hs hF (by rw [hls];simp [allL]) hL
   refine ⟨i2, ?_,a3⟩
   rw [entriesP,a1]
   dsimp only
   rw [a2]
   simp [allE]
 | cons e l ih =>
  intro pre f acc hl hd hls hf
  cases f with
  | zero=>omega
  | succ f =>
   obtain ⟨x,r,hx,hst,hsg⟩:=parts_head (T:=fun x=>sgL x s 45=true) (fun e he=>hl e (List.mem_cons_of_mem _ he)) hL (fun e he=>hd e (List.mem_cons_of_mem _ he))
   have hls2:ls=pre++(e.1++x::r):=by rw [← hx,hls];simp [allL]
   obtain ⟨i2,a1,a2⟩:=part_on h0 hs hF trivial hls2 hst trivial (hl e List.mem_cons_self)
   obtain ⟨k,b1,b2⟩:=ih (pre++e.1) f (acc++e.2) (fun e he=>hl e (List.mem_cons_of_mem _ he)) (fun e he=>hd e (List.mem_cons_of_mem _ he)) (by rw [hls];simp [allL]) (by simp only [List.length_cons] at hf;omega)
   refine ⟨k, ?_,b2⟩
   rw [List.length_append] at b1
   rw [entriesP,a1]
   dsimp only
   rw [a2]
   dsimp only
   rw [if_neg (by simp),sgL_eq,line_at hls2,hsg,if_neg (by simp),b1]
   simp [allE]
theorem seq_parts {s:Int}{ls:List Ln} (h0:0≤s∧s≤2000) (hs:Small ls) {last:Part}{l:List Part}{pre:List Ln}{t:TP} (hL:LastOk s (entF s) last) (hl:∀ e∈l,PartOk s (entF s) e) (hd:∀ e∈l++[last],sgL (e.1.headD (0,[])) s 45=true) (hls:ls=pre++allL (l++[last])) (hlen:l.length≤ls.length) :
  ∃ k,seqP ls (levB ls) (pre.length:Nat) s false t=.ok (openP 3 t::(allE (l++[last])++[shutE 4]),k)∧nextP ls k=.ok (((ls.length:Nat):Int),false):=by
 obtain ⟨k,a1,a2⟩:=ents_parts h0 hs hL l pre (ls.length+1) [] hl hd hls (by omega)
 refine ⟨k, ?_,a2⟩
 unfold seqP
 rw [a1]
 simp
theorem doc_at {ls:List Ln}{k e:Int}{ev:List EvV} (hn:nextP ls 1=.ok (k,true)) (hr:0 < (restP ls 0 0).1.length→False) (hk:0≤(lineP ls k).1) (ha:atP ls (seqP ls (levB ls)) (mapP ls (levB ls) 1) (nodeP ls (seqP ls (levB ls)) (mapP ls (levB ls) 1) 0 (-1) false (2 * ls.length+1)) 0 (-1) k (lineP ls k).1 true tp0=.ok (ev,e)) (he:nextP ls e=.ok (((ls.length:Nat):Int),false)):docP ls 0 0=.ok (ev,((ls.length:Nat):Int)):=by
 unfold docP levP
 rw [decide_eq_true rfl,nodeP,if_neg hr]
 rw [show (0:Int)+1=1 from rfl,hn]
 dsimp only
 rw [if_neg (by rintro (h|h|⟨h,-⟩)<;>first|(cases h;done)|omega),if_neg (by omega)]
 rw [show (fun i c n pair=>levP ls 199 1 n pair i c (!pair) tp0)=levB ls from rfl,ha]
 dsimp only
 rw [he]
 rfl
theorem doc_first {ls:List Ln}{e:Int}{ev:List EvV} (hr:0 < (restP ls 0 0).1.length) (ha:atP ls (seqP ls (levB ls)) (mapP ls (levB ls) 1) (nodeP ls (seqP ls (levB ls)) (mapP ls (levB ls) 1) 0 (-1) false (2 * ls.length+1)) 0 (-1) 0 (restP ls 0 0).2 true tp0=.ok (ev,e)) (he:nextP ls e=.ok (((ls.length:Nat):Int),false)):docP ls 0 0=.ok (ev,((ls.length:Nat):Int)):=by
 unfold docP levP
 rw [decide_eq_true rfl,nodeP,if_pos hr]
 rw [show (0:Int)+1=1 from rfl]
 rw [show (fun i c n pair=>levP ls 199 1 n pair i c (!pair) tp0)=levB ls from rfl,ha]
 dsimp only
 rw [he]
 rfl
def sameB (a b:ByteArray):Bool:=a.data.toList == b.data.toList
theorem sameB_eq {a b:ByteArray} (h:sameB a b=true):a=b:=by
 unfold sameB at h
 have h2:=eq_of_beq h
 cases a;cases b
 congr 1
 exact Array.toList_inj.1 h2
def evSame (a b:EvV):Bool:=a.k == b.k && (sameB a.x b.x && (sameB a.t b.t && (sameB a.a b.a && (a.s == b.s && a.f == b.f))))
theorem evSame_eq {a b:EvV} (h:evSame a b=true):a=b:=by
 unfold evSame at h
 simp only [Bool.and_eq_true,beq_iff_eq] at h
 obtain ⟨h1,h2,h3,h4,h5,h6⟩:=h
 cases a;cases b
 dsimp only at *
 rw [h1,sameB_eq h2,sameB_eq h3,sameB_eq h4,h5,h6]
def evsSame:List EvV→List EvV→Bool
 | [],[]=>true
 | a::l,b::r=>evSame a b && evsSame l r
 | _,_=>false
theorem evsSame_eq:∀ {l r:List EvV},evsSame l r=true→l=r
 | [],[],_=>rfl
 | a::l,b::r,h=>by
  unfold evsSame at h
  rw [Bool.and_eq_true] at h
  rw [evSame_eq h.1,evsSame_eq h.2]
 | [],_::_,h=>by cases h
 | _::_,[],h=>by cases h
def smallB (a:List Ln):Bool:=Nat.ble a.length 1000 && a.all fun x=>Nat.ble x.2.length 2000 && (decide (0≤x.1) && decide (x.1≤2000))
theorem smallB_s {a:List Ln} (h:smallB a=true):Small a:=by
 unfold smallB at h
 simp only [Bool.and_eq_true,Nat.ble_eq,List.all_eq_true,decide_eq_true_eq] at h
 exact ⟨by omega,h.2⟩
def stpB (s:Int) (x:Ln):Bool:=!bareI x.2 && (x.1 == s && (!(x.2.getD 0 0 == 9) && markerI x.1 x.2 == 0))
theorem stpB_s {s:Int}{x:Ln} (h:stpB s x=true):Stp s x:=by
 unfold stpB at h
 simp only [Bool.and_eq_true,beq_iff_eq,Bool.not_eq_true',beq_eq_false_iff_ne] at h
 exact ⟨h.1,h.2.1,h.2.2.1,h.2.2.2⟩
def headB (s:Int) (a:List Ln):Bool:=match a with
 | []=>false
 | x::_=>smallB a && stpB s x
theorem headB_s {s:Int}{a:List Ln} (h:headB s a=true):0 < a.length∧Small a∧Stp s (a.headD (0,[])):=by
 cases a with
 | nil=>cases h
 | cons x a =>
  have h:(smallB (x::a) && stpB s x)=true:=h
  rw [Bool.and_eq_true] at h
  exact ⟨by simp,smallB_s h.1,stpB_s h.2⟩
def endB (a:List Ln) (n:Nat) (b:Bool) (ev:List EvV) (r:PR):Bool:=match r with
 | .error _=>false
 | .ok (e,i2)=>evsSame e ev && match nextP a i2 with
  | .error _=>false
  | .ok (k,b')=>k == (n:Int) && b' == b
theorem endB_s {a:List Ln}{n:Nat}{b:Bool}{ev:List EvV}{r:PR} (h:endB a n b ev r=true):∃ i2,r=.ok (ev,i2)∧nextP a i2=.ok ((n:Int),b):=by
 unfold endB at h
 split at h
 ·cases h
 ·rename_i e i2
  rw [Bool.and_eq_true] at h
  obtain ⟨h1,h2⟩:=h
  split at h2
  ·cases h2
  ·rename_i k b' hn
   rw [Bool.and_eq_true,beq_iff_eq,beq_iff_eq] at h2
   rw [evsSame_eq h1]
   exact ⟨i2,rfl,by rw [hn,h2.1,h2.2]⟩
def okPart (s:Int) (F:List Ln→PR) (a:List Ln) (ev:List EvV):Bool:=headB s a && endB (a++[(s,[120])]) a.length true ev (F (a++[(s,[120])]))
theorem okPart_s {s:Int}{F:List Ln→PR}{a:List Ln}{ev:List EvV} (h:okPart s F a ev=true):PartOk s F (a,ev):=by
 unfold okPart at h
 rw [Bool.and_eq_true] at h
 obtain ⟨h1,h2,h3⟩:=headB_s h.1
 exact ⟨h1,h2,h3,endB_s h.2⟩
def okLast (s:Int) (F:List Ln→PR) (a:List Ln) (ev:List EvV):Bool:=headB s a && endB a a.length false ev (F a)
theorem okLast_s {s:Int}{F:List Ln→PR}{a:List Ln}{ev:List EvV} (h:okLast s F a ev=true):LastOk s F (a,ev):=by
 unfold okLast at h
 rw [Bool.and_eq_true] at h
 obtain ⟨h1,h2,h3⟩:=headB_s h.1
 exact ⟨h1,h2,h3,endB_s h.2⟩
theorem all_range {n k:Nat}{f:Nat→Bool} (h:(List.range n).all f=true) (hk:k < n):f k=true:=List.all_eq_true.1 h k (List.mem_range.2 hk)
abbrev GoodR (r:List Int):Prop:=∀ c∈r,c=9∨32≤c∧c≤126
theorem tx_rows_end {r:List Int} (hr:GoodR r) (h0:r≠[]):∀ rows:List (List Int),(∀ r∈rows,GoodR r)→tx [] (rows.flatMap (· ++ [10])++r)=rows++[r]
 | [],_=>by
  show tx [] r=_
  rw [tx_none (fun c hc=>by have:=hr c hc;simp [brk];omega)]
  simp [h0]
 | x::rs,h=>by
  show tx [] (((x++[10])++rs.flatMap (· ++ [10]))++r)=_
  rw [List.append_assoc,List.append_assoc,List.singleton_append,tx_stepB (fun c hc=>by have:=h x (by simp) c hc;simp [brk];omega) (by decide) (by rintro ⟨h,-⟩;exact absurd h (by decide)),tx_rows_end hr h0 rs (fun x hx=>h x (by simp [hx]))]
  rfl
theorem rows_good {rows:List (List Int)} (h:∀ r∈rows,GoodR r):∀ c∈rows.flatMap (· ++ [(10:Int)]),c=9∨c=10∨32≤c∧c≤126:=fun c hc=>by
 obtain ⟨r,hr,hcr⟩:=List.mem_flatMap.1 hc
 rcases List.mem_append.1 hcr with h1|h1
 ·have:=h r hr c h1;omega
 ·simp at h1;omega
theorem rows_lines_end {rows:List (List Int)}{r:List Int} (h:∀ r∈rows,GoodR r) (hr:GoodR r) (h0:r≠[]):(readR (rows.flatMap (· ++ [10])++r)).1=(rows++[r]).map lineOf:=by
 have hg:readOk (rows.flatMap (· ++ [10])++r)=true:=by
  unfold readOk
  rw [List.all_eq_true]
  intro c hc
  have:c=9∨c=10∨32≤c∧c≤126:=by
   rcases List.mem_append.1 hc with h1|h1
   ·exact rows_good h c h1
   ·have:=hr c h1;omega
  refine goodC_yes ?_ (by omega)
  unfold printI
  simp;omega
 unfold readR
 rw [if_pos hg]
 show linesOf _=_
 unfold linesOf
 rw [tx_rows_end hr h0 rows h]
theorem rest_stp {ls:List Ln}{i s:Int} (h:Stp s (lineP ls i)) (h0:0≤s) (hb:blankI ((lineP ls i).2.getD 0 0)=false):(restP ls i 0).2=s∧0 < (restP ls i 0).1.length:=by
 obtain ⟨h1,h2,-,-⟩:=h
 obtain ⟨b1,b2⟩:=bare_head h1
 have hc:cutP ls i 0=(lineP ls i).2:=by
  unfold cutP
  rw [h2,show (min (max 0 s - s) (((lineP ls i).2.length:Nat):Int)).toNat=0 by omega]
  rfl
 have hn:blN (lineP ls i).2=0:=by
  unfold blN
  cases hl:(lineP ls i).2 with
  | nil=>rfl
  | cons c t =>
   rw [hl] at hb
   have hb:blankI c=false:=hb
   rw [List.takeWhile_cons,hb]
   rfl
 unfold restP
 rw [hc]
 rw [b2]
 rw [if_neg (by simp),hn,h2]
 rw [hn] at b1
 exact ⟨by dsimp only;omega,b1⟩
abbrev headL (b:Bool):List Ln:=if b then [(0,[35,32,104,101,97,100]),(0,[])] else []
theorem doc_head {b:Bool}{ls r:List Ln}{x:Ln}{s:Int}{ev:List EvV}{e:Int} (h0:0≤s) (hls:ls=headL b++x::r) (hx:Stp s x) (hb:blankI (x.2.getD 0 0)=false) (ha:atP ls (seqP ls (levB ls)) (mapP ls (levB ls) 1) (nodeP ls (seqP ls (levB ls)) (mapP ls (levB ls) 1) 0 (-1) false (2 * ls.length+1)) 0 (-1) ((headL b).length:Nat) s true tp0=.ok (ev,e)) (he:nextP ls e=.ok (((ls.length:Nat):Int),false)):docP ls 0 0=.ok (ev,((ls.length:Nat):Int)):=by
 have hl:lineP ls (((headL b).length:Nat):Int)=x:=by
  have:=line_at (pre:=headL b) (a:=[]) (by rw [hls];rfl:ls=headL b++([]++x::r))
  simpa using this
 cases b
 ·obtain ⟨r1,r2⟩:=rest_stp (ls:=ls) (i:=0) (s:=s) (by rw [show lineP ls 0=x from hl];exact hx) h0 (by rw [show lineP ls 0=x from hl];exact hb)
  exact doc_first r2 (by rw [r1];exact ha) he
 ·have hl2:lineP ls 2=x:=hl
  have hlen:ls.length=r.length+3:=by rw [hls];show ([_,_]++x::r:List Ln).length=_;simp;try omega
  have hn:nextP ls 1=.ok (2,true):=by
   have hB:nextB ls ls.length 1=2:=by
    rw [hlen,show r.length+3=(r.length+1)+1+1 from rfl,nextB]
    rw [if_pos ⟨by omega,by rw [show lineP ls 1=(0,[]) by rw [hls];rfl];decide⟩,show (1:Int)+1=2 from rfl,nextB,if_neg (by rw [hl2,hx.1];simp)]
   unfold nextP
   rw [hB]
   have ho:overF ls 2=false:=by
    have e:ls.getD (2:Int).toNat (0,[])=x:=hl2
    unfold overF
    rw [e,hx.2.2.2,decide_eq_false (by omega)]
    rfl
   rw [ho,if_neg (by simp),hl2,if_neg hx.2.2.1]
  refine doc_at hn (by rw [show (restP ls 0 0).1=[] from by rw [hls];rfl];simp) (by rw [hl2,hx.2.1];exact h0) (by rw [hl2,hx.2.1];exact ha) he
end Go.Proofs.YthkabaiamcjdbaaGreat
