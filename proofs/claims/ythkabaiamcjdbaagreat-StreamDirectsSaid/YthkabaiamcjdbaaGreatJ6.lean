/-
  Texts Sh, Sl, Sm, Sf, Fd, Sq, Sk, MD, Ha, Hb, ME, one behind the other.
-/
import Derived.Test.YthkabaiamcjdbaaGreatJ5
set_option linter.unusedVariables false
set_option linter.unusedSimpArgs false
set_option maxHeartbeats 16000000
namespace Go.Proofs.YthkabaiamcjdbaaGreat
open Go.Abs
variable {κ:Ctx} {σ:List Res} {K:Ret→List Res→Prop} {o o':Option (Option (Nat × Nat))}
theorem Pr {m:Nat} (hm:m≤1000000000) (hK:K (.ret (.tup [.raw (.int .u64 0),.raw (.int .u64 m)])) σ):ACallF κ Tryz.prog 215 [.raw (.int .u64 1),.raw (.int .u64 m)] σ K:=by
 refine ACallF.dropL (aa Tryz.func215 rfl ?_);simp only [Tryz.ntmps215]
 repeat' (first|simp only [WL,ay,WM,Int.reduceToNat,reduceCtorEq,bg,Nat.reduceAdd,Nat.reduceSub,true_and,Tryz.results215,GA,Int.reduceToNat,Int.reducePow,Int.zero_mul,Int.one_mul,Int.zero_add,Int.add_zero,Int.mul_zero,Int.reduceDiv]|simp (disch:=first|omega|(simp only [aU];omega)) only [WE,Um,X8,p7])
 exact ak ae (aj rfl) hK
theorem PL {m:Nat} (hm:m≤1000000000) (hK:K (.ret (.tup [.raw (.int .u64 0),.raw (.int .u64 m)])) σ):ACallF κ Tryz.prog 192 [.raw (.int .u64 1),.raw (.int .u64 m)] σ K:=by
 refine ACallF.dropL (aa Tryz.func192 rfl ?_);simp only [Tryz.ntmps192]
 repeat' (first|simp only [WL,WM,Nat.reduceAdd,Nat.reduceSub,Nat.reduceLT,true_and,Q0,Tryz.results192]|with_reducible refine cD (Pr (by omega) ?_))
 exact ak ae (aj rfl) hK
theorem Ev {c:Int}{n m k:Nat} (h:n+k≤m):lay (List.replicate n (I c)++List.replicate (m - n) (I 0)) n (List.replicate k (I c))=List.replicate (n+k) (I c)++List.replicate (m - (n+k)) (I 0):=by
 unfold lay;rw [List.take_left' (by simp),List.length_replicate,List.drop_append];simp only [List.length_replicate,List.drop_replicate];rw [show n - (n+k)=0 by omega,List.replicate_zero,List.nil_append,show m - n - (n+k - n)=m - (n+k) by omega,List.replicate_append_replicate]
theorem Ai {c:Int}{m:Nat} (hm:m≤1000000000) (hK:∀ tk,K (.ret (SI (some tk) (List.replicate m c))) (.tip tk::σ)):ACallF κ Tryz.prog 160 [SI o [c],I m] σ K:=by
 refine ACallF.freeze ?_;rcases Nat.eq_zero_or_pos m with rfl|hpos
 ·
  refine ACallF.dropL (aa Tryz.func160 rfl ?_);simp only [Tryz.ntmps160]
  repeat' (first|simp only [WL,ay,WM,reduceCtorEq,bg,Nat.reduceAdd,Nat.reduceSub,Nat.reduceLT,Bool.not_false,true_and,reduceIte,Bool.false_eq_true,cb,cI z7,cI UZ,Lh,Int.cast_ofNat_Int]|simp (disch:=first|omega|(simp only [aU];omega)) only [an,p7]|with_reducible refine ax (hb:=?_)|( refine cl (wT vn Il XM UU rfl rfl (by omega) (by decide) (fun b=>?_)))|( refine cl (pG 0 rfl rfl vn Il (PZ _) ?_ ?_))|with_reducible refine cD (PL (by omega) ?_)|((with_reducible first|refine ai (fun h=>?_) (fun h=>?_)|refine ab (fun h=>?_) (fun h=>?_))<;>(try simp only [h])<;>(try simp only [bf,ba] at h))|omega)
  refine bF (fun _:Unit=>⟨(.any::.any::.any::.any::.any::.any::.any::bT b 0 0 0::I 0::.any::.any::.any::.any::.any::.any::.any::.any::.any::.any::.any::.any::.any::.any::.any::.any::.any::.any::.any::.any::.any::.any::.any::.any::.any::.any::.any::.any::.any::.any::.any::.any::.any::.any::.any::.any::.any::.any::.any::[]),.obj b []::σ,true,[]⟩) (fun _=>True) (fun _=>0) () (aq bH id) trivial ?_;rintro ⟨⟩ _
  repeat' (first|simp only [WL,ay,WM,ne_eq,reduceCtorEq,not_false_eq_true,Nat.reduceLT,true_and,cb,Tryz.results160]|((with_reducible refine ik (id:=9) [0,1,2,3,4,5,6] (some 7) [([8],some 9),([],none)] (fun _=>True) trivial mixed ?_ ?_);kernel_rfl)|((with_reducible apply aW);intro σq hq)|((with_reducible apply bD);rfl;rfl)|((with_reducible first|refine ai (fun h=>?_) (fun h=>?_)|refine ab (fun h=>?_) (fun h=>?_))<;>(try simp only [h])<;>(try simp only [bf,ba] at h))|omega)
  exact ak ae (aj rfl) (.inr ⟨b,[],σ,rfl,ResW.refl _,by simp,Nat.zero_le _,hK _⟩)
 ·
  refine ACallF.dropL (aa Tryz.func160 rfl ?_);simp only [Tryz.ntmps160]
  repeat' (first|simp only [WL,ay,WM,reduceCtorEq,bg,Nat.reduceAdd,Nat.reduceSub,Nat.reduceLT,Bool.not_false,true_and,reduceIte,Bool.false_eq_true,cb,cI z7,cI UZ,Lh]|simp (disch:=first|omega|(simp only [aU];omega)) only [an,p7]|with_reducible refine ax (hb:=?_)|( refine cl (wT vn Il XM UU rfl rfl (by omega) (by decide) (fun b=>?_)))|( refine cl (pG 0 rfl rfl vn Il (PZ _) ?_ ?_))|with_reducible refine cD (PL (by omega) ?_)|((with_reducible first|refine ai (fun h=>?_) (fun h=>?_)|refine ab (fun h=>?_) (fun h=>?_))<;>(try simp only [h])<;>(try simp only [bf,ba] at h))|omega|(simp only [aU];omega))
  have e0:lay (List.replicate m (I 0)) 0 (((([c]:List Int).map I).take m).flatMap AV.cells)=List.replicate 1 (I c)++List.replicate (m - 1) (I 0):=by
   have:=Ev (c:=c) (n:=0) (m:=m) (k:=1) (by omega)
   simp only [List.replicate_zero,List.nil_append,Nat.sub_zero,Nat.zero_add] at this;rw [← this,List.map_cons,List.map_nil,List.take_of_length_le (by simp;omega)];rfl
  refine bF (fun n:Nat=>⟨(.any::.any::.any::.any::.any::.any::.any::bT b 0 m m::I n::.any::.any::.any::.any::.any::.any::.any::.any::.any::.any::.any::.any::.any::.any::.any::.any::.any::.any::.any::.any::.any::.any::.any::.any::.any::.any::.any::.any::.any::.any::.any::.any::.any::.any::.any::.any::.any::.any::.any::[]),.obj b (List.replicate n (I c)++List.replicate (m - n) (I 0))::σ,true,[]⟩) (fun n=>1≤n∧n≤m) (fun n=>m - n) 1 (aM bH ?_ id) ⟨Nat.le_refl _,hpos⟩ ?_
  ·have:=e0
   simp only [List.map_cons,List.map_nil] at this;exact this ▸ ResW.refl _
  rintro n ⟨h1,h2⟩
  repeat' (first|simp only [WL,ay,WM,ne_eq,reduceCtorEq,not_false_eq_true,true_and,cb,Tryz.results160]|simp (disch:=first|omega|(simp only [aU];omega)) only [an]|( refine iZ (xQ vn Il (by omega) (by omega) iY) ?_)|( refine iZ (yx vn Il (by omega) (by omega) (by omega) iY) ?_)|( refine cl (vx 0 rfl rfl vn Il ?_ ?_ ?_ ?_))|((with_reducible refine ik (id:=9) [0,1,2,3,4,5,6] (some 7) [([8],some 9),([],none)] (fun _=>True) trivial mixed ?_ ?_);kernel_rfl)|((with_reducible apply aW);intro σq hq)|(with_reducible exact b9)|((with_reducible apply bD);rfl;rfl)|(with_reducible refine bV trivial ?_)|((with_reducible first|refine ai (fun h=>?_) (fun h=>?_)|refine ab (fun h=>?_) (fun h=>?_))<;>(try simp only [h])<;>(try simp only [bf,ba] at h))|(simp only [aU];omega))
  ·rw [List.all_eq_true]
   intro x hx;rcases List.mem_append.1 hx with hx|hx<;>rw [(List.mem_replicate.1 hx).2]<;>rfl
  ·have et:(List.replicate n (I c)++List.replicate (m - n) (I 0)).take (min n (m - n))=List.replicate (min n (m - n)) (I c):=by
    rw [List.take_append_of_le_length (by simp;omega),List.take_replicate];congr 1;omega
   have e1:=Ev (c:=c) (n:=n) (m:=m) (k:=min n (m - n)) (by omega)
   refine ⟨n+min n (m - n),aM bH ?_ id,⟨by omega,by omega⟩,by omega⟩;rw [← e1,← et,Nat.zero_add];exact ResW.refl _
  ·obtain rfl:n=m:=by omega
   have ec:(List.replicate n (I c)++List.replicate (n - n) (I 0))=(List.replicate n c).map I:=by simp
   rw [ec];refine ak ae (aj rfl) (.inr ⟨b,(List.replicate n c).map I,σ, ?_,ResW.refl _, ?_, ?_,hK _⟩)
   ·simp
   ·intro x hx
    obtain ⟨y,_,rfl⟩:=List.mem_map.1 hx;rfl
   ·exact bq (by simp;omega)
theorem Et {c:Int}{m:Nat} (hm:m≤1000000000) (hK:K (.ret (SI none (List.replicate m c))) σ):ACallF κ Tryz.prog 160 [SI o [c],I m] σ K :=
 ACallF.dropL (Ai hm (fun _=>ak (ah ae) (eI le_ro) hK))
end Go.Proofs.YthkabaiamcjdbaaGreat
namespace Go.Abs
def CT (c:Int):Bool:=c == 10 || c == 13
def tx:List Int→List Int→List (List Int)
 | acc,[]=>if acc.isEmpty then [] else [acc]
 | acc,[c]=>if CT c then [acc] else [acc++[c]]
 | acc,c::d::r=>if c == 13 && d == 10 then acc::tx [] r else if CT c then acc::tx [] (d::r) else tx (acc++[c]) (d::r)
theorem Fm {acc r:List Int}{c:Int} (h:CT c=false):tx acc (c::r)=tx (acc++[c]) r:=by
 have h13:(c == 13)=false:=by simp [CT] at h;simp [h]
 cases r with
 | nil=>simp [tx,h]
 | cons d r=>simp [tx,h,h13]
theorem IC {acc r:List Int}{c:Int} (h:CT c=true) (h2:¬(c=13∧r.head? = some 10)):tx acc (c::r)=acc::tx [] r:=by
 cases r with
 | nil=>simp [tx,h]
 | cons d r =>
  have:(c == 13 && d == 10)=false:=by
   rw [Bool.eq_false_iff];intro e;simp at e;exact h2 (by simp [e])
  simp [tx,h,this]
theorem N2 {acc r:List Int}:tx acc (13::10::r)=acc::tx [] r:=by simp [tx]
theorem MT:∀ {p acc r:List Int},(∀ c∈p,CT c=false)→tx acc (p++r)=tx (acc++p) r
 | [],acc,r,_=>by simp
 | c::p,acc,r,h=>by
  rw [List.cons_append,Fm (h c (by simp)),MT (fun x hx=>h x (by simp [hx]))];simp
theorem M9 {a r:List Int}{c:Int} (ha:∀ x∈a,CT x=false) (hc:CT c=true) (h:¬(c=13∧0 < r.length∧r.getD 0 0=10)):tx [] (a++c::r)=a::tx [] r:=by
 rw [MT ha,List.nil_append];refine IC hc (fun ⟨h1,h2⟩=>h ⟨h1, ?_⟩);cases r with
 | nil=>cases h2
 | cons x r=>simp at h2;simp [h2]
def lineOf (t:List Int):Int × List Int:=(((t.takeWhile (· == 32)).length:Nat),t.dropWhile (· == 32))
def nC (l:List Int):List (Int × List Int):=(tx [] l).map lineOf
def py (c:Int):Bool:=kD c && !(c == 65279)
theorem BE {c:Int} (h:kD c=false∨c=65279):py c=false:=by
 rcases h with h|rfl
 ·simp [py,h]
 ·simp [py]
theorem wL {c:Int} (h:kD c=true) (h2:¬c=65279):py c=true:=by simp [py,h,h2]
def Cm (l:List Int):Bool:=l.all py
def jh (l:List Int):List (Int × List Int) × Int:=if Cm l then (nC l,0) else ([],4)
theorem xr {l:List Int}{k:Nat} (hk:k < l.length) (h:py (l.getD k 0)=false):jh l=([],4):=by
 unfold jh;rw [if_neg];intro hc;have:=List.all_eq_true.1 hc (l.getD k 0) (by simp [List.getD_eq_getElem?_getD,hk])
 rw [h] at this;cases this
theorem I7 {l:List Int} (h:∀ j,j < l.length→py (l.getD j 0)=true):jh l=(nC l,0):=by
 unfold jh;rw [if_pos];refine List.all_eq_true.2 fun x hx=>?_
 obtain ⟨j,hj,rfl⟩:=List.getElem_of_mem hx;have:=h j hj
 simpa [List.getD_eq_getElem?_getD,hj] using this
abbrev LN (x:Int × List Int):AV:=.agg [I x.1,SI none x.2]
abbrev SL (o:Option (Option (Nat × Nat))) (l:List (Int × List Int)):AV:=.sl 2 o (l.map LN)
theorem dO {l:List (Int × List Int)}{k:Nat} (h:k < l.length):(l.map LN).getD k .any=LN (l.getD k (0,[])):=by
 simp [List.getD_eq_getElem?_getD,h]
theorem aX {l:List Int}{k:Nat} (h:k < l.length):l.drop k=l.getD k 0::l.drop (k+1):=by
 rw [List.drop_eq_getElem_cons h];simp [List.getD_eq_getElem?_getD,h]
theorem Gs {l:List Int}{k f:Nat} (h:k < l.length) (hf:f≤k):(l.take (k+1)).drop f=(l.take k).drop f++[l.getD k 0]:=by
 rw [List.take_succ_eq_append_getElem h,List.drop_append_of_le_length (by simp;omega)];simp [List.getD_eq_getElem?_getD,h]
theorem CF {l:List Int}{k f:Nat} (h:k < l.length) (hf:f≤k) (hb:CT (l.getD k 0)=false):tx ((l.take k).drop f) (l.drop k)=tx ((l.take (k+1)).drop f) (l.drop (k+1)):=by
 rw [aX h,Fm hb,Gs h hf]
theorem qG {l:List Int}{k f:Nat} (h:k < l.length) (hb:CT (l.getD k 0)=true) (hn:¬(l.getD k 0=13∧k+1 < l.length∧l.getD (k+1) 0=10)):tx ((l.take k).drop f) (l.drop k)=(l.take k).drop f::tx [] (l.drop (k+1)):=by
 rw [aX h];refine IC hb (fun ⟨h1,h2⟩=>hn ⟨h1, ?_⟩);by_cases hk:k+1 < l.length
 ·rw [aX hk] at h2
  exact ⟨hk,by simpa using h2⟩
 ·rw [List.drop_eq_nil_of_le (by omega)] at h2
  cases h2
theorem Dh {l:List Int}{k f:Nat} (h:k+1 < l.length) (h13:l.getD k 0=13) (h10:l.getD (k+1) 0=10):tx ((l.take k).drop f) (l.drop k)=(l.take k).drop f::tx [] (l.drop (k+2)):=by
 rw [aX (show k < l.length by omega),aX h,h13,h10];exact N2
theorem vM {l:List Int}{k f:Nat} (h:l.length≤k):tx ((l.take k).drop f) (l.drop k)=if f < l.length then [l.drop f] else []:=by
 rw [List.drop_eq_nil_of_le h,List.take_of_length_le h];by_cases hf:f < l.length
 ·rw [if_pos hf]
  have:(l.drop f).isEmpty=false:=by
   rw [aX hf];rfl
  simp [tx,this]
 ·rw [if_neg hf,List.drop_eq_nil_of_le (by omega)];rfl
theorem gQ {l:List Int}{k:Nat}:(l.take k).drop k=[]:=List.drop_eq_nil_of_le (by simp;omega)
theorem Rw {c:Int} (h:¬c=10) (h2:¬c=13):CT c=false:=by simp [CT,h,h2]
theorem yP {c:Int} (h:c=10∨c=13):CT c=true:=by rcases h with h|h<;>simp [CT,h]
def iI (l:List Int):List Int:=(l.reverse.dropWhile blankI).reverse
def lz (n i:Nat) (t:List Int):List Int :=
 if i+1 < n then iI (if 0 < i then t.dropWhile blankI else t) else if 0 < i then t.dropWhile blankI else t
def eO (n:Nat):Nat→List (List Int)→List (List Int)
 | _,[]=>[]
 | i,t::r=>lz n i t::eO n (i+1) r
def fH (e:Nat):List Int:=if e=0 then [32] else List.replicate e 10
def dL:Bool→Nat→List (List Int)→List Int
 | _,_,[]=>[]
 | true,e,t::r=>t++dL false e r
 | false,e,t::r=>if t=[]∧r≠[] then dL false (e+1) r else fH e++t++dL false 0 r
def kS (l:List (List Int)):List Int:=dL true 0 (eO l.length 0 l)
def gm (l:List (List Int)):Nat:=(l.map fun t=>t.length+1).sum
theorem tP (l:List Int):(iI l).length≤l.length:=by
 unfold iI;have:=(List.dropWhile_suffix blankI (l:=l.reverse)).length_le
 simpa using this
theorem xl (l:List Int):(l.dropWhile blankI).length≤l.length:=(List.dropWhile_suffix blankI).length_le
theorem F4 (n i:Nat) (t:List Int):(lz n i t).length≤t.length:=by
 unfold lz;have h1:=xl t
 have h2:=tP t
 have h3:=tP (t.dropWhile blankI)
 split<;>split<;>omega
theorem xy (n:Nat):∀ (i:Nat) (l:List (List Int)),gm (eO n i l)≤gm l
 | _,[]=>by simp [eO,gm]
 | i,t::r=>by
  have:=xy n (i+1) r
  have:=F4 n i t
  simp only [eO,gm,List.map_cons,List.sum_cons] at *;omega
theorem gF (l:List (List Int)):l.length≤gm l:=by
 induction l with
 | nil=>simp [gm]
 | cons t r ih=>simp only [gm,List.map_cons,List.sum_cons,List.length_cons] at *;omega
theorem Ov {l:List (List Int)}{t:List Int} (h:t∈l):t.length+1≤gm l:=by
 induction l with
 | nil=>simp at h
 | cons x r ih =>
  simp only [gm,List.map_cons,List.sum_cons] at *;rcases List.mem_cons.1 h with rfl|h
  ·omega
  ·have:=ih h;omega
theorem pn {l:List (List Int)} (k:Nat):(l.getD k []).length≤gm l:=by
 by_cases h:k < l.length
 ·have:l.getD k []∈l:=by simp [List.getD_eq_getElem?_getD,h]
  have:=Ov this;omega
 ·simp [List.getD_eq_getElem?_getD,h]
theorem iS (e:Nat):(fH e).length≤e+1:=by unfold fH;split<;>simp
theorem lQ:∀ (b:Bool) (e:Nat) (l:List (List Int)),(dL b e l).length≤e+gm l
 | _,_,[]=>by simp [dL]
 | true,e,t::r=>by
  have:=lQ false e r
  simp only [dL,gm,List.map_cons,List.sum_cons,List.length_append] at *;omega
 | false,e,t::r=>by
  have h1:=lQ false (e+1) r
  have h2:=lQ false 0 r
  have h3:=iS e
  simp only [dL,gm,List.map_cons,List.sum_cons] at *;split
  ·omega
  ·simp only [List.length_append];omega
theorem qR (l:List (List Int)):(kS l).length≤gm l:=by
 unfold kS;have h1:=lQ true 0 (eO l.length 0 l)
 have h2:=xy l.length 0 l
 omega
theorem gp {l:List (List Int)}{k:Nat} (h:k < l.length):l.drop k=l.getD k []::l.drop (k+1):=by
 rw [List.drop_eq_getElem_cons h];simp [List.getD_eq_getElem?_getD,h]
abbrev nB (o:Option (Option (Nat × Nat))) (l:List (List Int)):AV:=.sl 1 o (l.map (SI none))
theorem xK {l:List (List Int)}{k:Nat} (h:k < l.length):(l.map (SI none)).getD k .any=SI none (l.getD k []):=by
 simp [List.getD_eq_getElem?_getD,h]
theorem uI {l:List Int} (h:0 < l.length) (hb:blankI (l.getD (l.length - 1) 0)=true):iI l=iI (l.take (l.length - 1)):=by
 have hne:l≠[]:=fun e=>by subst e;simp at h
 have e:l=l.take (l.length - 1)++[l.getD (l.length - 1) 0]:=by
  have:=List.dropLast_concat_getLast hne
  rw [List.dropLast_eq_take] at this;rw [List.getLast_eq_getElem] at this;have h2:l.getD (l.length - 1) 0=l[l.length - 1]'(by omega):=by simp [List.getD_eq_getElem?_getD,show l.length - 1 < l.length by omega]
  rw [h2];exact this.symm
 conv=>lhs;rw [e]
 unfold iI;rw [List.reverse_append,List.reverse_singleton,List.singleton_append,List.dropWhile_cons,if_pos hb]
theorem u7 {l:List Int} (h:0 < l.length) (hb:blankI (l.getD (l.length - 1) 0)=false):iI l=l:=by
 have hne:l≠[]:=fun e=>by subst e;simp at h
 unfold iI;have h1:l.reverse=l.getD (l.length - 1) 0::l.dropLast.reverse:=by
  have:=List.dropLast_concat_getLast hne
  have h2:l.getD (l.length - 1) 0=l.getLast hne:=by
   rw [List.getLast_eq_getElem];simp [List.getD_eq_getElem?_getD,show l.length - 1 < l.length by omega]
  rw [h2]
  conv=>lhs;rw [← this]
  simp
 rw [h1,List.dropWhile_cons,if_neg (by rw [hb];decide),← h1,List.reverse_reverse]
/-! ### Texts of whole lines -/
def cg (l:List (List Int)):Nat:=(l.reverse.dropWhile (·.isEmpty)).length
def od (n full:Nat) (chomp:Int):List Int :=
 if chomp=2 then (if full=0 then List.replicate n 10 else List.replicate (n - full+1) 10) else if chomp=1∨full=0 then [] else [10]
def jN:Bool→List (List Int)→List Int
 | _,[]=>[]
 | true,t::r=>t++jN false r
 | false,t::r=>10::t++jN false r
def GC (l:List (List Int)) (chomp:Int):List Int:=jN true (l.take (cg l))++od l.length (cg l) chomp
def nG (l:List Int):Bool:=decide (0 < l.length) && blankI (l.getD 0 0)
def sep (last:Option (List Int)) (e:Nat) (t:List Int):List Int :=
 match last with
 | none=>List.replicate e 10
 | some s=>if nG s || nG t then fH (e+1) else fH e
def gx:Option (List Int)→Nat→List (List Int)→List Int
 | _,_,[]=>[]
 | last,e,t::r=>if t=[] then gx last (e+1) r else sep last e t++t++gx (some t) 0 r
def F9 (l:List (List Int)) (chomp:Int):List Int:=gx none 0 (l.take (cg l))++od l.length (cg l) chomp
theorem pS (l:List (List Int)):cg l≤l.length:=by
 unfold cg;have:=(List.dropWhile_suffix (fun t:List Int=>t.isEmpty) (l:=l.reverse)).length_le
 simpa using this
theorem Cv {l:List (List Int)}{k:Nat} (h:k < l.length) (hk:(l.getD k []).length=0) (hf:cg l=cg (l.take (k+1))):cg l=cg (l.take k):=by
 rw [hf,List.take_succ_eq_append_getElem h];unfold cg;rw [List.reverse_append,List.reverse_singleton,List.singleton_append,List.dropWhile_cons];have:(l[k]).isEmpty=true:=by
  have h1:l.getD k []=l[k]:=by simp [List.getD_eq_getElem?_getD,h]
  rw [h1] at hk;rw [List.isEmpty_iff];exact List.eq_nil_of_length_eq_zero hk
 rw [if_pos this]
theorem B6 {l:List (List Int)}{k:Nat} (h:k < l.length) (hk:¬(l.getD k []).length=0):cg (l.take (k+1))=k+1:=by
 rw [List.take_succ_eq_append_getElem h];unfold cg;rw [List.reverse_append,List.reverse_singleton,List.singleton_append,List.dropWhile_cons];have:¬(l[k]).isEmpty=true:=by
  have h1:l.getD k []=l[k]:=by simp [List.getD_eq_getElem?_getD,h]
  rw [h1] at hk;rw [List.isEmpty_iff];intro e;rw [e] at hk;simp at hk
 rw [if_neg this];simp;omega
theorem nJ:∀ (b:Bool) (l:List (List Int)),(jN b l).length≤gm l
 | _,[]=>by simp [jN]
 | true,t::r=>by
  have:=nJ false r
  simp only [jN,gm,List.map_cons,List.sum_cons,List.length_append] at *;omega
 | false,t::r=>by
  have:=nJ false r
  simp only [jN,gm,List.map_cons,List.sum_cons,List.length_append,List.length_cons] at *;omega
theorem D7 (s:Option (List Int)) (e:Nat) (t:List Int):(sep s e t).length≤e+1:=by
 unfold sep;split
 ·simp
 ·split
  ·unfold fH;simp
  ·exact iS e
theorem nR:∀ (s:Option (List Int)) (e:Nat) (l:List (List Int)),(gx s e l).length≤e+gm l
 | _,_,[]=>by simp [gx]
 | s,e,t::r=>by
  have h1:=nR s (e+1) r
  have h2:=nR (some t) 0 r
  have h3:=D7 s e t
  simp only [gx,gm,List.map_cons,List.sum_cons] at *;split
  ·omega
  ·simp only [List.length_append];omega
theorem mO (l:List (List Int)) (k:Nat):gm (l.take k)≤gm l:=by
 have e:gm l=gm (l.take k)+gm (l.drop k):=by
  unfold gm;rw [← List.sum_append,← List.map_append,List.take_append_drop]
 omega
theorem nu (n f:Nat) (c:Int) (h:f≤n):(od n f c).length≤n+1:=by
 unfold od;split
 ·split<;>simp<;>omega
 ·split<;>simp
theorem x8 {t:List Int}{r:List (List Int)}{e:Nat}:dL true e (t::r)=t++dL false e r:=rfl
theorem xV {t:List Int}{r:List (List Int)}{e:Nat} (h:t=[]) (h2:r≠[]):dL false e (t::r)=dL false (e+1) r:=by
 simp only [dL];rw [if_pos ⟨h,h2⟩]
theorem BT {t:List Int}{r:List (List Int)}{e:Nat} (h:¬(t=[]∧r≠[])):dL false e (t::r)=fH e++t++dL false 0 r:=by
 simp only [dL];rw [if_neg h]
theorem M8 {l:List (List Int)}{a b:List Int} (h:kS l=a++b):a.length+b.length≤gm l:=by
 have:=qR l
 rw [h] at this;simpa using this
theorem Gc {n i:Nat}{l:List (List Int)} (h:eO n i l=[]):l=[]:=by
 cases l with
 | nil=>rfl
 | cons=>simp [eO] at h
theorem zs {t:List Int}{r:List (List Int)}:jN true (t::r)=t++jN false r:=rfl
theorem C9 {t:List Int}{r:List (List Int)}:jN false (t::r)=10::t++jN false r:=rfl
theorem BG {s:Option (List Int)}{e:Nat}{t:List Int}{r:List (List Int)} (h:t=[]):gx s e (t::r)=gx s (e+1) r:=by
 simp only [gx];rw [if_pos h]
theorem CH {s:Option (List Int)}{e:Nat}{t:List Int}{r:List (List Int)} (h:¬t=[]):gx s e (t::r)=sep s e t++t++gx (some t) 0 r:=by
 simp only [gx];rw [if_neg h]
theorem Ox {l:List (List Int)}{n:Nat}{a b:List Int} (h:jN true (l.take n)=a++b):a.length+b.length≤gm l:=by
 have h1:=nJ true (l.take n)
 have h2:=mO l n
 rw [h,List.length_append] at h1;omega
theorem Pk {l:List (List Int)}{n:Nat}{a b:List Int} (h:gx none 0 (l.take n)=a++b):a.length+b.length≤gm l:=by
 have h1:=nR none 0 (l.take n)
 have h2:=mO l n
 rw [h,List.length_append] at h1;omega
theorem ni {l:List (List Int)}{n k:Nat} (h:k < n) (hn:n≤l.length):(l.take n).drop k=l.getD k []::(l.take n).drop (k+1):=by
 rw [gp (by simp;omega)];congr 1
 simp [List.getD_eq_getElem?_getD,List.getElem?_take_of_lt h]
theorem getD_take {l:List (List Int)}{n k:Nat} (h:k < n):(l.take n).getD k []=l.getD k []:=by
 simp [List.getD_eq_getElem?_getD,List.getElem?_take_of_lt h]
theorem Jl (l:List (List Int)) (c:Int):(GC l c).length≤gm l+l.length+1:=by
 have h1:=nJ true (l.take (cg l))
 have h2:=mO l (cg l)
 have h3:=nu l.length (cg l) c (pS l)
 unfold GC;rw [List.length_append];omega
theorem KO (l:List (List Int)) (c:Int):(F9 l c).length≤gm l+l.length+1:=by
 have h1:=nR none 0 (l.take (cg l))
 have h2:=mO l (cg l)
 have h3:=nu l.length (cg l) c (pS l)
 unfold F9;rw [List.length_append];omega
end Go.Abs
namespace Go.Proofs.YthkabaiamcjdbaaGreat
open Go.Abs
variable {κ:Ctx} {σ:List Res} {K:Ret→List Res→Prop} {o o':Option (Option (Nat × Nat))}
theorem front {l:List Int} (hl:l.length≤1000000000) (hK:K (.ret (SI none (l.dropWhile blankI))) σ):ACallF κ Tryz.prog 222 [SI o l] σ K:=by
 refine ACallF.dropL (aa Tryz.func222 rfl ?_);simp only [Tryz.ntmps222]
 repeat' (first|simp only [WL,WM,Nat.reduceAdd,Nat.reduceSub])
 refine bF (fun x:Option (Option (Nat × Nat)) × List Int=>⟨(SI x.1 x.2::.any::.any::.any::.any::.any::.any::.any::.any::.any::.any::.any::.any::.any::.any::[]),σ,true,[]⟩) (fun x=>x.2.dropWhile blankI=l.dropWhile blankI∧x.2.length≤l.length) (fun x=>x.2.length) (o,l) (aq bH id) ⟨rfl,Nat.le_refl _⟩ ?_;rintro ⟨o',l'⟩ ⟨h1,h2⟩;dsimp only at h1 h2 ⊢
 repeat' (first|simp only [WL,ay,WM,Int.reduceToNat,reduceCtorEq,bg,Nat.reduceAdd,Bool.not_true,true_and,reduceIte,Bool.false_eq_true,T3,cb,fM,Tryz.results222]|simp (disch:=first|omega|(simp only [aU];omega)) only [bL]|(with_reducible first|refine ax (hb:=?_)|refine cD (Blank ?_))|((with_reducible first|refine ai (fun h=>?_) (fun h=>?_)|refine ab (fun h=>?_) (fun h=>?_))<;>(try simp only [h])<;>(try simp only [bf,ba] at h)))
 ·refine ⟨(none,l'.drop 1),aq bH id,⟨?_, ?_⟩, ?_⟩
  ·rw [← h1];exact (EJ (by omega) h).symm
  ·simp;omega
  ·simp;omega
 ·exact ak ae (eI (by rw [← h1,Fo (by omega) h];exact le_ro)) hK
 ·exact ak ae (eI (by rw [← h1,List.eq_nil_of_length_eq_zero (l:=l') (by omega)];exact le_ro)) hK
theorem back {l:List Int} (hl:l.length≤1000000000) (hK:K (.ret (SI none (iI l))) σ):ACallF κ Tryz.prog 223 [SI o l] σ K:=by
 refine ACallF.dropL (aa Tryz.func223 rfl ?_);simp only [Tryz.ntmps223]
 repeat' (first|simp only [WL,WM,Nat.reduceAdd,Nat.reduceSub])
 refine bF (fun x:Option (Option (Nat × Nat)) × List Int=>⟨(SI x.1 x.2::.any::.any::.any::.any::.any::.any::.any::.any::.any::.any::.any::.any::.any::.any::.any::.any::.any::.any::.any::.any::[]),σ,true,[]⟩) (fun x=>iI x.2=iI l∧x.2.length≤l.length) (fun x=>x.2.length) (o,l) (aq bH id) ⟨rfl,Nat.le_refl _⟩ ?_;rintro ⟨o',l'⟩ ⟨h1,h2⟩;dsimp only at h1 h2 ⊢;have e1:0 < l'.length→((l'.length:Int) - 1).toNat=l'.length - 1:=fun _=>by omega
 repeat' (first|simp only [WL,ay,WM,Int.reduceToNat,reduceCtorEq,bg,Nat.reduceAdd,Bool.not_true,true_and,reduceIte,Bool.false_eq_true,T3,cb,fM,Tryz.results223]|simp (disch:=first|omega|(simp only [aU];omega)) only [an,bL]|(with_reducible first|refine ax (hb:=?_)|refine cD (Blank ?_))|((with_reducible first|refine ai (fun h=>?_) (fun h=>?_)|refine ab (fun h=>?_) (fun h=>?_))<;>(try simp only [h])<;>(try simp only [bf,ba] at h)))
 ·exact ⟨(none,l'.take (l'.length - 1)),aq (by simp only [e1 (by omega)];exact bH) id,⟨by rw [← h1];exact (uI (by omega) (by rw [← e1 (by omega)];exact h)).symm,by simp;omega⟩,by simp;omega⟩
 ·exact ak ae (eI (by rw [← h1,u7 (by omega) (by rw [← e1 (by omega)];exact h)];exact le_ro)) hK
 ·obtain rfl:l'=[]:=List.eq_nil_of_length_eq_zero (by omega)
  exact ak ae (eI (by rw [← h1];exact le_ro)) hK
theorem pA {e:Nat} (he:e≤1000000000) (hK:K (.ret (SI none (fH e))) σ):ACallF κ Tryz.prog 162 [I e] σ K:=by
 refine ACallF.dropL (aa Tryz.func162 rfl ?_);simp only [Tryz.ntmps162]
 repeat' (first|simp only [WL,ay,WM,reduceCtorEq,bg,Nat.reduceAdd,Nat.reduceSub,true_and,Cg,Tryz.results162]|with_reducible refine dp (hK:=?_)|( refine callD_mk (Et (c:=10) (by omega) ?_))|((with_reducible first|refine ai (fun h=>?_) (fun h=>?_)|refine ab (fun h=>?_) (fun h=>?_))<;>(try simp only [h])<;>(try simp only [bf,ba] at h)))
 ·obtain rfl:e=0:=by omega
  exact ak ae (aj rfl) hK
 ·exact ak ae (aj (by unfold fH;rw [if_neg (by omega)])) hK
theorem P1 {l:List (List Int)} (hl:l.length≤1000000000) (hK:K (.ret (I (cg l:Nat))) σ):ACallF κ Tryz.prog 158 [nB o l] σ K:=by
 refine ACallF.dropL (aa Tryz.func158 rfl ?_);simp only [Tryz.ntmps158]
 repeat' (first|simp only [WL,WM,Nat.reduceAdd,Nat.reduceSub,true_and,js])
 refine bF (fun k:Nat=>⟨(nB o l::.any::.any::I k::.any::.any::.any::.any::.any::.any::.any::.any::.any::.any::.any::.any::.any::.any::.any::.any::[]),σ,true,[]⟩) (fun k=>k≤l.length∧cg l=cg (l.take k)) (fun k=>k) l.length (aq bH id) ⟨Nat.le_refl _,by rw [List.take_length]⟩ ?_;rintro k ⟨h1,h2⟩;have e1:0 < k→((k:Int) - 1).toNat=k - 1:=fun _=>by omega
 repeat' (first|simp only [WL,ay,WM,reduceCtorEq,bg,Nat.reduceAdd,Bool.not_true,true_and,reduceIte,Bool.false_eq_true,cb,js,Tryz.results158]|simp (disch:=first|omega|(simp only [aU];omega)) only [an,xK,e1]|with_reducible refine ax (hb:=?_)|((with_reducible first|refine ai (fun h=>?_) (fun h=>?_)|refine ab (fun h=>?_) (fun h=>?_))<;>(try simp only [h])<;>(try simp only [bf,ba] at h)))
 ·refine ⟨k - 1,aq bH id,⟨by omega, ?_⟩,by omega⟩
  have hk:k - 1 < l.length:=by omega
  exact Cv hk (by omega) (by rw [show k - 1+1=k by omega];exact h2)
 ·have:=B6 (l:=l) (k:=k - 1) (by omega) (by omega)
  rw [show k - 1+1=k by omega] at this;exact ak ae (aj (by rw [h2,this])) hK
 ·obtain rfl:k=0:=by omega
  exact ak ae (aj (by rw [h2];rfl)) hK
theorem tB {n f:Nat}{c:Int} (hn:n≤1000000000) (hf:f≤n) (hK:K (.ret (SI none (od n f c))) σ):ACallF κ Tryz.prog 159 [I n,I f,I c] σ K:=by
 have nf:((n:Int) - f+1)=((n - f+1:Nat):Int):=by omega
 refine ACallF.dropL (aa Tryz.func159 rfl ?_);simp only [Tryz.ntmps159]
 repeat' (first|simp only [WL,ay,WM,reduceCtorEq,bg,Nat.reduceAdd,Nat.reduceSub,Bool.not_true,Bool.not_false,true_and,reduceIte,Bool.false_eq_true,Cg,Tryz.results159,nf]|simp (disch:=first|omega|(simp only [aU];omega)) only [an]|with_reducible refine dp (hK:=?_)|( refine callD_mk (Et (c:=10) (by omega) ?_))|((with_reducible first|refine ai (fun h=>?_) (fun h=>?_)|refine ab (fun h=>?_) (fun h=>?_))<;>(try simp only [h])<;>(try simp only [bf,ba] at h))|omega)
 ·exact ak ae (aj (by unfold od;rw [if_pos (by assumption),if_pos (by omega)])) hK
 ·exact ak ae (aj (by unfold od;rw [if_pos (by assumption),if_neg (by omega),List.replicate_succ])) hK
 ·exact ak ae (eI (by unfold od;rw [if_neg (by assumption),if_pos (.inr (by omega))];exact fg (by decide))) hK
 ·exact ak ae (aj (by unfold od;rw [if_neg (by assumption),if_neg (by omega)];rfl)) hK
 ·exact ak ae (eI (by unfold od;rw [if_neg (by assumption),if_pos (.inl (by assumption))];exact fg (by decide))) hK
theorem O8 {l:List Int} (hl:l.length≤1000000000) (hK:K (.ret (B (nG l))) σ):ACallF κ Tryz.prog 161 [SI o l] σ K:=by
 refine ACallF.dropL (aa Tryz.func161 rfl ?_);simp only [Tryz.ntmps161]
 repeat' (first|simp only [WL,ay,WM,Int.reduceToNat,reduceCtorEq,bg,Nat.reduceAdd,Nat.reduceSub,Bool.not_true,true_and,reduceIte,Bool.false_eq_true,T3,cb,fM,Tryz.results161]|simp (disch:=first|omega|(simp only [aU];omega)) only [bL]|(with_reducible first|refine ax (hb:=?_)|refine cD (Blank ?_))|((with_reducible first|refine ai (fun h=>?_) (fun h=>?_)|refine ab (fun h=>?_) (fun h=>?_))<;>(try simp only [h])<;>(try simp only [bf,ba] at h)))
 ·exact ak ae (aj (congrArg B (by unfold nG;rw [decide_eq_true (by omega),Bool.true_and]))) hK
 ·exact ak ae (aj (congrArg B (by unfold nG;rw [decide_eq_false (by omega),Bool.false_and]))) hK
theorem trimmed {l:List (List Int)} (hK:∀ b,K (.ret (.raw (.func (.func 221) #[] #[.pointer (some ⟨b,0,none⟩)]))) (.obj b [nB o l]::σ)):ACallF κ Tryz.prog 213 [nB o l] σ K:=by
 refine ACallF.dropL (aa Tryz.func213 rfl ?_);simp only [Tryz.ntmps213]
 repeat' (first|simp only [WL,WM,Nat.reduceAdd,Nat.reduceSub,true_and,Tryz.results213]|with_reducible refine aQ (hK:=fun b=>?_))
 exact ak ae (aj rfl) (hK _)
theorem GP {b L:Nat}{l:List (List Int)} (hl:gm l≤1000000000) (hI:Iter κ Tryz.prog L K ((eO l.length 0 l).map fun t=>[SI none t]) σ) :
  ACallF κ Tryz.prog 221 [.raw (.func (.yield L) #[] #[]),.raw (.pointer (some ⟨b,0,none⟩))] (.obj b [nB o l]::σ) K:=by
 have hlen:=gF l
 refine ACallF.dropL (aa Tryz.func221 rfl ?_);simp only [Tryz.ntmps221]
 repeat' (first|simp only [WL,WM,Nat.reduceAdd,Nat.reduceSub,true_and,js]|with_reducible refine au (hK:=?_))
 refine bF (fun x:Nat × List Res=>⟨(.raw (.func (.yield L) #[] #[])::.raw (.pointer (some ⟨b,0,none⟩))::.any::.any::.any::nB o l::I l.length::I x.1::.any::.any::.any::.any::.any::.any::.any::.any::.any::.any::.any::.any::.any::.any::.any::.any::.any::.any::.any::.any::[]),.obj b [nB o l]::x.2,true,[]⟩) (fun x=>x.1≤l.length∧Iter κ Tryz.prog L K ((eO l.length x.1 (l.drop x.1)).map fun t=>[SI none t]) x.2) (fun x=>l.length - x.1) (0,σ) (aq bH id) ⟨Nat.zero_le _,by simpa using hI⟩ ?_;rintro ⟨k,σ'⟩ ⟨h1,h2⟩;dsimp only at h1 h2 ⊢;have h3:=pn (l:=l) k
 have h4:=xl (l.getD k [])
 repeat' (first|simp only [WL,ay,WM,reduceCtorEq,bg,Nat.reduceAdd,true_and,cb,js,Tl,RJ,Tryz.results221]|simp (disch:=first|omega|(simp only [aU];omega)) only [an,xK]|(with_reducible first|refine ax (hb:=?_)|refine au (hK:=?_)|refine cD (front ?_ ?_)|refine cD (back ?_ ?_))|((with_reducible first|refine ai (fun h=>?_) (fun h=>?_)|refine ab (fun h=>?_) (fun h=>?_))<;>(try simp only [h])<;>(try simp only [bf,ba] at h))|omega)
 ·
  rw [gp (by omega),eO] at h2;unfold lz at h2;rw [if_pos (by omega),if_pos (by omega)] at h2;refine cR [.obj b [nB o l]] (jy le_rfl) h2 (fun σ3 h=>?_) (fun σ3 h=>?_) (fun c σ3 h=>?_)
  ·repeat' (first|simp only [WL,ay,WM,ne_eq,reduceCtorEq,not_false_eq_true,Bool.not_true]|simp (disch:=first|omega|(simp only [aU];omega)) only [an])
   exact ⟨(k+1,σ3),aq bH id,⟨by dsimp only;omega,h⟩,by dsimp only;omega⟩
  ·repeat' (first|simp only [WL,WM,Bool.not_false,true_and,Tryz.results221])
   exact ak (ah ae) (aj rfl) h
  ·repeat' (first|simp only [WL,WM,true_and])
   exact aS (ah ae) rfl h
 ·
  rw [gp (by omega),eO] at h2;unfold lz at h2;rw [if_neg (by omega),if_pos (by omega)] at h2;refine cR [.obj b [nB o l]] (jy le_rfl) h2 (fun σ3 h=>?_) (fun σ3 h=>?_) (fun c σ3 h=>?_)
  ·repeat' (first|simp only [WL,ay,WM,ne_eq,reduceCtorEq,not_false_eq_true,Bool.not_true]|simp (disch:=first|omega|(simp only [aU];omega)) only [an])
   exact ⟨(k+1,σ3),aq bH id,⟨by dsimp only;omega,h⟩,by dsimp only;omega⟩
  ·repeat' (first|simp only [WL,WM,Bool.not_false,true_and,Tryz.results221])
   exact ak (ah ae) (aj rfl) h
  ·repeat' (first|simp only [WL,WM,true_and])
   exact aS (ah ae) rfl h
 ·
  rw [gp (by omega),eO] at h2;unfold lz at h2;rw [if_pos (by omega),if_neg (by omega)] at h2;refine cR [.obj b [nB o l]] (jy le_rfl) h2 (fun σ3 h=>?_) (fun σ3 h=>?_) (fun c σ3 h=>?_)
  ·repeat' (first|simp only [WL,ay,WM,ne_eq,reduceCtorEq,not_false_eq_true,Bool.not_true]|simp (disch:=first|omega|(simp only [aU];omega)) only [an])
   exact ⟨(k+1,σ3),aq bH id,⟨by dsimp only;omega,h⟩,by dsimp only;omega⟩
  ·repeat' (first|simp only [WL,WM,Bool.not_false,true_and,Tryz.results221])
   exact ak (ah ae) (aj rfl) h
  ·repeat' (first|simp only [WL,WM,true_and])
   exact aS (ah ae) rfl h
 ·
  rw [gp (by omega),eO] at h2;unfold lz at h2;rw [if_neg (by omega),if_neg (by omega)] at h2;refine cR [.obj b [nB o l]] (jy le_rfl) h2 (fun σ3 h=>?_) (fun σ3 h=>?_) (fun c σ3 h=>?_)
  ·repeat' (first|simp only [WL,ay,WM,ne_eq,reduceCtorEq,not_false_eq_true,Bool.not_true]|simp (disch:=first|omega|(simp only [aU];omega)) only [an])
   exact ⟨(k+1,σ3),aq bH id,⟨by dsimp only;omega,h⟩,by dsimp only;omega⟩
  ·repeat' (first|simp only [WL,WM,Bool.not_false,true_and,Tryz.results221])
   exact ak (ah ae) (aj rfl) h
  ·repeat' (first|simp only [WL,WM,true_and])
   exact aS (ah ae) rfl h
 ·rw [List.drop_eq_nil_of_le (by omega)] at h2
  exact ak (ah ae) (aj rfl) h2
theorem U0 {l:List (List Int)} (hl:gm l≤1000000000) (hK:K (.ret (SI none (kS l))) σ):ACallF κ Tryz.prog 189 [nB o l] σ K:=by
 have hlen:=gF l
 refine ACallF.dropL (aa Tryz.func189 rfl ?_);simp only [Tryz.ntmps189]
 repeat' (first|simp only [WL,WM,Nat.reduceAdd,Nat.reduceSub,true_and,Tv]|(with_reducible first|refine au (hK:=?_)|refine aP (hK:=?_)|refine aQ (hK:=fun b=>?_)|refine aV (hK:=fun b=>?_)|refine cD (trimmed (fun btr=>?_))))
 rename_i bl bo bi;refine pH 221 [] [.pointer (some ⟨btr,0,none⟩)] ((eO l.length 0 l).map fun t=>[SI none t]) [.obj btr [nB o l]] (.obj b [I 0]::.obj bi [I 0]::.obj bo [SI (some none) []]::.obj bl [nB o l]::.tip none::σ)
  (fun xs τ=>∃ (out:List Int) (e i:Nat) (tk:Option (Nat × Nat)),xs=((eO l.length i (l.drop i)).map fun t=>[SI none t])∧kS l=out++dL (decide (i=0)) e (eO l.length i (l.drop i))∧i≤l.length∧e≤i∧(i=0→e=0) ∧
   τ=.obj b [I e]::.obj bi [I i]::.obj bo [SI (some tk) out]::.obj bl [nB o l]::.tip tk::σ)
  rfl SH ?_ (fun L K σ' h=>GP (by omega) h) ⟨[],0,0,none,by simp,by simp [kS],Nat.zero_le _,Nat.le_refl _,fun _=>rfl,rfl⟩ ?_ ?_
 ·exact ResW.cons _ (ResW.cons _ (ResW.cons _ ((ResW.void.cons _ |>.cons _).trans (ResW.obj (jy (le_nil (by decide)))))))
 ·rintro τ ⟨out,e,i,tk,h1,h2,h3,h4,h5,rfl⟩
  have hn:l.drop i=[]:=by
   cases hd:l.drop i with
   | nil=>rfl
   | cons=>rw [hd] at h1;simp [eO] at h1
  rw [hn] at h2;simp only [eO,dL,List.append_nil] at h2
  repeat' (first|simp only [WL,WM,true_and,Tryz.results189]|with_reducible refine au (hK:=?_))
  exact ak (ah (ah (ah (ah (ah ae))))) (eI (by rw [h2];exact le_ro)) hK
 ·rintro d L Rr Rb hR x xs τ ⟨out,e,i,tk,h1,h2,h3,h4,h5,rfl⟩
  have hi:i < l.length:=by
   rcases Nat.lt_or_ge i l.length with h|h
   ·exact h
   ·rw [List.drop_eq_nil_of_le h] at h1;simp [eO] at h1
  rw [gp hi,eO] at h1 h2;simp only [List.map_cons,List.cons.injEq] at h1;obtain ⟨rfl,rfl⟩:=h1;generalize hu:lz l.length i (l.getD i [])=u at *;have hlast:eO l.length (i+1) (l.drop (i+1))=[]↔i+1=l.length:=by
   constructor
   ·intro h
    have:=List.drop_eq_nil_iff.1 (Gc h)
    omega
   ·intro h
    rw [List.drop_eq_nil_of_le (by omega)];rfl
  refine ⟨rfl, ?_⟩
  repeat' (first|simp only [WL,WM])
  refine sC ?_;have ho:=M8 h2
  have hb:=iS e
  rcases Nat.eq_zero_or_pos i with rfl|hi0
  ·obtain rfl:e=0:=h5 rfl
   simp only [decide_true,x8] at h2 ho;simp only [List.length_append] at ho
   repeat' (first|simp only [WL,ay,WM,reduceCtorEq,bg,Nat.reduceAdd,Bool.not_true,true_and,reduceIte,Bool.false_eq_true,cb,js,yN]|simp (disch:=first|omega|(simp only [aU];omega)) only [an]|(with_reducible first|refine au (hK:=?_)|refine aP (hK:=?_)|refine cX (hlen:=?_) (hmax:=?_) (hK:=fun tk=>?_)|refine cQ (pA (by omega) aT) ?_)|((with_reducible refine aE (id:=6) 3 mixed ?_ ?_);kernel_rfl)|(with_reducible refine bK ?_)|((with_reducible first|refine ai (fun h=>?_) (fun h=>?_)|refine ab (fun h=>?_) (fun h=>?_))<;>(try simp only [h])<;>(try simp only [bf,ba] at h))|omega|(refine bq ?_;(first|omega|(simp only [aU];omega))))
   exact ⟨_,iU,out++u,0,1,tk,rfl,by rw [h2];simp,by omega,by omega,by omega,by simp⟩
  ·simp only [decide_eq_false (show ¬i=0 by omega)] at h2 ho
   by_cases hc:u=[]∧eO l.length (i+1) (l.drop (i+1))≠[]
   ·obtain ⟨rfl,hc⟩:=hc
    rw [xV rfl hc] at h2;have hne:¬i+1=l.length:=fun h=>hc (hlast.2 h)
    repeat' (first|simp only [WL,ay,WM,reduceCtorEq,bg,Nat.reduceAdd,Bool.not_true,true_and,reduceIte,Bool.false_eq_true,cb,js,yN]|simp (disch:=first|omega|(simp only [aU];omega)) only [an]|(with_reducible first|refine au (hK:=?_)|refine aP (hK:=?_)|refine cX (hlen:=?_) (hmax:=?_) (hK:=fun tk=>?_)|refine cQ (pA (by omega) aT) ?_)|((with_reducible refine aE (id:=6) 3 mixed ?_ ?_);kernel_rfl)|(with_reducible refine bK ?_)|((with_reducible first|refine ai (fun h=>?_) (fun h=>?_)|refine ab (fun h=>?_) (fun h=>?_))<;>(try simp only [h])<;>(try simp only [bf,ba] at h))|omega)
    exact ⟨_,iU,out,e+1,i+1,tk,rfl,by rw [h2];simp,by omega,by omega,by omega,by simp⟩
   ·rw [BT hc] at h2 ho
    simp only [List.length_append] at ho;have hne:u.length=0→i+1=l.length:=fun h=>by
     refine Classical.byContradiction fun hh=>hc ⟨List.eq_nil_of_length_eq_zero h,fun hh2=>hh (hlast.1 hh2)⟩
    repeat' (first|simp only [WL,ay,WM,reduceCtorEq,bg,Nat.reduceAdd,Bool.not_true,true_and,reduceIte,Bool.false_eq_true,cb,js,yN]|simp (disch:=first|omega|(simp only [aU];omega)) only [an]|(with_reducible first|refine au (hK:=?_)|refine aP (hK:=?_)|refine cX (hlen:=?_) (hmax:=?_) (hK:=fun tk=>?_)|refine cQ (pA (by omega) aT) ?_)|((with_reducible refine aE (id:=6) 3 mixed ?_ ?_);kernel_rfl)|(with_reducible refine bK ?_)|((with_reducible first|refine ai (fun h=>?_) (fun h=>?_)|refine ab (fun h=>?_) (fun h=>?_))<;>(try simp only [h])<;>(try simp only [bf,ba] at h))|omega|(simp only [aU];omega)|(refine bq ?_;(first|omega|(simp only [aU];omega))))
    all_goals exact ⟨_,iU,out++fH e++u,0,i+1,tk,rfl,by rw [h2];simp,by omega,by omega,by omega,by simp⟩
end Go.Proofs.YthkabaiamcjdbaaGreat
namespace Go.Abs
/-! ### Lines that begin with a blank -/
def Z4 (i:Nat):List Int:=if i % 2=1 then [32,98] else [97]
structure SpP (i:Nat) (ls:List (List Int)) (want:List Int):Prop where
 hb:∀ m,gx none 0 (ls++m)=want++gx (if i=0 then none else some (Z4 (i - 1))) 0 m
 h0:i=0→ls=[]∧want=[]
 h1:0 < i→∃ r,ls=r++[Z4 (i - 1)]
 hl:ls.length≤4 * i
 hw:want.length≤6 * i
 hm:∀ t∈ls,t.length≤2
/-! ### Words -/
structure WdP (n i:Nat) (b:Bool) (ls bs:List (List Int)) (want:List Int):Prop where
 hf:∀ m,0 < i→dL true 0 (bs++m)=want++dL false 0 m
 hb:∀ m,0 < i→∃ w,nG w=false∧gx none 0 (bs++m)=want++gx (some w) 0 m
 ht:∀ k,(ls.length < k∨(ls.length=k∧i=n))→eO k 0 ls=bs
 h0:i=0→ls=[]∧bs=[]∧want=[]
 h1:0 < i→∃ r w,bs=r++[w]∧w≠[]
 he:ls.length=bs.length
 hl:ls.length≤4 * i
 hw:want.length≤5 * i
 hm:∀ t∈ls,t.length≤4
 hm2:∀ t∈bs,t.length≤4
/-! ### Heads -/
def ck (ch ind:Int):List Int→Int × Int × List Int
 | []=>(ch,ind,[])
 | c::r=>if 49≤c∧c≤57∧ind=0 then ck ch (c - 48) r else if c=45∧ch=0 then ck 1 ind r else if c=43∧ch=0 then ck 2 ind r else (ch,ind,c::r)
abbrev HD:=Bool × Int × Int
def gV (l:List Int):HD × Int × Int :=
 if 0 < l.length∧(l.getD 0 0=124∨l.getD 0 0=62) then
  if (ck 0 0 (l.drop 1)).2.2.dropWhile blankI≠[]∧(((ck 0 0 (l.drop 1)).2.2.dropWhile blankI).length=(ck 0 0 (l.drop 1)).2.2.length∨¬((ck 0 0 (l.drop 1)).2.2.dropWhile blankI).getD 0 0=35) then ((false,0,0),0,2)
  else ((l.getD 0 0 == 62,(ck 0 0 (l.drop 1)).1,(ck 0 0 (l.drop 1)).2.1),(l.length:Nat),0)
 else ((false,0,0),0,2)
theorem tL {l:List Int} (h:¬(0 < l.length∧(l.getD 0 0=124∨l.getD 0 0=62))):gV l=((false,0,0),0,2):=by unfold gV;rw [if_neg h]
theorem Bi {l:List Int}{ch ind:Int}{i j:Nat} (h:0 < l.length) (h1:l.getD 0 0=124∨l.getD 0 0=62) (hs:ck 0 0 (l.drop 1)=(ch,ind,l.drop i)) (hi:i≤l.length) (hij:i≤j) (hj:j≤l.length)
  (hd:(l.drop i).dropWhile blankI=l.drop j):gV l=(if j < l.length∧(j=i∨¬l.getD j 0=35) then ((false,0,0),0,2) else ((l.getD 0 0 == 62,ch,ind),(l.length:Nat),0):HD × Int × Int):=by
 unfold gV;rw [if_pos ⟨h,h1⟩,hs];simp only [hd];have e1:(l.drop j≠[])=(j < l.length):=by simp
 have e2:((l.drop j).length=(l.drop i).length)=(l.length - j=l.length - i):=by simp
 by_cases hjl:j < l.length
 ·have e3:(l.drop j).getD 0 0=l.getD j 0:=by rw [aX hjl];rfl
  have e4:(l.length - j=l.length - i)=(j=i):=by apply propext;omega
  simp only [e1,e2,e3,e4]
 ·simp only [e1,hjl,false_and,if_false]
theorem vW {ch ind:Int}{l:List Int}{i:Nat} (h:i < l.length) (h1:49≤l.getD i 0) (h2:l.getD i 0≤57) (h3:ind=0):ck ch ind (l.drop i)=ck ch (l.getD i 0 - 48) (l.drop (i+1)):=by
 rw [aX h];simp only [ck];rw [if_pos ⟨h1,h2,h3⟩]
theorem vN {ch ind:Int}{l:List Int}{i:Nat} (h:i < l.length) (h1:l.getD i 0=45) (h2:ch=0):ck ch ind (l.drop i)=ck 1 ind (l.drop (i+1)):=by
 rw [aX h];simp only [ck];rw [if_neg (by omega),if_pos ⟨h1,h2⟩]
theorem ui {ch ind:Int}{l:List Int}{i:Nat} (h:i < l.length) (h1:l.getD i 0=43) (h2:ch=0):ck ch ind (l.drop i)=ck 2 ind (l.drop (i+1)):=by
 rw [aX h];simp only [ck];rw [if_neg (by omega),if_neg (by omega),if_pos ⟨h1,h2⟩]
theorem tz {ch ind:Int}{l:List Int}{i:Nat} (h:i < l.length) (h1:¬(49≤l.getD i 0∧l.getD i 0≤57∧ind=0)) (h2:¬(l.getD i 0=45∧ch=0)) (h3:¬(l.getD i 0=43∧ch=0)):ck ch ind (l.drop i)=(ch,ind,l.drop i):=by
 rw [aX h];simp only [ck];rw [if_neg h1,if_neg h2,if_neg h3]
theorem vJ {ch ind:Int}{l:List Int}{i:Nat} (h:l.length≤i):ck ch ind (l.drop i)=(ch,ind,l.drop i):=by rw [List.drop_eq_nil_of_le h];rfl
theorem BI {l:List Int}{j:Nat} (h:j < l.length) (hb:blankI (l.getD j 0)=true):(l.drop j).dropWhile blankI=(l.drop (j+1)).dropWhile blankI:=by
 rw [aX h,List.dropWhile_cons,if_pos hb]
theorem sT {l:List Int}{j:Nat} (h:j < l.length) (hb:blankI (l.getD j 0)=false):(l.drop j).dropWhile blankI=l.drop j:=by
 conv=>lhs;rw [aX h,List.dropWhile_cons,if_neg (by rw [hb];decide)]
 rw [aX h]
/-! ### Where lines stand -/
abbrev Ln:=Int × List Int
def eh (w:Int):List Ln→Int × Option Int
 | []=>(w,none)
 | x::r=>if x.2=[] then eh (max w x.1) r else (w,if aZ x.1 x.2=0 then some x.1 else none)
def lL (l:List Ln) (ind n:Int):Int × Int :=
 if 0 < ind then (max 0 n+min ind 1099511627776,0)
 else
  if (eh 0 l).2.getD n≤n then (max (eh 0 l).1 (n+1),0)
  else if (eh 0 l).2.getD n < (eh 0 l).1 then (0,7)
  else ((eh 0 l).2.getD n,0)
def rp (ind:Int) (x:Ln):Bool:=decide ((x.2≠[]∧x.1 < ind)∨aZ x.1 x.2≠0)
def xz (ind:Int) (x:Ln):List Int:=List.replicate (x.1 - ind).toNat 32++x.2
def fx (ind:Int) (l:List Ln):List (List Int):=(l.takeWhile fun x=>!rp ind x).map (xz ind)
def dK (l:List Ln) (h:HD) (n:Int):ByteArray × Int × Int :=
 if ¬(lL l h.2.2 (min (max (-1) n) 1099511627776)).2=0 then (ByteArray.empty,0,(lL l h.2.2 (min (max (-1) n) 1099511627776)).2)
 else (aK (if h.1 then F9 (fx (lL l h.2.2 (min (max (-1) n) 1099511627776)).1 l) h.2.1 else GC (fx (lL l h.2.2 (min (max (-1) n) 1099511627776)).1 l) h.2.1),((fx (lL l h.2.2 (min (max (-1) n) 1099511627776)).1 l).length:Nat),0)
theorem jK {l:List Ln}{k:Nat} (h:k < l.length):l.drop k=l.getD k (0,[])::l.drop (k+1):=by
 rw [List.drop_eq_getElem_cons h];simp [List.getD_eq_getElem?_getD,h]
theorem F6 {l:List Ln}{w:Int}{k:Nat} (h:k < l.length) (h1:(l.getD k (0,[])).2=[]):eh w (l.drop k)=eh (max w (l.getD k (0,[])).1) (l.drop (k+1)):=by
 rw [jK h];simp only [eh];rw [if_pos h1]
theorem HR {l:List Ln}{w:Int}{k:Nat} (h:k < l.length) (h1:¬(l.getD k (0,[])).2=[]) (h2:¬aZ (l.getD k (0,[])).1 (l.getD k (0,[])).2=0):eh w (l.drop k)=(w,none):=by
 rw [jK h];simp only [eh];rw [if_neg h1,if_neg h2]
theorem Gf {l:List Ln}{w:Int}{k:Nat} (h:k < l.length) (h1:¬(l.getD k (0,[])).2=[]) (h2:aZ (l.getD k (0,[])).1 (l.getD k (0,[])).2=0):eh w (l.drop k)=(w,some (l.getD k (0,[])).1):=by
 rw [jK h];simp only [eh];rw [if_neg h1,if_pos h2]
theorem BF {l:List Ln}{w:Int}{k:Nat} (h:l.length≤k):eh w (l.drop k)=(w,none):=by rw [List.drop_eq_nil_of_le h];rfl
theorem Gw {l:List Ln}{d:Int}{k:Nat} (h:k < l.length) (h1:rp d (l.getD k (0,[]))=true):fx d (l.drop k)=[]:=by
 unfold fx;rw [jK h,List.takeWhile_cons,if_neg (by rw [h1];decide)];rfl
theorem GY {l:List Ln}{d:Int}{k:Nat} (h:k < l.length) (h1:rp d (l.getD k (0,[]))=false):fx d (l.drop k)=xz d (l.getD k (0,[]))::fx d (l.drop (k+1)):=by
 unfold fx;rw [jK h,List.takeWhile_cons,if_pos (by rw [h1];rfl)];rfl
theorem H7 {l:List Ln}{d:Int}{k:Nat} (h:l.length≤k):fx d (l.drop k)=[]:=by rw [List.drop_eq_nil_of_le h];rfl
theorem FV {d:Int}{x:Ln} (h:x.2.length=0∨d≤x.1) (h2:aZ x.1 x.2=0):rp d x=false:=by
 unfold rp;refine decide_eq_false ?_;rintro (⟨h3,h4⟩|h5)
 ·rcases h with h|h
  ·exact h3 (List.eq_nil_of_length_eq_zero h)
  ·omega
 ·exact h5 h2
class Has (σ:outParam (List Res)) (σ':List Res):Prop where
 mem:∀ r,r∈σ→r∈σ'
theorem Has.refl {σ:List Res}:Has σ σ:=⟨fun _ h=>h⟩
theorem Has.cons {σ σ':List Res}{r:Res} (h:Has σ σ'):Has σ (r::σ'):=⟨fun x hx=>List.mem_cons_of_mem _ (h.mem x hx)⟩
theorem cy {σ σ':List Res} (h:Has σ σ'):Has σ σ':=h
theorem Hold.has_at {σ σ':List Res}{b i:Nat}{cs:List AV} (hh:Has σ σ') (h:Hold σ b i cs):∃ j:Nat,σ'[j]? = some (.obj b cs):=List.mem_iff_getElem?.1 (hh.mem _ (List.mem_of_getElem? h.get))
instance (priority:=low) Hold.has {σ σ':List Res} {b i:Nat} {cs:List AV} [hh:Has σ σ'] [h:Hold σ b i cs]:Hold σ' b (Classical.choose (Hold.has_at hh h)) cs:=⟨Classical.choose_spec (Hold.has_at hh h)⟩
section
variable {κ:Ctx} {P:Program} {rd:Option Nat} {l:List Oper} {Q:Exit→St→Prop} {t:List AV} {σ:List Res} {fr:Bool} {df:List Deferred}
theorem Js {id:Nat} (A0:List Nat) (c0:Option Nat) (r0:Ph) (hm:P.follows .mixedOrders=true) (hok:AD l ((A0,c0)::r0)=true) (h:Qd κ P l (Has σ) fr df Q A0 c0 r0 t σ):AW κ rd P (.region id l.toArray true) Q ⟨t,σ,fr,df⟩ :=
 ik A0 c0 r0 (Has σ) Has.refl hm hok h
end
/-! ### Structs as interface values -/
theorem fv {g:Nat→Nat}{w:World}{l:List Value}{v:Value} (h:VR g w (.agg (l.map .raw)) v):v=.agg l.toArray:=by
 cases h with
 | agg vs hs hv =>
  congr 1
  rw [List.length_map] at hs;apply Array.ext (by simpa using hs)
  intro i h1 h2;have h3:i < l.length:=by omega
  have:=(hv i (.raw l[i]) (by simp [h3])).raw_eq
  rw [Array.getD_eq_getD_getElem?,Array.getElem?_eq_getElem h1] at this;simpa using this
theorem vv {κ:Ctx}{P:Program}{σ:List Res}{K:AV→List Res→Prop}{t:TypeId}{l:List Value}{fs:Array Field} (ht:P.underlying t=some (.struct fs)) (hK:K (.raw (.iface t (.agg l.toArray))) σ):AAct κ P (.makeIface t) [.agg (l.map .raw)] σ K:=by
 intro φ g w vs hR hvs;obtain ⟨v,rfl,hu⟩:=jU hvs;have hv:=fv hu
 subst hv;refine ⟨.iface t (.agg l.toArray),w,g,_,σ, ?_,hR,GE.refl _ _,.raw _,hK⟩;show (Instr.makeInterface t (.agg l.toArray)).run P w=_
 simp only [Instr.makeInterface,Sem.run_bind,run_underlying ht,Result.andThen_ok];rfl
class TStruct (P:Program) (t:TypeId):Prop where
 st:∃ fs,P.underlying t=some (.struct fs)
section
variable {κ:Ctx} {P:Program} {all rest:List Oper} {Q:Exit→St→Prop} {d:Option Tmp} {t:List AV} {σ:List Res} {fr:Bool} {df:List Deferred}
theorem Bp {ty:TypeId}{v:Value} [h:TStruct P ty] (hK:dw κ false P all Q d rest ⟨t,σ,fr,df⟩ (.raw (.iface ty (.agg #[v]))) σ):cu κ false P all Q d rest ⟨t,σ,fr,df⟩ (.makeIface ty) [.agg [.raw v]] :=
 cl (vv (l:=[v]) h.st.choose_spec hK)
end
end Go.Abs
namespace Go.Proofs.YthkabaiamcjdbaaGreat
open Go.Abs
variable {κ:Ctx} {σ:List Res} {K:Ret→List Res→Prop} {o o':Option (Option (Nat × Nat))}
abbrev cU (p:Int × Int):AV:=.agg [I p.1,I p.2]
abbrev JP (b:Nat):AV:=.raw (.pointer (some ⟨b,0,none⟩))
abbrev JC (ls:List Ln) (n:Int) (bk:Bool) (d:Int) (x y:AV):List AV:=[SL none ls,I n,B bk,I d,x,y]
abbrev bW (i:Int):Prop:=-9223372036854775808≤i∧i≤9223372036854775807
def Small (ls:List Ln):Prop:=ls.length≤2000∧∀ x∈ls,x.2.length≤2000∧0≤x.1∧x.1≤2000
theorem Small.at_ {ls:List Ln} (h:Small ls) {i:Nat} (hi:i < ls.length):(ls.getD i (0,[])).2.length≤2000∧0≤(ls.getD i (0,[])).1∧(ls.getD i (0,[])).1≤2000 :=
 h.2 _ (by rw [List.getD_eq_getElem?_getD,List.getElem?_eq_getElem hi];exact List.getElem_mem hi)
def aH (ls:List Ln) (p:Int × Int):List Int :=
 if p.1 < 0∨(ls.length:Int)≤p.1∨p.2 < 0 then [] else if p.2 < (ls.getD p.1.toNat (0,[])).1 then [32] else (ls.getD p.1.toNat (0,[])).2.drop (min (p.2 - max 0 (ls.getD p.1.toNat (0,[])).1) (ls.getD p.1.toNat (0,[])).2.length).toNat
theorem HM {ls:List Ln}{p:Int × Int} (h:p.1 < 0∨(ls.length:Int)≤p.1∨p.2 < 0):aH ls p=[]:=if_pos h
theorem gP {ls:List Ln}{p:Int × Int} (h1:¬p.1 < 0) (h2:¬(ls.length:Int)≤p.1) (h3:¬p.2 < 0):aH ls p=if p.2 < (ls.getD p.1.toNat (0,[])).1 then [32] else (ls.getD p.1.toNat (0,[])).2.drop (min (p.2 - max 0 (ls.getD p.1.toNat (0,[])).1) (ls.getD p.1.toNat (0,[])).2.length).toNat:=by
 unfold aH;rw [if_neg (by omega)]
theorem fm {b ix:Nat}{ls:List Ln}{n d:Int}{bk:Bool}{x y:AV} [hJ:Hold σ b ix (JC ls n bk d x y)] {p:Int × Int} (hs:Small ls) (hp:bW p.1∧bW p.2) (hK:K (.ret (SI none (aH ls p))) σ) :
  ACallF κ Tryz.prog 99 [JP b,cU p] σ K:=by
 obtain ⟨i,k⟩:=p;obtain ⟨⟨p1,p2⟩,p3,p4⟩:=hp;dsimp only at *;have hl:=hs.1
 have ha:=fun h=>hs.at_ (i:=i.toNat) h
 refine ACallF.dropL (aa Tryz.func99 rfl ?_);simp only [Tryz.ntmps99]
 repeat' (first|simp only [WL,ay,WM,reduceCtorEq,bg,Nat.reduceAdd,Nat.reduceSub,Nat.reduceEqDiff,Bool.not_false,true_and,reduceIte,Bool.false_eq_true,T3,cb,gg,jm,fR db,fR c9,fR dR,fR fa,fR gO,Tryz.results99]|simp (disch:=first|omega|(simp only [aU];omega)) only [an,dO]|(with_reducible first|refine ax (hb:=?_)|refine au (hK:=?_)|refine az (hK:=?_)|refine aQ (hK:=fun b=>?_)|refine aV (hK:=fun b=>?_)|refine dp (hK:=?_)|refine mS ?_|refine Fk ?_)|((with_reducible refine aE (id:=1) 18 mixed ?_ ?_);kernel_rfl)|((with_reducible refine Js (id:=3) [0,1,2,3,4,5,6,7] (some 8) [([],some 9),([],none)] mixed ?_ ?_);kernel_rfl)|((with_reducible apply aW);intro σq hq;have hqi:=cy hq;clear hq)|(with_reducible exact b9)|((with_reducible apply bD);rfl;rfl)|(with_reducible refine bV (by first|exact Has.refl|exact Has.cons Has.refl|exact Has.cons (Has.cons Has.refl)) ?_)|(with_reducible refine bK ?_)|((with_reducible first|refine ai (fun h=>?_) (fun h=>?_)|refine ab (fun h=>?_) (fun h=>?_))<;>(try simp only [h])<;>(try simp only [bf,ba] at h)))
 all_goals first
  | exact ak (ah ae) (eI (by rw [HM (by dsimp only;omega)];exact fg (by decide))) hK
  | exact ak (ah (ah ae)) (aj (by rw [gP (by dsimp only;omega) (by dsimp only;omega) (by dsimp only;omega),if_pos (by assumption)];rfl)) hK
  | exact ak (ah (ah ae)) (aj (by rw [gP (by dsimp only;omega) (by dsimp only;omega) (by dsimp only;omega),if_neg (by dsimp only;omega)])) hK
theorem cj {ls:List Ln}{p:Int × Int} (hs:Small ls):(aH ls p).length≤2000:=by
 unfold aH;split
 ·simp
 ·split
  ·simp
  ·have:=(hs.at_ (i:=p.1.toNat) (by omega)).1
   rw [List.length_drop];omega
theorem cA {ls:List Ln}{p:Int × Int} (hs:Small ls) (h:0 < (aH ls p).length):0≤p.1∧p.1 < ls.length∧0≤p.2∧p.2+(aH ls p).length≤4000:=by
 unfold aH at h ⊢;split
 ·rename_i h0;rw [if_pos h0] at h;simp at h
 ·rename_i h0
  rw [if_neg h0] at h;have ha:=hs.at_ (i:=p.1.toNat) (by omega)
  split
  ·simp;omega
  ·rename_i h1
   rw [if_neg h1] at h;rw [List.length_drop] at h ⊢;omega
def bU (l:List Int) (c:Int):Bool:=decide (0 < l.length) && (l.getD 0 0 == c)
def l8 (ls:List Ln) (p:Int × Int) (c:Int):Bool:=bU (aH ls p) c
theorem o7 {b ix:Nat}{ls:List Ln}{n d:Int}{bk:Bool}{x y:AV} [hJ:Hold σ b ix (JC ls n bk d x y)] {p:Int × Int}{c:Int} (hs:Small ls) (hp:bW p.1∧bW p.2) (hK:K (.ret (B (l8 ls p c))) σ) :
  ACallF κ Tryz.prog 181 [JP b,cU p,I c] σ K:=by
 have hr:=cj (p:=p) hs
 unfold l8 bU at hK;refine ACallF.dropL (aa Tryz.func181 rfl ?_);simp only [Tryz.ntmps181]
 repeat' (first|simp only [WL,ay,WM,Int.reduceToNat,reduceCtorEq,bg,Nat.reduceAdd,Nat.reduceSub,Bool.not_true,true_and,reduceIte,Bool.false_eq_true,T3,cb,fk,Tryz.results181]|simp (disch:=first|omega|(simp only [aU];omega)) only [bL]|(with_reducible first|refine ax (hb:=?_)|refine aA (hK:=?_)|refine aQ (hK:=fun b=>?_)|refine cD (fm hs hp ?_))|((with_reducible first|refine ai (fun h=>?_) (fun h=>?_)|refine ab (fun h=>?_) (fun h=>?_))<;>(try simp only [h])<;>(try simp only [bf,ba] at h)))
 all_goals first
  | exact ak (ah ae) (aj (congrArg B (by rw [decide_eq_true (by omega)];rfl))) hK
  | exact ak (ah ae) (aj (congrArg B (by rw [decide_eq_false (by omega)];rfl))) hK
def gh (l:List Int):Bool:=decide (0 < l.length) && blankI (l.getD 0 0)
def Cp (ls:List Ln) (p:Int × Int):Bool:=gh (aH ls (p.1,p.2 - 1))
theorem R7 {b ix:Nat}{ls:List Ln}{n d:Int}{bk:Bool}{x y:AV} [hJ:Hold σ b ix (JC ls n bk d x y)] {p:Int × Int} (hs:Small ls) (hp:bW p.1∧bW p.2∧0≤p.2) (hK:K (.ret (B (Cp ls p))) σ) :
  ACallF κ Tryz.prog 190 [JP b,cU p] σ K:=by
 have hr:=cj (p:=(p.1,p.2 - 1)) hs
 have hp2:bW ((p.1,p.2 - 1):Int × Int).1∧bW ((p.1,p.2 - 1):Int × Int).2:=⟨hp.1,by dsimp only;omega⟩
 unfold Cp gh at hK;refine ACallF.dropL (aa Tryz.func190 rfl ?_);simp only [Tryz.ntmps190]
 repeat' (first|simp only [WL,ay,WM,Int.reduceToNat,reduceCtorEq,bg,Nat.reduceAdd,Nat.reduceSub,Nat.reduceEqDiff,Bool.not_true,true_and,reduceIte,Bool.false_eq_true,T3,cb,fR dR,fR fa,fM,fk,Tryz.results190]|simp (disch:=first|omega|(simp only [aU];omega)) only [an,bL]|(with_reducible first|refine ax (hb:=?_)|refine au (hK:=?_)|refine aQ (hK:=fun b=>?_)|refine aI (hK:=?_)|refine cD (fm (p:=(p.1,p.2 - 1)) hs hp2 ?_)|refine cD (Blank ?_))|((with_reducible first|refine ai (fun h=>?_) (fun h=>?_)|refine ab (fun h=>?_) (fun h=>?_))<;>(try simp only [h])<;>(try simp only [bf,ba] at h)))
 all_goals exact ak (ah ae) (aj (congrArg B (by simp [*];try omega))) hK
def bZ (ls:List Ln) (i:Int):Bool:=decide ((ls.length:Int)≤i) || (aZ (ls.getD i.toNat (0,[])).1 (ls.getD i.toNat (0,[])).2 != 0)
theorem p6 {b ix:Nat}{ls:List Ln}{n d:Int}{bk:Bool}{x y:AV} [hJ:Hold σ b ix (JC ls n bk d x y)] {i:Int} (hs:Small ls) (hp:0≤i) (hK:K (.ret (B (bZ ls i))) σ) :
  ACallF κ Tryz.prog 151 [JP b,I i] σ K:=by
 have hl:=hs.1
 have hm:=fun h:i.toNat < ls.length=>hs.at_ h
 unfold bZ at hK;refine ACallF.dropL (aa Tryz.func151 rfl ?_);simp only [Tryz.ntmps151]
 repeat' (first|simp only [WL,ay,WM,reduceCtorEq,bg,Nat.reduceAdd,Nat.reduceSub,Nat.reduceEqDiff,Bool.not_false,true_and,reduceIte,Bool.false_eq_true,gg,jm,fR gO,fY,Tryz.results151]|simp (disch:=first|omega|(simp only [aU];omega)) only [dO]|(with_reducible first|refine ax (hb:=?_)|refine au (hK:=?_)|refine cD (cZ ?_ ?_))|((with_reducible first|refine ai (fun h=>?_) (fun h=>?_)|refine ab (fun h=>?_) (fun h=>?_))<;>(try simp only [h])<;>(try simp only [bf,ba] at h))|omega)
 ·exact ak ae (aj (congrArg B (by rw [decide_eq_false (by omega)];rfl))) hK
 ·exact ak ae (aj (congrArg B (by rw [decide_eq_true (by omega)];rfl))) hK
def J5 (ls:List Ln) (p:Int × Int) (l:List Int):Bool:=bU l 35 && (decide (p.2=0) || Cp ls p)
theorem IF {b ix:Nat}{ls:List Ln}{n d:Int}{bk:Bool}{x y:AV} [hJ:Hold σ b ix (JC ls n bk d x y)] {p:Int × Int}{l:List Int} (hs:Small ls) (hp:bW p.1∧bW p.2∧0≤p.2) (hll:l.length≤1000000) (hK:K (.ret (B (J5 ls p l))) σ) :
  ACallF κ Tryz.prog 150 [JP b,cU p,SI o l] σ K:=by
 unfold J5 bU at hK;refine ACallF.dropL (aa Tryz.func150 rfl ?_);simp only [Tryz.ntmps150]
 repeat' (first|simp only [WL,ay,WM,Int.reduceToNat,reduceCtorEq,bg,Nat.reduceAdd,Nat.reduceSub,Nat.reduceEqDiff,Bool.not_false,true_and,reduceIte,Bool.false_eq_true,T3,cb,fR fa,SF,Tryz.results150]|simp (disch:=first|omega|(simp only [aU];omega)) only [bL]|(with_reducible first|refine ax (hb:=?_)|refine au (hK:=?_)|refine aA (hK:=?_)|refine aQ (hK:=fun b=>?_)|refine cD (R7 hs hp ?_))|((with_reducible first|refine ai (fun h=>?_) (fun h=>?_)|refine ab (fun h=>?_) (fun h=>?_))<;>(try simp only [h])<;>(try simp only [bf,ba] at h)))
 all_goals exact ak (ah ae) (aj (congrArg B (by first|(simp_all;done)|(have hpos:0 < l.length:=(by omega);simp_all)))) hK
def s7 (l:List Int):Bool:=decide (l.length=0) || blankI (l.getD 0 0) || kf (l.getD 0 0)
theorem H5 {b ix:Nat}{ls:List Ln}{n d:Int}{bk:Bool}{x y:AV} [hJ:Hold σ b ix (JC ls n bk d x y)] {p:Int × Int} (hs:Small ls) (hp:bW p.1∧bW p.2) (hK:K (.ret (B (s7 (aH ls p)))) σ) :
  ACallF κ Tryz.prog 126 [JP b,cU p] σ K:=by
 have hr:=cj (p:=p) hs
 unfold s7 at hK;refine ACallF.dropL (aa Tryz.func126 rfl ?_);simp only [Tryz.ntmps126]
 repeat' (first|simp only [WL,ay,WM,Int.reduceToNat,reduceCtorEq,bg,Nat.reduceAdd,Nat.reduceSub,Bool.not_false,true_and,reduceIte,Bool.false_eq_true,T3,cb,fM,fk,qy,Tryz.results126]|simp (disch:=first|omega|(simp only [aU];omega)) only [bL]|(with_reducible first|refine ax (hb:=?_)|refine aA (hK:=?_)|refine aQ (hK:=fun b=>?_)|refine cD (fm hs hp ?_)|refine cD (Blank ?_)|refine cD (wU ?_))|((with_reducible first|refine ai (fun h=>?_) (fun h=>?_)|refine ab (fun h=>?_) (fun h=>?_))<;>(try simp only [h])<;>(try simp only [bf,ba] at h)))
 all_goals exact ak (ah ae) (aj (congrArg B (by simp_all))) hK
theorem cm {p:Int × Int}{n:Int} (hp:bW (p.2+n)) (hK:K (.ret (cU (p.1,p.2+n))) σ):ACallF κ Tryz.prog 120 [cU p,I n] σ K:=by
 refine ACallF.dropL (aa Tryz.func120 rfl ?_);simp only [Tryz.ntmps120]
 repeat' (first|simp only [WL,ay,WM,reduceCtorEq,bg,Nat.reduceAdd,Nat.reduceSub,Nat.reduceEqDiff,true_and,T3,fR dR,fR fa,Tryz.results120]|simp (disch:=first|omega|(simp only [aU];omega)) only [an]|(with_reducible first|refine ax (hb:=?_)|refine au (hK:=?_)|refine az (hK:=?_)|refine aQ (hK:=fun b=>?_)|refine aV (hK:=fun b=>?_)|refine aI (hK:=?_))|((with_reducible refine aY ?_);apply di (hf:=Tryz.results120);exact bn))
 exact ak (ah (ah ae)) (aj rfl) hK
/-! ### Behind blanks -/
def pg (l:List Int):Nat:=(l.takeWhile blankI).length
def fV (ls:List Ln) (p:Int × Int):Int:=if 0≤p.1∧p.1 < ls.length then max p.2 (ls.getD p.1.toNat (0,[])).1 else p.2
def ca (ls:List Ln) (p:Int × Int):(Int × Int) × List Int:=((p.1,fV ls p+(pg (aH ls (p.1,fV ls p)):Nat)),(aH ls (p.1,fV ls p)).drop (pg (aH ls (p.1,fV ls p))))
theorem Jy (l:List Int):pg l≤l.length:=by
 unfold pg;exact (List.takeWhile_sublist _).length_le
theorem oK:∀ (l:List Int) (j:Nat),(∀ i,i < j→blankI (l.getD i 0)=true)→j≤l.length→(l.length≤j∨blankI (l.getD j 0)=false)→pg l=j
  | [], j, _, h2, _ => by have : j = 0 := by simpa using h2
                          subst this;rfl
  | x::l,0,_,_,h3=>by
    rcases h3 with h3|h3
    · simp at h3
    · unfold pg;rw [List.takeWhile_cons,show blankI x=false from h3];rfl
  | x::l,j+1,h1,h2,h3=>by
    have hx:blankI x=true:=h1 0 (by omega)
    have:=oK l j (fun i hi=>by have:=h1 (i+1) (by omega);simpa using this) (by simpa using h2) (by simpa using h3)
    unfold pg at this ⊢;rw [List.takeWhile_cons,hx];simp [this]
theorem lx {l:List Int}{i j:Nat}:(l.drop i).getD j 0=l.getD (i+j) 0:=by simp [List.getD_eq_getElem?_getD]
theorem Er {bj ix:Nat}{ls:List Ln}{n d:Int}{bk:Bool}{x y:AV} [hJ:Hold σ bj ix (JC ls n bk d x y)] {p:Int × Int} (hs:Small ls) (hp:bW p.1∧bW p.2) (hK:K (.ret (.tup [cU (ca ls p).1,SI none (ca ls p).2])) σ) :
  ACallF κ Tryz.prog 101 [JP bj,cU p] σ K:=by
 obtain ⟨i,k⟩:=p;obtain ⟨⟨p1,p2⟩,p3,p4⟩:=hp;dsimp only at *;have hl:=hs.1
 have ha:=fun h=>hs.at_ (i:=i.toNat) h
 refine ACallF.dropL (aN Tryz.func101 rfl ?_);simp only [Tryz.ntmps101]
 repeat' (first|(with_reducible first|refine jS (id:=1) ?_|refine aG ?_)|simp only [WL,WM,Nat.reduceAdd,Nat.reduceSub]|(with_reducible first|refine aQ (hK:=fun b=>?_)|refine aV (hK:=fun b=>?_)))
 rename_i bp;refine nW (fun _:Unit=>⟨(JP bj::cU (i,k)::.any::JP bp::JP b::nilS::.any::.any::.any::.any::.any::.any::.any::.any::.any::.any::.any::.any::.any::.any::.any::.any::.any::.any::.any::.any::.any::.any::.any::.any::.any::.any::.any::.any::.any::.any::.any::.any::.any::.any::.any::.any::.any::.any::.any::.any::.any::.any::.any::.any::.any::[]),.obj b [I 0,I 0]::.obj bp [I i,I (fV ls (i,k))]::σ,true,[]⟩) (fun _=>True) ?_ ?_
 ·
  repeat' (first|(with_reducible first|refine aG ?_|refine aw ?_)|simp only [WL,ay,WM,reduceCtorEq,bg,Nat.reduceAdd,Nat.reduceLeDiff,Nat.reduceEqDiff,Bool.not_true,true_and,and_true,reduceIte,Bool.false_eq_true,T3,gg,jm,fC db,fR dR,fR fa,fR gO]|simp (disch:=first|omega|(simp only [aU];omega)) only [dO]|(with_reducible first|refine ax (hb:=?_)|refine au (hK:=?_)|refine aP (hK:=?_)|refine mS ?_)|((with_reducible refine aE (id:=1) 13 mixed ?_ ?_);kernel_rfl)|((with_reducible refine aE (id:=2) 13 mixed ?_ ?_);kernel_rfl)|(with_reducible refine bK ?_)|((with_reducible first|refine ai (fun h=>?_) (fun h=>?_)|refine ab (fun h=>?_) (fun h=>?_))<;>(try simp only [h])<;>(try simp only [bf,ba] at h)))
  all_goals first
   | exact ⟨(),aM bH (ResW.of_eq (by unfold fV;rw [if_pos ⟨by dsimp only;omega,by dsimp only;omega⟩])) id⟩
   | exact ⟨(),aM bH (ResW.of_eq (by unfold fV;rw [if_neg (by dsimp only;omega)])) id⟩
 ·intro _ _
  have hcol:bW ((i,fV ls (i,k)):Int × Int).1∧bW ((i,fV ls (i,k)):Int × Int).2:=by
   refine ⟨⟨p1,p2⟩, ?_⟩;unfold fV;split
   ·have:=ha (by dsimp only at *;omega);dsimp only;omega
   ·exact ⟨p3,p4⟩
  have hlen:=cj (p:=(i,fV ls (i,k))) hs
  have hsm:=fun h=>cA (p:=(i,fV ls (i,k))) hs h
  unfold ca at hK;dsimp only at hK hlen hsm;generalize fV ls (i,k)=c at *
  repeat' (first|(with_reducible first|refine al (aC ?_)|refine bO ?_|refine aG ?_)|simp only [WL,WM,true_and,fk]|(with_reducible first|refine aA (hK:=?_)|refine cD (fm (p:=(i,c)) hs hcol ?_)))
  refine dq (fun q:Nat=>⟨(JP bj::cU (i,k)::.any::JP bp::JP b::nilS::SI none ((aH ls (i,c)).drop q)::.any::.any::.any::.any::.any::.any::.any::.any::.any::.any::.any::.any::.any::.any::.any::.any::.any::.any::.any::.any::.any::.any::.any::.any::.any::.any::.any::.any::.any::.any::.any::.any::.any::.any::.any::.any::.any::.any::.any::.any::.any::.any::.any::.any::[]),.obj b [I 0,I 0]::.obj bp [I i,I (c+q)]::σ,true,[]⟩) (fun q=>q≤(aH ls (i,c)).length∧∀ m,m < q→blankI ((aH ls (i,c)).getD m 0)=true) (fun q=>(aH ls (i,c)).length - q) 0 (aM bH (ResW.of_eq (by simp)) id) ⟨Nat.zero_le _,fun m hm=>absurd hm (Nat.not_lt_zero _)⟩ ?_;rintro q ⟨hq,hb⟩;have hd:((aH ls (i,c)).drop q).getD 0 0=(aH ls (i,c)).getD q 0:=by rw [lx,Nat.add_zero]
  have hdl:((aH ls (i,c)).drop q).length=(aH ls (i,c)).length - q:=List.length_drop
  repeat' (first|(with_reducible first|refine aC ?_|refine al (al ?_)|refine aG ?_|refine aB ?_|refine aw ?_|refine aO ?_)|simp only [WL,ay,WM,Int.reduceToNat,reduceCtorEq,bg,Nat.reduceAdd,Bool.not_true,true_and,reduceIte,Bool.false_eq_true,T3,cb,fM,cP,Tryz.results101]|simp (disch:=first|omega|(simp only [aU];omega)) only [bL,bL]|(with_reducible first|refine ax (hb:=?_)|refine aA (hK:=?_)|refine az (hK:=?_)|refine cD (cm (p:=(i,c+q)) (by dsimp only;omega) ?_)|refine cD (Blank ?_))|((with_reducible refine aY ?_);apply xM (hf:=Tryz.results101);exact bn)|((with_reducible refine ik (id:=5) [2,3] (some 0) [([],some 1),([],some 4),([],some 5),([],none)] (fun _=>True) trivial mixed ?_ ?_);kernel_rfl)|((with_reducible apply aW);intro σq hq)|(with_reducible exact b9)|((with_reducible apply bD);rfl;rfl)|(with_reducible refine bV trivial ?_)|((with_reducible first|refine ai (fun h=>?_) (fun h=>?_)|refine ab (fun h=>?_) (fun h=>?_))<;>(try simp only [h])<;>(try simp only [bf,ba] at h)))
  ·refine ⟨q+1,aM (by simp only [List.drop_drop];exact bH) (ResW.of_eq (by rw [show ((q+1:Nat):Int)=(q:Int)+1 by omega,← Int.add_assoc])) id,⟨by omega,fun m hm=>?_⟩,by omega⟩
   by_cases e:m=q
   ·subst e;rw [← hd];assumption
   ·exact hb m (by omega)
  ·rw [oK _ q hb hq (.inr (by rw [← hd];assumption))] at hK
   exact ak (ah (ah ae)) (aj rfl) hK
  ·rw [oK _ q hb hq (.inl (by omega))] at hK
   exact ak (ah (ah ae)) (aj rfl) hK
instance:TStruct Tryz.prog 135:=⟨⟨_,Tryz.underlying135⟩⟩
def bN (e:Int):List PanicEntry:=[{ v:=.iface 135 (.agg #[.int .i64 e]),recovered:=false }]
theorem BR {e:Int} (hK:K (.pan (bN e)) σ):ACallF κ Tryz.prog 122 [I e] σ K:=by
 refine ACallF.dropL (aa Tryz.func122 rfl ?_);simp only [Tryz.ntmps122]
 repeat' (first|simp only [WL,WM,Nat.reduceAdd,Nat.reduceSub,true_and]|with_reducible refine aI (hK:=?_)|( refine Bp ?_))
 exact aS ae rfl hK
theorem mB {ok:Bool} (h1:ok=true→K (.ret (.tup [])) σ) (h2:ok=false→K (.pan (bN 2)) σ):ACallF κ Tryz.prog 123 [B ok] σ K:=by
 refine ACallF.dropL (aa Tryz.func123 rfl ?_);simp only [Tryz.ntmps123]
 repeat' (first|simp only [WL,WM,Nat.reduceAdd,Nat.reduceSub,true_and,tY,Tryz.results123]|with_reducible refine cD (BR ?_)|((with_reducible first|refine ai (fun h=>?_) (fun h=>?_)|refine ab (fun h=>?_) (fun h=>?_))<;>(try simp only [h])<;>(try simp only [bf,ba] at h)))
 ·exact aS ae rfl (h2 (by assumption))
 ·exact ak ae (aj rfl) (h1 (by assumption))
theorem mI (h1:K (.ret (.tup [])) σ):ACallF κ Tryz.prog 123 [B true] σ K:=mB (fun _=>h1) (fun h=>by cases h)
theorem jQ (h2:K (.pan (bN 2)) σ):ACallF κ Tryz.prog 123 [B false] σ K:=mB (fun h=>by cases h) (fun _=>h2)
theorem SS {e:Int} (h1:e=0→K (.ret (.tup [])) σ) (h2:e≠0→K (.pan (bN e)) σ):ACallF κ Tryz.prog 174 [I e] σ K:=by
 refine ACallF.dropL (aa Tryz.func174 rfl ?_);simp only [Tryz.ntmps174]
 repeat' (first|simp only [WL,ay,WM,reduceCtorEq,bg,Nat.reduceAdd,Nat.reduceSub,true_and,tY,Tryz.results174]|with_reducible refine cD (BR ?_)|((with_reducible first|refine ai (fun h=>?_) (fun h=>?_)|refine ab (fun h=>?_) (fun h=>?_))<;>(try simp only [h])<;>(try simp only [bf,ba] at h)))
 ·exact aS ae rfl (h2 (by assumption))
 ·exact ak ae (aj rfl) (h1 (by assumption))
end Go.Proofs.YthkabaiamcjdbaaGreat
namespace Go.Abs
open Go.RowKit
abbrev aD (l:List AV):List AV:=l.flatMap AV.cells
theorem oZ {sz:Nat} (hsz:0 < sz):∀ (l:List AV),(∀ (i:Nat) (x:AV),l[i]? = some x→x.cells.length=sz)→∀ j:Nat,(aD l)[j]? = (l[j / sz]?).bind fun x:AV=>x.cells[j % sz]?
 | [],_,j=>by simp [aD]
 | x::l,hl,j=>by
  have hx:=hl 0 x rfl
  have ih:=oZ hsz l (fun i y hy=>hl (i+1) y (by simpa using hy))
  show (x.cells++aD l)[j]? = _
  by_cases hj:j < sz
  ·rw [List.getElem?_append_left (by omega),Nat.div_eq_of_lt hj,Nat.mod_eq_of_lt hj]
   rfl
  ·rw [List.getElem?_append_right (by omega),ih,hx]
   have e1:j / sz=(j - sz) / sz+1:=by
    rw [Nat.div_eq_sub_div hsz (by omega)]
   have e2:j % sz=(j - sz) % sz:=Nat.mod_eq_sub_mod (by omega)
   rw [e1,e2,List.getElem?_cons_succ]
theorem da {sz:Nat}:∀ (l:List AV),(∀ (i:Nat) (x:AV),l[i]? = some x→x.cells.length=sz)→(aD l).length=l.length * sz
 | [],_=>by simp [aD]
 | x::l,hl=>by
  show (x.cells++aD l).length=_
  rw [List.length_append,hl 0 x rfl,da l (fun i y hy=>hl (i+1) y (by simpa using hy)),List.length_cons,Nat.succ_mul,Nat.add_comm]
theorem FR.cells {g:Nat→Nat}{w:World}{sz:Nat}{l:List AV}{us:List Value} (h:FR g w sz l us) (hsz:0 < sz):TR g w (aD l) us.toArray:=by
 refine TR.of_get (by rw [h.len,da l h.el]) (fun k x hk=>?_);rw [oZ hsz l h.el] at hk;cases hy:l[k / sz]? with
 | none=>rw [hy] at hk;cases hk
 | some y =>
  rw [hy] at hk;obtain ⟨u,h1,h2⟩:=h.cell _ y _ x hy hk;rw [show k / sz * sz+k % sz=k by rw [Nat.mul_comm];exact Nat.div_add_mod k sz] at h1;exact ⟨u,h1,h2⟩
section
variable {κ:Ctx} {P:Program} {σ:List Res} {K:AV→List Res→Prop}
theorem s5 {t e:TypeId}{sz:Nat}{b n c:Nat}{cs:List AV}{l2:List AV}{o2:Option (Option (Nat × Nat))}{z:Value}{by_:Nat} (i:Nat) (h:σ[i]? = some (.obj b cs)) (he:jg P t=some e) (hs:dj P e=some sz) (hb:mg P e=some by_) (hz:dP P e=some z) (hzs:z.cells.size=sz)
  (hpos:0 < sz) (hgood:cY l2=true) (hcs:cs.length=c * sz) (hn:n≤c) (hlen:(n+l2.length) * by_≤140737488355328) (hmax:n+l2.length≤maxLen)
  (hK:∀ b' c' cs',cs'.length=c' * sz→n+l2.length≤c'→cs'.take ((n+l2.length) * sz)=cs.take (n * sz)++aD l2→K (bT b' 0 (n+l2.length) c') (σ.set i (.obj b' cs'))):AAct κ P (.append t) [bT b 0 n c,.sl sz o2 l2] σ K:=by
 intro φ g w vs hR hvs;obtain ⟨v,u,rfl,hv,hu⟩:=dA hvs;cases hv.raw_eq
 have ht:=aR he
 obtain ⟨inf,hi,hisz,hiby,hizr⟩:∃ inf,P.info? e=some inf∧inf.size=sz∧inf.bytes=by_∧inf.zero=some z:=by
  unfold dj mg dP at *;cases hi:P.info? e with
  | none=>simp [hi] at hs
  | some inf=>exact ⟨inf,rfl,by simpa [hi] using hs,by simpa [hi] using hb,by simpa [hi] using hz⟩
 obtain ⟨us2,hf2,hsrc⟩:=CN ht hu hgood;have hset:∀ r',(φ++σ.set i r').Perm (r'::(φ++σ.eraseIdx i)):=fun r'=>((fq h).symm.append_left φ).trans List.perm_middle
 have hR0:=hR.perm (c6 (φ:=φ) (dE h))
 have hRd:Rel κ g (φ++σ.eraseIdx i) w:=hR0.sub (List.sublist_cons_self _ _)
 have hm63:((n+l2.length:Nat):Int)≤9223372036854775807:=by unfold maxLen at hmax;omega
 obtain ⟨hg0,cur,ety,hh,htr⟩:=hR.holds _ (cN h);have hcur:cur.size=c * sz:=by rw [htr.size,hcs]
 have hnc:n * sz≤c * sz:=Nat.mul_le_mul_right sz hn
 have hx2:TR g w (aD l2) us2.toArray:=hf2.cells hpos
 have hl2:(aD l2).length=l2.length * sz:=da l2 hf2.el
 have hadd:(n+l2.length) * sz=n * sz+l2.length * sz:=Nat.add_mul _ _ _
 have hold:TR g w (cs.take (n * sz)) (cur.toList.take (n * sz)).toArray:=TR.of_get (by rw [List.length_take,List.length_take,Array.length_toList,hcur,hcs]) (fun k x hk=>by
  rw [List.getElem?_take] at hk ⊢;split at hk
  ·rename_i hlt;rw [if_pos hlt];exact (show TR g w cs cur.toList.toArray by simpa using htr).get' k x hk
  ·cases hk)
 have holdlen:(cur.toList.take (n * sz)).length=n * sz:=by rw [List.length_take,Array.length_toList,hcur];omega
 have hcell:∀ (k:Nat) (x:Value),(cur.toList.take (n * sz))[k]? = some x→w.cell? ⟨b,k,none⟩=some x:=by
  intro k x hk;rw [List.getElem?_take] at hk;split at hk
  ·rw [Array.getElem?_toList] at hk
   simp [World.cell?,hh,hk]
  ·cases hk
 by_cases hroom:n+l2.length≤c
 ·have hmul:(n+l2.length) * sz≤c * sz:=Nat.mul_le_mul_right sz hroom
  have hrun:=run_append_room_src (P:=P) w t t t e inf ht hi b 0 n c u l2.length us2 (hisz ▸ hsrc) hroom (fun j hj=>by
    have hj':=hf2.len
    have:n * inf.size+j < cur.size:=by rw [hisz];omega
    simp [World.cell?,hh,this]) (fun j hj=>by simp [World.frozen?,hh])
  rw [hisz,Nat.zero_add] at hrun;obtain ⟨arr',k1,k2,k3,k4,k5,k6,k7⟩:=iG b ety us2 (n * sz) w cur hh;generalize hw':w.setCells b (n * sz) us2=w' at *;have hin:=fun j (hj:j < us2.length)=>World.cell?_setCells_in b us2 (n * sz) w (fun j hj=>by
    have hj':=hf2.len
    have:n * sz+j < cur.size:=by omega
    simp [World.cell?,hh,this]) j hj
  have hout:∀ o,o < n * sz→w'.cell? ⟨b,o,none⟩=w.cell? ⟨b,o,none⟩:=fun o ho=>by
   rw [← hw'];exact World.cell?_setCells_out b us2 _ w ⟨b,o,none⟩ (fun _ _=>.inl ho)
  have hge:GE g w g w':=by
   refine ⟨by rw [k3];exact Nat.le_refl _,fun _=>Nat.le_refl _,fun c' o ho=>?_,fun c'=>?_⟩
   ·by_cases ec:c'=b
    ·subst ec;rw [hg0] at ho;omega
    ·simp only [World.cell?];rw [k7 c' ec]
   ·by_cases ec:c'=b
    ·subst ec;simp only [bu,k1,hh];omega
    ·simp only [bu];rw [k7 c' ec];exact Nat.le_refl _
  have hcells:∀ o,w'.cell? ⟨b,o,none⟩=arr'[o]?:=fun o=>by simp [World.cell?,k1]
  have hnew:TR g w' (cs.take (n * sz)++aD l2++List.replicate (c * sz - (n+l2.length) * sz) .any) arr':=by
   refine ⟨by rw [k2,hcur,List.length_append,List.length_append,List.length_take,hl2,List.length_replicate,hcs];omega,fun k x hk=>?_⟩;by_cases h1:k < n * sz
   ·rw [List.append_assoc,List.getElem?_append_left (by rw [List.length_take,hcs];omega)] at hk
    obtain ⟨y,hy1,hy2⟩:=hold.get' k x hk;have:=hcell k y hy1
    rw [← hout k h1,hcells] at this;rw [Array.getD_eq_getD_getElem?,this];exact hy2.mono hge
   ·by_cases h2:k < (n+l2.length) * sz
    ·rw [List.getElem?_append_left (by rw [List.length_append,List.length_take,hl2,hcs];omega),List.getElem?_append_right (by rw [List.length_take,hcs];omega),List.length_take,hcs,Nat.min_eq_left hnc] at hk
     obtain ⟨y,hy1,hy2⟩:=hx2.get' _ x hk;have hlt:=aL hy1
     have h5:=hin (k - n * sz) hlt
     rw [hw',show n * sz+(k - n * sz)=k by omega,hcells] at h5;rw [Array.getD_eq_getD_getElem?,h5];have:us2[k - n * sz]'hlt=y:=by rw [List.getElem?_eq_getElem hlt] at hy1;exact Option.some.inj hy1
     simp only [Option.getD_some];rw [this];exact hy2.mono hge
    ·rw [List.getElem?_append_right (by rw [List.length_append,List.length_take,hl2,hcs];omega),List.getElem?_replicate] at hk
     split at hk
     ·cases hk;exact .any _
     ·cases hk
  have hR2:Rel κ g (.obj b (cs.take (n * sz)++aD l2++List.replicate (c * sz - (n+l2.length) * sz) .any)::(φ++σ.eraseIdx i)) w' :=
   hR0.change hge k4 k5 k6 k3 k7 (fun _ _=>rfl) rfl rfl ⟨hg0,arr',ety,k1,hnew⟩
  refine ⟨_,w',g,_,_,hrun,hR2.perm (hset _).symm,hge,.raw _,hK b c _ ?_ hroom ?_⟩
  ·rw [List.length_append,List.length_append,List.length_take,hl2,List.length_replicate,hcs];omega
  ·rw [List.take_append_of_le_length (by rw [List.length_append,List.length_take,hl2,hcs];omega)]
   exact List.take_of_length_le (by rw [List.length_append,List.length_take,hl2,hcs];omega)
 ·have hrun:=run_append_grow_src (P:=P) w t t t e inf z ht hi hizr (some ⟨b,0,none⟩) n c (cur.toList.take (n * sz)) (run_firstCells_some w.drew inf.size _ _ _ _ (cur.toList.take (n * sz)) (by rw [hisz];exact holdlen) (fun j u hj=>by rw [Addr.add_lit,Nat.zero_add];exact hcell j u hj)) u l2.length us2 (hisz ▸ hsrc) (by omega) hm63 (by rw [hiby];exact growslice_fits (by omega) hlen)
  have hcapge:=grownCap_ge w (n+l2.length) c e
  have hcapmax:=grownCap_le_maxLen w (n+l2.length) c e hmax
  have hRdr:Rel κ g (φ++σ.eraseIdx i) w.drew:=hRd.of_heap rfl rfl rfl rfl
  have hmono:GE g w g w.drew:=GE.of_heap (g:=g) (w:=w) (w':=w.drew) rfl
  generalize hcap:grownCap w (n+l2.length) c e=cap at *;have hcapsz:(n+l2.length) * sz≤cap * sz:=Nat.mul_le_mul_right sz hcapge
  have hzl:(Builtin.zeroCells z.cells (cap - (n+l2.length))).size=cap * sz - (n+l2.length) * sz:=by rw [size_zeroCells,hzs,Nat.sub_mul]
  have hnew:TR g w.drew (cs.take (n * sz)++aD l2++List.replicate (cap * sz - (n+l2.length) * sz) .any) ((cur.toList.take (n * sz)++us2).toArray++Builtin.zeroCells z.cells (cap - (n+l2.length))):=by
   have h1:TR g w.drew (cs.take (n * sz)++aD l2) (cur.toList.take (n * sz)++us2).toArray:=by
    have:=(hold.append hx2).mono hmono
    simpa using this
   refine h1.append ⟨by rw [hzl,List.length_replicate],fun k x hk=>?_⟩;rw [List.getElem?_replicate] at hk;split at hk
   ·cases hk;exact .any _
   ·cases hk
  obtain ⟨b1,b2⟩:=hRdr.new_obj e hnew;refine ⟨_,_,g,_,_,hrun,(b1.perm (hset _).symm),hmono.trans b2,.raw _,hK _ cap _ ?_ hcapge ?_⟩
  ·rw [List.length_append,List.length_append,List.length_take,hl2,List.length_replicate,hcs];omega
  ·rw [List.take_append_of_le_length (by rw [List.length_append,List.length_take,hl2,hcs];omega)]
   exact List.take_of_length_le (by rw [List.length_append,List.length_take,hl2,hcs];omega)
theorem qV {t e:TypeId}{sz:Nat}{l2:List AV}{o2:Option (Option (Nat × Nat))}{z:Value}{by_:Nat} (he:jg P t=some e) (hs:dj P e=some sz) (hb:mg P e=some by_) (hz:dP P e=some z) (hzs:z.cells.size=sz)
  (hpos:0 < sz) (hgood:cY l2=true) (hne:0 < l2.length) (hlen:l2.length * by_≤140737488355328) (hmax:l2.length≤maxLen)
  (hK:∀ b' c' cs',cs'.length=c' * sz→l2.length≤c'→cs'.take (l2.length * sz)=aD l2→K (bT b' 0 l2.length c') (.obj b' cs'::σ)):AAct κ P (.append t) [nilS,.sl sz o2 l2] σ K:=by
 intro φ g w vs hR hvs;obtain ⟨v,u,rfl,hv,hu⟩:=dA hvs;cases hv.raw_eq
 have ht:=aR he
 obtain ⟨inf,hi,hisz,hiby,hizr⟩:∃ inf,P.info? e=some inf∧inf.size=sz∧inf.bytes=by_∧inf.zero=some z:=by
  unfold dj mg dP at *;cases hi:P.info? e with
  | none=>simp [hi] at hs
  | some inf=>exact ⟨inf,rfl,by simpa [hi] using hs,by simpa [hi] using hb,by simpa [hi] using hz⟩
 obtain ⟨us2,hf2,hsrc⟩:=CN ht hu hgood;have hx2:TR g w (aD l2) us2.toArray:=hf2.cells hpos
 have hl2:(aD l2).length=l2.length * sz:=da l2 hf2.el
 have hm63:((0+l2.length:Nat):Int)≤9223372036854775807:=by unfold maxLen at hmax;omega
 have hrun:=run_append_grow_src (P:=P) w t t t e inf z ht hi hizr none 0 0 [] (by simpa using run_firstCells_none w.drew inf.size 0 0 0) u l2.length us2 (hisz ▸ hsrc) (by omega) hm63 (by rw [hiby];exact growslice_fits (by omega) (by simpa using hlen))
 have hcapge:=grownCap_ge w (0+l2.length) 0 e
 have hcapmax:=grownCap_le_maxLen w (0+l2.length) 0 e (by simpa using hmax)
 have hRdr:Rel κ g (φ++σ) w.drew:=hR.of_heap rfl rfl rfl rfl
 have hmono:GE g w g w.drew:=GE.of_heap (g:=g) (w:=w) (w':=w.drew) rfl
 generalize hcap:grownCap w (0+l2.length) 0 e=cap at *;have hcapsz:l2.length * sz≤cap * sz:=Nat.mul_le_mul_right sz (by omega)
 have hzl:(Builtin.zeroCells z.cells (cap - (0+l2.length))).size=cap * sz - l2.length * sz:=by rw [size_zeroCells,hzs,Nat.sub_mul,Nat.zero_add]
 have hnew:TR g w.drew (aD l2++List.replicate (cap * sz - l2.length * sz) AV.any) (([]++us2).toArray++Builtin.zeroCells z.cells (cap - (0+l2.length))):=by
  have h1:TR g w.drew (aD l2) ([]++us2).toArray:=by simpa using hx2.mono hmono
  refine h1.append ⟨by rw [hzl,List.length_replicate],fun k x hk=>?_⟩;rw [List.getElem?_replicate] at hk;split at hk
  ·cases hk;exact .any _
  ·cases hk
 obtain ⟨b1,b2⟩:=hRdr.new_obj e hnew;have hK2:=hK w.drew.heap.size cap (aD l2++List.replicate (cap * sz - l2.length * sz) AV.any) (by rw [List.length_append,hl2,List.length_replicate];omega) (by omega) (by rw [List.take_append_of_le_length (by omega)];exact List.take_of_length_le (by omega))
 have hv':(.slice (some ⟨w.drew.heap.size,0,none⟩) (0+l2.length) cap:Value)=.slice (some ⟨w.drew.heap.size,0,none⟩) l2.length cap:=by rw [Nat.zero_add]
 exact ⟨_,_,g,bT w.drew.heap.size 0 (0+l2.length) cap,_,hrun,b1.perm List.perm_middle.symm,hmono.trans b2,.raw _,by rw [Nat.zero_add];exact hK2⟩
theorem vr {t e:TypeId}{sz b o n c a:Nat} (he:jg P t=some e) (hs:dj P e=some sz) (ha:a≤n) (hc:n≤c) (h0:0 < c) (hK:K (bT b o a c) σ):AAct κ P (.slice t false true false) [bT b o n c,.any,I a,.any] σ K:=by
 intro φ g w vs hR hv;have h1:=hv.size
 match vs,h1 with
 | [v,u,x,y],_ =>
  have hv0:=hv.get 0 _ rfl
  have hv1:=hv.get 2 _ rfl
  simp at hv0 hv1;cases hv0.raw_eq
  cases hv1.raw_eq
  have hl:OptR g w none none:=trivial
  have hh:OptR g w (some (I a)) (some (.int .i64 a)):=VR.raw _
  have hsb:=cF (P:=P) (w:=w) (g:=g) (isS:=true) (len:=n) (cap:=c) hl hh rfl rfl (Int.le_refl _) (Int.natCast_nonneg _) (by omega)
  simp only [Int.toNat_natCast,Int.toNat_zero] at hsb;refine ⟨.slice (some ⟨b,o,none⟩) a c,w,g,_,σ, ?_,hR,GE.refl _ _,.raw _,hK⟩;have hne:¬c=0:=by omega
  simp [MA.sem,nth,Instr.sliceAt,bE (aR he),Instr.slice,hsb,dI hs,Addr.add_lit,hne]
theorem u9 {t e:TypeId}{sz b o n c a:Nat} (he:jg P t=some e) (hs:dj P e=some sz) (ha:a≤n) (hc:n≤c) (hK:K (bT b (if c=a then o else o+a * sz) (n - a) (c - a)) σ):AAct κ P (.slice t true false false) [bT b o n c,I a,.any,.any] σ K:=by
 intro φ g w vs hR hv;have h1:=hv.size
 match vs,h1 with
 | [v,u,x,y],_ =>
  have hv0:=hv.get 0 _ rfl
  have hv1:=hv.get 1 _ rfl
  simp at hv0 hv1;cases hv0.raw_eq
  cases hv1.raw_eq
  have hl:OptR g w (some (I a)) (some (.int .i64 a)):=VR.raw _
  have hh:OptR g w none none:=trivial
  have hsb:=cF (P:=P) (w:=w) (g:=g) (isS:=true) (len:=n) (cap:=c) hl hh rfl rfl (Int.natCast_nonneg _) (by omega) (by omega)
  simp only [Int.toNat_natCast] at hsb;refine ⟨.slice (some ⟨b,if c=a then o else o+a * sz,none⟩) (n - a) (c - a),w,g,_,σ, ?_,hR,GE.refl _ _,.raw _,hK⟩;by_cases hne:c=a
  ·subst hne
   simp [MA.sem,nth,Instr.sliceAt,bE (aR he),Instr.slice,hsb,dI hs,Addr.add_lit]
  ·have h9:¬c - a=0:=by omega
   simp [MA.sem,nth,Instr.sliceAt,bE (aR he),Instr.slice,hsb,dI hs,Addr.add_lit,hne,h9]
end
end Go.Abs
