/-
  Texts L, Sg, Sh, Sl, Sm, Sf, Fd, Sq, Sk, MD, Ha, Hb, one behind the other.
-/
import Derived.Test.YthkabaiamcjdbaaGreatG5
set_option linter.unusedVariables false
set_option linter.unusedSimpArgs false
set_option maxHeartbeats 16000000
/-
 Walks: chapter 3's markers,and the reference's.
-/

namespace Go.Proofs.YthkabaiamcjdbaaGreat
open Go.Abs
variable {κ:Ctx} {σ:List Res} {K:Ret→List Res→Prop} {o o':Option (Option (Nat × Nat))}
theorem dh {n:Int}{l:List Int} (hl:l.length≤1000000000) (hK:K (.ret (I (bB n l))) σ):ACallF κ Tryz.prog 56 [.agg [I n,SI o l]] σ K:=by
  refine ACallF.dropL (aa Tryz.func56 rfl ?_)
  simp only [Tryz.ntmps56]
  repeat' (first|simp only [WL,aD,WM,Int.reduceToNat,reduceCtorEq,ba,Nat.reduceAdd,Nat.reduceSub,Nat.reduceEqDiff,Bool.not_true,Bool.not_false,true_and,reduceIte,Bool.false_eq_true,T3,bX,fR cX,fR dP,fw,Tryz.results56]|simp (disch:=first|omega|(simp only [aT];omega)) only [aV]|(with_reducible first|refine aC (hb:=?_)|refine ax (hK:=?_)|refine aP (hK:=fun b=>?_)|refine cF (hK:=?_)|refine cD (Blank ?_))|((with_reducible first|refine ai (fun h=>?_) (fun h=>?_)|refine ab (fun h=>?_) (fun h=>?_))<;>(try simp only [h])<;>(try simp only [bg,bm] at h)))
  all_goals first
    | exact ak (ae ah) (aj (congrArg I (yw (by assumption) (by omega)).symm)) hK
    | (refine ak (ae ah) (aj (congrArg I ?_)) hK
       unfold bB
       repeat' split
       all_goals first|rfl|omega)
    | skip
  all_goals
    refine bH (fun k:Nat=>⟨(.agg [I n,SI o l]::.raw (.pointer (some ⟨b,0,none⟩))::.any::.any::.any::.any::.any::.any::.any::.any::.any::.any::.any::.any::.any::.any::.any::.any::.any::.any::.any::.any::.any::.any::.any::.any::.any::.any::.sl 1 none [I 45,I 46]::I 2::I k::.any::.any::.any::.any::.any::.any::.any::.any::.any::.any::.any::.any::.any::.any::.any::.any::.any::.any::.any::.any::.any::.any::.any::.any::.any::.any::.any::.any::.any::[]),.obj b [I n,SI o l]::σ,true,[]⟩) (fun k=>k≤2∧(1≤k→¬(l.getD 0 0=45∧l.getD 1 0=45∧l.getD 2 0=45))∧(2≤k→¬(l.getD 0 0=46∧l.getD 1 0=46∧l.getD 2 0=46))) (fun k=>2 - k) 0 (ao bz id) ⟨by decide,fun h=>absurd h (by decide),fun h=>absurd h (by decide)⟩ ?_
    rintro k ⟨h1,h2,h3⟩
    obtain rfl|rfl|rfl:k=0∨k=1∨k=2:=by omega
  repeat' (first|simp only [WL,aD,WM,Int.reduceToNat,reduceCtorEq,ba,Nat.reduceAdd,Nat.reduceSub,Nat.reduceEqDiff,Bool.not_true,true_and,reduceIte,Bool.false_eq_true,T3,bX,fR dP,Tryz.results56]|simp (disch:=first|omega|(simp only [aT];omega)) only [aq,aV]|(with_reducible first|refine aC (hb:=?_)|refine ax (hK:=?_))|((with_reducible first|refine ai (fun h=>?_) (fun h=>?_)|refine ab (fun h=>?_) (fun h=>?_))<;>(try simp only [h])<;>(try simp only [bg,bm] at h))|omega)
  all_goals first
    | exact ⟨1,ao bz id,⟨by decide,fun _=>by omega,fun h=>by omega⟩,by decide⟩
    | exact ⟨2,ao bz id,⟨by decide,fun _=>by omega,fun h=>by omega⟩,by decide⟩
    | (refine ak (ae ah) (aj (congrArg I ?_)) hK
       unfold bB
       repeat' split
       all_goals first|rfl|omega)
    | (refine ak (ae ah) (aj (congrArg I ?_)) hK
       unfold bB
       rw [if_pos ⟨by omega,by omega,by omega,by omega,fun _=>by first|assumption|omega⟩]
       first
         | (rw [if_pos (by omega)];rfl)
         | (rw [if_neg (by omega),if_pos (by omega)];rfl))

theorem J6 {m:Nat} (hm:m≤1000000000) (hK:K (.ret (.tup [.raw (.int .u64 0),.raw (.int .u64 m)])) σ):ACallF κ Tryz.prog 215 [.raw (.int .u64 1),.raw (.int .u64 m)] σ K:=by
 refine ACallF.dropL (aa Tryz.func215 rfl ?_)
 simp only [Tryz.ntmps215]
 repeat' (first|simp only [WL,aD,WM,Int.reduceToNat,reduceCtorEq,ba,Nat.reduceAdd,Nat.reduceSub,true_and,Tryz.results215,DG,Int.reduceToNat,Int.reducePow,Int.zero_mul,Int.one_mul,Int.zero_add,Int.add_zero,Int.mul_zero,Int.reduceDiv]|simp (disch:=first|omega|(simp only [aT];omega)) only [Rj,ON,S6,nH])
 exact ak ah (aj rfl) hK
theorem LJ {m:Nat} (hm:m≤1000000000) (hK:K (.ret (.tup [.raw (.int .u64 0),.raw (.int .u64 m)])) σ):ACallF κ Tryz.prog 192 [.raw (.int .u64 1),.raw (.int .u64 m)] σ K:=by
 refine ACallF.dropL (aa Tryz.func192 rfl ?_)
 simp only [Tryz.ntmps192]
 repeat' (first|simp only [WL,WM,Nat.reduceAdd,Nat.reduceSub,Nat.reduceLT,true_and,PM,Tryz.results192]|with_reducible refine cD (J6 (by omega) ?_))
 exact ak ah (aj rfl) hK
theorem Cw {c:Int}{n m k:Nat} (h:n+k≤m):lay (List.replicate n (I c)++List.replicate (m - n) (I 0)) n (List.replicate k (I c))=List.replicate (n+k) (I c)++List.replicate (m - (n+k)) (I 0):=by
 unfold lay
 rw [List.take_left' (by simp),List.length_replicate,List.drop_append]
 simp only [List.length_replicate,List.drop_replicate]
 rw [show n - (n+k)=0 by omega,List.replicate_zero,List.nil_append,show m - n - (n+k - n)=m - (n+k) by omega,List.replicate_append_replicate]
theorem xN {c:Int}{m:Nat} (hm:m≤1000000000) (hK:∀ tk,K (.ret (SI (some tk) (List.replicate m c))) (.tip tk::σ)):ACallF κ Tryz.prog 160 [SI o [c],I m] σ K:=by
 refine ACallF.freeze ?_
 rcases Nat.eq_zero_or_pos m with rfl|hpos
 ·
  refine ACallF.dropL (aa Tryz.func160 rfl ?_)
  simp only [Tryz.ntmps160]
  repeat' (first|simp only [WL,aD,WM,reduceCtorEq,ba,Nat.reduceAdd,Nat.reduceSub,Nat.reduceLT,Bool.not_false,true_and,reduceIte,Bool.false_eq_true,bX,cI K6,cI QZ,Ft,Int.cast_ofNat_Int]|simp (disch:=first|omega|(simp only [aT];omega)) only [aq,nH]|with_reducible refine aC (hb:=?_)|( refine cP (uc sk Er Sj Qr rfl rfl (by omega) (by decide) (fun b=>?_)))|( refine cP (oc 0 rfl rfl sk Er (Lg _) ?_ ?_))|with_reducible refine cD (LJ (by omega) ?_)|((with_reducible first|refine ai (fun h=>?_) (fun h=>?_)|refine ab (fun h=>?_) (fun h=>?_))<;>(try simp only [h])<;>(try simp only [bg,bm] at h))|omega)
  refine bH (fun _:Unit=>⟨(.any::.any::.any::.any::.any::.any::.any::bM b 0 0 0::I 0::.any::.any::.any::.any::.any::.any::.any::.any::.any::.any::.any::.any::.any::.any::.any::.any::.any::.any::.any::.any::.any::.any::.any::.any::.any::.any::.any::.any::.any::.any::.any::.any::.any::.any::.any::.any::.any::.any::.any::[]),.obj b []::σ,true,[]⟩) (fun _=>True) (fun _=>0) () (ao bz id) trivial ?_
  rintro ⟨⟩ _
  repeat' (first|simp only [WL,aD,WM,ne_eq,reduceCtorEq,not_false_eq_true,Nat.reduceLT,true_and,bX,Tryz.results160]|((with_reducible refine gI (id:=9) [0,1,2,3,4,5,6] (some 7) [([8],some 9),([],none)] (fun _=>True) trivial mixed ?_ ?_);kernel_rfl)|((with_reducible apply aQ);intro σq hq)|((with_reducible apply bA);rfl;rfl)|((with_reducible first|refine ai (fun h=>?_) (fun h=>?_)|refine ab (fun h=>?_) (fun h=>?_))<;>(try simp only [h])<;>(try simp only [bg,bm] at h))|omega)
  exact ak ah (aj rfl) (.inr ⟨b,[],σ,rfl,ResW.refl _,by simp,Nat.zero_le _,hK _⟩)
 ·
  refine ACallF.dropL (aa Tryz.func160 rfl ?_)
  simp only [Tryz.ntmps160]
  repeat' (first|simp only [WL,aD,WM,reduceCtorEq,ba,Nat.reduceAdd,Nat.reduceSub,Nat.reduceLT,Bool.not_false,true_and,reduceIte,Bool.false_eq_true,bX,cI K6,cI QZ,Ft]|simp (disch:=first|omega|(simp only [aT];omega)) only [aq,nH]|with_reducible refine aC (hb:=?_)|( refine cP (uc sk Er Sj Qr rfl rfl (by omega) (by decide) (fun b=>?_)))|( refine cP (oc 0 rfl rfl sk Er (Lg _) ?_ ?_))|with_reducible refine cD (LJ (by omega) ?_)|((with_reducible first|refine ai (fun h=>?_) (fun h=>?_)|refine ab (fun h=>?_) (fun h=>?_))<;>(try simp only [h])<;>(try simp only [bg,bm] at h))|omega|(simp only [aT];omega))
  have e0:lay (List.replicate m (I 0)) 0 (((([c]:List Int).map I).take m).flatMap AV.cells)=List.replicate 1 (I c)++List.replicate (m - 1) (I 0):=by
   have:=Cw (c:=c) (n:=0) (m:=m) (k:=1) (by omega)
   simp only [List.replicate_zero,List.nil_append,Nat.sub_zero,Nat.zero_add] at this
   rw [← this,List.map_cons,List.map_nil,List.take_of_length_le (by simp;omega)]
   rfl
  refine bH (fun n:Nat=>⟨(.any::.any::.any::.any::.any::.any::.any::bM b 0 m m::I n::.any::.any::.any::.any::.any::.any::.any::.any::.any::.any::.any::.any::.any::.any::.any::.any::.any::.any::.any::.any::.any::.any::.any::.any::.any::.any::.any::.any::.any::.any::.any::.any::.any::.any::.any::.any::.any::.any::.any::[]),.obj b (List.replicate n (I c)++List.replicate (m - n) (I 0))::σ,true,[]⟩) (fun n=>1≤n∧n≤m) (fun n=>m - n) 1 (aL bz ?_ id) ⟨Nat.le_refl _,hpos⟩ ?_
  ·have:=e0
   simp only [List.map_cons,List.map_nil] at this
   exact this ▸ ResW.refl _
  rintro n ⟨h1,h2⟩
  repeat' (first|simp only [WL,aD,WM,ne_eq,reduceCtorEq,not_false_eq_true,true_and,bX,Tryz.results160]|simp (disch:=first|omega|(simp only [aT];omega)) only [aq]|( refine gz (vY sk Er (by omega) (by omega) gH) ?_)|( refine gz (wj sk Er (by omega) (by omega) (by omega) gH) ?_)|( refine cP (ti 0 rfl rfl sk Er ?_ ?_ ?_ ?_))|((with_reducible refine gI (id:=9) [0,1,2,3,4,5,6] (some 7) [([8],some 9),([],none)] (fun _=>True) trivial mixed ?_ ?_);kernel_rfl)|((with_reducible apply aQ);intro σq hq)|(with_reducible exact bU)|((with_reducible apply bA);rfl;rfl)|(with_reducible refine bR trivial ?_)|((with_reducible first|refine ai (fun h=>?_) (fun h=>?_)|refine ab (fun h=>?_) (fun h=>?_))<;>(try simp only [h])<;>(try simp only [bg,bm] at h))|(simp only [aT];omega))
  ·rw [List.all_eq_true]
   intro x hx
   rcases List.mem_append.1 hx with hx|hx<;>rw [(List.mem_replicate.1 hx).2]<;>rfl
  ·have et:(List.replicate n (I c)++List.replicate (m - n) (I 0)).take (min n (m - n))=List.replicate (min n (m - n)) (I c):=by
    rw [List.take_append_of_le_length (by simp;omega),List.take_replicate]
    congr 1;omega
   have e1:=Cw (c:=c) (n:=n) (m:=m) (k:=min n (m - n)) (by omega)
   refine ⟨n+min n (m - n),aL bz ?_ id,⟨by omega,by omega⟩,by omega⟩
   rw [← e1,← et,Nat.zero_add]
   exact ResW.refl _
  ·obtain rfl:n=m:=by omega
   have ec:(List.replicate n (I c)++List.replicate (n - n) (I 0))=(List.replicate n c).map I:=by simp
   rw [ec]
   refine ak ah (aj rfl) (.inr ⟨b,(List.replicate n c).map I,σ, ?_,ResW.refl _, ?_, ?_,hK _⟩)
   ·simp
   ·intro x hx
    obtain ⟨y,_,rfl⟩:=List.mem_map.1 hx
    rfl
   ·exact bq (by simp;omega)
theorem BJ {c:Int}{m:Nat} (hm:m≤1000000000) (hK:K (.ret (SI none (List.replicate m c))) σ):ACallF κ Tryz.prog 160 [SI o [c],I m] σ K :=
 ACallF.dropL (xN hm (fun _=>ak (ae ah) (d8 le_ro) hK))
end Go.Proofs.YthkabaiamcjdbaaGreat
/-
 Plain specifications for chapter 3: lines. No program in sight.
-/

namespace Go.Abs
def Au (c:Int):Bool:=c == 10 || c == 13
def tx:List Int→List Int→List (List Int)
 | acc,[]=>if acc.isEmpty then [] else [acc]
 | acc,[c]=>if Au c then [acc] else [acc++[c]]
 | acc,c::d::r=>if c == 13 && d == 10 then acc::tx [] r else if Au c then acc::tx [] (d::r) else tx (acc++[c]) (d::r)
theorem B9 {acc r:List Int}{c:Int} (h:Au c=false):tx acc (c::r)=tx (acc++[c]) r:=by
 have h13:(c == 13)=false:=by simp [Au] at h;simp [h]
 cases r with
 | nil=>simp [tx,h]
 | cons d r=>simp [tx,h,h13]
theorem H9 {acc r:List Int}{c:Int} (h:Au c=true) (h2:¬(c=13∧r.head? = some 10)):tx acc (c::r)=acc::tx [] r:=by
 cases r with
 | nil=>simp [tx,h]
 | cons d r =>
  have:(c == 13 && d == 10)=false:=by
   rw [Bool.eq_false_iff];intro e;simp at e;exact h2 (by simp [e])
  simp [tx,h,this]
theorem Jx {acc r:List Int}:tx acc (13::10::r)=acc::tx [] r:=by simp [tx]
theorem F1:∀ {p acc r:List Int},(∀ c∈p,Au c=false)→tx acc (p++r)=tx (acc++p) r
 | [],acc,r,_=>by simp
 | c::p,acc,r,h=>by
  rw [List.cons_append,B9 (h c (by simp)),F1 (fun x hx=>h x (by simp [hx]))]
  simp
theorem E5 {a r:List Int}{c:Int} (ha:∀ x∈a,Au x=false) (hc:Au c=true) (h:¬(c=13∧0 < r.length∧r.getD 0 0=10)):tx [] (a++c::r)=a::tx [] r:=by
 rw [F1 ha,List.nil_append]
 refine H9 hc (fun ⟨h1,h2⟩=>h ⟨h1, ?_⟩)
 cases r with
 | nil=>cases h2
 | cons x r=>simp at h2;simp [h2]
def lineOf (t:List Int):Int × List Int:=(((t.takeWhile (· == 32)).length:Nat),t.dropWhile (· == 32))
def lR (l:List Int):List (Int × List Int):=(tx [] l).map lineOf
def oz (c:Int):Bool:=jB c && !(c == 65279)
theorem zc {c:Int} (h:jB c=false∨c=65279):oz c=false:=by
 rcases h with h|rfl
 ·simp [oz,h]
 ·simp [oz]
theorem uX {c:Int} (h:jB c=true) (h2:¬c=65279):oz c=true:=by simp [oz,h,h2]
def AK (l:List Int):Bool:=l.all oz
def gx (l:List Int):List (Int × List Int) × Int:=if AK l then (lR l,0) else ([],4)
theorem uZ {l:List Int}{k:Nat} (hk:k < l.length) (h:oz (l.getD k 0)=false):gx l=([],4):=by
 unfold gx
 rw [if_neg]
 intro hc
 have:=List.all_eq_true.1 hc (l.getD k 0) (by simp [List.getD_eq_getElem?_getD,hk])
 rw [h] at this;cases this
theorem Gm {l:List Int} (h:∀ j,j < l.length→oz (l.getD j 0)=true):gx l=(lR l,0):=by
 unfold gx
 rw [if_pos]
 refine List.all_eq_true.2 fun x hx=>?_
 obtain ⟨j,hj,rfl⟩:=List.getElem_of_mem hx
 have:=h j hj
 simpa [List.getD_eq_getElem?_getD,hj] using this
abbrev LN (x:Int × List Int):AV:=.agg [I x.1,SI none x.2]
abbrev SL (o:Option (Option (Nat × Nat))) (l:List (Int × List Int)):AV:=.sl 2 o (l.map LN)
theorem dN {l:List (Int × List Int)}{k:Nat} (h:k < l.length):(l.map LN).getD k .any=LN (l.getD k (0,[])):=by
 simp [List.getD_eq_getElem?_getD,h]
end Go.Abs
/-
 Plain specifications for chapter 3: more on lines. No program in sight.
-/

namespace Go.Abs
theorem a9 {l:List Int}{k:Nat} (h:k < l.length):l.drop k=l.getD k 0::l.drop (k+1):=by
 rw [List.drop_eq_getElem_cons h]
 simp [List.getD_eq_getElem?_getD,h]
theorem DM {l:List Int}{k f:Nat} (h:k < l.length) (hf:f≤k):(l.take (k+1)).drop f=(l.take k).drop f++[l.getD k 0]:=by
 rw [List.take_succ_eq_append_getElem h,List.drop_append_of_le_length (by simp;omega)]
 simp [List.getD_eq_getElem?_getD,h]
theorem AJ {l:List Int}{k f:Nat} (h:k < l.length) (hf:f≤k) (hb:Au (l.getD k 0)=false):tx ((l.take k).drop f) (l.drop k)=tx ((l.take (k+1)).drop f) (l.drop (k+1)):=by
 rw [a9 h,B9 hb,DM h hf]
theorem pd {l:List Int}{k f:Nat} (h:k < l.length) (hb:Au (l.getD k 0)=true) (hn:¬(l.getD k 0=13∧k+1 < l.length∧l.getD (k+1) 0=10)):tx ((l.take k).drop f) (l.drop k)=(l.take k).drop f::tx [] (l.drop (k+1)):=by
 rw [a9 h]
 refine H9 hb (fun ⟨h1,h2⟩=>hn ⟨h1, ?_⟩)
 by_cases hk:k+1 < l.length
 ·rw [a9 hk] at h2
  exact ⟨hk,by simpa using h2⟩
 ·rw [List.drop_eq_nil_of_le (by omega)] at h2
  cases h2
theorem zG {l:List Int}{k f:Nat} (h:k+1 < l.length) (h13:l.getD k 0=13) (h10:l.getD (k+1) 0=10):tx ((l.take k).drop f) (l.drop k)=(l.take k).drop f::tx [] (l.drop (k+2)):=by
 rw [a9 (show k < l.length by omega),a9 h,h13,h10]
 exact Jx
theorem uO {l:List Int}{k f:Nat} (h:l.length≤k):tx ((l.take k).drop f) (l.drop k)=if f < l.length then [l.drop f] else []:=by
 rw [List.drop_eq_nil_of_le h,List.take_of_length_le h]
 by_cases hf:f < l.length
 ·rw [if_pos hf]
  have:(l.drop f).isEmpty=false:=by
   rw [a9 hf];rfl
  simp [tx,this]
 ·rw [if_neg hf,List.drop_eq_nil_of_le (by omega)];rfl
theorem f8 {l:List Int}{k:Nat}:(l.take k).drop k=[]:=List.drop_eq_nil_of_le (by simp;omega)
theorem OW {c:Int} (h:¬c=10) (h2:¬c=13):Au c=false:=by simp [Au,h,h2]
theorem vM {c:Int} (h:c=10∨c=13):Au c=true:=by rcases h with h|h<;>simp [Au,h]
end Go.Abs
/-
 Plain specifications for chapter 6: folding. No program in sight.
-/

namespace Go.Abs
def ey (l:List Int):List Int:=(l.reverse.dropWhile blankI).reverse
def gh (n i:Nat) (t:List Int):List Int :=
 if i+1 < n then ey (if 0 < i then t.dropWhile blankI else t) else if 0 < i then t.dropWhile blankI else t
def di (n:Nat):Nat→List (List Int)→List (List Int)
 | _,[]=>[]
 | i,t::r=>gh n i t::di n (i+1) r
def cO (e:Nat):List Int:=if e=0 then [32] else List.replicate e 10
def dg:Bool→Nat→List (List Int)→List Int
 | _,_,[]=>[]
 | true,e,t::r=>t++dg false e r
 | false,e,t::r=>if t=[]∧r≠[] then dg false (e+1) r else cO e++t++dg false 0 r
def i5 (l:List (List Int)):List Int:=dg true 0 (di l.length 0 l)
def tot (l:List (List Int)):Nat:=(l.map fun t=>t.length+1).sum
theorem sd (l:List Int):(ey l).length≤l.length:=by
 unfold ey
 have:=(List.dropWhile_suffix blankI (l:=l.reverse)).length_le
 simpa using this
theorem tQ (l:List Int):(l.dropWhile blankI).length≤l.length:=(List.dropWhile_suffix blankI).length_le
theorem Dv (n i:Nat) (t:List Int):(gh n i t).length≤t.length:=by
 unfold gh
 have h1:=tQ t
 have h2:=sd t
 have h3:=sd (t.dropWhile blankI)
 split<;>split<;>omega
theorem uk (n:Nat):∀ (i:Nat) (l:List (List Int)),tot (di n i l)≤tot l
 | _,[]=>by simp [di,tot]
 | i,t::r=>by
  have:=uk n (i+1) r
  have:=Dv n i t
  simp only [di,tot,List.map_cons,List.sum_cons] at *
  omega
theorem gb (l:List (List Int)):l.length≤tot l:=by
 induction l with
 | nil=>simp [tot]
 | cons t r ih=>simp only [tot,List.map_cons,List.sum_cons,List.length_cons] at *;omega
theorem KJ {l:List (List Int)}{t:List Int} (h:t∈l):t.length+1≤tot l:=by
 induction l with
 | nil=>simp at h
 | cons x r ih =>
  simp only [tot,List.map_cons,List.sum_cons] at *
  rcases List.mem_cons.1 h with rfl|h
  ·omega
  ·have:=ih h;omega
theorem nQ {l:List (List Int)} (k:Nat):(l.getD k []).length≤tot l:=by
 by_cases h:k < l.length
 ·have:l.getD k []∈l:=by simp [List.getD_eq_getElem?_getD,h]
  have:=KJ this;omega
 ·simp [List.getD_eq_getElem?_getD,h]
theorem fS (e:Nat):(cO e).length≤e+1:=by unfold cO;split<;>simp
theorem jZ:∀ (b:Bool) (e:Nat) (l:List (List Int)),(dg b e l).length≤e+tot l
 | _,_,[]=>by simp [dg]
 | true,e,t::r=>by
  have:=jZ false e r
  simp only [dg,tot,List.map_cons,List.sum_cons,List.length_append] at *
  omega
 | false,e,t::r=>by
  have h1:=jZ false (e+1) r
  have h2:=jZ false 0 r
  have h3:=fS e
  simp only [dg,tot,List.map_cons,List.sum_cons] at *
  split
  ·omega
  ·simp only [List.length_append];omega
theorem oU (l:List (List Int)):(i5 l).length≤tot l:=by
 unfold i5
 have h1:=jZ true 0 (di l.length 0 l)
 have h2:=uk l.length 0 l
 omega
theorem fL {l:List (List Int)}{k:Nat} (h:k < l.length):l.drop k=l.getD k []::l.drop (k+1):=by
 rw [List.drop_eq_getElem_cons h]
 simp [List.getD_eq_getElem?_getD,h]
abbrev lN (o:Option (Option (Nat × Nat))) (l:List (List Int)):AV:=.sl 1 o (l.map (SI none))
theorem wS {l:List (List Int)}{k:Nat} (h:k < l.length):(l.map (SI none)).getD k .any=SI none (l.getD k []):=by
 simp [List.getD_eq_getElem?_getD,h]
theorem rl {l:List Int} (h:0 < l.length) (hb:blankI (l.getD (l.length - 1) 0)=true):ey l=ey (l.take (l.length - 1)):=by
 have hne:l≠[]:=fun e=>by subst e;simp at h
 have e:l=l.take (l.length - 1)++[l.getD (l.length - 1) 0]:=by
  have:=List.dropLast_concat_getLast hne
  rw [List.dropLast_eq_take] at this
  rw [List.getLast_eq_getElem] at this
  have h2:l.getD (l.length - 1) 0=l[l.length - 1]'(by omega):=by simp [List.getD_eq_getElem?_getD,show l.length - 1 < l.length by omega]
  rw [h2];exact this.symm
 conv=>lhs;rw [e]
 unfold ey
 rw [List.reverse_append,List.reverse_singleton,List.singleton_append,List.dropWhile_cons,if_pos hb]
theorem sg {l:List Int} (h:0 < l.length) (hb:blankI (l.getD (l.length - 1) 0)=false):ey l=l:=by
 have hne:l≠[]:=fun e=>by subst e;simp at h
 unfold ey
 have h1:l.reverse=l.getD (l.length - 1) 0::l.dropLast.reverse:=by
  have:=List.dropLast_concat_getLast hne
  have h2:l.getD (l.length - 1) 0=l.getLast hne:=by
   rw [List.getLast_eq_getElem];simp [List.getD_eq_getElem?_getD,show l.length - 1 < l.length by omega]
  rw [h2]
  conv=>lhs;rw [← this]
  simp
 rw [h1,List.dropWhile_cons,if_neg (by rw [hb];decide),← h1,List.reverse_reverse]
/-! ### Texts of whole lines -/
def bY (l:List (List Int)):Nat:=(l.reverse.dropWhile (·.isEmpty)).length
def jR (n full:Nat) (chomp:Int):List Int :=
 if chomp=2 then (if full=0 then List.replicate n 10 else List.replicate (n - full+1) 10) else if chomp=1∨full=0 then [] else [10]
def iR:Bool→List (List Int)→List Int
 | _,[]=>[]
 | true,t::r=>t++iR false r
 | false,t::r=>10::t++iR false r
def DO (l:List (List Int)) (chomp:Int):List Int:=iR true (l.take (bY l))++jR l.length (bY l) chomp
def f0 (l:List Int):Bool:=decide (0 < l.length) && blankI (l.getD 0 0)
def sep (last:Option (List Int)) (e:Nat) (t:List Int):List Int :=
 match last with
 | none=>List.replicate e 10
 | some s=>if f0 s || f0 t then cO (e+1) else cO e
def en:Option (List Int)→Nat→List (List Int)→List Int
 | _,_,[]=>[]
 | last,e,t::r=>if t=[] then en last (e+1) r else sep last e t++t++en (some t) 0 r
def qn (l:List (List Int)) (chomp:Int):List Int:=en none 0 (l.take (bY l))++jR l.length (bY l) chomp
theorem om (l:List (List Int)):bY l≤l.length:=by
 unfold bY
 have:=(List.dropWhile_suffix (fun t:List Int=>t.isEmpty) (l:=l.reverse)).length_le
 simpa using this
theorem z5 {l:List (List Int)}{k:Nat} (h:k < l.length) (hk:(l.getD k []).length=0) (hf:bY l=bY (l.take (k+1))):bY l=bY (l.take k):=by
 rw [hf,List.take_succ_eq_append_getElem h]
 unfold bY
 rw [List.reverse_append,List.reverse_singleton,List.singleton_append,List.dropWhile_cons]
 have:(l[k]).isEmpty=true:=by
  have h1:l.getD k []=l[k]:=by simp [List.getD_eq_getElem?_getD,h]
  rw [h1] at hk
  rw [List.isEmpty_iff]
  exact List.eq_nil_of_length_eq_zero hk
 rw [if_pos this]
theorem z3 {l:List (List Int)}{k:Nat} (h:k < l.length) (hk:¬(l.getD k []).length=0):bY (l.take (k+1))=k+1:=by
 rw [List.take_succ_eq_append_getElem h]
 unfold bY
 rw [List.reverse_append,List.reverse_singleton,List.singleton_append,List.dropWhile_cons]
 have:¬(l[k]).isEmpty=true:=by
  have h1:l.getD k []=l[k]:=by simp [List.getD_eq_getElem?_getD,h]
  rw [h1] at hk
  rw [List.isEmpty_iff]
  intro e;rw [e] at hk;simp at hk
 rw [if_neg this]
 simp;omega
theorem lO:∀ (b:Bool) (l:List (List Int)),(iR b l).length≤tot l
 | _,[]=>by simp [iR]
 | true,t::r=>by
  have:=lO false r
  simp only [iR,tot,List.map_cons,List.sum_cons,List.length_append] at *;omega
 | false,t::r=>by
  have:=lO false r
  simp only [iR,tot,List.map_cons,List.sum_cons,List.length_append,List.length_cons] at *;omega
theorem A4 (s:Option (List Int)) (e:Nat) (t:List Int):(sep s e t).length≤e+1:=by
 unfold sep
 split
 ·simp
 ·split
  ·unfold cO;simp
  ·exact fS e
theorem lK:∀ (s:Option (List Int)) (e:Nat) (l:List (List Int)),(en s e l).length≤e+tot l
 | _,_,[]=>by simp [en]
 | s,e,t::r=>by
  have h1:=lK s (e+1) r
  have h2:=lK (some t) 0 r
  have h3:=A4 s e t
  simp only [en,tot,List.map_cons,List.sum_cons] at *
  split
  ·omega
  ·simp only [List.length_append];omega
theorem kQ (l:List (List Int)) (k:Nat):tot (l.take k)≤tot l:=by
 have e:tot l=tot (l.take k)+tot (l.drop k):=by
  unfold tot
  rw [← List.sum_append,← List.map_append,List.take_append_drop]
 omega
theorem lH (n f:Nat) (c:Int) (h:f≤n):(jR n f c).length≤n+1:=by
 unfold jR
 split
 ·split<;>simp<;>omega
 ·split<;>simp
theorem nz {t:List Int}{r:List (List Int)}{e:Nat}:dg true e (t::r)=t++dg false e r:=rfl
theorem nw {t:List Int}{r:List (List Int)}{e:Nat} (h:t=[]) (h2:r≠[]):dg false e (t::r)=dg false (e+1) r:=by
 simp only [dg];rw [if_pos ⟨h,h2⟩]
theorem pW {t:List Int}{r:List (List Int)}{e:Nat} (h:¬(t=[]∧r≠[])):dg false e (t::r)=cO e++t++dg false 0 r:=by
 simp only [dg];rw [if_neg h]
theorem F4 {l:List (List Int)}{a b:List Int} (h:i5 l=a++b):a.length+b.length≤tot l:=by
 have:=oU l
 rw [h] at this
 simpa using this
theorem DE {n i:Nat}{l:List (List Int)} (h:di n i l=[]):l=[]:=by
 cases l with
 | nil=>rfl
 | cons=>simp [di] at h
theorem x8 {t:List Int}{r:List (List Int)}:iR true (t::r)=t++iR false r:=rfl
theorem zA {t:List Int}{r:List (List Int)}:iR false (t::r)=10::t++iR false r:=rfl
theorem qh {s:Option (List Int)}{e:Nat}{t:List Int}{r:List (List Int)} (h:t=[]):en s e (t::r)=en s (e+1) r:=by
 simp only [en];rw [if_pos h]
theorem j7 {s:Option (List Int)}{e:Nat}{t:List Int}{r:List (List Int)} (h:¬t=[]):en s e (t::r)=sep s e t++t++en (some t) 0 r:=by
 simp only [en];rw [if_neg h]
theorem J8 {l:List (List Int)}{n:Nat}{a b:List Int} (h:iR true (l.take n)=a++b):a.length+b.length≤tot l:=by
 have h1:=lO true (l.take n)
 have h2:=kQ l n
 rw [h,List.length_append] at h1
 omega
theorem KW {l:List (List Int)}{n:Nat}{a b:List Int} (h:en none 0 (l.take n)=a++b):a.length+b.length≤tot l:=by
 have h1:=lK none 0 (l.take n)
 have h2:=kQ l n
 rw [h,List.length_append] at h1
 omega
theorem kK {l:List (List Int)}{n k:Nat} (h:k < n) (hn:n≤l.length):(l.take n).drop k=l.getD k []::(l.take n).drop (k+1):=by
 rw [fL (by simp;omega)]
 congr 1
 simp [List.getD_eq_getElem?_getD,List.getElem?_take_of_lt h]
theorem uD {l:List (List Int)}{n k:Nat} (h:k < n):(l.take n).getD k []=l.getD k []:=by
 simp [List.getD_eq_getElem?_getD,List.getElem?_take_of_lt h]
theorem EH (l:List (List Int)) (c:Int):(DO l c).length≤tot l+l.length+1:=by
 have h1:=lO true (l.take (bY l))
 have h2:=kQ l (bY l)
 have h3:=lH l.length (bY l) c (om l)
 unfold DO
 rw [List.length_append];omega
theorem E7 (l:List (List Int)) (c:Int):(qn l c).length≤tot l+l.length+1:=by
 have h1:=lK none 0 (l.take (bY l))
 have h2:=kQ l (bY l)
 have h3:=lH l.length (bY l) c (om l)
 unfold qn
 rw [List.length_append];omega
end Go.Abs
/-
 Walks: chapter 6,blanks and lines that are folded.
-/


namespace Go.Proofs.YthkabaiamcjdbaaGreat
open Go.Abs
variable {κ:Ctx} {σ:List Res} {K:Ret→List Res→Prop} {o o':Option (Option (Nat × Nat))}
theorem front {l:List Int} (hl:l.length≤1000000000) (hK:K (.ret (SI none (l.dropWhile blankI))) σ):ACallF κ Tryz.prog 222 [SI o l] σ K:=by
 refine ACallF.dropL (aa Tryz.func222 rfl ?_)
 simp only [Tryz.ntmps222]
 repeat' (first|simp only [WL,WM,Nat.reduceAdd,Nat.reduceSub])
 refine bH (fun x:Option (Option (Nat × Nat)) × List Int=>⟨(SI x.1 x.2::.any::.any::.any::.any::.any::.any::.any::.any::.any::.any::.any::.any::.any::.any::[]),σ,true,[]⟩) (fun x=>x.2.dropWhile blankI=l.dropWhile blankI∧x.2.length≤l.length) (fun x=>x.2.length) (o,l) (ao bz id) ⟨rfl,Nat.le_refl _⟩ ?_
 rintro ⟨o',l'⟩ ⟨h1,h2⟩
 dsimp only at h1 h2 ⊢
 repeat' (first|simp only [WL,aD,WM,Int.reduceToNat,reduceCtorEq,ba,Nat.reduceAdd,Bool.not_true,true_and,reduceIte,Bool.false_eq_true,T3,bX,fw,Tryz.results222]|simp (disch:=first|omega|(simp only [aT];omega)) only [aV]|(with_reducible first|refine aC (hb:=?_)|refine cD (Blank ?_))|((with_reducible first|refine ai (fun h=>?_) (fun h=>?_)|refine ab (fun h=>?_) (fun h=>?_))<;>(try simp only [h])<;>(try simp only [bg,bm] at h)))
 ·refine ⟨(none,l'.drop 1),ao bz id,⟨?_, ?_⟩, ?_⟩
  ·rw [← h1];exact (CI (by omega) h).symm
  ·simp;omega
  ·simp;omega
 ·exact ak ah (d8 (by rw [← h1,Bd (by omega) h];exact le_ro)) hK
 ·exact ak ah (d8 (by rw [← h1,List.eq_nil_of_length_eq_zero (l:=l') (by omega)];exact le_ro)) hK
theorem back {l:List Int} (hl:l.length≤1000000000) (hK:K (.ret (SI none (ey l))) σ):ACallF κ Tryz.prog 223 [SI o l] σ K:=by
 refine ACallF.dropL (aa Tryz.func223 rfl ?_)
 simp only [Tryz.ntmps223]
 repeat' (first|simp only [WL,WM,Nat.reduceAdd,Nat.reduceSub])
 refine bH (fun x:Option (Option (Nat × Nat)) × List Int=>⟨(SI x.1 x.2::.any::.any::.any::.any::.any::.any::.any::.any::.any::.any::.any::.any::.any::.any::.any::.any::.any::.any::.any::.any::[]),σ,true,[]⟩) (fun x=>ey x.2=ey l∧x.2.length≤l.length) (fun x=>x.2.length) (o,l) (ao bz id) ⟨rfl,Nat.le_refl _⟩ ?_
 rintro ⟨o',l'⟩ ⟨h1,h2⟩
 dsimp only at h1 h2 ⊢
 have e1:0 < l'.length→((l'.length:Int) - 1).toNat=l'.length - 1:=fun _=>by omega
 repeat' (first|simp only [WL,aD,WM,Int.reduceToNat,reduceCtorEq,ba,Nat.reduceAdd,Bool.not_true,true_and,reduceIte,Bool.false_eq_true,T3,bX,fw,Tryz.results223]|simp (disch:=first|omega|(simp only [aT];omega)) only [aq,aV]|(with_reducible first|refine aC (hb:=?_)|refine cD (Blank ?_))|((with_reducible first|refine ai (fun h=>?_) (fun h=>?_)|refine ab (fun h=>?_) (fun h=>?_))<;>(try simp only [h])<;>(try simp only [bg,bm] at h)))
 ·exact ⟨(none,l'.take (l'.length - 1)),ao (by simp only [e1 (by omega)];exact bz) id,⟨by rw [← h1];exact (rl (by omega) (by rw [← e1 (by omega)];exact h)).symm,by simp;omega⟩,by simp;omega⟩
 ·exact ak ah (d8 (by rw [← h1,sg (by omega) (by rw [← e1 (by omega)];exact h)];exact le_ro)) hK
 ·obtain rfl:l'=[]:=List.eq_nil_of_length_eq_zero (by omega)
  exact ak ah (d8 (by rw [← h1];exact le_ro)) hK
theorem nU {e:Nat} (he:e≤1000000000) (hK:K (.ret (SI none (cO e))) σ):ACallF κ Tryz.prog 162 [I e] σ K:=by
 refine ACallF.dropL (aa Tryz.func162 rfl ?_)
 simp only [Tryz.ntmps162]
 repeat' (first|simp only [WL,aD,WM,reduceCtorEq,ba,Nat.reduceAdd,Nat.reduceSub,true_and,AB,Tryz.results162]|with_reducible refine cF (hK:=?_)|( refine callD_mk (BJ (c:=10) (by omega) ?_))|((with_reducible first|refine ai (fun h=>?_) (fun h=>?_)|refine ab (fun h=>?_) (fun h=>?_))<;>(try simp only [h])<;>(try simp only [bg,bm] at h)))
 ·obtain rfl:e=0:=by omega
  exact ak ah (aj rfl) hK
 ·exact ak ah (aj (by unfold cO;rw [if_neg (by omega)])) hK
theorem LM {l:List (List Int)} (hl:l.length≤1000000000) (hK:K (.ret (I (bY l:Nat))) σ):ACallF κ Tryz.prog 158 [lN o l] σ K:=by
 refine ACallF.dropL (aa Tryz.func158 rfl ?_)
 simp only [Tryz.ntmps158]
 repeat' (first|simp only [WL,WM,Nat.reduceAdd,Nat.reduceSub,true_and,il])
 refine bH (fun k:Nat=>⟨(lN o l::.any::.any::I k::.any::.any::.any::.any::.any::.any::.any::.any::.any::.any::.any::.any::.any::.any::.any::.any::[]),σ,true,[]⟩) (fun k=>k≤l.length∧bY l=bY (l.take k)) (fun k=>k) l.length (ao bz id) ⟨Nat.le_refl _,by rw [List.take_length]⟩ ?_
 rintro k ⟨h1,h2⟩
 have e1:0 < k→((k:Int) - 1).toNat=k - 1:=fun _=>by omega
 repeat' (first|simp only [WL,aD,WM,reduceCtorEq,ba,Nat.reduceAdd,Bool.not_true,true_and,reduceIte,Bool.false_eq_true,bX,il,Tryz.results158]|simp (disch:=first|omega|(simp only [aT];omega)) only [aq,wS,e1]|with_reducible refine aC (hb:=?_)|((with_reducible first|refine ai (fun h=>?_) (fun h=>?_)|refine ab (fun h=>?_) (fun h=>?_))<;>(try simp only [h])<;>(try simp only [bg,bm] at h)))
 ·refine ⟨k - 1,ao bz id,⟨by omega, ?_⟩,by omega⟩
  have hk:k - 1 < l.length:=by omega
  exact z5 hk (by omega) (by rw [show k - 1+1=k by omega];exact h2)
 ·have:=z3 (l:=l) (k:=k - 1) (by omega) (by omega)
  rw [show k - 1+1=k by omega] at this
  exact ak ah (aj (by rw [h2,this])) hK
 ·obtain rfl:k=0:=by omega
  exact ak ah (aj (by rw [h2];rfl)) hK
theorem sQ {n f:Nat}{c:Int} (hn:n≤1000000000) (hf:f≤n) (hK:K (.ret (SI none (jR n f c))) σ):ACallF κ Tryz.prog 159 [I n,I f,I c] σ K:=by
 have nf:((n:Int) - f+1)=((n - f+1:Nat):Int):=by omega
 refine ACallF.dropL (aa Tryz.func159 rfl ?_)
 simp only [Tryz.ntmps159]
 repeat' (first|simp only [WL,aD,WM,reduceCtorEq,ba,Nat.reduceAdd,Nat.reduceSub,Bool.not_true,Bool.not_false,true_and,reduceIte,Bool.false_eq_true,AB,Tryz.results159,nf]|simp (disch:=first|omega|(simp only [aT];omega)) only [aq]|with_reducible refine cF (hK:=?_)|( refine callD_mk (BJ (c:=10) (by omega) ?_))|((with_reducible first|refine ai (fun h=>?_) (fun h=>?_)|refine ab (fun h=>?_) (fun h=>?_))<;>(try simp only [h])<;>(try simp only [bg,bm] at h))|omega)
 ·exact ak ah (aj (by unfold jR;rw [if_pos (by assumption),if_pos (by omega)])) hK
 ·exact ak ah (aj (by unfold jR;rw [if_pos (by assumption),if_neg (by omega),List.replicate_succ])) hK
 ·exact ak ah (d8 (by unfold jR;rw [if_neg (by assumption),if_pos (.inr (by omega))];exact fq (by decide))) hK
 ·exact ak ah (aj (by unfold jR;rw [if_neg (by assumption),if_neg (by omega)];rfl)) hK
 ·exact ak ah (d8 (by unfold jR;rw [if_neg (by assumption),if_pos (.inl (by assumption))];exact fq (by decide))) hK
theorem JJ {l:List Int} (hl:l.length≤1000000000) (hK:K (.ret (B (f0 l))) σ):ACallF κ Tryz.prog 161 [SI o l] σ K:=by
 refine ACallF.dropL (aa Tryz.func161 rfl ?_)
 simp only [Tryz.ntmps161]
 repeat' (first|simp only [WL,aD,WM,Int.reduceToNat,reduceCtorEq,ba,Nat.reduceAdd,Nat.reduceSub,Bool.not_true,true_and,reduceIte,Bool.false_eq_true,T3,bX,fw,Tryz.results161]|simp (disch:=first|omega|(simp only [aT];omega)) only [aV]|(with_reducible first|refine aC (hb:=?_)|refine cD (Blank ?_))|((with_reducible first|refine ai (fun h=>?_) (fun h=>?_)|refine ab (fun h=>?_) (fun h=>?_))<;>(try simp only [h])<;>(try simp only [bg,bm] at h)))
 ·exact ak ah (aj (congrArg B (by unfold f0;rw [decide_eq_true (by omega),Bool.true_and]))) hK
 ·exact ak ah (aj (congrArg B (by unfold f0;rw [decide_eq_false (by omega),Bool.false_and]))) hK
theorem trimmed {l:List (List Int)} (hK:∀ b,K (.ret (.raw (.func (.func 221) #[] #[.pointer (some ⟨b,0,none⟩)]))) (.obj b [lN o l]::σ)):ACallF κ Tryz.prog 213 [lN o l] σ K:=by
 refine ACallF.dropL (aa Tryz.func213 rfl ?_)
 simp only [Tryz.ntmps213]
 repeat' (first|simp only [WL,WM,Nat.reduceAdd,Nat.reduceSub,true_and,Tryz.results213]|with_reducible refine aP (hK:=fun b=>?_))
 exact ak ah (aj rfl) (hK _)
theorem Eh {b L:Nat}{l:List (List Int)} (hl:tot l≤1000000000) (hI:Iter κ Tryz.prog L K ((di l.length 0 l).map fun t=>[SI none t]) σ) :
  ACallF κ Tryz.prog 221 [.raw (.func (.yield L) #[] #[]),.raw (.pointer (some ⟨b,0,none⟩))] (.obj b [lN o l]::σ) K:=by
 have hlen:=gb l
 refine ACallF.dropL (aa Tryz.func221 rfl ?_)
 simp only [Tryz.ntmps221]
 repeat' (first|simp only [WL,WM,Nat.reduceAdd,Nat.reduceSub,true_and,il]|with_reducible refine ax (hK:=?_))
 refine bH (fun x:Nat × List Res=>⟨(.raw (.func (.yield L) #[] #[])::.raw (.pointer (some ⟨b,0,none⟩))::.any::.any::.any::lN o l::I l.length::I x.1::.any::.any::.any::.any::.any::.any::.any::.any::.any::.any::.any::.any::.any::.any::.any::.any::.any::.any::.any::.any::[]),.obj b [lN o l]::x.2,true,[]⟩) (fun x=>x.1≤l.length∧Iter κ Tryz.prog L K ((di l.length x.1 (l.drop x.1)).map fun t=>[SI none t]) x.2) (fun x=>l.length - x.1) (0,σ) (ao bz id) ⟨Nat.zero_le _,by simpa using hI⟩ ?_
 rintro ⟨k,σ'⟩ ⟨h1,h2⟩
 dsimp only at h1 h2 ⊢
 have h3:=nQ (l:=l) k
 have h4:=tQ (l.getD k [])
 repeat' (first|simp only [WL,aD,WM,reduceCtorEq,ba,Nat.reduceAdd,true_and,bX,il,Og,Nq,Tryz.results221]|simp (disch:=first|omega|(simp only [aT];omega)) only [aq,wS]|(with_reducible first|refine aC (hb:=?_)|refine ax (hK:=?_)|refine cD (front ?_ ?_)|refine cD (back ?_ ?_))|((with_reducible first|refine ai (fun h=>?_) (fun h=>?_)|refine ab (fun h=>?_) (fun h=>?_))<;>(try simp only [h])<;>(try simp only [bg,bm] at h))|omega)
 ·
  rw [fL (by omega),di] at h2
  unfold gh at h2
  rw [if_pos (by omega),if_pos (by omega)] at h2
  refine dB [.obj b [lN o l]] (iC le_rfl) h2 (fun σ3 h=>?_) (fun σ3 h=>?_) (fun c σ3 h=>?_)
  ·repeat' (first|simp only [WL,aD,WM,ne_eq,reduceCtorEq,not_false_eq_true,Bool.not_true]|simp (disch:=first|omega|(simp only [aT];omega)) only [aq])
   exact ⟨(k+1,σ3),ao bz id,⟨by dsimp only;omega,h⟩,by dsimp only;omega⟩
  ·repeat' (first|simp only [WL,WM,Bool.not_false,true_and,Tryz.results221])
   exact ak (ae ah) (aj rfl) h
  ·repeat' (first|simp only [WL,WM,true_and])
   exact aN (ae ah) rfl h
 ·
  rw [fL (by omega),di] at h2
  unfold gh at h2
  rw [if_neg (by omega),if_pos (by omega)] at h2
  refine dB [.obj b [lN o l]] (iC le_rfl) h2 (fun σ3 h=>?_) (fun σ3 h=>?_) (fun c σ3 h=>?_)
  ·repeat' (first|simp only [WL,aD,WM,ne_eq,reduceCtorEq,not_false_eq_true,Bool.not_true]|simp (disch:=first|omega|(simp only [aT];omega)) only [aq])
   exact ⟨(k+1,σ3),ao bz id,⟨by dsimp only;omega,h⟩,by dsimp only;omega⟩
  ·repeat' (first|simp only [WL,WM,Bool.not_false,true_and,Tryz.results221])
   exact ak (ae ah) (aj rfl) h
  ·repeat' (first|simp only [WL,WM,true_and])
   exact aN (ae ah) rfl h
 ·
  rw [fL (by omega),di] at h2
  unfold gh at h2
  rw [if_pos (by omega),if_neg (by omega)] at h2
  refine dB [.obj b [lN o l]] (iC le_rfl) h2 (fun σ3 h=>?_) (fun σ3 h=>?_) (fun c σ3 h=>?_)
  ·repeat' (first|simp only [WL,aD,WM,ne_eq,reduceCtorEq,not_false_eq_true,Bool.not_true]|simp (disch:=first|omega|(simp only [aT];omega)) only [aq])
   exact ⟨(k+1,σ3),ao bz id,⟨by dsimp only;omega,h⟩,by dsimp only;omega⟩
  ·repeat' (first|simp only [WL,WM,Bool.not_false,true_and,Tryz.results221])
   exact ak (ae ah) (aj rfl) h
  ·repeat' (first|simp only [WL,WM,true_and])
   exact aN (ae ah) rfl h
 ·
  rw [fL (by omega),di] at h2
  unfold gh at h2
  rw [if_neg (by omega),if_neg (by omega)] at h2
  refine dB [.obj b [lN o l]] (iC le_rfl) h2 (fun σ3 h=>?_) (fun σ3 h=>?_) (fun c σ3 h=>?_)
  ·repeat' (first|simp only [WL,aD,WM,ne_eq,reduceCtorEq,not_false_eq_true,Bool.not_true]|simp (disch:=first|omega|(simp only [aT];omega)) only [aq])
   exact ⟨(k+1,σ3),ao bz id,⟨by dsimp only;omega,h⟩,by dsimp only;omega⟩
  ·repeat' (first|simp only [WL,WM,Bool.not_false,true_and,Tryz.results221])
   exact ak (ae ah) (aj rfl) h
  ·repeat' (first|simp only [WL,WM,true_and])
   exact aN (ae ah) rfl h
 ·rw [List.drop_eq_nil_of_le (by omega)] at h2
  exact ak (ae ah) (aj rfl) h2
theorem Px {l:List (List Int)} (hl:tot l≤1000000000) (hK:K (.ret (SI none (i5 l))) σ):ACallF κ Tryz.prog 189 [lN o l] σ K:=by
 have hlen:=gb l
 refine ACallF.dropL (aa Tryz.func189 rfl ?_)
 simp only [Tryz.ntmps189]
 repeat' (first|simp only [WL,WM,Nat.reduceAdd,Nat.reduceSub,true_and,Of]|(with_reducible first|refine ax (hK:=?_)|refine aO (hK:=?_)|refine aP (hK:=fun b=>?_)|refine aS (hK:=fun b=>?_)|refine cD (trimmed (fun btr=>?_))))
 rename_i bl bo bi
 refine nv 221 [] [.pointer (some ⟨btr,0,none⟩)] ((di l.length 0 l).map fun t=>[SI none t]) [.obj btr [lN o l]] (.obj b [I 0]::.obj bi [I 0]::.obj bo [SI (some none) []]::.obj bl [lN o l]::.tip none::σ)
  (fun xs τ=>∃ (out:List Int) (e i:Nat) (tk:Option (Nat × Nat)),xs=((di l.length i (l.drop i)).map fun t=>[SI none t])∧i5 l=out++dg (decide (i=0)) e (di l.length i (l.drop i))∧i≤l.length∧e≤i∧(i=0→e=0) ∧
   τ=.obj b [I e]::.obj bi [I i]::.obj bo [SI (some tk) out]::.obj bl [lN o l]::.tip tk::σ)
  rfl Om ?_ (fun L K σ' h=>Eh (by omega) h) ⟨[],0,0,none,by simp,by simp [i5],Nat.zero_le _,Nat.le_refl _,fun _=>rfl,rfl⟩ ?_ ?_
 ·exact ResW.cons _ (ResW.cons _ (ResW.cons _ ((ResW.void.cons _ |>.cons _).trans (ResW.obj (iC (le_nil (by decide)))))))
 ·rintro τ ⟨out,e,i,tk,h1,h2,h3,h4,h5,rfl⟩
  have hn:l.drop i=[]:=by
   cases hd:l.drop i with
   | nil=>rfl
   | cons=>rw [hd] at h1;simp [di] at h1
  rw [hn] at h2
  simp only [di,dg,List.append_nil] at h2
  repeat' (first|simp only [WL,WM,true_and,Tryz.results189]|with_reducible refine ax (hK:=?_))
  exact ak (ae (ae (ae (ae (ae ah))))) (d8 (by rw [h2];exact le_ro)) hK
 ·rintro d L Rr Rb hR x xs τ ⟨out,e,i,tk,h1,h2,h3,h4,h5,rfl⟩
  have hi:i < l.length:=by
   rcases Nat.lt_or_ge i l.length with h|h
   ·exact h
   ·rw [List.drop_eq_nil_of_le h] at h1;simp [di] at h1
  rw [fL hi,di] at h1 h2
  simp only [List.map_cons,List.cons.injEq] at h1
  obtain ⟨rfl,rfl⟩:=h1
  generalize hu:gh l.length i (l.getD i [])=u at *
  have hlast:di l.length (i+1) (l.drop (i+1))=[]↔i+1=l.length:=by
   constructor
   ·intro h
    have:=List.drop_eq_nil_iff.1 (DE h)
    omega
   ·intro h
    rw [List.drop_eq_nil_of_le (by omega)];rfl
  refine ⟨rfl, ?_⟩
  repeat' (first|simp only [WL,WM])
  refine qB ?_
  have ho:=F4 h2
  have hb:=fS e
  rcases Nat.eq_zero_or_pos i with rfl|hi0
  ·obtain rfl:e=0:=h5 rfl
   simp only [decide_true,nz] at h2 ho
   simp only [List.length_append] at ho
   repeat' (first|simp only [WL,aD,WM,reduceCtorEq,ba,Nat.reduceAdd,Bool.not_true,true_and,reduceIte,Bool.false_eq_true,bX,il,wF]|simp (disch:=first|omega|(simp only [aT];omega)) only [aq]|(with_reducible first|refine ax (hK:=?_)|refine aO (hK:=?_)|refine cq (hlen:=?_) (hmax:=?_) (hK:=fun tk=>?_)|refine cQ (nU (by omega) aW) ?_)|((with_reducible refine aH (id:=6) 3 mixed ?_ ?_);kernel_rfl)|(with_reducible refine bP ?_)|((with_reducible first|refine ai (fun h=>?_) (fun h=>?_)|refine ab (fun h=>?_) (fun h=>?_))<;>(try simp only [h])<;>(try simp only [bg,bm] at h))|omega|(refine bq ?_;(first|omega|(simp only [aT];omega))))
   exact ⟨_,gS,out++u,0,1,tk,rfl,by rw [h2];simp,by omega,by omega,by omega,by simp⟩
  ·simp only [decide_eq_false (show ¬i=0 by omega)] at h2 ho
   by_cases hc:u=[]∧di l.length (i+1) (l.drop (i+1))≠[]
   ·obtain ⟨rfl,hc⟩:=hc
    rw [nw rfl hc] at h2
    have hne:¬i+1=l.length:=fun h=>hc (hlast.2 h)
    repeat' (first|simp only [WL,aD,WM,reduceCtorEq,ba,Nat.reduceAdd,Bool.not_true,true_and,reduceIte,Bool.false_eq_true,bX,il,wF]|simp (disch:=first|omega|(simp only [aT];omega)) only [aq]|(with_reducible first|refine ax (hK:=?_)|refine aO (hK:=?_)|refine cq (hlen:=?_) (hmax:=?_) (hK:=fun tk=>?_)|refine cQ (nU (by omega) aW) ?_)|((with_reducible refine aH (id:=6) 3 mixed ?_ ?_);kernel_rfl)|(with_reducible refine bP ?_)|((with_reducible first|refine ai (fun h=>?_) (fun h=>?_)|refine ab (fun h=>?_) (fun h=>?_))<;>(try simp only [h])<;>(try simp only [bg,bm] at h))|omega)
    exact ⟨_,gS,out,e+1,i+1,tk,rfl,by rw [h2];simp,by omega,by omega,by omega,by simp⟩
   ·rw [pW hc] at h2 ho
    simp only [List.length_append] at ho
    have hne:u.length=0→i+1=l.length:=fun h=>by
     refine Classical.byContradiction fun hh=>hc ⟨List.eq_nil_of_length_eq_zero h,fun hh2=>hh (hlast.1 hh2)⟩
    repeat' (first|simp only [WL,aD,WM,reduceCtorEq,ba,Nat.reduceAdd,Bool.not_true,true_and,reduceIte,Bool.false_eq_true,bX,il,wF]|simp (disch:=first|omega|(simp only [aT];omega)) only [aq]|(with_reducible first|refine ax (hK:=?_)|refine aO (hK:=?_)|refine cq (hlen:=?_) (hmax:=?_) (hK:=fun tk=>?_)|refine cQ (nU (by omega) aW) ?_)|((with_reducible refine aH (id:=6) 3 mixed ?_ ?_);kernel_rfl)|(with_reducible refine bP ?_)|((with_reducible first|refine ai (fun h=>?_) (fun h=>?_)|refine ab (fun h=>?_) (fun h=>?_))<;>(try simp only [h])<;>(try simp only [bg,bm] at h))|omega|(simp only [aT];omega)|(refine bq ?_;(first|omega|(simp only [aT];omega))))
    all_goals exact ⟨_,gS,out++cO e++u,0,i+1,tk,rfl,by rw [h2];simp,by omega,by omega,by omega,by simp⟩
end Go.Proofs.YthkabaiamcjdbaaGreat
/-
 Plain facts for chapter 6's laws on texts that are built. No program in sight.
-/

namespace Go.Abs
/-! ### Words -/
theorem J1 {g:Nat}{w:List Int}{m:List (List Int)} (hw:w≠[]):∀ e,dg false e (List.replicate g []++w::m)=cO (e+g)++w++dg false 0 m:=by
 induction g with
 | zero =>
  intro e
  rw [List.replicate_zero,List.nil_append,pW (by simp [hw])];rfl
 | succ g ih =>
  intro e
  rw [List.replicate_succ,List.cons_append,nw rfl (by simp),ih,show e+1+g=e+(g+1) by omega]
theorem EA {g:Nat}{w:List Int}{m:List (List Int)} (hw:w≠[]) (s:Option (List Int)):∀ e,en s e (List.replicate g []++w::m)=sep s (e+g) w++w++en (some w) 0 m:=by
 induction g with
 | zero=>intro e;rw [List.replicate_zero,List.nil_append,j7 hw];rfl
 | succ g ih=>intro e;rw [List.replicate_succ,List.cons_append,qh rfl,ih,show e+1+g=e+(g+1) by omega]
theorem qX {l:List (List Int)}{w:List Int} (hw:w≠[]):bY (l++[w])=(l++[w]).length:=by
 unfold bY
 rw [List.reverse_append,List.reverse_singleton,List.singleton_append,List.dropWhile_cons,if_neg (by simp [hw])]
 simp
theorem mU (n:Nat):∀ (i:Nat) (l:List (List Int)) (x:List Int),di n i (l++[x])=di n i l++[gh n (i+l.length) x]
 | i,[],x=>by simp [di]
 | i,t::r,x=>by
  simp only [di,List.cons_append,mU n (i+1) r x,List.length_cons]
  rw [show i+1+r.length=i+(r.length+1) by omega]
theorem Ab (n i:Nat):gh n i []=[]:=by unfold gh ey;simp
theorem C8 (n:Nat) (i:Nat) (l:List (List Int)) (g:Nat):di n i (l++List.replicate g [])=di n i l++List.replicate g []:=by
 induction g with
 | zero=>simp
 | succ g ih=>rw [List.replicate_succ',← List.append_assoc,mU,ih,Ab,← List.append_assoc]
theorem Aj {l:List Int}{c:Int} (h:blankI c=true):ey (l++[c])=ey l:=by
 unfold ey;rw [List.reverse_append,List.reverse_singleton,List.singleton_append,List.dropWhile_cons,if_pos h]
theorem tc {l:List Int}{c:Int} (h:blankI c=false):ey (l++[c])=l++[c]:=by
 unfold ey;rw [List.reverse_append,List.reverse_singleton,List.singleton_append,List.dropWhile_cons,if_neg (by rw [h];decide)];simp
def D0 (a b:Bool) (c:Int):List Int:=(if a then [32,9] else [])++[c]++(if b then [32] else [])
theorem sF {n p:Nat}{a b:Bool}{c:Int} (hc:blankI c=false) (ha:a=true→0 < p) (hb:b=true→p+1 < n):gh n p (D0 a b c)=[c]:=by
 have h32:blankI 32=true:=by decide
 have h9:blankI 9=true:=by decide
 have e1:ey [c,32]=[c]:=by
  rw [show [c,32]=([]++[c])++[32] by rfl,Aj h32,tc hc];rfl
 have e2:ey [c]=[c]:=tc (l:=[]) hc
 unfold gh D0
 cases a<;>cases b<;>simp only [Bool.false_eq_true,if_false,if_true,List.nil_append,List.append_nil,List.cons_append]<;>split<;>rename_i h1<;>split<;>rename_i h2 <;>
  simp_all [List.dropWhile_cons]
/-! ### Lines that begin with a blank -/
def Be (i:Nat):List Int:=if i % 2=1 then [32,98] else [97]
theorem zL (i:Nat):Be i≠[]:=by unfold Be;split<;>simp
theorem EN (i:Nat):f0 (Be i)=decide (i % 2=1):=by
 unfold Be
 by_cases h:i % 2=1
 ·rw [if_pos h,decide_eq_true h];rfl
 ·rw [if_neg h,decide_eq_false h];rfl
theorem vZ (i:Nat):(Be i).length≤2:=by unfold Be;split<;>simp
structure SpP (i:Nat) (ls:List (List Int)) (want:List Int):Prop where
 hb:∀ m,en none 0 (ls++m)=want++en (if i=0 then none else some (Be (i - 1))) 0 m
 h0:i=0→ls=[]∧want=[]
 h1:0 < i→∃ r,ls=r++[Be (i - 1)]
 hl:ls.length≤4 * i
 hw:want.length≤6 * i
 hm:∀ t∈ls,t.length≤2
theorem SpP.zero:SpP 0 [] []:=⟨fun m=>by simp,fun _=>⟨rfl,rfl⟩,fun h=>by omega,by simp,by simp,fun t h=>by simp at h⟩
theorem SpP.first {ls:List (List Int)}{want:List Int} (h:SpP 0 ls want):SpP 1 (ls++[Be 0]) (want++Be 0):=by
 obtain ⟨rfl,rfl⟩:=h.h0 rfl
 refine ⟨fun m=>?_,fun h=>by omega,fun _=>⟨[],rfl⟩,by simp,by have:=vZ 0;simp;omega,fun t h=>?_⟩
 ·rw [List.nil_append,List.singleton_append,j7 (zL 0)];rfl
 ·simp at h;subst h;exact vZ 0
theorem SpP.step {i g:Nat}{ls:List (List Int)}{want:List Int} (h:SpP i ls want) (hi:0 < i) (hg:g≤3) :
  SpP (i+1) (ls++List.replicate g []++[Be i]) (want++[10]++List.replicate g 10++Be i):=by
 have h2:=vZ i
 refine ⟨fun m=>?_,fun h=>by omega,fun _=>⟨_,rfl⟩, ?_, ?_,fun t ht=>?_⟩
 ·rw [List.append_assoc,List.append_assoc,h.hb,if_neg (by omega),if_neg (by omega),List.singleton_append,EA (zL i)]
  have:(f0 (Be (i - 1)) || f0 (Be i))=true:=by
   rw [EN,EN]
   by_cases h3:i % 2=1
   ·simp [h3]
   ·simp;omega
  simp only [sep,this,if_true,Nat.zero_add]
  rw [show cO (g+1)=[10]++List.replicate g 10 by unfold cO;rw [if_neg (by omega),List.replicate_succ];rfl]
  simp
 ·have:=h.hl;simp;omega
 ·have:=h.hw;simp;omega
 ·simp only [List.mem_append,List.mem_singleton] at ht
  rcases ht with (ht|ht)|rfl
  ·exact h.hm t ht
  ·rw [List.eq_of_mem_replicate ht];simp
  ·exact h2
theorem SpP.tot {i:Nat}{ls:List (List Int)}{want:List Int} (h:SpP i ls want) (hi:i≤1000):tot ls≤20000:=by
 have:∀ l:List (List Int),(∀ t∈l,t.length≤2)→Go.Abs.tot l≤3 * l.length:=by
  intro l
  induction l with
  | nil=>intro _;simp [Go.Abs.tot]
  | cons t r ih =>
   intro h
   have h1:=ih (fun x hx=>h x (by simp [hx]))
   have h2:=h t (by simp)
   simp only [Go.Abs.tot,List.map_cons,List.sum_cons,List.length_cons] at *
   omega
 have h1:=this ls h.hm
 have h2:=h.hl
 omega
theorem SpP.fin {i:Nat}{ls:List (List Int)}{want:List Int} (h:SpP i ls want) (hi:0 < i):qn ls 1=want:=by
 obtain ⟨r,rfl⟩:=h.h1 hi
 have h2:=h.hb []
 unfold qn jR
 rw [qX (zL _),List.take_length,if_neg (by decide),if_pos (.inl rfl),List.append_nil]
 rw [List.append_nil] at h2
 rw [h2]
 simp [en]
/-! ### Words -/
structure WdP (n i:Nat) (b:Bool) (ls bs:List (List Int)) (want:List Int):Prop where
 hf:∀ m,0 < i→dg true 0 (bs++m)=want++dg false 0 m
 hb:∀ m,0 < i→∃ w,f0 w=false∧en none 0 (bs++m)=want++en (some w) 0 m
 ht:∀ k,(ls.length < k∨(ls.length=k∧i=n))→di k 0 ls=bs
 h0:i=0→ls=[]∧bs=[]∧want=[]
 h1:0 < i→∃ r w,bs=r++[w]∧w≠[]
 he:ls.length=bs.length
 hl:ls.length≤4 * i
 hw:want.length≤5 * i
 hm:∀ t∈ls,t.length≤4
 hm2:∀ t∈bs,t.length≤4
theorem WdP.zero (n:Nat) (b:Bool):WdP n 0 b [] [] [] :=
 ⟨fun m h=>by omega,fun m h=>by omega,fun k h=>rfl,fun _=>⟨rfl,rfl,rfl⟩,fun h=>by omega,rfl,by simp,by simp,fun t h=>by simp at h,fun t h=>by simp at h⟩
theorem xI (a b:Bool) (c:Int):(D0 a b c).length≤4:=by unfold D0;cases a<;>cases b<;>simp
theorem zX {c:Int} (hc:blankI c=false):f0 [c]=false:=by unfold f0;simp [hc]
theorem WdP.first {n:Nat}{b:Bool}{ls bs:List (List Int)}{want:List Int}{c:Int} (h:WdP n 0 b ls bs want) (hc:blankI c=false) :
  WdP n 1 b (ls++[D0 (b && false) (b && decide (1 < n)) c]) (bs++[[c]]) (want++[c]):=by
 obtain ⟨rfl,rfl,rfl⟩:=h.h0 rfl
 refine ⟨fun m _=>?_,fun m _=>⟨[c],zX hc, ?_⟩,fun k hk=>?_,fun h=>by omega,fun _=>⟨[],[c],rfl,by simp⟩,rfl,by simp,by simp,fun t h=>?_,fun t h=>?_⟩
 ·rw [List.nil_append,List.singleton_append,nz];rfl
 ·rw [List.nil_append,List.singleton_append,j7 (by simp)];rfl
 ·simp only [List.nil_append,di]
  rw [sF hc (by simp) (fun hb=>?_)]
  simp only [Bool.and_eq_true,decide_eq_true_eq] at hb
  rcases hk with hk|⟨_,hk⟩
  ·simpa using hk
  ·omega
 ·simp at h;subst h;exact xI ..
 ·simp at h;subst h;simp
theorem WdP.step {n i g:Nat}{b:Bool}{ls bs:List (List Int)}{want:List Int}{c:Int} (h:WdP n i b ls bs want) (hc:blankI c=false) (hi:0 < i) (hin:i < n) (hg:g≤3) :
  WdP n (i+1) b (ls++List.replicate g []++[D0 b (b && decide (i+1 < n)) c]) (bs++List.replicate g []++[[c]]) (want++cO g++[c]):=by
 have hbt:=fS g
 refine ⟨fun m _=>?_,fun m _=>⟨[c],zX hc, ?_⟩,fun k hk=>?_,fun h=>by omega,fun _=>⟨_,[c],rfl,by simp⟩, ?_, ?_, ?_,fun t ht=>?_,fun t ht=>?_⟩
 ·rw [List.append_assoc,List.append_assoc,h.hf _ hi,List.singleton_append,J1 (by simp)]
  simp
 ·obtain ⟨w,hw,hb⟩:=h.hb (List.replicate g []++([[c]]++m)) hi
  rw [List.append_assoc,List.append_assoc,hb,List.singleton_append,EA (by simp)]
  simp only [sep,hw,zX hc,Bool.or_self,Bool.false_eq_true,if_false,Nat.zero_add]
  simp
 ·have hk2:ls.length+g+1 < k∨(ls.length+g+1=k∧i+1=n):=by
   simp only [List.length_append,List.length_replicate,List.length_singleton] at hk
   exact hk
  rw [mU,C8,h.ht k (.inl (by omega)),sF hc]
  ·intro _
   simp only [List.length_append,List.length_replicate]
   have:ls≠[]:=fun e=>by
    have:=h.he;obtain ⟨r,w,hr,_⟩:=h.h1 hi
    rw [e,hr] at this;simp at this
   have:=List.length_pos_iff.2 this
   omega
  ·intro hb
   simp only [Bool.and_eq_true,decide_eq_true_eq] at hb
   simp only [List.length_append,List.length_replicate]
   omega
 ·have:=h.he;simp;omega
 ·have:=h.hl;simp;omega
 ·have:=h.hw;simp;omega
 ·simp only [List.mem_append,List.mem_singleton] at ht
  rcases ht with (ht|ht)|rfl
  ·exact h.hm t ht
  ·rw [List.eq_of_mem_replicate ht];simp
  ·exact xI ..
 ·simp only [List.mem_append,List.mem_singleton] at ht
  rcases ht with (ht|ht)|rfl
  ·exact h.hm2 t ht
  ·rw [List.eq_of_mem_replicate ht];simp
  ·simp
theorem WdP.fin {n i:Nat}{b:Bool}{ls bs:List (List Int)}{want:List Int} (h:WdP n i b ls bs want) (hi:0 < i) (hn:i=n) :
  i5 ls=want∧qn bs 1=want∧qn bs 0=want++[10]:=by
 obtain ⟨r,w,hr,hw⟩:=h.h1 hi
 have h2:=h.hf [] hi
 obtain ⟨u,_,h3⟩:=h.hb [] hi
 have hfu:bY bs=bs.length:=by rw [hr];exact qX hw
 have hpos:0 < bs.length:=by rw [hr];simp
 rw [List.append_nil] at h2 h3
 refine ⟨?_, ?_, ?_⟩
 ·unfold i5
  rw [h.ht _ (.inr ⟨rfl,hn⟩),h2];simp [dg]
 ·unfold qn jR
  rw [hfu,List.take_length,if_neg (by decide),if_pos (.inl rfl),h3];simp [en]
 ·unfold qn jR
  rw [hfu,List.take_length,if_neg (by decide),if_neg (by omega),h3];simp [en]
end Go.Abs
/-
 Plain specifications for chapter 10: texts of whole lines. No program in sight.
-/



namespace Go.Abs
/-! ### Heads -/
def b9 (ch ind:Int):List Int→Int × Int × List Int
 | []=>(ch,ind,[])
 | c::r=>if 49≤c∧c≤57∧ind=0 then b9 ch (c - 48) r else if c=45∧ch=0 then b9 1 ind r else if c=43∧ch=0 then b9 2 ind r else (ch,ind,c::r)
abbrev HD:=Bool × Int × Int
def fp (l:List Int):HD × Int × Int :=
 if 0 < l.length∧(l.getD 0 0=124∨l.getD 0 0=62) then
  if (b9 0 0 (l.drop 1)).2.2.dropWhile blankI≠[]∧(((b9 0 0 (l.drop 1)).2.2.dropWhile blankI).length=(b9 0 0 (l.drop 1)).2.2.length∨¬((b9 0 0 (l.drop 1)).2.2.dropWhile blankI).getD 0 0=35) then ((false,0,0),0,2)
  else ((l.getD 0 0 == 62,(b9 0 0 (l.drop 1)).1,(b9 0 0 (l.drop 1)).2.1),(l.length:Nat),0)
 else ((false,0,0),0,2)
theorem sU {l:List Int} (h:¬(0 < l.length∧(l.getD 0 0=124∨l.getD 0 0=62))):fp l=((false,0,0),0,2):=by unfold fp;rw [if_neg h]
theorem xA {l:List Int}{ch ind:Int}{i j:Nat} (h:0 < l.length) (h1:l.getD 0 0=124∨l.getD 0 0=62) (hs:b9 0 0 (l.drop 1)=(ch,ind,l.drop i)) (hi:i≤l.length) (hij:i≤j) (hj:j≤l.length)
  (hd:(l.drop i).dropWhile blankI=l.drop j):fp l=(if j < l.length∧(j=i∨¬l.getD j 0=35) then ((false,0,0),0,2) else ((l.getD 0 0 == 62,ch,ind),(l.length:Nat),0):HD × Int × Int):=by
 unfold fp
 rw [if_pos ⟨h,h1⟩,hs]
 simp only [hd]
 have e1:(l.drop j≠[])=(j < l.length):=by simp
 have e2:((l.drop j).length=(l.drop i).length)=(l.length - j=l.length - i):=by simp
 by_cases hjl:j < l.length
 ·have e3:(l.drop j).getD 0 0=l.getD j 0:=by rw [a9 hjl];rfl
  have e4:(l.length - j=l.length - i)=(j=i):=by apply propext;omega
  simp only [e1,e2,e3,e4]
 ·simp only [e1,hjl,false_and,if_false]
theorem tX {ch ind:Int}{l:List Int}{i:Nat} (h:i < l.length) (h1:49≤l.getD i 0) (h2:l.getD i 0≤57) (h3:ind=0):b9 ch ind (l.drop i)=b9 ch (l.getD i 0 - 48) (l.drop (i+1)):=by
 rw [a9 h];simp only [b9];rw [if_pos ⟨h1,h2,h3⟩]
theorem u0 {ch ind:Int}{l:List Int}{i:Nat} (h:i < l.length) (h1:l.getD i 0=45) (h2:ch=0):b9 ch ind (l.drop i)=b9 1 ind (l.drop (i+1)):=by
 rw [a9 h];simp only [b9];rw [if_neg (by omega),if_pos ⟨h1,h2⟩]
theorem rI {ch ind:Int}{l:List Int}{i:Nat} (h:i < l.length) (h1:l.getD i 0=43) (h2:ch=0):b9 ch ind (l.drop i)=b9 2 ind (l.drop (i+1)):=by
 rw [a9 h];simp only [b9];rw [if_neg (by omega),if_neg (by omega),if_pos ⟨h1,h2⟩]
theorem q6 {ch ind:Int}{l:List Int}{i:Nat} (h:i < l.length) (h1:¬(49≤l.getD i 0∧l.getD i 0≤57∧ind=0)) (h2:¬(l.getD i 0=45∧ch=0)) (h3:¬(l.getD i 0=43∧ch=0)):b9 ch ind (l.drop i)=(ch,ind,l.drop i):=by
 rw [a9 h];simp only [b9];rw [if_neg h1,if_neg h2,if_neg h3]
theorem tP {ch ind:Int}{l:List Int}{i:Nat} (h:l.length≤i):b9 ch ind (l.drop i)=(ch,ind,l.drop i):=by rw [List.drop_eq_nil_of_le h];rfl
theorem w5 {l:List Int}{j:Nat} (h:j < l.length) (hb:blankI (l.getD j 0)=true):(l.drop j).dropWhile blankI=(l.drop (j+1)).dropWhile blankI:=by
 rw [a9 h,List.dropWhile_cons,if_pos hb]
theorem rY {l:List Int}{j:Nat} (h:j < l.length) (hb:blankI (l.getD j 0)=false):(l.drop j).dropWhile blankI=l.drop j:=by
 conv=>lhs;rw [a9 h,List.dropWhile_cons,if_neg (by rw [hb];decide)]
 rw [a9 h]
/-! ### Where lines stand -/
abbrev Ln:=Int × List Int
def de (w:Int):List Ln→Int × Option Int
 | []=>(w,none)
 | x::r=>if x.2=[] then de (max w x.1) r else (w,if bB x.1 x.2=0 then some x.1 else none)
def iG (l:List Ln) (ind n:Int):Int × Int :=
 if 0 < ind then (max 0 n+min ind 1099511627776,0)
 else
  if (de 0 l).2.getD n≤n then (max (de 0 l).1 (n+1),0)
  else if (de 0 l).2.getD n < (de 0 l).1 then (0,7)
  else ((de 0 l).2.getD n,0)
def mA (ind:Int) (x:Ln):Bool:=decide ((x.2≠[]∧x.1 < ind)∨bB x.1 x.2≠0)
def uj (ind:Int) (x:Ln):List Int:=List.replicate (x.1 - ind).toNat 32++x.2
def dC (ind:Int) (l:List Ln):List (List Int):=(l.takeWhile fun x=>!mA ind x).map (uj ind)
def cE (l:List Ln) (h:HD) (n:Int):ByteArray × Int × Int :=
 if ¬(iG l h.2.2 (min (max (-1) n) 1099511627776)).2=0 then (ByteArray.empty,0,(iG l h.2.2 (min (max (-1) n) 1099511627776)).2)
 else (cu (if h.1 then qn (dC (iG l h.2.2 (min (max (-1) n) 1099511627776)).1 l) h.2.1 else DO (dC (iG l h.2.2 (min (max (-1) n) 1099511627776)).1 l) h.2.1),((dC (iG l h.2.2 (min (max (-1) n) 1099511627776)).1 l).length:Nat),0)
theorem iZ {l:List Ln}{k:Nat} (h:k < l.length):l.drop k=l.getD k (0,[])::l.drop (k+1):=by
 rw [List.drop_eq_getElem_cons h]
 simp [List.getD_eq_getElem?_getD,h]
theorem Da {l:List Ln}{w:Int}{k:Nat} (h:k < l.length) (h1:(l.getD k (0,[])).2=[]):de w (l.drop k)=de (max w (l.getD k (0,[])).1) (l.drop (k+1)):=by
 rw [iZ h];simp only [de];rw [if_pos h1]
theorem DN {l:List Ln}{w:Int}{k:Nat} (h:k < l.length) (h1:¬(l.getD k (0,[])).2=[]) (h2:¬bB (l.getD k (0,[])).1 (l.getD k (0,[])).2=0):de w (l.drop k)=(w,none):=by
 rw [iZ h];simp only [de];rw [if_neg h1,if_neg h2]
theorem Df {l:List Ln}{w:Int}{k:Nat} (h:k < l.length) (h1:¬(l.getD k (0,[])).2=[]) (h2:bB (l.getD k (0,[])).1 (l.getD k (0,[])).2=0):de w (l.drop k)=(w,some (l.getD k (0,[])).1):=by
 rw [iZ h];simp only [de];rw [if_neg h1,if_pos h2]
theorem oe {l:List Ln}{w:Int}{k:Nat} (h:l.length≤k):de w (l.drop k)=(w,none):=by rw [List.drop_eq_nil_of_le h];rfl
theorem D7 {l:List Ln}{d:Int}{k:Nat} (h:k < l.length) (h1:mA d (l.getD k (0,[]))=true):dC d (l.drop k)=[]:=by
 unfold dC
 rw [iZ h,List.takeWhile_cons,if_neg (by rw [h1];decide)];rfl
theorem Ds {l:List Ln}{d:Int}{k:Nat} (h:k < l.length) (h1:mA d (l.getD k (0,[]))=false):dC d (l.drop k)=uj d (l.getD k (0,[]))::dC d (l.drop (k+1)):=by
 unfold dC
 rw [iZ h,List.takeWhile_cons,if_pos (by rw [h1];rfl)];rfl
theorem EM {l:List Ln}{d:Int}{k:Nat} (h:l.length≤k):dC d (l.drop k)=[]:=by rw [List.drop_eq_nil_of_le h];rfl
theorem CJ {d:Int}{x:Ln} (h:x.2.length=0∨d≤x.1) (h2:bB x.1 x.2=0):mA d x=false:=by
 unfold mA
 refine decide_eq_false ?_
 rintro (⟨h3,h4⟩|h5)
 ·rcases h with h|h
  ·exact h3 (List.eq_nil_of_length_eq_zero h)
  ·omega
 ·exact h5 h2
end Go.Abs
/-
 Own layer,part D: regions that draw their order,where variables are made beside what is read.
-/

namespace Go.Abs
class Has (σ:outParam (List Res)) (σ':List Res):Prop where
 mem:∀ r,r∈σ→r∈σ'
theorem Has.refl {σ:List Res}:Has σ σ:=⟨fun _ h=>h⟩
theorem Has.cons {σ σ':List Res}{r:Res} (h:Has σ σ'):Has σ (r::σ'):=⟨fun x hx=>List.mem_cons_of_mem _ (h.mem x hx)⟩
theorem cm {σ σ':List Res} (h:Has σ σ'):Has σ σ':=h
theorem Hold.has_at {σ σ':List Res}{b i:Nat}{cs:List AV} (hh:Has σ σ') (h:Hold σ b i cs):∃ j:Nat,σ'[j]? = some (.obj b cs):=List.mem_iff_getElem?.1 (hh.mem _ (List.mem_of_getElem? h.get))
instance (priority:=low) Hold.has {σ σ':List Res} {b i:Nat} {cs:List AV} [hh:Has σ σ'] [h:Hold σ b i cs]:Hold σ' b (Classical.choose (Hold.has_at hh h)) cs:=⟨Classical.choose_spec (Hold.has_at hh h)⟩
section
variable {κ:Ctx} {P:Program} {rd:Option Nat} {l:List Oper} {Q:Exit→St→Prop} {t:List AV} {σ:List Res} {fr:Bool} {df:List Deferred}
theorem HW {id:Nat} (A0:List Nat) (c0:Option Nat) (r0:Ph) (hm:P.follows .mixedOrders=true) (hok:yQ l ((A0,c0)::r0)=true) (h:Ls κ P l (Has σ) fr df Q A0 c0 r0 t σ):AW κ rd P (.region id l.toArray true) Q ⟨t,σ,fr,df⟩ :=
 gI A0 c0 r0 (Has σ) Has.refl hm hok h
end
/-! ### Structs as interface values -/
theorem dA {g:Nat→Nat}{w:World}{l:List Value}{v:Value} (h:VR g w (.agg (l.map .raw)) v):v=.agg l.toArray:=by
 cases h with
 | agg vs hs hv =>
  congr 1
  rw [List.length_map] at hs
  apply Array.ext (by simpa using hs)
  intro i h1 h2
  have h3:i < l.length:=by omega
  have:=(hv i (.raw l[i]) (by simp [h3])).raw_eq
  rw [Array.getD_eq_getD_getElem?,Array.getElem?_eq_getElem h1] at this
  simpa using this
theorem tG {κ:Ctx}{P:Program}{σ:List Res}{K:AV→List Res→Prop}{t:TypeId}{l:List Value}{fs:Array Field} (ht:P.underlying t=some (.struct fs)) (hK:K (.raw (.iface t (.agg l.toArray))) σ):AAct κ P (.makeIface t) [.agg (l.map .raw)] σ K:=by
 intro φ g w vs hR hvs
 obtain ⟨v,rfl,hu⟩:=kO hvs
 have hv:=dA hu
 subst hv
 refine ⟨.iface t (.agg l.toArray),w,g,_,σ, ?_,hR,GE.refl _ _,.raw _,hK⟩
 show (Instr.makeInterface t (.agg l.toArray)).run P w=_
 simp only [Instr.makeInterface,Sem.run_bind,run_underlying ht,Result.andThen_ok]
 rfl
class TStruct (P:Program) (t:TypeId):Prop where
 st:∃ fs,P.underlying t=some (.struct fs)
section
variable {κ:Ctx} {P:Program} {all rest:List Oper} {Q:Exit→St→Prop} {d:Option Tmp} {t:List AV} {σ:List Res} {fr:Bool} {df:List Deferred}
theorem yT {ty:TypeId}{v:Value} [h:TStruct P ty] (hK:dJ κ false P all Q d rest ⟨t,σ,fr,df⟩ (.raw (.iface ty (.agg #[v]))) σ):cC κ false P all Q d rest ⟨t,σ,fr,df⟩ (.makeIface ty) [.agg [.raw v]] :=
 cP (tG (l:=[v]) h.st.choose_spec hK)
end
end Go.Abs
/-
 Walks: chapter 13,a job's places.
-/





namespace Go.Proofs.YthkabaiamcjdbaaGreat
open Go.Abs
variable {κ:Ctx} {σ:List Res} {K:Ret→List Res→Prop} {o o':Option (Option (Nat × Nat))}
abbrev cS (p:Int × Int):AV:=.agg [I p.1,I p.2]
abbrev JP (b:Nat):AV:=.raw (.pointer (some ⟨b,0,none⟩))
abbrev JC (ls:List Ln) (n:Int) (bk:Bool) (d:Int) (x y:AV):List AV:=[SL none ls,I n,B bk,I d,x,y]
abbrev bS (i:Int):Prop:=-9223372036854775808≤i∧i≤9223372036854775807
def Small (ls:List Ln):Prop:=ls.length≤2000∧∀ x∈ls,x.2.length≤2000∧0≤x.1∧x.1≤2000
theorem Small.at_ {ls:List Ln} (h:Small ls) {i:Nat} (hi:i < ls.length):(ls.getD i (0,[])).2.length≤2000∧0≤(ls.getD i (0,[])).1∧(ls.getD i (0,[])).1≤2000 :=
 h.2 _ (by rw [List.getD_eq_getElem?_getD,List.getElem?_eq_getElem hi];exact List.getElem_mem hi)
def aF (ls:List Ln) (p:Int × Int):List Int :=
 if p.1 < 0∨(ls.length:Int)≤p.1∨p.2 < 0 then [] else if p.2 < (ls.getD p.1.toNat (0,[])).1 then [32] else (ls.getD p.1.toNat (0,[])).2.drop (min (p.2 - max 0 (ls.getD p.1.toNat (0,[])).1) (ls.getD p.1.toNat (0,[])).2.length).toNat
theorem Dg {ls:List Ln}{p:Int × Int} (h:p.1 < 0∨(ls.length:Int)≤p.1∨p.2 < 0):aF ls p=[]:=if_pos h
theorem fZ {ls:List Ln}{p:Int × Int} (h1:¬p.1 < 0) (h2:¬(ls.length:Int)≤p.1) (h3:¬p.2 < 0):aF ls p=if p.2 < (ls.getD p.1.toNat (0,[])).1 then [32] else (ls.getD p.1.toNat (0,[])).2.drop (min (p.2 - max 0 (ls.getD p.1.toNat (0,[])).1) (ls.getD p.1.toNat (0,[])).2.length).toNat:=by
 unfold aF
 rw [if_neg (by omega)]
theorem eU {b ix:Nat}{ls:List Ln}{n d:Int}{bk:Bool}{x y:AV} [hJ:Hold σ b ix (JC ls n bk d x y)] {p:Int × Int} (hs:Small ls) (hp:bS p.1∧bS p.2) (hK:K (.ret (SI none (aF ls p))) σ) :
  ACallF κ Tryz.prog 99 [JP b,cS p] σ K:=by
 obtain ⟨i,k⟩:=p
 obtain ⟨⟨p1,p2⟩,p3,p4⟩:=hp
 dsimp only at *
 have hl:=hs.1
 have ha:=fun h=>hs.at_ (i:=i.toNat) h
 refine ACallF.dropL (aa Tryz.func99 rfl ?_)
 simp only [Tryz.ntmps99]
 repeat' (first|simp only [WL,aD,WM,reduceCtorEq,ba,Nat.reduceAdd,Nat.reduceSub,Nat.reduceEqDiff,Bool.not_false,true_and,reduceIte,Bool.false_eq_true,T3,bX,fT,jb,fR cX,fR dP,fR dK,fR eH,fR gg,Tryz.results99]|simp (disch:=first|omega|(simp only [aT];omega)) only [aq,dN]|(with_reducible first|refine aC (hb:=?_)|refine ax (hK:=?_)|refine az (hK:=?_)|refine aP (hK:=fun b=>?_)|refine aS (hK:=fun b=>?_)|refine cF (hK:=?_)|refine my ?_|refine Cd ?_)|((with_reducible refine aH (id:=1) 18 mixed ?_ ?_);kernel_rfl)|((with_reducible refine HW (id:=3) [0,1,2,3,4,5,6,7] (some 8) [([],some 9),([],none)] mixed ?_ ?_);kernel_rfl)|((with_reducible apply aQ);intro σq hq;have hqi:=cm hq;clear hq)|(with_reducible exact bU)|((with_reducible apply bA);rfl;rfl)|(with_reducible refine bR (by first|exact Has.refl|exact Has.cons Has.refl|exact Has.cons (Has.cons Has.refl)) ?_)|(with_reducible refine bP ?_)|((with_reducible first|refine ai (fun h=>?_) (fun h=>?_)|refine ab (fun h=>?_) (fun h=>?_))<;>(try simp only [h])<;>(try simp only [bg,bm] at h)))
 all_goals first
  | exact ak (ae ah) (d8 (by rw [Dg (by dsimp only;omega)];exact fq (by decide))) hK
  | exact ak (ae (ae ah)) (aj (by rw [fZ (by dsimp only;omega) (by dsimp only;omega) (by dsimp only;omega),if_pos (by assumption)];rfl)) hK
  | exact ak (ae (ae ah)) (aj (by rw [fZ (by dsimp only;omega) (by dsimp only;omega) (by dsimp only;omega),if_neg (by dsimp only;omega)])) hK
theorem bZ {ls:List Ln}{p:Int × Int} (hs:Small ls):(aF ls p).length≤2000:=by
 unfold aF
 split
 ·simp
 ·split
  ·simp
  ·have:=(hs.at_ (i:=p.1.toNat) (by omega)).1
   rw [List.length_drop]
   omega
theorem cv {ls:List Ln}{p:Int × Int} (hs:Small ls) (h:0 < (aF ls p).length):0≤p.1∧p.1 < ls.length∧0≤p.2∧p.2+(aF ls p).length≤4000:=by
 unfold aF at h ⊢
 split
 ·rename_i h0;rw [if_pos h0] at h;simp at h
 ·rename_i h0
  rw [if_neg h0] at h
  have ha:=hs.at_ (i:=p.1.toNat) (by omega)
  split
  ·simp;omega
  ·rename_i h1
   rw [if_neg h1] at h
   rw [List.length_drop] at h ⊢
   omega
def bV (l:List Int) (c:Int):Bool:=decide (0 < l.length) && (l.getD 0 0 == c)
def isF (ls:List Ln) (p:Int × Int) (c:Int):Bool:=bV (aF ls p) c
theorem nn {b ix:Nat}{ls:List Ln}{n d:Int}{bk:Bool}{x y:AV} [hJ:Hold σ b ix (JC ls n bk d x y)] {p:Int × Int}{c:Int} (hs:Small ls) (hp:bS p.1∧bS p.2) (hK:K (.ret (B (isF ls p c))) σ) :
  ACallF κ Tryz.prog 181 [JP b,cS p,I c] σ K:=by
 have hr:=bZ (p:=p) hs
 unfold isF bV at hK
 refine ACallF.dropL (aa Tryz.func181 rfl ?_)
 simp only [Tryz.ntmps181]
 repeat' (first|simp only [WL,aD,WM,Int.reduceToNat,reduceCtorEq,ba,Nat.reduceAdd,Nat.reduceSub,Bool.not_true,true_and,reduceIte,Bool.false_eq_true,T3,bX,e8,Tryz.results181]|simp (disch:=first|omega|(simp only [aT];omega)) only [aV]|(with_reducible first|refine aC (hb:=?_)|refine aA (hK:=?_)|refine aP (hK:=fun b=>?_)|refine cD (eU hs hp ?_))|((with_reducible first|refine ai (fun h=>?_) (fun h=>?_)|refine ab (fun h=>?_) (fun h=>?_))<;>(try simp only [h])<;>(try simp only [bg,bm] at h)))
 all_goals first
  | exact ak (ae ah) (aj (congrArg B (by rw [decide_eq_true (by omega)];rfl))) hK
  | exact ak (ae ah) (aj (congrArg B (by rw [decide_eq_false (by omega)];rfl))) hK
def fB (l:List Int):Bool:=decide (0 < l.length) && blankI (l.getD 0 0)
def pg (ls:List Ln) (p:Int × Int):Bool:=fB (aF ls (p.1,p.2 - 1))
theorem Ot {b ix:Nat}{ls:List Ln}{n d:Int}{bk:Bool}{x y:AV} [hJ:Hold σ b ix (JC ls n bk d x y)] {p:Int × Int} (hs:Small ls) (hp:bS p.1∧bS p.2∧0≤p.2) (hK:K (.ret (B (pg ls p))) σ) :
  ACallF κ Tryz.prog 190 [JP b,cS p] σ K:=by
 have hr:=bZ (p:=(p.1,p.2 - 1)) hs
 have hp2:bS ((p.1,p.2 - 1):Int × Int).1∧bS ((p.1,p.2 - 1):Int × Int).2:=⟨hp.1,by dsimp only;omega⟩
 unfold pg fB at hK
 refine ACallF.dropL (aa Tryz.func190 rfl ?_)
 simp only [Tryz.ntmps190]
 repeat' (first|simp only [WL,aD,WM,Int.reduceToNat,reduceCtorEq,ba,Nat.reduceAdd,Nat.reduceSub,Nat.reduceEqDiff,Bool.not_true,true_and,reduceIte,Bool.false_eq_true,T3,bX,fR dK,fR eH,fw,e8,Tryz.results190]|simp (disch:=first|omega|(simp only [aT];omega)) only [aq,aV]|(with_reducible first|refine aC (hb:=?_)|refine ax (hK:=?_)|refine aP (hK:=fun b=>?_)|refine aG (hK:=?_)|refine cD (eU (p:=(p.1,p.2 - 1)) hs hp2 ?_)|refine cD (Blank ?_))|((with_reducible first|refine ai (fun h=>?_) (fun h=>?_)|refine ab (fun h=>?_) (fun h=>?_))<;>(try simp only [h])<;>(try simp only [bg,bm] at h)))
 all_goals exact ak (ae ah) (aj (congrArg B (by simp [*];try omega))) hK
def bC (ls:List Ln) (i:Int):Bool:=decide ((ls.length:Int)≤i) || (bB (ls.getD i.toNat (0,[])).1 (ls.getD i.toNat (0,[])).2 != 0)
theorem oa {b ix:Nat}{ls:List Ln}{n d:Int}{bk:Bool}{x y:AV} [hJ:Hold σ b ix (JC ls n bk d x y)] {i:Int} (hs:Small ls) (hp:0≤i) (hK:K (.ret (B (bC ls i))) σ) :
  ACallF κ Tryz.prog 151 [JP b,I i] σ K:=by
 have hl:=hs.1
 have hm:=fun h:i.toNat < ls.length=>hs.at_ h
 unfold bC at hK
 refine ACallF.dropL (aa Tryz.func151 rfl ?_)
 simp only [Tryz.ntmps151]
 repeat' (first|simp only [WL,aD,WM,reduceCtorEq,ba,Nat.reduceAdd,Nat.reduceSub,Nat.reduceEqDiff,Bool.not_false,true_and,reduceIte,Bool.false_eq_true,fT,jb,fR gg,f7,Tryz.results151]|simp (disch:=first|omega|(simp only [aT];omega)) only [dN]|(with_reducible first|refine aC (hb:=?_)|refine ax (hK:=?_)|refine cD (dh ?_ ?_))|((with_reducible first|refine ai (fun h=>?_) (fun h=>?_)|refine ab (fun h=>?_) (fun h=>?_))<;>(try simp only [h])<;>(try simp only [bg,bm] at h))|omega)
 ·exact ak ah (aj (congrArg B (by rw [decide_eq_false (by omega)];rfl))) hK
 ·exact ak ah (aj (congrArg B (by rw [decide_eq_true (by omega)];rfl))) hK
def wC (ls:List Ln) (p:Int × Int) (l:List Int):Bool:=bV l 35 && (decide (p.2=0) || pg ls p)
theorem Gk {b ix:Nat}{ls:List Ln}{n d:Int}{bk:Bool}{x y:AV} [hJ:Hold σ b ix (JC ls n bk d x y)] {p:Int × Int}{l:List Int} (hs:Small ls) (hp:bS p.1∧bS p.2∧0≤p.2) (hll:l.length≤1000000) (hK:K (.ret (B (wC ls p l))) σ) :
  ACallF κ Tryz.prog 150 [JP b,cS p,SI o l] σ K:=by
 unfold wC bV at hK
 refine ACallF.dropL (aa Tryz.func150 rfl ?_)
 simp only [Tryz.ntmps150]
 repeat' (first|simp only [WL,aD,WM,Int.reduceToNat,reduceCtorEq,ba,Nat.reduceAdd,Nat.reduceSub,Nat.reduceEqDiff,Bool.not_false,true_and,reduceIte,Bool.false_eq_true,T3,bX,fR eH,OD,Tryz.results150]|simp (disch:=first|omega|(simp only [aT];omega)) only [aV]|(with_reducible first|refine aC (hb:=?_)|refine ax (hK:=?_)|refine aA (hK:=?_)|refine aP (hK:=fun b=>?_)|refine cD (Ot hs hp ?_))|((with_reducible first|refine ai (fun h=>?_) (fun h=>?_)|refine ab (fun h=>?_) (fun h=>?_))<;>(try simp only [h])<;>(try simp only [bg,bm] at h)))
 all_goals exact ak (ae ah) (aj (congrArg B (by first|(simp_all;done)|(have hpos:0 < l.length:=(by omega);simp_all)))) hK
def sT (l:List Int):Bool:=decide (l.length=0) || blankI (l.getD 0 0) || jN (l.getD 0 0)
theorem E1 {b ix:Nat}{ls:List Ln}{n d:Int}{bk:Bool}{x y:AV} [hJ:Hold σ b ix (JC ls n bk d x y)] {p:Int × Int} (hs:Small ls) (hp:bS p.1∧bS p.2) (hK:K (.ret (B (sT (aF ls p)))) σ) :
  ACallF κ Tryz.prog 126 [JP b,cS p] σ K:=by
 have hr:=bZ (p:=p) hs
 unfold sT at hK
 refine ACallF.dropL (aa Tryz.func126 rfl ?_)
 simp only [Tryz.ntmps126]
 repeat' (first|simp only [WL,aD,WM,Int.reduceToNat,reduceCtorEq,ba,Nat.reduceAdd,Nat.reduceSub,Bool.not_false,true_and,reduceIte,Bool.false_eq_true,T3,bX,fw,e8,pj,Tryz.results126]|simp (disch:=first|omega|(simp only [aT];omega)) only [aV]|(with_reducible first|refine aC (hb:=?_)|refine aA (hK:=?_)|refine aP (hK:=fun b=>?_)|refine cD (eU hs hp ?_)|refine cD (Blank ?_)|refine cD (uQ ?_))|((with_reducible first|refine ai (fun h=>?_) (fun h=>?_)|refine ab (fun h=>?_) (fun h=>?_))<;>(try simp only [h])<;>(try simp only [bg,bm] at h)))
 all_goals exact ak (ae ah) (aj (congrArg B (by simp_all))) hK
theorem cb {p:Int × Int}{n:Int} (hp:bS (p.2+n)) (hK:K (.ret (cS (p.1,p.2+n))) σ):ACallF κ Tryz.prog 120 [cS p,I n] σ K:=by
 refine ACallF.dropL (aa Tryz.func120 rfl ?_)
 simp only [Tryz.ntmps120]
 repeat' (first|simp only [WL,aD,WM,reduceCtorEq,ba,Nat.reduceAdd,Nat.reduceSub,Nat.reduceEqDiff,true_and,T3,fR dK,fR eH,Tryz.results120]|simp (disch:=first|omega|(simp only [aT];omega)) only [aq]|(with_reducible first|refine aC (hb:=?_)|refine ax (hK:=?_)|refine az (hK:=?_)|refine aP (hK:=fun b=>?_)|refine aS (hK:=fun b=>?_)|refine aG (hK:=?_))|((with_reducible refine aU ?_);apply db (hf:=Tryz.results120);exact aZ))
 exact ak (ae (ae ah)) (aj rfl) hK
/-! ### Behind blanks -/
def nj (l:List Int):Nat:=(l.takeWhile blankI).length
def dT (ls:List Ln) (p:Int × Int):Int:=if 0≤p.1∧p.1 < ls.length then max p.2 (ls.getD p.1.toNat (0,[])).1 else p.2
def bO (ls:List Ln) (p:Int × Int):(Int × Int) × List Int:=((p.1,dT ls p+(nj (aF ls (p.1,dT ls p)):Nat)),(aF ls (p.1,dT ls p)).drop (nj (aF ls (p.1,dT ls p))))
theorem G9 (l:List Int):nj l≤l.length:=by
 unfold nj
 exact (List.takeWhile_sublist _).length_le
theorem mC:∀ (l:List Int) (j:Nat),(∀ i,i < j→blankI (l.getD i 0)=true)→j≤l.length→(l.length≤j∨blankI (l.getD j 0)=false)→nj l=j
  | [], j, _, h2, _ => by have : j = 0 := by simpa using h2
                          subst this;rfl
  | x::l,0,_,_,h3=>by
    rcases h3 with h3|h3
    · simp at h3
    · unfold nj;rw [List.takeWhile_cons,show blankI x=false from h3];rfl
  | x::l,j+1,h1,h2,h3=>by
    have hx:blankI x=true:=h1 0 (by omega)
    have:=mC l j (fun i hi=>by have:=h1 (i+1) (by omega);simpa using this) (by simpa using h2) (by simpa using h3)
    unfold nj at this ⊢
    rw [List.takeWhile_cons,hx]
    simp [this]
theorem kg {l:List Int}{i j:Nat}:(l.drop i).getD j 0=l.getD (i+j) 0:=by simp [List.getD_eq_getElem?_getD]
theorem CF {bj ix:Nat}{ls:List Ln}{n d:Int}{bk:Bool}{x y:AV} [hJ:Hold σ bj ix (JC ls n bk d x y)] {p:Int × Int} (hs:Small ls) (hp:bS p.1∧bS p.2) (hK:K (.ret (.tup [cS (bO ls p).1,SI none (bO ls p).2])) σ) :
  ACallF κ Tryz.prog 101 [JP bj,cS p] σ K:=by
 obtain ⟨i,k⟩:=p
 obtain ⟨⟨p1,p2⟩,p3,p4⟩:=hp
 dsimp only at *
 have hl:=hs.1
 have ha:=fun h=>hs.at_ (i:=i.toNat) h
 refine ACallF.dropL (aR Tryz.func101 rfl ?_)
 simp only [Tryz.ntmps101]
 repeat' (first|(with_reducible first|refine jK (id:=1) ?_|refine aJ ?_)|simp only [WL,WM,Nat.reduceAdd,Nat.reduceSub]|(with_reducible first|refine aP (hK:=fun b=>?_)|refine aS (hK:=fun b=>?_)))
 rename_i bp
 refine nt (fun _:Unit=>⟨(JP bj::cS (i,k)::.any::JP bp::JP b::nilS::.any::.any::.any::.any::.any::.any::.any::.any::.any::.any::.any::.any::.any::.any::.any::.any::.any::.any::.any::.any::.any::.any::.any::.any::.any::.any::.any::.any::.any::.any::.any::.any::.any::.any::.any::.any::.any::.any::.any::.any::.any::.any::.any::.any::.any::[]),.obj b [I 0,I 0]::.obj bp [I i,I (dT ls (i,k))]::σ,true,[]⟩) (fun _=>True) ?_ ?_
 ·
  repeat' (first|(with_reducible first|refine aJ ?_|refine aw ?_)|simp only [WL,aD,WM,reduceCtorEq,ba,Nat.reduceAdd,Nat.reduceLeDiff,Nat.reduceEqDiff,Bool.not_true,true_and,and_true,reduceIte,Bool.false_eq_true,T3,fT,jb,fC cX,fR dK,fR eH,fR gg]|simp (disch:=first|omega|(simp only [aT];omega)) only [dN]|(with_reducible first|refine aC (hb:=?_)|refine ax (hK:=?_)|refine aO (hK:=?_)|refine my ?_)|((with_reducible refine aH (id:=1) 13 mixed ?_ ?_);kernel_rfl)|((with_reducible refine aH (id:=2) 13 mixed ?_ ?_);kernel_rfl)|(with_reducible refine bP ?_)|((with_reducible first|refine ai (fun h=>?_) (fun h=>?_)|refine ab (fun h=>?_) (fun h=>?_))<;>(try simp only [h])<;>(try simp only [bg,bm] at h)))
  all_goals first
   | exact ⟨(),aL bz (ResW.of_eq (by unfold dT;rw [if_pos ⟨by dsimp only;omega,by dsimp only;omega⟩])) id⟩
   | exact ⟨(),aL bz (ResW.of_eq (by unfold dT;rw [if_neg (by dsimp only;omega)])) id⟩
 ·intro _ _
  have hcol:bS ((i,dT ls (i,k)):Int × Int).1∧bS ((i,dT ls (i,k)):Int × Int).2:=by
   refine ⟨⟨p1,p2⟩, ?_⟩
   unfold dT
   split
   ·have:=ha (by dsimp only at *;omega);dsimp only;omega
   ·exact ⟨p3,p4⟩
  have hlen:=bZ (p:=(i,dT ls (i,k))) hs
  have hsm:=fun h=>cv (p:=(i,dT ls (i,k))) hs h
  unfold bO at hK
  dsimp only at hK hlen hsm
  generalize dT ls (i,k)=c at *
  repeat' (first|(with_reducible first|refine al (ay ?_)|refine bW ?_|refine aJ ?_)|simp only [WL,WM,true_and,e8]|(with_reducible first|refine aA (hK:=?_)|refine cD (eU (p:=(i,c)) hs hcol ?_)))
  refine dM (fun q:Nat=>⟨(JP bj::cS (i,k)::.any::JP bp::JP b::nilS::SI none ((aF ls (i,c)).drop q)::.any::.any::.any::.any::.any::.any::.any::.any::.any::.any::.any::.any::.any::.any::.any::.any::.any::.any::.any::.any::.any::.any::.any::.any::.any::.any::.any::.any::.any::.any::.any::.any::.any::.any::.any::.any::.any::.any::.any::.any::.any::.any::.any::.any::[]),.obj b [I 0,I 0]::.obj bp [I i,I (c+q)]::σ,true,[]⟩) (fun q=>q≤(aF ls (i,c)).length∧∀ m,m < q→blankI ((aF ls (i,c)).getD m 0)=true) (fun q=>(aF ls (i,c)).length - q) 0 (aL bz (ResW.of_eq (by simp)) id) ⟨Nat.zero_le _,fun m hm=>absurd hm (Nat.not_lt_zero _)⟩ ?_
  rintro q ⟨hq,hb⟩
  have hd:((aF ls (i,c)).drop q).getD 0 0=(aF ls (i,c)).getD q 0:=by rw [kg,Nat.add_zero]
  have hdl:((aF ls (i,c)).drop q).length=(aF ls (i,c)).length - q:=List.length_drop
  repeat' (first|(with_reducible first|refine ay ?_|refine al (al ?_)|refine aJ ?_|refine aB ?_|refine aw ?_|refine aY ?_)|simp only [WL,aD,WM,Int.reduceToNat,reduceCtorEq,ba,Nat.reduceAdd,Bool.not_true,true_and,reduceIte,Bool.false_eq_true,T3,bX,fw,cT,Tryz.results101]|simp (disch:=first|omega|(simp only [aT];omega)) only [aV,aV]|(with_reducible first|refine aC (hb:=?_)|refine aA (hK:=?_)|refine az (hK:=?_)|refine cD (cb (p:=(i,c+q)) (by dsimp only;omega) ?_)|refine cD (Blank ?_))|((with_reducible refine aU ?_);apply wT (hf:=Tryz.results101);exact aZ)|((with_reducible refine gI (id:=5) [2,3] (some 0) [([],some 1),([],some 4),([],some 5),([],none)] (fun _=>True) trivial mixed ?_ ?_);kernel_rfl)|((with_reducible apply aQ);intro σq hq)|(with_reducible exact bU)|((with_reducible apply bA);rfl;rfl)|(with_reducible refine bR trivial ?_)|((with_reducible first|refine ai (fun h=>?_) (fun h=>?_)|refine ab (fun h=>?_) (fun h=>?_))<;>(try simp only [h])<;>(try simp only [bg,bm] at h)))
  ·refine ⟨q+1,aL (by simp only [List.drop_drop];exact bz) (ResW.of_eq (by rw [show ((q+1:Nat):Int)=(q:Int)+1 by omega,← Int.add_assoc])) id,⟨by omega,fun m hm=>?_⟩,by omega⟩
   by_cases e:m=q
   ·subst e;rw [← hd];assumption
   ·exact hb m (by omega)
  ·rw [mC _ q hb hq (.inr (by rw [← hd];assumption))] at hK
   exact ak (ae (ae ah)) (aj rfl) hK
  ·rw [mC _ q hb hq (.inl (by omega))] at hK
   exact ak (ae (ae ah)) (aj rfl) hK
instance:TStruct Tryz.prog 135:=⟨⟨_,Tryz.underlying135⟩⟩
def bI (e:Int):List PanicEntry:=[{ v:=.iface 135 (.agg #[.int .i64 e]),recovered:=false }]
theorem yY {e:Int} (hK:K (.pan (bI e)) σ):ACallF κ Tryz.prog 122 [I e] σ K:=by
 refine ACallF.dropL (aa Tryz.func122 rfl ?_)
 simp only [Tryz.ntmps122]
 repeat' (first|simp only [WL,WM,Nat.reduceAdd,Nat.reduceSub,true_and]|with_reducible refine aG (hK:=?_)|( refine yT ?_))
 exact aN ah rfl hK
theorem lz {ok:Bool} (h1:ok=true→K (.ret (.tup [])) σ) (h2:ok=false→K (.pan (bI 2)) σ):ACallF κ Tryz.prog 123 [B ok] σ K:=by
 refine ACallF.dropL (aa Tryz.func123 rfl ?_)
 simp only [Tryz.ntmps123]
 repeat' (first|simp only [WL,WM,Nat.reduceAdd,Nat.reduceSub,true_and,rU,Tryz.results123]|with_reducible refine cD (yY ?_)|((with_reducible first|refine ai (fun h=>?_) (fun h=>?_)|refine ab (fun h=>?_) (fun h=>?_))<;>(try simp only [h])<;>(try simp only [bg,bm] at h)))
 ·exact aN ah rfl (h2 (by assumption))
 ·exact ak ah (aj rfl) (h1 (by assumption))
theorem kz (h1:K (.ret (.tup [])) σ):ACallF κ Tryz.prog 123 [B true] σ K:=lz (fun _=>h1) (fun h=>by cases h)
theorem i9 (h2:K (.pan (bI 2)) σ):ACallF κ Tryz.prog 123 [B false] σ K:=lz (fun h=>by cases h) (fun _=>h2)
theorem OB {e:Int} (h1:e=0→K (.ret (.tup [])) σ) (h2:e≠0→K (.pan (bI e)) σ):ACallF κ Tryz.prog 174 [I e] σ K:=by
 refine ACallF.dropL (aa Tryz.func174 rfl ?_)
 simp only [Tryz.ntmps174]
 repeat' (first|simp only [WL,aD,WM,reduceCtorEq,ba,Nat.reduceAdd,Nat.reduceSub,true_and,rU,Tryz.results174]|with_reducible refine cD (yY ?_)|((with_reducible first|refine ai (fun h=>?_) (fun h=>?_)|refine ab (fun h=>?_) (fun h=>?_))<;>(try simp only [h])<;>(try simp only [bg,bm] at h)))
 ·exact aN ah rfl (h2 (by assumption))
 ·exact ak ah (aj rfl) (h1 (by assumption))
end Go.Proofs.YthkabaiamcjdbaaGreat
