/-
  Texts Sh, Sl, Sm, Sf, Fd, Sq, Sk, MD, Ha, Hb, one behind the other.
-/
import Derived.Test.YthkabaiamcjdbaaGreatG5
set_option linter.unusedVariables false
set_option linter.unusedSimpArgs false
set_option maxHeartbeats 16000000
/-
 Walks: rows of one sign (slices.Repeat).
-/



namespace Go.Proofs.YthkabaiamcjdbaaGreat
open Go.Abs
variable {κ:Ctx} {σ:List Res} {K:Ret→List Res→Prop} {o o':Option (Option (Nat × Nat))}
theorem mul64_1 {m:Nat} (hm:m≤1000000000) (hK:K (.ret (.tup [.raw (.int .u64 0),.raw (.int .u64 m)])) σ):ACallF κ Tryz.prog 215 [.raw (.int .u64 1),.raw (.int .u64 m)] σ K:=by
 refine ACallF.dropL (ACallF_intro Tryz.func215 rfl ?_)
 simp only [Tryz.ntmps215]
 repeat' (first|simp only [WL,intF,WM,Int.reduceToNat,reduceCtorEq,WLb,Nat.reduceAdd,Nat.reduceSub,true_and,Tryz.results215,fold_andu,Int.reduceToNat,Int.reducePow,Int.zero_mul,Int.one_mul,Int.zero_add,Int.add_zero,Int.mul_zero,Int.reduceDiv]|simp (disch:=first|omega|(simp only [LN_];omega)) only [shr_u,andu32,ediv0,wrapu_id])
 exact leafL sub_rfl (leT_eq rfl) hK
theorem mul_1 {m:Nat} (hm:m≤1000000000) (hK:K (.ret (.tup [.raw (.int .u64 0),.raw (.int .u64 m)])) σ):ACallF κ Tryz.prog 192 [.raw (.int .u64 1),.raw (.int .u64 m)] σ K:=by
 refine ACallF.dropL (ACallF_intro Tryz.func192 rfl ?_)
 simp only [Tryz.ntmps192]
 repeat' (first|simp only [WL,WM,Nat.reduceAdd,Nat.reduceSub,Nat.reduceLT,true_and,cok215,Tryz.results192]|with_reducible refine cD (mul64_1 (by omega) ?_))
 exact leafL sub_rfl (leT_eq rfl) hK
theorem lay_rep {c:Int}{n m k:Nat} (h:n+k≤m):lay (List.replicate n (I c)++List.replicate (m - n) (I 0)) n (List.replicate k (I c))=List.replicate (n+k) (I c)++List.replicate (m - (n+k)) (I 0):=by
 unfold lay
 rw [List.take_left' (by simp),List.length_replicate,List.drop_append]
 simp only [List.length_replicate,List.drop_replicate]
 rw [show n - (n+k)=0 by omega,List.replicate_zero,List.nil_append,show m - n - (n+k - n)=m - (n+k) by omega,List.replicate_append_replicate]
theorem repeat1o {c:Int}{m:Nat} (hm:m≤1000000000) (hK:∀ tk,K (.ret (SI (some tk) (List.replicate m c))) (.tip tk::σ)):ACallF κ Tryz.prog 160 [SI o [c],I m] σ K:=by
 refine ACallF.freeze ?_
 rcases Nat.eq_zero_or_pos m with rfl|hpos
 ·
  refine ACallF.dropL (ACallF_intro Tryz.func160 rfl ?_)
  simp only [Tryz.ntmps160]
  repeat' (first|simp only [WL,intF,WM,reduceCtorEq,WLb,Nat.reduceAdd,Nat.reduceSub,Nat.reduceLT,Bool.not_false,true_and,reduceIte,Bool.false_eq_true,T22,cI in3,cI in41,cok192,Int.cast_ofNat_Int]|simp (disch:=first|omega|(simp only [LN_];omega)) only [wrap_id,wrapu_id]|with_reducible refine andA (hb:=?_)|( refine actC_mk (act_mkrow sl22 sz3 by3 zr3 rfl rfl (by omega) (by decide) (fun b=>?_)))|( refine actC_mk (act_copy_row 0 rfl rfl sl22 sz3 (goodI _) ?_ ?_))|with_reducible refine cD (mul_1 (by omega) ?_)|((with_reducible first|refine grd_cases (fun h=>?_) (fun h=>?_)|refine condC_split (fun h=>?_) (fun h=>?_))<;>(try simp only [h])<;>(try simp only [NR_,NRb] at h))|omega)
  refine loop_by (fun _:Unit=>⟨(.any::.any::.any::.any::.any::.any::.any::rowV b 0 0 0::I 0::.any::.any::.any::.any::.any::.any::.any::.any::.any::.any::.any::.any::.any::.any::.any::.any::.any::.any::.any::.any::.any::.any::.any::.any::.any::.any::.any::.any::.any::.any::.any::.any::.any::.any::.any::.any::.any::.any::.any::[]),.obj b []::σ,true,[]⟩) (fun _=>True) (fun _=>0) () (St_le_same leA id) trivial ?_
  rintro ⟨⟩ _
  repeat' (first|simp only [WL,intF,WM,ne_eq,reduceCtorEq,not_false_eq_true,Nat.reduceLT,true_and,T22,Tryz.results160]|((with_reducible refine AW_phE (id:=9) [0,1,2,3,4,5,6] (some 7) [([8],some 9),([],none)] (fun _=>True) trivial mixed ?_ ?_);kernel_rfl)|((with_reducible apply phE_intro);intro σq hq)|((with_reducible apply phC_ops);rfl;rfl)|((with_reducible first|refine grd_cases (fun h=>?_) (fun h=>?_)|refine condC_split (fun h=>?_) (fun h=>?_))<;>(try simp only [h])<;>(try simp only [NR_,NRb] at h))|omega)
  exact leafL sub_rfl (leT_eq rfl) (.inr ⟨b,[],σ,rfl,ResW.refl _,by simp,Nat.zero_le _,hK _⟩)
 ·
  refine ACallF.dropL (ACallF_intro Tryz.func160 rfl ?_)
  simp only [Tryz.ntmps160]
  repeat' (first|simp only [WL,intF,WM,reduceCtorEq,WLb,Nat.reduceAdd,Nat.reduceSub,Nat.reduceLT,Bool.not_false,true_and,reduceIte,Bool.false_eq_true,T22,cI in3,cI in41,cok192]|simp (disch:=first|omega|(simp only [LN_];omega)) only [wrap_id,wrapu_id]|with_reducible refine andA (hb:=?_)|( refine actC_mk (act_mkrow sl22 sz3 by3 zr3 rfl rfl (by omega) (by decide) (fun b=>?_)))|( refine actC_mk (act_copy_row 0 rfl rfl sl22 sz3 (goodI _) ?_ ?_))|with_reducible refine cD (mul_1 (by omega) ?_)|((with_reducible first|refine grd_cases (fun h=>?_) (fun h=>?_)|refine condC_split (fun h=>?_) (fun h=>?_))<;>(try simp only [h])<;>(try simp only [NR_,NRb] at h))|omega|(simp only [LN_];omega))
  have e0:lay (List.replicate m (I 0)) 0 (((([c]:List Int).map I).take m).flatMap AV.cells)=List.replicate 1 (I c)++List.replicate (m - 1) (I 0):=by
   have:=lay_rep (c:=c) (n:=0) (m:=m) (k:=1) (by omega)
   simp only [List.replicate_zero,List.nil_append,Nat.sub_zero,Nat.zero_add] at this
   rw [← this,List.map_cons,List.map_nil,List.take_of_length_le (by simp;omega)]
   rfl
  refine loop_by (fun n:Nat=>⟨(.any::.any::.any::.any::.any::.any::.any::rowV b 0 m m::I n::.any::.any::.any::.any::.any::.any::.any::.any::.any::.any::.any::.any::.any::.any::.any::.any::.any::.any::.any::.any::.any::.any::.any::.any::.any::.any::.any::.any::.any::.any::.any::.any::.any::.any::.any::.any::.any::.any::.any::[]),.obj b (List.replicate n (I c)++List.replicate (m - n) (I 0))::σ,true,[]⟩) (fun n=>1≤n∧n≤m) (fun n=>m - n) 1 (St_leW leA ?_ id) ⟨Nat.le_refl _,hpos⟩ ?_
  ·have:=e0
   simp only [List.map_cons,List.map_nil] at this
   exact this ▸ ResW.refl _
  rintro n ⟨h1,h2⟩
  repeat' (first|simp only [WL,intF,WM,ne_eq,reduceCtorEq,not_false_eq_true,true_and,T22,Tryz.results160]|simp (disch:=first|omega|(simp only [LN_];omega)) only [wrap_id]|( refine actC_q (act_slice_lo sl22 sz3 (by omega) (by omega) isA_mk) ?_)|( refine actC_q (act_slice_hi sl22 sz3 (by omega) (by omega) (by omega) isA_mk) ?_)|( refine actC_mk (act_copy_self 0 rfl rfl sl22 sz3 ?_ ?_ ?_ ?_))|((with_reducible refine AW_phE (id:=9) [0,1,2,3,4,5,6] (some 7) [([8],some 9),([],none)] (fun _=>True) trivial mixed ?_ ?_);kernel_rfl)|((with_reducible apply phE_intro);intro σq hq)|(with_reducible exact isT_mk)|((with_reducible apply phC_ops);rfl;rfl)|(with_reducible refine phQ_mk trivial ?_)|((with_reducible first|refine grd_cases (fun h=>?_) (fun h=>?_)|refine condC_split (fun h=>?_) (fun h=>?_))<;>(try simp only [h])<;>(try simp only [NR_,NRb] at h))|(simp only [LN_];omega))
  ·rw [List.all_eq_true]
   intro x hx
   rcases List.mem_append.1 hx with hx|hx<;>rw [(List.mem_replicate.1 hx).2]<;>rfl
  ·have et:(List.replicate n (I c)++List.replicate (m - n) (I 0)).take (min n (m - n))=List.replicate (min n (m - n)) (I c):=by
    rw [List.take_append_of_le_length (by simp;omega),List.take_replicate]
    congr 1;omega
   have e1:=lay_rep (c:=c) (n:=n) (m:=m) (k:=min n (m - n)) (by omega)
   refine ⟨n+min n (m - n),St_leW leA ?_ id,⟨by omega,by omega⟩,by omega⟩
   rw [← e1,← et,Nat.zero_add]
   exact ResW.refl _
  ·obtain rfl:n=m:=by omega
   have ec:(List.replicate n (I c)++List.replicate (n - n) (I 0))=(List.replicate n c).map I:=by simp
   rw [ec]
   refine leafL sub_rfl (leT_eq rfl) (.inr ⟨b,(List.replicate n c).map I,σ, ?_,ResW.refl _, ?_, ?_,hK _⟩)
   ·simp
   ·intro x hx
    obtain ⟨y,_,rfl⟩:=List.mem_map.1 hx
    rfl
   ·exact maxLen_ok (by simp;omega)
theorem repeat1 {c:Int}{m:Nat} (hm:m≤1000000000) (hK:K (.ret (SI none (List.replicate m c))) σ):ACallF κ Tryz.prog 160 [SI o [c],I m] σ K :=
 ACallF.dropL (repeat1o hm (fun _=>leafL (sub_cons sub_rfl) (leT_le le_ro) hK))
end Go.Proofs.YthkabaiamcjdbaaGreat
/-
 Plain specifications for chapter 3: lines. No program in sight.
-/

namespace Go.Abs
def brk (c:Int):Bool:=c == 10 || c == 13
def tx:List Int→List Int→List (List Int)
 | acc,[]=>if acc.isEmpty then [] else [acc]
 | acc,[c]=>if brk c then [acc] else [acc++[c]]
 | acc,c::d::r=>if c == 13 && d == 10 then acc::tx [] r else if brk c then acc::tx [] (d::r) else tx (acc++[c]) (d::r)
theorem tx_push {acc r:List Int}{c:Int} (h:brk c=false):tx acc (c::r)=tx (acc++[c]) r:=by
 have h13:(c == 13)=false:=by simp [brk] at h;simp [h]
 cases r with
 | nil=>simp [tx,h]
 | cons d r=>simp [tx,h,h13]
theorem tx_brk {acc r:List Int}{c:Int} (h:brk c=true) (h2:¬(c=13∧r.head? = some 10)):tx acc (c::r)=acc::tx [] r:=by
 cases r with
 | nil=>simp [tx,h]
 | cons d r =>
  have:(c == 13 && d == 10)=false:=by
   rw [Bool.eq_false_iff];intro e;simp at e;exact h2 (by simp [e])
  simp [tx,h,this]
theorem tx_crlf {acc r:List Int}:tx acc (13::10::r)=acc::tx [] r:=by simp [tx]
theorem tx_none:∀ {l acc:List Int},(∀ c∈l,brk c=false)→tx acc l=if (acc++l).isEmpty then [] else [acc++l]
 | [],acc,_=>by simp [tx]
 | c::r,acc,h=>by
  rw [tx_push (h c (by simp)),tx_none (fun x hx=>h x (by simp [hx]))]
  simp
theorem tx_app:∀ {p acc r:List Int},(∀ c∈p,brk c=false)→tx acc (p++r)=tx (acc++p) r
 | [],acc,r,_=>by simp
 | c::p,acc,r,h=>by
  rw [List.cons_append,tx_push (h c (by simp)),tx_app (fun x hx=>h x (by simp [hx]))]
  simp
theorem tx_stepB {a r:List Int}{c:Int} (ha:∀ x∈a,brk x=false) (hc:brk c=true) (h:¬(c=13∧0 < r.length∧r.getD 0 0=10)):tx [] (a++c::r)=a::tx [] r:=by
 rw [tx_app ha,List.nil_append]
 refine tx_brk hc (fun ⟨h1,h2⟩=>h ⟨h1, ?_⟩)
 cases r with
 | nil=>cases h2
 | cons x r=>simp at h2;simp [h2]
def lineOf (t:List Int):Int × List Int:=(((t.takeWhile (· == 32)).length:Nat),t.dropWhile (· == 32))
def linesOf (l:List Int):List (Int × List Int):=(tx [] l).map lineOf
def goodC (c:Int):Bool:=printI c && !(c == 65279)
theorem goodC_no {c:Int} (h:printI c=false∨c=65279):goodC c=false:=by
 rcases h with h|rfl
 ·simp [goodC,h]
 ·simp [goodC]
theorem goodC_yes {c:Int} (h:printI c=true) (h2:¬c=65279):goodC c=true:=by simp [goodC,h,h2]
def readOk (l:List Int):Bool:=l.all goodC
def readR (l:List Int):List (Int × List Int) × Int:=if readOk l then (linesOf l,0) else ([],4)
theorem readR_bad {l:List Int}{k:Nat} (hk:k < l.length) (h:goodC (l.getD k 0)=false):readR l=([],4):=by
 unfold readR
 rw [if_neg]
 intro hc
 have:=List.all_eq_true.1 hc (l.getD k 0) (by simp [List.getD_eq_getElem?_getD,hk])
 rw [h] at this;cases this
theorem readR_ok {l:List Int} (h:∀ j,j < l.length→goodC (l.getD j 0)=true):readR l=(linesOf l,0):=by
 unfold readR
 rw [if_pos]
 refine List.all_eq_true.2 fun x hx=>?_
 obtain ⟨j,hj,rfl⟩:=List.getElem_of_mem hx
 have:=h j hj
 simpa [List.getD_eq_getElem?_getD,hj] using this
abbrev LN (x:Int × List Int):AV:=.agg [I x.1,SI none x.2]
abbrev SL (o:Option (Option (Nat × Nat))) (l:List (Int × List Int)):AV:=.sl 2 o (l.map LN)
theorem getL {l:List (Int × List Int)}{k:Nat} (h:k < l.length):(l.map LN).getD k .any=LN (l.getD k (0,[])):=by
 simp [List.getD_eq_getElem?_getD,h]
theorem tx_length:∀ (l acc:List Int),(tx acc l).length≤acc.length+l.length
 | [],acc=>by
  unfold tx
  split
  ·simp
  ·rename_i h;cases acc<;>simp at h ⊢
 | [c],acc=>by
  unfold tx;split<;>simp
 | c::d::r,acc=>by
  have h1:=tx_length r []
  have h2:=tx_length (d::r) []
  have h3:=tx_length (d::r) (acc++[c])
  unfold tx
  simp only [List.length_nil,List.length_cons,List.length_append] at *
  split
  ·simp only [List.length_cons];omega
  ·split
   ·simp only [List.length_cons];omega
   ·omega
theorem tx_each:∀ (l acc:List Int),∀ t∈tx acc l,t.length≤acc.length+l.length
 | [],acc=>by
  unfold tx
  split<;>intro t ht<;>simp at ht
  subst ht;simp
 | [c],acc=>by
  unfold tx;split<;>intro t ht<;>simp at ht<;>subst ht<;>simp
 | c::d::r,acc=>by
  have h1:=tx_each r []
  have h2:=tx_each (d::r) []
  have h3:=tx_each (d::r) (acc++[c])
  intro t ht
  unfold tx at ht
  simp only [List.length_nil,List.length_cons,List.length_append] at *
  split at ht
  ·rcases List.mem_cons.1 ht with rfl|ht
   ·omega
   ·have:=h1 t ht;omega
  ·split at ht
   ·rcases List.mem_cons.1 ht with rfl|ht
    ·omega
    ·have:=h2 t ht;omega
   ·have:=h3 t ht;omega
end Go.Abs
/-
 Plain specifications for chapter 3: more on lines. No program in sight.
-/

namespace Go.Abs
theorem drop_getD {l:List Int}{k:Nat} (h:k < l.length):l.drop k=l.getD k 0::l.drop (k+1):=by
 rw [List.drop_eq_getElem_cons h]
 simp [List.getD_eq_getElem?_getD,h]
theorem take_getD {l:List Int}{k f:Nat} (h:k < l.length) (hf:f≤k):(l.take (k+1)).drop f=(l.take k).drop f++[l.getD k 0]:=by
 rw [List.take_succ_eq_append_getElem h,List.drop_append_of_le_length (by simp;omega)]
 simp [List.getD_eq_getElem?_getD,h]
theorem tx_at_push {l:List Int}{k f:Nat} (h:k < l.length) (hf:f≤k) (hb:brk (l.getD k 0)=false):tx ((l.take k).drop f) (l.drop k)=tx ((l.take (k+1)).drop f) (l.drop (k+1)):=by
 rw [drop_getD h,tx_push hb,take_getD h hf]
theorem tx_at_brk {l:List Int}{k f:Nat} (h:k < l.length) (hb:brk (l.getD k 0)=true) (hn:¬(l.getD k 0=13∧k+1 < l.length∧l.getD (k+1) 0=10)):tx ((l.take k).drop f) (l.drop k)=(l.take k).drop f::tx [] (l.drop (k+1)):=by
 rw [drop_getD h]
 refine tx_brk hb (fun ⟨h1,h2⟩=>hn ⟨h1, ?_⟩)
 by_cases hk:k+1 < l.length
 ·rw [drop_getD hk] at h2
  exact ⟨hk,by simpa using h2⟩
 ·rw [List.drop_eq_nil_of_le (by omega)] at h2
  cases h2
theorem tx_at_crlf {l:List Int}{k f:Nat} (h:k+1 < l.length) (h13:l.getD k 0=13) (h10:l.getD (k+1) 0=10):tx ((l.take k).drop f) (l.drop k)=(l.take k).drop f::tx [] (l.drop (k+2)):=by
 rw [drop_getD (show k < l.length by omega),drop_getD h,h13,h10]
 exact tx_crlf
theorem tx_at_end {l:List Int}{k f:Nat} (h:l.length≤k):tx ((l.take k).drop f) (l.drop k)=if f < l.length then [l.drop f] else []:=by
 rw [List.drop_eq_nil_of_le h,List.take_of_length_le h]
 by_cases hf:f < l.length
 ·rw [if_pos hf]
  have:(l.drop f).isEmpty=false:=by
   rw [drop_getD hf];rfl
  simp [tx,this]
 ·rw [if_neg hf,List.drop_eq_nil_of_le (by omega)];rfl
theorem take_drop_self {l:List Int}{k:Nat}:(l.take k).drop k=[]:=List.drop_eq_nil_of_le (by simp;omega)
theorem brk_no {c:Int} (h:¬c=10) (h2:¬c=13):brk c=false:=by simp [brk,h,h2]
theorem brk_yes {c:Int} (h:c=10∨c=13):brk c=true:=by rcases h with h|h<;>simp [brk,h]
end Go.Abs
/-
 Plain specifications for chapter 6: folding. No program in sight.
-/

namespace Go.Abs
def backI (l:List Int):List Int:=(l.reverse.dropWhile blankI).reverse
def trimAt (n i:Nat) (t:List Int):List Int :=
 if i+1 < n then backI (if 0 < i then t.dropWhile blankI else t) else if 0 < i then t.dropWhile blankI else t
def trims (n:Nat):Nat→List (List Int)→List (List Int)
 | _,[]=>[]
 | i,t::r=>trimAt n i t::trims n (i+1) r
def between (e:Nat):List Int:=if e=0 then [32] else List.replicate e 10
def flowGo:Bool→Nat→List (List Int)→List Int
 | _,_,[]=>[]
 | true,e,t::r=>t++flowGo false e r
 | false,e,t::r=>if t=[]∧r≠[] then flowGo false (e+1) r else between e++t++flowGo false 0 r
def flowF (l:List (List Int)):List Int:=flowGo true 0 (trims l.length 0 l)
def tot (l:List (List Int)):Nat:=(l.map fun t=>t.length+1).sum
theorem backI_le (l:List Int):(backI l).length≤l.length:=by
 unfold backI
 have:=(List.dropWhile_suffix blankI (l:=l.reverse)).length_le
 simpa using this
theorem frontI_le (l:List Int):(l.dropWhile blankI).length≤l.length:=(List.dropWhile_suffix blankI).length_le
theorem trimAt_le (n i:Nat) (t:List Int):(trimAt n i t).length≤t.length:=by
 unfold trimAt
 have h1:=frontI_le t
 have h2:=backI_le t
 have h3:=backI_le (t.dropWhile blankI)
 split<;>split<;>omega
theorem trims_len (n:Nat):∀ (i:Nat) (l:List (List Int)),(trims n i l).length=l.length
 | _,[]=>rfl
 | i,t::r=>by simp [trims,trims_len n (i+1) r]
theorem trims_tot (n:Nat):∀ (i:Nat) (l:List (List Int)),tot (trims n i l)≤tot l
 | _,[]=>by simp [trims,tot]
 | i,t::r=>by
  have:=trims_tot n (i+1) r
  have:=trimAt_le n i t
  simp only [trims,tot,List.map_cons,List.sum_cons] at *
  omega
theorem tot_len (l:List (List Int)):l.length≤tot l:=by
 induction l with
 | nil=>simp [tot]
 | cons t r ih=>simp only [tot,List.map_cons,List.sum_cons,List.length_cons] at *;omega
theorem tot_mem {l:List (List Int)}{t:List Int} (h:t∈l):t.length+1≤tot l:=by
 induction l with
 | nil=>simp at h
 | cons x r ih =>
  simp only [tot,List.map_cons,List.sum_cons] at *
  rcases List.mem_cons.1 h with rfl|h
  ·omega
  ·have:=ih h;omega
theorem tot_get {l:List (List Int)} (k:Nat):(l.getD k []).length≤tot l:=by
 by_cases h:k < l.length
 ·have:l.getD k []∈l:=by simp [List.getD_eq_getElem?_getD,h]
  have:=tot_mem this;omega
 ·simp [List.getD_eq_getElem?_getD,h]
theorem between_len (e:Nat):(between e).length≤e+1:=by unfold between;split<;>simp
theorem flowGo_len:∀ (b:Bool) (e:Nat) (l:List (List Int)),(flowGo b e l).length≤e+tot l
 | _,_,[]=>by simp [flowGo]
 | true,e,t::r=>by
  have:=flowGo_len false e r
  simp only [flowGo,tot,List.map_cons,List.sum_cons,List.length_append] at *
  omega
 | false,e,t::r=>by
  have h1:=flowGo_len false (e+1) r
  have h2:=flowGo_len false 0 r
  have h3:=between_len e
  simp only [flowGo,tot,List.map_cons,List.sum_cons] at *
  split
  ·omega
  ·simp only [List.length_append];omega
theorem flowF_len (l:List (List Int)):(flowF l).length≤tot l:=by
 unfold flowF
 have h1:=flowGo_len true 0 (trims l.length 0 l)
 have h2:=trims_tot l.length 0 l
 omega
theorem drop_getDL {l:List (List Int)}{k:Nat} (h:k < l.length):l.drop k=l.getD k []::l.drop (k+1):=by
 rw [List.drop_eq_getElem_cons h]
 simp [List.getD_eq_getElem?_getD,h]
abbrev SSI (o:Option (Option (Nat × Nat))) (l:List (List Int)):AV:=.sl 1 o (l.map (SI none))
theorem getS {l:List (List Int)}{k:Nat} (h:k < l.length):(l.map (SI none)).getD k .any=SI none (l.getD k []):=by
 simp [List.getD_eq_getElem?_getD,h]
theorem backI_step {l:List Int} (h:0 < l.length) (hb:blankI (l.getD (l.length - 1) 0)=true):backI l=backI (l.take (l.length - 1)):=by
 have hne:l≠[]:=fun e=>by subst e;simp at h
 have e:l=l.take (l.length - 1)++[l.getD (l.length - 1) 0]:=by
  have:=List.dropLast_concat_getLast hne
  rw [List.dropLast_eq_take] at this
  rw [List.getLast_eq_getElem] at this
  have h2:l.getD (l.length - 1) 0=l[l.length - 1]'(by omega):=by simp [List.getD_eq_getElem?_getD,show l.length - 1 < l.length by omega]
  rw [h2];exact this.symm
 conv=>lhs;rw [e]
 unfold backI
 rw [List.reverse_append,List.reverse_singleton,List.singleton_append,List.dropWhile_cons,if_pos hb]
theorem backI_stop {l:List Int} (h:0 < l.length) (hb:blankI (l.getD (l.length - 1) 0)=false):backI l=l:=by
 have hne:l≠[]:=fun e=>by subst e;simp at h
 unfold backI
 have h1:l.reverse=l.getD (l.length - 1) 0::l.dropLast.reverse:=by
  have:=List.dropLast_concat_getLast hne
  have h2:l.getD (l.length - 1) 0=l.getLast hne:=by
   rw [List.getLast_eq_getElem];simp [List.getD_eq_getElem?_getD,show l.length - 1 < l.length by omega]
  rw [h2]
  conv=>lhs;rw [← this]
  simp
 rw [h1,List.dropWhile_cons,if_neg (by rw [hb];decide),← h1,List.reverse_reverse]
/-! ### Texts of whole lines -/
def fullN (l:List (List Int)):Nat:=(l.reverse.dropWhile (·.isEmpty)).length
def endsC (n full:Nat) (chomp:Int):List Int :=
 if chomp=2 then (if full=0 then List.replicate n 10 else List.replicate (n - full+1) 10) else if chomp=1∨full=0 then [] else [10]
def litGo:Bool→List (List Int)→List Int
 | _,[]=>[]
 | true,t::r=>t++litGo false r
 | false,t::r=>10::t++litGo false r
def litF (l:List (List Int)) (chomp:Int):List Int:=litGo true (l.take (fullN l))++endsC l.length (fullN l) chomp
def spacedI (l:List Int):Bool:=decide (0 < l.length) && blankI (l.getD 0 0)
def sep (last:Option (List Int)) (e:Nat) (t:List Int):List Int :=
 match last with
 | none=>List.replicate e 10
 | some s=>if spacedI s || spacedI t then between (e+1) else between e
def blkGo:Option (List Int)→Nat→List (List Int)→List Int
 | _,_,[]=>[]
 | last,e,t::r=>if t=[] then blkGo last (e+1) r else sep last e t++t++blkGo (some t) 0 r
def blkF (l:List (List Int)) (chomp:Int):List Int:=blkGo none 0 (l.take (fullN l))++endsC l.length (fullN l) chomp
theorem fullN_le (l:List (List Int)):fullN l≤l.length:=by
 unfold fullN
 have:=(List.dropWhile_suffix (fun t:List Int=>t.isEmpty) (l:=l.reverse)).length_le
 simpa using this
theorem fullN_take {l:List (List Int)}{k:Nat} (h:k < l.length) (hk:(l.getD k []).length=0) (hf:fullN l=fullN (l.take (k+1))):fullN l=fullN (l.take k):=by
 rw [hf,List.take_succ_eq_append_getElem h]
 unfold fullN
 rw [List.reverse_append,List.reverse_singleton,List.singleton_append,List.dropWhile_cons]
 have:(l[k]).isEmpty=true:=by
  have h1:l.getD k []=l[k]:=by simp [List.getD_eq_getElem?_getD,h]
  rw [h1] at hk
  rw [List.isEmpty_iff]
  exact List.eq_nil_of_length_eq_zero hk
 rw [if_pos this]
theorem fullN_stop {l:List (List Int)}{k:Nat} (h:k < l.length) (hk:¬(l.getD k []).length=0):fullN (l.take (k+1))=k+1:=by
 rw [List.take_succ_eq_append_getElem h]
 unfold fullN
 rw [List.reverse_append,List.reverse_singleton,List.singleton_append,List.dropWhile_cons]
 have:¬(l[k]).isEmpty=true:=by
  have h1:l.getD k []=l[k]:=by simp [List.getD_eq_getElem?_getD,h]
  rw [h1] at hk
  rw [List.isEmpty_iff]
  intro e;rw [e] at hk;simp at hk
 rw [if_neg this]
 simp;omega
theorem litGo_len:∀ (b:Bool) (l:List (List Int)),(litGo b l).length≤tot l
 | _,[]=>by simp [litGo]
 | true,t::r=>by
  have:=litGo_len false r
  simp only [litGo,tot,List.map_cons,List.sum_cons,List.length_append] at *;omega
 | false,t::r=>by
  have:=litGo_len false r
  simp only [litGo,tot,List.map_cons,List.sum_cons,List.length_append,List.length_cons] at *;omega
theorem sep_len (s:Option (List Int)) (e:Nat) (t:List Int):(sep s e t).length≤e+1:=by
 unfold sep
 split
 ·simp
 ·split
  ·unfold between;simp
  ·exact between_len e
theorem blkGo_len:∀ (s:Option (List Int)) (e:Nat) (l:List (List Int)),(blkGo s e l).length≤e+tot l
 | _,_,[]=>by simp [blkGo]
 | s,e,t::r=>by
  have h1:=blkGo_len s (e+1) r
  have h2:=blkGo_len (some t) 0 r
  have h3:=sep_len s e t
  simp only [blkGo,tot,List.map_cons,List.sum_cons] at *
  split
  ·omega
  ·simp only [List.length_append];omega
theorem tot_take (l:List (List Int)) (k:Nat):tot (l.take k)≤tot l:=by
 have e:tot l=tot (l.take k)+tot (l.drop k):=by
  unfold tot
  rw [← List.sum_append,← List.map_append,List.take_append_drop]
 omega
theorem endsC_len (n f:Nat) (c:Int) (h:f≤n):(endsC n f c).length≤n+1:=by
 unfold endsC
 split
 ·split<;>simp<;>omega
 ·split<;>simp
theorem flowGo_first {t:List Int}{r:List (List Int)}{e:Nat}:flowGo true e (t::r)=t++flowGo false e r:=rfl
theorem flowGo_empty {t:List Int}{r:List (List Int)}{e:Nat} (h:t=[]) (h2:r≠[]):flowGo false e (t::r)=flowGo false (e+1) r:=by
 simp only [flowGo];rw [if_pos ⟨h,h2⟩]
theorem flowGo_cons {t:List Int}{r:List (List Int)}{e:Nat} (h:¬(t=[]∧r≠[])):flowGo false e (t::r)=between e++t++flowGo false 0 r:=by
 simp only [flowGo];rw [if_neg h]
theorem flow_out {l:List (List Int)}{a b:List Int} (h:flowF l=a++b):a.length+b.length≤tot l:=by
 have:=flowF_len l
 rw [h] at this
 simpa using this
theorem trims_nil {n i:Nat}{l:List (List Int)} (h:trims n i l=[]):l=[]:=by
 cases l with
 | nil=>rfl
 | cons=>simp [trims] at h
theorem litGo_first {t:List Int}{r:List (List Int)}:litGo true (t::r)=t++litGo false r:=rfl
theorem litGo_next {t:List Int}{r:List (List Int)}:litGo false (t::r)=10::t++litGo false r:=rfl
theorem blkGo_empty {s:Option (List Int)}{e:Nat}{t:List Int}{r:List (List Int)} (h:t=[]):blkGo s e (t::r)=blkGo s (e+1) r:=by
 simp only [blkGo];rw [if_pos h]
theorem blkGo_cons {s:Option (List Int)}{e:Nat}{t:List Int}{r:List (List Int)} (h:¬t=[]):blkGo s e (t::r)=sep s e t++t++blkGo (some t) 0 r:=by
 simp only [blkGo];rw [if_neg h]
theorem lit_out {l:List (List Int)}{n:Nat}{a b:List Int} (h:litGo true (l.take n)=a++b):a.length+b.length≤tot l:=by
 have h1:=litGo_len true (l.take n)
 have h2:=tot_take l n
 rw [h,List.length_append] at h1
 omega
theorem blk_out {l:List (List Int)}{n:Nat}{a b:List Int} (h:blkGo none 0 (l.take n)=a++b):a.length+b.length≤tot l:=by
 have h1:=blkGo_len none 0 (l.take n)
 have h2:=tot_take l n
 rw [h,List.length_append] at h1
 omega
theorem take_drop_cons {l:List (List Int)}{n k:Nat} (h:k < n) (hn:n≤l.length):(l.take n).drop k=l.getD k []::(l.take n).drop (k+1):=by
 rw [drop_getDL (by simp;omega)]
 congr 1
 simp [List.getD_eq_getElem?_getD,List.getElem?_take_of_lt h]
theorem getD_take {l:List (List Int)}{n k:Nat} (h:k < n):(l.take n).getD k []=l.getD k []:=by
 simp [List.getD_eq_getElem?_getD,List.getElem?_take_of_lt h]
theorem litF_len (l:List (List Int)) (c:Int):(litF l c).length≤tot l+l.length+1:=by
 have h1:=litGo_len true (l.take (fullN l))
 have h2:=tot_take l (fullN l)
 have h3:=endsC_len l.length (fullN l) c (fullN_le l)
 unfold litF
 rw [List.length_append];omega
theorem blkF_len (l:List (List Int)) (c:Int):(blkF l c).length≤tot l+l.length+1:=by
 have h1:=blkGo_len none 0 (l.take (fullN l))
 have h2:=tot_take l (fullN l)
 have h3:=endsC_len l.length (fullN l) c (fullN_le l)
 unfold blkF
 rw [List.length_append];omega
end Go.Abs
/-
 Walks: chapter 6,blanks and lines that are folded.
-/


namespace Go.Proofs.YthkabaiamcjdbaaGreat
open Go.Abs
variable {κ:Ctx} {σ:List Res} {K:Ret→List Res→Prop} {o o':Option (Option (Nat × Nat))}
theorem front {l:List Int} (hl:l.length≤1000000000) (hK:K (.ret (SI none (l.dropWhile blankI))) σ):ACallF κ Tryz.prog 222 [SI o l] σ K:=by
 refine ACallF.dropL (ACallF_intro Tryz.func222 rfl ?_)
 simp only [Tryz.ntmps222]
 repeat' (first|simp only [WL,WM,Nat.reduceAdd,Nat.reduceSub])
 refine loop_by (fun x:Option (Option (Nat × Nat)) × List Int=>⟨(SI x.1 x.2::.any::.any::.any::.any::.any::.any::.any::.any::.any::.any::.any::.any::.any::.any::[]),σ,true,[]⟩) (fun x=>x.2.dropWhile blankI=l.dropWhile blankI∧x.2.length≤l.length) (fun x=>x.2.length) (o,l) (St_le_same leA id) ⟨rfl,Nat.le_refl _⟩ ?_
 rintro ⟨o',l'⟩ ⟨h1,h2⟩
 dsimp only at h1 h2 ⊢
 repeat' (first|simp only [WL,intF,WM,Int.reduceToNat,reduceCtorEq,WLb,Nat.reduceAdd,Bool.not_true,true_and,reduceIte,Bool.false_eq_true,T3,T22,cok72,Tryz.results222]|simp (disch:=first|omega|(simp only [LN_];omega)) only [getI]|(with_reducible first|refine andA (hb:=?_)|refine cD (Blank ?_))|((with_reducible first|refine grd_cases (fun h=>?_) (fun h=>?_)|refine condC_split (fun h=>?_) (fun h=>?_))<;>(try simp only [h])<;>(try simp only [NR_,NRb] at h)))
 ·refine ⟨(none,l'.drop 1),St_le_same leA id,⟨?_, ?_⟩, ?_⟩
  ·rw [← h1];exact (dw_step (by omega) h).symm
  ·simp;omega
  ·simp;omega
 ·exact leafL sub_rfl (leT_le (by rw [← h1,dw_stop (by omega) h];exact le_ro)) hK
 ·exact leafL sub_rfl (leT_le (by rw [← h1,List.eq_nil_of_length_eq_zero (l:=l') (by omega)];exact le_ro)) hK
theorem back {l:List Int} (hl:l.length≤1000000000) (hK:K (.ret (SI none (backI l))) σ):ACallF κ Tryz.prog 223 [SI o l] σ K:=by
 refine ACallF.dropL (ACallF_intro Tryz.func223 rfl ?_)
 simp only [Tryz.ntmps223]
 repeat' (first|simp only [WL,WM,Nat.reduceAdd,Nat.reduceSub])
 refine loop_by (fun x:Option (Option (Nat × Nat)) × List Int=>⟨(SI x.1 x.2::.any::.any::.any::.any::.any::.any::.any::.any::.any::.any::.any::.any::.any::.any::.any::.any::.any::.any::.any::.any::[]),σ,true,[]⟩) (fun x=>backI x.2=backI l∧x.2.length≤l.length) (fun x=>x.2.length) (o,l) (St_le_same leA id) ⟨rfl,Nat.le_refl _⟩ ?_
 rintro ⟨o',l'⟩ ⟨h1,h2⟩
 dsimp only at h1 h2 ⊢
 have e1:0 < l'.length→((l'.length:Int) - 1).toNat=l'.length - 1:=fun _=>by omega
 repeat' (first|simp only [WL,intF,WM,Int.reduceToNat,reduceCtorEq,WLb,Nat.reduceAdd,Bool.not_true,true_and,reduceIte,Bool.false_eq_true,T3,T22,cok72,Tryz.results223]|simp (disch:=first|omega|(simp only [LN_];omega)) only [wrap_id,getI]|(with_reducible first|refine andA (hb:=?_)|refine cD (Blank ?_))|((with_reducible first|refine grd_cases (fun h=>?_) (fun h=>?_)|refine condC_split (fun h=>?_) (fun h=>?_))<;>(try simp only [h])<;>(try simp only [NR_,NRb] at h)))
 ·exact ⟨(none,l'.take (l'.length - 1)),St_le_same (by simp only [e1 (by omega)];exact leA) id,⟨by rw [← h1];exact (backI_step (by omega) (by rw [← e1 (by omega)];exact h)).symm,by simp;omega⟩,by simp;omega⟩
 ·exact leafL sub_rfl (leT_le (by rw [← h1,backI_stop (by omega) (by rw [← e1 (by omega)];exact h)];exact le_ro)) hK
 ·obtain rfl:l'=[]:=List.eq_nil_of_length_eq_zero (by omega)
  exact leafL sub_rfl (leT_le (by rw [← h1];exact le_ro)) hK
theorem between1 {e:Nat} (he:e≤1000000000) (hK:K (.ret (SI none (between e))) σ):ACallF κ Tryz.prog 162 [I e] σ K:=by
 refine ACallF.dropL (ACallF_intro Tryz.func162 rfl ?_)
 simp only [Tryz.ntmps162]
 repeat' (first|simp only [WL,intF,WM,reduceCtorEq,WLb,Nat.reduceAdd,Nat.reduceSub,true_and,cok160,Tryz.results162]|with_reducible refine y_bs (hK:=?_)|( refine callD_mk (repeat1 (c:=10) (by omega) ?_))|((with_reducible first|refine grd_cases (fun h=>?_) (fun h=>?_)|refine condC_split (fun h=>?_) (fun h=>?_))<;>(try simp only [h])<;>(try simp only [NR_,NRb] at h)))
 ·obtain rfl:e=0:=by omega
  exact leafL sub_rfl (leT_eq rfl) hK
 ·exact leafL sub_rfl (leT_eq (by unfold between;rw [if_neg (by omega)])) hK
theorem full1 {l:List (List Int)} (hl:l.length≤1000000000) (hK:K (.ret (I (fullN l:Nat))) σ):ACallF κ Tryz.prog 158 [SSI o l] σ K:=by
 refine ACallF.dropL (ACallF_intro Tryz.func158 rfl ?_)
 simp only [Tryz.ntmps158]
 repeat' (first|simp only [WL,WM,Nat.reduceAdd,Nat.reduceSub,true_and,T191])
 refine loop_by (fun k:Nat=>⟨(SSI o l::.any::.any::I k::.any::.any::.any::.any::.any::.any::.any::.any::.any::.any::.any::.any::.any::.any::.any::.any::[]),σ,true,[]⟩) (fun k=>k≤l.length∧fullN l=fullN (l.take k)) (fun k=>k) l.length (St_le_same leA id) ⟨Nat.le_refl _,by rw [List.take_length]⟩ ?_
 rintro k ⟨h1,h2⟩
 have e1:0 < k→((k:Int) - 1).toNat=k - 1:=fun _=>by omega
 repeat' (first|simp only [WL,intF,WM,reduceCtorEq,WLb,Nat.reduceAdd,Bool.not_true,true_and,reduceIte,Bool.false_eq_true,T22,T191,Tryz.results158]|simp (disch:=first|omega|(simp only [LN_];omega)) only [wrap_id,getS,e1]|with_reducible refine andA (hb:=?_)|((with_reducible first|refine grd_cases (fun h=>?_) (fun h=>?_)|refine condC_split (fun h=>?_) (fun h=>?_))<;>(try simp only [h])<;>(try simp only [NR_,NRb] at h)))
 ·refine ⟨k - 1,St_le_same leA id,⟨by omega, ?_⟩,by omega⟩
  have hk:k - 1 < l.length:=by omega
  exact fullN_take hk (by omega) (by rw [show k - 1+1=k by omega];exact h2)
 ·have:=fullN_stop (l:=l) (k:=k - 1) (by omega) (by omega)
  rw [show k - 1+1=k by omega] at this
  exact leafL sub_rfl (leT_eq (by rw [h2,this])) hK
 ·obtain rfl:k=0:=by omega
  exact leafL sub_rfl (leT_eq (by rw [h2];rfl)) hK
theorem ends1 {n f:Nat}{c:Int} (hn:n≤1000000000) (hf:f≤n) (hK:K (.ret (SI none (endsC n f c))) σ):ACallF κ Tryz.prog 159 [I n,I f,I c] σ K:=by
 have nf:((n:Int) - f+1)=((n - f+1:Nat):Int):=by omega
 refine ACallF.dropL (ACallF_intro Tryz.func159 rfl ?_)
 simp only [Tryz.ntmps159]
 repeat' (first|simp only [WL,intF,WM,reduceCtorEq,WLb,Nat.reduceAdd,Nat.reduceSub,Bool.not_true,Bool.not_false,true_and,reduceIte,Bool.false_eq_true,cok160,Tryz.results159,nf]|simp (disch:=first|omega|(simp only [LN_];omega)) only [wrap_id]|with_reducible refine y_bs (hK:=?_)|( refine callD_mk (repeat1 (c:=10) (by omega) ?_))|((with_reducible first|refine grd_cases (fun h=>?_) (fun h=>?_)|refine condC_split (fun h=>?_) (fun h=>?_))<;>(try simp only [h])<;>(try simp only [NR_,NRb] at h))|omega)
 ·exact leafL sub_rfl (leT_eq (by unfold endsC;rw [if_pos (by assumption),if_pos (by omega)])) hK
 ·exact leafL sub_rfl (leT_eq (by unfold endsC;rw [if_pos (by assumption),if_neg (by omega),List.replicate_succ])) hK
 ·exact leafL sub_rfl (leT_le (by unfold endsC;rw [if_neg (by assumption),if_pos (.inr (by omega))];exact le_nilro (by decide))) hK
 ·exact leafL sub_rfl (leT_eq (by unfold endsC;rw [if_neg (by assumption),if_neg (by omega)];rfl)) hK
 ·exact leafL sub_rfl (leT_le (by unfold endsC;rw [if_neg (by assumption),if_pos (.inl (by assumption))];exact le_nilro (by decide))) hK
theorem spaced1 {l:List Int} (hl:l.length≤1000000000) (hK:K (.ret (B (spacedI l))) σ):ACallF κ Tryz.prog 161 [SI o l] σ K:=by
 refine ACallF.dropL (ACallF_intro Tryz.func161 rfl ?_)
 simp only [Tryz.ntmps161]
 repeat' (first|simp only [WL,intF,WM,Int.reduceToNat,reduceCtorEq,WLb,Nat.reduceAdd,Nat.reduceSub,Bool.not_true,true_and,reduceIte,Bool.false_eq_true,T3,T22,cok72,Tryz.results161]|simp (disch:=first|omega|(simp only [LN_];omega)) only [getI]|(with_reducible first|refine andA (hb:=?_)|refine cD (Blank ?_))|((with_reducible first|refine grd_cases (fun h=>?_) (fun h=>?_)|refine condC_split (fun h=>?_) (fun h=>?_))<;>(try simp only [h])<;>(try simp only [NR_,NRb] at h)))
 ·exact leafL sub_rfl (leT_eq (congrArg B (by unfold spacedI;rw [decide_eq_true (by omega),Bool.true_and]))) hK
 ·exact leafL sub_rfl (leT_eq (congrArg B (by unfold spacedI;rw [decide_eq_false (by omega),Bool.false_and]))) hK
theorem trimmed {l:List (List Int)} (hK:∀ b,K (.ret (.raw (.func (.func 221) #[] #[.pointer (some ⟨b,0,none⟩)]))) (.obj b [SSI o l]::σ)):ACallF κ Tryz.prog 213 [SSI o l] σ K:=by
 refine ACallF.dropL (ACallF_intro Tryz.func213 rfl ?_)
 simp only [Tryz.ntmps213]
 repeat' (first|simp only [WL,WM,Nat.reduceAdd,Nat.reduceSub,true_and,Tryz.results213]|with_reducible refine y_box (hK:=fun b=>?_))
 exact leafL sub_rfl (leT_eq rfl) (hK _)
theorem trimmedIt {b L:Nat}{l:List (List Int)} (hl:tot l≤1000000000) (hI:Iter κ Tryz.prog L K ((trims l.length 0 l).map fun t=>[SI none t]) σ) :
  ACallF κ Tryz.prog 221 [.raw (.func (.yield L) #[] #[]),.raw (.pointer (some ⟨b,0,none⟩))] (.obj b [SSI o l]::σ) K:=by
 have hlen:=tot_len l
 refine ACallF.dropL (ACallF_intro Tryz.func221 rfl ?_)
 simp only [Tryz.ntmps221]
 repeat' (first|simp only [WL,WM,Nat.reduceAdd,Nat.reduceSub,true_and,T191]|with_reducible refine y_load (hK:=?_))
 refine loop_by (fun x:Nat × List Res=>⟨(.raw (.func (.yield L) #[] #[])::.raw (.pointer (some ⟨b,0,none⟩))::.any::.any::.any::SSI o l::I l.length::I x.1::.any::.any::.any::.any::.any::.any::.any::.any::.any::.any::.any::.any::.any::.any::.any::.any::.any::.any::.any::.any::[]),.obj b [SSI o l]::x.2,true,[]⟩) (fun x=>x.1≤l.length∧Iter κ Tryz.prog L K ((trims l.length x.1 (l.drop x.1)).map fun t=>[SI none t]) x.2) (fun x=>l.length - x.1) (0,σ) (St_le_same leA id) ⟨Nat.zero_le _,by simpa using hI⟩ ?_
 rintro ⟨k,σ'⟩ ⟨h1,h2⟩
 dsimp only at h1 h2 ⊢
 have h3:=tot_get (l:=l) k
 have h4:=frontI_le (l.getD k [])
 repeat' (first|simp only [WL,intF,WM,reduceCtorEq,WLb,Nat.reduceAdd,true_and,T22,T191,cok222,cok223,Tryz.results221]|simp (disch:=first|omega|(simp only [LN_];omega)) only [wrap_id,getS]|(with_reducible first|refine andA (hb:=?_)|refine y_load (hK:=?_)|refine cD (front ?_ ?_)|refine cD (back ?_ ?_))|((with_reducible first|refine grd_cases (fun h=>?_) (fun h=>?_)|refine condC_split (fun h=>?_) (fun h=>?_))<;>(try simp only [h])<;>(try simp only [NR_,NRb] at h))|omega)
 ·
  rw [drop_getDL (by omega),trims] at h2
  unfold trimAt at h2
  rw [if_pos (by omega),if_pos (by omega)] at h2
  refine callYD_iter [.obj b [SSI o l]] (leL_one le_rfl) h2 (fun σ3 h=>?_) (fun σ3 h=>?_) (fun c σ3 h=>?_)
  ·repeat' (first|simp only [WL,intF,WM,ne_eq,reduceCtorEq,not_false_eq_true,Bool.not_true]|simp (disch:=first|omega|(simp only [LN_];omega)) only [wrap_id])
   exact ⟨(k+1,σ3),St_le_same leA id,⟨by dsimp only;omega,h⟩,by dsimp only;omega⟩
  ·repeat' (first|simp only [WL,WM,Bool.not_false,true_and,Tryz.results221])
   exact leafL (sub_cons sub_rfl) (leT_eq rfl) h
  ·repeat' (first|simp only [WL,WM,true_and])
   exact leafP (sub_cons sub_rfl) rfl h
 ·
  rw [drop_getDL (by omega),trims] at h2
  unfold trimAt at h2
  rw [if_neg (by omega),if_pos (by omega)] at h2
  refine callYD_iter [.obj b [SSI o l]] (leL_one le_rfl) h2 (fun σ3 h=>?_) (fun σ3 h=>?_) (fun c σ3 h=>?_)
  ·repeat' (first|simp only [WL,intF,WM,ne_eq,reduceCtorEq,not_false_eq_true,Bool.not_true]|simp (disch:=first|omega|(simp only [LN_];omega)) only [wrap_id])
   exact ⟨(k+1,σ3),St_le_same leA id,⟨by dsimp only;omega,h⟩,by dsimp only;omega⟩
  ·repeat' (first|simp only [WL,WM,Bool.not_false,true_and,Tryz.results221])
   exact leafL (sub_cons sub_rfl) (leT_eq rfl) h
  ·repeat' (first|simp only [WL,WM,true_and])
   exact leafP (sub_cons sub_rfl) rfl h
 ·
  rw [drop_getDL (by omega),trims] at h2
  unfold trimAt at h2
  rw [if_pos (by omega),if_neg (by omega)] at h2
  refine callYD_iter [.obj b [SSI o l]] (leL_one le_rfl) h2 (fun σ3 h=>?_) (fun σ3 h=>?_) (fun c σ3 h=>?_)
  ·repeat' (first|simp only [WL,intF,WM,ne_eq,reduceCtorEq,not_false_eq_true,Bool.not_true]|simp (disch:=first|omega|(simp only [LN_];omega)) only [wrap_id])
   exact ⟨(k+1,σ3),St_le_same leA id,⟨by dsimp only;omega,h⟩,by dsimp only;omega⟩
  ·repeat' (first|simp only [WL,WM,Bool.not_false,true_and,Tryz.results221])
   exact leafL (sub_cons sub_rfl) (leT_eq rfl) h
  ·repeat' (first|simp only [WL,WM,true_and])
   exact leafP (sub_cons sub_rfl) rfl h
 ·
  rw [drop_getDL (by omega),trims] at h2
  unfold trimAt at h2
  rw [if_neg (by omega),if_neg (by omega)] at h2
  refine callYD_iter [.obj b [SSI o l]] (leL_one le_rfl) h2 (fun σ3 h=>?_) (fun σ3 h=>?_) (fun c σ3 h=>?_)
  ·repeat' (first|simp only [WL,intF,WM,ne_eq,reduceCtorEq,not_false_eq_true,Bool.not_true]|simp (disch:=first|omega|(simp only [LN_];omega)) only [wrap_id])
   exact ⟨(k+1,σ3),St_le_same leA id,⟨by dsimp only;omega,h⟩,by dsimp only;omega⟩
  ·repeat' (first|simp only [WL,WM,Bool.not_false,true_and,Tryz.results221])
   exact leafL (sub_cons sub_rfl) (leT_eq rfl) h
  ·repeat' (first|simp only [WL,WM,true_and])
   exact leafP (sub_cons sub_rfl) rfl h
 ·rw [List.drop_eq_nil_of_le (by omega)] at h2
  exact leafL (sub_cons sub_rfl) (leT_eq rfl) h2
theorem flow {l:List (List Int)} (hl:tot l≤1000000000) (hK:K (.ret (SI none (flowF l))) σ):ACallF κ Tryz.prog 189 [SSI o l] σ K:=by
 have hlen:=tot_len l
 refine ACallF.dropL (ACallF_intro Tryz.func189 rfl ?_)
 simp only [Tryz.ntmps189]
 repeat' (first|simp only [WL,WM,Nat.reduceAdd,Nat.reduceSub,true_and,cok213]|(with_reducible first|refine y_load (hK:=?_)|refine y_store (hK:=?_)|refine y_box (hK:=fun b=>?_)|refine y_new (hK:=fun b=>?_)|refine cD (trimmed (fun btr=>?_))))
 rename_i bl bo bi
 refine range_by 221 [] [.pointer (some ⟨btr,0,none⟩)] ((trims l.length 0 l).map fun t=>[SI none t]) [.obj btr [SSI o l]] (.obj b [I 0]::.obj bi [I 0]::.obj bo [SI (some none) []]::.obj bl [SSI o l]::.tip none::σ)
  (fun xs τ=>∃ (out:List Int) (e i:Nat) (tk:Option (Nat × Nat)),xs=((trims l.length i (l.drop i)).map fun t=>[SI none t])∧flowF l=out++flowGo (decide (i=0)) e (trims l.length i (l.drop i))∧i≤l.length∧e≤i∧(i=0→e=0) ∧
   τ=.obj b [I e]::.obj bi [I i]::.obj bo [SI (some tk) out]::.obj bl [SSI o l]::.tip tk::σ)
  rfl cok221 ?_ (fun L K σ' h=>trimmedIt (by omega) h) ⟨[],0,0,none,by simp,by simp [flowF],Nat.zero_le _,Nat.le_refl _,fun _=>rfl,rfl⟩ ?_ ?_
 ·exact ResW.cons _ (ResW.cons _ (ResW.cons _ ((ResW.void.cons _ |>.cons _).trans (ResW.obj (leL_one (le_nil (by decide)))))))
 ·rintro τ ⟨out,e,i,tk,h1,h2,h3,h4,h5,rfl⟩
  have hn:l.drop i=[]:=by
   cases hd:l.drop i with
   | nil=>rfl
   | cons=>rw [hd] at h1;simp [trims] at h1
  rw [hn] at h2
  simp only [trims,flowGo,List.append_nil] at h2
  repeat' (first|simp only [WL,WM,true_and,Tryz.results189]|with_reducible refine y_load (hK:=?_))
  exact leafL (sub_cons (sub_cons (sub_cons (sub_cons (sub_cons sub_rfl))))) (leT_le (by rw [h2];exact le_ro)) hK
 ·rintro d L Rr Rb hR x xs τ ⟨out,e,i,tk,h1,h2,h3,h4,h5,rfl⟩
  have hi:i < l.length:=by
   rcases Nat.lt_or_ge i l.length with h|h
   ·exact h
   ·rw [List.drop_eq_nil_of_le h] at h1;simp [trims] at h1
  rw [drop_getDL hi,trims] at h1 h2
  simp only [List.map_cons,List.cons.injEq] at h1
  obtain ⟨rfl,rfl⟩:=h1
  generalize hu:trimAt l.length i (l.getD i [])=u at *
  have hlast:trims l.length (i+1) (l.drop (i+1))=[]↔i+1=l.length:=by
   constructor
   ·intro h
    have:=List.drop_eq_nil_iff.1 (trims_nil h)
    omega
   ·intro h
    rw [List.drop_eq_nil_of_le (by omega)];rfl
  refine ⟨rfl, ?_⟩
  repeat' (first|simp only [WL,WM])
  refine rngA_mk ?_
  have ho:=flow_out h2
  have hb:=between_len e
  rcases Nat.eq_zero_or_pos i with rfl|hi0
  ·obtain rfl:e=0:=h5 rfl
   simp only [decide_true,flowGo_first] at h2 ho
   simp only [List.length_append] at ho
   repeat' (first|simp only [WL,intF,WM,reduceCtorEq,WLb,Nat.reduceAdd,Bool.not_true,true_and,reduceIte,Bool.false_eq_true,T22,T191,cok162]|simp (disch:=first|omega|(simp only [LN_];omega)) only [wrap_id]|(with_reducible first|refine y_load (hK:=?_)|refine y_store (hK:=?_)|refine y_app (hlen:=?_) (hmax:=?_) (hK:=fun tk=>?_)|refine cQ (between1 (by omega) isR_mk) ?_)|((with_reducible refine AW_drawM (id:=6) 3 mixed ?_ ?_);kernel_rfl)|(with_reducible refine dmQ_mk ?_)|((with_reducible first|refine grd_cases (fun h=>?_) (fun h=>?_)|refine condC_split (fun h=>?_) (fun h=>?_))<;>(try simp only [h])<;>(try simp only [NR_,NRb] at h))|omega|(refine maxLen_ok ?_;(first|omega|(simp only [LN_];omega))))
   exact ⟨_,resS_rfl,out++u,0,1,tk,rfl,by rw [h2];simp,by omega,by omega,by omega,by simp⟩
  ·simp only [decide_eq_false (show ¬i=0 by omega)] at h2 ho
   by_cases hc:u=[]∧trims l.length (i+1) (l.drop (i+1))≠[]
   ·obtain ⟨rfl,hc⟩:=hc
    rw [flowGo_empty rfl hc] at h2
    have hne:¬i+1=l.length:=fun h=>hc (hlast.2 h)
    repeat' (first|simp only [WL,intF,WM,reduceCtorEq,WLb,Nat.reduceAdd,Bool.not_true,true_and,reduceIte,Bool.false_eq_true,T22,T191,cok162]|simp (disch:=first|omega|(simp only [LN_];omega)) only [wrap_id]|(with_reducible first|refine y_load (hK:=?_)|refine y_store (hK:=?_)|refine y_app (hlen:=?_) (hmax:=?_) (hK:=fun tk=>?_)|refine cQ (between1 (by omega) isR_mk) ?_)|((with_reducible refine AW_drawM (id:=6) 3 mixed ?_ ?_);kernel_rfl)|(with_reducible refine dmQ_mk ?_)|((with_reducible first|refine grd_cases (fun h=>?_) (fun h=>?_)|refine condC_split (fun h=>?_) (fun h=>?_))<;>(try simp only [h])<;>(try simp only [NR_,NRb] at h))|omega)
    exact ⟨_,resS_rfl,out,e+1,i+1,tk,rfl,by rw [h2];simp,by omega,by omega,by omega,by simp⟩
   ·rw [flowGo_cons hc] at h2 ho
    simp only [List.length_append] at ho
    have hne:u.length=0→i+1=l.length:=fun h=>by
     refine Classical.byContradiction fun hh=>hc ⟨List.eq_nil_of_length_eq_zero h,fun hh2=>hh (hlast.1 hh2)⟩
    repeat' (first|simp only [WL,intF,WM,reduceCtorEq,WLb,Nat.reduceAdd,Bool.not_true,true_and,reduceIte,Bool.false_eq_true,T22,T191,cok162]|simp (disch:=first|omega|(simp only [LN_];omega)) only [wrap_id]|(with_reducible first|refine y_load (hK:=?_)|refine y_store (hK:=?_)|refine y_app (hlen:=?_) (hmax:=?_) (hK:=fun tk=>?_)|refine cQ (between1 (by omega) isR_mk) ?_)|((with_reducible refine AW_drawM (id:=6) 3 mixed ?_ ?_);kernel_rfl)|(with_reducible refine dmQ_mk ?_)|((with_reducible first|refine grd_cases (fun h=>?_) (fun h=>?_)|refine condC_split (fun h=>?_) (fun h=>?_))<;>(try simp only [h])<;>(try simp only [NR_,NRb] at h))|omega|(simp only [LN_];omega)|(refine maxLen_ok ?_;(first|omega|(simp only [LN_];omega))))
    all_goals exact ⟨_,resS_rfl,out++between e++u,0,i+1,tk,rfl,by rw [h2];simp,by omega,by omega,by omega,by simp⟩
end Go.Proofs.YthkabaiamcjdbaaGreat
/-
 Plain facts for chapter 6's laws on texts that are built. No program in sight.
-/

namespace Go.Abs
/-! ### Words -/
theorem flow_go {g:Nat}{w:List Int}{m:List (List Int)} (hw:w≠[]):∀ e,flowGo false e (List.replicate g []++w::m)=between (e+g)++w++flowGo false 0 m:=by
 induction g with
 | zero =>
  intro e
  rw [List.replicate_zero,List.nil_append,flowGo_cons (by simp [hw])];rfl
 | succ g ih =>
  intro e
  rw [List.replicate_succ,List.cons_append,flowGo_empty rfl (by simp),ih,show e+1+g=e+(g+1) by omega]
theorem blk_go {g:Nat}{w:List Int}{m:List (List Int)} (hw:w≠[]) (s:Option (List Int)):∀ e,blkGo s e (List.replicate g []++w::m)=sep s (e+g) w++w++blkGo (some w) 0 m:=by
 induction g with
 | zero=>intro e;rw [List.replicate_zero,List.nil_append,blkGo_cons hw];rfl
 | succ g ih=>intro e;rw [List.replicate_succ,List.cons_append,blkGo_empty rfl,ih,show e+1+g=e+(g+1) by omega]
theorem fullN_full {l:List (List Int)}{w:List Int} (hw:w≠[]):fullN (l++[w])=(l++[w]).length:=by
 unfold fullN
 rw [List.reverse_append,List.reverse_singleton,List.singleton_append,List.dropWhile_cons,if_neg (by simp [hw])]
 simp
theorem trims_snoc (n:Nat):∀ (i:Nat) (l:List (List Int)) (x:List Int),trims n i (l++[x])=trims n i l++[trimAt n (i+l.length) x]
 | i,[],x=>by simp [trims]
 | i,t::r,x=>by
  simp only [trims,List.cons_append,trims_snoc n (i+1) r x,List.length_cons]
  rw [show i+1+r.length=i+(r.length+1) by omega]
theorem trimAt_nil (n i:Nat):trimAt n i []=[]:=by unfold trimAt backI;simp
theorem trims_rep (n:Nat) (i:Nat) (l:List (List Int)) (g:Nat):trims n i (l++List.replicate g [])=trims n i l++List.replicate g []:=by
 induction g with
 | zero=>simp
 | succ g ih=>rw [List.replicate_succ',← List.append_assoc,trims_snoc,ih,trimAt_nil,← List.append_assoc]
theorem backI_snoc {l:List Int}{c:Int} (h:blankI c=true):backI (l++[c])=backI l:=by
 unfold backI;rw [List.reverse_append,List.reverse_singleton,List.singleton_append,List.dropWhile_cons,if_pos h]
theorem backI_keep {l:List Int}{c:Int} (h:blankI c=false):backI (l++[c])=l++[c]:=by
 unfold backI;rw [List.reverse_append,List.reverse_singleton,List.singleton_append,List.dropWhile_cons,if_neg (by rw [h];decide)];simp
def padW (a b:Bool) (c:Int):List Int:=(if a then [32,9] else [])++[c]++(if b then [32] else [])
theorem trimAt_pad {n p:Nat}{a b:Bool}{c:Int} (hc:blankI c=false) (ha:a=true→0 < p) (hb:b=true→p+1 < n):trimAt n p (padW a b c)=[c]:=by
 have h32:blankI 32=true:=by decide
 have h9:blankI 9=true:=by decide
 have e1:backI [c,32]=[c]:=by
  rw [show [c,32]=([]++[c])++[32] by rfl,backI_snoc h32,backI_keep hc];rfl
 have e2:backI [c]=[c]:=backI_keep (l:=[]) hc
 unfold trimAt padW
 cases a<;>cases b<;>simp only [Bool.false_eq_true,if_false,if_true,List.nil_append,List.append_nil,List.cons_append]<;>split<;>rename_i h1<;>split<;>rename_i h2 <;>
  simp_all [List.dropWhile_cons]
/-! ### Lines that begin with a blank -/
def spW (i:Nat):List Int:=if i % 2=1 then [32,98] else [97]
theorem spW_ne (i:Nat):spW i≠[]:=by unfold spW;split<;>simp
theorem spW_sp (i:Nat):spacedI (spW i)=decide (i % 2=1):=by
 unfold spW
 by_cases h:i % 2=1
 ·rw [if_pos h,decide_eq_true h];rfl
 ·rw [if_neg h,decide_eq_false h];rfl
theorem spW_len (i:Nat):(spW i).length≤2:=by unfold spW;split<;>simp
structure SpP (i:Nat) (ls:List (List Int)) (want:List Int):Prop where
 hb:∀ m,blkGo none 0 (ls++m)=want++blkGo (if i=0 then none else some (spW (i - 1))) 0 m
 h0:i=0→ls=[]∧want=[]
 h1:0 < i→∃ r,ls=r++[spW (i - 1)]
 hl:ls.length≤4 * i
 hw:want.length≤6 * i
 hm:∀ t∈ls,t.length≤2
theorem SpP.zero:SpP 0 [] []:=⟨fun m=>by simp,fun _=>⟨rfl,rfl⟩,fun h=>by omega,by simp,by simp,fun t h=>by simp at h⟩
theorem SpP.first {ls:List (List Int)}{want:List Int} (h:SpP 0 ls want):SpP 1 (ls++[spW 0]) (want++spW 0):=by
 obtain ⟨rfl,rfl⟩:=h.h0 rfl
 refine ⟨fun m=>?_,fun h=>by omega,fun _=>⟨[],rfl⟩,by simp,by have:=spW_len 0;simp;omega,fun t h=>?_⟩
 ·rw [List.nil_append,List.singleton_append,blkGo_cons (spW_ne 0)];rfl
 ·simp at h;subst h;exact spW_len 0
theorem SpP.step {i g:Nat}{ls:List (List Int)}{want:List Int} (h:SpP i ls want) (hi:0 < i) (hg:g≤3) :
  SpP (i+1) (ls++List.replicate g []++[spW i]) (want++[10]++List.replicate g 10++spW i):=by
 have h2:=spW_len i
 refine ⟨fun m=>?_,fun h=>by omega,fun _=>⟨_,rfl⟩, ?_, ?_,fun t ht=>?_⟩
 ·rw [List.append_assoc,List.append_assoc,h.hb,if_neg (by omega),if_neg (by omega),List.singleton_append,blk_go (spW_ne i)]
  have:(spacedI (spW (i - 1)) || spacedI (spW i))=true:=by
   rw [spW_sp,spW_sp]
   by_cases h3:i % 2=1
   ·simp [h3]
   ·simp;omega
  simp only [sep,this,if_true,Nat.zero_add]
  rw [show between (g+1)=[10]++List.replicate g 10 by unfold between;rw [if_neg (by omega),List.replicate_succ];rfl]
  simp
 ·have:=h.hl;simp;omega
 ·have:=h.hw;simp;omega
 ·simp only [List.mem_append,List.mem_singleton] at ht
  rcases ht with (ht|ht)|rfl
  ·exact h.hm t ht
  ·rw [List.eq_of_mem_replicate ht];simp
  ·exact h2
theorem SpP.tot {i:Nat}{ls:List (List Int)}{want:List Int} (h:SpP i ls want) (hi:i≤1000):tot ls≤20000:=by
 have:∀ l:List (List Int),(∀ t∈l,t.length≤2)→Go.Abs.tot l≤3 * l.length:=by
  intro l
  induction l with
  | nil=>intro _;simp [Go.Abs.tot]
  | cons t r ih =>
   intro h
   have h1:=ih (fun x hx=>h x (by simp [hx]))
   have h2:=h t (by simp)
   simp only [Go.Abs.tot,List.map_cons,List.sum_cons,List.length_cons] at *
   omega
 have h1:=this ls h.hm
 have h2:=h.hl
 omega
theorem SpP.fin {i:Nat}{ls:List (List Int)}{want:List Int} (h:SpP i ls want) (hi:0 < i):blkF ls 1=want:=by
 obtain ⟨r,rfl⟩:=h.h1 hi
 have h2:=h.hb []
 unfold blkF endsC
 rw [fullN_full (spW_ne _),List.take_length,if_neg (by decide),if_pos (.inl rfl),List.append_nil]
 rw [List.append_nil] at h2
 rw [h2]
 simp [blkGo]
/-! ### Words -/
structure WdP (n i:Nat) (b:Bool) (ls bs:List (List Int)) (want:List Int):Prop where
 hf:∀ m,0 < i→flowGo true 0 (bs++m)=want++flowGo false 0 m
 hb:∀ m,0 < i→∃ w,spacedI w=false∧blkGo none 0 (bs++m)=want++blkGo (some w) 0 m
 ht:∀ k,(ls.length < k∨(ls.length=k∧i=n))→trims k 0 ls=bs
 h0:i=0→ls=[]∧bs=[]∧want=[]
 h1:0 < i→∃ r w,bs=r++[w]∧w≠[]
 he:ls.length=bs.length
 hl:ls.length≤4 * i
 hw:want.length≤5 * i
 hm:∀ t∈ls,t.length≤4
 hm2:∀ t∈bs,t.length≤4
theorem WdP.zero (n:Nat) (b:Bool):WdP n 0 b [] [] [] :=
 ⟨fun m h=>by omega,fun m h=>by omega,fun k h=>rfl,fun _=>⟨rfl,rfl,rfl⟩,fun h=>by omega,rfl,by simp,by simp,fun t h=>by simp at h,fun t h=>by simp at h⟩
theorem padW_len (a b:Bool) (c:Int):(padW a b c).length≤4:=by unfold padW;cases a<;>cases b<;>simp
theorem sp_one {c:Int} (hc:blankI c=false):spacedI [c]=false:=by unfold spacedI;simp [hc]
theorem WdP.first {n:Nat}{b:Bool}{ls bs:List (List Int)}{want:List Int}{c:Int} (h:WdP n 0 b ls bs want) (hc:blankI c=false) :
  WdP n 1 b (ls++[padW (b && false) (b && decide (1 < n)) c]) (bs++[[c]]) (want++[c]):=by
 obtain ⟨rfl,rfl,rfl⟩:=h.h0 rfl
 refine ⟨fun m _=>?_,fun m _=>⟨[c],sp_one hc, ?_⟩,fun k hk=>?_,fun h=>by omega,fun _=>⟨[],[c],rfl,by simp⟩,rfl,by simp,by simp,fun t h=>?_,fun t h=>?_⟩
 ·rw [List.nil_append,List.singleton_append,flowGo_first];rfl
 ·rw [List.nil_append,List.singleton_append,blkGo_cons (by simp)];rfl
 ·simp only [List.nil_append,trims]
  rw [trimAt_pad hc (by simp) (fun hb=>?_)]
  simp only [Bool.and_eq_true,decide_eq_true_eq] at hb
  rcases hk with hk|⟨_,hk⟩
  ·simpa using hk
  ·omega
 ·simp at h;subst h;exact padW_len ..
 ·simp at h;subst h;simp
theorem WdP.step {n i g:Nat}{b:Bool}{ls bs:List (List Int)}{want:List Int}{c:Int} (h:WdP n i b ls bs want) (hc:blankI c=false) (hi:0 < i) (hin:i < n) (hg:g≤3) :
  WdP n (i+1) b (ls++List.replicate g []++[padW b (b && decide (i+1 < n)) c]) (bs++List.replicate g []++[[c]]) (want++between g++[c]):=by
 have hbt:=between_len g
 refine ⟨fun m _=>?_,fun m _=>⟨[c],sp_one hc, ?_⟩,fun k hk=>?_,fun h=>by omega,fun _=>⟨_,[c],rfl,by simp⟩, ?_, ?_, ?_,fun t ht=>?_,fun t ht=>?_⟩
 ·rw [List.append_assoc,List.append_assoc,h.hf _ hi,List.singleton_append,flow_go (by simp)]
  simp
 ·obtain ⟨w,hw,hb⟩:=h.hb (List.replicate g []++([[c]]++m)) hi
  rw [List.append_assoc,List.append_assoc,hb,List.singleton_append,blk_go (by simp)]
  simp only [sep,hw,sp_one hc,Bool.or_self,Bool.false_eq_true,if_false,Nat.zero_add]
  simp
 ·have hk2:ls.length+g+1 < k∨(ls.length+g+1=k∧i+1=n):=by
   simp only [List.length_append,List.length_replicate,List.length_singleton] at hk
   exact hk
  rw [trims_snoc,trims_rep,h.ht k (.inl (by omega)),trimAt_pad hc]
  ·intro _
   simp only [List.length_append,List.length_replicate]
   have:ls≠[]:=fun e=>by
    have:=h.he;obtain ⟨r,w,hr,_⟩:=h.h1 hi
    rw [e,hr] at this;simp at this
   have:=List.length_pos_iff.2 this
   omega
  ·intro hb
   simp only [Bool.and_eq_true,decide_eq_true_eq] at hb
   simp only [List.length_append,List.length_replicate]
   omega
 ·have:=h.he;simp;omega
 ·have:=h.hl;simp;omega
 ·have:=h.hw;simp;omega
 ·simp only [List.mem_append,List.mem_singleton] at ht
  rcases ht with (ht|ht)|rfl
  ·exact h.hm t ht
  ·rw [List.eq_of_mem_replicate ht];simp
  ·exact padW_len ..
 ·simp only [List.mem_append,List.mem_singleton] at ht
  rcases ht with (ht|ht)|rfl
  ·exact h.hm2 t ht
  ·rw [List.eq_of_mem_replicate ht];simp
  ·simp
theorem WdP.fin {n i:Nat}{b:Bool}{ls bs:List (List Int)}{want:List Int} (h:WdP n i b ls bs want) (hi:0 < i) (hn:i=n) :
  flowF ls=want∧blkF bs 1=want∧blkF bs 0=want++[10]:=by
 obtain ⟨r,w,hr,hw⟩:=h.h1 hi
 have h2:=h.hf [] hi
 obtain ⟨u,_,h3⟩:=h.hb [] hi
 have hfu:fullN bs=bs.length:=by rw [hr];exact fullN_full hw
 have hpos:0 < bs.length:=by rw [hr];simp
 rw [List.append_nil] at h2 h3
 refine ⟨?_, ?_, ?_⟩
 ·unfold flowF
  rw [h.ht _ (.inr ⟨rfl,hn⟩),h2];simp [flowGo]
 ·unfold blkF endsC
  rw [hfu,List.take_length,if_neg (by decide),if_pos (.inl rfl),h3];simp [blkGo]
 ·unfold blkF endsC
  rw [hfu,List.take_length,if_neg (by decide),if_neg (by omega),h3];simp [blkGo]
end Go.Abs
/-
 Plain specifications for chapter 10: texts of whole lines. No program in sight.
-/



namespace Go.Abs
/-! ### Heads -/
def signsGo (ch ind:Int):List Int→Int × Int × List Int
 | []=>(ch,ind,[])
 | c::r=>if 49≤c∧c≤57∧ind=0 then signsGo ch (c - 48) r else if c=45∧ch=0 then signsGo 1 ind r else if c=43∧ch=0 then signsGo 2 ind r else (ch,ind,c::r)
abbrev HD:=Bool × Int × Int
def headI (l:List Int):HD × Int × Int :=
 if 0 < l.length∧(l.getD 0 0=124∨l.getD 0 0=62) then
  if (signsGo 0 0 (l.drop 1)).2.2.dropWhile blankI≠[]∧(((signsGo 0 0 (l.drop 1)).2.2.dropWhile blankI).length=(signsGo 0 0 (l.drop 1)).2.2.length∨¬((signsGo 0 0 (l.drop 1)).2.2.dropWhile blankI).getD 0 0=35) then ((false,0,0),0,2)
  else ((l.getD 0 0 == 62,(signsGo 0 0 (l.drop 1)).1,(signsGo 0 0 (l.drop 1)).2.1),(l.length:Nat),0)
 else ((false,0,0),0,2)
theorem headI_none {l:List Int} (h:¬(0 < l.length∧(l.getD 0 0=124∨l.getD 0 0=62))):headI l=((false,0,0),0,2):=by unfold headI;rw [if_neg h]
theorem headI_at {l:List Int}{ch ind:Int}{i j:Nat} (h:0 < l.length) (h1:l.getD 0 0=124∨l.getD 0 0=62) (hs:signsGo 0 0 (l.drop 1)=(ch,ind,l.drop i)) (hi:i≤l.length) (hij:i≤j) (hj:j≤l.length)
  (hd:(l.drop i).dropWhile blankI=l.drop j):headI l=(if j < l.length∧(j=i∨¬l.getD j 0=35) then ((false,0,0),0,2) else ((l.getD 0 0 == 62,ch,ind),(l.length:Nat),0):HD × Int × Int):=by
 unfold headI
 rw [if_pos ⟨h,h1⟩,hs]
 simp only [hd]
 have e1:(l.drop j≠[])=(j < l.length):=by simp
 have e2:((l.drop j).length=(l.drop i).length)=(l.length - j=l.length - i):=by simp
 by_cases hjl:j < l.length
 ·have e3:(l.drop j).getD 0 0=l.getD j 0:=by rw [drop_getD hjl];rfl
  have e4:(l.length - j=l.length - i)=(j=i):=by apply propext;omega
  simp only [e1,e2,e3,e4]
 ·simp only [e1,hjl,false_and,if_false]
theorem signs_num {ch ind:Int}{l:List Int}{i:Nat} (h:i < l.length) (h1:49≤l.getD i 0) (h2:l.getD i 0≤57) (h3:ind=0):signsGo ch ind (l.drop i)=signsGo ch (l.getD i 0 - 48) (l.drop (i+1)):=by
 rw [drop_getD h];simp only [signsGo];rw [if_pos ⟨h1,h2,h3⟩]
theorem signs_min {ch ind:Int}{l:List Int}{i:Nat} (h:i < l.length) (h1:l.getD i 0=45) (h2:ch=0):signsGo ch ind (l.drop i)=signsGo 1 ind (l.drop (i+1)):=by
 rw [drop_getD h];simp only [signsGo];rw [if_neg (by omega),if_pos ⟨h1,h2⟩]
theorem signs_plus {ch ind:Int}{l:List Int}{i:Nat} (h:i < l.length) (h1:l.getD i 0=43) (h2:ch=0):signsGo ch ind (l.drop i)=signsGo 2 ind (l.drop (i+1)):=by
 rw [drop_getD h];simp only [signsGo];rw [if_neg (by omega),if_neg (by omega),if_pos ⟨h1,h2⟩]
theorem signs_stop {ch ind:Int}{l:List Int}{i:Nat} (h:i < l.length) (h1:¬(49≤l.getD i 0∧l.getD i 0≤57∧ind=0)) (h2:¬(l.getD i 0=45∧ch=0)) (h3:¬(l.getD i 0=43∧ch=0)):signsGo ch ind (l.drop i)=(ch,ind,l.drop i):=by
 rw [drop_getD h];simp only [signsGo];rw [if_neg h1,if_neg h2,if_neg h3]
theorem signs_end {ch ind:Int}{l:List Int}{i:Nat} (h:l.length≤i):signsGo ch ind (l.drop i)=(ch,ind,l.drop i):=by rw [List.drop_eq_nil_of_le h];rfl
theorem blank_at {l:List Int}{j:Nat} (h:j < l.length) (hb:blankI (l.getD j 0)=true):(l.drop j).dropWhile blankI=(l.drop (j+1)).dropWhile blankI:=by
 rw [drop_getD h,List.dropWhile_cons,if_pos hb]
theorem blank_stop {l:List Int}{j:Nat} (h:j < l.length) (hb:blankI (l.getD j 0)=false):(l.drop j).dropWhile blankI=l.drop j:=by
 conv=>lhs;rw [drop_getD h,List.dropWhile_cons,if_neg (by rw [hb];decide)]
 rw [drop_getD h]
/-! ### Where lines stand -/
abbrev Ln:=Int × List Int
def scanI (w:Int):List Ln→Int × Option Int
 | []=>(w,none)
 | x::r=>if x.2=[] then scanI (max w x.1) r else (w,if markerI x.1 x.2=0 then some x.1 else none)
def indI (l:List Ln) (ind n:Int):Int × Int :=
 if 0 < ind then (max 0 n+min ind 1099511627776,0)
 else
  if (scanI 0 l).2.getD n≤n then (max (scanI 0 l).1 (n+1),0)
  else if (scanI 0 l).2.getD n < (scanI 0 l).1 then (0,7)
  else ((scanI 0 l).2.getD n,0)
def overB (ind:Int) (x:Ln):Bool:=decide ((x.2≠[]∧x.1 < ind)∨markerI x.1 x.2≠0)
def contB (ind:Int) (x:Ln):List Int:=List.replicate (x.1 - ind).toNat 32++x.2
def rowsB (ind:Int) (l:List Ln):List (List Int):=(l.takeWhile fun x=>!overB ind x).map (contB ind)
def blockB (l:List Ln) (h:HD) (n:Int):ByteArray × Int × Int :=
 if ¬(indI l h.2.2 (min (max (-1) n) 1099511627776)).2=0 then (ByteArray.empty,0,(indI l h.2.2 (min (max (-1) n) 1099511627776)).2)
 else (textI (if h.1 then blkF (rowsB (indI l h.2.2 (min (max (-1) n) 1099511627776)).1 l) h.2.1 else litF (rowsB (indI l h.2.2 (min (max (-1) n) 1099511627776)).1 l) h.2.1),((rowsB (indI l h.2.2 (min (max (-1) n) 1099511627776)).1 l).length:Nat),0)
theorem drop_getLn {l:List Ln}{k:Nat} (h:k < l.length):l.drop k=l.getD k (0,[])::l.drop (k+1):=by
 rw [List.drop_eq_getElem_cons h]
 simp [List.getD_eq_getElem?_getD,h]
theorem scan_void {l:List Ln}{w:Int}{k:Nat} (h:k < l.length) (h1:(l.getD k (0,[])).2=[]):scanI w (l.drop k)=scanI (max w (l.getD k (0,[])).1) (l.drop (k+1)):=by
 rw [drop_getLn h];simp only [scanI];rw [if_pos h1]
theorem scan_mark {l:List Ln}{w:Int}{k:Nat} (h:k < l.length) (h1:¬(l.getD k (0,[])).2=[]) (h2:¬markerI (l.getD k (0,[])).1 (l.getD k (0,[])).2=0):scanI w (l.drop k)=(w,none):=by
 rw [drop_getLn h];simp only [scanI];rw [if_neg h1,if_neg h2]
theorem scan_text {l:List Ln}{w:Int}{k:Nat} (h:k < l.length) (h1:¬(l.getD k (0,[])).2=[]) (h2:markerI (l.getD k (0,[])).1 (l.getD k (0,[])).2=0):scanI w (l.drop k)=(w,some (l.getD k (0,[])).1):=by
 rw [drop_getLn h];simp only [scanI];rw [if_neg h1,if_pos h2]
theorem scan_end {l:List Ln}{w:Int}{k:Nat} (h:l.length≤k):scanI w (l.drop k)=(w,none):=by rw [List.drop_eq_nil_of_le h];rfl
theorem rows_over {l:List Ln}{d:Int}{k:Nat} (h:k < l.length) (h1:overB d (l.getD k (0,[]))=true):rowsB d (l.drop k)=[]:=by
 unfold rowsB
 rw [drop_getLn h,List.takeWhile_cons,if_neg (by rw [h1];decide)];rfl
theorem rows_take {l:List Ln}{d:Int}{k:Nat} (h:k < l.length) (h1:overB d (l.getD k (0,[]))=false):rowsB d (l.drop k)=contB d (l.getD k (0,[]))::rowsB d (l.drop (k+1)):=by
 unfold rowsB
 rw [drop_getLn h,List.takeWhile_cons,if_pos (by rw [h1];rfl)];rfl
theorem rows_end {l:List Ln}{d:Int}{k:Nat} (h:l.length≤k):rowsB d (l.drop k)=[]:=by rw [List.drop_eq_nil_of_le h];rfl
theorem over_no {d:Int}{x:Ln} (h:x.2.length=0∨d≤x.1) (h2:markerI x.1 x.2=0):overB d x=false:=by
 unfold overB
 refine decide_eq_false ?_
 rintro (⟨h3,h4⟩|h5)
 ·rcases h with h|h
  ·exact h3 (List.eq_nil_of_length_eq_zero h)
  ·omega
 ·exact h5 h2
end Go.Abs
/-
 Own layer,part D: regions that draw their order,where variables are made beside what is read.
-/

namespace Go.Abs
class Has (σ:outParam (List Res)) (σ':List Res):Prop where
 mem:∀ r,r∈σ→r∈σ'
theorem Has.refl {σ:List Res}:Has σ σ:=⟨fun _ h=>h⟩
theorem Has.cons {σ σ':List Res}{r:Res} (h:Has σ σ'):Has σ (r::σ'):=⟨fun x hx=>List.mem_cons_of_mem _ (h.mem x hx)⟩
theorem has_of {σ σ':List Res} (h:Has σ σ'):Has σ σ':=h
theorem Hold.has_at {σ σ':List Res}{b i:Nat}{cs:List AV} (hh:Has σ σ') (h:Hold σ b i cs):∃ j:Nat,σ'[j]? = some (.obj b cs):=List.mem_iff_getElem?.1 (hh.mem _ (List.mem_of_getElem? h.get))
instance (priority:=low) Hold.has {σ σ':List Res} {b i:Nat} {cs:List AV} [hh:Has σ σ'] [h:Hold σ b i cs]:Hold σ' b (Classical.choose (Hold.has_at hh h)) cs:=⟨Classical.choose_spec (Hold.has_at hh h)⟩
section
variable {κ:Ctx} {P:Program} {rd:Option Nat} {l:List Oper} {Q:Exit→St→Prop} {t:List AV} {σ:List Res} {fr:Bool} {df:List Deferred}
theorem AW_phH {id:Nat} (A0:List Nat) (c0:Option Nat) (r0:Ph) (hm:P.follows .mixedOrders=true) (hok:phOk l ((A0,c0)::r0)=true) (h:phE κ P l (Has σ) fr df Q A0 c0 r0 t σ):AW κ rd P (.region id l.toArray true) Q ⟨t,σ,fr,df⟩ :=
 AW_phE A0 c0 r0 (Has σ) Has.refl hm hok h
end
/-! ### Structs as interface values -/
theorem agg_raw_inv {g:Nat→Nat}{w:World}{l:List Value}{v:Value} (h:VR g w (.agg (l.map .raw)) v):v=.agg l.toArray:=by
 cases h with
 | agg vs hs hv =>
  congr 1
  rw [List.length_map] at hs
  apply Array.ext (by simpa using hs)
  intro i h1 h2
  have h3:i < l.length:=by omega
  have:=(hv i (.raw l[i]) (by simp [h3])).raw_eq
  rw [Array.getD_eq_getD_getElem?,Array.getElem?_eq_getElem h1] at this
  simpa using this
theorem act_iface_agg {κ:Ctx}{P:Program}{σ:List Res}{K:AV→List Res→Prop}{t:TypeId}{l:List Value}{fs:Array Field} (ht:P.underlying t=some (.struct fs)) (hK:K (.raw (.iface t (.agg l.toArray))) σ):AAct κ P (.makeIface t) [.agg (l.map .raw)] σ K:=by
 intro φ g w vs hR hvs
 obtain ⟨v,rfl,hu⟩:=one_vs hvs
 have hv:=agg_raw_inv hu
 subst hv
 refine ⟨.iface t (.agg l.toArray),w,g,_,σ, ?_,hR,GE.refl _ _,.raw _,hK⟩
 show (Instr.makeInterface t (.agg l.toArray)).run P w=_
 simp only [Instr.makeInterface,Sem.run_bind,run_underlying ht,Result.andThen_ok]
 rfl
class TStruct (P:Program) (t:TypeId):Prop where
 st:∃ fs,P.underlying t=some (.struct fs)
section
variable {κ:Ctx} {P:Program} {all rest:List Oper} {Q:Exit→St→Prop} {d:Option Tmp} {t:List AV} {σ:List Res} {fr:Bool} {df:List Deferred}
theorem y_iface1 {ty:TypeId}{v:Value} [h:TStruct P ty] (hK:goK κ false P all Q d rest ⟨t,σ,fr,df⟩ (.raw (.iface ty (.agg #[v]))) σ):actC κ false P all Q d rest ⟨t,σ,fr,df⟩ (.makeIface ty) [.agg [.raw v]] :=
 actC_mk (act_iface_agg (l:=[v]) h.st.choose_spec hK)
end
end Go.Abs
/-
 Walks: chapter 13,a job's places.
-/





namespace Go.Proofs.YthkabaiamcjdbaaGreat
open Go.Abs
variable {κ:Ctx} {σ:List Res} {K:Ret→List Res→Prop} {o o':Option (Option (Nat × Nat))}
abbrev PLA (p:Int × Int):AV:=.agg [I p.1,I p.2]
abbrev JP (b:Nat):AV:=.raw (.pointer (some ⟨b,0,none⟩))
abbrev JC (ls:List Ln) (n:Int) (bk:Bool) (d:Int) (x y:AV):List AV:=[SL none ls,I n,B bk,I d,x,y]
abbrev In64 (i:Int):Prop:=-9223372036854775808≤i∧i≤9223372036854775807
def Small (ls:List Ln):Prop:=ls.length≤2000∧∀ x∈ls,x.2.length≤2000∧0≤x.1∧x.1≤2000
theorem Small.at_ {ls:List Ln} (h:Small ls) {i:Nat} (hi:i < ls.length):(ls.getD i (0,[])).2.length≤2000∧0≤(ls.getD i (0,[])).1∧(ls.getD i (0,[])).1≤2000 :=
 h.2 _ (by rw [List.getD_eq_getElem?_getD,List.getElem?_eq_getElem hi];exact List.getElem_mem hi)
def restF (ls:List Ln) (p:Int × Int):List Int :=
 if p.1 < 0∨(ls.length:Int)≤p.1∨p.2 < 0 then [] else if p.2 < (ls.getD p.1.toNat (0,[])).1 then [32] else (ls.getD p.1.toNat (0,[])).2.drop (min (p.2 - max 0 (ls.getD p.1.toNat (0,[])).1) (ls.getD p.1.toNat (0,[])).2.length).toNat
theorem restF_out {ls:List Ln}{p:Int × Int} (h:p.1 < 0∨(ls.length:Int)≤p.1∨p.2 < 0):restF ls p=[]:=if_pos h
theorem restF_in {ls:List Ln}{p:Int × Int} (h1:¬p.1 < 0) (h2:¬(ls.length:Int)≤p.1) (h3:¬p.2 < 0):restF ls p=if p.2 < (ls.getD p.1.toNat (0,[])).1 then [32] else (ls.getD p.1.toNat (0,[])).2.drop (min (p.2 - max 0 (ls.getD p.1.toNat (0,[])).1) (ls.getD p.1.toNat (0,[])).2.length).toNat:=by
 unfold restF
 rw [if_neg (by omega)]
theorem jRest {b ix:Nat}{ls:List Ln}{n d:Int}{bk:Bool}{x y:AV} [hJ:Hold σ b ix (JC ls n bk d x y)] {p:Int × Int} (hs:Small ls) (hp:In64 p.1∧In64 p.2) (hK:K (.ret (SI none (restF ls p))) σ) :
  ACallF κ Tryz.prog 99 [JP b,PLA p] σ K:=by
 obtain ⟨i,k⟩:=p
 obtain ⟨⟨p1,p2⟩,p3,p4⟩:=hp
 dsimp only at *
 have hl:=hs.1
 have ha:=fun h=>hs.at_ (i:=i.toNat) h
 refine ACallF.dropL (ACallF_intro Tryz.func99 rfl ?_)
 simp only [Tryz.ntmps99]
 repeat' (first|simp only [WL,intF,WM,reduceCtorEq,WLb,Nat.reduceAdd,Nat.reduceSub,Nat.reduceEqDiff,Bool.not_false,true_and,reduceIte,Bool.false_eq_true,T3,T22,T31,T51,fR fl51_0,fR fl51_1,fR fl131_0,fR fl131_1,fR fl159_0,Tryz.results99]|simp (disch:=first|omega|(simp only [LN_];omega)) only [wrap_id,getL]|(with_reducible first|refine andA (hb:=?_)|refine y_load (hK:=?_)|refine y_storeA (hK:=?_)|refine y_box (hK:=fun b=>?_)|refine y_new (hK:=fun b=>?_)|refine y_bs (hK:=?_)|refine y_max ?_|refine y_min ?_)|((with_reducible refine AW_drawM (id:=1) 18 mixed ?_ ?_);kernel_rfl)|((with_reducible refine AW_phH (id:=3) [0,1,2,3,4,5,6,7] (some 8) [([],some 9),([],none)] mixed ?_ ?_);kernel_rfl)|((with_reducible apply phE_intro);intro σq hq;have hqi:=has_of hq;clear hq)|(with_reducible exact isT_mk)|((with_reducible apply phC_ops);rfl;rfl)|(with_reducible refine phQ_mk (by first|exact Has.refl|exact Has.cons Has.refl|exact Has.cons (Has.cons Has.refl)) ?_)|(with_reducible refine dmQ_mk ?_)|((with_reducible first|refine grd_cases (fun h=>?_) (fun h=>?_)|refine condC_split (fun h=>?_) (fun h=>?_))<;>(try simp only [h])<;>(try simp only [NR_,NRb] at h)))
 all_goals first
  | exact leafL (sub_cons sub_rfl) (leT_le (by rw [restF_out (by dsimp only;omega)];exact le_nilro (by decide))) hK
  | exact leafL (sub_cons (sub_cons sub_rfl)) (leT_eq (by rw [restF_in (by dsimp only;omega) (by dsimp only;omega) (by dsimp only;omega),if_pos (by assumption)];rfl)) hK
  | exact leafL (sub_cons (sub_cons sub_rfl)) (leT_eq (by rw [restF_in (by dsimp only;omega) (by dsimp only;omega) (by dsimp only;omega),if_neg (by dsimp only;omega)])) hK
theorem restF_len {ls:List Ln}{p:Int × Int} (hs:Small ls):(restF ls p).length≤2000:=by
 unfold restF
 split
 ·simp
 ·split
  ·simp
  ·have:=(hs.at_ (i:=p.1.toNat) (by omega)).1
   rw [List.length_drop]
   omega
theorem restF_some {ls:List Ln}{p:Int × Int} (hs:Small ls) (h:0 < (restF ls p).length):0≤p.1∧p.1 < ls.length∧0≤p.2∧p.2+(restF ls p).length≤4000:=by
 unfold restF at h ⊢
 split
 ·rename_i h0;rw [if_pos h0] at h;simp at h
 ·rename_i h0
  rw [if_neg h0] at h
  have ha:=hs.at_ (i:=p.1.toNat) (by omega)
  split
  ·simp;omega
  ·rename_i h1
   rw [if_neg h1] at h
   rw [List.length_drop] at h ⊢
   omega
def headF (l:List Int) (c:Int):Bool:=decide (0 < l.length) && (l.getD 0 0 == c)
def isF (ls:List Ln) (p:Int × Int) (c:Int):Bool:=headF (restF ls p) c
theorem jIs {b ix:Nat}{ls:List Ln}{n d:Int}{bk:Bool}{x y:AV} [hJ:Hold σ b ix (JC ls n bk d x y)] {p:Int × Int}{c:Int} (hs:Small ls) (hp:In64 p.1∧In64 p.2) (hK:K (.ret (B (isF ls p c))) σ) :
  ACallF κ Tryz.prog 181 [JP b,PLA p,I c] σ K:=by
 have hr:=restF_len (p:=p) hs
 unfold isF headF at hK
 refine ACallF.dropL (ACallF_intro Tryz.func181 rfl ?_)
 simp only [Tryz.ntmps181]
 repeat' (first|simp only [WL,intF,WM,Int.reduceToNat,reduceCtorEq,WLb,Nat.reduceAdd,Nat.reduceSub,Bool.not_true,true_and,reduceIte,Bool.false_eq_true,T3,T22,cok99,Tryz.results181]|simp (disch:=first|omega|(simp only [LN_];omega)) only [getI]|(with_reducible first|refine andA (hb:=?_)|refine y_loadA (hK:=?_)|refine y_box (hK:=fun b=>?_)|refine cD (jRest hs hp ?_))|((with_reducible first|refine grd_cases (fun h=>?_) (fun h=>?_)|refine condC_split (fun h=>?_) (fun h=>?_))<;>(try simp only [h])<;>(try simp only [NR_,NRb] at h)))
 all_goals first
  | exact leafL (sub_cons sub_rfl) (leT_eq (congrArg B (by rw [decide_eq_true (by omega)];rfl))) hK
  | exact leafL (sub_cons sub_rfl) (leT_eq (congrArg B (by rw [decide_eq_false (by omega)];rfl))) hK
def blankAt (l:List Int):Bool:=decide (0 < l.length) && blankI (l.getD 0 0)
def afterF (ls:List Ln) (p:Int × Int):Bool:=blankAt (restF ls (p.1,p.2 - 1))
theorem jAfter {b ix:Nat}{ls:List Ln}{n d:Int}{bk:Bool}{x y:AV} [hJ:Hold σ b ix (JC ls n bk d x y)] {p:Int × Int} (hs:Small ls) (hp:In64 p.1∧In64 p.2∧0≤p.2) (hK:K (.ret (B (afterF ls p))) σ) :
  ACallF κ Tryz.prog 190 [JP b,PLA p] σ K:=by
 have hr:=restF_len (p:=(p.1,p.2 - 1)) hs
 have hp2:In64 ((p.1,p.2 - 1):Int × Int).1∧In64 ((p.1,p.2 - 1):Int × Int).2:=⟨hp.1,by dsimp only;omega⟩
 unfold afterF blankAt at hK
 refine ACallF.dropL (ACallF_intro Tryz.func190 rfl ?_)
 simp only [Tryz.ntmps190]
 repeat' (first|simp only [WL,intF,WM,Int.reduceToNat,reduceCtorEq,WLb,Nat.reduceAdd,Nat.reduceSub,Nat.reduceEqDiff,Bool.not_true,true_and,reduceIte,Bool.false_eq_true,T3,T22,fR fl131_0,fR fl131_1,cok72,cok99,Tryz.results190]|simp (disch:=first|omega|(simp only [LN_];omega)) only [wrap_id,getI]|(with_reducible first|refine andA (hb:=?_)|refine y_load (hK:=?_)|refine y_box (hK:=fun b=>?_)|refine y_build (hK:=?_)|refine cD (jRest (p:=(p.1,p.2 - 1)) hs hp2 ?_)|refine cD (Blank ?_))|((with_reducible first|refine grd_cases (fun h=>?_) (fun h=>?_)|refine condC_split (fun h=>?_) (fun h=>?_))<;>(try simp only [h])<;>(try simp only [NR_,NRb] at h)))
 all_goals exact leafL (sub_cons sub_rfl) (leT_eq (congrArg B (by simp [*];try omega))) hK
def overF (ls:List Ln) (i:Int):Bool:=decide ((ls.length:Int)≤i) || (markerI (ls.getD i.toNat (0,[])).1 (ls.getD i.toNat (0,[])).2 != 0)
theorem jOver {b ix:Nat}{ls:List Ln}{n d:Int}{bk:Bool}{x y:AV} [hJ:Hold σ b ix (JC ls n bk d x y)] {i:Int} (hs:Small ls) (hp:0≤i) (hK:K (.ret (B (overF ls i))) σ) :
  ACallF κ Tryz.prog 151 [JP b,I i] σ K:=by
 have hl:=hs.1
 have hm:=fun h:i.toNat < ls.length=>hs.at_ h
 unfold overF at hK
 refine ACallF.dropL (ACallF_intro Tryz.func151 rfl ?_)
 simp only [Tryz.ntmps151]
 repeat' (first|simp only [WL,intF,WM,reduceCtorEq,WLb,Nat.reduceAdd,Nat.reduceSub,Nat.reduceEqDiff,Bool.not_false,true_and,reduceIte,Bool.false_eq_true,T31,T51,fR fl159_0,cok56,Tryz.results151]|simp (disch:=first|omega|(simp only [LN_];omega)) only [getL]|(with_reducible first|refine andA (hb:=?_)|refine y_load (hK:=?_)|refine cD (lMarker ?_ ?_))|((with_reducible first|refine grd_cases (fun h=>?_) (fun h=>?_)|refine condC_split (fun h=>?_) (fun h=>?_))<;>(try simp only [h])<;>(try simp only [NR_,NRb] at h))|omega)
 ·exact leafL sub_rfl (leT_eq (congrArg B (by rw [decide_eq_false (by omega)];rfl))) hK
 ·exact leafL sub_rfl (leT_eq (congrArg B (by rw [decide_eq_true (by omega)];rfl))) hK
def comF (ls:List Ln) (p:Int × Int) (l:List Int):Bool:=headF l 35 && (decide (p.2=0) || afterF ls p)
theorem jComment {b ix:Nat}{ls:List Ln}{n d:Int}{bk:Bool}{x y:AV} [hJ:Hold σ b ix (JC ls n bk d x y)] {p:Int × Int}{l:List Int} (hs:Small ls) (hp:In64 p.1∧In64 p.2∧0≤p.2) (hll:l.length≤1000000) (hK:K (.ret (B (comF ls p l))) σ) :
  ACallF κ Tryz.prog 150 [JP b,PLA p,SI o l] σ K:=by
 unfold comF headF at hK
 refine ACallF.dropL (ACallF_intro Tryz.func150 rfl ?_)
 simp only [Tryz.ntmps150]
 repeat' (first|simp only [WL,intF,WM,Int.reduceToNat,reduceCtorEq,WLb,Nat.reduceAdd,Nat.reduceSub,Nat.reduceEqDiff,Bool.not_false,true_and,reduceIte,Bool.false_eq_true,T3,T22,fR fl131_1,cok190,Tryz.results150]|simp (disch:=first|omega|(simp only [LN_];omega)) only [getI]|(with_reducible first|refine andA (hb:=?_)|refine y_load (hK:=?_)|refine y_loadA (hK:=?_)|refine y_box (hK:=fun b=>?_)|refine cD (jAfter hs hp ?_))|((with_reducible first|refine grd_cases (fun h=>?_) (fun h=>?_)|refine condC_split (fun h=>?_) (fun h=>?_))<;>(try simp only [h])<;>(try simp only [NR_,NRb] at h)))
 all_goals exact leafL (sub_cons sub_rfl) (leT_eq (congrArg B (by first|(simp_all;done)|(have hpos:0 < l.length:=(by omega);simp_all)))) hK
def endsF (l:List Int):Bool:=decide (l.length=0) || blankI (l.getD 0 0) || flowI (l.getD 0 0)
theorem jEnds {b ix:Nat}{ls:List Ln}{n d:Int}{bk:Bool}{x y:AV} [hJ:Hold σ b ix (JC ls n bk d x y)] {p:Int × Int} (hs:Small ls) (hp:In64 p.1∧In64 p.2) (hK:K (.ret (B (endsF (restF ls p)))) σ) :
  ACallF κ Tryz.prog 126 [JP b,PLA p] σ K:=by
 have hr:=restF_len (p:=p) hs
 unfold endsF at hK
 refine ACallF.dropL (ACallF_intro Tryz.func126 rfl ?_)
 simp only [Tryz.ntmps126]
 repeat' (first|simp only [WL,intF,WM,Int.reduceToNat,reduceCtorEq,WLb,Nat.reduceAdd,Nat.reduceSub,Bool.not_false,true_and,reduceIte,Bool.false_eq_true,T3,T22,cok72,cok99,cok154,Tryz.results126]|simp (disch:=first|omega|(simp only [LN_];omega)) only [getI]|(with_reducible first|refine andA (hb:=?_)|refine y_loadA (hK:=?_)|refine y_box (hK:=fun b=>?_)|refine cD (jRest hs hp ?_)|refine cD (Blank ?_)|refine cD (cFlow ?_))|((with_reducible first|refine grd_cases (fun h=>?_) (fun h=>?_)|refine condC_split (fun h=>?_) (fun h=>?_))<;>(try simp only [h])<;>(try simp only [NR_,NRb] at h)))
 all_goals exact leafL (sub_cons sub_rfl) (leT_eq (congrArg B (by simp_all))) hK
theorem jBehind {p:Int × Int}{n:Int} (hp:In64 (p.2+n)) (hK:K (.ret (PLA (p.1,p.2+n))) σ):ACallF κ Tryz.prog 120 [PLA p,I n] σ K:=by
 refine ACallF.dropL (ACallF_intro Tryz.func120 rfl ?_)
 simp only [Tryz.ntmps120]
 repeat' (first|simp only [WL,intF,WM,reduceCtorEq,WLb,Nat.reduceAdd,Nat.reduceSub,Nat.reduceEqDiff,true_and,T3,fR fl131_0,fR fl131_1,Tryz.results120]|simp (disch:=first|omega|(simp only [LN_];omega)) only [wrap_id]|(with_reducible first|refine andA (hb:=?_)|refine y_load (hK:=?_)|refine y_storeA (hK:=?_)|refine y_box (hK:=fun b=>?_)|refine y_new (hK:=fun b=>?_)|refine y_build (hK:=?_))|((with_reducible refine resL_id ?_);apply res_c (hf:=Tryz.results120);exact y_load2))
 exact leafL (sub_cons (sub_cons sub_rfl)) (leT_eq rfl) hK
/-! ### Behind blanks -/
def blN (l:List Int):Nat:=(l.takeWhile blankI).length
def colF (ls:List Ln) (p:Int × Int):Int:=if 0≤p.1∧p.1 < ls.length then max p.2 (ls.getD p.1.toNat (0,[])).1 else p.2
def pastF (ls:List Ln) (p:Int × Int):(Int × Int) × List Int:=((p.1,colF ls p+(blN (restF ls (p.1,colF ls p)):Nat)),(restF ls (p.1,colF ls p)).drop (blN (restF ls (p.1,colF ls p))))
theorem blN_le (l:List Int):blN l≤l.length:=by
 unfold blN
 exact (List.takeWhile_sublist _).length_le
theorem blN_is:∀ (l:List Int) (j:Nat),(∀ i,i < j→blankI (l.getD i 0)=true)→j≤l.length→(l.length≤j∨blankI (l.getD j 0)=false)→blN l=j
  | [], j, _, h2, _ => by have : j = 0 := by simpa using h2
                          subst this;rfl
  | x::l,0,_,_,h3=>by
    rcases h3 with h3|h3
    · simp at h3
    · unfold blN;rw [List.takeWhile_cons,show blankI x=false from h3];rfl
  | x::l,j+1,h1,h2,h3=>by
    have hx:blankI x=true:=h1 0 (by omega)
    have:=blN_is l j (fun i hi=>by have:=h1 (i+1) (by omega);simpa using this) (by simpa using h2) (by simpa using h3)
    unfold blN at this ⊢
    rw [List.takeWhile_cons,hx]
    simp [this]
theorem getD_drop_ {l:List Int}{i j:Nat}:(l.drop i).getD j 0=l.getD (i+j) 0:=by simp [List.getD_eq_getElem?_getD]
theorem jPast {bj ix:Nat}{ls:List Ln}{n d:Int}{bk:Bool}{x y:AV} [hJ:Hold σ bj ix (JC ls n bk d x y)] {p:Int × Int} (hs:Small ls) (hp:In64 p.1∧In64 p.2) (hK:K (.ret (.tup [PLA (pastF ls p).1,SI none (pastF ls p).2])) σ) :
  ACallF κ Tryz.prog 101 [JP bj,PLA p] σ K:=by
 obtain ⟨i,k⟩:=p
 obtain ⟨⟨p1,p2⟩,p3,p4⟩:=hp
 dsimp only at *
 have hl:=hs.1
 have ha:=fun h=>hs.at_ (i:=i.toNat) h
 refine ACallF.dropL (ACallF_introA Tryz.func101 rfl ?_)
 simp only [Tryz.ntmps101]
 repeat' (first|(with_reducible first|refine cut_unit (id:=1) ?_|refine AW_seq ?_)|simp only [WL,WM,Nat.reduceAdd,Nat.reduceSub]|(with_reducible first|refine y_box (hK:=fun b=>?_)|refine y_new (hK:=fun b=>?_)))
 rename_i bp
 refine midA (fun _:Unit=>⟨(JP bj::PLA (i,k)::.any::JP bp::JP b::nilS::.any::.any::.any::.any::.any::.any::.any::.any::.any::.any::.any::.any::.any::.any::.any::.any::.any::.any::.any::.any::.any::.any::.any::.any::.any::.any::.any::.any::.any::.any::.any::.any::.any::.any::.any::.any::.any::.any::.any::.any::.any::.any::.any::.any::.any::[]),.obj b [I 0,I 0]::.obj bp [I i,I (colF ls (i,k))]::σ,true,[]⟩) (fun _=>True) ?_ ?_
 ·
  repeat' (first|(with_reducible first|refine AW_seq ?_|refine AW_runCond ?_)|simp only [WL,intF,WM,reduceCtorEq,WLb,Nat.reduceAdd,Nat.reduceLeDiff,Nat.reduceEqDiff,Bool.not_true,true_and,and_true,reduceIte,Bool.false_eq_true,T3,T31,T51,fC fl51_0,fR fl131_0,fR fl131_1,fR fl159_0]|simp (disch:=first|omega|(simp only [LN_];omega)) only [getL]|(with_reducible first|refine andA (hb:=?_)|refine y_load (hK:=?_)|refine y_store (hK:=?_)|refine y_max ?_)|((with_reducible refine AW_drawM (id:=1) 13 mixed ?_ ?_);kernel_rfl)|((with_reducible refine AW_drawM (id:=2) 13 mixed ?_ ?_);kernel_rfl)|(with_reducible refine dmQ_mk ?_)|((with_reducible first|refine grd_cases (fun h=>?_) (fun h=>?_)|refine condC_split (fun h=>?_) (fun h=>?_))<;>(try simp only [h])<;>(try simp only [NR_,NRb] at h)))
  all_goals first
   | exact ⟨(),St_leW leA (ResW.of_eq (by unfold colF;rw [if_pos ⟨by dsimp only;omega,by dsimp only;omega⟩])) id⟩
   | exact ⟨(),St_leW leA (ResW.of_eq (by unfold colF;rw [if_neg (by dsimp only;omega)])) id⟩
 ·intro _ _
  have hcol:In64 ((i,colF ls (i,k)):Int × Int).1∧In64 ((i,colF ls (i,k)):Int × Int).2:=by
   refine ⟨⟨p1,p2⟩, ?_⟩
   unfold colF
   split
   ·have:=ha (by dsimp only at *;omega);dsimp only;omega
   ·exact ⟨p3,p4⟩
  have hlen:=restF_len (p:=(i,colF ls (i,k))) hs
  have hsm:=fun h=>restF_some (p:=(i,colF ls (i,k))) hs h
  unfold pastF at hK
  dsimp only at hK hlen hsm
  generalize colF ls (i,k)=c at *
  repeat' (first|(with_reducible first|refine AW_seqA (AW_block ?_)|refine cut_loop ?_|refine AW_seq ?_)|simp only [WL,WM,true_and,cok99]|(with_reducible first|refine y_loadA (hK:=?_)|refine cD (jRest (p:=(i,c)) hs hcol ?_)))
  refine loopA (fun q:Nat=>⟨(JP bj::PLA (i,k)::.any::JP bp::JP b::nilS::SI none ((restF ls (i,c)).drop q)::.any::.any::.any::.any::.any::.any::.any::.any::.any::.any::.any::.any::.any::.any::.any::.any::.any::.any::.any::.any::.any::.any::.any::.any::.any::.any::.any::.any::.any::.any::.any::.any::.any::.any::.any::.any::.any::.any::.any::.any::.any::.any::.any::.any::[]),.obj b [I 0,I 0]::.obj bp [I i,I (c+q)]::σ,true,[]⟩) (fun q=>q≤(restF ls (i,c)).length∧∀ m,m < q→blankI ((restF ls (i,c)).getD m 0)=true) (fun q=>(restF ls (i,c)).length - q) 0 (St_leW leA (ResW.of_eq (by simp)) id) ⟨Nat.zero_le _,fun m hm=>absurd hm (Nat.not_lt_zero _)⟩ ?_
  rintro q ⟨hq,hb⟩
  have hd:((restF ls (i,c)).drop q).getD 0 0=(restF ls (i,c)).getD q 0:=by rw [getD_drop_,Nat.add_zero]
  have hdl:((restF ls (i,c)).drop q).length=(restF ls (i,c)).length - q:=List.length_drop
  repeat' (first|(with_reducible first|refine AW_block ?_|refine AW_seqA (AW_seqA ?_)|refine AW_seq ?_|refine AW_runReg ?_|refine AW_runCond ?_|refine AW_runRet ?_)|simp only [WL,intF,WM,Int.reduceToNat,reduceCtorEq,WLb,Nat.reduceAdd,Bool.not_true,true_and,reduceIte,Bool.false_eq_true,T3,T22,cok72,cok120,Tryz.results101]|simp (disch:=first|omega|(simp only [LN_];omega)) only [getI,getI]|(with_reducible first|refine andA (hb:=?_)|refine y_loadA (hK:=?_)|refine y_storeA (hK:=?_)|refine cD (jBehind (p:=(i,c+q)) (by dsimp only;omega) ?_)|refine cD (Blank ?_))|((with_reducible refine resL_id ?_);apply res_ct (hf:=Tryz.results101);exact y_load2)|((with_reducible refine AW_phE (id:=5) [2,3] (some 0) [([],some 1),([],some 4),([],some 5),([],none)] (fun _=>True) trivial mixed ?_ ?_);kernel_rfl)|((with_reducible apply phE_intro);intro σq hq)|(with_reducible exact isT_mk)|((with_reducible apply phC_ops);rfl;rfl)|(with_reducible refine phQ_mk trivial ?_)|((with_reducible first|refine grd_cases (fun h=>?_) (fun h=>?_)|refine condC_split (fun h=>?_) (fun h=>?_))<;>(try simp only [h])<;>(try simp only [NR_,NRb] at h)))
  ·refine ⟨q+1,St_leW (by simp only [List.drop_drop];exact leA) (ResW.of_eq (by rw [show ((q+1:Nat):Int)=(q:Int)+1 by omega,← Int.add_assoc])) id,⟨by omega,fun m hm=>?_⟩,by omega⟩
   by_cases e:m=q
   ·subst e;rw [← hd];assumption
   ·exact hb m (by omega)
  ·rw [blN_is _ q hb hq (.inr (by rw [← hd];assumption))] at hK
   exact leafL (sub_cons (sub_cons sub_rfl)) (leT_eq rfl) hK
  ·rw [blN_is _ q hb hq (.inl (by omega))] at hK
   exact leafL (sub_cons (sub_cons sub_rfl)) (leT_eq rfl) hK
instance:TStruct Tryz.prog 135:=⟨⟨_,Tryz.underlying135⟩⟩
def wrongC (e:Int):List PanicEntry:=[{ v:=.iface 135 (.agg #[.int .i64 e]),recovered:=false }]
theorem jFail {e:Int} (hK:K (.pan (wrongC e)) σ):ACallF κ Tryz.prog 122 [I e] σ K:=by
 refine ACallF.dropL (ACallF_intro Tryz.func122 rfl ?_)
 simp only [Tryz.ntmps122]
 repeat' (first|simp only [WL,WM,Nat.reduceAdd,Nat.reduceSub,true_and]|with_reducible refine y_build (hK:=?_)|( refine y_iface1 ?_))
 exact leafP sub_rfl rfl hK
theorem jNeed {ok:Bool} (h1:ok=true→K (.ret (.tup [])) σ) (h2:ok=false→K (.pan (wrongC 2)) σ):ACallF κ Tryz.prog 123 [B ok] σ K:=by
 refine ACallF.dropL (ACallF_intro Tryz.func123 rfl ?_)
 simp only [Tryz.ntmps123]
 repeat' (first|simp only [WL,WM,Nat.reduceAdd,Nat.reduceSub,true_and,cok122,Tryz.results123]|with_reducible refine cD (jFail ?_)|((with_reducible first|refine grd_cases (fun h=>?_) (fun h=>?_)|refine condC_split (fun h=>?_) (fun h=>?_))<;>(try simp only [h])<;>(try simp only [NR_,NRb] at h)))
 ·exact leafP sub_rfl rfl (h2 (by assumption))
 ·exact leafL sub_rfl (leT_eq rfl) (h1 (by assumption))
theorem jNeedT (h1:K (.ret (.tup [])) σ):ACallF κ Tryz.prog 123 [B true] σ K:=jNeed (fun _=>h1) (fun h=>by cases h)
theorem jNeedF (h2:K (.pan (wrongC 2)) σ):ACallF κ Tryz.prog 123 [B false] σ K:=jNeed (fun h=>by cases h) (fun _=>h2)
theorem jMustE {e:Int} (h1:e=0→K (.ret (.tup [])) σ) (h2:e≠0→K (.pan (wrongC e)) σ):ACallF κ Tryz.prog 174 [I e] σ K:=by
 refine ACallF.dropL (ACallF_intro Tryz.func174 rfl ?_)
 simp only [Tryz.ntmps174]
 repeat' (first|simp only [WL,intF,WM,reduceCtorEq,WLb,Nat.reduceAdd,Nat.reduceSub,true_and,cok122,Tryz.results174]|with_reducible refine cD (jFail ?_)|((with_reducible first|refine grd_cases (fun h=>?_) (fun h=>?_)|refine condC_split (fun h=>?_) (fun h=>?_))<;>(try simp only [h])<;>(try simp only [NR_,NRb] at h)))
 ·exact leafP sub_rfl rfl (h2 (by assumption))
 ·exact leafL sub_rfl (leT_eq rfl) (h1 (by assumption))
end Go.Proofs.YthkabaiamcjdbaaGreat
