/-
  Texts Na, one behind the other.
-/
import Derived.Test.YthkabaiamcjdbaaGreatG30
set_option linter.unusedVariables false
set_option linter.unusedSimpArgs false
set_option maxHeartbeats 16000000
/-
 Walks: chapter 14's law ParserLists.
-/



namespace Go.Proofs.YthkabaiamcjdbaaGreat
open Go.Abs
variable {κ : Ctx} {σ : List Res} {K : Ret → List Res → Prop} {o o' : Option (Option (Nat × Nat))}
set_option maxRecDepth 4000 in
theorem str_addT {a b : List Int} {v : Option Value} (h : a.length + b.length ≤ 200000000) : (if (((textI a).size + (textI b).size : Nat) : Int) > IntKind.i64.max then none else v) = v:=by
 have h1:=encL_len a
 have h2:=encL_len b
 rw [← bytesI_text,bytesI_len] at h1 h2
 exact str_add3 (by omega)
set_option maxRecDepth 4000 in
theorem li_and3 {a : Int} : andI a 3 = a % 4:=andI_mod (a:=a) 2 (by decide)
def stOf (l : List Int) : List Nat:=l.map fun a=>(a % 4).toNat
set_option maxRecDepth 4000 in
theorem stOf_len (l : List Int) : (stOf l).length = l.length:=by simp [stOf]
set_option maxRecDepth 4000 in
theorem stOf_get {l : List Int} {i : Nat} (h : i < l.length) : (((stOf l).getD i 0 : Nat) : Int) = l.getD i 0 % 4:=by
 unfold stOf
 rw [List.getD_eq_getElem?_getD,List.getElem?_map,List.getElem?_eq_getElem h,List.getD_eq_getElem?_getD,List.getElem?_eq_getElem h]
 show (((l[i] % 4).toNat : Nat) : Int) = l[i] % 4
 omega
def wnI (D : Nat) : Nat → List Nat → List EvV
 | 0,_=>[]
 | _ + 1,[]=>[]
 | i + 1,k :: r=>stepE D k ++ ((if wordB (newD D k) r = true then [wE] else []) ++ wnI (newD D k) i r)
abbrev dI (D i : Nat) (l : List Nat) : Nat:=endD D (l.take i)
set_option maxRecDepth 4000 in
theorem dI_succ : ∀ {i : Nat} {D : Nat} {l : List Nat},i < l.length → dI D (i + 1) l = newD (dI D i l) (l.getD i 0)
 | i,D,[],h=>by simp at h
 | 0,D,k :: r,_=>by simp [dI,endD]
 | i + 1,D,k :: r,h=>by
  show endD D ((k :: r).take (i + 1 + 1)) = newD (endD D ((k :: r).take (i + 1))) _
  rw [List.take_succ_cons,List.take_succ_cons,endD,endD,List.getD_cons_succ]
  exact dI_succ (D:=newD D k) (by simpa using h)
set_option maxRecDepth 4000 in
theorem wnI_succ : ∀ {i : Nat} {D : Nat} {l : List Nat},i < l.length → wnI D (i + 1) l = wnI D i l ++ (stepE (dI D i l) (l.getD i 0) ++ (if wordB (dI D (i + 1) l) (l.drop (i + 1)) = true then [wE] else []))
 | i,D,[],h=>by simp at h
 | 0,D,k :: r,_=>by
  rw [wnI,dI_succ (by simp)]
  simp [wnI,dI,endD]
 | i + 1,D,k :: r,h=>by
  have ih:=wnI_succ (i:=i) (D:=newD D k) (l:=r) (by simpa using h)
  have e1 : dI D (i + 1) (k :: r) = dI (newD D k) i r:=by show endD D ((k :: r).take (i + 1)) = _; rw [List.take_succ_cons,endD]
  have e2 : dI D (i + 1 + 1) (k :: r) = dI (newD D k) (i + 1) r:=by show endD D ((k :: r).take (i + 1 + 1)) = _; rw [List.take_succ_cons,endD]
  rw [wnI,ih,e1,e2,List.getD_cons_succ,List.drop_succ_cons]
  show _ = (stepE D k ++ ((if wordB (newD D k) r = true then [wE] else []) ++ wnI (newD D k) i r)) ++ _
  simp only [List.append_assoc]
set_option maxRecDepth 4000 in
theorem wnI_all : ∀ {l : List Nat} {D : Nat},wnI D l.length l = wnS D l
 | [],D=>rfl
 | k :: r,D=>by
  show wnI D (r.length + 1) (k :: r) = _
  rw [wnI,wnS,wnI_all]
set_option maxRecDepth 4000 in
theorem stepE_le (D k : Nat) : (stepE D k).length ≤ 1:=by
 unfold stepE
 split
 ·simp
 ·split <;> simp
set_option maxRecDepth 4000 in
theorem wnI_le : ∀ {i D : Nat} {l : List Nat},(wnI D i l).length ≤ 2 * i
 | 0,D,l=>by simp [wnI]
 | i + 1,D,[]=>by simp [wnI]
 | i + 1,D,k :: r=>by
  have h1:=wnI_le (i:=i) (D:=newD D k) (l:=r)
  have h2:=stepE_le D k
  rw [wnI,List.length_append,List.length_append]
  split <;> simp <;> omega
set_option maxRecDepth 4000 in
theorem step_P {D k : Nat} (h : D = 0 ∨ k = 0 ∧ D < 20) : newD D k = D + 1 ∧ stepE D k = [opE3]:=by
 have hp : pushB D k = true:=by unfold pushB; simp; omega
 unfold newD stepE
 rw [hp]
 exact ⟨rfl,rfl⟩
set_option maxRecDepth 4000 in
theorem step_B {D k : Nat} (h : ¬ (D = 0 ∨ k = 0 ∧ D < 20)) (h2 : 1 < k ∧ 1 < D) : newD D k = D - 1 ∧ stepE D k = [shE4]:=by
 have hp : pushB D k = false:=by unfold pushB; simp; omega
 have hb : backB D k = true:=by unfold backB; rw [hp]; simp; omega
 unfold newD stepE
 rw [hp,hb]
 exact ⟨rfl,rfl⟩
set_option maxRecDepth 4000 in
theorem step_N {D k : Nat} (h : ¬ (D = 0 ∨ k = 0 ∧ D < 20)) (h2 : ¬ (1 < k ∧ 1 < D)) : newD D k = D ∧ stepE D k = []:=by
 have hp : pushB D k = false:=by unfold pushB; simp; omega
 have hb : backB D k = false:=by unfold backB; rw [hp]; simp; omega
 unfold newD stepE
 rw [hp,hb]
 exact ⟨rfl,rfl⟩
set_option maxRecDepth 4000 in
theorem word_more {D i : Nat} {l : List Nat} (h : i < l.length) : wordB D (l.drop i) = (!(decide (l.getD i 0 = 0)) || decide (20 ≤ D)):=by
 rw [List.drop_eq_getElem_cons h,List.getD_eq_getElem?_getD,List.getElem?_eq_getElem h]
 rfl
set_option maxRecDepth 4000 in
theorem word_last {D i : Nat} {l : List Nat} (h : l.length ≤ i) : wordB D (l.drop i) = true:=by
 rw [List.drop_eq_nil_of_le h]; rfl
set_option maxRecDepth 4000 in
theorem want_all {l : List Nat} {k : Nat} {r : List Nat} (h : l = k :: r) : wnS 0 l ++ List.replicate (endD 0 l) shE4 = opE3 :: fullS 1 r:=by
 subst h
 rw [wnS,endD,first_D,(step_P (.inl rfl)).2]
 unfold fullS
 simp only [List.cons_append,List.nil_append,List.append_assoc]
set_option maxRecDepth 4000 in
theorem enS_len : ∀ {l : List Nat} {D : Nat},(enS D l).length = l.length
 | [],D=>rfl
 | k :: r,D=>by rw [enS,List.length_cons,enS_len,List.length_cons]
set_option maxRecDepth 4000 in
theorem enS_get : ∀ {i : Nat} {D : Nat} {l : List Nat},i < l.length → (enS D l)[i]? = some (dI D (i + 1) l,wordB (dI D (i + 1) l) (l.drop (i + 1)))
 | i,D,[],h=>by simp at h
 | 0,D,k :: r,_=>by
  rw [enS,dI_succ (by simp)]
  simp [dI,endD]
 | i + 1,D,k :: r,h=>by
  have ih:=enS_get (i:=i) (D:=newD D k) (l:=r) (by simpa using h)
  have e2 : dI D (i + 1 + 1) (k :: r) = dI (newD D k) (i + 1) r:=by show endD D ((k :: r).take (i + 1 + 1)) = _; rw [List.take_succ_cons,endD]
  rw [enS,List.getElem?_cons_succ,ih,e2,List.drop_succ_cons]
set_option maxRecDepth 4000 in
theorem en_take {i : Nat} {D : Nat} {l : List Nat} (h : i < l.length) : (enS D l).take (i + 1) = (enS D l).take i ++ [(dI D (i + 1) l,wordB (dI D (i + 1) l) (l.drop (i + 1)))]:=by
 rw [List.take_add_one,enS_get h]; rfl
set_option maxRecDepth 4000 in
theorem dI_pos : ∀ {i : Nat} {D : Nat} {l : List Nat},i ≤ l.length → D ≤ 20 → dI D i l ≤ 20 ∧ (0 < i → 0 < dI D i l)
 | 0,D,l,_,h=>⟨by simpa [dI,endD] using h,fun h=>absurd h (by omega)⟩
 | i + 1,D,l,hi,h=>by
  obtain ⟨h1,h2⟩:=dI_pos (i:=i) (D:=D) (l:=l) (by omega) h
  rw [dI_succ (by omega)]
  generalize dI D i l = d at *
  unfold newD pushB backB
  unfold pushB
  split
  ·rename_i h; simp at h; omega
  ·split
   ·rename_i h; simp at h; omega
   ·rename_i h3 h4; simp at h3; omega
abbrev lsT (w : Nat) (bare : Bool) (l : List Nat) (i : Nat) : List Int:=docT w bare ((enS 0 l).take i)
set_option maxRecDepth 4000 in
theorem lsT_succ {w : Nat} {bare : Bool} {l : List Nat} {i : Nat} (h : i < l.length) : lsT w bare l (i + 1) = lsT w bare l i ++ ((if i = 0 then [] else [10]) ++ entT w bare (dI 0 (i + 1) l,wordB (dI 0 (i + 1) l) (l.drop (i + 1)))):=by
 unfold lsT
 rw [en_take h]
 by_cases h0 : i = 0
 ·subst h0; rfl
 ·rw [docT_snoc,if_neg h0]
  ·rfl
  ·intro e
   have:=congrArg List.length e
   rw [List.length_take,enS_len,List.length_nil] at this
   omega
set_option maxRecDepth 4000 in
theorem ls_chars {w : Nat} {bare : Bool} {l : List Nat} {i : Nat} (hw : w ≤ 5) (hi : i ≤ 30) (hl : i ≤ l.length) : CharsW (lsT w bare l i) ∧ (lsT w bare l i).length ≤ 111 * 30:=by
 have hd : ∀ e ∈ (enS 0 l).take i,w * (e.1 - 1) ≤ 100:=fun e he=>by
  have he:=List.mem_of_mem_take he
  have h20 : e.1 ≤ 20:=by
   obtain ⟨j,hj⟩:=List.getElem?_of_mem he
   have hjl : j < l.length:=by have:=(List.getElem?_eq_some_iff.1 hj).1; rw [enS_len] at this; exact this
   rw [enS_get hjl] at hj
   cases hj
   exact (dI_pos (D:=0) (l:=l) (i:=j + 1) hjl (by decide)).1
  have : w * (e.1 - 1) ≤ 5 * 20:=Nat.mul_le_mul hw (by omega)
  omega
 obtain ⟨c1,c2⟩:=doc_chars (w:=w) (bare:=bare) _ hd
 refine ⟨c1,Nat.le_trans c2 ?_⟩
 have : ((enS 0 l).take i).length ≤ 30:=by rw [List.length_take,enS_len]; omega
 exact Nat.mul_le_mul_left _ this
set_option maxRecDepth 4000 in
theorem ls_32 : ({ data:=#[32] } : ByteArray) = textI [32]:=by decide +kernel
set_option maxRecDepth 4000 in
theorem ls_10 : ({ data:=#[10] } : ByteArray) = textI [10]:=by decide +kernel
set_option maxRecDepth 4000 in
theorem ls_45 : ({ data:=#[45] } : ByteArray) = textI [45]:=by decide +kernel
set_option maxRecDepth 4000 in
theorem ls_w : ({ data:=#[32,119] } : ByteArray) = textI [32,119]:=by decide +kernel
set_option maxRecDepth 4000 in
theorem ls_w1 : ({ data:=#[119] } : ByteArray) = textI [119]:=by decide +kernel
set_option maxRecDepth 4000 in
theorem ls_c : ({ data:=#[32,32,35,32,99,10,10] } : ByteArray) = textI [32,32,35,32,99,10,10]:=by decide +kernel
set_option maxRecDepth 4000 in
theorem dec_irr2 (a : Int) : decide (a < a) = false:=decide_eq_false (Int.lt_irrefl a)
set_option maxRecDepth 4000 in
theorem lay_small {w : Nat} {bare : Bool} : ∀ {es : List En},(∀ e ∈ es,w * (e.1 - 1) ≤ 100) → (layL w bare es).length ≤ 3 * es.length ∧ ∀ x ∈ layL w bare es,x.2.length ≤ 2000 ∧ 0 ≤ x.1 ∧ x.1 ≤ 2000
 | [],_=>⟨by simp [layL],fun x hx=>by simp [layL] at hx⟩
 | e :: es,h=>by
  obtain ⟨h1,h2⟩:=lay_small (w:=w) (bare:=bare) (es:=es) (fun x hx=>h x (by simp [hx]))
  have he:=h e (by simp)
  refine ⟨by rw [layL,List.length_append,List.length_cons,List.length_cons]; split <;> simp <;> omega,fun x hx=>?_⟩
  rw [layL] at hx
  rcases List.mem_append.1 hx with hx | hx
  ·cases bare
   ·simp at hx
   ·simp at hx
    rcases hx with rfl | rfl
    ·exact ⟨by decide,by decide,by decide⟩
    ·exact ⟨by decide,by decide,by decide⟩
  ·rcases List.mem_cons.1 hx with rfl | hx
   ·unfold enL
    refine ⟨by dsimp only; split <;> decide,by dsimp only; omega,by dsimp only; omega⟩
   ·exact h2 x hx
set_option maxRecDepth 4000 in
theorem ls_all {st : List Int} {ks : List Nat} {w : Nat} {b : Bool} (hkl : ks.length = st.length) (h0 : 0 < st.length) (hn : st.length ≤ 30) (hw0 : 0 < w) (hw : w ≤ 5) : ∃ ev k,docP (readR (lsT w b ks st.length)).1 0 0 = .ok (ev,k) ∧ wnS 0 ks ++ List.replicate (endD 0 ks) shE4 = ev ∧ Asc (lsT w b ks st.length) ∧ Small (readR (lsT w b ks st.length)).1 ∧ (0 : Int) < (readR (lsT w b ks st.length)).1.length:=by
 have hd : ∀ e ∈ enS 0 ks,w * (e.1 - 1) ≤ 100:=fun e he=>by
  have h20 : e.1 ≤ 20:=by
   obtain ⟨j,hj⟩:=List.getElem?_of_mem he
   have hjl : j < ks.length:=by have:=(List.getElem?_eq_some_iff.1 hj).1; rw [enS_len] at this; exact this
   rw [enS_get hjl] at hj
   cases hj
   exact (dI_pos (D:=0) (l:=ks) (i:=j + 1) hjl (by decide)).1
  have : w * (e.1 - 1) ≤ 5 * 20:=Nat.mul_le_mul hw (by omega)
  omega
 have hT : lsT w b ks st.length = docT w b (enS 0 ks):=by
  unfold lsT
  rw [← hkl,← enS_len (l:=ks) (D:=0),List.take_length]
 have hc:=ls_chars (w:=w) (bare:=b) (l:=ks) (i:=st.length) hw hn (by omega)
 rw [hT] at hc ⊢
 have hne : enS 0 ks ≠ []:=fun e=>by
  have:=congrArg List.length e
  rw [enS_len,List.length_nil] at this
  omega
 have hls:=lay_small (w:=w) (bare:=b) hd
 rw [doc_lines hd hne]
 cases hks : ks with
 | nil =>
  exfalso
  have h9:=hkl
  rw [hks,List.length_nil] at h9
  omega
 | cons k r =>
  subst hks
  obtain ⟨e,he⟩:=lists_doc (w:=w) (bare:=b) (k:=k) (r:=r) hw0
  refine ⟨_,e,he,want_all rfl,⟨by have:=hc.2; omega,fun c hc'=>by have:=hc.1 c hc'; omega⟩,⟨?_,hls.2⟩, ?_⟩
  ·have:=hls.1
   rw [enS_len] at this
   omega
  ·rw [enS,layL]
   simp
   omega
structure LsS where
 i : Nat
 tk : Option (Nat × Nat)
set_option maxRecDepth 4000 in
theorem lPlainW {s : ByteArray} (hK : K (.ret (.agg [I 7,.raw (.string s),.raw (.string .empty),.raw (.string .empty),I 1,B false])) σ) : ACallF κ Tryz.prog 11 [.raw (.string s)] σ K:=by
 refine ACallF.dropL (ACallF_intro Tryz.func11 rfl ?_)
 simp only [Tryz.ntmps11]
 repeat' (first | simp only [WL,WM,Nat.reduceAdd,Nat.reduceSub,true_and,Tryz.results11] | (with_reducible first | refine y_storeA (hK:=?_) | refine y_new (hK:=fun b=>?_) | refine y_build (hK:=?_)) | ((with_reducible refine resL_id ?_); apply res_c (hf:=Tryz.results11); exact y_load2))
 exact leafL subA (leT_eq rfl) hK
set_option maxRecDepth 4000 in
theorem law_ParserLists (κ : Ctx) (st : List Int) (hst : st.length ≤ maxLen ∧ ∀ a ∈ st,IntKind.i64.min ≤ a ∧ a ≤ IntKind.i64.max) (w : Int) (hw : IntKind.i64.min ≤ w ∧ w ≤ IntKind.i64.max) (b : Bool) (hb : True) : ACallF κ Tryz.prog 3 [.sl 1 none (st.map fun n=>I n),I w,B b] [] (fun r _=>r = .ret (B true)):=by
 have hmin : IntKind.i64.min = -9223372036854775808:=by decide
 have hmax : IntKind.i64.max = 9223372036854775807:=by decide
 have hml : maxLen = 9223372036854775807:=by decide
 have hs0:=hst.1
 rw [hmin,hmax] at hw
 rw [hml] at hs0
 clear hst
 by_cases hr : st.length ≤ 30 ∧ 1 ≤ w ∧ w ≤ 5
 ·obtain ⟨w,rfl⟩ : ∃ k : Nat,w = k:=⟨w.toNat,by omega⟩
  obtain ⟨r1,r2,r3⟩:=hr
  refine ACallF.dropL (ACallF_introA Tryz.func3 rfl ?_)
  simp only [Tryz.ntmps3]
  repeat' (first | (with_reducible first | refine AW_block ?_ | refine cut_loop ?_ | refine AW_seqA (AW_seqA ?_) | refine AW_seq ?_ | refine AW_runReg ?_ | refine AW_runCond ?_) | simp only [WL,intF,WM,reduceCtorEq,WLb,Nat.reduceAdd,Nat.reduceSub,Bool.not_true,Bool.not_false,true_and,reduceIte,Bool.false_eq_true,T22,cok10,Tryz.results3,lf_e] | with_reducible refine cD (lAlive4 ?_) | ((with_reducible first | refine grd_cases (fun h=>?_) (fun h=>?_) | refine condC_split (fun h=>?_) (fun h=>?_)) <;> (try simp only [h]) <;> (try simp only [NR_,NRb] at h)) | omega)
  refine loopA (fun i : Nat=>⟨(.sl 1 none (st.map fun n=>I n) :: I w :: B b :: .any::.any::.any::.any::B true :: .raw (.string (textI [])) :: nilS :: I 0 :: .raw (.string (textI (List.replicate i 32))) :: I i :: .any::.any::.any::.any::.any::.any::.any::.any::.any::.any::.any::.any::.any::.any::.any::.any::.any::.any::.any::.any::.any::.any::.any::.any::.any::.any::.any::.any::.any::.any::.any::.any::.any::.any::.any::.any::.any::.any::.any::.any::.any::.any::.any::.any::.any::.any::.any::.any::.any::.any::.any::.any::.any::.any::.any::.any::.any::.any::.any::.any::.any::.any::.any::.any::.any::.any::.any::.any::.any::.any::.any::.any::.any::.any::.any::.any::.any::.any::.any::.any::.any::.any::.any::.any::.any::.any::.any::.any::.any::.any::.any::.any::.any::.any::.any::.any::.any::.any::.any::.any::.any::.any::.any::.any::.any::.any::.any::.any::.any::.any::.any::.any::.any::.any::.any::.any::.any::.any::.any::.any::.any::.any::.any::.any::.any::.any::.any::.any::.any::.any::.any::.any::.any::.any::.any::.any::.any::.any::.any::.any::.any::.any::.any::.any::.any::.any::.any::.any::.any::.any::.any::.any::[]),[],true,[]⟩) (fun i=>i ≤ w) (fun i=>w - i) 0 (St_le_same leA id) (Nat.zero_le _) ?_
  intro i hi
  have hpl : (List.replicate i (32 : Int)).length = i:=List.length_replicate
  rcases Nat.lt_or_ge i w with hin | hin
  ·skip
   repeat' (first | (with_reducible first | refine AW_seqA (AW_block ?_) | refine AW_block ?_ | refine cut_loop ?_ | refine AW_seqA (AW_seqA ?_) | refine AW_runReg ?_ | refine AW_runCond ?_) | simp only [WL,intF,strF,WM,ne_eq,reduceCtorEq,not_false_eq_true,ls_32,textI_app] | simp (disch:=first | omega | (simp only [LN_]; omega)) only [wrap_id,str_addT] | ((with_reducible first | refine grd_cases (fun h=>?_) (fun h=>?_) | refine condC_split (fun h=>?_) (fun h=>?_)) <;> (try simp only [h]) <;> (try simp only [NR_,NRb] at h)) | omega)
   exact ⟨i + 1,St_le_same (by simp only [List.replicate_succ']; exact leA) id,hin,by omega⟩
  ·obtain rfl : i = w:=by omega
   repeat' (first | (with_reducible first | refine AW_seqA (AW_block ?_) | refine AW_block ?_ | refine cut_loop ?_ | refine AW_seqA (AW_seqA ?_) | refine AW_runReg ?_ | refine AW_runCond ?_) | simp only [WL,intF,strF,WM,ne_eq,reduceCtorEq,not_false_eq_true] | ((with_reducible first | refine grd_cases (fun h=>?_) (fun h=>?_) | refine condC_split (fun h=>?_) (fun h=>?_)) <;> (try simp only [h]) <;> (try simp only [NR_,NRb] at h)) | omega)
   have hkl:=stOf_len st
   have hkg:=fun j (h : j < st.length)=>stOf_get (l:=st) (i:=j) h
   generalize hks : stOf st = ks at *
   refine loopA (fun z : LsS=>⟨(.sl 1 none (st.map fun n=>I n) :: I i :: B b :: .any::.any::.any::.any::B true :: .raw (.string (textI (lsT i b ks z.i))) :: .sl 6 (some z.tk) ((wnI 0 z.i ks).map EVA) :: I (dI 0 z.i ks : Nat) :: .raw (.string (textI (List.replicate i 32))) :: .any::I z.i :: .any::.any::.any::.any::.any::.any::.any::.any::.any::.any::.any::.any::.any::.any::.any::.any::.any::.any::.any::.any::.any::.any::.any::.any::.any::.any::.any::.any::.any::.any::.any::.any::.any::.any::.any::.any::.any::.any::.any::.any::.any::.any::.any::.any::.any::.any::.any::.any::.any::.any::.any::.any::.any::.any::.any::.any::.any::.any::.any::.any::.any::.any::.any::.any::.any::.any::.any::.any::.any::.any::.any::.any::.any::.any::.any::.any::.any::.any::.any::.any::.any::.any::.any::.any::.any::.any::.any::.any::.any::.any::.any::.any::.any::.any::.any::.any::.any::.any::.any::.any::.any::.any::.any::.any::.any::.any::.any::.any::.any::.any::.any::.any::.any::.any::.any::.any::.any::.any::.any::.any::.any::.any::.any::.any::.any::.any::.any::.any::.any::.any::.any::.any::.any::.any::.any::.any::.any::.any::.any::.any::.any::.any::.any::.any::.any::.any::.any::.any::.any::.any::.any::[]),[.tip z.tk],true,[]⟩) (fun z=>z.i ≤ st.length) (fun z=>st.length - z.i) ⟨0,none⟩ (St_leW leA ResW.void id) (Nat.zero_le _) ?_
   rintro ⟨m,tk⟩ hm
   dsimp only at hm ⊢
   have hch:=ls_chars (w:=i) (bare:=b) (l:=ks) (i:=m) (by omega) (by omega) (by omega)
   have hWl : ((wnI 0 m ks).map EVA).length ≤ 60:=by have:=wnI_le (i:=m) (D:=0) (l:=ks); rw [List.length_map]; omega
   rcases Nat.lt_or_ge m st.length with hmn | hmn
   ·have hkm:=hkg m hmn
    have e1:=dI_succ (D:=0) (l:=ks) (i:=m) (by omega)
    have e2:=wnI_succ (D:=0) (l:=ks) (i:=m) (by omega)
    have e3:=lsT_succ (w:=i) (bare:=b) (l:=ks) (i:=m) (by omega)
    have hD0:=dI_pos (D:=0) (l:=ks) (i:=m) (by omega) (by decide)
    have hD1:=dI_pos (D:=0) (l:=ks) (i:=m + 1) (by omega) (by decide)
    have hm0 : m = 0 → dI 0 m ks = 0:=fun h=>by subst h; rfl
    have hk4 : ks.getD m 0 ≤ 3:=by
     have : st.getD m 0 % 4 ≤ 3:=by omega
     omega
    rw [e1] at e2 e3 hD1
    generalize lsT i b ks m = SS at *
    generalize hWW : (wnI 0 m ks).map EVA = WW at *
    generalize dI 0 m ks = D at *
    generalize ks.getD m 0 = k at *
    have hkm2 : st.getD m 0 % 4 = (k : Int):=hkm.symm
    repeat' (first | (with_reducible first | refine cut_unit (id:=16) ?_ | refine AW_seqA (AW_block ?_) | refine cut_loop ?_ | refine AW_seqA (AW_seqA ?_) | refine AW_seq ?_ | refine AW_runReg ?_ | refine AW_runCond ?_) | simp only [WL,intF,WM,reduceCtorEq,WLb,Nat.reduceAdd,true_and,T3,T22,fold_and,li_and3,hkm2] | simp (disch:=first | omega | (simp only [LN_]; omega)) only [getI,getI] | with_reducible refine andA (hb:=?_) | ((with_reducible first | refine grd_cases (fun h=>?_) (fun h=>?_) | refine condC_split (fun h=>?_) (fun h=>?_)) <;> (try simp only [h]) <;> (try simp only [NR_,NRb] at h)) | omega)
    refine midA (fun tk' : Option (Nat × Nat)=>⟨(.sl 1 none (st.map fun n=>I n) :: I i :: B b :: .any::.any::.any::.any::B true :: .raw (.string (textI (SS ++ if m = 0 then [] else [10]))) :: .sl 6 (some tk') (WW ++ (stepE D k).map EVA) :: I (newD D k : Nat) :: .raw (.string (textI (List.replicate i 32))) :: .any::I m :: .any::.any::.any::.any::.any::.any::.any::.any::.any::.any::.any::.any::.any::.any::.any::.any::.any::.any::.any::.any::.any::.any::.any::.any::.any::.any::.any::.any::.any::.any::.any::.any::.any::.any::.any::.any::.any::.any::.any::.any::.any::.any::.any::.any::.any::.any::.any::.any::.any::.any::.any::.any::.any::.any::.any::.any::.any::.any::.any::.any::.any::.any::.any::.any::.any::.any::.any::.any::.any::.any::.any::.any::.any::.any::.any::.any::.any::.any::.any::.any::.any::.any::.any::.any::.any::.any::.any::.any::.any::.any::.any::.any::.any::.any::.any::.any::.any::.any::.any::.any::.any::.any::.any::.any::.any::.any::.any::.any::.any::.any::.any::.any::.any::.any::.any::.any::.any::.any::.any::.any::.any::.any::.any::.any::.any::.any::.any::.any::.any::.any::.any::.any::.any::.any::.any::.any::.any::.any::.any::.any::.any::.any::.any::.any::.any::.any::.any::.any::.any::.any::.any::[]),[.tip tk'],true,[]⟩) (fun _=>True) ?_ ?_
    ·clear e1 e2 e3 hkg hkl hD1
     have hm1 : 0 < m → 0 < D:=hD0.2
     by_cases hP : D = 0 ∨ k = 0 ∧ D < 20
     ·obtain ⟨f1,f2⟩:=step_P hP
      by_cases hm2 : m = 0
      ·have:=hm0 hm2
       repeat' (first | (with_reducible first | refine AW_seq ?_ | refine AW_runCond ?_) | simp only [WL,intF,strF,WM,reduceCtorEq,WLb,Nat.reduceAdd,Bool.not_true,Bool.not_false,beq_self_eq_true,and_true,reduceIte,Bool.false_eq_true] | simp (disch:=first | omega | (simp only [LN_]; omega)) only [wrap_id] | (with_reducible first | refine y_app (hlen:=?_) (hmax:=?_) (hK:=fun tk=>?_) | refine y_bs (hK:=?_) | refine y_build (hK:=?_)) | ((with_reducible first | refine grd_cases (fun h=>?_) (fun h=>?_) | refine condC_split (fun h=>?_) (fun h=>?_)) <;> (try simp only [h]) <;> (try simp only [NR_,NRb] at h)) | omega)
       all_goals first
        | (rw [f1,f2,if_pos hm2,List.append_nil]; exact ⟨tk,St_le_same leA id⟩)
        | (exfalso; omega)
      ·have:=hm1 (by omega)
       repeat' (first | (with_reducible first | refine AW_seq ?_ | refine AW_runCond ?_) | simp only [WL,intF,strF,WM,reduceCtorEq,WLb,Nat.reduceAdd,Bool.not_true,Bool.not_false,beq_self_eq_true,and_true,reduceIte,Bool.false_eq_true,ls_10,textI_app] | simp (disch:=first | omega | (simp only [LN_]; omega)) only [wrap_id,str_addT] | (with_reducible first | refine y_app (hlen:=?_) (hmax:=?_) (hK:=fun tk=>?_) | refine y_bs (hK:=?_) | refine y_build (hK:=?_)) | ((with_reducible first | refine grd_cases (fun h=>?_) (fun h=>?_) | refine condC_split (fun h=>?_) (fun h=>?_)) <;> (try simp only [h]) <;> (try simp only [NR_,NRb] at h)) | omega)
       all_goals first
        | (rw [f1,f2,if_neg hm2]; exact ⟨tk,St_le_same leA id⟩)
        | (exfalso; omega)
     ·have hm2 : ¬ m = 0:=fun h=>hP (.inl (hm0 h))
      by_cases hB : 1 < k ∧ 1 < D
      ·obtain ⟨f1,f2⟩:=step_B hP hB
       repeat' (first | (with_reducible first | refine AW_seq ?_ | refine AW_runCond ?_) | simp only [WL,intF,strF,WM,reduceCtorEq,WLb,Nat.reduceAdd,Bool.not_true,Bool.not_false,beq_self_eq_true,and_true,reduceIte,Bool.false_eq_true,ls_10,textI_app] | simp (disch:=first | omega | (simp only [LN_]; omega)) only [wrap_id,str_addT] | (with_reducible first | refine y_app (hlen:=?_) (hmax:=?_) (hK:=fun tk=>?_) | refine y_bs (hK:=?_) | refine y_build (hK:=?_)) | ((with_reducible first | refine grd_cases (fun h=>?_) (fun h=>?_) | refine condC_split (fun h=>?_) (fun h=>?_)) <;> (try simp only [h]) <;> (try simp only [NR_,NRb] at h)) | omega)
       all_goals first
        | (rw [f1,f2,if_neg hm2]; exact ⟨tk,St_le_same leA id⟩)
        | (exfalso; omega)
      ·obtain ⟨f1,f2⟩:=step_N hP hB
       repeat' (first | (with_reducible first | refine AW_seq ?_ | refine AW_runCond ?_) | simp only [WL,intF,strF,WM,reduceCtorEq,WLb,Nat.reduceAdd,Bool.not_true,Bool.not_false,beq_self_eq_true,and_true,reduceIte,Bool.false_eq_true,ls_10,textI_app] | simp (disch:=first | omega | (simp only [LN_]; omega)) only [wrap_id,str_addT] | (with_reducible first | refine y_app (hlen:=?_) (hmax:=?_) (hK:=fun tk=>?_) | refine y_bs (hK:=?_) | refine y_build (hK:=?_)) | ((with_reducible first | refine grd_cases (fun h=>?_) (fun h=>?_) | refine condC_split (fun h=>?_) (fun h=>?_)) <;> (try simp only [h]) <;> (try simp only [NR_,NRb] at h)) | omega)
       all_goals first
        | (rw [f1,f2,if_neg hm2,List.map_nil,List.append_nil]; exact ⟨tk,St_le_same leA id⟩)
        | (exfalso; omega)
    ·intro tk' _
     have hn0 : (if m = 0 then [] else [(10 : Int)]).length ≤ 1:=by split <;> simp
     have hs1:=stepE_le D k
     have hW2 : (WW ++ (stepE D k).map EVA).length ≤ 61:=by rw [List.length_append,List.length_map]; omega
     have hwm:=fun h=>word_more (D:=newD D k) (i:=m + 1) (l:=ks) h
     have hwl:=fun h=>word_last (D:=newD D k) (i:=m + 1) (l:=ks) h
     have hk2:=hkg (m + 1)
     have e4 : (wnI 0 (m + 1) ks).map EVA = (WW ++ (stepE D k).map EVA) ++ (if wordB (newD D k) (ks.drop (m + 1)) = true then [EVA wE] else []):=by
      rw [e2,List.map_append,List.map_append,hWW,List.append_assoc]
      split <;> rfl
     have hNl : (SS ++ if m = 0 then [] else [10]).length ≤ 3331:=by rw [List.length_append]; have:=hch.2; omega
     have e5 : lsT i b ks (m + 1) = (SS ++ if m = 0 then [] else [10]) ++ entT i b (newD D k,wordB (newD D k) (ks.drop (m + 1))):=by rw [e3,List.append_assoc]
     clear e2 e3
     generalize (SS ++ if m = 0 then [] else [10]) = S2 at *
     generalize WW ++ (stepE D k).map EVA = W2 at *
     generalize newD D k = D2 at *
     have hD2:=hD1.2 (by omega)
     have hjl : ∀ q : Nat,(List.replicate (i * q) (32 : Int)).length = i * q:=fun q=>List.length_replicate
     have hjq : ∀ q : Nat,q ≤ 20 → i * q ≤ 100:=fun q h=>Nat.le_trans (Nat.mul_le_mul (show i ≤ 5 by omega) h) (by decide)
     have hj1 : ∀ q : Nat,List.replicate (i * q) (32 : Int) ++ List.replicate i 32 = List.replicate (i * (q + 1)) 32:=fun q=>by rw [List.replicate_append_replicate,Nat.mul_succ]
     repeat' (first | with_reducible refine cut_unit (id:=28) ?_)
     refine midA (fun _ : Unit=>⟨(.sl 1 none (st.map fun n=>I n) :: I i :: B b :: .any::.any::.any::.any::B true :: .raw (.string (textI (S2 ++ if b = true then [32,32,35,32,99,10,10] else []))) :: .sl 6 (some tk') W2 :: I (D2 : Nat) :: .raw (.string (textI (List.replicate i 32))) :: .any::I m :: .any::.any::.any::.any::.any::.any::.any::.any::.any::.any::.any::.any::.any::.any::.any::.any::.any::.any::.any::.any::.any::.any::.any::.any::.any::.any::.any::.any::.any::.any::.any::.any::.any::.any::.any::.any::.any::.any::.any::.any::.any::.any::.any::.any::.any::.any::.any::.any::.any::.any::.any::.any::.any::.any::.any::.any::.any::.any::.any::.any::.any::.any::.any::.any::.any::.any::.any::.any::.any::.any::.any::.any::.any::.any::.any::.any::.any::.any::.any::.any::.any::.any::.any::.any::.any::.any::.any::.any::.any::.any::.any::.any::.any::.any::.any::.any::.any::.any::.any::.any::.any::.any::.any::.any::.any::.any::.any::.any::.any::.any::.any::.any::.any::.any::.any::.any::.any::.any::.any::.any::.any::.any::.any::.any::.any::.any::.any::.any::.any::.any::.any::.any::.any::.any::.any::.any::.any::.any::.any::.any::.any::.any::.any::.any::.any::.any::.any::.any::.any::.any::.any::[]),[.tip tk'],true,[]⟩) (fun _=>True) ?_ ?_
     ·cases b
      ·skip
       repeat' (first | (with_reducible first | refine AW_seq ?_ | refine AW_runCond ?_) | simp only [WL,WM,and_true,reduceIte,Bool.false_eq_true])
       try simp only [Bool.false_eq_true,if_false,List.append_nil]
       exact ⟨(),St_le_same leA id⟩
      ·skip
       repeat' (first | (with_reducible first | refine AW_seq ?_ | refine AW_runCond ?_) | simp only [WL,strF,WM,and_true,reduceIte,ls_c,textI_app] | simp (disch:=first | omega | (simp only [LN_]; omega)) only [str_addT])
       try simp only [if_true]
       exact ⟨(),St_le_same leA id⟩
     intro _ _
     unfold entT at e5
     rw [← List.append_assoc] at e5
     have hS3 : (S2 ++ if b = true then [32,32,35,32,99,10,10] else []).length ≤ 3338:=by rw [List.length_append]; split <;> simp <;> omega
     dsimp only at e5
     generalize (S2 ++ if b = true then [32,32,35,32,99,10,10] else []) = S3 at *
     repeat' (first | (with_reducible first | refine AW_block ?_ | refine cut_loop ?_ | refine AW_seqA (AW_seqA ?_) | refine AW_runReg ?_) | simp only [WL,WM])
     refine loopA (fun q : Nat=>⟨(.sl 1 none (st.map fun n=>I n) :: I i :: B b :: .any::.any::.any::.any::B true :: .raw (.string (textI (S3 ++ List.replicate (i * q) 32))) :: .sl 6 (some tk') W2 :: I (D2 : Nat) :: .raw (.string (textI (List.replicate i 32))) :: .any::I m :: .any::.any::I ((q : Nat) + 1) :: .any::.any::.any::.any::.any::.any::.any::.any::.any::.any::.any::.any::.any::.any::.any::.any::.any::.any::.any::.any::.any::.any::.any::.any::.any::.any::.any::.any::.any::.any::.any::.any::.any::.any::.any::.any::.any::.any::.any::.any::.any::.any::.any::.any::.any::.any::.any::.any::.any::.any::.any::.any::.any::.any::.any::.any::.any::.any::.any::.any::.any::.any::.any::.any::.any::.any::.any::.any::.any::.any::.any::.any::.any::.any::.any::.any::.any::.any::.any::.any::.any::.any::.any::.any::.any::.any::.any::.any::.any::.any::.any::.any::.any::.any::.any::.any::.any::.any::.any::.any::.any::.any::.any::.any::.any::.any::.any::.any::.any::.any::.any::.any::.any::.any::.any::.any::.any::.any::.any::.any::.any::.any::.any::.any::.any::.any::.any::.any::.any::.any::.any::.any::.any::.any::.any::.any::.any::.any::.any::.any::.any::.any::.any::.any::.any::.any::.any::.any::[]),[.tip tk'],true,[]⟩) (fun q=>q + 1 ≤ D2) (fun q=>D2 - q) 0 ?_ hD2 ?_
     ·exact St_le_same (by rw [Nat.mul_zero,List.replicate_zero,List.append_nil]; exact leA) id
     intro q hq
     have hj2:=hjl q
     have hj3:=hjq q (by omega)
     rcases Nat.lt_or_ge (q + 1) D2 with hqn | hqn
     ·skip
      repeat' (first | (with_reducible first | refine AW_seqA (AW_block ?_) | refine AW_seqA (AW_seqA ?_) | refine AW_seq ?_ | refine AW_runReg ?_ | refine AW_runCond ?_) | simp only [WL,intF,strF,WM,ne_eq,reduceCtorEq,not_false_eq_true,textI_app] | simp (disch:=first | omega | (simp only [LN_]; omega)) only [wrap_id,str_addT] | ((with_reducible first | refine grd_cases (fun h=>?_) (fun h=>?_) | refine condC_split (fun h=>?_) (fun h=>?_)) <;> (try simp only [h]) <;> (try simp only [NR_,NRb] at h)) | omega)
      exact ⟨q + 1,St_le_same (by rw [← hj1,← List.append_assoc]; exact leA) id,hqn,by omega⟩
     ·obtain rfl : q = D2 - 1:=by omega
      have hwd : wordB D2 (ks.drop (m + 1)) = decide (¬ (if m + 1 < st.length then ((ks.getD (m + 1) 0 : Nat) : Int) else 1) = 0 ∨ (20 : Int) ≤ D2 ∨ (m : Int) + 1 = st.length):=by
       rcases Nat.lt_or_ge (m + 1) st.length with hmm | hmm
       ·rw [hwm (by omega),if_pos hmm,Bool.eq_iff_iff]
        simp
        omega
       ·rw [hwl (by omega),if_neg (by omega)]
        simp
      have hS4 : (S3 ++ List.replicate (i * (D2 - 1)) 32).length ≤ 3450:=by rw [List.length_append,hj2]; omega
      rw [← List.append_assoc] at e5
      generalize (S3 ++ List.replicate (i * (D2 - 1)) 32) = S4 at *
      have hk3 : ∀ h : m + 1 < st.length,st.getD (m + 1) 0 % 4 = ((ks.getD (m + 1) 0 : Nat) : Int):=fun h=>(hk2 h).symm
      generalize ((ks.getD (m + 1) 0 : Nat) : Int) = k2 at *
      generalize wordB D2 (ks.drop (m + 1)) = wd at *
      have e6 : dI 0 (m + 1) ks = D2:=e1
      clear hks hkl hkg hk2 hwm hwl hjl hjq hj1 hj2 hj3 hS3 hm0 hD0 hD1 hk4 hkm hkm2 hch hs1 hn0 hWl e1 hNl hqn hq
      repeat' (first | (with_reducible first | refine cut_unit (id:=36) ?_ | refine AW_seqA (AW_block ?_) | refine AW_seqA (AW_seqA ?_) | refine AW_seq ?_ | refine AW_runReg ?_ | refine AW_runCond ?_) | simp only [WL,intF,strF,WM,ne_eq,reduceCtorEq,not_false_eq_true,ls_45,textI_app] | simp (disch:=first | omega | (simp only [LN_]; omega)) only [wrap_id,str_addT] | ((with_reducible first | refine grd_cases (fun h=>?_) (fun h=>?_) | refine condC_split (fun h=>?_) (fun h=>?_)) <;> (try simp only [h]) <;> (try simp only [NR_,NRb] at h)) | omega)
      refine midA (fun _ : Unit=>⟨(.sl 1 none (st.map fun n=>I n) :: I i :: B b :: .any::.any::.any::.any::B true :: .raw (.string (textI (S4 ++ [45]))) :: .sl 6 (some tk') W2 :: I (D2 : Nat) :: .raw (.string (textI (List.replicate i 32))) :: .any::I m :: .any::.any::.any::I (if m + 1 < st.length then k2 else 1) :: .any::.any::.any::.any::.any::.any::.any::.any::.any::.any::.any::.any::.any::.any::.any::.any::.any::.any::.any::.any::.any::.any::.any::.any::.any::.any::.any::.any::.any::.any::.any::.any::.any::.any::.any::.any::.any::.any::.any::.any::.any::.any::.any::.any::.any::.any::.any::.any::.any::.any::.any::.any::.any::.any::.any::.any::.any::.any::.any::.any::.any::.any::.any::.any::.any::.any::.any::.any::.any::.any::.any::.any::.any::.any::.any::.any::.any::.any::.any::.any::.any::.any::.any::.any::.any::.any::.any::.any::.any::.any::.any::.any::.any::.any::.any::.any::.any::.any::.any::.any::.any::.any::.any::.any::.any::.any::.any::.any::.any::.any::.any::.any::.any::.any::.any::.any::.any::.any::.any::.any::.any::.any::.any::.any::.any::.any::.any::.any::.any::.any::.any::.any::.any::.any::.any::.any::.any::.any::.any::.any::.any::.any::.any::.any::.any::.any::.any::[]),[.tip tk'],true,[]⟩) (fun _=>True) ?_ ?_
      ·rcases Nat.lt_or_ge (m + 1) st.length with hmm | hmm
       ·rw [if_pos hmm]
        have hk3 : st.getD ((m : Int) + 1).toNat 0 % 4 = k2:=by rw [show ((m : Int) + 1).toNat = m + 1 by omega]; exact hk3 hmm
        repeat' (first | (with_reducible first | refine AW_seq ?_ | refine AW_runCond ?_) | simp only [WL,intF,WM,reduceCtorEq,WLb,Nat.reduceAdd,true_and,and_true,T3,T22,fold_and,li_and3,hk3] | simp (disch:=first | omega | (simp only [LN_]; omega)) only [wrap_id,getI,getI] | with_reducible refine andA (hb:=?_) | ((with_reducible first | refine grd_cases (fun h=>?_) (fun h=>?_) | refine condC_split (fun h=>?_) (fun h=>?_)) <;> (try simp only [h]) <;> (try simp only [NR_,NRb] at h)) | omega)
        all_goals first
         | exact ⟨(),St_le_same leA id⟩
         | (exfalso; omega)
       ·rw [if_neg (by omega)]
        repeat' (first | (with_reducible first | refine AW_seq ?_ | refine AW_runCond ?_) | simp only [WL,intF,WM,reduceCtorEq,WLb,Nat.reduceAdd,true_and,and_true,T3,T22] | simp (disch:=first | omega | (simp only [LN_]; omega)) only [wrap_id,getI] | with_reducible refine andA (hb:=?_) | ((with_reducible first | refine grd_cases (fun h=>?_) (fun h=>?_) | refine condC_split (fun h=>?_) (fun h=>?_)) <;> (try simp only [h]) <;> (try simp only [NR_,NRb] at h)) | omega)
        all_goals first
         | exact ⟨(),St_le_same leA id⟩
         | (exfalso; omega)
      intro _ _
      generalize (if m + 1 < st.length then k2 else 1) = nx at *
      have hS5 : (S4 ++ [45]).length ≤ 3451:=by simp; omega
      unfold markT at e5
      cases wd
      ·simp only [Bool.false_eq_true,if_false,List.append_nil] at e4 e5
       have hwd:=of_decide_eq_false hwd.symm
       generalize S4 ++ [45] = S5 at *
       repeat' (first | (with_reducible first | refine AW_seq ?_ | refine AW_runReg ?_ | refine AW_runCond ?_) | simp only [WL,intF,strF,WM,ne_eq,reduceCtorEq,not_false_eq_true,Bool.not_false,true_and,reduceIte,Bool.false_eq_true,T22] | simp (disch:=first | omega | (simp only [LN_]; omega)) only [wrap_id] | ((with_reducible first | refine grd_cases (fun h=>?_) (fun h=>?_) | refine condC_split (fun h=>?_) (fun h=>?_)) <;> (try simp only [h]) <;> (try simp only [NR_,NRb] at h)) | omega)
       all_goals first
        | (exfalso; omega)
        | (refine ⟨⟨m + 1,tk'⟩, ?_,hmn,by dsimp only; omega⟩; dsimp only; rw [e4,e5,e6]; exact St_le_same leA id)
      ·simp only [if_true] at e4 e5
       have hwd:=of_decide_eq_true hwd.symm
       have e5 : lsT i b ks (m + 1) = (S4 ++ [45]) ++ [32,119]:=by rw [e5]; simp
       have ew : (EVA wE) = .agg [I 7,.raw (.string (textI [119])),.raw (.string .empty),.raw (.string .empty),I 1,B false]:=rfl
       generalize S4 ++ [45] = S5 at *
       repeat' (first | (with_reducible first | refine AW_seq ?_ | refine AW_runReg ?_ | refine AW_runCond ?_) | simp only [WL,intF,strF,WM,reduceCtorEq,WLb,Nat.reduceAdd,Bool.not_false,true_and,reduceIte,Bool.false_eq_true,T22,cok11,ls_w,ls_w1,textI_app] | simp (disch:=first | omega | (simp only [LN_]; omega)) only [wrap_id,str_addT] | (with_reducible first | refine y_app (hlen:=?_) (hmax:=?_) (hK:=fun tk=>?_) | refine y_bs (hK:=?_) | refine cD (lPlainW ?_)) | ((with_reducible first | refine grd_cases (fun h=>?_) (fun h=>?_) | refine condC_split (fun h=>?_) (fun h=>?_)) <;> (try simp only [h]) <;> (try simp only [NR_,NRb] at h)) | omega)
       all_goals first
        | (exfalso; omega)
        | (refine ⟨⟨m + 1,tk⟩, ?_,hmn,by dsimp only; omega⟩; dsimp only; rw [e4,e5,e6]; exact St_le_same leA id)
   ·obtain rfl : m = st.length:=by omega
    have hwa : wnI 0 st.length ks = wnS 0 ks:=by have:=wnI_all (l:=ks) (D:=0); rw [hkl] at this; exact this
    have hda : dI 0 st.length ks = endD 0 ks:=by show endD 0 (ks.take st.length) = _; rw [← hkl,List.take_length]
    have hD:=(dI_pos (D:=0) (l:=ks) (i:=st.length) (by omega) (by decide)).1
    generalize hWW : (wnI 0 st.length ks).map EVA = WW at *
    generalize hEE : dI 0 st.length ks = DD at *
    rw [hwa] at hWW
    have hRl : ∀ q : Nat,((List.replicate q shE4).map EVA).length = q:=fun q=>by simp
    repeat' (first | (with_reducible first | refine AW_seqA (AW_block ?_) | refine cut_loop ?_ | refine AW_seqA (AW_seqA ?_) | refine AW_runReg ?_ | refine AW_runCond ?_) | simp only [WL,intF,WM,ne_eq,reduceCtorEq,not_false_eq_true,true_and,T22,dec_irr2])
    refine loopA (fun z : LsS=>⟨(.sl 1 none (st.map fun n=>I n) :: I i :: B b :: .any::.any::.any::.any::B true :: .raw (.string (textI (lsT i b ks st.length))) :: .sl 6 (some z.tk) (WW ++ (List.replicate (DD - z.i) shE4).map EVA) :: I (z.i : Nat) :: .any::.any::.any::.any::.any::.any::.any::.any::.any::.any::.any::.any::.any::.any::.any::.any::.any::.any::.any::.any::.any::.any::.any::.any::.any::.any::.any::.any::.any::.any::.any::.any::.any::.any::.any::.any::.any::.any::.any::.any::.any::.any::.any::.any::.any::.any::.any::.any::.any::.any::.any::.any::.any::.any::.any::.any::.any::.any::.any::.any::.any::.any::.any::.any::.any::.any::.any::.any::.any::.any::.any::.any::.any::.any::.any::.any::.any::.any::.any::.any::.any::.any::.any::.any::.any::.any::.any::.any::.any::.any::.any::.any::.any::.any::.any::.any::.any::.any::.any::.any::.any::.any::.any::.any::.any::.any::.any::.any::.any::.any::.any::.any::.any::.any::.any::.any::.any::.any::.any::.any::.any::.any::.any::.any::.any::.any::.any::.any::.any::.any::.any::.any::.any::.any::.any::.any::.any::.any::.any::.any::.any::.any::.any::.any::.any::.any::.any::.any::.any::.any::.any::.any::.any::.any::[]),[.tip z.tk],true,[]⟩) (fun z=>z.i ≤ DD) (fun z=>z.i) ⟨DD,tk⟩ ?_ (Nat.le_refl _) ?_
    ·dsimp only
     rw [Nat.sub_self,List.replicate_zero,List.map_nil,List.append_nil]
     exact St_le_same leA id
    rintro ⟨q,tk2⟩ hq
    dsimp only at hq ⊢
    have hq2:=hRl (DD - q)
    rcases Nat.eq_zero_or_pos q with h0 | h0
    ·subst h0
     have hfin : WW ++ (List.replicate (DD - 0) shE4).map EVA = (wnS 0 ks ++ List.replicate (endD 0 ks) shE4).map EVA:=by rw [← hWW,Nat.sub_zero,List.map_append,← hda]
     have hz : decide ((0 : Int) < ((0 : Nat) : Int)) = false:=rfl
     rcases Nat.eq_zero_or_pos st.length with hs0 | hs0
     ·have hs1 : ((st.length : Int) == 0) = true:=by rw [hs0]; rfl
      repeat' (first | (with_reducible first | refine AW_seqA (AW_seqA ?_) | refine AW_runReg ?_ | refine AW_runCond ?_) | simp only [WL,intF,WM,ne_eq,reduceCtorEq,not_false_eq_true,true_and,T22,Tryz.results3,hz,hs1])
      all_goals first
       | exact leafL subA (leT_eq rfl) rfl
       | (exfalso; omega)
     ·obtain ⟨ev,kk,d1,d2,hA,hsm,hl0⟩:=ls_all (b:=b) hkl hs0 r1 (show 0 < i by omega) (by omega)
      have hAb : Asc (bytesI (textI (lsT i b ks st.length))):=by rw [asc_text hA]; exact hA
      have hbt:=asc_text hA
      rw [d2] at hfin
      have hevl : ev.length ≤ 1000000000:=by
       have:=congrArg List.length hfin
       rw [List.length_append,List.length_map,List.length_map,List.length_replicate] at this
       omega
      have hc0 : (0 : Int) ≤ 0 ∧ 0 - (lineP (readR (lsT i b ks st.length)).1 0).1 ≤ (lineP (readR (lsT i b ks st.length)).1 0).2.length:=by
       have:=(hsm.at_ (i:=0) (by omega)).2.1
       refine ⟨by decide, ?_⟩
       show 0 - ((readR (lsT i b ks st.length)).1.getD 0 (0,[])).1 ≤ _
       omega
      generalize lsT i b ks st.length = TT at *
      generalize hLS : (readR TT).1 = LS at *
      generalize (List.replicate (DD - 0) shE4).map EVA = RR at *
      generalize WW ++ RR = WR at *
      repeat' (first | (with_reducible first | refine AW_seqA (AW_seqA ?_) | refine AW_seq ?_ | refine AW_runReg ?_ | refine AW_runCond ?_ | refine AW_runRet ?_) | simp only [WL,intF,WM,reduceCtorEq,WLb,Nat.reduceAdd,Nat.reduceLT,beq_self_eq_true,true_and,reduceIte,T22,cok12,cok13,cok14,cok15,Tryz.results3,hz,hbt,hLS,hfin] | (with_reducible first | refine cD (lLines hAb ?_) | refine callD_mk (zNodeOk0 d1 hsm ⟨by decide,hl0⟩ hc0 (fun rb rc cs hrc=>?_)) | refine cD (rSameRow (l:=ev) hevl ?_) | refine cD (lNum4 ?_)) | ((with_reducible first | refine grd_cases (fun h=>?_) (fun h=>?_) | refine condC_split (fun h=>?_) (fun h=>?_)) <;> (try simp only [h]) <;> (try simp only [NR_,NRb] at h)) | omega)
      all_goals first
       | exact leafL subA (leT_eq rfl) rfl
       | (exfalso; omega)
    ·have hsn : (List.replicate (DD - q) shE4).map EVA ++ [EVA shE4] = (List.replicate (DD - (q - 1)) shE4).map EVA:=by
      rw [show DD - (q - 1) = (DD - q) + 1 by omega,List.replicate_succ',List.map_append]; rfl
     generalize (List.replicate (DD - q) shE4).map EVA = RR at *
     have hqd : decide ((0 : Int) < ((q : Nat) : Int)) = true:=decide_eq_true (by omega)
     repeat' (first | (with_reducible first | refine AW_seqA (AW_block ?_) | refine AW_seqA (AW_seqA ?_) | refine AW_runReg ?_ | refine AW_runCond ?_) | simp only [WL,intF,WM,reduceCtorEq,WLb,Nat.reduceAdd,hqd] | simp (disch:=first | omega | (simp only [LN_]; omega)) only [wrap_id] | (with_reducible first | refine y_app (hlen:=?_) (hmax:=?_) (hK:=fun tk=>?_) | refine y_bs (hK:=?_) | refine y_build (hK:=?_)) | (simp only [LN_]; omega))
     all_goals first
      | (exfalso; omega)
      | (refine ⟨⟨q - 1,tk⟩, ?_,by dsimp only; omega,by dsimp only; omega⟩; dsimp only; rw [← hsn,← List.append_assoc]; exact St_le_same leA id)
 ·skip
  refine ACallF.dropL (ACallF_intro Tryz.func3 rfl ?_)
  simp only [Tryz.ntmps3]
  repeat' (first | simp only [WL,intF,WM,reduceCtorEq,WLb,Nat.reduceAdd,Nat.reduceSub,Bool.not_true,Bool.not_false,true_and,reduceIte,Bool.false_eq_true,T22,cok10,Tryz.results3] | with_reducible refine cD (lAlive4 ?_) | ((with_reducible first | refine grd_cases (fun h=>?_) (fun h=>?_) | refine condC_split (fun h=>?_) (fun h=>?_)) <;> (try simp only [h]) <;> (try simp only [NR_,NRb] at h)) | omega)
  all_goals first
   | exact leafL sub_rfl (leT_eq rfl) rfl
   | (exfalso; omega)
end Go.Proofs.YthkabaiamcjdbaaGreat
