/-
  Texts Ie, one behind the other.
-/
import Derived.Test.YthkabaiamcjdbaaGreatJ27
set_option linter.unusedVariables false
set_option linter.unusedSimpArgs false
set_option maxHeartbeats 16000000
namespace Go.Proofs.YthkabaiamcjdbaaGreat
open Go.Abs
variable {κ:Ctx} {σ:List Res} {K:Ret→List Res→Prop} {o o':Option (Option (Nat × Nat))}
theorem Q4 {b:List Int} (hb:Asc b) (h1:1 < b.length) (h3:b.length≤3) (hK:K (.ret (.tup [I 1,I 0])) σ):ACallF κ Tryz.prog 36 [SU o b] σ K:=by
 have hbl:=hb.1
 have z:∀ k,k < b.length→(b.getD k 0 == 0)=false∧(b.getD k 0 != 0)=true:=fun k h=>by
  have:=hb.at_ h
  have e:(b.getD k 0 == 0)=false:=beq_eq_false_iff_ne.2 (by omega)
  exact ⟨e,by unfold bne;rw [e];rfl⟩
 obtain ⟨x0,y0⟩:=z 0 (by omega);obtain ⟨x1,y1⟩:=z 1 (by omega);refine ACallF.dropL (aa Tryz.func36 rfl ?_);simp only [Tryz.ntmps36]
 repeat' (first|simp only [WL,ay,WM,Int.reduceToNat,reduceCtorEq,bg,Nat.reduceAdd,Nat.reduceSub,Bool.not_true,true_and,reduceIte,Bool.false_eq_true,T5,sn,IW,Tryz.results36,x0,y0,x1]|simp (disch:=first|omega|(simp only [aU];omega)) only [za]|(with_reducible first|refine ax (hb:=?_)|refine dp (hK:=?_))|( refine callD_mk (ACallF.argsS (ys:=[SU o b,SU none [0,0,254,255]]) ⟨cw,dJ le_ro,trivial⟩ (jM hb (by decide) (by decide) ?_)))|( refine callD_mk (ACallF.argsS (ys:=[SU o b,SU none [255,254,0,0]]) ⟨cw,dJ le_ro,trivial⟩ (jM hb (by decide) (by decide) ?_)))|( refine callD_mk (ACallF.argsS (ys:=[SU o b,SU none [254,255]]) ⟨cw,dJ le_ro,trivial⟩ (jM hb (by decide) (by decide) ?_)))|( refine callD_mk (ACallF.argsS (ys:=[SU o b,SU none [255,254]]) ⟨cw,dJ le_ro,trivial⟩ (jM hb (by decide) (by decide) ?_)))|( refine callD_mk (ACallF.argsS (ys:=[SU o b,SU none [239,187,191]]) ⟨cw,dJ le_ro,trivial⟩ (jM hb (by decide) (by decide) ?_)))|((with_reducible first|refine ai (fun h=>?_) (fun h=>?_)|refine ab (fun h=>?_) (fun h=>?_))<;>(try simp only [h])<;>(try simp only [bf,ba] at h))|omega)
 all_goals first
  | exact ak ae (aj rfl) hK
  | (exfalso;omega)
end Go.Proofs.YthkabaiamcjdbaaGreat
