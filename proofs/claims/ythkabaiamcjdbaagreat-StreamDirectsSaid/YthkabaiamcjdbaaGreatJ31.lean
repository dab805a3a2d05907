/-
  Texts Vc, one behind the other.
-/
import Derived.Test.YthkabaiamcjdbaaGreatJ30
set_option linter.unusedVariables false
set_option maxRecDepth 4000
set_option linter.unusedSimpArgs false
set_option maxHeartbeats 16000000
namespace Go.Proofs.YthkabaiamcjdbaaGreat
open Go.Abs
variable {κ:Ctx} {σ:List Res} {K:Ret→List Res→Prop} {o o':Option (Option (Nat × Nat))}
abbrev zi (m:Bool):EvV:=⟨1,.empty,.empty,.empty,0,m⟩
abbrev zh (d:Bool):EvV:=⟨2,.empty,.empty,.empty,0,d⟩
def gY (m d:Bool) (ev:List EvV):List EvV:=zi m::(ev++[zh d])
theorem M4 {k:Int}{t:List Int} (h:¬aZ k t=0):k=0:=by
 unfold aZ at h;split at h
 ·rename_i h1;exact h1.1
 ·exact absurd rfl h
theorem AA {l ev:List EvV}{m d:Bool}{b c:Nat}{cs:List AV} (h1:cs.length=c * 6) (h2:l.length+1+ev.length+1≤c) (h3:cs.take ((l.length+1+ev.length+1) * 6)=aD (l.map EVA)++aD [EVA (zi m)]++aD (ev.map EVA)++aD [EVA (zh d)]):RowR 6 (bT b 0 (l.length+1+ev.length+1) c) ((l++gY m d ev).map EVA) [.obj b cs]:=by
 have hll:((l++gY m d ev).map EVA).length=l.length+1+ev.length+1:=by simp [gY];omega
 have:=RowR.row (sz:=6) (b:=b) (c:=c) (cs:=cs) (l:=(l++gY m d ev).map EVA) (by omega) (by rw [hll];exact h2) h1 (by rw [hll,h3];simp [gY,aD])
 rwa [hll] at this
theorem wA {l ev:List EvV}{L:List AV}{m d:Bool}{b c:Nat}{cs cs1 cs2 cs3:List AV} (hmL:l.map EVA=L) (kt:cs.take (L.length * 6)=aD L) (h1:cs1.take ((L.length + [EVA (zi m)].length) * 6)=cs.take (L.length * 6)++aD [EVA (zi m)]) (h2:cs2.take ((L.length+1+(ev.map EVA).length) * 6)=cs1.take ((L.length+1) * 6)++aD (ev.map EVA))
  (h3:cs3.take ((L.length+1+ev.length + [EVA (zh d)].length) * 6)=cs2.take ((L.length+1+ev.length) * 6)++aD [EVA (zh d)]) (hq1:cs3.length=c * 6) (hq2:L.length+1+ev.length + [EVA (zh d)].length≤c):RowR 6 (bT b 0 (L.length+1+ev.length+1) c) ((l++gY m d ev).map EVA) [.obj b cs3]:=by
 subst hmL;rw [List.length_map] at kt h1 h2 h3 hq2 ⊢;rw [List.length_map] at h2;refine AA hq1 hq2 ?_;have h3:cs3.take ((l.length+1+ev.length+1) * 6)=_:=h3
 have h1:cs1.take ((l.length+1) * 6)=_:=h1
 rw [h3,h2,h1,kt]
theorem wq {ev:List EvV}{m d:Bool}{b c:Nat}{cs1 cs2 cs3:List AV} (h1:cs1.take ([EVA (zi m)].length * 6)=aD [EVA (zi m)]) (h2:cs2.take ((1+(ev.map EVA).length) * 6)=cs1.take (1 * 6)++aD (ev.map EVA))
  (h3:cs3.take ((1+ev.length + [EVA (zh d)].length) * 6)=cs2.take ((1+ev.length) * 6)++aD [EVA (zh d)]) (hq1:cs3.length=c * 6) (hq2:1+ev.length + [EVA (zh d)].length≤c):RowR 6 (bT b 0 (1+ev.length+1) c) (([]++gY m d ev).map EVA) [.obj b cs3]:=by
 rw [List.length_map] at h2;have h3:cs3.take ((1+ev.length+1) * 6)=_:=h3
 have h1:cs1.take (1 * 6)=_:=h1
 have:=AA (l:=[]) (ev:=ev) (m:=m) (d:=d) (b:=b) (c:=c) (cs:=cs3) hq1 (by simpa using hq2) (by rw [List.length_nil,Nat.zero_add,h3,h2,h1];rfl)
 rw [List.length_nil,Nat.zero_add] at this;exact this
end Go.Proofs.YthkabaiamcjdbaaGreat
