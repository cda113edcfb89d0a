/- Offices in memory of their own. -/
import Derived.Test.YtkgeiaideklmoaaGreatZwDb
import Derived.Test.YtkgeiaideklmoaaGreatZwC
import Derived.Test.YtkgeiaideklmoaaGreatVuS
set_option linter.all false
set_option maxHeartbeats 8000000
namespace Go.Proofs.YtkgeiaideklmoaaGreat
open Go.Vs
variable [Vs.Envs]
attribute [local irreducible] Vs.Fn bK aO bL bM l03 chB rk cd3 chI stp aP
structure OM where
 xt:Option Nat
 ct:Nat
 TV:List Sl
 M:Nat->Vs.Mem
 xs:Option Nat
 cx:Nat
 SV:List Sl
 ys:Nat->Option Nat
 cs:Nat->Nat
def OM.DT (m:OM) (b:Nat):Prop:=m.xt=some b∨∃i,i<m.TV.length∧(m.M i).D b
def OM.DS (m:OM) (b:Nat):Prop:=m.xs=some b∨∃i,i<m.SV.length∧m.ys i=some b
def OM.D (m:OM) (b:Nat):Prop:=m.DT b∨m.DS b
structure OfM (w:World) (o:Off) (tv sv:Value) (m:OM):Prop where
 tr:Vs.Own (λ_=>False) w m.xt m.ct 1 (E sV m.TV) tv
 tn:o.trays.length=m.TV.length
 dk:∀i,i<m.TV.length->Vs.Dk w ((o.trays.getD i []).map (E cI)) (slW (m.TV.getD i default)) (m.M i)
 tdis:∀i j b,i<m.TV.length->j<m.TV.length->(m.M i).D b->(m.M j).D b->i=j
 tout:∀i b,i<m.TV.length->(m.M i).D b->m.xt≠some b
 sr:Vs.Own (λ_=>False) w m.xs m.cx 1 (E sV m.SV) sv
 sl:mD (λ_=>False) w 2 (o.totals.map (E cT)) (m.SV.map slW) m.ys m.cs
 sout:∀i b,i<m.SV.length->m.ys i=some b->m.xs≠some b
 dis:∀b,m.DT b->¬m.DS b
 lt:∀b,m.D b->b<w.heap.size
theorem OfM.same {w w':World}{o:Off}{L J:Value}{m:OM} (h:OfM w o L J m) (I:w.heap.size<=w'.heap.size) (H:∀b,m.D b->w'.heap[b]? = w.heap[b]?):OfM w' o L J m:=
 ⟨h.tr.mono (λ_ _ h=>h) λb F=>H b (.inl (.inl F)),h.tn,λi hi=>(h.dk i hi).same I λb F=>H b (.inl (.inr ⟨i,hi,F⟩)),h.tdis,h.tout,h.sr.mono (λ_ _ h=>h) λb F=>H b (.inr (.inl F)),
   h.sl.mono (λ_ _ _ _ h=>h) λi b hi F=>H b (.inr (.inr ⟨i,by simpa using hi,F⟩)),h.sout,h.dis,λb F=>AZ (h.lt b F) I⟩
theorem OfM.past {w w':World}{S S':Nat->Prop}{o:Off}{I H:Value}{m:OM} (h:OfM w o I H m) (J:∀b,m.D b->S b) (F:Vs.Past S w S' w'):OfM w' o I H m:=h.same F.size λb L=>F.old b (J b L)
theorem OfM.sn {w:World}{o:Off}{H F:Value}{m:OM} (h:OfM w o H F m):o.totals.length=m.SV.length:=by simpa using h.sl.len
theorem aMQ (l:List (List Tot)):(l.map λt=>AV.sl 2 (E cT t)).map (λx=>[x])=E cTs l:=by rw[Cc];rfl
theorem aN8 (l:List (List (List Int))):(l.map λd=>AV.sl 1 (E cC d)).map (λx=>[x])=E cD l:=by rw[Cc];rfl
theorem OfM.rdT {w:World}{o:Off}{I Z:Value}{m:OM} (h:OfM w o I Z m):RC m.DT w (.sl 1 (E cD o.trays)) I:=by
 have:=aCJ (D:=λb=>∃i,i<m.TV.length∧(m.M i).D b) (ss:=m.TV.map slW) (xs:=o.trays.map λd=>AV.sl 1 (E cC d)) (by rw[aEL];exact h.tr.rc) (by simp[h.tn]) λj Y=>by
  have F:j<m.TV.length:=by simpa using Y
  have H:j<o.trays.length:=by rw[h.tn];exact F
  have J:(o.trays.map λd=>AV.sl 1 (E cC d)).getD j .junk=.sl 1 (E cC o.trays[j]):=by simp[H]
  have L:(m.TV.map slW).getD j undef=slW (m.TV.getD j default):=by simp[F]
  have O:o.trays.getD j []=o.trays[j]:=by simp[H]
  rw[J,L,←deckE,←O];exact(h.dk j F).rd.mono (λb U=>⟨j,F,U⟩) λ_ _=>rfl
 rw[aN8] at this;exact this.mono (λ_ h=>h) λ_ _=>rfl
theorem OfM.rdS {w:World}{o:Off}{Z L:Value}{m:OM} (h:OfM w o Z L m):RC m.DS w (.sl 1 (E cTs o.totals)) L:=by
 have J:=h.sn
 have:=aCJ (D:=λb=>∃i,i<m.SV.length∧m.ys i=some b) (ss:=m.SV.map slW) (xs:=o.totals.map λt=>AV.sl 2 (E cT t)) (by rw[aEL];exact h.sr.rc) (by simp[J]) λj I=>by
  have F:j<m.SV.length:=by simpa using I
  have H:j<o.totals.length:=by rw[J];exact F
  have O:(o.totals.map λt=>AV.sl 2 (E cT t)).getD j .junk=.sl 2 (E cT o.totals[j]):=by simp[H]
  have U:(o.totals.map (E cT)).getD j []=E cT o.totals[j]:=by simp[H]
  rw[O,←U];exact(h.sl.row j I).rc.mono (λb Y=>⟨j,F,Y⟩) λ_ _=>rfl
 rw[aMQ] at this;exact this.mono (λ_ h=>h) λ_ _=>rfl
theorem OfM.rd {w:World}{o:Off}{H F:Value}{m:OM} (h:OfM w o H F m):RC m.D w (.agg (cO o)) (.agg #[H,F]):=
 .agg _ _ rfl λj I=>by
  match j,I with
  |0,_=>exact h.rdT.mono (λ_ h=>.inl h) λ_ _=>rfl
  |1,_=>exact h.rdS.mono (λ_ h=>.inr h) λ_ _=>rfl
def aBa (w w':World) (o:Off) (tv sv:Value):Prop:=∃m,OfM w' o tv sv m∧∀b,m.D b->w.heap.size<=b
end Go.Proofs.YtkgeiaideklmoaaGreat
