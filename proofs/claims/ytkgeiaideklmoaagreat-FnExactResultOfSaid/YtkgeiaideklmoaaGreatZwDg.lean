/- Offices in memory of their own. -/
import Derived.Test.YtkgeiaideklmoaaGreatZwDb
import Derived.Test.YtkgeiaideklmoaaGreatZwSh
import Derived.Test.YtkgeiaideklmoaaGreatVuS
set_option linter.all false
set_option maxHeartbeats 8000000
namespace Go.Proofs.YtkgeiaideklmoaaGreat
open Go.Vs
variable [Vs.Envs]
attribute [local irreducible] Vs.Fn chOK areCh chTo chAt l03 chB rk cd3 chI stp stpTo
structure OM where
 xt:Option Nat
 ct:Nat
 TV:List Sl
 M:Nat→Vs.Mem
 xs:Option Nat
 cx:Nat
 SV:List Sl
 ys:Nat→Option Nat
 cs:Nat→Nat
def OM.DT (m:OM) (b:Nat):Prop:=m.xt=some b∨∃i,i<m.TV.length∧(m.M i).D b
def OM.DS (m:OM) (b:Nat):Prop:=m.xs=some b∨∃i,i<m.SV.length∧m.ys i=some b
def OM.D (m:OM) (b:Nat):Prop:=m.DT b∨m.DS b
structure OfM (w:World) (o:Off) (tv sv:Value) (m:OM):Prop where
 tr:Vs.Own (fun _=>False) w m.xt m.ct 1 (E sV m.TV) tv
 tn:o.trays.length=m.TV.length
 dk:∀i,i<m.TV.length→Vs.Dk w ((o.trays.getD i []).map (E cI)) (slW (m.TV.getD i default)) (m.M i)
 tdis:∀i j b,i<m.TV.length→j<m.TV.length→(m.M i).D b→(m.M j).D b→i=j
 tout:∀i b,i<m.TV.length→(m.M i).D b→m.xt≠some b
 sr:Vs.Own (fun _=>False) w m.xs m.cx 1 (E sV m.SV) sv
 sl:Vs.pM (fun _=>False) w 2 (o.totals.map (E cT)) (m.SV.map slW) m.ys m.cs
 sout:∀i b,i<m.SV.length→m.ys i=some b→m.xs≠some b
 dis:∀b,m.DT b→¬m.DS b
 lt:∀b,m.D b→b<w.heap.size
theorem OfM.same {w w':World}{o:Off}{J I:Value}{m:OM} (h:OfM w o J I m) (H:w.heap.size≤w'.heap.size) (G:∀b,m.D b→w'.heap[b]? = w.heap[b]?):OfM w' o J I m:=
 ⟨h.tr.mono (fun _ _ h=>h) fun b F=>G b (.inl (.inl F)),h.tn,fun i hi=>(h.dk i hi).same H fun b F=>G b (.inl (.inr ⟨i,hi,F⟩)),h.tdis,h.tout,h.sr.mono (fun _ _ h=>h) fun b F=>G b (.inr (.inl F)),
   h.sl.mono (fun _ _ _ _ h=>h) fun i b hi F=>G b (.inr (.inr ⟨i,by simpa using hi,F⟩)),h.sout,h.dis,fun b F=>Nat.lt_of_lt_of_le (h.lt b F) H⟩
theorem OfM.past {w w':World}{S S':Nat→Prop}{o:Off}{H G:Value}{m:OM} (h:OfM w o H G m) (I:∀b,m.D b→S b) (F:Vs.Past S w S' w'):OfM w' o H G m:=h.same F.size fun b J=>F.old b (I b J)
theorem OfM.sn {w:World}{o:Off}{G F:Value}{m:OM} (h:OfM w o G F m):o.totals.length=m.SV.length:=by simpa using h.sl.len
theorem aG1 (l:List (List Tot)):(l.map fun t=>AV.sl 2 (E cT t)).map (fun x=>[x])=E cTs l:=by rw[List.map_map];rfl
theorem aJA (l:List (List (List Int))):(l.map fun d=>AV.sl 1 (E cC d)).map (fun x=>[x])=E cD l:=by rw[List.map_map];rfl
theorem OfM.rdT {w:World}{o:Off}{H Y:Value}{m:OM} (h:OfM w o H Y m):RC m.DT w (.sl 1 (E cD o.trays)) H:=by
 have:=Vs.vZ (D:=fun b=>∃i,i<m.TV.length∧(m.M i).D b) (ss:=m.TV.map slW) (xs:=o.trays.map fun d=>AV.sl 1 (E cC d)) (by rw[aDv];exact h.tr.rc) (by simp[h.tn]) fun j U=>by
  have F:j<m.TV.length:=by simpa using U
  have G:j<o.trays.length:=by rw[h.tn];exact F
  have I:(o.trays.map fun d=>AV.sl 1 (E cC d)).getD j .junk=.sl 1 (E cC o.trays[j]):=by simp[G]
  have J:(m.TV.map slW).getD j undef=slW (m.TV.getD j default):=by simp[F]
  have L:o.trays.getD j []=o.trays[j]:=by simp[G]
  rw[I,J,←aGW,←L];exact(h.dk j F).rd.mono (fun b O=>⟨j,F,O⟩) fun _ _=>rfl
 rw[aJA] at this;exact this.mono (fun _ h=>h) fun _ _=>rfl
theorem OfM.rdS {w:World}{o:Off}{U J:Value}{m:OM} (h:OfM w o U J m):RC m.DS w (.sl 1 (E cTs o.totals)) J:=by
 have I:=h.sn
 have:=Vs.vZ (D:=fun b=>∃i,i<m.SV.length∧m.ys i=some b) (ss:=m.SV.map slW) (xs:=o.totals.map fun t=>AV.sl 2 (E cT t)) (by rw[aDv];exact h.sr.rc) (by simp[I]) fun j H=>by
  have F:j<m.SV.length:=by simpa using H
  have G:j<o.totals.length:=by rw[I];exact F
  have L:(o.totals.map fun t=>AV.sl 2 (E cT t)).getD j .junk=.sl 2 (E cT o.totals[j]):=by simp[G]
  have M:(o.totals.map (E cT)).getD j []=E cT o.totals[j]:=by simp[G]
  rw[L,←M];exact(h.sl.row j H).rc.mono (fun b O=>⟨j,F,O⟩) fun _ _=>rfl
 rw[aG1] at this;exact this.mono (fun _ h=>h) fun _ _=>rfl
theorem OfM.rd {w:World}{o:Off}{G F:Value}{m:OM} (h:OfM w o G F m):RC m.D w (.agg (cO o)) (.agg #[G,F]):=
 .agg _ _ rfl fun j H=>by
  match j,H with
  |0,_=>exact h.rdT.mono (fun _ h=>.inl h) fun _ _=>rfl
  |1,_=>exact h.rdS.mono (fun _ h=>.inr h) fun _ _=>rfl
def OfNew (w w':World) (o:Off) (tv sv:Value):Prop:=∃m,OfM w' o tv sv m∧∀b,m.D b→w.heap.size≤b
end Go.Proofs.YtkgeiaideklmoaaGreat
