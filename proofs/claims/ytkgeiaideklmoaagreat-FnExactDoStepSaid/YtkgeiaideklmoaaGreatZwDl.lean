/- A run of the program answers an office in memory of its own. -/
import Derived.Test.YtkgeiaideklmoaaGreatZwDk
import Derived.Test.YtkgeiaideklmoaaGreatZwVu
set_option linter.all false
set_option maxHeartbeats 8000000
namespace Go.Proofs.YtkgeiaideklmoaaGreat
open Go.Vs
variable [Vs.Envs]
attribute [local irreducible] Vs.Fn aZ mgC iN mtC iU pJ mat uF dkC dkL jS kS mY wO dsC stO bL aP bM bP l03 chB rk cd3 chI stp aQ
theorem iI {S:Nat->Prop}{w:World}{x y u:Value} (h:RC S w (.agg [.v x,.v y]) u):u=.agg #[x,y]:=by
 cases h with
 | agg _ vs hl hr =>
  have h0:=hr 0 (by simp);have F:=hr 1 (by simp)
  have H:vs.getD 0 undef=x:=by
   generalize vs.getD 0 undef=z at h0;cases h0;rfl
  have I:vs.getD 1 undef=y:=by
   generalize vs.getD 1 undef=z at F;cases F;rfl
  rw[vK hl,H,I]
theorem aHw {S:Nat->Prop}{w:World} (x y:Value):RC S w (.agg [.v x,.v y]) (.agg #[x,y]):=.agg _ _ rfl λj F=>by
 match j,F with
 |0,_=>exact .v _
 |1,_=>exact .v _
theorem aMw {S:Nat->Prop}{w:World} (x y c:Value):RC S w (.tup [.agg [.v x,.v y],.v c]) (.tuple #[.agg #[x,y],c]):=.tup _ _ rfl λj F=>by
 match j,F with
 |0,_=>exact aHw x y
 |1,_=>exact .v _
theorem aJV {S:Nat->Prop}{w:World}{x y c u:Value} (h:RC S w (.tup [.agg [.v x,.v y],.v c]) u):u=.tuple #[.agg #[x,y],c]:=by
 cases h with
 | tup _ vs hl hr =>
  have h0:=iI (hr 0 (by simp));have F:=hr 1 (by simp)
  have H:vs.getD 1 undef=c:=by
   generalize vs.getD 1 undef=z at F;cases F;rfl
  rw[vK hl,h0,H]
theorem OfM.sls {w:World}{o:Off}{H F:Value}{m:OM} (h:OfM w o H F m):∃t s:Sl,H=slW t∧F=slW s:=by
 have I:=h.rdT;have h2:=h.rdS;cases I;cases h2;exact⟨(_,_,_),(_,_,_),rfl,rfl⟩
theorem aJM {S:Nat->Prop}{w:World}{ρ:Vs.Name->Option Nat}{κ:Vs.Name->Nat}{g:Vs.Name->Option Vs.Blk}{x y c u:Value} (h:RV S w ρ κ g (.tup [.agg [.v x,.v y],.v c]) u):u=.tuple #[.agg #[x,y],c]:=by
 obtain⟨us,rfl,I,F⟩:=vZ h;have U:us.getD 1 undef=c:=bI (F 1 (by simp));obtain⟨vs,e,J,H⟩:=kW (F 0 (by simp));have L:vs.getD 0 undef=x:=bI (H 0 (by simp));have O:vs.getD 1 undef=y:=bI (H 1 (by simp));rw[vK I,e,U,vK J,L,O]
end Go.Proofs.YtkgeiaideklmoaaGreat
