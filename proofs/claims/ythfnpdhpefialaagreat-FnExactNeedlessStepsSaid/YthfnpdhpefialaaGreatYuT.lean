/- Counting decks. -/
import Derived.Test.YthfnpdhpefialaaGreatYuS
set_option linter.all false
set_option maxHeartbeats 8000000
namespace Go.Proofs.YthfnpdhpefialaaGreat
open Go.Vs
variable [Vs.Envs]
attribute [local irreducible] Vs.Fn
def geo0 (m:Nat):Nat→Nat
 |0=>0
 |i+1=>geo m i
theorem geo0_succ (m:Nat):∀i,geo0 m (i+1)=geo0 m i+m ^ i
 |0=>rfl
 |i+1=>rfl
theorem geo0_le (m:Nat) (hm:m≤5):∀i,i≤4→geo0 m i≤3000
 |0,_=>by simp[geo0]
 | i+1,h=>by
  have:=geo_le m hm i (by omega)
  simp only[geo0];omega
theorem l17Count (m k:Nat) (hm:m≤5) (hk:k≤3):Fz F.s_l17Count [.v (.int .i64 m),.v (.int .i64 k)] (.v (.int .i64 (geo m k:Nat))):=by
 refine fn0 Cd.s_l17Count_k fun X=>?_
 simp -dsimp only[go_sem]
 refine LoopK.intro dM (fun i:{i:Nat // i≤k+1}=>⟨[(0,.v (.int .i64 m)),(1,.v (.int .i64 k)),(5,.v (.int .i64 (geo0 m i.1:Nat))),(6,.v (.int .i64 (m ^ i.1:Nat))),(7,.v (.int .i64 i.1))],[]⟩) (fun i=>k+1-i.1) ⟨0,by omega⟩ ?_ ?_
 ·simp[Vs.LeL,Vs.look,geo0]
 ·rintro⟨i,hi⟩
  simp -dsimp only[go_sem]
  refine Br.mk (fun h1=>?_) fun h1=>?_
  ·have hlt:i≤k:=by simpa using h1
   have hw:IntKind.i64.wrap ((i:Int)+1)=((i+1:Nat):Int):=by rw[wrap_in (by omega) (by omega)];omega
   have b1:=geo0_le m hm i (by omega)
   have b2:=pow_le m i hm (by omega)
   have h5:IntKind.i64.wrap (((geo0 m i:Nat):Int)+((m ^ i:Nat):Int))=((geo0 m (i+1):Nat):Int):=by
    rw[geo0_succ,wrap_in (by omega) (by omega)];omega
   have h6:IntKind.i64.wrap (((m ^ i:Nat):Int)*(m:Int))=((m ^ (i+1):Nat):Int):=by
    have e:((m ^ i:Nat):Int)*(m:Int)=((m ^ i*m:Nat):Int):=by rw[Int.natCast_mul]
    have:m ^ i*m≤625*5:=Nat.mul_le_mul b2 hm
    rw[e,wrap_in (by omega) (by omega),Nat.pow_succ]
   simp -dsimp only[go_sem,hw,h5,h6]
   exact⟨⟨i+1,by omega⟩,by simp[Vs.LeL,Vs.look],by simp only;omega⟩
  ·have hge:i=k+1:=by
    have:¬i≤k:=by simpa using h1
    omega
   subst hge
   simp -dsimp only[go_sem]
   simp[geo0]
end Go.Proofs.YthfnpdhpefialaaGreat
