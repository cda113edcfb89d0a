/- Counting decks. -/
import Derived.Test.YtonkjfiffcfaoaaGreatUuS
set_option linter.all false
set_option maxHeartbeats 8000000
namespace Go.Proofs.YtonkjfiffcfaoaaGreat
open Go.Vs
variable [Vs.Envs]
attribute [local irreducible] Vs.Fn
def gJ (m:Nat):Nat→Nat
 |0=>0
 |i+1=>geo m i
theorem yF (m:Nat):∀i,gJ m (i+1)=gJ m i+m ^ i
 |0=>rfl
 |i+1=>rfl
theorem aGO (m:Nat) (hm:m≤5):∀i,i≤4→gJ m i≤3000
 |0,_=>by simp[gJ]
 | i+1,h=>by
  have:=zJ m hm i (by omega);simp only[gJ];omega
theorem aCd (m k:Nat) (hm:m≤5) (hk:k≤3):Fz F.lS [.v (.int .i64 m),.v (.int .i64 k)] (.v (.int .i64 (geo m k:Nat))):=by
 refine fn0 Cd.s_l17Count_k fun X=>?_;simp -dsimp only[go_sem];refine aN.intro dM (fun i:{i:Nat // i≤k+1}=>⟨[(0,.v (.int .i64 m)),(1,.v (.int .i64 k)),(5,.v (.int .i64 (gJ m i.1:Nat))),(6,.v (.int .i64 (m ^ i.1:Nat))),(7,.v (.int .i64 i.1))],[]⟩) (fun i=>k+1-i.1) ⟨0,by omega⟩ ?_ ?_
 ·simp[Vs.LeL,Vs.look,gJ]
 ·rintro⟨i,hi⟩;simp -dsimp only[go_sem];refine Br.mk (fun h1=>?_) fun h1=>?_
  ·have hlt:i≤k:=by simpa using h1
   have hw:IntKind.i64.wrap ((i:Int)+1)=((i+1:Nat):Int):=by rw[aO (by omega) (by omega)];omega
   have b1:=aGO m hm i (by omega);have b2:=aDK m i hm (by omega)
   have h5:IntKind.i64.wrap (((gJ m i:Nat):Int)+((m ^ i:Nat):Int))=((gJ m (i+1):Nat):Int):=by
    rw[yF,aO (by omega) (by omega)];omega
   have h6:IntKind.i64.wrap (((m ^ i:Nat):Int)*(m:Int))=((m ^ (i+1):Nat):Int):=by
    have e:((m ^ i:Nat):Int)*(m:Int)=((m ^ i*m:Nat):Int):=by rw[Int.natCast_mul]
    have:m ^ i*m≤625*5:=Nat.mul_le_mul b2 hm;rw[e,aO (by omega) (by omega),Nat.pow_succ]
   simp -dsimp only[go_sem,hw,h5,h6];exact⟨⟨i+1,by omega⟩,by simp[Vs.LeL,Vs.look],by simp only;omega⟩
  ·have hge:i=k+1:=by
    have:¬i≤k:=by simpa using h1
    omega
   subst hge;simp -dsimp only[go_sem];simp[gJ]
end Go.Proofs.YtonkjfiffcfaoaaGreat
