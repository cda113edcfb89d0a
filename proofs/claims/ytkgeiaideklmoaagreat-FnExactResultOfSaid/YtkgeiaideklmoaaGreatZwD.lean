/- Offices that are valid. -/
import Derived.Test.YtkgeiaideklmoaaGreatZwSh
import Derived.Test.YtkgeiaideklmoaaGreatZuS
set_option linter.all false
set_option maxHeartbeats 8000000
namespace Go.Proofs.YtkgeiaideklmoaaGreat
open Go.Vs
variable [Vs.Envs]
attribute [local irreducible] Vs.Fn
def wO:List (List (List Int))→Nat
 | []=>20
 |d::r=>if d.length=0 then wO r else(d.getD 0 []).length
theorem aGf {l:List (List (List Int))}{i:Nat} (h:i<l.length):wO (l.drop i)=if l[i].length=0 then wO (l.drop (i+1)) else(l[i].getD 0 []).length:=by
 rw[List.drop_eq_getElem_cons h,wO]
theorem yE (o:Off) (ho:yJ o):Fz F.gG [.agg (cO o)] (.v (.int .i64 (wO o.trays))):=by
 refine fn0 Cd.i_officeColumns_k fun X=>?_;simp -dsimp only[go_sem,cO];refine aN.at dM (X:={zz:Nat×(Unit) // zz.1≤o.trays.length∧wO (o.trays.drop zz.1)=wO o.trays}) (fun zz=>[(8,.v (.int .i64 zz.1.1))]) (fun zz=>[]) (fun zz=>o.trays.length-zz.1.1) ⟨(0,()),by omega,rfl⟩ ?_ ?_
 ·exact le0
 ·rintro⟨⟨i,_⟩,hi,hg⟩;dsimp only at hi hg;simp -dsimp only[go_sem];refine Br.mk (fun hc=>?_) fun hc=>?_
  ·have hlt:i<o.trays.length:=Dq;have hw:=aH hlt ho.1.1;rw[aGf hlt] at hg;by_cases hd0:o.trays[i].length=0
   ·have hgt:decide ((o.trays[i].length:Int)>0)=false:=decide_eq_false (by omega);rw[if_pos hd0] at hg
    repeat' first|simp -dsimp only[go_sem,aS hlt,cD,hgt,hw]|apply Br.mk<;>intro h<;>try simp -dsimp only[h]|refine aC ?_|fail
    all_goals(exact nx (i+1,()) hg)
   ·have hgt:decide ((o.trays[i].length:Int)>0)=true:=decide_eq_true (by omega);have h0:0<o.trays[i].length:=by omega
    rw[if_neg hd0,getD_lt h0] at hg
    repeat' first|simp -dsimp only[go_sem,aS hlt,aS h0,cD,hgt,cC]|apply Br.mk<;>intro h<;>try simp -dsimp only[h]|refine aD.c (by first|exact vD _) ?_|refine aC ?_|fail
    all_goals(refine aV ?_;simp[←hg];done)
  ·have hge:i=o.trays.length:=by
    have:¬i<o.trays.length:=Dq;omega
   subst hge;simp -dsimp only[go_sem];rw[List.drop_length,wO] at hg;simp[←hg]
theorem aEH (o:Off) (ho:yJ o):Fz F.nE [.ro (cO o)] (.v (.int .i64 (wO o.trays))):=by
 refine fn0 Cd.s_l15Width_k fun X=>?_;simp -dsimp only[go_sem,cO];refine aN.at dM (X:={zz:Nat×(Unit) // zz.1≤o.trays.length∧wO (o.trays.drop zz.1)=wO o.trays}) (fun zz=>[(3,.v (.int .i64 zz.1.1))]) (fun zz=>[]) (fun zz=>o.trays.length-zz.1.1) ⟨(0,()),by omega,rfl⟩ ?_ ?_
 ·exact le0
 ·rintro⟨⟨i,_⟩,hi,hg⟩;dsimp only at hi hg;simp -dsimp only[go_sem];refine Br.mk (fun hc=>?_) fun hc=>?_
  ·have hlt:i<o.trays.length:=Dq;have hw:=aH hlt ho.1.1;rw[aGf hlt] at hg;by_cases hd0:o.trays[i].length=0
   ·have hgt:decide ((o.trays[i].length:Int)>0)=false:=decide_eq_false (by omega);rw[if_pos hd0] at hg
    repeat' first|simp -dsimp only[go_sem,aS hlt,cD,hgt,hw]|apply Br.mk<;>intro h<;>try simp -dsimp only[h]|refine aC ?_|fail
    all_goals(exact nx (i+1,()) hg)
   ·have hgt:decide ((o.trays[i].length:Int)>0)=true:=decide_eq_true (by omega);have h0:0<o.trays[i].length:=by omega
    rw[if_neg hd0,getD_lt h0] at hg
    repeat' first|simp -dsimp only[go_sem,aS hlt,aS h0,cD,hgt,cC]|apply Br.mk<;>intro h<;>try simp -dsimp only[h]|refine aD.c (by first|exact vD _) ?_|refine aC ?_|fail
    all_goals(refine aV ?_;simp[←hg];done)
  ·have hge:i=o.trays.length:=by
    have:¬i<o.trays.length:=Dq;omega
   subst hge;simp -dsimp only[go_sem];rw[List.drop_length,wO] at hg;simp[←hg]
end Go.Proofs.YtkgeiaideklmoaaGreat
