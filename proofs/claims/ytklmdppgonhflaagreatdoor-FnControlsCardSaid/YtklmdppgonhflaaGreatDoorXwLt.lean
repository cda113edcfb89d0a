/- Control totals of a deck, by both. -/
import Derived.Test.YtklmdppgonhflaaGreatDoorVsI
import Derived.Test.YtklmdppgonhflaaGreatDoorXwD
import Derived.Test.YtklmdppgonhflaaGreatDoorXwK
set_option linter.all false
set_option maxHeartbeats 8000000
namespace Go.Proofs.YtklmdppgonhflaaGreatDoor
open Go.Vs
variable [Vs.Tab 0 Vs.powP]
attribute [local irreducible] Vs.Fn
theorem vR (l:List (List Int)) (fr to:Int) (hl:l.length<=1048576) (hok:∀c,c∈l->okP fr to c):Fz F.xA [.sl 1 (E cC l),.agg (cFd fr to)] (.tup [.agg (cCt (fK fr to l)),.v (.bool (lU fr to l))]):=by
 refine fn0 Cd.s_l18Of_k λX=>?_;simp -dsimp only[go_sem,cC,cFd,cCt];refine aP.at dM (X:={zz:Nat×(Int×Int) // zz.1<=l.length∧zN fr to (l.drop zz.1) zz.2.1 zz.2.2=zN fr to l 0 0}) (λzz=>[(7,.v (.int .i64 zz.1.1))]) (λzz=>[(.t 6 0,.var [.v (.int .i64 l.length),.v (.int .i64 zz.1.2.1),.v (.int .i64 zz.1.2.2)] false)]) (λzz=>l.length-zz.1.1) ⟨(0,(0,0)),by omega,by simp⟩ ?_ ?_
 .exact le0
 .rintro⟨⟨i,a,b⟩,hi,hg⟩;dsimp only at hi hg;simp -dsimp only[go_sem];refine Br.mk (λhc=>?_) λhc=>?_
  .have hlt:i<l.length:=Dq;have hw:=aJ hlt hl;have hk:=hok _ (Aa hlt);have hle:=aCM hk;have hm:(E cC l).getD i []=[.sl 1 (E cI l[i])]:=aW hlt;rw[Ci hlt,zN] at hg;cases hb:(dX fr to l[i]).2
   .rw[AC (by simp[hb])] at hg
    repeat' first|simp -dsimp only[go_sem,hm,hw,hb,cC,cFd]|apply Br.mk<;>intro h<;>try simp -dsimp only[h]|refine aA.c (by first|exact aF4 hk|exact tL hk|exact aEy _ (by omega) (by omega)) ?_|refine aC ?_|refine aC9 ?_|fail
    all_goals simp[cCt,fK,lU,←hg]
   .rw[AP hb] at hg
    repeat' first|simp -dsimp only[go_sem,hm,hw,hb,cC,cFd]|apply Br.mk<;>intro h<;>try simp -dsimp only[h]|refine aA.c (by first|exact aF4 hk|exact tL hk|exact aEy _ (by omega) (by omega)) ?_|refine aC ?_|refine aC9 ?_|fail
    all_goals(exact nx (i+1,(W (a+(dX fr to l[i]).1),W (b+(dsN (dX fr to l[i]).1.natAbs:Int)))) hg)
  .have hge:i=l.length:=by
    have:¬i<l.length:=Dq;omega
   subst hge;simp -dsimp only[go_sem];rw[De,zN] at hg;simp[cCt,fK,lU,←hg]
theorem gM (l:List (List Int)) (fr to:Int) (hl:l.length<=1048576) (hok:∀c,c∈l->okP fr to c):Fz F.lN [.sl 1 (E cC l),.agg (cFd fr to)] (.tup [.agg (cCt (fK fr to l)),.v (.bool (lU fr to l))]):=by
 refine fn0 Cd.i_controlOf_k λX=>?_;simp -dsimp only[go_sem,cC,cFd,cCt];refine aA.flat (aNG l) rfl ?_;simp -dsimp only[go_sem,cC,cFd];refine aP.at dM (X:={zz:Nat×(Int×Int) // zz.1<=l.length∧zN fr to (l.drop zz.1) zz.2.1 zz.2.2=zN fr to l 0 0}) (λzz=>[(16,.v (.int .i64 zz.1.1))]) (λzz=>[(.t 6 0,.var [.v (.int .i64 l.length),.v (.int .i64 zz.1.2.1),.v (.int .i64 zz.1.2.2)] false)]) (λzz=>l.length-zz.1.1) ⟨(0,(0,0)),by omega,by simp⟩ ?_ ?_
 .exact le0
 .rintro⟨⟨i,a,b⟩,hi,hg⟩;dsimp only at hi hg;simp -dsimp only[go_sem];refine Br.mk (λhc=>?_) λhc=>?_
  .have hlt:i<l.length:=Dq;have hw:=aJ hlt hl;have hk:=hok _ (Aa hlt);have hle:=aCM hk;have hm:(E cC l).getD i []=[.sl 1 (E cI l[i])]:=aW hlt;rw[Ci hlt,zN] at hg;cases hb:(dX fr to l[i]).2
   .rw[AC (by simp[hb])] at hg
    repeat' first|simp -dsimp only[go_sem,hm,hw,hb,cC,cFd]|apply Br.mk<;>intro h<;>try simp -dsimp only[h]|refine aA.c (by first|exact aBP hk|exact aGE _ (by omega) (by omega)) ?_|refine aC ?_|refine aC9 ?_|fail
    all_goals simp[cCt,fK,lU,←hg]
   .rw[AP hb] at hg
    repeat' first|simp -dsimp only[go_sem,hm,hw,hb,cC,cFd]|apply Br.mk<;>intro h<;>try simp -dsimp only[h]|refine aA.c (by first|exact aBP hk|exact aGE _ (by omega) (by omega)) ?_|refine aC ?_|refine aC9 ?_|fail
    all_goals(exact nx (i+1,(W (a+(dX fr to l[i]).1),W (b+(dsN (dX fr to l[i]).1.natAbs:Int)))) hg)
  .have hge:i=l.length:=by
    have:¬i<l.length:=Dq;omega
   subst hge;simp -dsimp only[go_sem];rw[De,zN] at hg;simp[cCt,fK,lU,←hg]
end Go.Proofs.YtklmdppgonhflaaGreatDoor
