/- Numbers that are read, and faults. -/
import Derived.Test.YtklmdppgonhflaaGreatDoorXuR
import Derived.Test.YtklmdppgonhflaaGreatDoorVtK
set_option linter.all false
set_option maxHeartbeats 8000000
namespace Go.Proofs.YtklmdppgonhflaaGreatDoor
open Go.Vs
variable [Vs.Envs]
attribute [local irreducible] Vs.Fn
def wl:Nat->Int->List Int
 |0,_=>[]
 |k+1,n=>n.tmod 10::wl k (W (n.tdiv 10))
theorem aBC:∀k n,(wl k n).length=k
 |0,_=>rfl
 |k+1,n=>by simp[wl,aBC k]
theorem aG1 (k:Nat) (n:Int) (hk:k<=1000):Fz F.oQ [.v (.int .i64 k),.v (.int .i64 n)] (.agg [.sl 1 (E cI (wl k n))]):=by
 refine fn0 Cd.i_wheelsShow_k λX=>?_;simp -dsimp only[go_sem];refine⟨⟨by omega,by omega⟩,rfl,?_⟩
 refine aP.intro dM (X:={p:Nat×Int×List Int×Name // p.1<=k∧p.2.2.1.length=p.1∧p.2.2.1++wl (k-p.1) p.2.1=wl k n∧(p.2.2.2=.t 6 0∨p.2.2.2=.t 16 0)})
  (λp=>⟨[(1,.v (.int .i64 p.1.2.1)),(4,.ptr (.t 4 0) 0 0),(5,.ptr (.t 5 0) 0 0),(8,.v (.int .i64 k)),(9,.v (.int .i64 p.1.1))],[(.t 5 0,.var [.loc p.1.2.2.2 0 p.1.1] false),(p.1.2.2.2,.arr 1 (E cI p.1.2.2.1) false),(.t 4 0,.var [.v (.slice none 0 0)] false)]⟩) (λp=>k-p.1.1) ⟨(0,n,[],.t 6 0),by omega,rfl,by simp,.inl rfl⟩ ?_ ?_
 .simp[Vs.LeL,Vs.look,aB,aQ,aK,Vs.hset,aL,E]
 .rintro⟨⟨i,c,acc,nm⟩,hi,ha,hg,hnm⟩;dsimp only at hi ha hg hnm;simp -dsimp only[go_sem];refine Br.mk (λhc=>?_) λhc=>?_
  .have hlt:i<k:=by simpa using hc
   have hw:IntKind.i64.wrap ((i:Int)+1)=((i+1:Nat):Int):=by rw[aI (by omega) (by omega)];omega
   have hcon:acc++(c.tmod 10)::wl (k-(i+1)) (W (c.tdiv 10))=wl k n:=by
    rw[←hg];have:k-i=(k-(i+1))+1:=by omega
    rw[this];rfl
   have hap:E cI acc++[[.v (.int .i64 (c.tmod 10))]]=E cI (acc++[c.tmod 10]):=by rw[aV];rfl
   rcases hnm with rfl|rfl
   all_goals
    repeat' first|simp -dsimp only[go_sem,hw,hap,ha,Af,Ag,Ao,Aq]|apply Br.mk<;>intro h<;>try simp -dsimp only[h]|refine aC ?_|refine aC9 ?_|fail
    exact⟨⟨(i+1,W (c.tdiv 10),acc++[c.tmod 10],.t 16 0),by omega,by simp[ha],by simpa using hcon,.inr rfl⟩,by simp[Vs.LeL,Vs.look,aB,aQ,aK,Vs.hset,aL,E,cI,ha],by simp only;omega⟩
  .have hge:i=k:=by
    have:¬i<k:=by simpa using hc
    omega
   subst hge;have hacc:acc=wl i n:=by simpa[wl] using hg
   rcases hnm with rfl|rfl
   all_goals
    simp -dsimp only[go_sem,hacc];refine⟨?_,by simp⟩;rw[Ah (by simp[Vs.E,aBC])];exact⟨_,_,rfl,rfl⟩
end Go.Proofs.YtklmdppgonhflaaGreatDoor
