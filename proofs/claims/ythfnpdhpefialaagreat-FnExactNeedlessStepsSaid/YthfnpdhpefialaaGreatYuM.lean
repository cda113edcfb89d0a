/- The law FnExactValidFlow returns true for every input, and its arguments read behind the call as they read before. Conditions: none beyond the given statement. -/
import Derived.Test.YthfnpdhpefialaaGreatYuR
import Derived.Test.YthfnpdhpefialaaGreatYuO
set_option linter.all false
set_option maxHeartbeats 8000000
namespace Go.Proofs.YthfnpdhpefialaaGreat
open Go.Vs
section
variable [Vs.Envs]
def gStp (p:I64×I64×I64×I64×(I64×I64)×(I64×I64)×S63):Stp:=⟨p.1.1,p.2.1.1,p.2.2.1.1,p.2.2.2.1.1,p.2.2.2.2.1.1.1,p.2.2.2.2.1.2.1,p.2.2.2.2.2.1.1.1,p.2.2.2.2.2.1.2.1,p.2.2.2.2.2.2.1⟩
end
section
variable [Vs.Envs]
attribute [local irreducible] Vs.Fn chOK areCh chTo chAt l03
theorem l15Flow (l:List Stp) (w:Int) (hs:∀x,x∈l→x.text.size≤1048576) (hl:l.length≤1048576):Fz F.s_l15Flow [.sl 9 (E cS l),.v (.int .i64 w)] (.v (.bool (l.all (fun x=>stpB x w)&&decide ((l.length:Int)≤20)))):=by
 refine fn0 Cd.s_l15Flow_k fun X=>?_
 simp -dsimp only[go_sem]
 refine LoopK.intro dM (fun i:{i:Nat // i≤l.length∧(l.take i).all (fun x=>stpB x w)=true}=>⟨[(0,.sl 9 (E cS l)),(1,.v (.int .i64 w)),(5,.v (.int .i64 i.1))],[]⟩) (fun i=>l.length-i.1) ⟨0,by simp⟩ ?_ ?_
 ·simp[Vs.LeL,Vs.look]
 ·rintro⟨i,hi,hall⟩
  simp -dsimp only[go_sem]
  refine Br.mk (fun h1=>?_) fun h1=>?_
  ·have hlt:i<l.length:=by simpa using h1
   have hw:=wrap_succ hlt hl
   simp -dsimp only[go_sem,E_get hlt]
   refine⟨⟨by omega,by omega⟩,CallK.flat (l15Step l[i] w (hs _ (List.getElem_mem hlt))) rfl ?_⟩
   simp -dsimp only[go_sem]
   refine Br.mk (fun h2=>?_) fun h2=>?_
   ·simp -dsimp only[go_sem]
    simp[not_all (p:=fun x=>stpB x w) hlt (by simpa using h2)]
   ·simp -dsimp only[go_sem,hw]
    exact⟨⟨i+1,by omega,take_succ_all (p:=fun x=>stpB x w) hlt hall (by simpa using h2)⟩,by simp[Vs.LeL,Vs.look],by simp only;omega⟩
  ·have hge:i=l.length:=by
    have:¬i<l.length:=by simpa using h1
    omega
   subst hge
   simp -dsimp only[go_sem]
   have:l.all (fun x=>stpB x w)=true:=by simpa using hall
   simp[this]
theorem impl_ValidFlow_1 (x:Stp) (w:Int) (hs:x.text.size≤1048576):Fz F.i_ValidFlow_1 [.agg (cS x),.ro [.v (.int .i64 w)]] (.v (.bool (!(inB w 1 20&&stpB x w)))):=by
 refine fn0 Cd.i_ValidFlow_1_k fun X=>?_
 repeat' first|simp -dsimp only[go_sem,cS]|apply Br.mk<;>intro h<;>try simp -dsimp only[h]|refine CallK.c (by first|exact impl_ValidStep x _ hs) ?_|refine aC ?_|fail
 all_goals(simp_all)
theorem idxStep (l:List Stp) (w:Int) (hs:∀x,x∈l→x.text.size≤1048576) (hl:l.length≤1048576):Fz F.ixf_Step [.sl 9 (E cS l),.fn F.i_ValidFlow_1 [.ro [.v (.int .i64 w)]]] (.v (.int .i64 (idxP (fun x=>!(inB w 1 20&&stpB x w)) l))):=
 ixA_fn Tryz.mixed (k:=9) Cd.ixf_Step_k.o Cd.ixf_Step_k.n Cd.ixf_Step_k.r rfl (fun x=>!(inB w 1 20&&stpB x w)) F.i_ValidFlow_1 [.ro [.v (.int .i64 w)]] rfl (fun _=>rfl) (fun _=>rfl) (fun x hx=>impl_ValidFlow_1 x w (hs x hx)) hl
theorem conStep (l:List Stp) (w:Int) (hs:∀x,x∈l→x.text.size≤1048576) (hl:l.length≤1048576):Fz F.ctf_Step [.sl 9 (E cS l),.fn F.i_ValidFlow_1 [.ro [.v (.int .i64 w)]]] (.v (.bool (l.any (fun x=>!(inB w 1 20&&stpB x w))))):=
 ct_fn Tryz.mixed (g:=F.ixf_Step) Cd.ctf_Step_k.o Cd.ctf_Step_k.n Cd.ctf_Step_k.r rfl (fun x=>!(inB w 1 20&&stpB x w)) F.i_ValidFlow_1 [.ro [.v (.int .i64 w)]] rfl (idxStep l w hs hl)
theorem any_not (l:List Stp) (w:Int) (h:inB w 1 20=true):(!(l.any fun x=>!(inB w 1 20&&stpB x w)))=l.all fun x=>stpB x w:=by
 simp only[h,Bool.true_and]
 induction l with
 |nil=>rfl
 |cons x r ih=>simp only[List.any_cons,List.all_cons,Bool.not_or,Bool.not_not,ih]
theorem impl_ValidFlow (l:List Stp) (w:Int) (hs:∀x,x∈l→x.text.size≤1048576) (hl:l.length≤1048576):Fz F.i_ValidFlow [.sl 9 (E cS l),.v (.int .i64 w)] (.v (.bool (inB w 1 20&&(l.all (fun x=>stpB x w)&&decide ((l.length:Int)≤20))))):=by
 refine fn0 Cd.i_ValidFlow_k fun X=>?_
 repeat' first|simp -dsimp only[go_sem]|apply Br.mk<;>intro h<;>try simp -dsimp only[h]|refine CallK.c (by first|exact inside _ _ _|exact conStep l w hs hl) ?_|refine aC ?_|fail
 all_goals(first|(simp_all;done)|(refine ret_eq ?_;simp_all [any_not];done)|(refine ret_eq ?_;have:=any_not l w (by assumption);simp_all))
end
end Go.Proofs.YthfnpdhpefialaaGreat
