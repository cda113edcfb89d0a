/- The law FnExactValidFlow returns true for every input, and its arguments read behind the call as they read before. Conditions: none beyond the given statement. -/
import Derived.Test.YthbnjmgjhonfbaaGreatTuD
import Derived.Test.YthbnjmgjhonfbaaGreatTuO
set_option linter.all false
set_option maxHeartbeats 8000000
namespace Go.Proofs.YthbnjmgjhonfbaaGreat
open Go.Vs
section
variable [Vs.Envs]
end
section
variable [Vs.Envs]
attribute [local irreducible] Vs.Fn cZ aW dB dC l03
theorem aGM (l:List Stp) (w:Int) (hs:∀x,x∈l→x.text.size≤1048576) (hl:l.length≤1048576):Fz F.qH [.sl 9 (E cS l),.v (.int .i64 w)] (.v (.bool (l.all (fun x=>dP x w)&&decide ((l.length:Int)≤20)))):=by
 refine fn0 Cd.s_l15Flow_k fun X=>?_;simp -dsimp only[go_sem];refine aN.intro dM (fun i:{i:Nat // i≤l.length∧(l.take i).all (fun x=>dP x w)=true}=>⟨[(0,.sl 9 (E cS l)),(1,.v (.int .i64 w)),(5,.v (.int .i64 i.1))],[]⟩) (fun i=>l.length-i.1) ⟨0,by simp⟩ ?_ ?_
 ·simp[Vs.LeL,Vs.look]
 ·rintro⟨i,hi,hall⟩;simp -dsimp only[go_sem];refine Br.mk (fun h1=>?_) fun h1=>?_
  ·have hlt:i<l.length:=by simpa using h1
   have hw:=aG hlt hl;simp -dsimp only[go_sem,aX hlt];refine⟨⟨by omega,by omega⟩,aA.flat (aDW l[i] w (hs _ (List.getElem_mem hlt))) rfl ?_⟩;simp -dsimp only[go_sem];refine Br.mk (fun h2=>?_) fun h2=>?_
   ·simp -dsimp only[go_sem];simp[gJ (p:=fun x=>dP x w) hlt (by simpa using h2)]
   ·simp -dsimp only[go_sem,hw];exact⟨⟨i+1,by omega,bE (p:=fun x=>dP x w) hlt hall (by simpa using h2)⟩,by simp[Vs.LeL,Vs.look],by simp only;omega⟩
  ·have hge:i=l.length:=by
    have:¬i<l.length:=by simpa using h1
    omega
   subst hge;simp -dsimp only[go_sem];have:l.all (fun x=>dP x w)=true:=by simpa using hall
   simp[this]
theorem aAS (x:Stp) (w:Int) (hs:x.text.size≤1048576):Fz F.eF [.agg (cS x),.ro [.v (.int .i64 w)]] (.v (.bool (!(inB w 1 20&&dP x w)))):=by
 refine fn0 Cd.i_ValidFlow_1_k fun X=>?_
 repeat' first|simp -dsimp only[go_sem,cS]|apply Br.mk<;>intro h<;>try simp -dsimp only[h]|refine aA.c (by first|exact wZ x _ hs) ?_|refine aC ?_|fail
 all_goals(simp_all)
theorem aKV (l:List Stp) (w:Int) (hs:∀x,x∈l→x.text.size≤1048576) (hl:l.length≤1048576):Fz F.uB [.sl 9 (E cS l),.fn F.eF [.ro [.v (.int .i64 w)]]] (.v (.int .i64 (sD (fun x=>!(inB w 1 20&&dP x w)) l))):=
 aD2 Tryz.mixed (k:=9) Cd.ixf_Step_k.o Cd.ixf_Step_k.n Cd.ixf_Step_k.r rfl (fun x=>!(inB w 1 20&&dP x w)) F.eF [.ro [.v (.int .i64 w)]] rfl (fun _=>rfl) (fun _=>rfl) (fun x hx=>aAS x w (hs x hx)) hl
theorem aK4 (l:List Stp) (w:Int) (hs:∀x,x∈l→x.text.size≤1048576) (hl:l.length≤1048576):Fz F.xN [.sl 9 (E cS l),.fn F.eF [.ro [.v (.int .i64 w)]]] (.v (.bool (l.any (fun x=>!(inB w 1 20&&dP x w))))):=
 aDs Tryz.mixed (g:=F.uB) Cd.ctf_Step_k.o Cd.ctf_Step_k.n Cd.ctf_Step_k.r rfl (fun x=>!(inB w 1 20&&dP x w)) F.eF [.ro [.v (.int .i64 w)]] rfl (aKV l w hs hl)
theorem aHa (l:List Stp) (w:Int) (h:inB w 1 20=true):(!(l.any fun x=>!(inB w 1 20&&dP x w)))=l.all fun x=>dP x w:=by
 simp only[h,Bool.true_and]
 induction l with
 |nil=>rfl
 |cons x r ih=>simp only[List.any_cons,List.all_cons,Bool.not_or,Bool.not_not,ih]
theorem aCh (l:List Stp) (w:Int) (hs:∀x,x∈l→x.text.size≤1048576) (hl:l.length≤1048576):Fz F.pG [.sl 9 (E cS l),.v (.int .i64 w)] (.v (.bool (inB w 1 20&&(l.all (fun x=>dP x w)&&decide ((l.length:Int)≤20))))):=by
 refine fn0 Cd.i_ValidFlow_k fun X=>?_
 repeat' first|simp -dsimp only[go_sem]|apply Br.mk<;>intro h<;>try simp -dsimp only[h]|refine aA.c (by first|exact inside _ _ _|exact aK4 l w hs hl) ?_|refine aC ?_|fail
 all_goals(first|(simp_all;done)|(refine aO ?_;simp_all [aHa];done)|(refine aO ?_;have:=aHa l w (by assumption);simp_all))
end
end Go.Proofs.YthbnjmgjhonfbaaGreat
