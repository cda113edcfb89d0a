/- The law FnExactValidFlow returns true for every input, and its arguments read behind the call as they read before. Conditions: none beyond the given statement. -/
import Derived.Test.YtkgeiaideklmoaaGreatZuR
import Derived.Test.YtkgeiaideklmoaaGreatZuO
set_option linter.all false
set_option maxHeartbeats 8000000
namespace Go.Proofs.YtkgeiaideklmoaaGreat
open Go.Vs
section
variable [Vs.Envs]
def gStp (p:I64×I64×I64×I64×(I64×I64)×(I64×I64)×S63):Stp:=⟨p.1.1,p.2.1.1,p.2.2.1.1,p.2.2.2.1.1,p.2.2.2.2.1.1.1,p.2.2.2.2.1.2.1,p.2.2.2.2.2.1.1.1,p.2.2.2.2.2.1.2.1,p.2.2.2.2.2.2.1⟩
end
section
variable [Vs.Envs]
attribute [local irreducible] Vs.Fn chOK areCh chTo chAt l03
theorem aKr (l:List Stp) (w:Int) (hs:∀x,x∈l→x.text.size≤1048576) (hl:l.length≤1048576):Fz F.sS [.sl 9 (E cS l),.v (.int .i64 w)] (.v (.bool (l.all (fun x=>fG x w)&&decide ((l.length:Int)≤20)))):=by
 refine fn0 Cd.s_l15Flow_k fun X=>?_;simp -dsimp only[go_sem];refine aN.intro dM (fun i:{i:Nat // i≤l.length∧(l.take i).all (fun x=>fG x w)=true}=>⟨[(0,.sl 9 (E cS l)),(1,.v (.int .i64 w)),(5,.v (.int .i64 i.1))],[]⟩) (fun i=>l.length-i.1) ⟨0,by simp⟩ ?_ ?_
 ·simp[Vs.LeL,Vs.look]
 ·rintro⟨i,hi,hall⟩;simp -dsimp only[go_sem];refine Br.mk (fun h1=>?_) fun h1=>?_
  ·have hlt:i<l.length:=by simpa using h1
   have hw:=aH hlt hl;simp -dsimp only[go_sem,aS hlt];refine⟨⟨by omega,by omega⟩,aD.flat (aDI l[i] w (hs _ (List.getElem_mem hlt))) rfl ?_⟩;simp -dsimp only[go_sem];refine Br.mk (fun h2=>?_) fun h2=>?_
   ·simp -dsimp only[go_sem];simp[fT (p:=fun x=>fG x w) hlt (by simpa using h2)]
   ·simp -dsimp only[go_sem,hw];exact⟨⟨i+1,by omega,aZ (p:=fun x=>fG x w) hlt hall (by simpa using h2)⟩,by simp[Vs.LeL,Vs.look],by simp only;omega⟩
  ·have hge:i=l.length:=by
    have:¬i<l.length:=by simpa using h1
    omega
   subst hge;simp -dsimp only[go_sem];have:l.all (fun x=>fG x w)=true:=by simpa using hall
   simp[this]
theorem aAG (x:Stp) (w:Int) (G:x.text.size≤1048576):Fz F.dR [.agg (cS x),.ro [.v (.int .i64 w)]] (.v (.bool (!(inB w 1 20&&fG x w)))):=by
 refine fn0 Cd.i_ValidFlow_1_k fun X=>?_
 repeat' first|simp -dsimp only[go_sem,cS]|apply Br.mk<;>intro h<;>try simp -dsimp only[h]|refine aD.c (by first|exact qZ x _ G) ?_|refine aC ?_|fail
 all_goals(simp_all)
theorem aKz (l:List Stp) (w:Int) (H:∀x,x∈l→x.text.size≤1048576) (G:l.length≤1048576):Fz F.tY [.sl 9 (E cS l),.fn F.dR [.ro [.v (.int .i64 w)]]] (.v (.int .i64 (rA (fun x=>!(inB w 1 20&&fG x w)) l))):=
 aDN Tryz.mixed (k:=9) Cd.ixf_Step_k.o Cd.ixf_Step_k.n Cd.ixf_Step_k.r rfl (fun x=>!(inB w 1 20&&fG x w)) F.dR [.ro [.v (.int .i64 w)]] rfl (fun _=>rfl) (fun _=>rfl) (fun x I=>aAG x w (H x I)) G
theorem aKI (l:List Stp) (w:Int) (H:∀x,x∈l→x.text.size≤1048576) (G:l.length≤1048576):Fz F.wV [.sl 9 (E cS l),.fn F.dR [.ro [.v (.int .i64 w)]]] (.v (.bool (l.any (fun x=>!(inB w 1 20&&fG x w))))):=
 aC1 Tryz.mixed (g:=F.tY) Cd.ctf_Step_k.o Cd.ctf_Step_k.n Cd.ctf_Step_k.r rfl (fun x=>!(inB w 1 20&&fG x w)) F.dR [.ro [.v (.int .i64 w)]] rfl (aKz l w H G)
theorem aG7 (l:List Stp) (w:Int) (h:inB w 1 20=true):(!(l.any fun x=>!(inB w 1 20&&fG x w)))=l.all fun x=>fG x w:=by
 simp only[h,Bool.true_and]
 induction l with
 |nil=>rfl
 |cons x r ih=>simp only[List.any_cons,List.all_cons,Bool.not_or,Bool.not_not,ih]
theorem wK (l:List Stp) (w:Int) (H:∀x,x∈l→x.text.size≤1048576) (G:l.length≤1048576):Fz F.oQ [.sl 9 (E cS l),.v (.int .i64 w)] (.v (.bool (inB w 1 20&&(l.all (fun x=>fG x w)&&decide ((l.length:Int)≤20))))):=by
 refine fn0 Cd.i_ValidFlow_k fun X=>?_
 repeat' first|simp -dsimp only[go_sem]|apply Br.mk<;>intro h<;>try simp -dsimp only[h]|refine aD.c (by first|exact inside _ _ _|exact aKI l w H G) ?_|refine aC ?_|fail
 all_goals(first|(simp_all;done)|(refine aV ?_;simp_all [aG7];done)|(refine aV ?_;have:=aG7 l w (by assumption);simp_all))
end
end Go.Proofs.YtkgeiaideklmoaaGreat
