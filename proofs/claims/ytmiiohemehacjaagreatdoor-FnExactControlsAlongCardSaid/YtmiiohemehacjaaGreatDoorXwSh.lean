/- Cards are sorted: the program's way. -/
import Derived.Test.YtmiiohemehacjaaGreatDoorXwQd
import Derived.Test.YtmiiohemehacjaaGreatDoorXwD
import Derived.Test.YtmiiohemehacjaaGreatDoorVtR
import Derived.Test.YtmiiohemehacjaaGreatDoorXwQb
set_option linter.all false
set_option maxHeartbeats 8000000
namespace Go.Proofs.YtmiiohemehacjaaGreatDoor
open Go.Vs
section
variable [Vs.Envs]
attribute [local irreducible] Vs.Fn chOK areCh chTo chAt l03 chB rk cd3 chI stp stpTo
attribute [local irreducible] aY
attribute [local go_sem] cC List.replicate_succ List.replicate_zero List.flatten_cons List.flatten_nil List.cons_append List.nil_append List.set_cons_zero List.set_cons_succ List.length_cons List.length_nil List.length_set
def aGK (l:List (List (List Int))):Prop:=l.length<=1048576∧∀d,d∈l->bJ d
def jN (fr to:Int) (ls:List (List (List Int))):Int:=
 if ls.all bA then(if ls.all (λd=>dR fr to (bF d)) then(if ls.all (bP fr to) then 0 else 8) else 2) else 1
def zC (fr to:Int) (ts:List ByteArray) (ls:List (List (List Int))):Int:=
 if ls.all bA then(if ls.all (λd=>dR fr to (bF d)) then(if ts.all (λt=>(t.size:Int)==W (to-fr)) then(if ts.all areCh then(if ls.all (bP fr to) then 0 else 8) else 7) else 2) else 2) else 1
theorem vT (fr to:Int) (ls:List (List (List Int))) (hk:aGK ls):Fz F.dO [.agg (cFd fr to),.v (.bool true),.v (.slice none 0 0),.sl 1 (E cD ls)] (.v (.int .i64 (jN fr to ls))):=by
 refine fn0 Cd.i_collateCode_k λX=>?_;simp -dsimp only[go_sem,cFd,cD];refine aN.at dM (X:={zz:Nat×(Unit) // zz.1<=ls.length∧(ls.take zz.1).all (bA)=true}) (λzz=>[(21,.v (.int .i64 zz.1.1))]) (λzz=>[]) (λzz=>ls.length-zz.1.1) ⟨(0,()),by omega,by simp⟩ ?_ ?_
 .exact le0
 .rintro⟨⟨i,_⟩,hi,hg⟩;dsimp only at hi hg;simp -dsimp only[go_sem,cFd,cD];refine Br.mk (λhc=>?_) λhc=>?_
  .have hlt:i<ls.length:=Dq;have hw:=aH hlt hk.1;have hsm:=hk.2 _ (List.getElem_mem hlt);have hm:(E cD ls).getD i []=[.sl 1 (E cC ls[i])]:=aQ hlt;cases hb:bA ls[i]
   .have hall:ls.all (bA)=false:=gG (p:=bA) hlt hb
    repeat' first|simp -dsimp only[go_sem,hw,hm,hb,cFd,cD]|apply Br.mk<;>intro h<;>try simp -dsimp only[h]|refine aD.c (by first|exact lT _ hsm.2 hsm.1) ?_|refine aC ?_|fail
    all_goals first|omega|(refine aU ?_;simp[jN,hall];done)|(simp[jN,hall];done)
   .simp -dsimp only[go_sem,hw,hm,hb,cFd,cD]
    repeat' first|simp -dsimp only[go_sem,hw,hm,hb,cFd,cD]|apply Br.mk<;>intro h<;>try simp -dsimp only[h]|refine aD.c (by first|exact lT _ hsm.2 hsm.1) ?_|refine aC ?_|fail
    all_goals first|omega|(exact nx (i+1,()) (aX (p:=bA) hlt hg hb))
  .have hge:i=ls.length:=by
    have:¬i<ls.length:=Dq;omega
   subst hge;simp -dsimp only[go_sem,cFd,cD];have a1:ls.all (bA)=true:=by simpa using hg
   clear hg hi hc;refine⟨?_,by simp⟩;refine aN.at dM (X:={zz:Nat×(Unit) // zz.1<=ls.length∧(ls.take zz.1).all ((λd=>dR fr to (bF d)))=true}) (λzz=>[(33,.v (.int .i64 zz.1.1))]) (λzz=>[]) (λzz=>ls.length-zz.1.1) ⟨(0,()),by omega,by simp⟩ ?_ ?_
   .exact le0
   .rintro⟨⟨i,_⟩,hi,hg⟩;dsimp only at hi hg;simp -dsimp only[go_sem,cFd,cD];refine Br.mk (λhc=>?_) λhc=>?_
    .have hlt:i<ls.length:=Dq;have hw:=aH hlt hk.1;have hsm:=hk.2 _ (List.getElem_mem hlt);have hm:(E cD ls).getD i []=[.sl 1 (E cC ls[i])]:=aQ hlt;cases hb:(λd=>dR fr to (bF d)) ls[i]
     .have hall:ls.all ((λd=>dR fr to (bF d)))=false:=gG (p:=(λd=>dR fr to (bF d))) hlt hb
      repeat' first|simp -dsimp only[go_sem,hw,hm,hb,cFd,cD]|apply Br.mk<;>intro h<;>try simp -dsimp only[h]|refine aD.c (by first|exact kF _|exact wI fr to _) ?_|refine aC ?_|fail
      all_goals first|omega|(refine aU ?_;simp[jN,hall,a1];done)|(simp[jN,hall,a1];done)
     .simp -dsimp only[go_sem,hw,hm,hb,cFd,cD]
      repeat' first|simp -dsimp only[go_sem,hw,hm,hb,cFd,cD]|apply Br.mk<;>intro h<;>try simp -dsimp only[h]|refine aD.c (by first|exact kF _|exact wI fr to _) ?_|refine aC ?_|fail
      all_goals first|omega|(exact nx (i+1,()) (aX (p:=(λd=>dR fr to (bF d))) hlt hg hb))
    .have hge:i=ls.length:=by
      have:¬i<ls.length:=Dq;omega
     subst hge;simp -dsimp only[go_sem,cFd,cD];have a2:ls.all ((λd=>dR fr to (bF d)))=true:=by simpa using hg
     clear hg hi hc;refine⟨?_,by simp⟩;refine aN.at dM (X:={zz:Nat×(Unit) // zz.1<=0∧True}) (λzz=>[(45,.v (.int .i64 zz.1.1))]) (λzz=>[]) (λzz=>0-zz.1.1) ⟨(0,()),by omega,trivial⟩ ?_ ?_
     .exact le0
     .rintro⟨⟨i,_⟩,hi,hg⟩;dsimp only at hi hg;simp -dsimp only[go_sem,cFd,cD];refine Br.mk (λhc=>?_) λhc=>?_
      .have hlt:i<0:=by have:=of_decide_eq_true hc;omega
       have hw:=aH hlt (by omega);exact absurd hlt (by omega)
      .have hge:i=0:=by
        have:¬i<0:=by have:=of_decide_eq_false hc;omega
        omega
       subst hge;simp -dsimp only[go_sem,cFd,cD];clear hg hi hc;refine⟨?_,by simp⟩;refine aN.at dM (X:={zz:Nat×(Unit) // zz.1<=0∧True}) (λzz=>[(60,.v (.int .i64 zz.1.1))]) (λzz=>[]) (λzz=>0-zz.1.1) ⟨(0,()),by omega,trivial⟩ ?_ ?_
       .exact le0
       .rintro⟨⟨i,_⟩,hi,hg⟩;dsimp only at hi hg;simp -dsimp only[go_sem,cFd,cD];refine Br.mk (λhc=>?_) λhc=>?_
        .have hlt:i<0:=by have:=of_decide_eq_true hc;omega
         have hw:=aH hlt (by omega);exact absurd hlt (by omega)
        .have hge:i=0:=by
          have:¬i<0:=by have:=of_decide_eq_false hc;omega
          omega
         subst hge;simp -dsimp only[go_sem,cFd,cD];clear hg hi hc;refine⟨?_,by simp⟩;refine aN.at dM (X:={zz:Nat×(Unit) // zz.1<=ls.length∧(ls.take zz.1).all ((bP fr to))=true}) (λzz=>[(70,.v (.int .i64 zz.1.1))]) (λzz=>[]) (λzz=>ls.length-zz.1.1) ⟨(0,()),by omega,by simp⟩ ?_ ?_
         .exact le0
         .rintro⟨⟨i,_⟩,hi,hg⟩;dsimp only at hi hg;simp -dsimp only[go_sem,cFd,cD];refine Br.mk (λhc=>?_) λhc=>?_
          .have hlt:i<ls.length:=Dq;have hw:=aH hlt hk.1;have hsm:=hk.2 _ (List.getElem_mem hlt);have hm:(E cD ls).getD i []=[.sl 1 (E cC ls[i])]:=aQ hlt;have hdk:bA ls[i]=true:=(List.all_eq_true.1 a1) _ (List.getElem_mem hlt);have hfk:dR fr to (bF ls[i])=true:=(List.all_eq_true.1 a2) _ (List.getElem_mem hlt);have hof:=eF hdk hfk;cases hb:(bP fr to) ls[i]
           .have hall:ls.all ((bP fr to))=false:=gG (p:=(bP fr to)) hlt hb
            repeat' first|simp -dsimp only[go_sem,hw,hm,hb,cFd,cD]|apply Br.mk<;>intro h<;>try simp -dsimp only[h]|refine aD.c (by first|exact qY _ fr to hof hsm.1) ?_|refine aC ?_|fail
            all_goals first|omega|(refine aU ?_;simp[jN,hall,a1,a2];done)|(simp[jN,hall,a1,a2];done)
           .simp -dsimp only[go_sem,hw,hm,hb,cFd,cD]
            repeat' first|simp -dsimp only[go_sem,hw,hm,hb,cFd,cD]|apply Br.mk<;>intro h<;>try simp -dsimp only[h]|refine aD.c (by first|exact qY _ fr to hof hsm.1) ?_|refine aC ?_|fail
            all_goals first|omega|(exact nx (i+1,()) (aX (p:=(bP fr to)) hlt hg hb))
          .have hge:i=ls.length:=by
            have:¬i<ls.length:=Dq;omega
           subst hge;simp -dsimp only[go_sem,cFd,cD];have a5:ls.all (bP fr to)=true:=by simpa using hg
           simp[jN,a1,a2,a5]
theorem aK3 (fr to:Int) (ls:List (List (List Int))) (hk:aGK ls) (ts:List ByteArray) (hts:ts.length<=1048576) (htz:∀t,t∈ts->t.size<=1048576):Fz F.dO [.agg (cFd fr to),.v (.bool true),.sl 1 (E cSt ts),.sl 1 (E cD ls)] (.v (.int .i64 (zC fr to ts ls))):=by
 refine fn0 Cd.i_collateCode_k λX=>?_;simp -dsimp only[go_sem,cFd,cD];refine aN.at dM (X:={zz:Nat×(Unit) // zz.1<=ls.length∧(ls.take zz.1).all (bA)=true}) (λzz=>[(21,.v (.int .i64 zz.1.1))]) (λzz=>[]) (λzz=>ls.length-zz.1.1) ⟨(0,()),by omega,by simp⟩ ?_ ?_
 .exact le0
 .rintro⟨⟨i,_⟩,hi,hg⟩;dsimp only at hi hg;simp -dsimp only[go_sem,cFd,cD];refine Br.mk (λhc=>?_) λhc=>?_
  .have hlt:i<ls.length:=Dq;have hw:=aH hlt hk.1;have hsm:=hk.2 _ (List.getElem_mem hlt);have hm:(E cD ls).getD i []=[.sl 1 (E cC ls[i])]:=aQ hlt;cases hb:bA ls[i]
   .have hall:ls.all (bA)=false:=gG (p:=bA) hlt hb
    repeat' first|simp -dsimp only[go_sem,hw,hm,hb,cFd,cD]|apply Br.mk<;>intro h<;>try simp -dsimp only[h]|refine aD.c (by first|exact lT _ hsm.2 hsm.1) ?_|refine aC ?_|fail
    all_goals first|omega|(refine aU ?_;simp[zC,hall];done)|(simp[zC,hall];done)
   .simp -dsimp only[go_sem,hw,hm,hb,cFd,cD]
    repeat' first|simp -dsimp only[go_sem,hw,hm,hb,cFd,cD]|apply Br.mk<;>intro h<;>try simp -dsimp only[h]|refine aD.c (by first|exact lT _ hsm.2 hsm.1) ?_|refine aC ?_|fail
    all_goals first|omega|(exact nx (i+1,()) (aX (p:=bA) hlt hg hb))
  .have hge:i=ls.length:=by
    have:¬i<ls.length:=Dq;omega
   subst hge;simp -dsimp only[go_sem,cFd,cD];have a1:ls.all (bA)=true:=by simpa using hg
   clear hg hi hc;refine⟨?_,by simp⟩;refine aN.at dM (X:={zz:Nat×(Unit) // zz.1<=ls.length∧(ls.take zz.1).all ((λd=>dR fr to (bF d)))=true}) (λzz=>[(33,.v (.int .i64 zz.1.1))]) (λzz=>[]) (λzz=>ls.length-zz.1.1) ⟨(0,()),by omega,by simp⟩ ?_ ?_
   .exact le0
   .rintro⟨⟨i,_⟩,hi,hg⟩;dsimp only at hi hg;simp -dsimp only[go_sem,cFd,cD];refine Br.mk (λhc=>?_) λhc=>?_
    .have hlt:i<ls.length:=Dq;have hw:=aH hlt hk.1;have hsm:=hk.2 _ (List.getElem_mem hlt);have hm:(E cD ls).getD i []=[.sl 1 (E cC ls[i])]:=aQ hlt;cases hb:(λd=>dR fr to (bF d)) ls[i]
     .have hall:ls.all ((λd=>dR fr to (bF d)))=false:=gG (p:=(λd=>dR fr to (bF d))) hlt hb
      repeat' first|simp -dsimp only[go_sem,hw,hm,hb,cFd,cD]|apply Br.mk<;>intro h<;>try simp -dsimp only[h]|refine aD.c (by first|exact kF _|exact wI fr to _) ?_|refine aC ?_|fail
      all_goals first|omega|(refine aU ?_;simp[zC,hall,a1];done)|(simp[zC,hall,a1];done)
     .simp -dsimp only[go_sem,hw,hm,hb,cFd,cD]
      repeat' first|simp -dsimp only[go_sem,hw,hm,hb,cFd,cD]|apply Br.mk<;>intro h<;>try simp -dsimp only[h]|refine aD.c (by first|exact kF _|exact wI fr to _) ?_|refine aC ?_|fail
      all_goals first|omega|(exact nx (i+1,()) (aX (p:=(λd=>dR fr to (bF d))) hlt hg hb))
    .have hge:i=ls.length:=by
      have:¬i<ls.length:=Dq;omega
     subst hge;simp -dsimp only[go_sem,cFd,cD];have a2:ls.all ((λd=>dR fr to (bF d)))=true:=by simpa using hg
     clear hg hi hc;refine⟨?_,by simp⟩;refine aN.at dM (X:={zz:Nat×(Unit) // zz.1<=ts.length∧(ts.take zz.1).all ((λt:ByteArray=>(t.size:Int)==W (to-fr)))=true}) (λzz=>[(45,.v (.int .i64 zz.1.1))]) (λzz=>[]) (λzz=>ts.length-zz.1.1) ⟨(0,()),by omega,by simp⟩ ?_ ?_
     .exact le0
     .rintro⟨⟨i,_⟩,hi,hg⟩;dsimp only at hi hg;simp -dsimp only[go_sem,cFd,cD];refine Br.mk (λhc=>?_) λhc=>?_
      .have hlt:i<ts.length:=Dq;have hw:=aH hlt hts;have hm:(E cSt ts).getD i []=[.v (.string ts[i])]:=aQ hlt;have hne:((ts[i].size:Int) != IntKind.i64.wrap (to-fr)) = !((ts[i].size:Int)==W (to-fr)):=rfl;cases hb:(λt:ByteArray=>(t.size:Int)==W (to-fr)) ts[i]
       .have hall:ts.all ((λt:ByteArray=>(t.size:Int)==W (to-fr)))=false:=gG (p:=(λt:ByteArray=>(t.size:Int)==W (to-fr))) hlt hb
        repeat' first|simp -dsimp only[go_sem,hw,hm,hb,hne,Bool.not_true,Bool.not_false,cFd,cD]|apply Br.mk<;>intro h<;>try simp -dsimp only[h]|refine aC ?_|fail
        all_goals first|omega|(refine aU ?_;simp[zC,hall,a1,a2];done)|(simp[zC,hall,a1,a2];done)
       .simp -dsimp only[go_sem,hw,hm,hb,hne,Bool.not_true,Bool.not_false,cFd,cD]
        repeat' first|simp -dsimp only[go_sem,hw,hm,hb,hne,Bool.not_true,Bool.not_false,cFd,cD]|apply Br.mk<;>intro h<;>try simp -dsimp only[h]|refine aC ?_|fail
        all_goals first|omega|(exact nx (i+1,()) (aX (p:=(λt:ByteArray=>(t.size:Int)==W (to-fr))) hlt hg hb))
      .have hge:i=ts.length:=by
        have:¬i<ts.length:=Dq;omega
       subst hge;simp -dsimp only[go_sem,cFd,cD];have a3:ts.all ((λt:ByteArray=>(t.size:Int)==W (to-fr)))=true:=by simpa using hg
       clear hg hi hc;refine⟨?_,by simp⟩;refine aN.at dM (X:={zz:Nat×(Unit) // zz.1<=ts.length∧(ts.take zz.1).all (areCh)=true}) (λzz=>[(60,.v (.int .i64 zz.1.1))]) (λzz=>[]) (λzz=>ts.length-zz.1.1) ⟨(0,()),by omega,by simp⟩ ?_ ?_
       .exact le0
       .rintro⟨⟨i,_⟩,hi,hg⟩;dsimp only at hi hg;simp -dsimp only[go_sem,cFd,cD];refine Br.mk (λhc=>?_) λhc=>?_
        .have hlt:i<ts.length:=Dq;have hw:=aH hlt hts;have hm:(E cSt ts).getD i []=[.v (.string ts[i])]:=aQ hlt;cases hb:areCh ts[i]
         .have hall:ts.all (areCh)=false:=gG (p:=areCh) hlt hb
          repeat' first|simp -dsimp only[go_sem,hw,hm,hb,cFd,cD]|apply Br.mk<;>intro h<;>try simp -dsimp only[h]|refine aD.c (by first|exact uJ _ (htz _ (List.getElem_mem hlt))) ?_|refine aC ?_|fail
          all_goals first|omega|(refine aU ?_;simp[zC,hall,a1,a2,a3];done)|(simp[zC,hall,a1,a2,a3];done)
         .simp -dsimp only[go_sem,hw,hm,hb,cFd,cD]
          repeat' first|simp -dsimp only[go_sem,hw,hm,hb,cFd,cD]|apply Br.mk<;>intro h<;>try simp -dsimp only[h]|refine aD.c (by first|exact uJ _ (htz _ (List.getElem_mem hlt))) ?_|refine aC ?_|fail
          all_goals first|omega|(exact nx (i+1,()) (aX (p:=areCh) hlt hg hb))
        .have hge:i=ts.length:=by
          have:¬i<ts.length:=Dq;omega
         subst hge;simp -dsimp only[go_sem,cFd,cD];have a4:ts.all (areCh)=true:=by simpa using hg
         clear hg hi hc;refine⟨?_,by simp⟩;refine aN.at dM (X:={zz:Nat×(Unit) // zz.1<=ls.length∧(ls.take zz.1).all ((bP fr to))=true}) (λzz=>[(70,.v (.int .i64 zz.1.1))]) (λzz=>[]) (λzz=>ls.length-zz.1.1) ⟨(0,()),by omega,by simp⟩ ?_ ?_
         .exact le0
         .rintro⟨⟨i,_⟩,hi,hg⟩;dsimp only at hi hg;simp -dsimp only[go_sem,cFd,cD];refine Br.mk (λhc=>?_) λhc=>?_
          .have hlt:i<ls.length:=Dq;have hw:=aH hlt hk.1;have hsm:=hk.2 _ (List.getElem_mem hlt);have hm:(E cD ls).getD i []=[.sl 1 (E cC ls[i])]:=aQ hlt;have hdk:bA ls[i]=true:=(List.all_eq_true.1 a1) _ (List.getElem_mem hlt);have hfk:dR fr to (bF ls[i])=true:=(List.all_eq_true.1 a2) _ (List.getElem_mem hlt);have hof:=eF hdk hfk;cases hb:(bP fr to) ls[i]
           .have hall:ls.all ((bP fr to))=false:=gG (p:=(bP fr to)) hlt hb
            repeat' first|simp -dsimp only[go_sem,hw,hm,hb,cFd,cD]|apply Br.mk<;>intro h<;>try simp -dsimp only[h]|refine aD.c (by first|exact qY _ fr to hof hsm.1) ?_|refine aC ?_|fail
            all_goals first|omega|(refine aU ?_;simp[zC,hall,a1,a2,a3,a4];done)|(simp[zC,hall,a1,a2,a3,a4];done)
           .simp -dsimp only[go_sem,hw,hm,hb,cFd,cD]
            repeat' first|simp -dsimp only[go_sem,hw,hm,hb,cFd,cD]|apply Br.mk<;>intro h<;>try simp -dsimp only[h]|refine aD.c (by first|exact qY _ fr to hof hsm.1) ?_|refine aC ?_|fail
            all_goals first|omega|(exact nx (i+1,()) (aX (p:=(bP fr to)) hlt hg hb))
          .have hge:i=ls.length:=by
            have:¬i<ls.length:=Dq;omega
           subst hge;simp -dsimp only[go_sem,cFd,cD];have a5:ls.all (bP fr to)=true:=by simpa using hg
           simp[zC,a1,a2,a3,a4,a5]
theorem aHI (fr to:Int) (l:List (List Int)) (i:Nat):∀k,∃r,stpTo fr to l (i+k)=stpTo fr to l i++r
 |0=>⟨[],by simp⟩
 | k+1=>by
  obtain⟨r,F⟩:=aHI fr to l i k;exact⟨r++(if cmF fr to (l.getD (i+k+1) []) (l.getD (i+k) [])<0 then[((i+k+1:Nat):Int)] else[]),by rw[←Nat.add_assoc,stpTo,F,List.append_assoc]⟩
def stF (fr to:Int) (l:List (List Int)):Int:=(stp fr to l).headD (-1)
theorem dC (fr to:Int) (l:List (List Int)):decide (stF fr to l≥0) = !iE fr to l:=by
 have H:∀k,∀x,x∈stpTo fr to l k->0<=x:=by
  intro k
  induction k with
  |zero=>intro x F;simp[stpTo] at F
  | succ k ih =>
   intro x F;rw[stpTo] at F;rcases List.mem_append.1 F with F|F
   .exact ih x F
   .split at F
    .simp at F;omega
    .cases F
 unfold stF iE;cases h:stp fr to l with
 |nil=>simp
 | cons x r =>
  have:=H (l.length-1) x (by unfold stp at h;rw[h];simp);simp only[List.headD_cons,ge_iff_le,this,decide_true,List.length_cons]
  symm
  simp;omega
attribute [local go_sem] aI cFd cD in
theorem bT (l:List (List Int)) (fr to:Int) (ho:∀c,c∈l->okF fr to c) (hh:bP fr to l=true) (hl:l.length<=1048576):Fz F.lW [.sl 1 (E cSt (bK fr to l))] (.v (.int .i64 (stF fr to l))):=by
 have hkl:(bK fr to l).length=l.length:=by simp[bK]
 refine fn0 Cd.s_l07Step_k λX=>?_;simp -dsimp only[go_sem,hkl];refine aN.at dM (X:={zz:Nat×(Unit) // zz.1<=l.length-1∧stpTo fr to l zz.1=[]}) (λzz=>[(3,.v (.int .i64 ((zz.1.1+1:Nat):Int)))]) (λzz=>[]) (λzz=>l.length-1-zz.1.1) ⟨(0,()),by omega,by simp[stpTo]⟩ ?_ ?_
 .simp[Vs.LeL,Vs.look,Vs.aB,Vs.aR,Vs.aK,Vs.hset,Vs.aL,Vs.E,stpTo]
 .rintro⟨⟨i,_⟩,hi,hg⟩;dsimp only at hi hg;simp -dsimp only[go_sem,hkl];refine Br.mk (λhc=>?_) λhc=>?_
  .have hlt:i<l.length-1:=Dq;have hw:=aH hlt (by omega);have hl1:i+1<l.length:=by omega
   have hl0:i<l.length:=by omega
   have hk1:=ho _ (List.getElem_mem hl1);have hk0:=ho _ (List.getElem_mem hl0);have hc1:bU (fH fr to l[i+1])=true:=(List.all_eq_true.1 hh) _ (List.getElem_mem hl1);have hc0:bU (fH fr to l[i])=true:=(List.all_eq_true.1 hh) _ (List.getElem_mem hl0);have hm1:(E cSt (bK fr to l)).getD (i+1) []=[.v (.string (txt (fH fr to l[i+1])))]:=by rw[aQ (by omega)];simp[bK,cSt]
   have hm0:(E cSt (bK fr to l)).getD i []=[.v (.string (txt (fH fr to l[i])))]:=by rw[aQ (by omega)];simp[bK,cSt]
   have hw2:=aMC hlt hl;have hw3:=aMB hlt hl;have g1:l.getD (i+1) []=l[i+1]:=by simp[List.getD,hl1]
   have g0:l.getD i []=l[i]:=by simp[List.getD,hl0]
   have hcf:iN (fH fr to l[i+1]) (fH fr to l[i])=cmF fr to l[i+1] l[i]:=rfl;by_cases hz:cmF fr to l[i+1] l[i]<0
   .have e1:decide (cmF fr to l[i+1] l[i]<0)=true:=decide_eq_true hz;have hs:stpTo fr to l (i+1)=[((i+1:Nat):Int)]:=by rw[stpTo,g1,g0,if_pos hz,hg];rfl
    obtain⟨r,hr⟩:=aHI fr to l (i+1) (l.length-1-(i+1));rw[show i+1+(l.length-1-(i+1))=l.length-1 by omega,hs] at hr;have hst:stF fr to l=((i+1:Nat):Int):=by unfold stF stp;rw[hr];rfl
    repeat' first|simp -dsimp only[go_sem,hw2,hw3,hm1,hm0,hcf,e1,hkl]|apply Br.mk<;>intro h<;>try simp -dsimp only[h]|refine aD.c (by first|exact wG _ _ (aAO hk1) ((kR hk1).trans (kR hk0).symm) hc1 hc0) ?_|refine aC ?_|fail
    all_goals first|omega|(refine aU ?_;simp[hst];done)|(simp[hst];done)
   .have e1:decide (cmF fr to l[i+1] l[i]<0)=false:=decide_eq_false hz;have hs:stpTo fr to l (i+1)=[]:=by rw[stpTo,g1,g0,if_neg hz,hg];rfl
    repeat' first|simp -dsimp only[go_sem,hw2,hw3,hm1,hm0,hcf,e1,hkl]|apply Br.mk<;>intro h<;>try simp -dsimp only[h]|refine aD.c (by first|exact wG _ _ (aAO hk1) ((kR hk1).trans (kR hk0).symm) hc1 hc0) ?_|refine aC ?_|fail
    all_goals first|omega|(exact nx (i+1,()) hs)
  .have hge:i=l.length-1:=by
    have:¬i<l.length-1:=Dq;omega
   subst hge;simp -dsimp only[go_sem,hkl];have hst:stF fr to l=-1:=by unfold stF stp;rw[hg];rfl
   simp[hst]
end
section
variable [Vs.Envs]
attribute [local irreducible] Vs.Fn chOK areCh chTo chAt l03 chB rk cd3 chI stp stpTo
def flt (q:List Int->Bool) (l:List (List Int)):List (List Int):=l.filter λx=>!q x
theorem xZ {q:List Int->Bool}{l:List (List Int)}{j:Nat} (h:j<l.length):flt q (l.take (j+1))=flt q (l.take j)++(if q l[j] then[] else[l[j]]):=by
 unfold flt;rw[bB h,List.filter_append];congr 1;cases hq:q l[j]<;>simp[List.filter_cons,hq]
theorem yZ (q:List Int->Bool) (l:List (List Int)):(flt q l).length<=l.length:=List.length_filter_le ..
theorem aF1 {q:List Int->Bool}{l:List (List Int)} (h:l.all (λx=>!q x)=true):flt q l=l:=by
 unfold flt;exact List.filter_eq_self.2 (List.all_eq_true.1 h)
theorem aG5 (q:List Int->Bool) (l:List (List Int)):(uH q l=-1∧l.all (λx=>!q x)=true)∨∃i:Nat,∃h:i<l.length,uH q l=i∧q l[i]=true∧(l.take i).all (λx=>!q x)=true:=by
 unfold uH;cases h:l.findIdx? q with
 | none =>
  rw[List.findIdx?_eq_none_iff] at h;exact .inl ⟨rfl,List.all_eq_true.2 λx F=>by simp[h x F]⟩
 | some i =>
  rw[List.findIdx?_eq_some_iff_getElem] at h;obtain⟨hi,H,h2⟩:=h;refine .inr ⟨i,hi,rfl,H,List.all_eq_true.2 λx F=>?_⟩;obtain⟨j,I,rfl⟩:=List.mem_take_iff_getElem.1 F;simpa using h2 j (by omega)
theorem aNO (m:List (List Int)) (i:Nat) (x:List Int):(E cC m).set i [.sl 1 (E cI x)]=E cC (m.set i x):=by simp[E,List.map_set,cC]
theorem aBv (l:List (List Int)):(E cC l).take l.length=E cC l:=List.take_of_length_le (by simp[E])
def zR (n:Nat):List (List AV):=List.replicate n [.v (.slice none 0 0)]
theorem aMl {m:List (List Int)}{i n:Nat} (H:m.length=n) (hi:i<=n):aAQ (E cC m) i (n-i) [.v (.slice none 0 0)]=E cC (m.take i)++zR (n-i):=by
 unfold aAQ zR;have F:(E cC m).take i=E cC (m.take i):=by simp[E,List.map_take]
 have h2:(E cC m).drop (i+(n-i))=[]:=List.drop_eq_nil_of_le (by rw[aI];omega);rw[F,h2,List.append_nil]
theorem aD0 {c:List AV} (h:dG c=true) (n:Name):oD n c=false:=by
 induction c with
 |nil=>rfl
 | cons x r ih =>
  simp only[dG,List.all_cons,Bool.and_eq_true] at h
  have H:x.has n=false:=by
   have F:=h.1;cases x<;>first|rfl|simp[zK] at F
  simp[oD,H,ih h.2]
attribute [local irreducible] flt uH zR aAQ
attribute [local go_sem] List.replicate_succ List.replicate_zero List.flatten_cons List.flatten_nil List.cons_append List.nil_append List.set_cons_zero List.set_cons_succ List.length_cons List.length_nil List.length_set in
theorem delF (q:List Int->Bool) (g:FuncId) (caps:List AV) (hcaps:dG caps=true) (l:List (List Int)) (hl:l.length<=1048576) (hq:∀x,x∈l->Vs.Fn Tryz.prog g [] (.agg (cC x)::caps) (.v (.bool (q x))) []) :
  Vs.Fn Tryz.prog F.sZ [.arr 1 (E cC l) false] [.loc (.b 0) 0 l.length,.fn g caps] (.loc (.b 0) 0 (flt q l).length) [some (.arr 1 (E cC (flt q l)++zR (l.length-(flt q l).length)) false)]:=by
 have hidx:Fz F.kX [.sl 1 (E cC l),.fn g caps] (.v (.int .i64 (uH q l))):=
  aG3 Tryz.mixed (k:=1) Cd.ixf_Card_k.o Cd.ixf_Card_k.n Cd.ixf_Card_k.r rfl q g caps hcaps (λ_=>rfl) (λ_=>rfl) hq hl
 refine fn1 Cd.dlf_Card_k [.b 0] [.arr 1 (E cC (flt q l)++zR (l.length-(flt q l).length)) false] λX=>?_;unfold Cd.sZ;simp -dsimp only[go_sem,aG hcaps _ 6,aG hcaps _ 7,aBv,aI];refine aD.flat hidx rfl ?_;rcases aG5 q l with⟨hn,hall⟩|⟨i0,hi0,hn,hq0,hall⟩
 .have e1:((-1:Int) == -1)=true:=rfl;rw[hn];have hfl:=aF1 hall;rw[hfl];have hz0:E cC l++zR (l.length-l.length)=E cC l:=by unfold zR;simp
  simp -dsimp only[go_sem,e1,aI];exact⟨[],[],rfl,by rw[hz0]⟩
 .have e1:((i0:Int) == -1)=false:=beq_eq_false_iff_ne.2 (by omega);have hw0:=aH hi0 hl;rw[hn];simp -dsimp only[go_sem,e1,hw0,aI];refine aN.at dM (X:={zz:Nat×Nat×List (List Int) // (zz.1<=l.length∧zz.2.1<zz.1)∧zz.2.2.length=l.length∧zz.2.2.take zz.2.1=flt q (l.take zz.1)∧zz.2.2.drop zz.1=l.drop zz.1}) (λzz=>[(5,.v (.int .i64 zz.1.2.1)),(6,.v (.int .i64 zz.1.1))]) (λzz=>[(.b 0,.arr 1 (E cC zz.1.2.2) false)]) (λzz=>l.length-zz.1.1) ⟨(i0+1,i0,l),⟨show i0+1<=l.length by omega,show i0<i0+1 by omega⟩,rfl,?_,rfl⟩ ?_ ?_
  .show l.take i0=flt q (l.take (i0+1))
   rw[xZ hi0,aF1 hall,hq0];simp
  .exact le0
  .rintro⟨⟨j,i,m⟩,⟨hj,hij⟩,hm,ht,hd⟩;dsimp only at hj hij hm ht hd;simp -dsimp only[go_sem];refine Br.mk (λhc=>?_) λhc=>?_
   .have hlt:j<l.length:=by simpa using hc
    have hw:=aH hlt hl;have hwi:=aH (show i<l.length by omega) hl;have hjm:j<m.length:=by omega
    have him:i<m.length:=by omega
    have hmj:m[j]=l[j]:=by
     have h1:=congrArg (λx=>x[0]?) hd;simpa[List.getElem?_drop,hjm,hlt] using h1
    have hgm:(E cC m).getD j []=[.sl 1 (E cI l[j])]:=by rw[aQ hjm,hmj];rfl
    have hgi:(E cC m).getD i []=[.sl 1 (E cI m[i])]:=aQ him;have hlm:(E cC m).length=l.length:=by rw[aI];exact hm
    have hcj:Vs.Fn Tryz.prog g [] (.agg [.sl 1 (E cI l[j])]::caps) (.v (.bool (q l[j]))) []:=hq _ (List.getElem_mem hlt);have hsm:=aNO m i l[j]
    have hdd:m.drop (j+1)=l.drop (j+1):=by
     have h1:=congrArg (List.drop 1) hd;simpa[List.drop_drop] using h1
    cases hqj:q l[j]
    .have htt:(m.set i l[j]).take (i+1)=flt q (l.take (j+1)):=by
      rw[xZ hlt,hqj,←ht,bB (show i<(m.set i l[j]).length by simpa using him)];simp only[List.append_cancel_right_eq,List.getElem_set_self,if_false,Bool.false_eq_true];rw[List.take_set_of_le (Nat.le_refl _)]
     have hd2:(m.set i l[j]).drop (j+1)=l.drop (j+1):=by rw[List.drop_set_of_lt (by omega),hdd]
     repeat' first|simp -dsimp only[go_sem,hw,hwi,hgm,hgi,hlm,hsm,hqj,aG hcaps _ 6,aG hcaps _ 7,aD0 hcaps]|apply Br.mk<;>intro h<;>try simp -dsimp only[h]|refine aD.c (by first|exact hcj) ?_|refine aC ?_|fail
     all_goals first|omega|(exact⟨⟨(j+1,i+1,m.set i l[j]),⟨by dsimp only;omega,by dsimp only;omega⟩,by simpa using hm,htt,hd2⟩,by simp[Vs.LeL,Vs.look,Vs.aB,Vs.aR,Vs.aK,Vs.hset,Vs.aL],by simp only;omega⟩)
    .have htt:m.take i=flt q (l.take (j+1)):=by rw[xZ hlt,hqj,←ht];simp
     repeat' first|simp -dsimp only[go_sem,hw,hwi,hgm,hgi,hlm,hsm,hqj,aG hcaps _ 6,aG hcaps _ 7,aD0 hcaps]|apply Br.mk<;>intro h<;>try simp -dsimp only[h]|refine aD.c (by first|exact hcj) ?_|refine aC ?_|fail
     all_goals first|omega|(exact⟨⟨(j+1,i,m),⟨by dsimp only;omega,by dsimp only;omega⟩,hm,htt,hdd⟩,by simp[Vs.LeL,Vs.look,Vs.aB,Vs.aR,Vs.aK,Vs.hset,Vs.aL],by simp only;omega⟩)
   .have hge:j=l.length:=by
     have:¬j<l.length:=by simpa using hc
     omega
    subst hge;rw[List.take_length] at ht;have hfi:(flt q l).length=i:=by rw[←ht];simp;omega
    have hlm:(E cC m).length=l.length:=by rw[aI];exact hm
    have hcl:=aMl hm (show i<=l.length by omega);rw[ht] at hcl;have hti:((l.length:Int)-(i:Int)).toNat=l.length-i:=by omega
    rw[hfi];simp -dsimp only[go_sem,hlm,hcl,hti];have hti2:((i:Int)-0).toNat=i:=by omega
    rw[hti2];exact⟨⟨⟨by omega,by omega,by omega⟩,by omega,⟨by omega,by omega,by omega⟩,⟨[],[],rfl,rfl⟩⟩,λh=>h rfl⟩
end
section
variable [Vs.Envs]
attribute [local irreducible] Vs.Fn chOK areCh chTo chAt l03 chB rk cd3 chI stp stpTo flt uH zR aAQ
attribute [local irreducible] aY
def wZ (fr to:Int) (o:List (List Int)) (x:List Int):Bool:=o.any λc=>cmF fr to c x==0
def mat (fr to:Int) (l o:List (List Int)) (e:Bool):List (List Int):=flt (λx=>!(wZ fr to o x==e)) l
theorem aLZ (x:List Int) (o:List (List Int)) (fr to:Int) (e:Bool) (I:okF fr to x) (ho:∀c,c∈o->okF fr to c) (H:o.length<=1048576):Fz F.fG [.agg (cC x),.ro [.sl 1 (E cC o)],.ro (cFd fr to),.ro [.v (.bool e)]] (.v (.bool (!(wZ fr to o x==e)))):=by
 refine fn0 Cd.i_MatchDecks_1_1_k λX=>?_
 repeat' first|simp -dsimp only[go_sem,cC,cFd,List.replicate_succ,List.replicate_zero,List.flatten_cons,List.flatten_nil,List.cons_append,List.nil_append,List.set_cons_zero,List.set_cons_succ,List.length_cons,List.length_nil,List.length_set]|apply Br.mk<;>intro h<;>try simp -dsimp only[h]|refine aD.c (by first|exact aKF o x fr to I ho H) ?_|refine aC ?_|fail
 all_goals(simp_all [wZ])
theorem aD.borL {P:Program}{f:FuncId}{b:Blk}{ys:List AV}{L:List Vs.Name}{d:Option Nat}{σ:St}{n:Vs.Name}{K:St->Prop}{t:Tag K}{r:AV}{F:List (Option Blk)} (H:Vs.Fn P f [b] ys r F) (I:kE (d.getD 0) 1 F.length σ=true)
  (J:K ⟨put d (rn (phi [n] (d.getD 0) F.length) r) σ.s,zD σ.h [n] (d.getD 0) F true L⟩):aD P f [b] ys L d σ [n] K t:=
 ⟨r,F,true,H,λh=>(by cases h),I,J⟩
theorem aFo (m:List (List Int)) (k:Nat):(E cC m++zR k).take m.length=E cC m:=by
 have:m.length=(E cC m).length:=(aI ..).symm;rw[this,List.take_left'];rfl
attribute [local go_sem] List.replicate_succ List.replicate_zero List.flatten_cons List.flatten_nil List.cons_append List.nil_append List.set_cons_zero List.set_cons_succ List.length_cons List.length_nil List.length_set in
theorem aEH (l o:List (List Int)) (fr to:Int) (e:Bool) (Z:∀x,x∈l->x.length<=1048576) (J:l.length<=1048576) (H:o.length<=1048576) (hx:∀c,c∈l->okF fr to c) (ho:∀c,c∈o->okF fr to c) :
  Fz F.j6 [.sl 1 (E cC l),.sl 1 (E cC o),.v (.bool e),.ro (cFd fr to)] (.sl 1 (E cC (mat fr to l o e))):=by
 have O:=delF (λx=>!(wZ fr to o x==e)) F.fG [.ro [.sl 1 (E cC o)],.ro (cFd fr to),.ro [.v (.bool e)]] rfl l J (λx I=>aLZ x o fr to e (hx x I) ho H);refine fn0 Cd.i_MatchDecks_1_k λX=>?_;simp -dsimp only[go_sem,cC,cFd];refine aD.own (aAz l Z J) rfl ?_;simp -dsimp only[go_sem,cC,cFd,List.flatMap_cons,List.flatMap_nil,nC,uD,mO,List.getD_cons_zero,List.append_nil];refine⟨rfl,aD.borL O rfl ?_⟩;simp -dsimp only[go_sem,cC,cFd];have Y:=aFo (flt (λx=>!(wZ fr to o x==e)) l) (l.length-(flt (λx=>!(wZ fr to o x==e)) l).length);have L:(flt (λx=>!(wZ fr to o x==e)) l).length<=l.length:=yZ ..
 have U:mat fr to l o e=flt (λx=>!(wZ fr to o x==e)) l:=rfl;rw[U];simp -dsimp only[go_sem,List.getElem?_cons_zero,List.drop_zero,aI,List.length_append,Y];exact⟨_,_,rfl,rfl⟩
def mtC (fr to:Int) (a b:List (List Int)):Int:=if jN fr to [a,b]=0 then(if iE fr to a&&iE fr to b then 0 else 6) else jN fr to [a,b]
def mtL (fr to:Int) (a b:List (List Int)):List (List (List Int)):=[mat fr to a b true,mat fr to b a true,mat fr to a b false,mat fr to b a false]
def mtV (fr to:Int) (a b:List (List Int)):AV:=if mtC fr to a b=0 then .sl 1 (E cD (mtL fr to a b)) else .v (.slice none 0 0)
theorem aCg {fr to:Int}{a b:List (List Int)} (h:jN fr to [a,b]=0):(bA a=true∧bA b=true)∧(dR fr to (bF a)=true∧dR fr to (bF b)=true)∧bP fr to a=true∧bP fr to b=true:=by
 unfold jN at h;split at h
 .rename_i F;split at h
  .rename_i h2;split at h
   .rename_i H;simp only[List.all_cons,List.all_nil,Bool.and_true,Bool.and_eq_true] at F h2 H;exact⟨F,h2,H⟩
   .cases h
  .cases h
 .cases h
theorem aAk {a b:List (List Int)} (H:bJ a) (I:bJ b):aGK [a,b]:=by
 refine⟨by simp,λd F=>?_⟩;simp only[List.mem_cons,List.not_mem_nil,or_false] at F;rcases F with rfl|rfl<;>assumption
attribute [local irreducible] mat jN iE
attribute [local go_sem] List.replicate_succ List.replicate_zero List.flatten_cons List.flatten_nil List.cons_append List.nil_append List.set_cons_zero List.set_cons_succ List.length_cons List.length_nil List.length_set List.take_succ_cons List.take_zero List.drop_succ_cons List.drop_zero in
theorem aBQ (a b:List (List Int)) (fr to:Int) (H:bJ a) (I:bJ b):Fz F.mZ [.sl 1 (E cC a),.sl 1 (E cC b),.agg (cFd fr to)] (.tup [mtV fr to a b,.v (.int .i64 (mtC fr to a b))]):=by
 have U:[[AV.sl 1 (E cC a)],[AV.sl 1 (E cC b)]]=E cD [a,b]:=rfl;by_cases J:jN fr to [a,b]=0
 rotate_left
 .have e1:(jN fr to [a,b] != 0)=true:=by simp[J]
  refine fn0 Cd.i_MatchDecks_k λX=>?_
  repeat' first|simp -dsimp only[go_sem,cFd,U,e1]|apply Br.mk<;>intro h<;>try simp -dsimp only[h]|refine aD.c (by first|exact vT fr to [a,b] (aAk H I)) ?_|refine aC ?_|fail
  all_goals simp[mtV,mtC,J]
 obtain⟨⟨da,db⟩,⟨fa,fb⟩,ca,cb⟩:=aCg J;have L:=eF da fa;have O:=eF db fb;cases hs:iE fr to a&&iE fr to b
 .have hn:(!iE fr to a||!iE fr to b)=true:=by
   cases Y:iE fr to a<;>cases h2:iE fr to b<;>simp_all
  refine fn0 Cd.i_MatchDecks_k λX=>?_
  repeat' first|simp -dsimp only[go_sem,cFd,U,J]|apply Br.mk<;>intro h<;>try simp -dsimp only[h]|refine aD.c (by first|exact vT fr to [a,b] (aAk H I)|exact aT a fr to L H.1|exact aT b fr to O I.1) ?_|refine aC ?_|fail
  all_goals first|(simp_all [mtV,mtC];done)|(refine aU ?_;simp_all [mtV,mtC];done)
 have Y:iE fr to a=true:=by simp only[Bool.and_eq_true] at hs;exact hs.1
 have h2:iE fr to b=true:=by simp only[Bool.and_eq_true] at hs;exact hs.2
 refine fn0 Cd.i_MatchDecks_k λX=>?_
 repeat' first|simp -dsimp only[go_sem,cFd,U,J,Y,h2]|apply Br.mk<;>intro h<;>try simp -dsimp only[h]|refine aD.c (by first|exact vT fr to [a,b] (aAk H I)|exact aT a fr to L H.1|exact aT b fr to O I.1|exact aEH a b fr to true H.2 H.1 I.1 L O|exact aEH b a fr to true I.2 I.1 H.1 O L|exact aEH a b fr to false H.2 H.1 I.1 L O|exact aEH b a fr to false I.2 I.1 H.1 O L) ?_|refine aC ?_|fail
 all_goals (have Z:mtC fr to a b=0:=by simp[mtC,J,hs]
            have hv:mtV fr to a b=.sl 1 (E cD (mtL fr to a b)):=by simp[mtV,Z]
            rw[Z,hv]

            first|exact⟨_,_,rfl,rfl⟩|(refine aU rfl))
end
section
variable [Vs.Envs]
attribute [local irreducible] Vs.Fn chOK areCh chTo chAt l03 chB rk cd3 chI stp stpTo stb
theorem aGJ (g:FuncId) (caps:List AV) (H:dG caps=true) (I:Int->Int->Int) (D:Int->Prop) (O:aAY Tryz.prog g caps I D) (l:List Int) (L:∀x,x∈l->D x) (U:l.length<=40) :
  Vs.Fn Tryz.prog F.gX [.arr 1 (E cI l) false] [.loc (.b 0) 0 l.length,.fn g caps] (.tup []) [some (.arr 1 (E cI (stb (ltf I) l)) false)]:=by
 have J:=stable g caps H I D O l L U;refine fn1 Cd.sortst___int64_k [.b 0] [.arr 1 (E cI (stb (ltf I) l)) false] λX=>?_;unfold Cd.gX
 repeat' first|simp -dsimp only[go_sem,List.flatMap_cons,List.flatMap_nil,nC,uD,mO,List.getD_cons_zero,List.append_nil,List.nil_append,List.cons_append,aG H _ 6,aG H _ 7,aI]|apply Br.mk<;>intro h<;>try simp -dsimp only[h]|refine aD.bor (by first|exact J) rfl ?_|refine aC ?_|fail
 all_goals first|exact⟨_,_,rfl,rfl⟩
def cfO (fr to:Int) (l:List (List Int)) (i j:Int):Int:=cmF fr to (l.getD i.toNat []) (l.getD j.toNat [])
def inO (n:Nat) (x:Int):Prop:=0<=x∧x<(n:Int)
theorem aBq {l:List (List Int)}{x:Int} (h:inO l.length x):(E cC l).getD x.toNat []=[.sl 1 (E cI (l.getD x.toNat []))]:=by
 have F:x.toNat<l.length:=by have:=h.1;have:=h.2;omega
 rw[aQ F];simp[cC,List.getD,F]
theorem mP {l:List (List Int)}{x:Int} (h:inO l.length x):l.getD x.toNat []∈l:=by
 have F:x.toNat<l.length:=by have:=h.1;have:=h.2;omega
 have e:l.getD x.toNat []=l[x.toNat]:=by simp[List.getD,F]
 rw[e];exact List.getElem_mem F
theorem aKd (l:List (List Int)) (fr to:Int) (ho:∀c,c∈l->okF fr to c):aAY Tryz.prog F.l7 [.ro [.sl 1 (E cC l)],.ro (cFd fr to)] (cfO fr to l) (inO l.length):=by
 intro x y H I;have J:=aBq H;have L:=aBq I;have O:=H.1;have U:=H.2;have Y:=I.1;have Z:=I.2;have C:=lH (l.getD x.toNat []) (l.getD y.toNat []) fr to (ho _ (mP H)) (ho _ (mP I));rw[show cmF fr to (l.getD x.toNat []) (l.getD y.toNat [])=cfO fr to l x y from rfl] at C;refine fn0 Cd.i_orderBy_1_k λX=>?_
 repeat' first|simp -dsimp only[go_sem,cC,cFd,J,L,aI]|apply Br.mk<;>intro h<;>try simp -dsimp only[h]|refine aD.c (by first|exact C) ?_|refine aC ?_|fail
 all_goals first|exact⟨_,_,rfl,rfl⟩|simp
def iota (n:Nat):List Int:=(List.range n).map λi:Nat=>(i:Int)
theorem aDW (n:Nat):iota (n+1)=iota n++[(n:Int)]:=by simp[iota,List.range_succ]
theorem sH (n:Nat):(iota n).length=n:=by simp[iota]
theorem aB8 {n:Nat}:∀x,x∈iota n->inO n x:=by
 intro x F;obtain⟨i,hi,rfl⟩:=List.mem_map.1 F;have:=List.mem_range.1 hi;exact⟨by omega,by omega⟩
def oV (fr to:Int) (l:List (List Int)):List Int:=stb (ltf (cfO fr to l)) (iota l.length)
theorem xN (fr to:Int) (l:List (List Int)):(oV fr to l).length=l.length:=by rw[oV,aGI,sH]
attribute [local go_sem] aI sH List.mem_singleton List.mem_cons List.not_mem_nil Vs.Name.t.injEq List.flatMap_cons List.flatMap_nil nC uD mO List.getD_cons_zero List.append_nil List.nil_append List.cons_append in
theorem aLP (l:List (List Int)) (fr to:Int) (ho:∀c,c∈l->okF fr to c) (hl:l.length<=40):Fz F.vK [.sl 1 (E cC l),.agg (cFd fr to)] (.sl 1 (E cI (oV fr to l))):=by
 refine fn0 Cd.i_orderBy_k λX=>?_
 repeat' first|simp -dsimp only[go_sem,cC,cFd]|apply Br.mk<;>intro h<;>try simp -dsimp only[h]|refine aC ?_|fail
 refine aN.at dM (X:={zz:Nat×(Unit) // zz.1<=l.length∧True}) (λzz=>[(5,.loc (.t 5 0) 0 zz.1.1),(10,.v (.int .i64 zz.1.1))]) (λzz=>[(.t 5 0,.arr 1 (E cI (iota zz.1.1)) false)]) (λzz=>l.length-zz.1.1) ⟨(0,()),by omega,trivial⟩ ?_ ?_
 .simp[Vs.LeL,Vs.look,Vs.aB,Vs.aR,Vs.aK,Vs.hset,Vs.aL,Vs.E,iota]
 .rintro⟨⟨i,_⟩,hi,hg⟩;dsimp only at hi hg;simp -dsimp only[go_sem,cC,cFd,or_false,false_or];refine Br.mk (λhc=>?_) λhc=>?_
  .have hlt:i<l.length:=Dq;have hw:=aH hlt (by omega);have hap:E cI (iota i)++[[.v (.int .i64 (i:Int))]]=E cI (iota (i+1)):=by rw[aDW,aV];rfl
   repeat' first|simp -dsimp only[go_sem,hw,hap,cC,cFd,or_false,false_or]|apply Br.mk<;>intro h<;>try simp -dsimp only[h]|refine aC ?_|fail
   all_goals first|omega|(exact nx (i+1,()) trivial (h2:=by simp[Vs.LeL,Vs.look,Vs.aB,Vs.aR,Vs.aK,Vs.hset,Vs.aL,hap]))
  .have hge:i=l.length:=by
    have:¬i<l.length:=Dq;omega
   subst hge;simp -dsimp only[go_sem,cC,cFd,or_false,false_or];have ST:=aGJ F.l7 [.ro [.sl 1 (E cC l)],.ro (cFd fr to)] rfl (cfO fr to l) (inO l.length) (aKd l fr to ho) (iota l.length) aB8 (by rw[sH];exact hl);rw[show stb (ltf (cfO fr to l)) (iota l.length)=oV fr to l from rfl,sH] at ST;refine⟨⟨rfl,aD.borL ST rfl ?_⟩,λh=>h rfl⟩;simp -dsimp only[go_sem,xN fr to l,or_false,false_or];have htk:(E cI (oV fr to l)).take l.length=E cI (oV fr to l):=List.take_of_length_le (by rw[aI,xN fr to l];exact Nat.le_refl _)
   first|exact⟨_,_,rfl,rfl⟩|(simp only[htk];exact⟨_,_,rfl,rfl⟩)
theorem aBo:∀(a b:List Int),a.length=b.length->iN b a=- iN a b
 | [],[],_=>rfl
 | x::a,y::b,h=>by
  have I:=aBo a b (by simpa using h);simp only[iN];by_cases F:rk x<rk y
  .have h2:¬rk y<rk x:=by omega
   have H:rk y>rk x:=by omega
   simp[F,h2,H]
  .by_cases h2:rk y<rk x
   .simp[F,h2]
   .simp[F,h2,I]
 | [],_::_,h=>by simp at h
 |_::_,[],h=>by simp at h
theorem aD7:∀(a b c:List Int),a.length=b.length->b.length=c.length->iN a b=0->iN a c=iN b c
 | [],[],c,_,_,_=>rfl
 |x::a,y::b,[],_,h,_=>by simp at h
 | x::a,y::b,z::c,h1,h2,h=>by
  simp only[iN] at h⊢;split at h
  .cases h
  .split at h
   .cases h
   .have F:=aD7 a b c (by simpa using h1) (by simpa using h2) h;have e:rk x=rk y:=by omega
    rw[e,F]
 | [],_::_,_,h,_,_=>by simp at h
 |_::_,[],_,h,_,_=>by simp at h
theorem aC7:∀(a b c:List Int),a.length=b.length->b.length=c.length->iN a b<0->iN b c<=0->iN a c<0
 | [],[],c,_,_,h,_=>by simp[iN] at h
 |x::a,y::b,[],_,h,_,_=>by simp at h
 | x::a,y::b,z::c,h1,h2,h,h'=>by
  simp only[iN] at h h'⊢;split at h
  .split at h'
   .rw[if_pos (by omega)];omega
   .split at h'
    .omega
    .rw[if_pos (by omega)];omega
  .split at h
   .omega
   .split at h'
    .rw[if_pos (by omega)];omega
    .split at h'
     .omega
     .rw[if_neg (by omega),if_neg (by omega)];exact aC7 a b c (by simpa using h1) (by simpa using h2) h h'
 | [],_::_,_,h,_,_,_=>by simp at h
 |_::_,[],_,h,_,_,_=>by simp at h
end
section
variable [Vs.Envs]
attribute [local irreducible] Vs.Fn chOK areCh chTo chAt l03 chB rk cd3 chI stp stpTo stb
def xM (fr to:Int) (l:List (List Int)) (x y:Int):Prop:=(inO l.length x∧inO l.length y)∧(cfO fr to l x y<0∨(cfO fr to l x y=0∧x<y))
section
variable {fr to:Int}{l:List (List Int)} (ho:∀c,c∈l->okF fr to c)
include ho
theorem qD {x:Int} (F:inO l.length x):(fH fr to (l.getD x.toNat [])).length=to.toNat-fr.toNat:=kR (ho _ (mP F))
theorem aCh {x y:Int} (F:inO l.length x) (H:inO l.length y):cfO fr to l y x=- cfO fr to l x y:=aBo _ _ (by rw[qD ho F,qD ho H])
theorem aMo {x y z:Int} (H:inO l.length x) (F:inO l.length y) (I:inO l.length z) (h:cfO fr to l x y=0):cfO fr to l x z=cfO fr to l y z:=
 aD7 _ _ _ (by rw[qD ho H,qD ho F]) (by rw[qD ho F,qD ho I]) h
theorem aK7 {x y z:Int} (H:inO l.length x) (F:inO l.length y) (I:inO l.length z) (h:cfO fr to l x y<0) (h':cfO fr to l y z<=0):cfO fr to l x z<0:=
 aC7 _ _ _ (by rw[qD ho H,qD ho F]) (by rw[qD ho F,qD ho I]) h h'
theorem lL (x y z:Int) (F:xM fr to l x y) (h2:xM fr to l y z):xM fr to l x z:=by
 obtain⟨⟨H,J⟩,F⟩:=F;obtain⟨⟨_,I⟩,h2⟩:=h2;refine⟨⟨H,I⟩,?_⟩;rcases F with F|⟨F,h3⟩
 .exact .inl (aK7 ho H J I F (by omega))
 .rw[aMo ho H J I F];rcases h2 with h2|⟨h2,h4⟩
  .exact .inl h2
  .exact .inr ⟨h2,by omega⟩
theorem aA6 (x y:Int) (F:xM fr to l x y):¬xM fr to l y x:=by
 rintro⟨⟨I,H⟩,h2⟩;have e:=aCh ho H I;have F:=F.2;omega
theorem aI5:(iota l.length).Pairwise (aDB (ltf (cfO fr to l)) (xM fr to l)):=by
 unfold iota;rw[List.pairwise_map];refine List.Pairwise.imp_of_mem (R:=λa b=>a<b) ?_ List.pairwise_lt_range;intro a b J O L;have F:inO l.length (a:Int):=⟨by omega,by have:=List.mem_range.1 J;omega⟩;have H:inO l.length (b:Int):=⟨by omega,by have:=List.mem_range.1 O;omega⟩;have e:=aCh ho F H;refine⟨?_,?_⟩
 .simp only[ltf,decide_eq_true_eq];exact⟨λh=>⟨⟨H,F⟩,.inl h⟩,λh=>by have:=h.2;omega⟩
 .by_cases h:cfO fr to l b a<0
  .exact .inr ⟨⟨H,F⟩,.inl h⟩
  .refine .inl ⟨⟨F,H⟩,?_⟩;by_cases I:cfO fr to l a b=0
   .exact .inr ⟨I,by omega⟩
   .exact .inl (by omega)
theorem aCA (F:l.length<=40):(oV fr to l).Perm (iota l.length)∧(oV fr to l).Pairwise (xM fr to l):=
 aLw (lL ho) (aA6 ho) (by rw[sH];exact F) (aI5 ho)
theorem aED (F:l.length<=40):∀x,x∈oV fr to l->inO l.length x:=λx H=>aB8 x ((aCA ho F).1.mem_iff.1 H)
end
attribute [local irreducible] oV
def gQ (fr to:Int) (l:List (List Int)):List (List Int):=(oV fr to l).map λi=>l.getD i.toNat []
attribute [local go_sem] aI List.replicate_succ List.replicate_zero List.flatten_cons List.flatten_nil List.cons_append List.nil_append List.set_cons_zero List.set_cons_succ List.length_cons List.length_nil List.length_set in
theorem aAi (l:List (List Int)) (fr to:Int) (ho:∀c,c∈l->okF fr to c) (hl:l.length<=40):Fz F.nW [.sl 1 (E cC l),.agg (cFd fr to)] (.sl 1 (E cC (gQ fr to l))):=by
 have OB:=aLP l fr to ho hl;have hol:=xN fr to l;have hoi:=aED ho hl;rw[show gQ fr to l=(oV fr to l).map (λi=>l.getD i.toNat []) from rfl];generalize oV fr to l=o at *
 refine fn0 Cd.i_sortedBy_k λX=>?_
 repeat' first|simp -dsimp only[go_sem,cC,cFd]|apply Br.mk<;>intro h<;>try simp -dsimp only[h]|refine aD.c (by first|exact OB) ?_|refine aC ?_|fail
 refine aN.at dM (X:={zz:Nat×(Unit) // zz.1<=o.length∧True}) (λzz=>[(5,.loc (.t 5 0) 0 zz.1.1),(13,.v (.int .i64 zz.1.1))]) (λzz=>[(.t 5 0,.arr 1 (E cC ((o.take zz.1.1).map λi=>l.getD i.toNat [])) false)]) (λzz=>o.length-zz.1.1) ⟨(0,()),by omega,trivial⟩ ?_ ?_
 .simp[Vs.LeL,Vs.look,Vs.aB,Vs.aR,Vs.aK,Vs.hset,Vs.aL,Vs.E]
 .rintro⟨⟨i,_⟩,hi,hg⟩;dsimp only at hi hg;simp -dsimp only[go_sem,cC,cFd];refine Br.mk (λhc=>?_) λhc=>?_
  .have hlt:i<o.length:=Dq;have hw:=aH hlt (by omega);have hx:=hoi _ (List.getElem_mem hlt);have gx:=aBq hx;have hm:=mP hx;have hc20:(l.getD o[i].toNat []).length<=20:=(ho _ hm).2.2.2;have NC:=aBZ (l.getD o[i].toNat []) (by omega);have x0:=hx.1;have x1:=hx.2
   have hap:E cC ((o.take i).map λi=>l.getD i.toNat [])++[[.sl 1 (E cI (l.getD o[i].toNat []))]]=E cC ((o.take (i+1)).map λi=>l.getD i.toNat []):=by
    rw[bB hlt,List.map_append,aV];rfl
   have hal:(E cC ((o.take i).map λi=>l.getD i.toNat [])).length=i:=by rw[aI];simp;omega
   repeat' first|simp -dsimp only[go_sem,bY hlt,hw,hap,hal,gx,cC,cFd]|apply Br.mk<;>intro h<;>try simp -dsimp only[h]|refine aD.c (by first|exact NC) ?_|refine aC ?_|fail
   all_goals first|omega|(exact nx (i+1,()) trivial (h2:=by simp[Vs.LeL,Vs.look,Vs.aB,Vs.aR,Vs.aK,Vs.hset,Vs.aL,hap]))
  .have hge:i=o.length:=by
    have:¬i<o.length:=Dq;omega
   subst hge;simp -dsimp only[go_sem,cC,cFd]
   have htk:(E cC ((o.take o.length).map λi=>l.getD i.toNat [])).take o.length=E cC (o.map λi=>l.getD i.toNat []):=by
    rw[List.take_of_length_le (Nat.le_refl o.length)];exact List.take_of_length_le (by rw[aI];simp)
   first|exact⟨⟨_,_,rfl,rfl⟩,λh=>h rfl⟩|(rw[htk];exact⟨⟨_,_,rfl,rfl⟩,λh=>h rfl⟩)|(simp[htk];done)
end
end Go.Proofs.YtmiiohemehacjaaGreatDoor
