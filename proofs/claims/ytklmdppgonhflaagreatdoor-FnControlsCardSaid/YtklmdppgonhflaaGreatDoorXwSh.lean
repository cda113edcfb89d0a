/- Cards are sorted: the program's way. -/
import Derived.Test.YtklmdppgonhflaaGreatDoorXwQd
import Derived.Test.YtklmdppgonhflaaGreatDoorXwD
import Derived.Test.YtklmdppgonhflaaGreatDoorVtR
import Derived.Test.YtklmdppgonhflaaGreatDoorXwQb
set_option linter.all false
set_option maxHeartbeats 8000000
namespace Go.Proofs.YtklmdppgonhflaaGreatDoor
open Go.Vs
section
variable [Vs.Envs]
attribute [local irreducible] Vs.Fn dJ bB dK dL l03 chB rk cd3 chI stp bD
attribute [local irreducible] bL
attribute [local go_sem] cC Af Ag Ao Aq Ae Aj Ad Al Ac Ai Ap
def aHd (l:List (List (List Int))):Prop:=l.length<=1048576∧∀d,d∈l->bO d
def kZ (fr to:Int) (ls:List (List (List Int))):Int:=
 if ls.all bC then(if ls.all (λd=>dW fr to (bK d)) then(if ls.all (bX fr to) then 0 else 8) else 2) else 1
def aAt (fr to:Int) (ts:List ByteArray) (ls:List (List (List Int))):Int:=
 if ls.all bC then(if ls.all (λd=>dW fr to (bK d)) then(if ts.all (λt=>(t.size:Int)==W (to-fr)) then(if ts.all bB then(if ls.all (bX fr to) then 0 else 8) else 7) else 2) else 2) else 1
theorem wR (fr to:Int) (ls:List (List (List Int))) (hk:aHd ls):Fz F.eQ [.agg (cFd fr to),.v (.bool true),.v (.slice none 0 0),.sl 1 (E cD ls)] (.v (.int .i64 (kZ fr to ls))):=by
 refine fn0 Cd.i_collateCode_k λX=>?_;simp -dsimp only[go_sem,cFd,cD];refine aP.at dM (X:={zz:Nat×(Unit) // zz.1<=ls.length∧(ls.take zz.1).all (bC)=true}) (λzz=>[(21,.v (.int .i64 zz.1.1))]) (λzz=>[]) (λzz=>ls.length-zz.1.1) ⟨(0,()),by omega,by simp⟩ ?_ ?_
 .exact le0
 .rintro⟨⟨i,_⟩,hi,hg⟩;dsimp only at hi hg;simp -dsimp only[go_sem,cFd,cD];refine Br.mk (λhc=>?_) λhc=>?_
  .have hlt:i<ls.length:=Dq;have hw:=aJ hlt hk.1;have hsm:=hk.2 _ (Aa hlt);have hm:(E cD ls).getD i []=[.sl 1 (E cC ls[i])]:=aW hlt;cases hb:bC ls[i]
   .have hall:ls.all (bC)=false:=iK (p:=bC) hlt hb
    repeat' first|simp -dsimp only[go_sem,hw,hm,hb,cFd,cD]|apply Br.mk<;>intro h<;>try simp -dsimp only[h]|refine aA.c (by first|exact lY _ hsm.2 hsm.1) ?_|refine aC ?_|refine aC9 ?_|fail
    all_goals first|omega|(refine aR ?_;simp[kZ,hall];done)|(simp[kZ,hall];done)
   .simp -dsimp only[go_sem,hw,hm,hb,cFd,cD]
    repeat' first|simp -dsimp only[go_sem,hw,hm,hb,cFd,cD]|apply Br.mk<;>intro h<;>try simp -dsimp only[h]|refine aA.c (by first|exact lY _ hsm.2 hsm.1) ?_|refine aC ?_|refine aC9 ?_|fail
    all_goals first|omega|(exact nx (i+1,()) (bH (p:=bC) hlt hg hb))
  .have hge:i=ls.length:=by
    have:¬i<ls.length:=Dq;omega
   subst hge;simp -dsimp only[go_sem,cFd,cD];have a1:ls.all (bC)=true:=by simpa using hg
   clear hg hi hc;refine⟨?_,by simp⟩;refine aP.at dM (X:={zz:Nat×(Unit) // zz.1<=ls.length∧(ls.take zz.1).all ((λd=>dW fr to (bK d)))=true}) (λzz=>[(33,.v (.int .i64 zz.1.1))]) (λzz=>[]) (λzz=>ls.length-zz.1.1) ⟨(0,()),by omega,by simp⟩ ?_ ?_
   .exact le0
   .rintro⟨⟨i,_⟩,hi,hg⟩;dsimp only at hi hg;simp -dsimp only[go_sem,cFd,cD];refine Br.mk (λhc=>?_) λhc=>?_
    .have hlt:i<ls.length:=Dq;have hw:=aJ hlt hk.1;have hsm:=hk.2 _ (Aa hlt);have hm:(E cD ls).getD i []=[.sl 1 (E cC ls[i])]:=aW hlt;cases hb:(λd=>dW fr to (bK d)) ls[i]
     .have hall:ls.all ((λd=>dW fr to (bK d)))=false:=iK (p:=(λd=>dW fr to (bK d))) hlt hb
      repeat' first|simp -dsimp only[go_sem,hw,hm,hb,cFd,cD]|apply Br.mk<;>intro h<;>try simp -dsimp only[h]|refine aA.c (by first|exact jG _|exact xH fr to _) ?_|refine aC ?_|refine aC9 ?_|fail
      all_goals first|omega|(refine aR ?_;simp[kZ,hall,a1];done)|(simp[kZ,hall,a1];done)
     .simp -dsimp only[go_sem,hw,hm,hb,cFd,cD]
      repeat' first|simp -dsimp only[go_sem,hw,hm,hb,cFd,cD]|apply Br.mk<;>intro h<;>try simp -dsimp only[h]|refine aA.c (by first|exact jG _|exact xH fr to _) ?_|refine aC ?_|refine aC9 ?_|fail
      all_goals first|omega|(exact nx (i+1,()) (bH (p:=(λd=>dW fr to (bK d))) hlt hg hb))
    .have hge:i=ls.length:=by
      have:¬i<ls.length:=Dq;omega
     subst hge;simp -dsimp only[go_sem,cFd,cD];have a2:ls.all ((λd=>dW fr to (bK d)))=true:=by simpa using hg
     clear hg hi hc;refine⟨?_,by simp⟩;refine aP.at dM (X:={zz:Nat×(Unit) // zz.1<=0∧True}) (λzz=>[(45,.v (.int .i64 zz.1.1))]) (λzz=>[]) (λzz=>0-zz.1.1) ⟨(0,()),by omega,trivial⟩ ?_ ?_
     .exact le0
     .rintro⟨⟨i,_⟩,hi,hg⟩;dsimp only at hi hg;simp -dsimp only[go_sem,cFd,cD];refine Br.mk (λhc=>?_) λhc=>?_
      .have hlt:i<0:=by have:=BK hc;omega
       have hw:=aJ hlt (by omega);exact absurd hlt (by omega)
      .have hge:i=0:=by
        have:¬i<0:=by have:=BU hc;omega
        omega
       subst hge;simp -dsimp only[go_sem,cFd,cD];clear hg hi hc;refine⟨?_,by simp⟩;refine aP.at dM (X:={zz:Nat×(Unit) // zz.1<=0∧True}) (λzz=>[(60,.v (.int .i64 zz.1.1))]) (λzz=>[]) (λzz=>0-zz.1.1) ⟨(0,()),by omega,trivial⟩ ?_ ?_
       .exact le0
       .rintro⟨⟨i,_⟩,hi,hg⟩;dsimp only at hi hg;simp -dsimp only[go_sem,cFd,cD];refine Br.mk (λhc=>?_) λhc=>?_
        .have hlt:i<0:=by have:=BK hc;omega
         have hw:=aJ hlt (by omega);exact absurd hlt (by omega)
        .have hge:i=0:=by
          have:¬i<0:=by have:=BU hc;omega
          omega
         subst hge;simp -dsimp only[go_sem,cFd,cD];clear hg hi hc;refine⟨?_,by simp⟩;refine aP.at dM (X:={zz:Nat×(Unit) // zz.1<=ls.length∧(ls.take zz.1).all ((bX fr to))=true}) (λzz=>[(70,.v (.int .i64 zz.1.1))]) (λzz=>[]) (λzz=>ls.length-zz.1.1) ⟨(0,()),by omega,by simp⟩ ?_ ?_
         .exact le0
         .rintro⟨⟨i,_⟩,hi,hg⟩;dsimp only at hi hg;simp -dsimp only[go_sem,cFd,cD];refine Br.mk (λhc=>?_) λhc=>?_
          .have hlt:i<ls.length:=Dq;have hw:=aJ hlt hk.1;have hsm:=hk.2 _ (Aa hlt);have hm:(E cD ls).getD i []=[.sl 1 (E cC ls[i])]:=aW hlt;have hdk:bC ls[i]=true:=(Az.1 a1) _ (Aa hlt);have hfk:dW fr to (bK ls[i])=true:=(Az.1 a2) _ (Aa hlt);have hof:=eG hdk hfk;cases hb:(bX fr to) ls[i]
           .have hall:ls.all ((bX fr to))=false:=iK (p:=(bX fr to)) hlt hb
            repeat' first|simp -dsimp only[go_sem,hw,hm,hb,cFd,cD]|apply Br.mk<;>intro h<;>try simp -dsimp only[h]|refine aA.c (by first|exact sI _ fr to hof hsm.1) ?_|refine aC ?_|refine aC9 ?_|fail
            all_goals first|omega|(refine aR ?_;simp[kZ,hall,a1,a2];done)|(simp[kZ,hall,a1,a2];done)
           .simp -dsimp only[go_sem,hw,hm,hb,cFd,cD]
            repeat' first|simp -dsimp only[go_sem,hw,hm,hb,cFd,cD]|apply Br.mk<;>intro h<;>try simp -dsimp only[h]|refine aA.c (by first|exact sI _ fr to hof hsm.1) ?_|refine aC ?_|refine aC9 ?_|fail
            all_goals first|omega|(exact nx (i+1,()) (bH (p:=(bX fr to)) hlt hg hb))
          .have hge:i=ls.length:=by
            have:¬i<ls.length:=Dq;omega
           subst hge;simp -dsimp only[go_sem,cFd,cD];have a5:ls.all (bX fr to)=true:=by simpa using hg
           simp[kZ,a1,a2,a5]
theorem aLY (fr to:Int) (ls:List (List (List Int))) (hk:aHd ls) (ts:List ByteArray) (hts:ts.length<=1048576) (htz:∀t,t∈ts->t.size<=1048576):Fz F.eQ [.agg (cFd fr to),.v (.bool true),.sl 1 (E cSt ts),.sl 1 (E cD ls)] (.v (.int .i64 (aAt fr to ts ls))):=by
 refine fn0 Cd.i_collateCode_k λX=>?_;simp -dsimp only[go_sem,cFd,cD];refine aP.at dM (X:={zz:Nat×(Unit) // zz.1<=ls.length∧(ls.take zz.1).all (bC)=true}) (λzz=>[(21,.v (.int .i64 zz.1.1))]) (λzz=>[]) (λzz=>ls.length-zz.1.1) ⟨(0,()),by omega,by simp⟩ ?_ ?_
 .exact le0
 .rintro⟨⟨i,_⟩,hi,hg⟩;dsimp only at hi hg;simp -dsimp only[go_sem,cFd,cD];refine Br.mk (λhc=>?_) λhc=>?_
  .have hlt:i<ls.length:=Dq;have hw:=aJ hlt hk.1;have hsm:=hk.2 _ (Aa hlt);have hm:(E cD ls).getD i []=[.sl 1 (E cC ls[i])]:=aW hlt;cases hb:bC ls[i]
   .have hall:ls.all (bC)=false:=iK (p:=bC) hlt hb
    repeat' first|simp -dsimp only[go_sem,hw,hm,hb,cFd,cD]|apply Br.mk<;>intro h<;>try simp -dsimp only[h]|refine aA.c (by first|exact lY _ hsm.2 hsm.1) ?_|refine aC ?_|refine aC9 ?_|fail
    all_goals first|omega|(refine aR ?_;simp[aAt,hall];done)|(simp[aAt,hall];done)
   .simp -dsimp only[go_sem,hw,hm,hb,cFd,cD]
    repeat' first|simp -dsimp only[go_sem,hw,hm,hb,cFd,cD]|apply Br.mk<;>intro h<;>try simp -dsimp only[h]|refine aA.c (by first|exact lY _ hsm.2 hsm.1) ?_|refine aC ?_|refine aC9 ?_|fail
    all_goals first|omega|(exact nx (i+1,()) (bH (p:=bC) hlt hg hb))
  .have hge:i=ls.length:=by
    have:¬i<ls.length:=Dq;omega
   subst hge;simp -dsimp only[go_sem,cFd,cD];have a1:ls.all (bC)=true:=by simpa using hg
   clear hg hi hc;refine⟨?_,by simp⟩;refine aP.at dM (X:={zz:Nat×(Unit) // zz.1<=ls.length∧(ls.take zz.1).all ((λd=>dW fr to (bK d)))=true}) (λzz=>[(33,.v (.int .i64 zz.1.1))]) (λzz=>[]) (λzz=>ls.length-zz.1.1) ⟨(0,()),by omega,by simp⟩ ?_ ?_
   .exact le0
   .rintro⟨⟨i,_⟩,hi,hg⟩;dsimp only at hi hg;simp -dsimp only[go_sem,cFd,cD];refine Br.mk (λhc=>?_) λhc=>?_
    .have hlt:i<ls.length:=Dq;have hw:=aJ hlt hk.1;have hsm:=hk.2 _ (Aa hlt);have hm:(E cD ls).getD i []=[.sl 1 (E cC ls[i])]:=aW hlt;cases hb:(λd=>dW fr to (bK d)) ls[i]
     .have hall:ls.all ((λd=>dW fr to (bK d)))=false:=iK (p:=(λd=>dW fr to (bK d))) hlt hb
      repeat' first|simp -dsimp only[go_sem,hw,hm,hb,cFd,cD]|apply Br.mk<;>intro h<;>try simp -dsimp only[h]|refine aA.c (by first|exact jG _|exact xH fr to _) ?_|refine aC ?_|refine aC9 ?_|fail
      all_goals first|omega|(refine aR ?_;simp[aAt,hall,a1];done)|(simp[aAt,hall,a1];done)
     .simp -dsimp only[go_sem,hw,hm,hb,cFd,cD]
      repeat' first|simp -dsimp only[go_sem,hw,hm,hb,cFd,cD]|apply Br.mk<;>intro h<;>try simp -dsimp only[h]|refine aA.c (by first|exact jG _|exact xH fr to _) ?_|refine aC ?_|refine aC9 ?_|fail
      all_goals first|omega|(exact nx (i+1,()) (bH (p:=(λd=>dW fr to (bK d))) hlt hg hb))
    .have hge:i=ls.length:=by
      have:¬i<ls.length:=Dq;omega
     subst hge;simp -dsimp only[go_sem,cFd,cD];have a2:ls.all ((λd=>dW fr to (bK d)))=true:=by simpa using hg
     clear hg hi hc;refine⟨?_,by simp⟩;refine aP.at dM (X:={zz:Nat×(Unit) // zz.1<=ts.length∧(ts.take zz.1).all ((λt:ByteArray=>(t.size:Int)==W (to-fr)))=true}) (λzz=>[(45,.v (.int .i64 zz.1.1))]) (λzz=>[]) (λzz=>ts.length-zz.1.1) ⟨(0,()),by omega,by simp⟩ ?_ ?_
     .exact le0
     .rintro⟨⟨i,_⟩,hi,hg⟩;dsimp only at hi hg;simp -dsimp only[go_sem,cFd,cD];refine Br.mk (λhc=>?_) λhc=>?_
      .have hlt:i<ts.length:=Dq;have hw:=aJ hlt hts;have hm:(E cSt ts).getD i []=[.v (.string ts[i])]:=aW hlt;have hne:((ts[i].size:Int) != IntKind.i64.wrap (to-fr)) = !((ts[i].size:Int)==W (to-fr)):=rfl;cases hb:(λt:ByteArray=>(t.size:Int)==W (to-fr)) ts[i]
       .have hall:ts.all ((λt:ByteArray=>(t.size:Int)==W (to-fr)))=false:=iK (p:=(λt:ByteArray=>(t.size:Int)==W (to-fr))) hlt hb
        repeat' first|simp -dsimp only[go_sem,hw,hm,hb,hne,BV,Cs,cFd,cD]|apply Br.mk<;>intro h<;>try simp -dsimp only[h]|refine aC ?_|refine aC9 ?_|fail
        all_goals first|omega|(refine aR ?_;simp[aAt,hall,a1,a2];done)|(simp[aAt,hall,a1,a2];done)
       .simp -dsimp only[go_sem,hw,hm,hb,hne,BV,Cs,cFd,cD]
        repeat' first|simp -dsimp only[go_sem,hw,hm,hb,hne,BV,Cs,cFd,cD]|apply Br.mk<;>intro h<;>try simp -dsimp only[h]|refine aC ?_|refine aC9 ?_|fail
        all_goals first|omega|(exact nx (i+1,()) (bH (p:=(λt:ByteArray=>(t.size:Int)==W (to-fr))) hlt hg hb))
      .have hge:i=ts.length:=by
        have:¬i<ts.length:=Dq;omega
       subst hge;simp -dsimp only[go_sem,cFd,cD];have a3:ts.all ((λt:ByteArray=>(t.size:Int)==W (to-fr)))=true:=by simpa using hg
       clear hg hi hc;refine⟨?_,by simp⟩;refine aP.at dM (X:={zz:Nat×(Unit) // zz.1<=ts.length∧(ts.take zz.1).all (bB)=true}) (λzz=>[(60,.v (.int .i64 zz.1.1))]) (λzz=>[]) (λzz=>ts.length-zz.1.1) ⟨(0,()),by omega,by simp⟩ ?_ ?_
       .exact le0
       .rintro⟨⟨i,_⟩,hi,hg⟩;dsimp only at hi hg;simp -dsimp only[go_sem,cFd,cD];refine Br.mk (λhc=>?_) λhc=>?_
        .have hlt:i<ts.length:=Dq;have hw:=aJ hlt hts;have hm:(E cSt ts).getD i []=[.v (.string ts[i])]:=aW hlt;cases hb:bB ts[i]
         .have hall:ts.all (bB)=false:=iK (p:=bB) hlt hb
          repeat' first|simp -dsimp only[go_sem,hw,hm,hb,cFd,cD]|apply Br.mk<;>intro h<;>try simp -dsimp only[h]|refine aA.c (by first|exact uZ _ (htz _ (Aa hlt))) ?_|refine aC ?_|refine aC9 ?_|fail
          all_goals first|omega|(refine aR ?_;simp[aAt,hall,a1,a2,a3];done)|(simp[aAt,hall,a1,a2,a3];done)
         .simp -dsimp only[go_sem,hw,hm,hb,cFd,cD]
          repeat' first|simp -dsimp only[go_sem,hw,hm,hb,cFd,cD]|apply Br.mk<;>intro h<;>try simp -dsimp only[h]|refine aA.c (by first|exact uZ _ (htz _ (Aa hlt))) ?_|refine aC ?_|refine aC9 ?_|fail
          all_goals first|omega|(exact nx (i+1,()) (bH (p:=bB) hlt hg hb))
        .have hge:i=ts.length:=by
          have:¬i<ts.length:=Dq;omega
         subst hge;simp -dsimp only[go_sem,cFd,cD];have a4:ts.all (bB)=true:=by simpa using hg
         clear hg hi hc;refine⟨?_,by simp⟩;refine aP.at dM (X:={zz:Nat×(Unit) // zz.1<=ls.length∧(ls.take zz.1).all ((bX fr to))=true}) (λzz=>[(70,.v (.int .i64 zz.1.1))]) (λzz=>[]) (λzz=>ls.length-zz.1.1) ⟨(0,()),by omega,by simp⟩ ?_ ?_
         .exact le0
         .rintro⟨⟨i,_⟩,hi,hg⟩;dsimp only at hi hg;simp -dsimp only[go_sem,cFd,cD];refine Br.mk (λhc=>?_) λhc=>?_
          .have hlt:i<ls.length:=Dq;have hw:=aJ hlt hk.1;have hsm:=hk.2 _ (Aa hlt);have hm:(E cD ls).getD i []=[.sl 1 (E cC ls[i])]:=aW hlt;have hdk:bC ls[i]=true:=(Az.1 a1) _ (Aa hlt);have hfk:dW fr to (bK ls[i])=true:=(Az.1 a2) _ (Aa hlt);have hof:=eG hdk hfk;cases hb:(bX fr to) ls[i]
           .have hall:ls.all ((bX fr to))=false:=iK (p:=(bX fr to)) hlt hb
            repeat' first|simp -dsimp only[go_sem,hw,hm,hb,cFd,cD]|apply Br.mk<;>intro h<;>try simp -dsimp only[h]|refine aA.c (by first|exact sI _ fr to hof hsm.1) ?_|refine aC ?_|refine aC9 ?_|fail
            all_goals first|omega|(refine aR ?_;simp[aAt,hall,a1,a2,a3,a4];done)|(simp[aAt,hall,a1,a2,a3,a4];done)
           .simp -dsimp only[go_sem,hw,hm,hb,cFd,cD]
            repeat' first|simp -dsimp only[go_sem,hw,hm,hb,cFd,cD]|apply Br.mk<;>intro h<;>try simp -dsimp only[h]|refine aA.c (by first|exact sI _ fr to hof hsm.1) ?_|refine aC ?_|refine aC9 ?_|fail
            all_goals first|omega|(exact nx (i+1,()) (bH (p:=(bX fr to)) hlt hg hb))
          .have hge:i=ls.length:=by
            have:¬i<ls.length:=Dq;omega
           subst hge;simp -dsimp only[go_sem,cFd,cD];have a5:ls.all (bX fr to)=true:=by simpa using hg
           simp[aAt,a1,a2,a3,a4,a5]
theorem aH7 (fr to:Int) (l:List (List Int)) (i:Nat):∀k,∃r,bD fr to l (i+k)=bD fr to l i++r
 |0=>⟨[],by simp⟩
 | k+1=>by
  obtain⟨r,F⟩:=aH7 fr to l i k;exact⟨r++(if cmF fr to (l.getD (i+k+1) []) (l.getD (i+k) [])<0 then[((i+k+1:Nat):Int)] else[]),by rw[←Cn,bD,F,Bz]⟩
def stF (fr to:Int) (l:List (List Int)):Int:=(stp fr to l).headD (-1)
theorem dN (fr to:Int) (l:List (List Int)):decide (stF fr to l≥0) = !jC fr to l:=by
 have G:∀k,∀x,x∈bD fr to l k->0<=x:=by
  intro k
  induction k with
  |zero=>intro x F;simp[bD] at F
  | succ k ih =>
   intro x F;rw[bD] at F;rcases Bg.1 F with F|F
   .exact ih x F
   .split at F
    .simp at F;omega
    .cases F
 unfold stF jC;cases h:stp fr to l with
 |nil=>simp
 | cons x r =>
  have:=G (l.length-1) x (by unfold stp at h;rw[h];simp);simp only[List.headD_cons,ge_iff_le,this,decide_true,Ac]
  symm
  simp;omega
attribute [local go_sem] aH cFd cD in
theorem cB (l:List (List Int)) (fr to:Int) (ho:∀c,c∈l->okF fr to c) (hh:bX fr to l=true) (hl:l.length<=1048576):Fz F.nK [.sl 1 (E cSt (bV fr to l))] (.v (.int .i64 (stF fr to l))):=by
 have hkl:(bV fr to l).length=l.length:=by simp[bV]
 refine fn0 Cd.s_l07Step_k λX=>?_;simp -dsimp only[go_sem,hkl];refine aP.at dM (X:={zz:Nat×(Unit) // zz.1<=l.length-1∧bD fr to l zz.1=[]}) (λzz=>[(3,.v (.int .i64 ((zz.1.1+1:Nat):Int)))]) (λzz=>[]) (λzz=>l.length-1-zz.1.1) ⟨(0,()),by omega,by simp[bD]⟩ ?_ ?_
 .simp[Vs.LeL,Vs.look,aB,aQ,aK,Vs.hset,aL,Vs.E,bD]
 .rintro⟨⟨i,_⟩,hi,hg⟩;dsimp only at hi hg;simp -dsimp only[go_sem,hkl];refine Br.mk (λhc=>?_) λhc=>?_
  .have hlt:i<l.length-1:=Dq;have hw:=aJ hlt (by omega);have hl1:i+1<l.length:=by omega
   have hl0:i<l.length:=by omega
   have hk1:=ho _ (Aa hl1);have hk0:=ho _ (Aa hl0);have hc1:cK (fH fr to l[i+1])=true:=(Az.1 hh) _ (Aa hl1);have hc0:cK (fH fr to l[i])=true:=(Az.1 hh) _ (Aa hl0);have hm1:(E cSt (bV fr to l)).getD (i+1) []=[.v (.string (txt (fH fr to l[i+1])))]:=by rw[aW (by omega)];simp[bV,cSt]
   have hm0:(E cSt (bV fr to l)).getD i []=[.v (.string (txt (fH fr to l[i])))]:=by rw[aW (by omega)];simp[bV,cSt]
   have hw2:=aND hlt hl;have hw3:=aNC hlt hl;have g1:l.getD (i+1) []=l[i+1]:=by simp[List.getD,hl1]
   have g0:l.getD i []=l[i]:=by simp[List.getD,hl0]
   have hcf:jM (fH fr to l[i+1]) (fH fr to l[i])=cmF fr to l[i+1] l[i]:=rfl;by_cases hz:cmF fr to l[i+1] l[i]<0
   .have e1:decide (cmF fr to l[i+1] l[i]<0)=true:=A9 hz;have hs:bD fr to l (i+1)=[((i+1:Nat):Int)]:=by rw[bD,g1,g0,AP hz,hg];rfl
    obtain⟨r,hr⟩:=aH7 fr to l (i+1) (l.length-1-(i+1));rw[show i+1+(l.length-1-(i+1))=l.length-1 by omega,hs] at hr;have hst:stF fr to l=((i+1:Nat):Int):=by unfold stF stp;rw[hr];rfl
    repeat' first|simp -dsimp only[go_sem,hw2,hw3,hm1,hm0,hcf,e1,hkl]|apply Br.mk<;>intro h<;>try simp -dsimp only[h]|refine aA.c (by first|exact xE _ _ (aBq hk1) ((mE hk1).trans (mE hk0).symm) hc1 hc0) ?_|refine aC ?_|refine aC9 ?_|fail
    all_goals first|omega|(refine aR ?_;simp[hst];done)|(simp[hst];done)
   .have e1:decide (cmF fr to l[i+1] l[i]<0)=false:=AQ hz;have hs:bD fr to l (i+1)=[]:=by rw[bD,g1,g0,AC hz,hg];rfl
    repeat' first|simp -dsimp only[go_sem,hw2,hw3,hm1,hm0,hcf,e1,hkl]|apply Br.mk<;>intro h<;>try simp -dsimp only[h]|refine aA.c (by first|exact xE _ _ (aBq hk1) ((mE hk1).trans (mE hk0).symm) hc1 hc0) ?_|refine aC ?_|refine aC9 ?_|fail
    all_goals first|omega|(exact nx (i+1,()) hs)
  .have hge:i=l.length-1:=by
    have:¬i<l.length-1:=Dq;omega
   subst hge;simp -dsimp only[go_sem,hkl];have hst:stF fr to l=-1:=by unfold stF stp;rw[hg];rfl
   simp[hst]
end
section
variable [Vs.Envs]
attribute [local irreducible] Vs.Fn dJ bB dK dL l03 chB rk cd3 chI stp bD
def flt (q:List Int->Bool) (l:List (List Int)):List (List Int):=l.filter λx=>!q x
theorem zK {q:List Int->Bool}{l:List (List Int)}{j:Nat} (h:j<l.length):flt q (l.take (j+1))=flt q (l.take j)++(if q l[j] then[] else[l[j]]):=by
 unfold flt;rw[bM h,List.filter_append];congr 1;cases hq:q l[j]<;>simp[DF,hq]
theorem aAq (q:List Int->Bool) (l:List (List Int)):(flt q l).length<=l.length:=List.length_filter_le ..
theorem aGy {q:List Int->Bool}{l:List (List Int)} (h:l.all (λx=>!q x)=true):flt q l=l:=by
 unfold flt;exact List.filter_eq_self.2 (Az.1 h)
theorem aHB (q:List Int->Bool) (l:List (List Int)):(uW q l=-1∧l.all (λx=>!q x)=true)∨∃i:Nat,∃h:i<l.length,uW q l=i∧q l[i]=true∧(l.take i).all (λx=>!q x)=true:=by
 unfold uW;cases h:l.findIdx? q with
 | none =>
  rw[List.findIdx?_eq_none_iff] at h;exact .inl ⟨rfl,Az.2 λx F=>by simp[h x F]⟩
 | some i =>
  rw[Du] at h;obtain⟨hi,G,h2⟩:=h;refine .inr ⟨i,hi,rfl,G,Az.2 λx F=>?_⟩;obtain⟨j,H,rfl⟩:=List.mem_take_iff_getElem.1 F;simpa using h2 j (by omega)
theorem aO5 (m:List (List Int)) (i:Nat) (x:List Int):(E cC m).set i [.sl 1 (E cI x)]=E cC (m.set i x):=by simp[E,Dc,cC]
theorem aCa (l:List (List Int)):(E cC l).take l.length=E cC l:=Ah (by simp[E])
def zR (n:Nat):List (List AV):=List.replicate n [.v (.slice none 0 0)]
theorem aNo {m:List (List Int)}{i n:Nat} (G:m.length=n) (hi:i<=n):aBx (E cC m) i (n-i) [.v (.slice none 0 0)]=E cC (m.take i)++zR (n-i):=by
 unfold aBx zR;have F:(E cC m).take i=E cC (m.take i):=by simp[E,CG]
 have h2:(E cC m).drop (i+(n-i))=[]:=List.drop_eq_nil_of_le (by rw[aH];omega);rw[F,h2,Be]
theorem aEF {c:List AV} (h:jN c=true) (n:Name):mD n c=false:=by
 induction c with
 |nil=>rfl
 | cons x r ih =>
  simp only[jN,BJ,Aw] at h
  have G:x.has n=false:=by
   have F:=h.1;cases x<;>first|rfl|simp[aL3] at F
  simp[mD,G,ih h.2]
attribute [local irreducible] flt uW zR aBx
attribute [local go_sem] Af Ag Ao Aq Ae Aj Ad Al Ac Ai Ap in
theorem delF (q:List Int->Bool) (g:FuncId) (caps:List AV) (hcaps:jN caps=true) (l:List (List Int)) (hl:l.length<=1048576) (hq:∀x,x∈l->Vs.Fn Tryz.prog g [] (.agg (cC x)::caps) (.v (.bool (q x))) []) :
  Vs.Fn Tryz.prog F.uF [.arr 1 (E cC l) false] [.loc (.b 0) 0 l.length,.fn g caps] (.loc (.b 0) 0 (flt q l).length) [some (.arr 1 (E cC (flt q l)++zR (l.length-(flt q l).length)) false)]:=by
 have hidx:Fz F.mO [.sl 1 (E cC l),.fn g caps] (.v (.int .i64 (uW q l))):=
  aHz Tryz.mixed (k:=1) Cd.ixf_Card_k.o Cd.ixf_Card_k.n Cd.ixf_Card_k.r rfl q g caps hcaps (λ_=>rfl) (λ_=>rfl) hq hl
 refine fn1 Cd.dlf_Card_k [.b 0] [.arr 1 (E cC (flt q l)++zR (l.length-(flt q l).length)) false] λX=>?_;unfold Cd.uF;simp -dsimp only[go_sem,aG hcaps _ 6,aG hcaps _ 7,aCa,aH];refine aA.flat hidx rfl ?_;rcases aHB q l with⟨hn,hall⟩|⟨i0,hi0,hn,hq0,hall⟩
 .have e1:((-1:Int) == -1)=true:=rfl;rw[hn];have hfl:=aGy hall;rw[hfl];have hz0:E cC l++zR (l.length-l.length)=E cC l:=by unfold zR;simp
  simp -dsimp only[go_sem,e1,aH];exact⟨[],[],rfl,by rw[hz0]⟩
 .have e1:((i0:Int) == -1)=false:=AB.2 (by omega);have hw0:=aJ hi0 hl;rw[hn];simp -dsimp only[go_sem,e1,hw0,aH];refine aP.at dM (X:={zz:Nat×Nat×List (List Int) // (zz.1<=l.length∧zz.2.1<zz.1)∧zz.2.2.length=l.length∧zz.2.2.take zz.2.1=flt q (l.take zz.1)∧zz.2.2.drop zz.1=l.drop zz.1}) (λzz=>[(5,.v (.int .i64 zz.1.2.1)),(6,.v (.int .i64 zz.1.1))]) (λzz=>[(.b 0,.arr 1 (E cC zz.1.2.2) false)]) (λzz=>l.length-zz.1.1) ⟨(i0+1,i0,l),⟨show i0+1<=l.length by omega,show i0<i0+1 by omega⟩,rfl,?_,rfl⟩ ?_ ?_
  .show l.take i0=flt q (l.take (i0+1))
   rw[zK hi0,aGy hall,hq0];simp
  .exact le0
  .rintro⟨⟨j,i,m⟩,⟨hj,hij⟩,hm,ht,hd⟩;dsimp only at hj hij hm ht hd;simp -dsimp only[go_sem];refine Br.mk (λhc=>?_) λhc=>?_
   .have hlt:j<l.length:=by simpa using hc
    have hw:=aJ hlt hl;have hwi:=aJ (show i<l.length by omega) hl;have hjm:j<m.length:=by omega
    have him:i<m.length:=by omega
    have hmj:m[j]=l[j]:=by
     have h1:=Cm (λx=>x[0]?) hd;simpa[Dp,hjm,hlt] using h1
    have hgm:(E cC m).getD j []=[.sl 1 (E cI l[j])]:=by rw[aW hjm,hmj];rfl
    have hgi:(E cC m).getD i []=[.sl 1 (E cI m[i])]:=aW him;have hlm:(E cC m).length=l.length:=by rw[aH];exact hm
    have hcj:Vs.Fn Tryz.prog g [] (.agg [.sl 1 (E cI l[j])]::caps) (.v (.bool (q l[j]))) []:=hq _ (Aa hlt);have hsm:=aO5 m i l[j]
    have hdd:m.drop (j+1)=l.drop (j+1):=by
     have h1:=Cm (List.drop 1) hd;simpa[List.drop_drop] using h1
    cases hqj:q l[j]
    .have htt:(m.set i l[j]).take (i+1)=flt q (l.take (j+1)):=by
      rw[zK hlt,hqj,←ht,bM (show i<(m.set i l[j]).length by simpa using him)];simp only[List.append_cancel_right_eq,List.getElem_set_self,Bc,AO];rw[List.take_set_of_le (Au _)]
     have hd2:(m.set i l[j]).drop (j+1)=l.drop (j+1):=by rw[List.drop_set_of_lt (by omega),hdd]
     repeat' first|simp -dsimp only[go_sem,hw,hwi,hgm,hgi,hlm,hsm,hqj,aG hcaps _ 6,aG hcaps _ 7,aEF hcaps]|apply Br.mk<;>intro h<;>try simp -dsimp only[h]|refine aA.c (by first|exact hcj) ?_|refine aC ?_|refine aC9 ?_|fail
     all_goals first|omega|(exact⟨⟨(j+1,i+1,m.set i l[j]),⟨by dsimp only;omega,by dsimp only;omega⟩,by simpa using hm,htt,hd2⟩,by simp[Vs.LeL,Vs.look,aB,aQ,aK,Vs.hset,aL],by simp only;omega⟩)
    .have htt:m.take i=flt q (l.take (j+1)):=by rw[zK hlt,hqj,←ht];simp
     repeat' first|simp -dsimp only[go_sem,hw,hwi,hgm,hgi,hlm,hsm,hqj,aG hcaps _ 6,aG hcaps _ 7,aEF hcaps]|apply Br.mk<;>intro h<;>try simp -dsimp only[h]|refine aA.c (by first|exact hcj) ?_|refine aC ?_|refine aC9 ?_|fail
     all_goals first|omega|(exact⟨⟨(j+1,i,m),⟨by dsimp only;omega,by dsimp only;omega⟩,hm,htt,hdd⟩,by simp[Vs.LeL,Vs.look,aB,aQ,aK,Vs.hset,aL],by simp only;omega⟩)
   .have hge:j=l.length:=by
     have:¬j<l.length:=by simpa using hc
     omega
    subst hge;rw[Bw] at ht;have hfi:(flt q l).length=i:=by rw[←ht];simp;omega
    have hlm:(E cC m).length=l.length:=by rw[aH];exact hm
    have hcl:=aNo hm (show i<=l.length by omega);rw[ht] at hcl;have hti:((l.length:Int)-(i:Int)).toNat=l.length-i:=by omega
    rw[hfi];simp -dsimp only[go_sem,hlm,hcl,hti];have hti2:((i:Int)-0).toNat=i:=by omega
    rw[hti2];exact⟨⟨⟨by omega,by omega,by omega⟩,by omega,⟨by omega,by omega,by omega⟩,⟨[],[],rfl,rfl⟩⟩,λh=>h rfl⟩
end
section
variable [Vs.Envs]
attribute [local irreducible] Vs.Fn dJ bB dK dL l03 chB rk cd3 chI stp bD flt uW zR aBx
attribute [local irreducible] bL
def x8 (fr to:Int) (o:List (List Int)) (x:List Int):Bool:=o.any λc=>cmF fr to c x==0
def mat (fr to:Int) (l o:List (List Int)) (e:Bool):List (List Int):=flt (λx=>!(x8 fr to o x==e)) l
theorem aM1 (x:List Int) (o:List (List Int)) (fr to:Int) (e:Bool) (H:okF fr to x) (ho:∀c,c∈o->okF fr to c) (G:o.length<=1048576):Fz F.gL [.agg (cC x),.ro [.sl 1 (E cC o)],.ro (cFd fr to),.ro [.v (.bool e)]] (.v (.bool (!(x8 fr to o x==e)))):=by
 refine fn0 Cd.i_MatchDecks_1_1_k λX=>?_
 repeat' first|simp -dsimp only[go_sem,cC,cFd,Af,Ag,Ao,Aq,Ae,Aj,Ad,Al,Ac,Ai,Ap]|apply Br.mk<;>intro h<;>try simp -dsimp only[h]|refine aA.c (by first|exact aLE o x fr to H ho G) ?_|refine aC ?_|refine aC9 ?_|fail
 all_goals(simp_all [x8])
theorem aA.borL {P:Program}{f:FuncId}{b:Blk}{ys:List AV}{L:List Vs.Name}{d:Option Nat}{σ:St}{n:Vs.Name}{K:St->Prop}{t:Tag K}{r:AV}{hout:List (Option Blk)} (F:Vs.Fn P f [b] ys r hout) (G:jB (d.getD 0) 1 hout.length σ=true)
  (H:K ⟨put d (rn (phi [n] (d.getD 0) hout.length) r) σ.s,yA σ.h [n] (d.getD 0) hout true L⟩):aA P f [b] ys L d σ [n] K t:=
 ⟨r,hout,true,F,λh=>(by cases h),G,H⟩
theorem aFV (m:List (List Int)) (k:Nat):(E cC m++zR k).take m.length=E cC m:=by
 have:m.length=(E cC m).length:=(aH ..).symm;rw[this,List.take_left'];rfl
attribute [local go_sem] Af Ag Ao Aq Ae Aj Ad Al Ac Ai Ap in
theorem aFm (l o:List (List Int)) (fr to:Int) (e:Bool) (V:∀x,x∈l->x.length<=1048576) (I:l.length<=1048576) (G:o.length<=1048576) (Y:∀c,c∈l->okF fr to c) (ho:∀c,c∈o->okF fr to c) :
  Fz F.lQ [.sl 1 (E cC l),.sl 1 (E cC o),.v (.bool e),.ro (cFd fr to)] (.sl 1 (E cC (mat fr to l o e))):=by
 have M:=delF (λx=>!(x8 fr to o x==e)) F.gL [.ro [.sl 1 (E cC o)],.ro (cFd fr to),.ro [.v (.bool e)]] rfl l I (λx H=>aM1 x o fr to e (Y x H) ho G);refine fn0 Cd.i_MatchDecks_1_k λX=>?_;simp -dsimp only[go_sem,cC,cFd];refine aA.own (aBa l V I) rfl ?_;simp -dsimp only[go_sem,cC,cFd,BF,BG,aU,bF,aT,Ar,Be];refine⟨rfl,aA.borL M rfl ?_⟩;simp -dsimp only[go_sem,cC,cFd];have U:=aFV (flt (λx=>!(x8 fr to o x==e)) l) (l.length-(flt (λx=>!(x8 fr to o x==e)) l).length);have J:(flt (λx=>!(x8 fr to o x==e)) l).length<=l.length:=aAq ..
 have O:mat fr to l o e=flt (λx=>!(x8 fr to o x==e)) l:=rfl;rw[O];simp -dsimp only[go_sem,AJ,Ce,aH,AX,U];exact⟨_,_,rfl,rfl⟩
def mtC (fr to:Int) (a b:List (List Int)):Int:=if kZ fr to [a,b]=0 then(if jC fr to a&&jC fr to b then 0 else 6) else kZ fr to [a,b]
def mtL (fr to:Int) (a b:List (List Int)):List (List (List Int)):=[mat fr to a b true,mat fr to b a true,mat fr to a b false,mat fr to b a false]
def mtV (fr to:Int) (a b:List (List Int)):AV:=if mtC fr to a b=0 then .sl 1 (E cD (mtL fr to a b)) else .v (.slice none 0 0)
theorem aC1 {fr to:Int}{a b:List (List Int)} (h:kZ fr to [a,b]=0):(bC a=true∧bC b=true)∧(dW fr to (bK a)=true∧dW fr to (bK b)=true)∧bX fr to a=true∧bX fr to b=true:=by
 unfold kZ at h;split at h
 .rename_i F;split at h
  .rename_i h2;split at h
   .rename_i G;simp only[BJ,DL,Bool.and_true,Aw] at F h2 G;exact⟨F,h2,G⟩
   .cases h
  .cases h
 .cases h
theorem aAU {a b:List (List Int)} (G:bO a) (H:bO b):aHd [a,b]:=by
 refine⟨by simp,λd F=>?_⟩;simp only[Am,Ak,AR] at F;rcases F with rfl|rfl<;>assumption
attribute [local irreducible] mat kZ jC
attribute [local go_sem] Af Ag Ao Aq Ae Aj Ad Al Ac Ai Ap Bf BA Cj Ce in
theorem aCB (a b:List (List Int)) (fr to:Int) (G:bO a) (H:bO b):Fz F.oW [.sl 1 (E cC a),.sl 1 (E cC b),.agg (cFd fr to)] (.tup [mtV fr to a b,.v (.int .i64 (mtC fr to a b))]):=by
 have O:[[AV.sl 1 (E cC a)],[AV.sl 1 (E cC b)]]=E cD [a,b]:=rfl;by_cases I:kZ fr to [a,b]=0
 rotate_left
 .have e1:(kZ fr to [a,b] != 0)=true:=by simp[I]
  refine fn0 Cd.i_MatchDecks_k λX=>?_
  repeat' first|simp -dsimp only[go_sem,cFd,O,e1]|apply Br.mk<;>intro h<;>try simp -dsimp only[h]|refine aA.c (by first|exact wR fr to [a,b] (aAU G H)) ?_|refine aC ?_|refine aC9 ?_|fail
  all_goals simp[mtV,mtC,I]
 obtain⟨⟨Y,Z⟩,⟨fa,fb⟩,ca,cb⟩:=aC1 I;have J:=eG Y fa;have M:=eG Z fb;cases hs:jC fr to a&&jC fr to b
 .have hn:(!jC fr to a||!jC fr to b)=true:=by
   cases U:jC fr to a<;>cases h2:jC fr to b<;>simp_all
  refine fn0 Cd.i_MatchDecks_k λX=>?_
  repeat' first|simp -dsimp only[go_sem,cFd,O,I]|apply Br.mk<;>intro h<;>try simp -dsimp only[h]|refine aA.c (by first|exact wR fr to [a,b] (aAU G H)|exact aY a fr to J G.1|exact aY b fr to M H.1) ?_|refine aC ?_|refine aC9 ?_|fail
  all_goals first|(simp_all [mtV,mtC];done)|(refine aR ?_;simp_all [mtV,mtC];done)
 have U:jC fr to a=true:=by simp only[Aw] at hs;exact hs.1
 have h2:jC fr to b=true:=by simp only[Aw] at hs;exact hs.2
 refine fn0 Cd.i_MatchDecks_k λX=>?_
 repeat' first|simp -dsimp only[go_sem,cFd,O,I,U,h2]|apply Br.mk<;>intro h<;>try simp -dsimp only[h]|refine aA.c (by first|exact wR fr to [a,b] (aAU G H)|exact aY a fr to J G.1|exact aY b fr to M H.1|exact aFm a b fr to true G.2 G.1 H.1 J M|exact aFm b a fr to true H.2 H.1 G.1 M J|exact aFm a b fr to false G.2 G.1 H.1 J M|exact aFm b a fr to false H.2 H.1 G.1 M J) ?_|refine aC ?_|refine aC9 ?_|fail
 all_goals (have V:mtC fr to a b=0:=by simp[mtC,I,hs]
            have hv:mtV fr to a b=.sl 1 (E cD (mtL fr to a b)):=by simp[mtV,V]
            rw[V,hv]

            first|exact⟨_,_,rfl,rfl⟩|(refine aR rfl))
end
section
variable [Vs.Envs]
attribute [local irreducible] Vs.Fn dJ bB dK dL l03 chB rk cd3 chI stp bD stb
theorem aHb (g:FuncId) (caps:List AV) (G:jN caps=true) (H:Int->Int->Int) (D:Int->Prop) (M:aBB Tryz.prog g caps H D) (l:List Int) (J:∀x,x∈l->D x) (O:l.length<=40) :
  Vs.Fn Tryz.prog F.iU [.arr 1 (E cI l) false] [.loc (.b 0) 0 l.length,.fn g caps] (.tup []) [some (.arr 1 (E cI (stb (ltf H) l)) false)]:=by
 have I:=stable g caps G H D M l J O;refine fn1 Cd.sortst___int64_k [.b 0] [.arr 1 (E cI (stb (ltf H) l)) false] λX=>?_;unfold Cd.iU
 repeat' first|simp -dsimp only[go_sem,BF,BG,aU,bF,aT,Ar,Be,Aj,Ae,aG G _ 6,aG G _ 7,aH]|apply Br.mk<;>intro h<;>try simp -dsimp only[h]|refine aA.bor (by first|exact I) rfl ?_|refine aC ?_|refine aC9 ?_|fail
 all_goals first|exact⟨_,_,rfl,rfl⟩
def cfO (fr to:Int) (l:List (List Int)) (i j:Int):Int:=cmF fr to (l.getD i.toNat []) (l.getD j.toNat [])
def inO (n:Nat) (x:Int):Prop:=0<=x∧x<(n:Int)
theorem aB4 {l:List (List Int)}{x:Int} (h:inO l.length x):(E cC l).getD x.toNat []=[.sl 1 (E cI (l.getD x.toNat []))]:=by
 have F:x.toNat<l.length:=by have:=h.1;have:=h.2;omega
 rw[aW F];simp[cC,List.getD,F]
theorem oJ {l:List (List Int)}{x:Int} (h:inO l.length x):l.getD x.toNat []∈l:=by
 have F:x.toNat<l.length:=by have:=h.1;have:=h.2;omega
 have e:l.getD x.toNat []=l[x.toNat]:=by simp[List.getD,F]
 rw[e];exact Aa F
theorem aKX (l:List (List Int)) (fr to:Int) (ho:∀c,c∈l->okF fr to c):aBB Tryz.prog F.nR [.ro [.sl 1 (E cC l)],.ro (cFd fr to)] (cfO fr to l) (inO l.length):=by
 intro x y G H;have I:=aB4 G;have J:=aB4 H;have M:=G.1;have O:=G.2;have U:=H.1;have V:=H.2;have C:=mX (l.getD x.toNat []) (l.getD y.toNat []) fr to (ho _ (oJ G)) (ho _ (oJ H));rw[show cmF fr to (l.getD x.toNat []) (l.getD y.toNat [])=cfO fr to l x y from rfl] at C;refine fn0 Cd.i_orderBy_1_k λX=>?_
 repeat' first|simp -dsimp only[go_sem,cC,cFd,I,J,aH]|apply Br.mk<;>intro h<;>try simp -dsimp only[h]|refine aA.c (by first|exact C) ?_|refine aC ?_|refine aC9 ?_|fail
 all_goals first|exact⟨_,_,rfl,rfl⟩|simp
def iota (n:Nat):List Int:=(List.range n).map λi:Nat=>(i:Int)
theorem aEA (n:Nat):iota (n+1)=iota n++[(n:Int)]:=by simp[iota,Dj]
theorem oP (n:Nat):(iota n).length=n:=by simp[iota]
theorem aCT {n:Nat}:∀x,x∈iota n->inO n x:=by
 intro x F;obtain⟨i,hi,rfl⟩:=Bq.1 F;have:=Co.1 hi;exact⟨by omega,by omega⟩
def qU (fr to:Int) (l:List (List Int)):List Int:=stb (ltf (cfO fr to l)) (iota l.length)
theorem yO (fr to:Int) (l:List (List Int)):(qU fr to l).length=l.length:=by rw[qU,aG7,oP]
attribute [local go_sem] aH Av Am Ak Vs.Name.t.injEq BF BG Ar Be Aj Ae in
theorem aMP (l:List (List Int)) (fr to:Int) (ho:∀c,c∈l->okF fr to c) (hl:l.length<=40):Fz F.vZ [.sl 1 (E cC l),.agg (cFd fr to)] (.sl 1 (E cI (qU fr to l))):=by
 refine fn0 Cd.i_orderBy_k λX=>?_
 repeat' first|simp -dsimp only[go_sem,cC,cFd]|apply Br.mk<;>intro h<;>try simp -dsimp only[h]|refine aC ?_|refine aC9 ?_|fail
 refine aP.at dM (X:={zz:Nat×(Unit) // zz.1<=l.length∧True}) (λzz=>[(5,.loc (.t 5 0) 0 zz.1.1),(10,.v (.int .i64 zz.1.1))]) (λzz=>[(.t 5 0,.arr 1 (E cI (iota zz.1.1)) false)]) (λzz=>l.length-zz.1.1) ⟨(0,()),by omega,trivial⟩ ?_ ?_
 .simp[Vs.LeL,Vs.look,aB,aQ,aK,Vs.hset,aL,Vs.E,iota]
 .rintro⟨⟨i,_⟩,hi,hg⟩;dsimp only at hi hg;simp -dsimp only[go_sem,cC,cFd,oP,AR,BQ,aU,bF,aT];refine Br.mk (λhc=>?_) λhc=>?_
  .have hlt:i<l.length:=Dq;have hw:=aJ hlt (by omega);have hap:E cI (iota i)++[[.v (.int .i64 (i:Int))]]=E cI (iota (i+1)):=by rw[aEA,aV];rfl
   repeat' first|simp -dsimp only[go_sem,hw,hap,cC,cFd,oP,AR,BQ,aU,bF,aT]|apply Br.mk<;>intro h<;>try simp -dsimp only[h]|refine aC ?_|refine aC9 ?_|fail
   all_goals first|omega|(exact nx (i+1,()) trivial (h2:=by simp[Vs.LeL,Vs.look,aB,aQ,aK,Vs.hset,aL,hap]))
  .have hge:i=l.length:=by
    have:¬i<l.length:=Dq;omega
   subst hge;simp -dsimp only[go_sem,cC,cFd,oP,AR,BQ,aU,bF,aT];have ST:=aHb F.nR [.ro [.sl 1 (E cC l)],.ro (cFd fr to)] rfl (cfO fr to l) (inO l.length) (aKX l fr to ho) (iota l.length) aCT (by rw[oP];exact hl);rw[show stb (ltf (cfO fr to l)) (iota l.length)=qU fr to l from rfl,oP] at ST;refine⟨⟨rfl,aA.borL ST rfl ?_⟩,λh=>h rfl⟩;simp -dsimp only[go_sem,yO fr to l,AR,BQ,aU,bF,aT];have htk:(E cI (qU fr to l)).take l.length=E cI (qU fr to l):=Ah (by rw[aH,yO fr to l];exact Au _)
   first|exact⟨_,_,rfl,rfl⟩|(simp only[htk];exact⟨_,_,rfl,rfl⟩)
theorem aB3:∀(a b:List Int),a.length=b.length->jM b a=- jM a b
 | [],[],_=>rfl
 | x::a,y::b,h=>by
  have H:=aB3 a b (by simpa using h);simp only[jM];by_cases F:rk x<rk y
  .have h2:¬rk y<rk x:=by omega
   have G:rk y>rk x:=by omega
   simp[F,h2,G]
  .by_cases h2:rk y<rk x
   .simp[F,h2]
   .simp[F,h2,H]
 | [],_::_,h=>by simp at h
 |_::_,[],h=>by simp at h
theorem aEL:∀(a b c:List Int),a.length=b.length->b.length=c.length->jM a b=0->jM a c=jM b c
 | [],[],c,_,_,_=>rfl
 |x::a,y::b,[],_,h,_=>by simp at h
 | x::a,y::b,z::c,h1,h2,h=>by
  simp only[jM] at h⊢;split at h
  .cases h
  .split at h
   .cases h
   .have F:=aEL a b c (by simpa using h1) (by simpa using h2) h;have e:rk x=rk y:=by omega
    rw[e,F]
 | [],_::_,_,h,_,_=>by simp at h
 |_::_,[],_,h,_,_=>by simp at h
theorem aDT:∀(a b c:List Int),a.length=b.length->b.length=c.length->jM a b<0->jM b c<=0->jM a c<0
 | [],[],c,_,_,h,_=>by simp[jM] at h
 |x::a,y::b,[],_,h,_,_=>by simp at h
 | x::a,y::b,z::c,h1,h2,h,h'=>by
  simp only[jM] at h h'⊢;split at h
  .split at h'
   .rw[AP (by omega)];omega
   .split at h'
    .omega
    .rw[AP (by omega)];omega
  .split at h
   .omega
   .split at h'
    .rw[AP (by omega)];omega
    .split at h'
     .omega
     .rw[AC (by omega),AC (by omega)];exact aDT a b c (by simpa using h1) (by simpa using h2) h h'
 | [],_::_,_,h,_,_,_=>by simp at h
 |_::_,[],_,h,_,_,_=>by simp at h
end
section
variable [Vs.Envs]
attribute [local irreducible] Vs.Fn dJ bB dK dL l03 chB rk cd3 chI stp bD stb
def yN (fr to:Int) (l:List (List Int)) (x y:Int):Prop:=(inO l.length x∧inO l.length y)∧(cfO fr to l x y<0∨(cfO fr to l x y=0∧x<y))
section
variable {fr to:Int}{l:List (List Int)} (ho:∀c,c∈l->okF fr to c)
include ho
theorem rJ {x:Int} (F:inO l.length x):(fH fr to (l.getD x.toNat [])).length=to.toNat-fr.toNat:=mE (ho _ (oJ F))
theorem aC2 {x y:Int} (F:inO l.length x) (G:inO l.length y):cfO fr to l y x=- cfO fr to l x y:=aB3 _ _ (by rw[rJ ho F,rJ ho G])
theorem aNr {x y z:Int} (G:inO l.length x) (F:inO l.length y) (H:inO l.length z) (h:cfO fr to l x y=0):cfO fr to l x z=cfO fr to l y z:=
 aEL _ _ _ (by rw[rJ ho G,rJ ho F]) (by rw[rJ ho F,rJ ho H]) h
theorem aL2 {x y z:Int} (G:inO l.length x) (F:inO l.length y) (H:inO l.length z) (h:cfO fr to l x y<0) (h':cfO fr to l y z<=0):cfO fr to l x z<0:=
 aDT _ _ _ (by rw[rJ ho G,rJ ho F]) (by rw[rJ ho F,rJ ho H]) h h'
theorem nD (x y z:Int) (F:yN fr to l x y) (h2:yN fr to l y z):yN fr to l x z:=by
 obtain⟨⟨G,I⟩,F⟩:=F;obtain⟨⟨_,H⟩,h2⟩:=h2;refine⟨⟨G,H⟩,?_⟩;rcases F with F|⟨F,h3⟩
 .exact .inl (aL2 ho G I H F (by omega))
 .rw[aNr ho G I H F];rcases h2 with h2|⟨h2,h4⟩
  .exact .inl h2
  .exact .inr ⟨h2,by omega⟩
theorem aBL (x y:Int) (F:yN fr to l x y):¬yN fr to l y x:=by
 rintro⟨⟨H,G⟩,h2⟩;have e:=aC2 ho G H;have F:=F.2;omega
theorem aJP:(iota l.length).Pairwise (aEg (ltf (cfO fr to l)) (yN fr to l)):=by
 unfold iota;rw[List.pairwise_map];refine List.Pairwise.imp_of_mem (R:=λa b=>a<b) ?_ List.pairwise_lt_range;intro a b I M J;have F:inO l.length (a:Int):=⟨by omega,by have:=Co.1 I;omega⟩;have G:inO l.length (b:Int):=⟨by omega,by have:=Co.1 M;omega⟩;have e:=aC2 ho F G;refine⟨?_,?_⟩
 .simp only[ltf,Bb];exact⟨λh=>⟨⟨G,F⟩,.inl h⟩,λh=>by have:=h.2;omega⟩
 .by_cases h:cfO fr to l b a<0
  .exact .inr ⟨⟨G,F⟩,.inl h⟩
  .refine .inl ⟨⟨F,G⟩,?_⟩;by_cases H:cfO fr to l a b=0
   .exact .inr ⟨H,by omega⟩
   .exact .inl (by omega)
theorem aA9 (F:l.length<=40):(qU fr to l).Perm (iota l.length)∧(qU fr to l).Pairwise (yN fr to l):=
 aMr (nD ho) (aBL ho) (by rw[oP];exact F) (aJP ho)
theorem aFh (F:l.length<=40):∀x,x∈qU fr to l->inO l.length x:=λx G=>aCT x ((aA9 ho F).1.mem_iff.1 G)
end
attribute [local irreducible] qU
def jH (fr to:Int) (l:List (List Int)):List (List Int):=(qU fr to l).map λi=>l.getD i.toNat []
attribute [local go_sem] aH Af Ag Ao Aq Ae Aj Ad Al Ac Ai Ap in
theorem aAT (l:List (List Int)) (fr to:Int) (ho:∀c,c∈l->okF fr to c) (hl:l.length<=40):Fz F.qC [.sl 1 (E cC l),.agg (cFd fr to)] (.sl 1 (E cC (jH fr to l))):=by
 have OB:=aMP l fr to ho hl;have hol:=yO fr to l;have hoi:=aFh ho hl;rw[show jH fr to l=(qU fr to l).map (λi=>l.getD i.toNat []) from rfl];generalize qU fr to l=o at *
 refine fn0 Cd.i_sortedBy_k λX=>?_
 repeat' first|simp -dsimp only[go_sem,cC,cFd]|apply Br.mk<;>intro h<;>try simp -dsimp only[h]|refine aA.c (by first|exact OB) ?_|refine aC ?_|refine aC9 ?_|fail
 refine aP.at dM (X:={zz:Nat×(Unit) // zz.1<=o.length∧True}) (λzz=>[(5,.loc (.t 5 0) 0 zz.1.1),(13,.v (.int .i64 zz.1.1))]) (λzz=>[(.t 5 0,.arr 1 (E cC ((o.take zz.1.1).map λi=>l.getD i.toNat [])) false)]) (λzz=>o.length-zz.1.1) ⟨(0,()),by omega,trivial⟩ ?_ ?_
 .simp[Vs.LeL,Vs.look,aB,aQ,aK,Vs.hset,aL,Vs.E]
 .rintro⟨⟨i,_⟩,hi,hg⟩;dsimp only at hi hg;simp -dsimp only[go_sem,cC,cFd];refine Br.mk (λhc=>?_) λhc=>?_
  .have hlt:i<o.length:=Dq;have hw:=aJ hlt (by omega);have hx:=hoi _ (Aa hlt);have gx:=aB4 hx;have hm:=oJ hx;have hc20:(l.getD o[i].toNat []).length<=20:=(ho _ hm).2.2.2;have NC:=aCN (l.getD o[i].toNat []) (by omega);have x0:=hx.1;have x1:=hx.2
   have hap:E cC ((o.take i).map λi=>l.getD i.toNat [])++[[.sl 1 (E cI (l.getD o[i].toNat []))]]=E cC ((o.take (i+1)).map λi=>l.getD i.toNat []):=by
    rw[bM hlt,Bu,aV];rfl
   have hal:(E cC ((o.take i).map λi=>l.getD i.toNat [])).length=i:=by rw[aH];simp;omega
   repeat' first|simp -dsimp only[go_sem,dI hlt,hw,hap,hal,gx,cC,cFd]|apply Br.mk<;>intro h<;>try simp -dsimp only[h]|refine aA.c (by first|exact NC) ?_|refine aC ?_|refine aC9 ?_|fail
   all_goals first|omega|(exact nx (i+1,()) trivial (h2:=by simp[Vs.LeL,Vs.look,aB,aQ,aK,Vs.hset,aL,hap]))
  .have hge:i=o.length:=by
    have:¬i<o.length:=Dq;omega
   subst hge;simp -dsimp only[go_sem,cC,cFd]
   have htk:(E cC ((o.take o.length).map λi=>l.getD i.toNat [])).take o.length=E cC (o.map λi=>l.getD i.toNat []):=by
    rw[Ah (Au o.length)];exact Ah (by rw[aH];simp)
   first|exact⟨⟨_,_,rfl,rfl⟩,λh=>h rfl⟩|(rw[htk];exact⟨⟨_,_,rfl,rfl⟩,λh=>h rfl⟩)|(simp[htk];done)
end
end Go.Proofs.YtklmdppgonhflaaGreatDoor
