/- Codes of collating; the first step down. -/
import Derived.Test.YtkgeiaideklmoaaGreatZwC
set_option linter.all false
set_option maxHeartbeats 8000000
namespace Go.Proofs.YtkgeiaideklmoaaGreat
open Go.Vs
variable [Vs.Envs]
attribute [local irreducible] Vs.Fn bK aO bL bM l03 chB rk cd3 chI stp aP
attribute [local irreducible] bA
attribute [local go_sem] cC Af Ag Al Aq Ae Ai Ac Ak Ab Ah Am
def aGS (l:List (List (List Int))):Prop:=l.length<=1048576∧∀d,d∈l->aZ d
def iW (fr to:Int) (ls:List (List (List Int))):Int:=
 if ls.all bF then(if ls.all (λd=>dZ fr to (bJ d)) then(if ls.all (bV fr to) then 0 else 8) else 2) else 1
def yJ (fr to:Int) (ts:List ByteArray) (ls:List (List (List Int))):Int:=
 if ls.all bF then(if ls.all (λd=>dZ fr to (bJ d)) then(if ts.all (λt=>(t.size:Int)==W (to-fr)) then(if ts.all aO then(if ls.all (bV fr to) then 0 else 8) else 7) else 2) else 2) else 1
theorem qR (fr to:Int) (ls:List (List (List Int))) (hk:aGS ls):Fz F.eQ [.agg (cFd fr to),.v (.bool true),.v (.slice none 0 0),.sl 1 (E cD ls)] (.v (.int .i64 (iW fr to ls))):=by
 refine fn0 Cd.i_collateCode_k λX=>?_;simp -dsimp only[go_sem,cFd,cD];refine aM.at dM (X:={zz:Nat×(Unit) // zz.1<=ls.length∧(ls.take zz.1).all (bF)=true}) (λzz=>[(21,.v (.int .i64 zz.1.1))]) (λzz=>[]) (λzz=>ls.length-zz.1.1) ⟨(0,()),by omega,by simp⟩ ?_ ?_
 .exact le0
 .rintro⟨⟨i,_⟩,hi,hg⟩;dsimp only at hi hg;simp -dsimp only[go_sem,cFd,cD];refine Br.mk (λhc=>?_) λhc=>?_
  .have hlt:i<ls.length:=Dq;have hw:=aG hlt hk.1;have hsm:=hk.2 _ (Aa hlt);have hm:(E cD ls).getD i []=[.sl 1 (E cC ls[i])]:=aN hlt;cases hb:bF ls[i]
   .have hall:ls.all (bF)=false:=gY (p:=bF) hlt hb
    repeat' first|simp -dsimp only[go_sem,hw,hm,hb,cFd,cD]|apply Br.mk<;>intro h<;>try simp -dsimp only[h]|refine aB.c (by first|exact mR _ hsm.2 hsm.1) ?_|refine aC ?_|fail
    all_goals first|omega|(refine bN ?_;simp[iW,hall];done)|(simp[iW,hall];done)
   .simp -dsimp only[go_sem,hw,hm,hb,cFd,cD]
    repeat' first|simp -dsimp only[go_sem,hw,hm,hb,cFd,cD]|apply Br.mk<;>intro h<;>try simp -dsimp only[h]|refine aB.c (by first|exact mR _ hsm.2 hsm.1) ?_|refine aC ?_|fail
    all_goals first|omega|(exact nx (i+1,()) (bD (p:=bF) hlt hg hb))
  .have hge:i=ls.length:=by
    have:¬i<ls.length:=Dq;omega
   subst hge;simp -dsimp only[go_sem,cFd,cD];have a1:ls.all (bF)=true:=by simpa using hg
   clear hg hi hc;refine⟨?_,by simp⟩;refine aM.at dM (X:={zz:Nat×(Unit) // zz.1<=ls.length∧(ls.take zz.1).all ((λd=>dZ fr to (bJ d)))=true}) (λzz=>[(33,.v (.int .i64 zz.1.1))]) (λzz=>[]) (λzz=>ls.length-zz.1.1) ⟨(0,()),by omega,by simp⟩ ?_ ?_
   .exact le0
   .rintro⟨⟨i,_⟩,hi,hg⟩;dsimp only at hi hg;simp -dsimp only[go_sem,cFd,cD];refine Br.mk (λhc=>?_) λhc=>?_
    .have hlt:i<ls.length:=Dq;have hw:=aG hlt hk.1;have hsm:=hk.2 _ (Aa hlt);have hm:(E cD ls).getD i []=[.sl 1 (E cC ls[i])]:=aN hlt;cases hb:(λd=>dZ fr to (bJ d)) ls[i]
     .have hall:ls.all ((λd=>dZ fr to (bJ d)))=false:=gY (p:=(λd=>dZ fr to (bJ d))) hlt hb
      repeat' first|simp -dsimp only[go_sem,hw,hm,hb,cFd,cD]|apply Br.mk<;>intro h<;>try simp -dsimp only[h]|refine aB.c (by first|exact iF _|exact wP fr to _) ?_|refine aC ?_|fail
      all_goals first|omega|(refine bN ?_;simp[iW,hall,a1];done)|(simp[iW,hall,a1];done)
     .simp -dsimp only[go_sem,hw,hm,hb,cFd,cD]
      repeat' first|simp -dsimp only[go_sem,hw,hm,hb,cFd,cD]|apply Br.mk<;>intro h<;>try simp -dsimp only[h]|refine aB.c (by first|exact iF _|exact wP fr to _) ?_|refine aC ?_|fail
      all_goals first|omega|(exact nx (i+1,()) (bD (p:=(λd=>dZ fr to (bJ d))) hlt hg hb))
    .have hge:i=ls.length:=by
      have:¬i<ls.length:=Dq;omega
     subst hge;simp -dsimp only[go_sem,cFd,cD];have a2:ls.all ((λd=>dZ fr to (bJ d)))=true:=by simpa using hg
     clear hg hi hc;refine⟨?_,by simp⟩;refine aM.at dM (X:={zz:Nat×(Unit) // zz.1<=0∧True}) (λzz=>[(45,.v (.int .i64 zz.1.1))]) (λzz=>[]) (λzz=>0-zz.1.1) ⟨(0,()),by omega,trivial⟩ ?_ ?_
     .exact le0
     .rintro⟨⟨i,_⟩,hi,hg⟩;dsimp only at hi hg;simp -dsimp only[go_sem,cFd,cD];refine Br.mk (λhc=>?_) λhc=>?_
      .have hlt:i<0:=by have:=BJ hc;omega
       have hw:=aG hlt (by omega);exact absurd hlt (by omega)
      .have hge:i=0:=by
        have:¬i<0:=by have:=BQ hc;omega
        omega
       subst hge;simp -dsimp only[go_sem,cFd,cD];clear hg hi hc;refine⟨?_,by simp⟩;refine aM.at dM (X:={zz:Nat×(Unit) // zz.1<=0∧True}) (λzz=>[(60,.v (.int .i64 zz.1.1))]) (λzz=>[]) (λzz=>0-zz.1.1) ⟨(0,()),by omega,trivial⟩ ?_ ?_
       .exact le0
       .rintro⟨⟨i,_⟩,hi,hg⟩;dsimp only at hi hg;simp -dsimp only[go_sem,cFd,cD];refine Br.mk (λhc=>?_) λhc=>?_
        .have hlt:i<0:=by have:=BJ hc;omega
         have hw:=aG hlt (by omega);exact absurd hlt (by omega)
        .have hge:i=0:=by
          have:¬i<0:=by have:=BQ hc;omega
          omega
         subst hge;simp -dsimp only[go_sem,cFd,cD];clear hg hi hc;refine⟨?_,by simp⟩;refine aM.at dM (X:={zz:Nat×(Unit) // zz.1<=ls.length∧(ls.take zz.1).all ((bV fr to))=true}) (λzz=>[(70,.v (.int .i64 zz.1.1))]) (λzz=>[]) (λzz=>ls.length-zz.1.1) ⟨(0,()),by omega,by simp⟩ ?_ ?_
         .exact le0
         .rintro⟨⟨i,_⟩,hi,hg⟩;dsimp only at hi hg;simp -dsimp only[go_sem,cFd,cD];refine Br.mk (λhc=>?_) λhc=>?_
          .have hlt:i<ls.length:=Dq;have hw:=aG hlt hk.1;have hsm:=hk.2 _ (Aa hlt);have hm:(E cD ls).getD i []=[.sl 1 (E cC ls[i])]:=aN hlt;have hdk:bF ls[i]=true:=(Az.1 a1) _ (Aa hlt);have hfk:dZ fr to (bJ ls[i])=true:=(Az.1 a2) _ (Aa hlt);have hof:=dF hdk hfk;cases hb:(bV fr to) ls[i]
           .have hall:ls.all ((bV fr to))=false:=gY (p:=(bV fr to)) hlt hb
            repeat' first|simp -dsimp only[go_sem,hw,hm,hb,cFd,cD]|apply Br.mk<;>intro h<;>try simp -dsimp only[h]|refine aB.c (by first|exact pR _ fr to hof hsm.1) ?_|refine aC ?_|fail
            all_goals first|omega|(refine bN ?_;simp[iW,hall,a1,a2];done)|(simp[iW,hall,a1,a2];done)
           .simp -dsimp only[go_sem,hw,hm,hb,cFd,cD]
            repeat' first|simp -dsimp only[go_sem,hw,hm,hb,cFd,cD]|apply Br.mk<;>intro h<;>try simp -dsimp only[h]|refine aB.c (by first|exact pR _ fr to hof hsm.1) ?_|refine aC ?_|fail
            all_goals first|omega|(exact nx (i+1,()) (bD (p:=(bV fr to)) hlt hg hb))
          .have hge:i=ls.length:=by
            have:¬i<ls.length:=Dq;omega
           subst hge;simp -dsimp only[go_sem,cFd,cD];have a5:ls.all (bV fr to)=true:=by simpa using hg
           simp[iW,a1,a2,a5]
theorem aGp (fr to:Int) (ls:List (List (List Int))) (hk:aGS ls) (ts:List ByteArray) (hts:ts.length<=1048576) (htz:∀t,t∈ts->t.size<=1048576):Fz F.eQ [.agg (cFd fr to),.v (.bool true),.sl 1 (E cSt ts),.sl 1 (E cD ls)] (.v (.int .i64 (yJ fr to ts ls))):=by
 refine fn0 Cd.i_collateCode_k λX=>?_;simp -dsimp only[go_sem,cFd,cD];refine aM.at dM (X:={zz:Nat×(Unit) // zz.1<=ls.length∧(ls.take zz.1).all (bF)=true}) (λzz=>[(21,.v (.int .i64 zz.1.1))]) (λzz=>[]) (λzz=>ls.length-zz.1.1) ⟨(0,()),by omega,by simp⟩ ?_ ?_
 .exact le0
 .rintro⟨⟨i,_⟩,hi,hg⟩;dsimp only at hi hg;simp -dsimp only[go_sem,cFd,cD];refine Br.mk (λhc=>?_) λhc=>?_
  .have hlt:i<ls.length:=Dq;have hw:=aG hlt hk.1;have hsm:=hk.2 _ (Aa hlt);have hm:(E cD ls).getD i []=[.sl 1 (E cC ls[i])]:=aN hlt;cases hb:bF ls[i]
   .have hall:ls.all (bF)=false:=gY (p:=bF) hlt hb
    repeat' first|simp -dsimp only[go_sem,hw,hm,hb,cFd,cD]|apply Br.mk<;>intro h<;>try simp -dsimp only[h]|refine aB.c (by first|exact mR _ hsm.2 hsm.1) ?_|refine aC ?_|fail
    all_goals first|omega|(refine bN ?_;simp[yJ,hall];done)|(simp[yJ,hall];done)
   .simp -dsimp only[go_sem,hw,hm,hb,cFd,cD]
    repeat' first|simp -dsimp only[go_sem,hw,hm,hb,cFd,cD]|apply Br.mk<;>intro h<;>try simp -dsimp only[h]|refine aB.c (by first|exact mR _ hsm.2 hsm.1) ?_|refine aC ?_|fail
    all_goals first|omega|(exact nx (i+1,()) (bD (p:=bF) hlt hg hb))
  .have hge:i=ls.length:=by
    have:¬i<ls.length:=Dq;omega
   subst hge;simp -dsimp only[go_sem,cFd,cD];have a1:ls.all (bF)=true:=by simpa using hg
   clear hg hi hc;refine⟨?_,by simp⟩;refine aM.at dM (X:={zz:Nat×(Unit) // zz.1<=ls.length∧(ls.take zz.1).all ((λd=>dZ fr to (bJ d)))=true}) (λzz=>[(33,.v (.int .i64 zz.1.1))]) (λzz=>[]) (λzz=>ls.length-zz.1.1) ⟨(0,()),by omega,by simp⟩ ?_ ?_
   .exact le0
   .rintro⟨⟨i,_⟩,hi,hg⟩;dsimp only at hi hg;simp -dsimp only[go_sem,cFd,cD];refine Br.mk (λhc=>?_) λhc=>?_
    .have hlt:i<ls.length:=Dq;have hw:=aG hlt hk.1;have hsm:=hk.2 _ (Aa hlt);have hm:(E cD ls).getD i []=[.sl 1 (E cC ls[i])]:=aN hlt;cases hb:(λd=>dZ fr to (bJ d)) ls[i]
     .have hall:ls.all ((λd=>dZ fr to (bJ d)))=false:=gY (p:=(λd=>dZ fr to (bJ d))) hlt hb
      repeat' first|simp -dsimp only[go_sem,hw,hm,hb,cFd,cD]|apply Br.mk<;>intro h<;>try simp -dsimp only[h]|refine aB.c (by first|exact iF _|exact wP fr to _) ?_|refine aC ?_|fail
      all_goals first|omega|(refine bN ?_;simp[yJ,hall,a1];done)|(simp[yJ,hall,a1];done)
     .simp -dsimp only[go_sem,hw,hm,hb,cFd,cD]
      repeat' first|simp -dsimp only[go_sem,hw,hm,hb,cFd,cD]|apply Br.mk<;>intro h<;>try simp -dsimp only[h]|refine aB.c (by first|exact iF _|exact wP fr to _) ?_|refine aC ?_|fail
      all_goals first|omega|(exact nx (i+1,()) (bD (p:=(λd=>dZ fr to (bJ d))) hlt hg hb))
    .have hge:i=ls.length:=by
      have:¬i<ls.length:=Dq;omega
     subst hge;simp -dsimp only[go_sem,cFd,cD];have a2:ls.all ((λd=>dZ fr to (bJ d)))=true:=by simpa using hg
     clear hg hi hc;refine⟨?_,by simp⟩;refine aM.at dM (X:={zz:Nat×(Unit) // zz.1<=ts.length∧(ts.take zz.1).all ((λt:ByteArray=>(t.size:Int)==W (to-fr)))=true}) (λzz=>[(45,.v (.int .i64 zz.1.1))]) (λzz=>[]) (λzz=>ts.length-zz.1.1) ⟨(0,()),by omega,by simp⟩ ?_ ?_
     .exact le0
     .rintro⟨⟨i,_⟩,hi,hg⟩;dsimp only at hi hg;simp -dsimp only[go_sem,cFd,cD];refine Br.mk (λhc=>?_) λhc=>?_
      .have hlt:i<ts.length:=Dq;have hw:=aG hlt hts;have hm:(E cSt ts).getD i []=[.v (.string ts[i])]:=aN hlt;have hne:((ts[i].size:Int) != IntKind.i64.wrap (to-fr)) = !((ts[i].size:Int)==W (to-fr)):=rfl;cases hb:(λt:ByteArray=>(t.size:Int)==W (to-fr)) ts[i]
       .have hall:ts.all ((λt:ByteArray=>(t.size:Int)==W (to-fr)))=false:=gY (p:=(λt:ByteArray=>(t.size:Int)==W (to-fr))) hlt hb
        repeat' first|simp -dsimp only[go_sem,hw,hm,hb,hne,BZ,Cr,cFd,cD]|apply Br.mk<;>intro h<;>try simp -dsimp only[h]|refine aC ?_|fail
        all_goals first|omega|(refine bN ?_;simp[yJ,hall,a1,a2];done)|(simp[yJ,hall,a1,a2];done)
       .simp -dsimp only[go_sem,hw,hm,hb,hne,BZ,Cr,cFd,cD]
        repeat' first|simp -dsimp only[go_sem,hw,hm,hb,hne,BZ,Cr,cFd,cD]|apply Br.mk<;>intro h<;>try simp -dsimp only[h]|refine aC ?_|fail
        all_goals first|omega|(exact nx (i+1,()) (bD (p:=(λt:ByteArray=>(t.size:Int)==W (to-fr))) hlt hg hb))
      .have hge:i=ts.length:=by
        have:¬i<ts.length:=Dq;omega
       subst hge;simp -dsimp only[go_sem,cFd,cD];have a3:ts.all ((λt:ByteArray=>(t.size:Int)==W (to-fr)))=true:=by simpa using hg
       clear hg hi hc;refine⟨?_,by simp⟩;refine aM.at dM (X:={zz:Nat×(Unit) // zz.1<=ts.length∧(ts.take zz.1).all (aO)=true}) (λzz=>[(60,.v (.int .i64 zz.1.1))]) (λzz=>[]) (λzz=>ts.length-zz.1.1) ⟨(0,()),by omega,by simp⟩ ?_ ?_
       .exact le0
       .rintro⟨⟨i,_⟩,hi,hg⟩;dsimp only at hi hg;simp -dsimp only[go_sem,cFd,cD];refine Br.mk (λhc=>?_) λhc=>?_
        .have hlt:i<ts.length:=Dq;have hw:=aG hlt hts;have hm:(E cSt ts).getD i []=[.v (.string ts[i])]:=aN hlt;cases hb:aO ts[i]
         .have hall:ts.all (aO)=false:=gY (p:=aO) hlt hb
          repeat' first|simp -dsimp only[go_sem,hw,hm,hb,cFd,cD]|apply Br.mk<;>intro h<;>try simp -dsimp only[h]|refine aB.c (by first|exact uM _ (htz _ (Aa hlt))) ?_|refine aC ?_|fail
          all_goals first|omega|(refine bN ?_;simp[yJ,hall,a1,a2,a3];done)|(simp[yJ,hall,a1,a2,a3];done)
         .simp -dsimp only[go_sem,hw,hm,hb,cFd,cD]
          repeat' first|simp -dsimp only[go_sem,hw,hm,hb,cFd,cD]|apply Br.mk<;>intro h<;>try simp -dsimp only[h]|refine aB.c (by first|exact uM _ (htz _ (Aa hlt))) ?_|refine aC ?_|fail
          all_goals first|omega|(exact nx (i+1,()) (bD (p:=aO) hlt hg hb))
        .have hge:i=ts.length:=by
          have:¬i<ts.length:=Dq;omega
         subst hge;simp -dsimp only[go_sem,cFd,cD];have a4:ts.all (aO)=true:=by simpa using hg
         clear hg hi hc;refine⟨?_,by simp⟩;refine aM.at dM (X:={zz:Nat×(Unit) // zz.1<=ls.length∧(ls.take zz.1).all ((bV fr to))=true}) (λzz=>[(70,.v (.int .i64 zz.1.1))]) (λzz=>[]) (λzz=>ls.length-zz.1.1) ⟨(0,()),by omega,by simp⟩ ?_ ?_
         .exact le0
         .rintro⟨⟨i,_⟩,hi,hg⟩;dsimp only at hi hg;simp -dsimp only[go_sem,cFd,cD];refine Br.mk (λhc=>?_) λhc=>?_
          .have hlt:i<ls.length:=Dq;have hw:=aG hlt hk.1;have hsm:=hk.2 _ (Aa hlt);have hm:(E cD ls).getD i []=[.sl 1 (E cC ls[i])]:=aN hlt;have hdk:bF ls[i]=true:=(Az.1 a1) _ (Aa hlt);have hfk:dZ fr to (bJ ls[i])=true:=(Az.1 a2) _ (Aa hlt);have hof:=dF hdk hfk;cases hb:(bV fr to) ls[i]
           .have hall:ls.all ((bV fr to))=false:=gY (p:=(bV fr to)) hlt hb
            repeat' first|simp -dsimp only[go_sem,hw,hm,hb,cFd,cD]|apply Br.mk<;>intro h<;>try simp -dsimp only[h]|refine aB.c (by first|exact pR _ fr to hof hsm.1) ?_|refine aC ?_|fail
            all_goals first|omega|(refine bN ?_;simp[yJ,hall,a1,a2,a3,a4];done)|(simp[yJ,hall,a1,a2,a3,a4];done)
           .simp -dsimp only[go_sem,hw,hm,hb,cFd,cD]
            repeat' first|simp -dsimp only[go_sem,hw,hm,hb,cFd,cD]|apply Br.mk<;>intro h<;>try simp -dsimp only[h]|refine aB.c (by first|exact pR _ fr to hof hsm.1) ?_|refine aC ?_|fail
            all_goals first|omega|(exact nx (i+1,()) (bD (p:=(bV fr to)) hlt hg hb))
          .have hge:i=ls.length:=by
            have:¬i<ls.length:=Dq;omega
           subst hge;simp -dsimp only[go_sem,cFd,cD];have a5:ls.all (bV fr to)=true:=by simpa using hg
           simp[yJ,a1,a2,a3,a4,a5]
theorem aHU (fr to:Int) (l:List (List Int)) (i:Nat):∀k,∃r,aP fr to l (i+k)=aP fr to l i++r
 |0=>⟨[],by simp⟩
 | k+1=>by
  obtain⟨r,F⟩:=aHU fr to l i k;exact⟨r++(if cmF fr to (l.getD (i+k+1) []) (l.getD (i+k) [])<0 then[((i+k+1:Nat):Int)] else[]),by rw[←Ck,aP,F,Bw]⟩
def stF (fr to:Int) (l:List (List Int)):Int:=(stp fr to l).headD (-1)
theorem aB9 (fr to:Int) (l:List (List Int)):decide (stF fr to l≥0) = !gN fr to l:=by
 have H:∀k,∀x,x∈aP fr to l k->0<=x:=by
  intro k
  induction k with
  |zero=>intro x F;simp[aP] at F
  | succ k ih =>
   intro x F;rw[aP] at F;rcases Bf.1 F with F|F
   .exact ih x F
   .split at F
    .simp at F;omega
    .cases F
 unfold stF gN;cases h:stp fr to l with
 |nil=>simp
 | cons x r =>
  have:=H (l.length-1) x (by unfold stp at h;rw[h];simp);simp only[List.headD_cons,ge_iff_le,this,decide_true,Ab]
  symm
  simp;omega
attribute [local go_sem] aH cFd cD in
theorem zC (l:List (List Int)) (fr to:Int) (ho:∀c,c∈l->okF fr to c) (hh:bV fr to l=true) (hl:l.length<=1048576):Fz F.mW [.sl 1 (E cSt (bS fr to l))] (.v (.int .i64 (stF fr to l))):=by
 have hkl:(bS fr to l).length=l.length:=by simp[bS]
 refine fn0 Cd.s_l07Step_k λX=>?_;simp -dsimp only[go_sem,hkl];refine aM.at dM (X:={zz:Nat×(Unit) // zz.1<=l.length-1∧aP fr to l zz.1=[]}) (λzz=>[(3,.v (.int .i64 ((zz.1.1+1:Nat):Int)))]) (λzz=>[]) (λzz=>l.length-1-zz.1.1) ⟨(0,()),by omega,by simp[aP]⟩ ?_ ?_
 .simp[Vs.LeL,Vs.look,aA,aS,aJ,Vs.hset,aK,Vs.E,aP]
 .rintro⟨⟨i,_⟩,hi,hg⟩;dsimp only at hi hg;simp -dsimp only[go_sem,hkl];refine Br.mk (λhc=>?_) λhc=>?_
  .have hlt:i<l.length-1:=Dq;have hw:=aG hlt (by omega);have hl1:i+1<l.length:=by omega
   have hl0:i<l.length:=by omega
   have hk1:=ho _ (Aa hl1);have hk0:=ho _ (Aa hl0);have hc1:dC (fH fr to l[i+1])=true:=(Az.1 hh) _ (Aa hl1);have hc0:dC (fH fr to l[i])=true:=(Az.1 hh) _ (Aa hl0);have hm1:(E cSt (bS fr to l)).getD (i+1) []=[.v (.string (txt (fH fr to l[i+1])))]:=by rw[aN (by omega)];simp[bS,cSt]
   have hm0:(E cSt (bS fr to l)).getD i []=[.v (.string (txt (fH fr to l[i])))]:=by rw[aN (by omega)];simp[bS,cSt]
   have hw2:=aM4 hlt hl;have hw3:=aM3 hlt hl;have g1:l.getD (i+1) []=l[i+1]:=by simp[List.getD,hl1]
   have g0:l.getD i []=l[i]:=by simp[List.getD,hl0]
   have hcf:jC (fH fr to l[i+1]) (fH fr to l[i])=cmF fr to l[i+1] l[i]:=rfl;by_cases hz:cmF fr to l[i+1] l[i]<0
   .have e1:decide (cmF fr to l[i+1] l[i]<0)=true:=A7 hz;have hs:aP fr to l (i+1)=[((i+1:Nat):Int)]:=by rw[aP,g1,g0,AP hz,hg];rfl
    obtain⟨r,hr⟩:=aHU fr to l (i+1) (l.length-1-(i+1));rw[show i+1+(l.length-1-(i+1))=l.length-1 by omega,hs] at hr;have hst:stF fr to l=((i+1:Nat):Int):=by unfold stF stp;rw[hr];rfl
    repeat' first|simp -dsimp only[go_sem,hw2,hw3,hm1,hm0,hcf,e1,hkl]|apply Br.mk<;>intro h<;>try simp -dsimp only[h]|refine aB.c (by first|exact wM _ _ (aA2 hk1) ((lN hk1).trans (lN hk0).symm) hc1 hc0) ?_|refine aC ?_|fail
    all_goals first|omega|(refine bN ?_;simp[hst];done)|(simp[hst];done)
   .have e1:decide (cmF fr to l[i+1] l[i]<0)=false:=AO hz;have hs:aP fr to l (i+1)=[]:=by rw[aP,g1,g0,AB hz,hg];rfl
    repeat' first|simp -dsimp only[go_sem,hw2,hw3,hm1,hm0,hcf,e1,hkl]|apply Br.mk<;>intro h<;>try simp -dsimp only[h]|refine aB.c (by first|exact wM _ _ (aA2 hk1) ((lN hk1).trans (lN hk0).symm) hc1 hc0) ?_|refine aC ?_|fail
    all_goals first|omega|(exact nx (i+1,()) hs)
  .have hge:i=l.length-1:=by
    have:¬i<l.length-1:=Dq;omega
   subst hge;simp -dsimp only[go_sem,hkl];have hst:stF fr to l=-1:=by unfold stF stp;rw[hg];rfl
   simp[hst]
end Go.Proofs.YtkgeiaideklmoaaGreat
