/- A card that is drawn: its row is handed over. -/
import Derived.Test.YtmiiohemehacjaaGreatDoorXwBg
import Derived.Test.YtmiiohemehacjaaGreatDoorXwPd
import Derived.Test.YtmiiohemehacjaaGreatDoorXwVn
set_option linter.all false
set_option maxHeartbeats 8000000
namespace Go.Proofs.YtmiiohemehacjaaGreatDoor
open Go.Vs
section
variable [Vs.Envs]
attribute [local irreducible] Vs.Fn nxV nxS pkV pkS ptN crd dW dtF lH
attribute [local go_sem] Int.reduceBEq Int.reduceBNe cC aH Ai Ah Al Aq Ad Af Ac Ae Aa Ab Ao Ar Ay Az Bo Bq Vs.Name.t.injEq Ak AB aW aX bG AA AO AP Int.reduceAdd Int.reduceSub Int.reduceMul
open Go.Vs.Q in
def CdV.gN:aF:=s [o 2 (.alloc [.v (.int .i64 (0)),.v (.int .i64 (0))])] [0,2]<|.seq (s [m 4 0,o 5 (.call (.func F.aV) [4,(k 6)] [0])] [0,2,5]<|.cond 5 (s [m 6 0,o 7 (.call (.func F.pE) [6] [0]),⟨none,.store 2 2 7,none⟩] [2]<|.ret) .skip)<|s [m 8 0,o 9 (.call (.func F.aD)
 [8,(k 2)] [0]),o 10 (.bin .mul (k 2) 9),o 11 (.bin .add (k 1) 10),o 12 (.build [.v (.int .i64 (0)),.v (.int .i64 (0))] [(0,1,11)]),o 3 (.alloc [.v (.int .i64 (0)),.v (.int .i64 (0))]),⟨none,.store 2 3 12,none⟩] [2,3]<|s [fa 13 0 3,lf 14 1 13,ad 15 14 2,fa 16 1 3,⟨none,.store 1 16 15,none⟩] [2,3]<|s
 [lt 17 2 3,⟨none,.store 2 2 17,none⟩] [2]<|.ret
theorem CdV.l18Number_k:CK 52 Tryz.f52 CdV.gN 18 [.cell 2 41]:=ck Tryz.func52
attribute [go_sem] CdV.gN
theorem aLD (l:List Int) (x:Sr) (u:byt l) (hp:x.p<=3900):∃(c:Int×Int×Int) (z:Sr),z.p<=x.p+12∧Vs.Fn Tryz.prog F.jM [sB l x] [.ptr (.b 0) 0 0] (.agg (cCt c)) [some (sB l z)]:=by
 have J:=pick l x u 100 (by omega);have v1:=bC u x (n:=100) (by omega);have q1:=aQ l x 100;generalize pkV l x 100=r1 at *
 generalize pkS l x 100=x1 at *
 have M:=pick l x1 u 10000 (by omega);have v2:=bC u x1 (n:=10000) (by omega);have q2:=aQ l x1 10000;generalize pkV l x1 10000=r2 at *
 generalize pkS l x1 10000=x2 at *
 have O:=pick l x2 u 1000 (by omega);have v3:=bC u x2 (n:=1000) (by omega);have q3:=aQ l x2 1000;generalize pkV l x2 1000=r3 at *
 generalize pkS l x2 1000=x3 at *
 have U:=pick l x3 u 16 (by omega);have v4:=bC u x3 (n:=16) (by omega);have q4:=aQ l x3 16;generalize pkV l x3 16=r4 at *
 generalize pkS l x3 16=x4 at *
 have G:IntKind.i64.wrap (r2-2000)=r2-2000:=aM (by omega) (by omega);by_cases Z:r4=0
 .have H:(r4==0)=true:=Bj.2 Z;have I:=among l x4 u [-1,0,1000000,1000001] (by omega) (by simp) (by simp);have Y:=aQ l x4 (([-1,0,1000000,1000001]:List Int).length:Nat);generalize([-1,0,1000000,1000001]:List Int).getD _ 0=v at *
  generalize pkS l x4 (([-1,0,1000000,1000001]:List Int).length:Nat)=z at *
  refine⟨(v,r2-2000,r3),z,by omega,?_⟩;refine fn1 Cd.s_l18Draw_k [.b 0] [sB l z] λX=>?_;unfold Cd.jM;simp -dsimp only[go_sem,sB,cCt,G]
  repeat' first|simp -dsimp only[go_sem,sB,cCt,G,H]|apply Br.mk<;>intro h<;>try simp -dsimp only[h]|refine aA.bor (by first|exact J|exact M|exact O|exact U) rfl ?_|refine aA.borL (by first|exact I) rfl ?_|refine aC ?_|refine aC9 ?_|fail
  all_goals first|exact⟨_,_,rfl,rfl⟩
 by_cases h1:r4=1
 .have H:(r4==0)=false:=Ap.2 (by omega);have L:(r4==1)=true:=Bj.2 h1;have I:=among l x4 u [-1000000000000001,-1000000000000000,1000000000000000,1000000000000001] (by omega) (by simp) (by simp);have Y:=aQ l x4 (([-1000000000000001,-1000000000000000,1000000000000000,1000000000000001]:List Int).length:Nat);generalize([-1000000000000001,-1000000000000000,1000000000000000,1000000000000001]:List Int).getD _ 0=v at *
  generalize pkS l x4 (([-1000000000000001,-1000000000000000,1000000000000000,1000000000000001]:List Int).length:Nat)=z at *
  refine⟨(r1,v,r3),z,by omega,?_⟩;refine fn1 Cd.s_l18Draw_k [.b 0] [sB l z] λX=>?_;unfold Cd.jM;simp -dsimp only[go_sem,sB,cCt,G]
  repeat' first|simp -dsimp only[go_sem,sB,cCt,G,H,L]|apply Br.mk<;>intro h<;>try simp -dsimp only[h]|refine aA.bor (by first|exact J|exact M|exact O|exact U) rfl ?_|refine aA.borL (by first|exact I) rfl ?_|refine aC ?_|refine aC9 ?_|fail
  all_goals first|exact⟨_,_,rfl,rfl⟩
 by_cases h2:r4=2
 .have H:(r4==0)=false:=Ap.2 (by omega);have L:(r4==1)=false:=Ap.2 (by omega);have V:(r4==2)=true:=Bj.2 h2;have I:=among l x4 u [-1,0,1000000000,1000000001,9223372036854775807] (by omega) (by simp) (by simp);have Y:=aQ l x4 (([-1,0,1000000000,1000000001,9223372036854775807]:List Int).length:Nat);generalize([-1,0,1000000000,1000000001,9223372036854775807]:List Int).getD _ 0=v at *
  generalize pkS l x4 (([-1,0,1000000000,1000000001,9223372036854775807]:List Int).length:Nat)=z at *
  refine⟨(r1,r2-2000,v),z,by omega,?_⟩;refine fn1 Cd.s_l18Draw_k [.b 0] [sB l z] λX=>?_;unfold Cd.jM;simp -dsimp only[go_sem,sB,cCt,G]
  repeat' first|simp -dsimp only[go_sem,sB,cCt,G,H,L,V]|apply Br.mk<;>intro h<;>try simp -dsimp only[h]|refine aA.bor (by first|exact J|exact M|exact O|exact U) rfl ?_|refine aA.borL (by first|exact I) rfl ?_|refine aC ?_|refine aC9 ?_|fail
  all_goals first|exact⟨_,_,rfl,rfl⟩
 have H:(r4==0)=false:=Ap.2 (by omega);have L:(r4==1)=false:=Ap.2 (by omega);have V:(r4==2)=false:=Ap.2 (by omega);refine⟨(r1,r2-2000,r3),x4,by omega,?_⟩;refine fn1 Cd.s_l18Draw_k [.b 0] [sB l x4] λX=>?_;unfold Cd.jM;simp -dsimp only[go_sem,sB,cCt,G]
 repeat' first|simp -dsimp only[go_sem,sB,cCt,G,H,L,V]|apply Br.mk<;>intro h<;>try simp -dsimp only[h]|refine aA.bor (by first|exact J|exact M|exact O|exact U) rfl ?_|refine aA.borL (by first|exact J) rfl ?_|refine aC ?_|refine aC9 ?_|fail
 all_goals first|exact⟨_,_,rfl,rfl⟩
attribute [local go_sem] cCt in
theorem aMY (l:List Int) (x:Sr) (u:byt l) (hp:x.p<=2800):∃I J z,z.p<=x.p+12∧Vs.Fn Tryz.prog F.pE [sB l x] [.ptr (.b 0) 0 0] (.agg [.v (.int .i64 I),.v (.int .i64 J)]) [some (sB l z)]:=by
 have G:=one l x u 10 (by omega);have q1:=aQ l x 10;obtain⟨b1,L⟩:∃b,(pkV l x 10==0)=b:=⟨_,rfl⟩;rw[L] at G;generalize pkS l x 10=x1 at *
 cases b1
 rotate_left
 .obtain⟨I,J,z,hz,Z⟩:=wM l x1 u (by omega);refine⟨I,J,z,by omega,?_⟩;refine fn1 Cd.s_l18Sum_k [.b 0] [sB l z] λX=>?_;unfold Cd.pE
  repeat' first|simp -dsimp only[go_sem,sB]|apply Br.mk<;>intro h<;>try simp -dsimp only[h]|refine aA.bor (by first|exact G|exact Z) rfl ?_|refine aC ?_|refine aC9 ?_|fail
  all_goals first|exact⟨_,_,rfl,rfl⟩
 have H:=one l x1 u 12 (by omega);have q2:=aQ l x1 12;obtain⟨b2,M⟩:∃b,(pkV l x1 12==0)=b:=⟨_,rfl⟩;rw[M] at H;generalize pkS l x1 12=x2 at *
 have O:=pick l x2 u 2 (by omega);have v3:=bC u x2 (n:=2) (by omega);have q3:=aQ l x2 2;generalize pkV l x2 2=r at *
 generalize pkS l x2 2=z at *
 have U:IntKind.i64.wrap (13+r)=13+r:=aM (by omega) (by omega);have V:IntKind.i64.wrap (2*r)=2*r:=aM (by omega) (by omega);have Y:IntKind.i64.wrap (1+2*r)=1+2*r:=aM (by omega) (by omega);cases b2
 .refine⟨1+2*r,5,z,by omega,?_⟩;refine fn1 Cd.s_l18Sum_k [.b 0] [sB l z] λX=>?_;unfold Cd.pE
  repeat' first|simp -dsimp only[go_sem,sB,U,V,Y]|apply Br.mk<;>intro h<;>try simp -dsimp only[h]|refine aA.bor (by first|exact G|exact H|exact O) rfl ?_|refine aC ?_|refine aC9 ?_|fail
  all_goals first|exact⟨_,_,rfl,rfl⟩
 .refine⟨1,13+r,z,by omega,?_⟩;refine fn1 Cd.s_l18Sum_k [.b 0] [sB l z] λX=>?_;unfold Cd.pE
  repeat' first|simp -dsimp only[go_sem,sB,U,V,Y]|apply Br.mk<;>intro h<;>try simp -dsimp only[h]|refine aA.bor (by first|exact G|exact H|exact O) rfl ?_|refine aC ?_|refine aC9 ?_|fail
  all_goals first|exact⟨_,_,rfl,rfl⟩
attribute [local go_sem] cCt in
theorem gN (l:List Int) (x:Sr) (u:byt l) (Z:x.p<=2780):∃H I z,z.p<=x.p+14∧Vs.Fn Tryz.prog F.sV [sB l x] [.ptr (.b 0) 0 0] (.agg [.v (.int .i64 H),.v (.int .i64 I)]) [some (sB l z)]:=by
 have G:=one l x u 6 (by omega);have q1:=aQ l x 6;obtain⟨O,J⟩:∃b,(pkV l x 6==0)=b:=⟨_,rfl⟩;rw[J] at G;generalize pkS l x 6=x1 at *
 cases O
 rotate_left
 .obtain⟨H,I,z,hz,L⟩:=aMY l x1 u (by omega);refine⟨H,I,z,by omega,?_⟩;refine fn1 CdV.l18Number_k [.b 0] [sB l z] λX=>?_;unfold CdV.gN
  repeat' first|simp -dsimp only[go_sem,sB]|apply Br.mk<;>intro h<;>try simp -dsimp only[h]|refine aA.bor (by first|exact G|exact L) rfl ?_|refine aC ?_|refine aC9 ?_|fail
  all_goals first|exact⟨_,_,rfl,rfl⟩
 have M:=pick l x1 u 2 (by omega);have v3:=bC u x1 (n:=2) (by omega);have q3:=aQ l x1 2;generalize pkV l x1 2=r at *
 generalize pkS l x1 2=z at *
 have U:IntKind.i64.wrap (2*r)=2*r:=aM (by omega) (by omega);have V:IntKind.i64.wrap (1+2*r)=1+2*r:=aM (by omega) (by omega);have Y:IntKind.i64.wrap (1+2*r+2)=1+2*r+2:=aM (by omega) (by omega);refine⟨1+2*r,1+2*r+2,z,by omega,?_⟩;refine fn1 CdV.l18Number_k [.b 0] [sB l z] λX=>?_;unfold CdV.gN
 repeat' first|simp -dsimp only[go_sem,sB,U,V,Y]|apply Br.mk<;>intro h<;>try simp -dsimp only[h]|refine aA.bor (by first|exact G|exact M) rfl ?_|refine aC ?_|refine aC9 ?_|fail
 all_goals first|exact⟨_,_,rfl,rfl⟩
end
section
variable [Vs.Envs]
attribute [local irreducible] Vs.Fn nxV nxS pkV pkS ptN crd dW dtF lH
def shV (a n:Int):Int:=IntKind.i64.wrap (a*2 ^ (min n.toNat 64))
def hoR (l:List Int) (x:Sr):Int×Sr:=
 if pkV l (pkS l x 10) 6=0 then(0,pkS l (pkS l x 10) 6)
 else if pkV l (pkS l x 10) 6=1 then(gG .or .i64 (shV 1 (pkV l (pkS l (pkS l x 10) 6) 3)) (shV 8 (pkV l (pkS l (pkS l (pkS l x 10) 6) 3) 9)),pkS l (pkS l (pkS l (pkS l x 10) 6) 3) 9)
 else if pkV l (pkS l x 10) 6=2 then(pkV l (pkS l (pkS l x 10) 6) 4096,pkS l (pkS l (pkS l x 10) 6) 4096)
 else(shV 4 (pkV l x 10),pkS l (pkS l x 10) 6)
def hoF (l:List Int):Nat->Sr->List Int->List Int×Sr
 |0,x,o=>(o,x)
 |k+1,x,o=>hoF l k (hoR l x).2 (o++[(hoR l x).1])
theorem aKf (l:List Int) (x:Sr):(hoR l x).2.p<=x.p+8:=by
 unfold hoR;have u:=aQ l x 10;have h2:=aQ l (pkS l x 10) 6;have F:=aQ l (pkS l (pkS l x 10) 6) 3;have G:=aQ l (pkS l (pkS l (pkS l x 10) 6) 3) 9;have H:=aQ l (pkS l (pkS l x 10) 6) 4096;split
 .show(pkS l (pkS l x 10) 6).p<=_;omega
 split
 .show(pkS l (pkS l (pkS l (pkS l x 10) 6) 3) 9).p<=_;omega
 split
 .show(pkS l (pkS l (pkS l x 10) 6) 4096).p<=_;omega
 .show(pkS l (pkS l x 10) 6).p<=_;omega
theorem wI (l:List Int):∀(k:Nat) (x:Sr) (o:List Int),(hoF l k x o).1.length=o.length+k∧(hoF l k x o).2.p<=x.p+8*k
 |0,x,o=>⟨rfl,by simp[hoF]⟩
 | k+1,x,o=>by
  have u:=wI l k (hoR l x).2 (o++[(hoR l x).1]);have F:=aKf l x;rw[hoF];refine⟨?_,by omega⟩;rw[u.1,AC];simp only[A9];omega
theorem aIc {v n:Int} (h:0<=v∧v<n) (u:n<=4096):IntKind.u64.wrap v=v:=by simp[IntKind.wrap,IntKind.signed,IntKind.bits];omega
def gvH (i:Nat):AV:=if i=0 then .v (.slice none 0 0) else .loc (.t 42 0) 0 i
def ghH (o:List Int) (i:Nat):List (Vs.Name×Blk):=if i=0 then[] else[(.t 42 0,.arr 1 (E cI o) false)]
attribute [local go_sem] Int.reduceBEq Int.reduceBNe cC aH Ai Ah Al Aq Ad Af Ac Ae Aa Ab Ao Ar Ay Az Bo Bq Vs.Name.t.injEq Ak AB aW aX bG AA AO AP Int.reduceAdd Int.reduceSub Int.reduceMul cC in
theorem aHK (l:List Int) (x:Sr) (J:byt l) (n:Nat) (M:0<n) (hn:n<=20) (hp:x.p<=3000):Vs.Fn Tryz.prog F.gM [sB l x] [.ptr (.b 0) 0 0,.v (.int .i64 n)] (.agg [.loc (.b 1) 0 n]) [some (sB l (hoF l n x []).2),some (.arr 1 (E cI (hoF l n x []).1) false)]:=by
 have ha:=(wI l n x []).1;simp only[Ab,BF] at ha;have hd:hoF l n x []=hoF l (n-0) x []:=rfl;generalize hR:hoF l n x []=R at *
 refine fn1 Cd.s_l02Draw_k [.b 0,.t 42 0] [sB l R.2,.arr 1 (E cI R.1) false] λX=>?_;unfold Cd.gM
 repeat' first|simp -dsimp only[go_sem,sB]|apply Br.mk<;>intro h<;>try simp -dsimp only[h]|refine aC ?_|refine aC9 ?_|fail
 refine aO.intro dM (X:={L:Nat×Sr×List Int // L.1<=n∧L.2.2.length=L.1∧(L.2.1.p+8*(n-L.1)<=3300)∧hoF l (n-L.1) L.2.1 L.2.2=R}) (λL=>⟨[(0,.ptr (.b 0) 0 0),(1,.v (.int .i64 (n:Nat))),(4,.ptr (.t 4 0) 0 0),(5,.ptr (.t 5 0) 0 0),(6,.v (.int .i64 (L.1.1:Nat)))],(.b 0,sB l L.1.2.1)::(.t 5 0,.var [gvH L.1.1] false)::(.t 4 0,.var [.v (.slice none 0 0)] false)::ghH L.1.2.2 L.1.1⟩) (λL=>n-L.1.1) ⟨(0,x,[]),by dsimp only;omega,rfl,by dsimp only;omega,by dsimp only;rw[←hR];rfl⟩ ?_ ?_
 .simp[Vs.LeL,Vs.look,aB,aP,aJ,Vs.hset,aK,gvH,ghH,sB]
 .rintro⟨⟨i,y,o⟩,hi,ho,hk,I⟩;dsimp only at hi ho hk I;have hw:IntKind.i64.wrap ((i:Int)+1)=((i+1:Nat):Int):=by rw[aM (by omega) (by omega)];omega
  by_cases hz:i=0
  .subst hz;obtain rfl:o=[]:=Bl ho;simp only[gvH,ghH,Bt]
   try simp -dsimp only[go_sem,sB]
   refine Br.mk (λhc=>?_) λhc=>?_
   .rw[show n-0=(n-0-1)+1 by omega,hoF] at I;have P1:=pick l y J 10 (by omega);have v1:=bC J y (n:=10) (by omega);have q1:=aQ l y 10;have u1:=aIc v1 (by omega);have P2:=pick l (pkS l y 10) J 6 (by omega);have v2:=bC J (pkS l y 10) (n:=6) (by omega);have q2:=aQ l (pkS l y 10) 6;have Z:=aKf l y;unfold hoR at I Z;generalize pkV l (pkS l y 10) 6=r2 at *
    generalize pkS l (pkS l y 10) 6=x2 at *
    generalize pkV l y 10=r1 at *
    generalize pkS l y 10=x1 at *
    by_cases M:r2=0
    .simp only[M,Bt,Bg] at I Z;have V:(r2==0)=true:=Bj.2 M;generalize x2=y2 at *
     have G:[[AV.v (.int .i64 (0))]]=E cI [0]:=by rfl
     repeat' first|simp -dsimp only[go_sem,V,u1,hw,sB]|apply Br.mk<;>intro h<;>try simp -dsimp only[h]|refine aA.bor (by first|exact P1|exact P2) rfl ?_|refine aC ?_|refine aC9 ?_|fail
     all_goals first|omega|(refine⟨⟨(0+1,y2,[0]),by dsimp only;omega,rfl,by dsimp only;omega,by rw[show n-(0+1)=n-0-1 by omega];exact I⟩,?_,by simp only;omega⟩;simp[Vs.LeL,Vs.look,aB,aP,aJ,Vs.hset,aK,Vs.E,sB,gvH,ghH,cI];done)
    have V:(r2==0)=false:=Ap.2 M;by_cases Y:r2=1
    .simp only[M,Y,Bt,Bg] at I Z;have e1:(r2==1)=true:=Bj.2 Y;have P3:=pick l x2 J 3 (by omega);have v3:=bC J x2 (n:=3) (by omega);have q3:=aQ l x2 3;have P4:=pick l (pkS l x2 3) J 9 (by omega);have v4:=bC J (pkS l x2 3) (n:=9) (by omega);have q4:=aQ l (pkS l x2 3) 9;have u3:=aIc v3 (by omega);have u4:=aIc v4 (by omega);generalize pkV l x2 3=r3 at *
     generalize pkV l (pkS l x2 3) 9=r4 at *
     generalize pkS l (pkS l x2 3) 9=y2 at *
     generalize pkS l x2 3=x3 at *
     obtain⟨hh,H⟩:∃hh,gG .or .i64 (shV 1 r3) (shV 8 r4)=hh:=⟨_,rfl⟩;rw[H] at I;unfold shV at H;have G:[[AV.v (.int .i64 (hh))]]=E cI [hh]:=by rfl
     repeat' first|simp -dsimp only[go_sem,V,e1,u1,u3,u4,H,hw,G,sB]|apply Br.mk<;>intro h<;>try simp -dsimp only[h]|refine aA.bor (by first|exact P1|exact P2|exact P3|exact P4) rfl ?_|refine aC ?_|refine aC9 ?_|fail
     all_goals first|omega|(refine⟨⟨(0+1,y2,[hh]),by dsimp only;omega,rfl,by dsimp only;omega,by rw[show n-(0+1)=n-0-1 by omega];exact I⟩,?_,by simp only;omega⟩;simp[Vs.LeL,Vs.look,aB,aP,aJ,Vs.hset,aK,Vs.E,sB,gvH,ghH,G];done)
    have e1:(r2==1)=false:=Ap.2 Y;by_cases h2:r2=2
    .simp only[M,Y,h2,Bt,Bg] at I Z;have e2:(r2==2)=true:=Bj.2 h2;have P3:=pick l x2 J 4096 (by omega);have q3:=aQ l x2 4096;generalize pkV l x2 4096=r3 at *
     generalize pkS l x2 4096=y2 at *
     have G:[[AV.v (.int .i64 (r3))]]=E cI [r3]:=by rfl
     repeat' first|simp -dsimp only[go_sem,V,e1,e2,u1,hw,G,sB]|apply Br.mk<;>intro h<;>try simp -dsimp only[h]|refine aA.bor (by first|exact P1|exact P2|exact P3) rfl ?_|refine aC ?_|refine aC9 ?_|fail
     all_goals first|omega|(refine⟨⟨(0+1,y2,[r3]),by dsimp only;omega,rfl,by dsimp only;omega,by rw[show n-(0+1)=n-0-1 by omega];exact I⟩,?_,by simp only;omega⟩;simp[Vs.LeL,Vs.look,aB,aP,aJ,Vs.hset,aK,Vs.E,sB,gvH,ghH,G];done)
    have e2:(r2==2)=false:=Ap.2 h2;simp only[M,Y,h2,Bg] at I Z;generalize x2=y2 at *
    obtain⟨hh,H⟩:∃hh,shV 4 r1=hh:=⟨_,rfl⟩;rw[H] at I;unfold shV at H;have G:[[AV.v (.int .i64 (hh))]]=E cI [hh]:=by rfl
    repeat' first|simp -dsimp only[go_sem,V,e1,e2,u1,H,hw,G,sB]|apply Br.mk<;>intro h<;>try simp -dsimp only[h]|refine aA.bor (by first|exact P1|exact P2) rfl ?_|refine aC ?_|refine aC9 ?_|fail
    all_goals first|omega|(refine⟨⟨(0+1,y2,[hh]),by dsimp only;omega,rfl,by dsimp only;omega,by rw[show n-(0+1)=n-0-1 by omega];exact I⟩,?_,by simp only;omega⟩;simp[Vs.LeL,Vs.look,aB,aP,aJ,Vs.hset,aK,Vs.E,sB,gvH,ghH,G];done)
   .have:¬0<n:=Dq;omega
  .simp only[gvH,ghH,AJ hz];have O:(E cI o).length=i:=by rw[aH];exact ho
   have U:(E cI o).take i=E cI o:=Ag (by omega)
   try simp -dsimp only[go_sem,O,U,sB]
   refine Br.mk (λhc=>?_) λhc=>?_
   .have he:i<n:=Dq;rw[show n-i=(n-i-1)+1 by omega,hoF] at I;have P1:=pick l y J 10 (by omega);have v1:=bC J y (n:=10) (by omega);have q1:=aQ l y 10;have u1:=aIc v1 (by omega);have P2:=pick l (pkS l y 10) J 6 (by omega);have v2:=bC J (pkS l y 10) (n:=6) (by omega);have q2:=aQ l (pkS l y 10) 6;have Z:=aKf l y;unfold hoR at I Z;generalize pkV l (pkS l y 10) 6=r2 at *
    generalize pkS l (pkS l y 10) 6=x2 at *
    generalize pkV l y 10=r1 at *
    generalize pkS l y 10=x1 at *
    by_cases M:r2=0
    .simp only[M,Bt,Bg] at I Z;have V:(r2==0)=true:=Bj.2 M;generalize x2=y2 at *
     have G:E cI o++[[AV.v (.int .i64 (0))]]=E cI (o++[0]):=by rw[aS];rfl
     repeat' first|simp -dsimp only[go_sem,V,u1,hw,G,O,U,sB]|apply Br.mk<;>intro h<;>try simp -dsimp only[h]|refine aA.bor (by first|exact P1|exact P2) rfl ?_|refine aC ?_|refine aC9 ?_|fail
     all_goals first|omega|(refine⟨⟨(i+1,y2,o++[0]),by dsimp only;omega,by dsimp only;rw[AC];simp only[A9];omega,by dsimp only;omega,by rw[show n-(i+1)=n-i-1 by omega];exact I⟩,?_,by simp only;omega⟩;simp[Vs.LeL,Vs.look,aB,aP,aJ,Vs.hset,aK,Vs.E,sB,gvH,ghH,G];done)
    have V:(r2==0)=false:=Ap.2 M;by_cases Y:r2=1
    .simp only[M,Y,Bt,Bg] at I Z;have e1:(r2==1)=true:=Bj.2 Y;have P3:=pick l x2 J 3 (by omega);have v3:=bC J x2 (n:=3) (by omega);have q3:=aQ l x2 3;have P4:=pick l (pkS l x2 3) J 9 (by omega);have v4:=bC J (pkS l x2 3) (n:=9) (by omega);have q4:=aQ l (pkS l x2 3) 9;have u3:=aIc v3 (by omega);have u4:=aIc v4 (by omega);generalize pkV l x2 3=r3 at *
     generalize pkV l (pkS l x2 3) 9=r4 at *
     generalize pkS l (pkS l x2 3) 9=y2 at *
     generalize pkS l x2 3=x3 at *
     obtain⟨hh,H⟩:∃hh,gG .or .i64 (shV 1 r3) (shV 8 r4)=hh:=⟨_,rfl⟩;rw[H] at I;unfold shV at H;have G:E cI o++[[AV.v (.int .i64 (hh))]]=E cI (o++[hh]):=by rw[aS];rfl
     repeat' first|simp -dsimp only[go_sem,V,e1,u1,u3,u4,H,hw,G,O,U,sB]|apply Br.mk<;>intro h<;>try simp -dsimp only[h]|refine aA.bor (by first|exact P1|exact P2|exact P3|exact P4) rfl ?_|refine aC ?_|refine aC9 ?_|fail
     all_goals first|omega|(refine⟨⟨(i+1,y2,o++[hh]),by dsimp only;omega,by dsimp only;rw[AC];simp only[A9];omega,by dsimp only;omega,by rw[show n-(i+1)=n-i-1 by omega];exact I⟩,?_,by simp only;omega⟩;simp[Vs.LeL,Vs.look,aB,aP,aJ,Vs.hset,aK,Vs.E,sB,gvH,ghH,G];done)
    have e1:(r2==1)=false:=Ap.2 Y;by_cases h2:r2=2
    .simp only[M,Y,h2,Bt,Bg] at I Z;have e2:(r2==2)=true:=Bj.2 h2;have P3:=pick l x2 J 4096 (by omega);have q3:=aQ l x2 4096;generalize pkV l x2 4096=r3 at *
     generalize pkS l x2 4096=y2 at *
     have G:E cI o++[[AV.v (.int .i64 (r3))]]=E cI (o++[r3]):=by rw[aS];rfl
     repeat' first|simp -dsimp only[go_sem,V,e1,e2,u1,hw,G,O,U,sB]|apply Br.mk<;>intro h<;>try simp -dsimp only[h]|refine aA.bor (by first|exact P1|exact P2|exact P3) rfl ?_|refine aC ?_|refine aC9 ?_|fail
     all_goals first|omega|(refine⟨⟨(i+1,y2,o++[r3]),by dsimp only;omega,by dsimp only;rw[AC];simp only[A9];omega,by dsimp only;omega,by rw[show n-(i+1)=n-i-1 by omega];exact I⟩,?_,by simp only;omega⟩;simp[Vs.LeL,Vs.look,aB,aP,aJ,Vs.hset,aK,Vs.E,sB,gvH,ghH,G];done)
    have e2:(r2==2)=false:=Ap.2 h2;simp only[M,Y,h2,Bg] at I Z;generalize x2=y2 at *
    obtain⟨hh,H⟩:∃hh,shV 4 r1=hh:=⟨_,rfl⟩;rw[H] at I;unfold shV at H;have G:E cI o++[[AV.v (.int .i64 (hh))]]=E cI (o++[hh]):=by rw[aS];rfl
    repeat' first|simp -dsimp only[go_sem,V,e1,e2,u1,H,hw,G,O,U,sB]|apply Br.mk<;>intro h<;>try simp -dsimp only[h]|refine aA.bor (by first|exact P1|exact P2) rfl ?_|refine aC ?_|refine aC9 ?_|fail
    all_goals first|omega|(refine⟨⟨(i+1,y2,o++[hh]),by dsimp only;omega,by dsimp only;rw[AC];simp only[A9];omega,by dsimp only;omega,by rw[show n-(i+1)=n-i-1 by omega];exact I⟩,?_,by simp only;omega⟩;simp[Vs.LeL,Vs.look,aB,aP,aJ,Vs.hset,aK,Vs.E,sB,gvH,ghH,G];done)
   .have hb:i=n:=by
     have:¬i<n:=Dq;omega
    subst hb;rw[C9,hoF] at I;subst I
    try simp -dsimp only[go_sem,O,U,sB]
    all_goals first|exact⟨_,_,rfl,rfl⟩|exact⟨⟨_,_,rfl,rfl⟩,λh=>h rfl⟩
end
end Go.Proofs.YtmiiohemehacjaaGreatDoor
