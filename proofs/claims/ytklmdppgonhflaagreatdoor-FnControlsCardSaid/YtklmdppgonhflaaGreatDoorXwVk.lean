/- EvalSpec: the reference's way. -/
import Derived.Test.YtklmdppgonhflaaGreatDoorXwVb
import Derived.Test.YtklmdppgonhflaaGreatDoorXwVf
import Derived.Test.YtklmdppgonhflaaGreatDoorXwQd
import Derived.Test.YtklmdppgonhflaaGreatDoorXwD
import Derived.Test.YtklmdppgonhflaaGreatDoorXwSm
import Derived.Test.YtklmdppgonhflaaGreatDoorVtO
set_option linter.all false
set_option maxHeartbeats 8000000
namespace Go.Proofs.YtklmdppgonhflaaGreatDoor
open Go.Vs
section
variable [Vs.Envs]
attribute [local irreducible] Vs.Fn bU dX bL dJ bB dK dL l03 chB rk cd3 chI stp bD
attribute [local go_sem] Int.reduceBEq Int.reduceBNe cC cFd aH Af Ag Ao Aq Ae Aj Ad Al Ac Ai Ap Ar
open Go.Vs.Q in
def CdV.l13Read:aD:=s [o 4 (.mv (.const (.pointer none))),mi 5 0] [0,1]<|s [o 14 (.build [.v (.slice none 0 0),.v (.slice none 0 0),.v (.slice none 0 0)] []),bx 15 14,m 6 15] [0,1,6]<|.seq (s [m 16 1,c 17 F.jZ [16],nt 18 17] [0,1,6,18]<|.cond 18 (s [m 19 6,m 4 19,mi 5 1] [4,5]<|.ret) .skip)<|.seq (s [m 20 0,m
 21 1,c 22 F.jJ [21],c 23 F.aAZ [20,22],nt 24 23] [0,1,6,24]<|.cond 24 (s [m 25 6,m 4 25,mi 5 2] [4,5]<|.ret) .skip)<|s [m 27 1,m 28 0,nc 29 28,fa 30 0 29,lt 31 2 30,c 32 F.jX [27,31],m 26 32,ex 33 26 0,ex 34 26 1,m 7 33,m 8 34] [0,1,6,7,8]<|.seq (s [m 35 8,ne 36 35 0]
 [0,1,6,7,8,36]<|.cond 36 (s [m 37 6,m 38 8,m 4 37,m 5 38] [4,5]<|.ret) .skip)<|.seq (s [mi 9 0] [0,1,6,7,9]<|.block 0 (.loop (.seq (s [m 39 9,m 40 1,ln 41 40,ls 42 39 41] [0,1,6,7,9,42]<|.cond 42 .skip (.exit 0))<|.seq (.block 1 (.seq (.naming 10 (.region [o 45 (.bslice 1 0 [.v (.int .i64 (0))] []),m
 10 45] [0,1,6,7,9,10] []))<|.seq (s [mi 11 0] [0,1,6,7,9,10,11]<|.closing 10 (.block 2 (.loop (.seq (s [m 46 11,m 47 0,nc 48 47,fa 49 2 48,lf 50 1 49,ln 51 50,ls 52 46 51] [0,1,6,7,9,10,11,52]<|.cond 52 .skip (.exit 2))<|.seq (.block 3 (r [m 56 1,m 57 9,ix 58 1 56 57,m 59 0,nc 60 59,fa 61 2 60,lf 62
 1 61,m 63 11,ix 64 2 62 63,lt 65 2 64,c 66 F.nL [58,65],c 67 F.lF [66],m 55 67,ex 68 55 0,ex 69 55 1,m 12 68,m 13 69] [0,1,6,7,9,10,11,12,13] [56,57,59,58,60,61,62,63,64,65,66,67,55,68,69,12]<|.seq (s [m 70 13,nt 71 70] [0,1,6,7,9,10,11,12,71]<|.cond 71 (s [m 72 6,m 4 72,mi 5 8]
 [4,5]<|.ret) .skip)<|.naming 10 (.region [m 73 10,m 74 12,o 75 (.bslice 1 1 [.v (.int .i64 (0))] [(0,74)]),o 76 (.append 1 8 73 75),m 10 76] [0,1,6,7,9,10,11] [])))<|.region [m 53 11,ad 54 53 1,m 11 54] [0,1,6,7,9,10,11] []))))<|.region [m 77 6,m 78 6,nc 79 78,fa 80 1 79,lf 81 1 80,m 82 10,o 83
 (.bslice 1 1 [.v (.slice none 0 0)] [(0,82)]),o 84 (.append 1 24 81 83),nc 85 77,fa 86 1 85,⟨none,.store 1 86 84,none⟩] [0,1,6,7,9] []))<|.region [m 43 9,ad 44 43 1,m 9 44] [0,1,6,7,9] [])))<|s [m 87 6,m 88 7,nc 89 87,fa 90 0 89,⟨none,.store 1 90 88,none⟩] [6,7]<|s [m 91 6,m 92 7,c 93
 F.nJ [92],nc 94 91,fa 95 2 94,⟨none,.store 1 95 93,none⟩] [6]<|s [m 96 6,m 4 96,mi 5 0] [4,5]<|.ret
theorem CdV.l13Read_k:CK 207 Tryz.f207 CdV.l13Read 97 [.tmp 4,.tmp 5]:=ck Tryz.func207
attribute [go_sem] CdV.l13Read
def xW (ns:List Int):Int:=ns.foldl (λa n=>IntKind.i64.wrap (a+n)) 0
theorem aJh {F:List Int}{i:Nat} (h:i<F.length):xW (F.take (i+1))=IntKind.i64.wrap (xW (F.take i)+F[i]):=by
 unfold xW;rw[bM h,List.foldl_append];rfl
theorem aKp (sf st:Int) (l:List (List Int)):xW (l.map λc=>(dX sf st c).1)=kM sf st l:=by
 unfold xW kM;rw[List.foldl_map]
theorem aMq {F:List Int}{i:Nat}{x:Int} (h:F[i]? = some x):xW (F.take (i+1))=IntKind.i64.wrap (xW (F.take i)+x):=by
 obtain⟨hi,rfl⟩:=CB.1 h;exact aJh hi
def cRw (n:Int):List AV:=[.sl 1 [[.v (.int .i64 n)]]]
theorem aNs {F:List Int}{i:Nat} (h:i<F.length):(E cRw F).getD i []=[.sl 1 [[.v (.int .i64 (F.getD i 0))]]]:=by rw[aW h];simp[cRw,List.getD,h]
attribute [local irreducible] xW
theorem aHw (O U J M w:Int) (hw:inB w 1 20=true) (hf:dW O U w=true) (hn:l9 J M w=true):Fz F.aAZ [.ro [.v (.int .i64 O),.v (.int .i64 U),.sl 2 [[.v (.int .i64 J),.v (.int .i64 M)]],.v (.bool false)],.v (.int .i64 w)] (.v (.bool true)):=by
 have G:=hn;unfold l9 at G;rw[Aw] at G;obtain⟨Z,ha⟩:=G;have IN:=yV w 1 20;rw[hw] at IN;have FG:=dZ O U w;rw[hf] at FG;have FS:=dZ J M w;rw[Z] at FS
 have I:decide (IntKind.i64.wrap (M-J)>12)=false:=by
  have:=BK ha;exact AQ (by unfold W at this;omega)
 refine fn0 Cd.s_l13Ok_k λX=>?_
 repeat' first|simp -dsimp only[go_sem,I]|apply Br.mk<;>intro h<;>try simp -dsimp only[h]|refine aA.c (by first|exact IN|exact FG) ?_|refine aC ?_|refine aC9 ?_|fail
 refine aP.at dM (X:={H:Nat×(Unit) // H.1<=1∧True}) (λH=>[(5,.v (.int .i64 H.1.1))]) (λH=>[]) (λH=>1-H.1.1) ⟨(0,()),by omega,trivial⟩ ?_ ?_
 .exact le0
 .rintro⟨⟨i,_⟩,hi,hg⟩;dsimp only at hi hg;simp -dsimp only[go_sem];refine Br.mk (λhc=>?_) λhc=>?_
  .have Y:i<1:=Dq;have hw:=aJ Y (by omega);obtain rfl:i=0:=by omega
   repeat' first|simp -dsimp only[go_sem,hw,I]|apply Br.mk<;>intro h<;>try simp -dsimp only[h]|refine aA.c (by first|exact FS) ?_|refine aC ?_|refine aC9 ?_|fail
   all_goals first|omega|(exact nx (1,()) trivial)
  .have V:i=1:=by
    have:¬i<1:=Dq;omega
   subst V;simp -dsimp only[go_sem]
   first|exact⟨⟨_,_,rfl,rfl⟩,λh=>h rfl⟩|(simp;done)
theorem r_end (O:AV) (G:List Int) (J:List ByteArray) (g:Nat) (U:g<G.length) (V:G.length<=1048576):Fz F.o6 [.ro [.sl 1 (E cSt J),O,.sl 1 (E cI G)],.v (.int .i64 (g:Int))] (.v (.int .i64 (if g+1<G.length then G.getD (g+1) 0 else(J.length:Int)))):=by
 have I:IntKind.i64.wrap ((g:Int)+1)=((g+1:Nat):Int):=by rw[aI (by omega) (by omega)];omega
 by_cases h:g+1<G.length
 .have H:decide (((g+1:Nat):Int)<(G.length:Int))=true:=A9 (by omega);have M:(E cI G).getD (g+1) []=[.v (.int .i64 (G.getD (g+1) 0))]:=by rw[aW h];simp[cI,List.getD,h]
  rw[AP h];refine fn0 Cd._s_l13R__end_k λX=>?_
  repeat' first|simp -dsimp only[go_sem,I,H,M]|apply Br.mk<;>intro h<;>try simp -dsimp only[h]|refine aC ?_|refine aC9 ?_|fail
  all_goals first|exact⟨_,_,rfl,rfl⟩
 .have H:decide (((g+1:Nat):Int)<(G.length:Int))=false:=AQ (by omega);rw[AC h];refine fn0 Cd._s_l13R__end_k λX=>?_
  repeat' first|simp -dsimp only[go_sem,I,H]|apply Br.mk<;>intro h<;>try simp -dsimp only[h]|refine aC ?_|refine aC9 ?_|fail
  all_goals first|exact⟨_,_,rfl,rfl⟩
theorem aOf (kv hv:AV) (ns:List Int) (fr to:Nat) (h1:fr<=to) (h2:to<=ns.length) (hl:ns.length<=1048576):Fz F.mY [.ro [kv,.sl 1 (E cRw ns),hv],.v (.int .i64 (fr:Int)),.v (.int .i64 (to:Int)),.v (.int .i64 1)] (.sl 1 (E cI [xW ((ns.take to).drop fr)])):=by
 have hml:((ns.take to).drop fr).length=to-fr:=by simp;omega
 have hge:∀i,i<to-fr->((ns.take to).drop fr)[i]? = some (ns.getD (fr+i) 0):=by
  intro i h;rw[Dp,List.getElem?_take,AP (by omega)];simp[List.getD,(by omega:fr+i<ns.length)]
 generalize hm:(ns.take to).drop fr=ms at *
 have e1c:∀x:Int,E cI [x]=[[.v (.int .i64 x)]]:=λ_=>rfl;refine fn0 Cd._s_l13R__sums_k λX=>?_
 repeat' first|simp -dsimp only[go_sem]|apply Br.mk<;>intro h<;>try simp -dsimp only[h]|refine aC ?_|refine aC9 ?_|fail
 refine aP.at dM (X:={zz:Nat×(Unit) // zz.1<=(to-fr)∧True}) (λzz=>[(9,.loc (.t 13 0) 0 1),(10,.v (.int .i64 ((fr+zz.1.1:Nat):Int)))]) (λzz=>[(.t 13 0,.arr 1 (E cI [xW (ms.take zz.1.1)]) false)]) (λzz=>(to-fr)-zz.1.1) ⟨(0,()),by omega,trivial⟩ ?_ ?_
 .simp[Vs.LeL,Vs.look,aB,aQ,aK,Vs.hset,aL,Vs.E,cI,xW]
 .rintro⟨⟨i,_⟩,hi,hg⟩;dsimp only at hi hg;simp -dsimp only[go_sem];refine Br.mk (λhc=>?_) λhc=>?_
  .have hlt:i<(to-fr):=Dq;have hw:=aJ hlt (by omega);have hj:((fr+i:Nat):Int).toNat=fr+i:=by omega
   have gr:=aNs (by omega:fr+i<ns.length);have hss:=aMq (hge i (by omega));have hwj:IntKind.i64.wrap (((fr+i:Nat):Int)+1)=((fr+(i+1):Nat):Int):=by rw[aI (by omega) (by omega)];omega
   obtain⟨j,rfl⟩:∃j,j=i:=⟨i,rfl⟩;simp -dsimp only[go_sem];refine aP.at dM (X:={zz:Nat×(Unit) // zz.1<=1∧True}) (λzz=>[(9,.loc (.t 13 0) 0 1),(17,.junk),(11,.v (.int .i64 zz.1.1))]) (λzz=>[(.t 13 0,.arr 1 (E cI [if zz.1.1=0 then xW (ms.take j) else xW (ms.take (j+1))]) false)]) (λzz=>1-zz.1.1) ⟨(0,()),by omega,trivial⟩ ?_ ?_
   .simp[Vs.LeL,Vs.look,aB,aQ,aK,Vs.hset,aL,Vs.E,cI]
   .rintro⟨⟨i,_⟩,hi,hg⟩;dsimp only at hi hg;simp -dsimp only[go_sem];refine Br.mk (λhc=>?_) λhc=>?_
    .have hlt:i<1:=Dq;have hw:=aJ hlt (by omega);obtain rfl:i=0:=by omega
     repeat' first|simp -dsimp only[go_sem,gr,hj,hss,e1c,hw]|apply Br.mk<;>intro h<;>try simp -dsimp only[h]|refine aC ?_|refine aC9 ?_|fail
     all_goals first|omega|(exact nx (1,()) trivial (h2:=by simp[Vs.LeL,Vs.look,aB,aQ,aK,Vs.hset,aL,hss,Vs.E,cI]))
    .have hge:i=1:=by
      have:¬i<1:=Dq;omega
     subst hge;simp -dsimp only[go_sem];refine And.intro ?_ (λh=>absurd rfl h);simp -dsimp only[go_sem,hwj]
     first|(exact⟨⟨(j+1,()),by omega,trivial⟩,by simp[Vs.LeL,Vs.look,aB,aQ,aK,Vs.hset,aL],by simp only;omega⟩)
  .have hge:i=(to-fr):=by
    have:¬i<(to-fr):=Dq;omega
   subst hge;simp -dsimp only[go_sem];have hfull:(E cI [xW (ms.take (to-fr))]).take 1=E cI [xW ms]:=by rw[Ah (l:=ms) (by omega)];rfl
   first|(rw[hfull];exact⟨⟨_,_,rfl,rfl⟩,λh=>h rfl⟩)
end
section
variable [Vs.Envs]
attribute [local irreducible] Vs.Fn bU dX bL xW bV dJ bB dK dL l03 chB rk cd3 chI stp bD
def nE (sf st:Int) (l:List (List Int)):List Int:=l.map λc=>(dX sf st c).1
theorem lH (sf st:Int) (l:List (List Int)):(nE sf st l).length=l.length:=by simp[nE]
theorem aDu {sf st:Int}{l:List (List Int)}{i:Nat} (h:i<l.length):E cRw ((nE sf st l).take i)++[[.sl 1 [[.v (.int .i64 (dX sf st l[i]).1)]]]]=E cRw ((nE sf st l).take (i+1)):=by
 rw[bM (by rw[lH];exact h),aV];simp[nE,E,cRw]
def kU (sf st:Int) (l:List (List Int)) (i:Nat):AV:=if i=0 then .v (.slice none 0 0) else .loc (.t 84 0) 0 i
def kS (sf st:Int) (l:List (List Int)) (i:Nat):List (Vs.Name×Blk):=if i=0 then[] else[(.t 84 0,.arr 1 (E cRw ((nE sf st l).take i)) false)]
def vO (sf st:Int) (l:List (List Int)) (i:Nat):AV:=if i=0 then .v (.slice none 0 0) else .sl 1 (E cRw ((nE sf st l).take i))
section
variable (l:List (List Int)) (fr to sf st:Int) (hk:bO l) (hd:bC l=true) (hf:dW fr to (bK l)=true) (hn:l9 sf st (bK l)=true)
include hk hd hf hn
theorem aEX:inB (bK l) 1 20=true:=by
 have _:=hk;have _:=hf;have _:=hn;by_cases G:l.length=0
 .unfold bK;rw[AP G];rfl
 .have F:=hd;simp only[bC,Aw,Az,Bb] at F;have H:l.getD 0 []∈l:=by rw[show l.getD 0 []=l[0]'(by omega) by simp[List.getD,(by omega:0<l.length)]];exact Aa _
  have:=(F.1 _ H).1;simp only[fC,inB,Aw,Bb] at this;unfold bK;rw[AC G];simp only[inB,Aw,Bb];omega
theorem aHv (O:bX fr to l=false):Fz F.z8 [.ro [.v (.int .i64 fr),.v (.int .i64 to),.sl 2 [[.v (.int .i64 sf),.v (.int .i64 st)]],.v (.bool false)],.sl 1 (E cC l)] (.tup [.ro [.v (.slice none 0 0),.v (.slice none 0 0),.v (.slice none 0 0)],.v (.int .i64 8)]):=by
 have H:=dC l hk.2 hk.1;rw[hd] at H;have M:=dY l;have G:=aHw fr to sf st (bK l) (aEX l fr to sf st hk hd hf hn) hf hn;have I:=kV l fr to hk.2 hk.1;have J:bL fr to l=8:=by simp only[bL,hd,hf,O];rfl
 rw[show oN fr to l=.v (.slice none 0 0) by simp[oN,J],J] at I;refine fn0 CdV.l13Read_k λX=>?_
 repeat' first|simp -dsimp only[go_sem,Int.reduceBEq,Int.reduceBNe,cC,cFd,aH,Af,Ag,Ao,Aq,Ae,Aj,Ad,Al,Ac,Ai,Ap,Ar]|apply Br.mk<;>intro h<;>try simp -dsimp only[h]|refine aA.c (by first|exact H|exact M|exact G|exact I) ?_|refine aC ?_|refine aC9 ?_|fail
 all_goals first|exact⟨_,_,rfl,rfl⟩
attribute [local go_sem] Int.reduceBEq Int.reduceBNe cFd aH Af Ag Ao Aq Ae Aj Ad Al Ac Ai Ap Ar in
theorem aHu (ha:bX fr to l=true) (hN:aAN sf st l=true):Fz F.z8 [.ro [.v (.int .i64 fr),.v (.int .i64 to),.sl 2 [[.v (.int .i64 sf),.v (.int .i64 st)]],.v (.bool false)],.sl 1 (E cC l)] (.tup [.ro [.sl 1 (E cSt (bV fr to l)),vO sf st l l.length,.sl 1 (E cI (bU fr to l l.length))],.v (.int .i64 0)]):=by
 have DK:=dC l hk.2 hk.1;rw[hd] at DK;have WD:=dY l;have hm:=aHw fr to sf st (bK l) (aEX l fr to sf st hk hd hf hn) hf hn;have KS:=kV l fr to hk.2 hk.1;have ho:=eG hd hf;have hv:=jL hd;have hc:bL fr to l=0:=by simp only[bL,hd,hf,ha];rfl
 rw[show oN fr to l=.sl 1 (E cSt (bV fr to l)) by simp[oN,hc],hc] at KS;have hp:∀c,c∈l->okP sf st c:=aHo hd hn;have M:∀x:Int,E cI [x]=[[.v (.int .i64 x)]]:=λ_=>rfl;have hr:∀j,(h:j<l.length)->j<l.length->(dX sf st l[j]).2=true:=λj h _=>Az.1 hN _ (Aa h);have GR:=aEz l fr to ho ha (by omega);have hx:=kL fr to l l.length;refine fn0 CdV.l13Read_k λX=>?_
 repeat' first|simp -dsimp only[go_sem,cC]|apply Br.mk<;>intro h<;>try simp -dsimp only[h]|refine aA.c (by first|exact DK|exact WD|exact hm|exact KS) ?_|refine aC ?_|refine aC9 ?_|fail
 refine aP.at dM (X:={j:Nat // j<=l.length}) (λj=>[(9,.v (.int .i64 (j.1:Nat)))]) (λj=>(.t 15 0,.var [.v (.slice none 0 0),kU sf st l j.1,.v (.slice none 0 0)] false)::kS sf st l j.1) (λj=>l.length-j.1) ⟨0,by omega⟩ ?_ ?_
 .simp[Vs.LeL,Vs.look,aB,aQ,aK,Vs.hset,aL,kU,kS]
 .rintro⟨j,hj⟩
  try dsimp only at hj
  by_cases hq:j<l.length
  .have H:j<l.length:=by omega
   have U:decide ((j:Int)<(l.length:Int))=true:=A9 (by omega);have gj:(E cC l).getD j []=[.sl 1 (E cI l[j])]:=aW H;have PC:=aF4 (hp _ (Aa H));have NI:=tL (hp _ (Aa H));have I:=aDu (sf:=sf) (st:=st) H;have he:(E cRw ((nE sf st l).take j)).length=j:=by rw[aH,BM,lH];omega
   have O:((nE sf st l).take j).length=j:=by rw[BM,lH];omega
   have hl:IntKind.i64.wrap ((j:Int)+1)=((j+1:Nat):Int):=by rw[aI (by omega) (by omega)];omega
   rw[hr j H hq] at NI;by_cases G:j=0
   .have V:kU sf st l j=.v (.slice none 0 0):=by simp[kU,G]
    have Y:kS sf st l j=[]:=by simp[kS,G]
    have hs:E cRw ((nE sf st l).take j)=[]:=by rw[G];rfl
    have hb:[[.sl 1 [[.v (.int .i64 (dX sf st l[j]).1)]]]]=E cRw ((nE sf st l).take (j+1)):=by rw[←I,hs];rfl
    rw[V,Y]
    repeat' first|simp -dsimp only[go_sem,U,M,cC]|apply Br.mk<;>intro h<;>try simp -dsimp only[h]|refine aC ?_|refine aC9 ?_|fail
    refine aP.at dM (X:={J:Nat×(Unit) // J.1<=1∧True}) (λJ=>[(10,.loc (.t 10 0) 0 J.1.1),(42,.junk),(11,.v (.int .i64 J.1.1))]) (λJ=>[(.t 10 0,.arr 1 (E cI ([(dX sf st l[j]).1].take J.1.1)) false)]) (λJ=>1-J.1.1) ⟨(0,()),by omega,trivial⟩ ?_ ?_
    .simp[Vs.LeL,Vs.look,aB,aQ,aK,Vs.hset,aL,Vs.E,cI]
    .rintro⟨⟨i,_⟩,hi,hg⟩;dsimp only at hi hg;simp -dsimp only[go_sem,cC];refine Br.mk (λhc=>?_) λhc=>?_
     .have H:i<1:=Dq;have hw:=aJ H (by omega);obtain rfl:i=0:=by omega
      repeat' first|simp -dsimp only[go_sem,gj,M,cC,hw]|apply Br.mk<;>intro h<;>try simp -dsimp only[h]|refine aA.c (by first|exact PC|exact NI) ?_|refine aC ?_|refine aC9 ?_|fail
      all_goals first|omega|(exact nx (1,()) trivial (h2:=by simp[Vs.LeL,Vs.look,aB,aQ,aK,Vs.hset,aL,Vs.E,cI]))
     .have Z:i=1:=by
       have:¬i<1:=Dq;omega
      subst Z;simp -dsimp only[go_sem,cC]
      repeat' first|simp -dsimp only[go_sem,hl,M,I,he,O,U,hb,cC]|apply Br.mk<;>intro h<;>try simp -dsimp only[h]|refine And.intro ?_ (λh=>absurd rfl h)|refine aC ?_|refine aC9 ?_|fail
      first|(exact⟨⟨j+1,by omega⟩,by simp[Vs.LeL,Vs.look,aB,aQ,aK,Vs.hset,aL,kU,kS,I,Vs.E,G],by simp only;omega⟩)
   .have V:kU sf st l j=.loc (.t 84 0) 0 j:=by simp[kU,G]
    have Y:kS sf st l j=[(.t 84 0,.arr 1 (E cRw ((nE sf st l).take j)) false)]:=by simp[kS,G]
    rw[V,Y]
    repeat' first|simp -dsimp only[go_sem,U,M,cC]|apply Br.mk<;>intro h<;>try simp -dsimp only[h]|refine aC ?_|refine aC9 ?_|fail
    refine aP.at dM (X:={J:Nat×(Unit) // J.1<=1∧True}) (λJ=>[(10,.loc (.t 10 0) 0 J.1.1),(42,.junk),(11,.v (.int .i64 J.1.1))]) (λJ=>[(.t 10 0,.arr 1 (E cI ([(dX sf st l[j]).1].take J.1.1)) false)]) (λJ=>1-J.1.1) ⟨(0,()),by omega,trivial⟩ ?_ ?_
    .simp[Vs.LeL,Vs.look,aB,aQ,aK,Vs.hset,aL,Vs.E,cI]
    .rintro⟨⟨i,_⟩,hi,hg⟩;dsimp only at hi hg;simp -dsimp only[go_sem,cC];refine Br.mk (λhc=>?_) λhc=>?_
     .have H:i<1:=Dq;have hw:=aJ H (by omega);obtain rfl:i=0:=by omega
      repeat' first|simp -dsimp only[go_sem,gj,M,cC,hw]|apply Br.mk<;>intro h<;>try simp -dsimp only[h]|refine aA.c (by first|exact PC|exact NI) ?_|refine aC ?_|refine aC9 ?_|fail
      all_goals first|omega|(exact nx (1,()) trivial (h2:=by simp[Vs.LeL,Vs.look,aB,aQ,aK,Vs.hset,aL,Vs.E,cI]))
     .have Z:i=1:=by
       have:¬i<1:=Dq;omega
      subst Z;simp -dsimp only[go_sem,cC]
      repeat' first|simp -dsimp only[go_sem,hl,M,I,he,O,U,cC]|apply Br.mk<;>intro h<;>try simp -dsimp only[h]|refine And.intro ?_ (λh=>absurd rfl h)|refine aC ?_|refine aC9 ?_|fail
      first|(exact⟨⟨j+1,by omega⟩,by simp[Vs.LeL,Vs.look,aB,aQ,aK,Vs.hset,aL,kU,kS,I,Vs.E],by simp only;omega⟩)
  .obtain rfl:j=l.length:=by omega
   have U:decide ((l.length:Int)<(l.length:Int))=false:=by simp
   by_cases G:l.length=0
   .have V:kU sf st l l.length=.v (.slice none 0 0):=by simp[kU,G]
    have Y:kS sf st l l.length=[]:=by simp[kS,G]
    rw[V,Y,show vO sf st l l.length=.v (.slice none 0 0) by simp[vO,G]]
    repeat' first|simp -dsimp only[go_sem,U,cC]|apply Br.mk<;>intro h<;>try simp -dsimp only[h]|refine aA.c (by first|exact GR) ?_|refine And.intro ?_ (λh=>absurd rfl h)|refine aC ?_|refine aC9 ?_|fail
    all_goals first|exact⟨⟨_,_,rfl,rfl⟩,λh=>h rfl⟩|exact⟨_,_,rfl,rfl⟩
   .have V:kU sf st l l.length=.loc (.t 84 0) 0 l.length:=by simp[kU,G]
    have Y:kS sf st l l.length=[(.t 84 0,.arr 1 (E cRw ((nE sf st l).take l.length)) false)]:=by simp[kS,G]
    rw[V,Y,show vO sf st l l.length=.sl 1 (E cRw ((nE sf st l).take l.length)) by simp[vO,G]];have hu:(E cRw ((nE sf st l).take l.length)).take l.length=E cRw ((nE sf st l).take l.length):=Ah (by rw[aH,BM,lH];omega);simp -dsimp only[go_sem,U,cC]
    repeat' first|simp -dsimp only[go_sem,U,hu,cC]|apply Br.mk<;>intro h<;>try simp -dsimp only[h]|refine aA.c (by first|exact GR) ?_|refine And.intro ?_ (λh=>absurd rfl h)|refine aC ?_|refine aC9 ?_|fail
    all_goals first|exact⟨⟨_,_,rfl,rfl⟩,λh=>h rfl⟩|exact⟨_,_,rfl,rfl⟩
end
end
section
variable [Vs.Envs]
attribute [local irreducible] Vs.Fn bU dX bL xW bV kM dJ bB dK dL l03 chB rk cd3 chI stp bD
theorem aEK {α:Type}{p:α->Bool}:∀{l:List α},l.all p=false->∃m,∃h:m<l.length,p l[m]=false∧∀j,(F:j<l.length)->j<m->p l[j]=true
 | [],h=>by simp at h
 | x::r,h=>by
  cases hx:p x
  .exact⟨0,by simp,by simpa using hx,λj _ F=>by omega⟩
  .rw[BJ,hx,CW] at h;obtain⟨m,I,G,h2⟩:=aEK h;refine⟨m+1,by simpa using I,by simpa using G,λj F H=>?_⟩;cases j with
   |zero=>simpa using hx
   |succ j=>simpa using h2 j (by simpa using F) (by omega)
section
variable (l:List (List Int)) (fr to sf st:Int) (hk:bO l) (hd:bC l=true) (hf:dW fr to (bK l)=true) (hn:l9 sf st (bK l)=true)
include hk hd hf hn
attribute [local go_sem] Int.reduceBEq Int.reduceBNe cFd aH Af Ag Ao Aq Ae Aj Ad Al Ac Ai Ap Ar in
set_option maxHeartbeats 2000000 in
theorem aGj (ha:bX fr to l=true) (hN:aAN sf st l=false):∃v,Fz F.z8 [.ro [.v (.int .i64 fr),.v (.int .i64 to),.sl 2 [[.v (.int .i64 sf),.v (.int .i64 st)]],.v (.bool false)],.sl 1 (E cC l)] (.tup [.ro v,.v (.int .i64 8)]):=by
 obtain⟨m,hm,hbad,hok0⟩:=aEK hN;refine⟨[.v (.slice none 0 0),vO sf st l m,.v (.slice none 0 0)],?_⟩;have DK:=dC l hk.2 hk.1;rw[hd] at DK;have WD:=dY l;have OKS:=aHw fr to sf st (bK l) (aEX l fr to sf st hk hd hf hn) hf hn;have KS:=kV l fr to hk.2 hk.1;have ho:=eG hd hf;have h40:=jL hd;have hc:bL fr to l=0:=by simp only[bL,hd,hf,ha];rfl
 rw[show oN fr to l=.sl 1 (E cSt (bV fr to l)) by simp[oN,hc],hc] at KS;have hp:∀c,c∈l->okP sf st c:=aHo hd hn;have e1c:∀x:Int,E cI [x]=[[.v (.int .i64 x)]]:=λ_=>rfl;have hok:∀j,(h:j<l.length)->j<m->(dX sf st l[j]).2=true:=hok0;refine fn0 CdV.l13Read_k λX=>?_
 repeat' first|simp -dsimp only[go_sem,cC]|apply Br.mk<;>intro h<;>try simp -dsimp only[h]|refine aA.c (by first|exact DK|exact WD|exact OKS|exact KS) ?_|refine aC ?_|refine aC9 ?_|fail
 refine aP.at dM (X:={j:Nat // j<=m}) (λj=>[(9,.v (.int .i64 (j.1:Nat)))]) (λj=>(.t 15 0,.var [.v (.slice none 0 0),kU sf st l j.1,.v (.slice none 0 0)] false)::kS sf st l j.1) (λj=>m-j.1) ⟨0,by omega⟩ ?_ ?_
 .simp[Vs.LeL,Vs.look,aB,aQ,aK,Vs.hset,aL,kU,kS]
 .rintro⟨j,hj⟩
  try dsimp only at hj
  by_cases hjm:j<m
  .have hlt:j<l.length:=by omega
   have ht:decide ((j:Int)<(l.length:Int))=true:=A9 (by omega);have gj:(E cC l).getD j []=[.sl 1 (E cI l[j])]:=aW hlt;have PC:=aF4 (hp _ (Aa hlt));have NI:=tL (hp _ (Aa hlt));have hrow:=aDu (sf:=sf) (st:=st) hlt;have hrl:(E cRw ((nE sf st l).take j)).length=j:=by rw[aH,BM,lH];omega
   have hrl2:((nE sf st l).take j).length=j:=by rw[BM,lH];omega
   have hwj:IntKind.i64.wrap ((j:Int)+1)=((j+1:Nat):Int):=by rw[aI (by omega) (by omega)];omega
   rw[hok j hlt hjm] at NI;by_cases hj0:j=0
   .have hA:kU sf st l j=.v (.slice none 0 0):=by simp[kU,hj0]
    have hH:kS sf st l j=[]:=by simp[kS,hj0]
    have hr0:E cRw ((nE sf st l).take j)=[]:=by rw[hj0];rfl
    have hrow0:[[.sl 1 [[.v (.int .i64 (dX sf st l[j]).1)]]]]=E cRw ((nE sf st l).take (j+1)):=by rw[←hrow,hr0];rfl
    rw[hA,hH]
    repeat' first|simp -dsimp only[go_sem,ht,e1c,cC]|apply Br.mk<;>intro h<;>try simp -dsimp only[h]|refine aC ?_|refine aC9 ?_|fail
    refine aP.at dM (X:={zz:Nat×(Unit) // zz.1<=1∧True}) (λzz=>[(10,.loc (.t 10 0) 0 zz.1.1),(42,.junk),(11,.v (.int .i64 zz.1.1))]) (λzz=>[(.t 10 0,.arr 1 (E cI ([(dX sf st l[j]).1].take zz.1.1)) false)]) (λzz=>1-zz.1.1) ⟨(0,()),by omega,trivial⟩ ?_ ?_
    .simp[Vs.LeL,Vs.look,aB,aQ,aK,Vs.hset,aL,Vs.E,cI]
    .rintro⟨⟨i,_⟩,hi,hg⟩;dsimp only at hi hg;simp -dsimp only[go_sem,cC];refine Br.mk (λhc=>?_) λhc=>?_
     .have hlt:i<1:=Dq;have hw:=aJ hlt (by omega);obtain rfl:i=0:=by omega
      repeat' first|simp -dsimp only[go_sem,gj,e1c,cC,hw]|apply Br.mk<;>intro h<;>try simp -dsimp only[h]|refine aA.c (by first|exact PC|exact NI) ?_|refine aC ?_|refine aC9 ?_|fail
      all_goals first|omega|(exact nx (1,()) trivial (h2:=by simp[Vs.LeL,Vs.look,aB,aQ,aK,Vs.hset,aL,Vs.E,cI]))
     .have hge:i=1:=by
       have:¬i<1:=Dq;omega
      subst hge;simp -dsimp only[go_sem,cC]
      repeat' first|simp -dsimp only[go_sem,hwj,e1c,hrow,hrl,hrl2,ht,hrow0,cC]|apply Br.mk<;>intro h<;>try simp -dsimp only[h]|refine And.intro ?_ (λh=>absurd rfl h)|refine aC ?_|refine aC9 ?_|fail
      first|(exact⟨⟨j+1,by omega⟩,by simp[Vs.LeL,Vs.look,aB,aQ,aK,Vs.hset,aL,kU,kS,hrow,Vs.E,hj0],by simp only;omega⟩)
   .have hA:kU sf st l j=.loc (.t 84 0) 0 j:=by simp[kU,hj0]
    have hH:kS sf st l j=[(.t 84 0,.arr 1 (E cRw ((nE sf st l).take j)) false)]:=by simp[kS,hj0]
    rw[hA,hH]
    repeat' first|simp -dsimp only[go_sem,ht,e1c,cC]|apply Br.mk<;>intro h<;>try simp -dsimp only[h]|refine aC ?_|refine aC9 ?_|fail
    refine aP.at dM (X:={zz:Nat×(Unit) // zz.1<=1∧True}) (λzz=>[(10,.loc (.t 10 0) 0 zz.1.1),(42,.junk),(11,.v (.int .i64 zz.1.1))]) (λzz=>[(.t 10 0,.arr 1 (E cI ([(dX sf st l[j]).1].take zz.1.1)) false)]) (λzz=>1-zz.1.1) ⟨(0,()),by omega,trivial⟩ ?_ ?_
    .simp[Vs.LeL,Vs.look,aB,aQ,aK,Vs.hset,aL,Vs.E,cI]
    .rintro⟨⟨i,_⟩,hi,hg⟩;dsimp only at hi hg;simp -dsimp only[go_sem,cC];refine Br.mk (λhc=>?_) λhc=>?_
     .have hlt:i<1:=Dq;have hw:=aJ hlt (by omega);obtain rfl:i=0:=by omega
      repeat' first|simp -dsimp only[go_sem,gj,e1c,cC,hw]|apply Br.mk<;>intro h<;>try simp -dsimp only[h]|refine aA.c (by first|exact PC|exact NI) ?_|refine aC ?_|refine aC9 ?_|fail
      all_goals first|omega|(exact nx (1,()) trivial (h2:=by simp[Vs.LeL,Vs.look,aB,aQ,aK,Vs.hset,aL,Vs.E,cI]))
     .have hge:i=1:=by
       have:¬i<1:=Dq;omega
      subst hge;simp -dsimp only[go_sem,cC]
      repeat' first|simp -dsimp only[go_sem,hwj,e1c,hrow,hrl,hrl2,ht,cC]|apply Br.mk<;>intro h<;>try simp -dsimp only[h]|refine And.intro ?_ (λh=>absurd rfl h)|refine aC ?_|refine aC9 ?_|fail
      first|(exact⟨⟨j+1,by omega⟩,by simp[Vs.LeL,Vs.look,aB,aQ,aK,Vs.hset,aL,kU,kS,hrow,Vs.E],by simp only;omega⟩)
  .obtain rfl:j=m:=by omega
   have hlt:j<l.length:=hm;have ht:decide ((j:Int)<(l.length:Int))=true:=A9 (by omega);have gj:(E cC l).getD j []=[.sl 1 (E cI l[j])]:=aW hlt;have PC:=aF4 (hp _ (Aa hlt));have NI:=tL (hp _ (Aa hlt));have hrow:=aDu (sf:=sf) (st:=st) hlt;have hrl:(E cRw ((nE sf st l).take j)).length=j:=by rw[aH,BM,lH];omega
   have hrl2:((nE sf st l).take j).length=j:=by rw[BM,lH];omega
   have hwj:IntKind.i64.wrap ((j:Int)+1)=((j+1:Nat):Int):=by rw[aI (by omega) (by omega)];omega
   rw[hbad] at NI;by_cases hj0:j=0
   .have hA:kU sf st l j=.v (.slice none 0 0):=by simp[kU,hj0]
    have hH:kS sf st l j=[]:=by simp[kS,hj0]
    rw[hA,hH,show vO sf st l j=.v (.slice none 0 0) by simp[vO,hj0]]
    repeat' first|simp -dsimp only[go_sem,ht,e1c,cC]|apply Br.mk<;>intro h<;>try simp -dsimp only[h]|refine aC ?_|refine aC9 ?_|fail
    refine aP.at dM (X:={zz:Nat×(Unit) // zz.1<=1∧zz.1=0}) (λzz=>[(10,.loc (.t 10 0) 0 zz.1.1),(42,.junk),(11,.v (.int .i64 zz.1.1))]) (λzz=>[(.t 10 0,.arr 1 (E cI ([(dX sf st l[j]).1].take zz.1.1)) false)]) (λzz=>1-zz.1.1) ⟨(0,()),by omega,rfl⟩ ?_ ?_
    .simp[Vs.LeL,Vs.look,aB,aQ,aK,Vs.hset,aL,Vs.E,cI]
    .rintro⟨⟨i,_⟩,hi,hg⟩;dsimp only at hi hg;simp -dsimp only[go_sem,cC];refine Br.mk (λhc=>?_) λhc=>?_
     .have hlt:i<1:=Dq;have hw:=aJ hlt (by omega);obtain rfl:i=0:=by omega
      repeat' first|simp -dsimp only[go_sem,gj,e1c,ht,cC,hw]|apply Br.mk<;>intro h<;>try simp -dsimp only[h]|refine aA.c (by first|exact PC|exact NI) ?_|refine aC ?_|refine aC9 ?_|fail
      all_goals first|omega|(exact⟨_,_,rfl,rfl⟩)|(rw[hbad];exact⟨_,_,rfl,rfl⟩)
     .have hge:i=1:=by
       have:¬i<1:=Dq;omega
      subst hge;simp -dsimp only[go_sem,cC];omega
   .have hA:kU sf st l j=.loc (.t 84 0) 0 j:=by simp[kU,hj0]
    have hH:kS sf st l j=[(.t 84 0,.arr 1 (E cRw ((nE sf st l).take j)) false)]:=by simp[kS,hj0]
    rw[hA,hH,show vO sf st l j=.sl 1 (E cRw ((nE sf st l).take j)) by simp[vO,hj0]];have htk:(E cRw ((nE sf st l).take j)).take j=E cRw ((nE sf st l).take j):=Ah (by omega)
    repeat' first|simp -dsimp only[go_sem,ht,e1c,cC]|apply Br.mk<;>intro h<;>try simp -dsimp only[h]|refine aC ?_|refine aC9 ?_|fail
    refine aP.at dM (X:={zz:Nat×(Unit) // zz.1<=1∧zz.1=0}) (λzz=>[(10,.loc (.t 10 0) 0 zz.1.1),(42,.junk),(11,.v (.int .i64 zz.1.1))]) (λzz=>[(.t 10 0,.arr 1 (E cI ([(dX sf st l[j]).1].take zz.1.1)) false)]) (λzz=>1-zz.1.1) ⟨(0,()),by omega,rfl⟩ ?_ ?_
    .simp[Vs.LeL,Vs.look,aB,aQ,aK,Vs.hset,aL,Vs.E,cI]
    .rintro⟨⟨i,_⟩,hi,hg⟩;dsimp only at hi hg;simp -dsimp only[go_sem,cC];refine Br.mk (λhc=>?_) λhc=>?_
     .have hlt:i<1:=Dq;have hw:=aJ hlt (by omega);obtain rfl:i=0:=by omega
      repeat' first|simp -dsimp only[go_sem,gj,e1c,ht,htk,cC,hw]|apply Br.mk<;>intro h<;>try simp -dsimp only[h]|refine aA.c (by first|exact PC|exact NI) ?_|refine aC ?_|refine aC9 ?_|fail
      all_goals first|omega|(exact⟨_,_,rfl,rfl⟩)|(rw[hbad];exact⟨_,_,rfl,rfl⟩)
     .have hge:i=1:=by
       have:¬i<1:=Dq;omega
      subst hge;simp -dsimp only[go_sem,cC];omega
attribute [local go_sem] Int.reduceBEq Int.reduceBNe aH Af Ag Ao Aq Ae Aj Ad Al Ac Ai Ap Ar in
theorem aCR:Fz F.vE [.sl 1 (E cC l),.agg (cFd fr to),.agg (cFd sf st)] (.tup [xV fr to sf st l,.v (.int .i64 (if o7 fr to sf st l then 0 else 8))]):=by
 cases ha:bX fr to l
 .have RD:=aHv l fr to sf st hk hd hf hn ha;have hb:o7 fr to sf st l=false:=by simp[o7,ha]
  rw[show xV fr to sf st l=.v (.slice none 0 0) by simp[xV,hb],hb];refine fn0 Cd.s_l15Sums_k λX=>?_
  repeat' first|simp -dsimp only[go_sem,cC,cFd,cTt]|apply Br.mk<;>intro h<;>try simp -dsimp only[h]|refine aA.c (by first|exact RD) ?_|refine aC ?_|refine aC9 ?_|fail
  all_goals first|exact⟨_,_,rfl,rfl⟩
 cases hN:aAN sf st l
 .obtain⟨v,RD⟩:=aGj l fr to sf st hk hd hf hn ha hN;have hb:o7 fr to sf st l=false:=by simp[o7,hN]
  rw[show xV fr to sf st l=.v (.slice none 0 0) by simp[xV,hb],hb];refine fn0 Cd.s_l15Sums_k λX=>?_
  repeat' first|simp -dsimp only[go_sem,cC,cFd,cTt]|apply Br.mk<;>intro h<;>try simp -dsimp only[h]|refine aA.c (by first|exact RD) ?_|refine aC ?_|refine aC9 ?_|fail
  all_goals first|exact⟨_,_,rfl,rfl⟩
 have RD:=aHu l fr to sf st hk hd hf hn ha hN;have hb:o7 fr to sf st l=true:=by simp[o7,hN,ha]
 rw[show xV fr to sf st l=.sl 2 (E cTt (qI fr to sf st l)) by simp[xV,hb],hb];have h40:=jL hd;have hin:=wJ (fr:=fr) (to:=to) (l:=l) l.length;have hup:=aBo (fr:=fr) (to:=to) (l:=l) l.length;have hgl:=kL fr to l l.length
 have htl:qI fr to sf st l=(List.range (bU fr to l l.length).length).map (λi=>(txt (fH fr to ((gF l (bU fr to l l.length) i).getD 0 [])),kM sf st (gF l (bU fr to l l.length) i))):=by
  unfold qI aDL;rw[Cb];rfl
 rw[htl];have hkl:(bV fr to l).length=l.length:=by unfold bV;simp
 have hkg:∀i,i<l.length->(E cSt (bV fr to l)).getD i []=[.v (.string (txt (fH fr to (l.getD i []))))]:=λi hi=>by
  rw[aW (by omega)];simp[cSt,bV,List.getD,hi]
 generalize bU fr to l l.length=o at *
 refine fn0 Cd.s_l15Sums_k λX=>?_
 repeat' first|simp -dsimp only[go_sem,cC,cFd,cTt]|apply Br.mk<;>intro h<;>try simp -dsimp only[h]|refine aA.c (by first|exact RD) ?_|refine aC ?_|refine aC9 ?_|fail
 refine aP.at dM (X:={zz:Nat×(Unit) // zz.1<=o.length∧True}) (λzz=>[(10,.loc (.t 10 0) 0 zz.1.1),(11,.v (.int .i64 zz.1.1))]) (λzz=>[(.t 10 0,.arr 2 (E cTt ((List.range zz.1.1).map λi=>(txt (fH fr to ((gF l o i).getD 0 [])),kM sf st (gF l o i)))) false)]) (λzz=>o.length-zz.1.1) ⟨(0,()),by omega,trivial⟩ ?_ ?_
 .simp[Vs.LeL,Vs.look,aB,aQ,aK,Vs.hset,aL,Vs.E]
 .rintro⟨⟨i,_⟩,hi,hg⟩;dsimp only at hi hg;simp -dsimp only[go_sem,cC,cFd,cTt];refine Br.mk (λhc=>?_) λhc=>?_
  .have hlt:i<o.length:=Dq;have hw:=aJ hlt (by omega)
   obtain ⟨a,e,hae,hel,ga,hga,hge2,hend⟩:∃a e:Nat,a<e∧e<=l.length∧o[i]=(a:Int)∧(o.getD i 0).toNat=a∧(if i+1<o.length then(o.getD (i+1) 0).toNat else l.length)=e∧(if i+1<o.length then o.getD (i+1) 0 else((bV fr to l).length:Int))=(e:Int):=by
    have h0:=hin _ (Aa hlt);have e0:o.getD i 0=o[i]:=by simp[List.getD,hlt]
    by_cases h1:i+1<o.length
    .have h2:=hin _ (Aa h1);have h3:o[i]<o[i+1]:=Dg.1 hup i (i+1) hlt h1 (by omega);have e1:o.getD (i+1) 0=o[i+1]:=by simp[List.getD,h1]
     refine⟨o[i].toNat,o[i+1].toNat,by omega,by omega,by omega,by rw[e0],by rw[AP h1,e1],by rw[AP h1,e1];omega⟩
    .refine⟨o[i].toNat,l.length,by omega,by omega,by omega,by rw[e0],by rw[AC h1],by rw[AC h1,hkl]⟩
   have hgat:gF l o i=(l.take e).drop a:=by unfold gF;rw[hge2,hga]
   have hg0:((l.take e).drop a).getD 0 []=l.getD a []:=by
    simp only[List.getD];rw[Dp,List.getElem?_take,AP (by omega),Cu]
   have gi:(E cI o).getD i []=[.v (.int .i64 (a:Int))]:=by rw[dI hlt,ga]
   have gk:=hkg a (by omega);have EN:=r_end (vO sf st l l.length) o (bV fr to l) i hlt (by omega);rw[hend] at EN
   have hnv:vO sf st l l.length=.sl 1 (E cRw (nE sf st l)):=by
    unfold vO;rw[AC (by omega),Ah (by rw[lH];omega)]
   have SM:=aOf (.sl 1 (E cSt (bV fr to l))) (.sl 1 (E cI o)) (nE sf st l) a e (by omega) (by rw[lH];exact hel) (by rw[lH];omega)
   have hsm:xW (((nE sf st l).take e).drop a)=kM sf st ((l.take e).drop a):=by
    rw[←aKp];congr 1;simp[nE,CG,CJ]
   rw[hsm] at SM;rw[hnv] at EN⊢;have e1s:(E cI [kM sf st ((l.take e).drop a)]).getD 0 []=[.v (.int .i64 (kM sf st ((l.take e).drop a)))]:=rfl;have e1l:(E cI [kM sf st ((l.take e).drop a)]).length=1:=rfl
   have hap:E cTt ((List.range i).map λi=>(txt (fH fr to ((gF l o i).getD 0 [])),kM sf st (gF l o i)))++[[.v (.string (txt (fH fr to (l.getD a [])))),.v (.int .i64 (kM sf st ((l.take e).drop a)))]]=E cTt ((List.range (i+1)).map λi=>(txt (fH fr to ((gF l o i).getD 0 [])),kM sf st (gF l o i))):=by
    rw[Dj,Bu,aV];simp only[Bt,BI,hgat,hg0];rfl
   have hal:(E cTt ((List.range i).map λi=>(txt (fH fr to ((gF l o i).getD 0 [])),kM sf st (gF l o i)))).length=i:=by rw[aH];simp
   have hta:((a:Nat):Int).toNat=a:=by omega
   generalize kM sf st ((l.take e).drop a)=sw at *
   generalize txt (fH fr to (l.getD a []))=nm at *
   repeat' first|simp -dsimp only[go_sem,gi,gk,hw,hap,hal,hta,e1s,e1l,hkl,cC,cFd]|apply Br.mk<;>intro h<;>try simp -dsimp only[h]|refine aA.c (by first|exact EN|exact SM) ?_|refine aC ?_|refine aC9 ?_|fail
   all_goals first|omega|(exact nx (i+1,()) trivial (h2:=by simp[Vs.LeL,Vs.look,aB,aQ,aK,Vs.hset,aL,hap,hnv,Dj,Vs.rnL,Vs.rn,Vs.nmF,Vs.scr,Vs.AV.has]))
  .have hge:i=o.length:=by
    have:¬i<o.length:=Dq;omega
   subst hge;simp -dsimp only[go_sem,cC,cFd,cTt];have htk:(E cTt ((List.range o.length).map λi=>(txt (fH fr to ((gF l o i).getD 0 [])),kM sf st (gF l o i)))).take o.length=E cTt ((List.range o.length).map λi=>(txt (fH fr to ((gF l o i).getD 0 [])),kM sf st (gF l o i))):=Ah (by rw[aH];simp)
   first|(rw[htk];exact⟨⟨_,_,rfl,rfl⟩,λh=>h rfl⟩)
end
end
section
variable [Vs.Envs]
attribute [local irreducible] Vs.Fn pun cmT zR kQ oC bL dJ bB dK dL l03 chB rk cd3 chI stp bD
theorem aKE {fr to:Int}{s:ByteArray}{l:List (List Int)} (h:oC fr to s l=0):bC l=true∧dW fr to (bK l)=true∧s.size=to.toNat-fr.toNat∧bB s=true∧bX fr to l=true:=by
 obtain⟨hd,hf,I,G,F⟩:=aIb h;have H:=hf;simp only[dW,Aw,Bb] at H;have J:((s.size:Int))=W (to-fr):=by simpa using I
 have U:bK l<=1048576:=by
  have M:=jL hd;unfold bK;split
  .omega
  .rename_i V;have O:l.getD 0 []∈l:=by rw[show l.getD 0 []=l[0]'(by omega) by simp[List.getD,(by omega:0<l.length)]];exact Aa _
   have:=(eG hd hf _ O).2.2.2;omega
 rw[show W (to-fr)=to-fr from aI (by omega) (by omega)] at J;exact⟨hd,hf,by omega,G,F⟩
attribute [local go_sem] Int.reduceBEq Int.reduceBNe cP Af Ag Ao Aq Ae Aj Ad Al Ac Ai Ap in
theorem aBE (l:List (List Int)) (fr to:Int) (s:ByteArray) (hk:bO l) (hz:s.size<=1048576):Fz F.mH [.sl 1 (E cC l),.agg (cFd fr to),.v (.string s)] (.tup [rR fr to s l,.v (.int .i64 (oC fr to s l))]):=by
 have AK:=aOw l fr to s hk hz;by_cases h0:oC fr to s l=0
 .obtain⟨hd,hf,hsz,hch,hall⟩:=aKE h0;have ho:=eG hd hf;have h40:=jL hd;rw[show rR fr to s l=.sl 1 (E cC (flt (kQ fr to s) l)) by simp[rR,h0],h0];rw[show aKa fr to s l=.sl 1 (E cSt (bV fr to l)) by simp[aKa,h0],h0] at AK;have hkl:=vS fr to l;refine fn0 Cd.s_SelectEqual_k λX=>?_
  repeat' first|simp -dsimp only[go_sem,cC,cFd,hkl,aH]|apply Br.mk<;>intro h<;>try simp -dsimp only[h]|refine aA.c (by first|exact AK) ?_|refine aC ?_|refine aC9 ?_|fail
  refine aP.at dM (X:={zz:Nat×(Unit) // zz.1<=l.length∧True}) (λzz=>[(10,.loc (.t 10 0) 0 (flt (kQ fr to s) (l.take zz.1.1)).length),(11,.v (.int .i64 zz.1.1))]) (λzz=>[(.t 10 0,.arr 1 (E cC (flt (kQ fr to s) (l.take zz.1.1))) false)]) (λzz=>l.length-zz.1.1) ⟨(0,()),by omega,trivial⟩ ?_ ?_
  .simp[Vs.LeL,Vs.look,aB,aQ,aK,Vs.hset,aL,Vs.E,flt]
  .rintro⟨⟨i,_⟩,hi,hg⟩;dsimp only at hi hg;simp -dsimp only[go_sem,cC,cFd,hkl,aH];refine Br.mk (λhc=>?_) λhc=>?_
   .have hlt:i<l.length:=Dq;have hw:=aJ hlt (by omega);have hc:=ho _ (Aa hlt);have hko:=aNb hc (Az.1 hall _ (Aa hlt)) hsz hch;have hm:(E cSt (bV fr to l)).getD i []=[.v (.string (txt (fH fr to l[i])))]:=by rw[aW (by omega)];simp[bV,cSt]
    have hm2:(E cC l).getD i []=[.sl 1 (E cI l[i])]:=aW hlt;have hfs:=zK (q:=kQ fr to s) hlt;have hfl:=aAq (kQ fr to s) (l.take i);have ht:(l.take i).length=i:=by simp;omega
    have NC:=yT l[i] (hk.2 _ (Aa hlt));have hE:(E cC (flt (kQ fr to s) (l.take i))).length=(flt (kQ fr to s) (l.take i)).length:=aH ..
    cases hq:kQ fr to s l[i]
    .rw[hq] at hfs hko;have hap:E cC (flt (kQ fr to s) (l.take i))++[[.sl 1 (E cI l[i])]]=E cC (flt (kQ fr to s) (l.take (i+1))):=by rw[hfs,aV];rfl
     have hln:(flt (kQ fr to s) (l.take (i+1))).length=(flt (kQ fr to s) (l.take i)).length+1:=by rw[hfs];simp
     simp -dsimp only[go_sem,hm,hm2,hw,hko,cC,cFd]
     repeat' first|simp -dsimp only[go_sem,hm,hm2,hw,hko,hap,hE,cC,cFd]|apply Br.mk<;>intro h<;>try simp -dsimp only[h]|refine aA.c (by first|exact NC) ?_|refine aC ?_|refine aC9 ?_|fail
     all_goals first|omega|(exact nx (i+1,()) trivial (h2:=by simp[Vs.LeL,Vs.look,aB,aQ,aK,Vs.hset,aL,hln,Vs.rnL,Vs.rn,Vs.nmF,Vs.scr,Vs.AV.has]))
    .rw[hq] at hfs hko;have hsame:flt (kQ fr to s) (l.take (i+1))=flt (kQ fr to s) (l.take i):=by rw[hfs];simp
     repeat' first|simp -dsimp only[go_sem,hm,hm2,hw,hko,cC,cFd]|apply Br.mk<;>intro h<;>try simp -dsimp only[h]|refine aC ?_|refine aC9 ?_|fail
     all_goals first|omega|(exact nx (i+1,()) trivial (h2:=by simp[Vs.LeL,Vs.look,aB,aQ,aK,Vs.hset,aL,hsame,Vs.rnL,Vs.rn,Vs.nmF,Vs.scr,Vs.AV.has]))
   .have hge:i=l.length:=by
     have:¬i<l.length:=Dq;omega
    subst hge;simp -dsimp only[go_sem,cC,cFd,hkl,aH]
    have htk:(E cC (flt (kQ fr to s) (l.take l.length))).take (flt (kQ fr to s) (l.take l.length)).length=E cC (flt (kQ fr to s) l):=by
     rw[Bw];exact Ah (by rw[aH];exact Au _)
    first|(rw[htk];exact⟨⟨_,_,rfl,rfl⟩,λh=>h rfl⟩)|(rw[Bw];exact⟨⟨_,_,rfl,rfl⟩,λh=>h rfl⟩)
 .have e0:(oC fr to s l != 0)=true:=by simp[h0]
  rw[show rR fr to s l=.v (.slice none 0 0) by simp[rR,h0]];rw[show aKa fr to s l=.v (.slice none 0 0) by simp[aKa,h0]] at AK;generalize oC fr to s l=c at *
  refine fn0 Cd.s_SelectEqual_k λX=>?_
  repeat' first|simp -dsimp only[go_sem,cC,cFd,e0]|apply Br.mk<;>intro h<;>try simp -dsimp only[h]|refine aA.c (by first|exact AK) ?_|refine aC ?_|refine aC9 ?_|fail
  all_goals first|exact⟨_,_,rfl,rfl⟩
end
end Go.Proofs.YtklmdppgonhflaaGreatDoor
