/- EvalSpec: the reference's way. -/
import Derived.Test.YtmiiohemehacjaaGreatDoorXwVb
import Derived.Test.YtmiiohemehacjaaGreatDoorXwVf
import Derived.Test.YtmiiohemehacjaaGreatDoorXwSh
import Derived.Test.YtmiiohemehacjaaGreatDoorXwD
import Derived.Test.YtmiiohemehacjaaGreatDoorXwSm
import Derived.Test.YtmiiohemehacjaaGreatDoorVtO
set_option linter.all false
set_option maxHeartbeats 8000000
namespace Go.Proofs.YtmiiohemehacjaaGreatDoor
open Go.Vs
section
variable [Vs.Envs]
attribute [local irreducible] Vs.Fn bS dQ bD chOK areCh chTo chAt l03 chB rk cd3 chI stp stpTo
attribute [local go_sem] Int.reduceBEq Int.reduceBNe cC cFd aH Ai Ah Al Aq Ad Af Ac Ae Aa Ab Ao Ak
open Go.Vs.Q in
def CdV.l13Read:aF:=s [o 4 (.mv (.const (.pointer none))),mi 5 0] [0,1]<|s [o 14 (.build [.v (.slice none 0 0),.v (.slice none 0 0),.v (.slice none 0 0)] []),bx 15 14,m 6 15] [0,1,6]<|.seq (s [m 16 1,c 17 F.iO [16],nt 18 17] [0,1,6,18]<|.cond 18 (s [m 19 6,m 4 19,mi 5 1] [4,5]<|.ret) .skip)<|.seq (s [m 20 0,m
 21 1,c 22 F.iZ [21],c 23 F.aAJ [20,22],nt 24 23] [0,1,6,24]<|.cond 24 (s [m 25 6,m 4 25,mi 5 2] [4,5]<|.ret) .skip)<|s [m 27 1,m 28 0,nc 29 28,fa 30 0 29,lt 31 2 30,c 32 F.jN [27,31],m 26 32,ex 33 26 0,ex 34 26 1,m 7 33,m 8 34] [0,1,6,7,8]<|.seq (s [m 35 8,ne 36 35 0]
 [0,1,6,7,8,36]<|.cond 36 (s [m 37 6,m 38 8,m 4 37,m 5 38] [4,5]<|.ret) .skip)<|.seq (s [mi 9 0] [0,1,6,7,9]<|.block 0 (.loop (.seq (s [m 39 9,m 40 1,ln 41 40,ls 42 39 41] [0,1,6,7,9,42]<|.cond 42 .skip (.exit 0))<|.seq (.block 1 (.seq (.naming 10 (.region [o 45 (.bslice 1 0 [.v (.int .i64 (0))] []),m
 10 45] [0,1,6,7,9,10] []))<|.seq (s [mi 11 0] [0,1,6,7,9,10,11]<|.closing 10 (.block 2 (.loop (.seq (s [m 46 11,m 47 0,nc 48 47,fa 49 2 48,lf 50 1 49,ln 51 50,ls 52 46 51] [0,1,6,7,9,10,11,52]<|.cond 52 .skip (.exit 2))<|.seq (.block 3 (r [m 56 1,m 57 9,ix 58 1 56 57,m 59 0,nc 60 59,fa 61 2 60,lf 62
 1 61,m 63 11,ix 64 2 62 63,lt 65 2 64,c 66 F.mM [58,65],c 67 F.kE [66],m 55 67,ex 68 55 0,ex 69 55 1,m 12 68,m 13 69] [0,1,6,7,9,10,11,12,13] [56,57,59,58,60,61,62,63,64,65,66,67,55,68,69,12]<|.seq (s [m 70 13,nt 71 70] [0,1,6,7,9,10,11,12,71]<|.cond 71 (s [m 72 6,m 4 72,mi 5 8]
 [4,5]<|.ret) .skip)<|.naming 10 (.region [m 73 10,m 74 12,o 75 (.bslice 1 1 [.v (.int .i64 (0))] [(0,74)]),o 76 (.append 1 8 73 75),m 10 76] [0,1,6,7,9,10,11] [])))<|.region [m 53 11,ad 54 53 1,m 11 54] [0,1,6,7,9,10,11] []))))<|.region [m 77 6,m 78 6,nc 79 78,fa 80 1 79,lf 81 1 80,m 82 10,o 83
 (.bslice 1 1 [.v (.slice none 0 0)] [(0,82)]),o 84 (.append 1 24 81 83),nc 85 77,fa 86 1 85,⟨none,.store 1 86 84,none⟩] [0,1,6,7,9] []))<|.region [m 43 9,ad 44 43 1,m 9 44] [0,1,6,7,9] [])))<|s [m 87 6,m 88 7,nc 89 87,fa 90 0 89,⟨none,.store 1 90 88,none⟩] [6,7]<|s [m 91 6,m 92 7,c 93
 F.mJ [92],nc 94 91,fa 95 2 94,⟨none,.store 1 95 93,none⟩] [6]<|s [m 96 6,m 4 96,mi 5 0] [4,5]<|.ret
theorem CdV.l13Read_k:CK 161 Tryz.f161 CdV.l13Read 97 [.tmp 4,.tmp 5]:=ck Tryz.func161
attribute [go_sem] CdV.l13Read
def wY (ns:List Int):Int:=ns.foldl (λa n=>IntKind.i64.wrap (a+n)) 0
theorem aIg {u:List Int}{i:Nat} (h:i<u.length):wY (u.take (i+1))=IntKind.i64.wrap (wY (u.take i)+u[i]):=by
 unfold wY;rw[bU h,List.foldl_append];rfl
theorem aJe (sf st:Int) (l:List (List Int)):wY (l.map λc=>(dQ sf st c).1)=jX sf st l:=by
 unfold wY jX;rw[List.foldl_map]
theorem aK6 {u:List Int}{i:Nat}{x:Int} (h:u[i]? = some x):wY (u.take (i+1))=IntKind.i64.wrap (wY (u.take i)+x):=by
 obtain⟨hi,rfl⟩:=CL.1 h;exact aIg hi
def cRw (n:Int):List AV:=[.sl 1 [[.v (.int .i64 n)]]]
theorem aLZ {u:List Int}{i:Nat} (h:i<u.length):(E cRw u).getD i []=[.sl 1 [[.v (.int .i64 (u.getD i 0))]]]:=by rw[aR h];simp[cRw,List.getD,h]
attribute [local irreducible] wY
theorem aGJ (g0 g1 s0 s1 w:Int) (hw:inB w 1 20=true) (hf:eF g0 g1 w=true) (hn:kX s0 s1 w=true):Fz F.aAJ [.ro [.v (.int .i64 g0),.v (.int .i64 g1),.sl 2 [[.v (.int .i64 s0),.v (.int .i64 s1)]],.v (.bool false)],.v (.int .i64 w)] (.v (.bool true)):=by
 have hn2:=hn;unfold kX at hn2;rw[Au] at hn2;obtain⟨hn0,hn1⟩:=hn2;have IN:=aAe w 1 20;rw[hw] at IN;have FG:=dX g0 g1 w;rw[hf] at FG;have FS:=dX s0 s1 w;rw[hn0] at FS
 have e12:decide (IntKind.i64.wrap (s1-s0)>12)=false:=by
  have:=Cu hn1;exact AX (by unfold W at this;omega)
 refine fn0 Cd.s_l13Ok_k λX=>?_
 repeat' first|simp -dsimp only[go_sem,e12]|apply Br.mk<;>intro h<;>try simp -dsimp only[h]|refine aA.c (by first|exact IN|exact FG) ?_|refine aC ?_|fail
 refine aO.at dM (X:={zz:Nat×(Unit) // zz.1<=1∧True}) (λzz=>[(5,.v (.int .i64 zz.1.1))]) (λzz=>[]) (λzz=>1-zz.1.1) ⟨(0,()),by omega,trivial⟩ ?_ ?_
 .exact le0
 .rintro⟨⟨i,_⟩,hi,hg⟩;dsimp only at hi hg;simp -dsimp only[go_sem];refine Br.mk (λhc=>?_) λhc=>?_
  .have hlt:i<1:=Dq;have hw:=aI hlt (by omega);obtain rfl:i=0:=by omega
   repeat' first|simp -dsimp only[go_sem,hw,e12]|apply Br.mk<;>intro h<;>try simp -dsimp only[h]|refine aA.c (by first|exact FS) ?_|refine aC ?_|fail
   all_goals first|omega|(exact nx (1,()) trivial)
  .have hge:i=1:=by
    have:¬i<1:=Dq;omega
   subst hge;simp -dsimp only[go_sem]
   first|exact⟨⟨_,_,rfl,rfl⟩,λh=>h rfl⟩|(simp;done)
theorem r_end (L:AV) (u:List Int) (I:List ByteArray) (g:Nat) (M:g<u.length) (O:u.length<=1048576):Fz F.nX [.ro [.sl 1 (E cSt I),L,.sl 1 (E cI u)],.v (.int .i64 (g:Int))] (.v (.int .i64 (if g+1<u.length then u.getD (g+1) 0 else(I.length:Int)))):=by
 have H:IntKind.i64.wrap ((g:Int)+1)=((g+1:Nat):Int):=by rw[aM (by omega) (by omega)];omega
 by_cases h:g+1<u.length
 .have G:decide (((g+1:Nat):Int)<(u.length:Int))=true:=AR (by omega);have J:(E cI u).getD (g+1) []=[.v (.int .i64 (u.getD (g+1) 0))]:=by rw[aR h];simp[cI,List.getD,h]
  rw[AY h];refine fn0 Cd._s_l13R__end_k λX=>?_
  repeat' first|simp -dsimp only[go_sem,H,G,J]|apply Br.mk<;>intro h<;>try simp -dsimp only[h]|refine aC ?_|fail
  all_goals first|exact⟨_,_,rfl,rfl⟩
 .have G:decide (((g+1:Nat):Int)<(u.length:Int))=false:=AX (by omega);rw[AJ h];refine fn0 Cd._s_l13R__end_k λX=>?_
  repeat' first|simp -dsimp only[go_sem,H,G]|apply Br.mk<;>intro h<;>try simp -dsimp only[h]|refine aC ?_|fail
  all_goals first|exact⟨_,_,rfl,rfl⟩
theorem aML (kv hv:AV) (ns:List Int) (fr to:Nat) (h1:fr<=to) (h2:to<=ns.length) (hl:ns.length<=1048576):Fz F.l5 [.ro [kv,.sl 1 (E cRw ns),hv],.v (.int .i64 (fr:Int)),.v (.int .i64 (to:Int)),.v (.int .i64 1)] (.sl 1 (E cI [wY ((ns.take to).drop fr)])):=by
 have hml:((ns.take to).drop fr).length=to-fr:=by simp;omega
 have hge:∀i,i<to-fr->((ns.take to).drop fr)[i]? = some (ns.getD (fr+i) 0):=by
  intro i h;rw[List.getElem?_drop,List.getElem?_take,AY (by omega)];simp[List.getD,(by omega:fr+i<ns.length)]
 generalize hm:(ns.take to).drop fr=ms at *
 have e1c:∀x:Int,E cI [x]=[[.v (.int .i64 x)]]:=λ_=>rfl;refine fn0 Cd._s_l13R__sums_k λX=>?_
 repeat' first|simp -dsimp only[go_sem]|apply Br.mk<;>intro h<;>try simp -dsimp only[h]|refine aC ?_|fail
 refine aO.at dM (X:={zz:Nat×(Unit) // zz.1<=(to-fr)∧True}) (λzz=>[(9,.loc (.t 13 0) 0 1),(10,.v (.int .i64 ((fr+zz.1.1:Nat):Int)))]) (λzz=>[(.t 13 0,.arr 1 (E cI [wY (ms.take zz.1.1)]) false)]) (λzz=>(to-fr)-zz.1.1) ⟨(0,()),by omega,trivial⟩ ?_ ?_
 .simp[Vs.LeL,Vs.look,aB,aP,aJ,Vs.hset,aK,Vs.E,cI,wY]
 .rintro⟨⟨i,_⟩,hi,hg⟩;dsimp only at hi hg;simp -dsimp only[go_sem];refine Br.mk (λhc=>?_) λhc=>?_
  .have hlt:i<(to-fr):=Dq;have hw:=aI hlt (by omega);have hj:((fr+i:Nat):Int).toNat=fr+i:=by omega
   have gr:=aLZ (by omega:fr+i<ns.length);have hss:=aK6 (hge i (by omega));have hwj:IntKind.i64.wrap (((fr+i:Nat):Int)+1)=((fr+(i+1):Nat):Int):=by rw[aM (by omega) (by omega)];omega
   obtain⟨j,rfl⟩:∃j,j=i:=⟨i,rfl⟩;simp -dsimp only[go_sem];refine aO.at dM (X:={zz:Nat×(Unit) // zz.1<=1∧True}) (λzz=>[(9,.loc (.t 13 0) 0 1),(17,.junk),(11,.v (.int .i64 zz.1.1))]) (λzz=>[(.t 13 0,.arr 1 (E cI [if zz.1.1=0 then wY (ms.take j) else wY (ms.take (j+1))]) false)]) (λzz=>1-zz.1.1) ⟨(0,()),by omega,trivial⟩ ?_ ?_
   .simp[Vs.LeL,Vs.look,aB,aP,aJ,Vs.hset,aK,Vs.E,cI]
   .rintro⟨⟨i,_⟩,hi,hg⟩;dsimp only at hi hg;simp -dsimp only[go_sem];refine Br.mk (λhc=>?_) λhc=>?_
    .have hlt:i<1:=Dq;have hw:=aI hlt (by omega);obtain rfl:i=0:=by omega
     repeat' first|simp -dsimp only[go_sem,gr,hj,hss,e1c,hw]|apply Br.mk<;>intro h<;>try simp -dsimp only[h]|refine aC ?_|fail
     all_goals first|omega|(exact nx (1,()) trivial (h2:=by simp[Vs.LeL,Vs.look,aB,aP,aJ,Vs.hset,aK,hss,Vs.E,cI]))
    .have hge:i=1:=by
      have:¬i<1:=Dq;omega
     subst hge;simp -dsimp only[go_sem];refine And.intro ?_ (λh=>absurd rfl h);simp -dsimp only[go_sem,hwj]
     first|(exact⟨⟨(j+1,()),by omega,trivial⟩,by simp[Vs.LeL,Vs.look,aB,aP,aJ,Vs.hset,aK],by simp only;omega⟩)
  .have hge:i=(to-fr):=by
    have:¬i<(to-fr):=Dq;omega
   subst hge;simp -dsimp only[go_sem];have hfull:(E cI [wY (ms.take (to-fr))]).take 1=E cI [wY ms]:=by rw[Ag (l:=ms) (by omega)];rfl
   first|(rw[hfull];exact⟨⟨_,_,rfl,rfl⟩,λh=>h rfl⟩)
end
section
variable [Vs.Envs]
attribute [local irreducible] Vs.Fn bS dQ bD wY bT chOK areCh chTo chAt l03 chB rk cd3 chI stp stpTo
def mF (sf st:Int) (l:List (List Int)):List Int:=l.map λc=>(dQ sf st c).1
theorem kG (sf st:Int) (l:List (List Int)):(mF sf st l).length=l.length:=by simp[mF]
theorem aC2 {sf st:Int}{l:List (List Int)}{i:Nat} (h:i<l.length):E cRw ((mF sf st l).take i)++[[.sl 1 [[.v (.int .i64 (dQ sf st l[i]).1)]]]]=E cRw ((mF sf st l).take (i+1)):=by
 rw[bU (by rw[kG];exact h),aS];simp[mF,E,cRw]
def j3 (sf st:Int) (l:List (List Int)) (i:Nat):AV:=if i=0 then .v (.slice none 0 0) else .loc (.t 84 0) 0 i
def jZ (sf st:Int) (l:List (List Int)) (i:Nat):List (Vs.Name×Blk):=if i=0 then[] else[(.t 84 0,.arr 1 (E cRw ((mF sf st l).take i)) false)]
def uV (sf st:Int) (l:List (List Int)) (i:Nat):AV:=if i=0 then .v (.slice none 0 0) else .sl 1 (E cRw ((mF sf st l).take i))
section
variable (l:List (List Int)) (fr to sf st:Int) (hk:bE l) (hd:bB l=true) (hf:eF fr to (bL l)=true) (hn:kX sf st (bL l)=true)
include hk hd hf hn
theorem aEw:inB (bL l) 1 20=true:=by
 have _:=hk;have _:=hf;have _:=hn;by_cases F:l.length=0
 .unfold bL;rw[AY F];rfl
 .have u:=hd;simp only[bB,Au,Aw,Bb] at u;have G:l.getD 0 []∈l:=by rw[show l.getD 0 []=l[0]'(by omega) by simp[List.getD,(by omega:0<l.length)]];exact Am _
  have:=(u.1 _ G).1;simp only[gL,inB,Au,Bb] at this;unfold bL;rw[AJ F];simp only[inB,Au,Bb];omega
theorem aGI (L:bW fr to l=false):Fz F.yR [.ro [.v (.int .i64 fr),.v (.int .i64 to),.sl 2 [[.v (.int .i64 sf),.v (.int .i64 st)]],.v (.bool false)],.sl 1 (E cC l)] (.tup [.ro [.v (.slice none 0 0),.v (.slice none 0 0),.v (.slice none 0 0)],.v (.int .i64 8)]):=by
 have G:=bJ l hk.2 hk.1;rw[hd] at G;have J:=dG l;have u:=aGJ fr to sf st (bL l) (aEw l fr to sf st hk hd hf hn) hf hn;have H:=j4 l fr to hk.2 hk.1;have I:bD fr to l=8:=by simp only[bD,hd,hf,L];rfl
 rw[show nP fr to l=.v (.slice none 0 0) by simp[nP,I],I] at H;refine fn0 CdV.l13Read_k λX=>?_
 repeat' first|simp -dsimp only[go_sem,Int.reduceBEq,Int.reduceBNe,cC,cFd,aH,Ai,Ah,Al,Aq,Ad,Af,Ac,Ae,Aa,Ab,Ao,Ak]|apply Br.mk<;>intro h<;>try simp -dsimp only[h]|refine aA.c (by first|exact G|exact J|exact u|exact H) ?_|refine aC ?_|fail
 all_goals first|exact⟨_,_,rfl,rfl⟩
attribute [local go_sem] Int.reduceBEq Int.reduceBNe cFd aH Ai Ah Al Aq Ad Af Ac Ae Aa Ab Ao Ak in
theorem aGH (ha:bW fr to l=true) (hN:aAx sf st l=true):Fz F.yR [.ro [.v (.int .i64 fr),.v (.int .i64 to),.sl 2 [[.v (.int .i64 sf),.v (.int .i64 st)]],.v (.bool false)],.sl 1 (E cC l)] (.tup [.ro [.sl 1 (E cSt (bT fr to l)),uV sf st l l.length,.sl 1 (E cI (bS fr to l l.length))],.v (.int .i64 0)]):=by
 have DK:=bJ l hk.2 hk.1;rw[hd] at DK;have WD:=dG l;have OKS:=aGJ fr to sf st (bL l) (aEw l fr to sf st hk hd hf hn) hf hn;have KS:=j4 l fr to hk.2 hk.1;have ho:=fE hd hf;have h40:=lD hd;have hc:bD fr to l=0:=by simp only[bD,hd,hf,ha];rfl
 rw[show nP fr to l=.sl 1 (E cSt (bT fr to l)) by simp[nP,hc],hc] at KS;have hp:∀c,c∈l->okP sf st c:=aGD hd hn;have e1c:∀x:Int,E cI [x]=[[.v (.int .i64 x)]]:=λ_=>rfl;have hok:∀j,(h:j<l.length)->j<l.length->(dQ sf st l[j]).2=true:=λj h _=>Aw.1 hN _ (Am h);have GR:=aD7 l fr to ho ha (by omega);have hgl:=jV fr to l l.length;refine fn0 CdV.l13Read_k λX=>?_
 repeat' first|simp -dsimp only[go_sem,cC]|apply Br.mk<;>intro h<;>try simp -dsimp only[h]|refine aA.c (by first|exact DK|exact WD|exact OKS|exact KS) ?_|refine aC ?_|fail
 refine aO.at dM (X:={j:Nat // j<=l.length}) (λj=>[(9,.v (.int .i64 (j.1:Nat)))]) (λj=>(.t 15 0,.var [.v (.slice none 0 0),j3 sf st l j.1,.v (.slice none 0 0)] false)::jZ sf st l j.1) (λj=>l.length-j.1) ⟨0,by omega⟩ ?_ ?_
 .simp[Vs.LeL,Vs.look,aB,aP,aJ,Vs.hset,aK,j3,jZ]
 .rintro⟨j,hj⟩
  try dsimp only at hj
  by_cases hjm:j<l.length
  .have hlt:j<l.length:=by omega
   have ht:decide ((j:Int)<(l.length:Int))=true:=AR (by omega);have gj:(E cC l).getD j []=[.sl 1 (E cI l[j])]:=aR hlt;have PC:=aFp (hp _ (Am hlt));have NI:=rV (hp _ (Am hlt));have hrow:=aC2 (sf:=sf) (st:=st) hlt;have hrl:(E cRw ((mF sf st l).take j)).length=j:=by rw[aH,Ch,kG];omega
   have hrl2:((mF sf st l).take j).length=j:=by rw[Ch,kG];omega
   have hwj:IntKind.i64.wrap ((j:Int)+1)=((j+1:Nat):Int):=by rw[aM (by omega) (by omega)];omega
   rw[hok j hlt hjm] at NI;by_cases hj0:j=0
   .have hA:j3 sf st l j=.v (.slice none 0 0):=by simp[j3,hj0]
    have hH:jZ sf st l j=[]:=by simp[jZ,hj0]
    have hr0:E cRw ((mF sf st l).take j)=[]:=by rw[hj0];rfl
    have hrow0:[[.sl 1 [[.v (.int .i64 (dQ sf st l[j]).1)]]]]=E cRw ((mF sf st l).take (j+1)):=by rw[←hrow,hr0];rfl
    rw[hA,hH]
    repeat' first|simp -dsimp only[go_sem,ht,e1c,cC]|apply Br.mk<;>intro h<;>try simp -dsimp only[h]|refine aC ?_|fail
    refine aO.at dM (X:={zz:Nat×(Unit) // zz.1<=1∧True}) (λzz=>[(10,.loc (.t 10 0) 0 zz.1.1),(42,.junk),(11,.v (.int .i64 zz.1.1))]) (λzz=>[(.t 10 0,.arr 1 (E cI ([(dQ sf st l[j]).1].take zz.1.1)) false)]) (λzz=>1-zz.1.1) ⟨(0,()),by omega,trivial⟩ ?_ ?_
    .simp[Vs.LeL,Vs.look,aB,aP,aJ,Vs.hset,aK,Vs.E,cI]
    .rintro⟨⟨i,_⟩,hi,hg⟩;dsimp only at hi hg;simp -dsimp only[go_sem,cC];refine Br.mk (λhc=>?_) λhc=>?_
     .have hlt:i<1:=Dq;have hw:=aI hlt (by omega);obtain rfl:i=0:=by omega
      repeat' first|simp -dsimp only[go_sem,gj,e1c,cC,hw]|apply Br.mk<;>intro h<;>try simp -dsimp only[h]|refine aA.c (by first|exact PC|exact NI) ?_|refine aC ?_|fail
      all_goals first|omega|(exact nx (1,()) trivial (h2:=by simp[Vs.LeL,Vs.look,aB,aP,aJ,Vs.hset,aK,Vs.E,cI]))
     .have hge:i=1:=by
       have:¬i<1:=Dq;omega
      subst hge;simp -dsimp only[go_sem,cC]
      repeat' first|simp -dsimp only[go_sem,hwj,e1c,hrow,hrl,hrl2,ht,hrow0,cC]|apply Br.mk<;>intro h<;>try simp -dsimp only[h]|refine And.intro ?_ (λh=>absurd rfl h)|refine aC ?_|fail
      first|(exact⟨⟨j+1,by omega⟩,by simp[Vs.LeL,Vs.look,aB,aP,aJ,Vs.hset,aK,j3,jZ,hrow,Vs.E,hj0],by simp only;omega⟩)
   .have hA:j3 sf st l j=.loc (.t 84 0) 0 j:=by simp[j3,hj0]
    have hH:jZ sf st l j=[(.t 84 0,.arr 1 (E cRw ((mF sf st l).take j)) false)]:=by simp[jZ,hj0]
    rw[hA,hH]
    repeat' first|simp -dsimp only[go_sem,ht,e1c,cC]|apply Br.mk<;>intro h<;>try simp -dsimp only[h]|refine aC ?_|fail
    refine aO.at dM (X:={zz:Nat×(Unit) // zz.1<=1∧True}) (λzz=>[(10,.loc (.t 10 0) 0 zz.1.1),(42,.junk),(11,.v (.int .i64 zz.1.1))]) (λzz=>[(.t 10 0,.arr 1 (E cI ([(dQ sf st l[j]).1].take zz.1.1)) false)]) (λzz=>1-zz.1.1) ⟨(0,()),by omega,trivial⟩ ?_ ?_
    .simp[Vs.LeL,Vs.look,aB,aP,aJ,Vs.hset,aK,Vs.E,cI]
    .rintro⟨⟨i,_⟩,hi,hg⟩;dsimp only at hi hg;simp -dsimp only[go_sem,cC];refine Br.mk (λhc=>?_) λhc=>?_
     .have hlt:i<1:=Dq;have hw:=aI hlt (by omega);obtain rfl:i=0:=by omega
      repeat' first|simp -dsimp only[go_sem,gj,e1c,cC,hw]|apply Br.mk<;>intro h<;>try simp -dsimp only[h]|refine aA.c (by first|exact PC|exact NI) ?_|refine aC ?_|fail
      all_goals first|omega|(exact nx (1,()) trivial (h2:=by simp[Vs.LeL,Vs.look,aB,aP,aJ,Vs.hset,aK,Vs.E,cI]))
     .have hge:i=1:=by
       have:¬i<1:=Dq;omega
      subst hge;simp -dsimp only[go_sem,cC]
      repeat' first|simp -dsimp only[go_sem,hwj,e1c,hrow,hrl,hrl2,ht,cC]|apply Br.mk<;>intro h<;>try simp -dsimp only[h]|refine And.intro ?_ (λh=>absurd rfl h)|refine aC ?_|fail
      first|(exact⟨⟨j+1,by omega⟩,by simp[Vs.LeL,Vs.look,aB,aP,aJ,Vs.hset,aK,j3,jZ,hrow,Vs.E],by simp only;omega⟩)
  .obtain rfl:j=l.length:=by omega
   have ht:decide ((l.length:Int)<(l.length:Int))=false:=by simp
   by_cases hj0:l.length=0
   .have hA:j3 sf st l l.length=.v (.slice none 0 0):=by simp[j3,hj0]
    have hH:jZ sf st l l.length=[]:=by simp[jZ,hj0]
    rw[hA,hH,show uV sf st l l.length=.v (.slice none 0 0) by simp[uV,hj0]]
    repeat' first|simp -dsimp only[go_sem,ht,cC]|apply Br.mk<;>intro h<;>try simp -dsimp only[h]|refine aA.c (by first|exact GR) ?_|refine And.intro ?_ (λh=>absurd rfl h)|refine aC ?_|fail
    all_goals first|exact⟨⟨_,_,rfl,rfl⟩,λh=>h rfl⟩|exact⟨_,_,rfl,rfl⟩
   .have hA:j3 sf st l l.length=.loc (.t 84 0) 0 l.length:=by simp[j3,hj0]
    have hH:jZ sf st l l.length=[(.t 84 0,.arr 1 (E cRw ((mF sf st l).take l.length)) false)]:=by simp[jZ,hj0]
    rw[hA,hH,show uV sf st l l.length=.sl 1 (E cRw ((mF sf st l).take l.length)) by simp[uV,hj0]];have htk:(E cRw ((mF sf st l).take l.length)).take l.length=E cRw ((mF sf st l).take l.length):=Ag (by rw[aH,Ch,kG];omega);simp -dsimp only[go_sem,ht,cC]
    repeat' first|simp -dsimp only[go_sem,ht,htk,cC]|apply Br.mk<;>intro h<;>try simp -dsimp only[h]|refine aA.c (by first|exact GR) ?_|refine And.intro ?_ (λh=>absurd rfl h)|refine aC ?_|fail
    all_goals first|exact⟨⟨_,_,rfl,rfl⟩,λh=>h rfl⟩|exact⟨_,_,rfl,rfl⟩
end
end
section
variable [Vs.Envs]
attribute [local irreducible] Vs.Fn bS dQ bD wY bT jX chOK areCh chTo chAt l03 chB rk cd3 chI stp stpTo
theorem aEh {α:Type}{p:α->Bool}:∀{l:List α},l.all p=false->∃m,∃h:m<l.length,p l[m]=false∧∀j,(u:j<l.length)->j<m->p l[j]=true
 | [],h=>by simp at h
 | x::r,h=>by
  cases hx:p x
  .exact⟨0,by simp,by simpa using hx,λj _ u=>by omega⟩
  .rw[BO,hx,CX] at h;obtain⟨m,H,F,h2⟩:=aEh h;refine⟨m+1,by simpa using H,by simpa using F,λj u G=>?_⟩;cases j with
   |zero=>simpa using hx
   |succ j=>simpa using h2 j (by simpa using u) (by omega)
section
variable (l:List (List Int)) (fr to sf st:Int) (hk:bE l) (hd:bB l=true) (hf:eF fr to (bL l)=true) (hn:kX sf st (bL l)=true)
include hk hd hf hn
attribute [local go_sem] Int.reduceBEq Int.reduceBNe cFd aH Ai Ah Al Aq Ad Af Ac Ae Aa Ab Ao Ak in
set_option maxHeartbeats 2000000 in
theorem aFG (ha:bW fr to l=true) (hN:aAx sf st l=false):∃v,Fz F.yR [.ro [.v (.int .i64 fr),.v (.int .i64 to),.sl 2 [[.v (.int .i64 sf),.v (.int .i64 st)]],.v (.bool false)],.sl 1 (E cC l)] (.tup [.ro v,.v (.int .i64 8)]):=by
 obtain⟨m,hm,hbad,hok0⟩:=aEh hN;refine⟨[.v (.slice none 0 0),uV sf st l m,.v (.slice none 0 0)],?_⟩;have DK:=bJ l hk.2 hk.1;rw[hd] at DK;have WD:=dG l;have OKS:=aGJ fr to sf st (bL l) (aEw l fr to sf st hk hd hf hn) hf hn;have KS:=j4 l fr to hk.2 hk.1;have ho:=fE hd hf;have h40:=lD hd;have hc:bD fr to l=0:=by simp only[bD,hd,hf,ha];rfl
 rw[show nP fr to l=.sl 1 (E cSt (bT fr to l)) by simp[nP,hc],hc] at KS;have hp:∀c,c∈l->okP sf st c:=aGD hd hn;have e1c:∀x:Int,E cI [x]=[[.v (.int .i64 x)]]:=λ_=>rfl;have hok:∀j,(h:j<l.length)->j<m->(dQ sf st l[j]).2=true:=hok0;refine fn0 CdV.l13Read_k λX=>?_
 repeat' first|simp -dsimp only[go_sem,cC]|apply Br.mk<;>intro h<;>try simp -dsimp only[h]|refine aA.c (by first|exact DK|exact WD|exact OKS|exact KS) ?_|refine aC ?_|fail
 refine aO.at dM (X:={j:Nat // j<=m}) (λj=>[(9,.v (.int .i64 (j.1:Nat)))]) (λj=>(.t 15 0,.var [.v (.slice none 0 0),j3 sf st l j.1,.v (.slice none 0 0)] false)::jZ sf st l j.1) (λj=>m-j.1) ⟨0,by omega⟩ ?_ ?_
 .simp[Vs.LeL,Vs.look,aB,aP,aJ,Vs.hset,aK,j3,jZ]
 .rintro⟨j,hj⟩
  try dsimp only at hj
  by_cases hjm:j<m
  .have hlt:j<l.length:=by omega
   have ht:decide ((j:Int)<(l.length:Int))=true:=AR (by omega);have gj:(E cC l).getD j []=[.sl 1 (E cI l[j])]:=aR hlt;have PC:=aFp (hp _ (Am hlt));have NI:=rV (hp _ (Am hlt));have hrow:=aC2 (sf:=sf) (st:=st) hlt;have hrl:(E cRw ((mF sf st l).take j)).length=j:=by rw[aH,Ch,kG];omega
   have hrl2:((mF sf st l).take j).length=j:=by rw[Ch,kG];omega
   have hwj:IntKind.i64.wrap ((j:Int)+1)=((j+1:Nat):Int):=by rw[aM (by omega) (by omega)];omega
   rw[hok j hlt hjm] at NI;by_cases hj0:j=0
   .have hA:j3 sf st l j=.v (.slice none 0 0):=by simp[j3,hj0]
    have hH:jZ sf st l j=[]:=by simp[jZ,hj0]
    have hr0:E cRw ((mF sf st l).take j)=[]:=by rw[hj0];rfl
    have hrow0:[[.sl 1 [[.v (.int .i64 (dQ sf st l[j]).1)]]]]=E cRw ((mF sf st l).take (j+1)):=by rw[←hrow,hr0];rfl
    rw[hA,hH]
    repeat' first|simp -dsimp only[go_sem,ht,e1c,cC]|apply Br.mk<;>intro h<;>try simp -dsimp only[h]|refine aC ?_|fail
    refine aO.at dM (X:={zz:Nat×(Unit) // zz.1<=1∧True}) (λzz=>[(10,.loc (.t 10 0) 0 zz.1.1),(42,.junk),(11,.v (.int .i64 zz.1.1))]) (λzz=>[(.t 10 0,.arr 1 (E cI ([(dQ sf st l[j]).1].take zz.1.1)) false)]) (λzz=>1-zz.1.1) ⟨(0,()),by omega,trivial⟩ ?_ ?_
    .simp[Vs.LeL,Vs.look,aB,aP,aJ,Vs.hset,aK,Vs.E,cI]
    .rintro⟨⟨i,_⟩,hi,hg⟩;dsimp only at hi hg;simp -dsimp only[go_sem,cC];refine Br.mk (λhc=>?_) λhc=>?_
     .have hlt:i<1:=Dq;have hw:=aI hlt (by omega);obtain rfl:i=0:=by omega
      repeat' first|simp -dsimp only[go_sem,gj,e1c,cC,hw]|apply Br.mk<;>intro h<;>try simp -dsimp only[h]|refine aA.c (by first|exact PC|exact NI) ?_|refine aC ?_|fail
      all_goals first|omega|(exact nx (1,()) trivial (h2:=by simp[Vs.LeL,Vs.look,aB,aP,aJ,Vs.hset,aK,Vs.E,cI]))
     .have hge:i=1:=by
       have:¬i<1:=Dq;omega
      subst hge;simp -dsimp only[go_sem,cC]
      repeat' first|simp -dsimp only[go_sem,hwj,e1c,hrow,hrl,hrl2,ht,hrow0,cC]|apply Br.mk<;>intro h<;>try simp -dsimp only[h]|refine And.intro ?_ (λh=>absurd rfl h)|refine aC ?_|fail
      first|(exact⟨⟨j+1,by omega⟩,by simp[Vs.LeL,Vs.look,aB,aP,aJ,Vs.hset,aK,j3,jZ,hrow,Vs.E,hj0],by simp only;omega⟩)
   .have hA:j3 sf st l j=.loc (.t 84 0) 0 j:=by simp[j3,hj0]
    have hH:jZ sf st l j=[(.t 84 0,.arr 1 (E cRw ((mF sf st l).take j)) false)]:=by simp[jZ,hj0]
    rw[hA,hH]
    repeat' first|simp -dsimp only[go_sem,ht,e1c,cC]|apply Br.mk<;>intro h<;>try simp -dsimp only[h]|refine aC ?_|fail
    refine aO.at dM (X:={zz:Nat×(Unit) // zz.1<=1∧True}) (λzz=>[(10,.loc (.t 10 0) 0 zz.1.1),(42,.junk),(11,.v (.int .i64 zz.1.1))]) (λzz=>[(.t 10 0,.arr 1 (E cI ([(dQ sf st l[j]).1].take zz.1.1)) false)]) (λzz=>1-zz.1.1) ⟨(0,()),by omega,trivial⟩ ?_ ?_
    .simp[Vs.LeL,Vs.look,aB,aP,aJ,Vs.hset,aK,Vs.E,cI]
    .rintro⟨⟨i,_⟩,hi,hg⟩;dsimp only at hi hg;simp -dsimp only[go_sem,cC];refine Br.mk (λhc=>?_) λhc=>?_
     .have hlt:i<1:=Dq;have hw:=aI hlt (by omega);obtain rfl:i=0:=by omega
      repeat' first|simp -dsimp only[go_sem,gj,e1c,cC,hw]|apply Br.mk<;>intro h<;>try simp -dsimp only[h]|refine aA.c (by first|exact PC|exact NI) ?_|refine aC ?_|fail
      all_goals first|omega|(exact nx (1,()) trivial (h2:=by simp[Vs.LeL,Vs.look,aB,aP,aJ,Vs.hset,aK,Vs.E,cI]))
     .have hge:i=1:=by
       have:¬i<1:=Dq;omega
      subst hge;simp -dsimp only[go_sem,cC]
      repeat' first|simp -dsimp only[go_sem,hwj,e1c,hrow,hrl,hrl2,ht,cC]|apply Br.mk<;>intro h<;>try simp -dsimp only[h]|refine And.intro ?_ (λh=>absurd rfl h)|refine aC ?_|fail
      first|(exact⟨⟨j+1,by omega⟩,by simp[Vs.LeL,Vs.look,aB,aP,aJ,Vs.hset,aK,j3,jZ,hrow,Vs.E],by simp only;omega⟩)
  .obtain rfl:j=m:=by omega
   have hlt:j<l.length:=hm;have ht:decide ((j:Int)<(l.length:Int))=true:=AR (by omega);have gj:(E cC l).getD j []=[.sl 1 (E cI l[j])]:=aR hlt;have PC:=aFp (hp _ (Am hlt));have NI:=rV (hp _ (Am hlt));have hrow:=aC2 (sf:=sf) (st:=st) hlt;have hrl:(E cRw ((mF sf st l).take j)).length=j:=by rw[aH,Ch,kG];omega
   have hrl2:((mF sf st l).take j).length=j:=by rw[Ch,kG];omega
   have hwj:IntKind.i64.wrap ((j:Int)+1)=((j+1:Nat):Int):=by rw[aM (by omega) (by omega)];omega
   rw[hbad] at NI;by_cases hj0:j=0
   .have hA:j3 sf st l j=.v (.slice none 0 0):=by simp[j3,hj0]
    have hH:jZ sf st l j=[]:=by simp[jZ,hj0]
    rw[hA,hH,show uV sf st l j=.v (.slice none 0 0) by simp[uV,hj0]]
    repeat' first|simp -dsimp only[go_sem,ht,e1c,cC]|apply Br.mk<;>intro h<;>try simp -dsimp only[h]|refine aC ?_|fail
    refine aO.at dM (X:={zz:Nat×(Unit) // zz.1<=1∧zz.1=0}) (λzz=>[(10,.loc (.t 10 0) 0 zz.1.1),(42,.junk),(11,.v (.int .i64 zz.1.1))]) (λzz=>[(.t 10 0,.arr 1 (E cI ([(dQ sf st l[j]).1].take zz.1.1)) false)]) (λzz=>1-zz.1.1) ⟨(0,()),by omega,rfl⟩ ?_ ?_
    .simp[Vs.LeL,Vs.look,aB,aP,aJ,Vs.hset,aK,Vs.E,cI]
    .rintro⟨⟨i,_⟩,hi,hg⟩;dsimp only at hi hg;simp -dsimp only[go_sem,cC];refine Br.mk (λhc=>?_) λhc=>?_
     .have hlt:i<1:=Dq;have hw:=aI hlt (by omega);obtain rfl:i=0:=by omega
      repeat' first|simp -dsimp only[go_sem,gj,e1c,ht,cC,hw]|apply Br.mk<;>intro h<;>try simp -dsimp only[h]|refine aA.c (by first|exact PC|exact NI) ?_|refine aC ?_|fail
      all_goals first|omega|(exact⟨_,_,rfl,rfl⟩)|(rw[hbad];exact⟨_,_,rfl,rfl⟩)
     .have hge:i=1:=by
       have:¬i<1:=Dq;omega
      subst hge;simp -dsimp only[go_sem,cC];omega
   .have hA:j3 sf st l j=.loc (.t 84 0) 0 j:=by simp[j3,hj0]
    have hH:jZ sf st l j=[(.t 84 0,.arr 1 (E cRw ((mF sf st l).take j)) false)]:=by simp[jZ,hj0]
    rw[hA,hH,show uV sf st l j=.sl 1 (E cRw ((mF sf st l).take j)) by simp[uV,hj0]];have htk:(E cRw ((mF sf st l).take j)).take j=E cRw ((mF sf st l).take j):=Ag (by omega)
    repeat' first|simp -dsimp only[go_sem,ht,e1c,cC]|apply Br.mk<;>intro h<;>try simp -dsimp only[h]|refine aC ?_|fail
    refine aO.at dM (X:={zz:Nat×(Unit) // zz.1<=1∧zz.1=0}) (λzz=>[(10,.loc (.t 10 0) 0 zz.1.1),(42,.junk),(11,.v (.int .i64 zz.1.1))]) (λzz=>[(.t 10 0,.arr 1 (E cI ([(dQ sf st l[j]).1].take zz.1.1)) false)]) (λzz=>1-zz.1.1) ⟨(0,()),by omega,rfl⟩ ?_ ?_
    .simp[Vs.LeL,Vs.look,aB,aP,aJ,Vs.hset,aK,Vs.E,cI]
    .rintro⟨⟨i,_⟩,hi,hg⟩;dsimp only at hi hg;simp -dsimp only[go_sem,cC];refine Br.mk (λhc=>?_) λhc=>?_
     .have hlt:i<1:=Dq;have hw:=aI hlt (by omega);obtain rfl:i=0:=by omega
      repeat' first|simp -dsimp only[go_sem,gj,e1c,ht,htk,cC,hw]|apply Br.mk<;>intro h<;>try simp -dsimp only[h]|refine aA.c (by first|exact PC|exact NI) ?_|refine aC ?_|fail
      all_goals first|omega|(exact⟨_,_,rfl,rfl⟩)|(rw[hbad];exact⟨_,_,rfl,rfl⟩)
     .have hge:i=1:=by
       have:¬i<1:=Dq;omega
      subst hge;simp -dsimp only[go_sem,cC];omega
attribute [local go_sem] Int.reduceBEq Int.reduceBNe aH Ai Ah Al Aq Ad Af Ac Ae Aa Ab Ao Ak in
theorem aCt:Fz F.uI [.sl 1 (E cC l),.agg (cFd fr to),.agg (cFd sf st)] (.tup [wX fr to sf st l,.v (.int .i64 (if nZ fr to sf st l then 0 else 8))]):=by
 cases ha:bW fr to l
 .have RD:=aGI l fr to sf st hk hd hf hn ha;have hb:nZ fr to sf st l=false:=by simp[nZ,ha]
  rw[show wX fr to sf st l=.v (.slice none 0 0) by simp[wX,hb],hb];refine fn0 Cd.s_l15Sums_k λX=>?_
  repeat' first|simp -dsimp only[go_sem,cC,cFd,cTt]|apply Br.mk<;>intro h<;>try simp -dsimp only[h]|refine aA.c (by first|exact RD) ?_|refine aC ?_|fail
  all_goals first|exact⟨_,_,rfl,rfl⟩
 cases hN:aAx sf st l
 .obtain⟨v,RD⟩:=aFG l fr to sf st hk hd hf hn ha hN;have hb:nZ fr to sf st l=false:=by simp[nZ,hN]
  rw[show wX fr to sf st l=.v (.slice none 0 0) by simp[wX,hb],hb];refine fn0 Cd.s_l15Sums_k λX=>?_
  repeat' first|simp -dsimp only[go_sem,cC,cFd,cTt]|apply Br.mk<;>intro h<;>try simp -dsimp only[h]|refine aA.c (by first|exact RD) ?_|refine aC ?_|fail
  all_goals first|exact⟨_,_,rfl,rfl⟩
 have RD:=aGH l fr to sf st hk hd hf hn ha hN;have hb:nZ fr to sf st l=true:=by simp[nZ,hN,ha]
 rw[show wX fr to sf st l=.sl 2 (E cTt (o7 fr to sf st l)) by simp[wX,hb],hb];have h40:=lD hd;have hin:=vG (fr:=fr) (to:=to) (l:=l) l.length;have hup:=aA8 (fr:=fr) (to:=to) (l:=l) l.length;have hgl:=jV fr to l l.length
 have htl:o7 fr to sf st l=(List.range (bS fr to l l.length).length).map (λi=>(txt (fH fr to ((gK l (bS fr to l l.length) i).getD 0 [])),jX sf st (gK l (bS fr to l l.length) i))):=by
  unfold o7 aDl;rw[List.map_map];rfl
 rw[htl];have hkl:(bT fr to l).length=l.length:=by unfold bT;simp
 have hkg:∀i,i<l.length->(E cSt (bT fr to l)).getD i []=[.v (.string (txt (fH fr to (l.getD i []))))]:=λi hi=>by
  rw[aR (by omega)];simp[cSt,bT,List.getD,hi]
 generalize bS fr to l l.length=o at *
 refine fn0 Cd.s_l15Sums_k λX=>?_
 repeat' first|simp -dsimp only[go_sem,cC,cFd,cTt]|apply Br.mk<;>intro h<;>try simp -dsimp only[h]|refine aA.c (by first|exact RD) ?_|refine aC ?_|fail
 refine aO.at dM (X:={zz:Nat×(Unit) // zz.1<=o.length∧True}) (λzz=>[(10,.loc (.t 10 0) 0 zz.1.1),(11,.v (.int .i64 zz.1.1))]) (λzz=>[(.t 10 0,.arr 2 (E cTt ((List.range zz.1.1).map λi=>(txt (fH fr to ((gK l o i).getD 0 [])),jX sf st (gK l o i)))) false)]) (λzz=>o.length-zz.1.1) ⟨(0,()),by omega,trivial⟩ ?_ ?_
 .simp[Vs.LeL,Vs.look,aB,aP,aJ,Vs.hset,aK,Vs.E]
 .rintro⟨⟨i,_⟩,hi,hg⟩;dsimp only at hi hg;simp -dsimp only[go_sem,cC,cFd,cTt];refine Br.mk (λhc=>?_) λhc=>?_
  .have hlt:i<o.length:=Dq;have hw:=aI hlt (by omega)
   obtain ⟨a,e,hae,hel,ga,hga,hge2,hend⟩:∃a e:Nat,a<e∧e<=l.length∧o[i]=(a:Int)∧(o.getD i 0).toNat=a∧(if i+1<o.length then(o.getD (i+1) 0).toNat else l.length)=e∧(if i+1<o.length then o.getD (i+1) 0 else((bT fr to l).length:Int))=(e:Int):=by
    have h0:=hin _ (Am hlt);have e0:o.getD i 0=o[i]:=by simp[List.getD,hlt]
    by_cases h1:i+1<o.length
    .have h2:=hin _ (Am h1);have h3:o[i]<o[i+1]:=Dp.1 hup i (i+1) hlt h1 (by omega);have e1:o.getD (i+1) 0=o[i+1]:=by simp[List.getD,h1]
     refine⟨o[i].toNat,o[i+1].toNat,by omega,by omega,by omega,by rw[e0],by rw[AY h1,e1],by rw[AY h1,e1];omega⟩
    .refine⟨o[i].toNat,l.length,by omega,by omega,by omega,by rw[e0],by rw[AJ h1],by rw[AJ h1,hkl]⟩
   have hgat:gK l o i=(l.take e).drop a:=by unfold gK;rw[hge2,hga]
   have hg0:((l.take e).drop a).getD 0 []=l.getD a []:=by
    simp only[List.getD];rw[List.getElem?_drop,List.getElem?_take,AY (by omega),Cg]
   have gi:(E cI o).getD i []=[.v (.int .i64 (a:Int))]:=by rw[dJ hlt,ga]
   have gk:=hkg a (by omega);have EN:=r_end (uV sf st l l.length) o (bT fr to l) i hlt (by omega);rw[hend] at EN
   have hnv:uV sf st l l.length=.sl 1 (E cRw (mF sf st l)):=by
    unfold uV;rw[AJ (by omega),Ag (by rw[kG];omega)]
   have SM:=aML (.sl 1 (E cSt (bT fr to l))) (.sl 1 (E cI o)) (mF sf st l) a e (by omega) (by rw[kG];exact hel) (by rw[kG];omega)
   have hsm:wY (((mF sf st l).take e).drop a)=jX sf st ((l.take e).drop a):=by
    rw[←aJe];congr 1;simp[mF,Cz,CW]
   rw[hsm] at SM;rw[hnv] at EN⊢;have e1s:(E cI [jX sf st ((l.take e).drop a)]).getD 0 []=[.v (.int .i64 (jX sf st ((l.take e).drop a)))]:=rfl;have e1l:(E cI [jX sf st ((l.take e).drop a)]).length=1:=rfl
   have hap:E cTt ((List.range i).map λi=>(txt (fH fr to ((gK l o i).getD 0 [])),jX sf st (gK l o i)))++[[.v (.string (txt (fH fr to (l.getD a [])))),.v (.int .i64 (jX sf st ((l.take e).drop a)))]]=E cTt ((List.range (i+1)).map λi=>(txt (fH fr to ((gK l o i).getD 0 [])),jX sf st (gK l o i))):=by
    rw[Dt,Cm,aS];simp only[AU,Bh,hgat,hg0];rfl
   have hal:(E cTt ((List.range i).map λi=>(txt (fH fr to ((gK l o i).getD 0 [])),jX sf st (gK l o i)))).length=i:=by rw[aH];simp
   have hta:((a:Nat):Int).toNat=a:=by omega
   generalize jX sf st ((l.take e).drop a)=sw at *
   generalize txt (fH fr to (l.getD a []))=nm at *
   repeat' first|simp -dsimp only[go_sem,gi,gk,hw,hap,hal,hta,e1s,e1l,hkl,cC,cFd]|apply Br.mk<;>intro h<;>try simp -dsimp only[h]|refine aA.c (by first|exact EN|exact SM) ?_|refine aC ?_|fail
   all_goals first|omega|(exact nx (i+1,()) trivial (h2:=by simp[Vs.LeL,Vs.look,aB,aP,aJ,Vs.hset,aK,hap,hnv,Dt,Vs.rnL,Vs.rn,Vs.nmF,Vs.scr,Vs.AV.has]))
  .have hge:i=o.length:=by
    have:¬i<o.length:=Dq;omega
   subst hge;simp -dsimp only[go_sem,cC,cFd,cTt];have htk:(E cTt ((List.range o.length).map λi=>(txt (fH fr to ((gK l o i).getD 0 [])),jX sf st (gK l o i)))).take o.length=E cTt ((List.range o.length).map λi=>(txt (fH fr to ((gK l o i).getD 0 [])),jX sf st (gK l o i))):=Ag (by rw[aH];simp)
   first|(rw[htk];exact⟨⟨_,_,rfl,rfl⟩,λh=>h rfl⟩)
end
end
section
variable [Vs.Envs]
attribute [local irreducible] Vs.Fn pun cmT zR jA lM bD chOK areCh chTo chAt l03 chB rk cd3 chI stp stpTo
theorem aJs {fr to:Int}{s:ByteArray}{l:List (List Int)} (h:lM fr to s l=0):bB l=true∧eF fr to (bL l)=true∧s.size=to.toNat-fr.toNat∧areCh s=true∧bW fr to l=true:=by
 obtain⟨hd,hf,H,F,u⟩:=aHj h;have G:=hf;simp only[eF,Au,Bb] at G;have I:((s.size:Int))=W (to-fr):=by simpa using H
 have M:bL l<=1048576:=by
  have J:=lD hd;unfold bL;split
  .omega
  .rename_i O;have L:l.getD 0 []∈l:=by rw[show l.getD 0 []=l[0]'(by omega) by simp[List.getD,(by omega:0<l.length)]];exact Am _
   have:=(fE hd hf _ L).2.2.2;omega
 rw[show W (to-fr)=to-fr from aM (by omega) (by omega)] at I;exact⟨hd,hf,by omega,F,u⟩
attribute [local go_sem] Int.reduceBEq Int.reduceBNe cP Ai Ah Al Aq Ad Af Ac Ae Aa Ab Ao in
theorem uF (l:List (List Int)) (fr to:Int) (s:ByteArray) (hk:bE l) (hz:s.size<=1048576):Fz F.lN [.sl 1 (E cC l),.agg (cFd fr to),.v (.string s)] (.tup [nD fr to s l,.v (.int .i64 (lM fr to s l))]):=by
 have AK:=aM0 l fr to s hk hz;by_cases h0:lM fr to s l=0
 .obtain⟨hd,hf,hsz,hch,hall⟩:=aJs h0;have ho:=fE hd hf;have h40:=lD hd;rw[show nD fr to s l=.sl 1 (E cC (flt (jA fr to s) l)) by simp[nD,h0],h0];rw[show aI2 fr to s l=.sl 1 (E cSt (bT fr to l)) by simp[aI2,h0],h0] at AK;have hkl:=uY fr to l;refine fn0 Cd.s_SelectEqual_k λX=>?_
  repeat' first|simp -dsimp only[go_sem,cC,cFd,hkl,aH]|apply Br.mk<;>intro h<;>try simp -dsimp only[h]|refine aA.c (by first|exact AK) ?_|refine aC ?_|fail
  refine aO.at dM (X:={zz:Nat×(Unit) // zz.1<=l.length∧True}) (λzz=>[(10,.loc (.t 10 0) 0 (flt (jA fr to s) (l.take zz.1.1)).length),(11,.v (.int .i64 zz.1.1))]) (λzz=>[(.t 10 0,.arr 1 (E cC (flt (jA fr to s) (l.take zz.1.1))) false)]) (λzz=>l.length-zz.1.1) ⟨(0,()),by omega,trivial⟩ ?_ ?_
  .simp[Vs.LeL,Vs.look,aB,aP,aJ,Vs.hset,aK,Vs.E,flt]
  .rintro⟨⟨i,_⟩,hi,hg⟩;dsimp only at hi hg;simp -dsimp only[go_sem,cC,cFd,hkl,aH];refine Br.mk (λhc=>?_) λhc=>?_
   .have hlt:i<l.length:=Dq;have hw:=aI hlt (by omega);have hc:=ho _ (Am hlt);have hko:=aLL hc (Aw.1 hall _ (Am hlt)) hsz hch;have hm:(E cSt (bT fr to l)).getD i []=[.v (.string (txt (fH fr to l[i])))]:=by rw[aR (by omega)];simp[bT,cSt]
    have hm2:(E cC l).getD i []=[.sl 1 (E cI l[i])]:=aR hlt;have hfs:=yB (q:=jA fr to s) hlt;have hfl:=zT (jA fr to s) (l.take i);have ht:(l.take i).length=i:=by simp;omega
    have NC:=xS l[i] (hk.2 _ (Am hlt));have hE:(E cC (flt (jA fr to s) (l.take i))).length=(flt (jA fr to s) (l.take i)).length:=aH ..
    cases hq:jA fr to s l[i]
    .rw[hq] at hfs hko;have hap:E cC (flt (jA fr to s) (l.take i))++[[.sl 1 (E cI l[i])]]=E cC (flt (jA fr to s) (l.take (i+1))):=by rw[hfs,aS];rfl
     have hln:(flt (jA fr to s) (l.take (i+1))).length=(flt (jA fr to s) (l.take i)).length+1:=by rw[hfs];simp
     simp -dsimp only[go_sem,hm,hm2,hw,hko,cC,cFd]
     repeat' first|simp -dsimp only[go_sem,hm,hm2,hw,hko,hap,hE,cC,cFd]|apply Br.mk<;>intro h<;>try simp -dsimp only[h]|refine aA.c (by first|exact NC) ?_|refine aC ?_|fail
     all_goals first|omega|(exact nx (i+1,()) trivial (h2:=by simp[Vs.LeL,Vs.look,aB,aP,aJ,Vs.hset,aK,hln,Vs.rnL,Vs.rn,Vs.nmF,Vs.scr,Vs.AV.has]))
    .rw[hq] at hfs hko;have hsame:flt (jA fr to s) (l.take (i+1))=flt (jA fr to s) (l.take i):=by rw[hfs];simp
     repeat' first|simp -dsimp only[go_sem,hm,hm2,hw,hko,cC,cFd]|apply Br.mk<;>intro h<;>try simp -dsimp only[h]|refine aC ?_|fail
     all_goals first|omega|(exact nx (i+1,()) trivial (h2:=by simp[Vs.LeL,Vs.look,aB,aP,aJ,Vs.hset,aK,hsame,Vs.rnL,Vs.rn,Vs.nmF,Vs.scr,Vs.AV.has]))
   .have hge:i=l.length:=by
     have:¬i<l.length:=Dq;omega
    subst hge;simp -dsimp only[go_sem,cC,cFd,hkl,aH]
    have htk:(E cC (flt (jA fr to s) (l.take l.length))).take (flt (jA fr to s) (l.take l.length)).length=E cC (flt (jA fr to s) l):=by
     rw[Ce];exact Ag (by rw[aH];exact AL _)
    first|(rw[htk];exact⟨⟨_,_,rfl,rfl⟩,λh=>h rfl⟩)|(rw[Ce];exact⟨⟨_,_,rfl,rfl⟩,λh=>h rfl⟩)
 .have e0:(lM fr to s l != 0)=true:=by simp[h0]
  rw[show nD fr to s l=.v (.slice none 0 0) by simp[nD,h0]];rw[show aI2 fr to s l=.v (.slice none 0 0) by simp[aI2,h0]] at AK;generalize lM fr to s l=c at *
  refine fn0 Cd.s_SelectEqual_k λX=>?_
  repeat' first|simp -dsimp only[go_sem,cC,cFd,e0]|apply Br.mk<;>intro h<;>try simp -dsimp only[h]|refine aA.c (by first|exact AK) ?_|refine aC ?_|fail
  all_goals first|exact⟨_,_,rfl,rfl⟩
end
end Go.Proofs.YtmiiohemehacjaaGreatDoor
