/- A deck is read by a tabulator: the reference. -/
import Derived.Test.YtmiiohemehacjaaGreatDoorXwVb
import Derived.Test.YtmiiohemehacjaaGreatDoorXwVf
import Derived.Test.YtmiiohemehacjaaGreatDoorXwQd
import Derived.Test.YtmiiohemehacjaaGreatDoorXwD
import Derived.Test.YtmiiohemehacjaaGreatDoorXwSm
import Derived.Test.YtmiiohemehacjaaGreatDoorVtO
set_option linter.all false
set_option maxHeartbeats 8000000
namespace Go.Proofs.YtmiiohemehacjaaGreatDoor
open Go.Vs
section
variable [Vs.Envs]
attribute [local irreducible] Vs.Fn bI gT aY chOK areCh chTo chAt l03 chB rk cd3 chI stp stpTo
attribute [local go_sem] Int.reduceBEq Int.reduceBNe cC cFd aI List.replicate_succ List.replicate_zero List.flatten_cons List.flatten_nil List.cons_append List.nil_append List.set_cons_zero List.set_cons_succ List.length_cons List.length_nil List.length_set List.getD_cons_zero
open Go.Vs.Q in
def CdV.l13Read:aF:=s [o 4 (.mv (.const (.pointer none))),mi 5 0] [0,1]<|s [o 14 (.build [.v (.slice none 0 0),.v (.slice none 0 0),.v (.slice none 0 0)] []),bx 15 14,m 6 15] [0,1,6]<|.seq (s [m 16 1,c 17 F.kI [16],nt 18 17] [0,1,6,18]<|.cond 18 (s [m 19 6,m 4 19,mi 5 1] [4,5]<|.ret) .skip)<|.seq (s [m 20 0,m
 21 1,c 22 F.jQ [21],c 23 F.aAr [20,22],nt 24 23] [0,1,6,24]<|.cond 24 (s [m 25 6,m 4 25,mi 5 2] [4,5]<|.ret) .skip)<|s [m 27 1,m 28 0,nc 29 28,fa 30 0 29,lt 31 2 30,c 32 F.iX [27,31],m 26 32,ex 33 26 0,ex 34 26 1,m 7 33,m 8 34] [0,1,6,7,8]<|.seq (s [m 35 8,ne 36 35 0]
 [0,1,6,7,8,36]<|.cond 36 (s [m 37 6,m 38 8,m 4 37,m 5 38] [4,5]<|.ret) .skip)<|.seq (s [mi 9 0] [0,1,6,7,9]<|.block 0 (.loop (.seq (s [m 39 9,m 40 1,ln 41 40,ls 42 39 41] [0,1,6,7,9,42]<|.cond 42 .skip (.exit 0))<|.seq (.block 1 (.seq (.naming 10 (.region [o 45 (.bslice 1 0 [.v (.int .i64 (0))] []),m
 10 45] [0,1,6,7,9,10] []))<|.seq (s [mi 11 0] [0,1,6,7,9,10,11]<|.closing 10 (.block 2 (.loop (.seq (s [m 46 11,m 47 0,nc 48 47,fa 49 2 48,lf 50 1 49,ln 51 50,ls 52 46 51] [0,1,6,7,9,10,11,52]<|.cond 52 .skip (.exit 2))<|.seq (.block 3 (r [m 56 1,m 57 9,ix 58 1 56 57,m 59 0,nc 60 59,fa 61 2 60,lf 62
 1 61,m 63 11,ix 64 2 62 63,lt 65 2 64,c 66 F.lX [58,65],c 67 F.jR [66],m 55 67,ex 68 55 0,ex 69 55 1,m 12 68,m 13 69] [0,1,6,7,9,10,11,12,13] [56,57,59,58,60,61,62,63,64,65,66,67,55,68,69,12]<|.seq (s [m 70 13,nt 71 70] [0,1,6,7,9,10,11,12,71]<|.cond 71 (s [m 72 6,m 4 72,mi 5 8]
 [4,5]<|.ret) .skip)<|.naming 10 (.region [m 73 10,m 74 12,o 75 (.bslice 1 1 [.v (.int .i64 (0))] [(0,74)]),o 76 (.append 1 8 73 75),m 10 76] [0,1,6,7,9,10,11] [])))<|.region [m 53 11,ad 54 53 1,m 11 54] [0,1,6,7,9,10,11] []))))<|.region [m 77 6,m 78 6,nc 79 78,fa 80 1 79,lf 81 1 80,m 82 10,o 83
 (.bslice 1 1 [.v (.slice none 0 0)] [(0,82)]),o 84 (.append 1 24 81 83),nc 85 77,fa 86 1 85,⟨none,.store 1 86 84,none⟩] [0,1,6,7,9] []))<|.region [m 43 9,ad 44 43 1,m 9 44] [0,1,6,7,9] [])))<|s [m 87 6,m 88 7,nc 89 87,fa 90 0 89,⟨none,.store 1 90 88,none⟩] [6,7]<|s [m 91 6,m 92 7,c 93
 F.lV [92],nc 94 91,fa 95 2 94,⟨none,.store 1 95 93,none⟩] [6]<|s [m 96 6,m 4 96,mi 5 0] [4,5]<|.ret
theorem CdV.l13Read_k:CK 161 Tryz.f161 CdV.l13Read 97 [.tmp 4,.tmp 5]:=ck Tryz.func161
attribute [go_sem] CdV.l13Read
def wW (ns:List Int):Int:=ns.foldl (λa n=>IntKind.i64.wrap (a+n)) 0
theorem aIF {F:List Int}{i:Nat} (h:i<F.length):wW (F.take (i+1))=IntKind.i64.wrap (wW (F.take i)+F[i]):=by
 unfold wW;rw[bB h,List.foldl_append];rfl
theorem aJM (sf st:Int) (l:List (List Int)):wW (l.map λc=>(gT sf st c).1)=jH sf st l:=by
 unfold wW jH;rw[List.foldl_map]
theorem aLv {F:List Int}{i:Nat}{x:Int} (h:F[i]? = some x):wW (F.take (i+1))=IntKind.i64.wrap (wW (F.take i)+x):=by
 obtain⟨hi,rfl⟩:=List.getElem?_eq_some_iff.1 h;exact aIF hi
def cRw (n:Int):List AV:=[.sl 1 [[.v (.int .i64 n)]]]
theorem aMq {F:List Int}{i:Nat} (h:i<F.length):(E cRw F).getD i []=[.sl 1 [[.v (.int .i64 (F.getD i 0))]]]:=by rw[aQ h];simp[cRw,List.getD,h]
attribute [local irreducible] wW
theorem aG0 (g0 g1 s0 s1 w:Int) (hw:inB w 1 20=true) (hf:dR g0 g1 w=true) (hn:nO s0 s1 w=true):Fz F.aAr [.ro [.v (.int .i64 g0),.v (.int .i64 g1),.sl 2 [[.v (.int .i64 s0),.v (.int .i64 s1)]],.v (.bool false)],.v (.int .i64 w)] (.v (.bool true)):=by
 have hn2:=hn;unfold nO at hn2;rw[Bool.and_eq_true] at hn2;obtain⟨hn0,hn1⟩:=hn2;have IN:=zI w 1 20;rw[hw] at IN;have FG:=dH g0 g1 w;rw[hf] at FG;have FS:=dH s0 s1 w;rw[hn0] at FS
 have e12:decide (IntKind.i64.wrap (s1-s0)>12)=false:=by
  have:=of_decide_eq_true hn1;exact decide_eq_false (by unfold W at this;omega)
 refine fn0 Cd.s_l13Ok_k λX=>?_
 repeat' first|simp -dsimp only[go_sem,e12]|apply Br.mk<;>intro h<;>try simp -dsimp only[h]|refine aD.c (by first|exact IN|exact FG) ?_|refine aC ?_|fail
 refine aN.at dM (X:={zz:Nat×(Unit) // zz.1<=1∧True}) (λzz=>[(5,.v (.int .i64 zz.1.1))]) (λzz=>[]) (λzz=>1-zz.1.1) ⟨(0,()),by omega,trivial⟩ ?_ ?_
 .exact le0
 .rintro⟨⟨i,_⟩,hi,hg⟩;dsimp only at hi hg;simp -dsimp only[go_sem];refine Br.mk (λhc=>?_) λhc=>?_
  .have hlt:i<1:=Dq;have hw:=aH hlt (by omega);obtain rfl:i=0:=by omega
   repeat' first|simp -dsimp only[go_sem,hw,e12]|apply Br.mk<;>intro h<;>try simp -dsimp only[h]|refine aD.c (by first|exact FS) ?_|refine aC ?_|fail
   all_goals first|omega|(exact nx (1,()) trivial)
  .have hge:i=1:=by
    have:¬i<1:=Dq;omega
   subst hge;simp -dsimp only[go_sem]
   first|exact⟨⟨_,_,rfl,rfl⟩,λh=>h rfl⟩|(simp;done)
theorem r_end (U:AV) (H:List Int) (L:List ByteArray) (g:Nat) (Y:g<H.length) (Z:H.length<=1048576):Fz F.nE [.ro [.sl 1 (E cSt L),U,.sl 1 (E cI H)],.v (.int .i64 (g:Int))] (.v (.int .i64 (if g+1<H.length then H.getD (g+1) 0 else(L.length:Int)))):=by
 have J:IntKind.i64.wrap ((g:Int)+1)=((g+1:Nat):Int):=by rw[aO (by omega) (by omega)];omega
 by_cases h:g+1<H.length
 .have I:decide (((g+1:Nat):Int)<(H.length:Int))=true:=decide_eq_true (by omega);have O:(E cI H).getD (g+1) []=[.v (.int .i64 (H.getD (g+1) 0))]:=by rw[aQ h];simp[cI,List.getD,h]
  rw[if_pos h];refine fn0 Cd._s_l13R__end_k λX=>?_
  repeat' first|simp -dsimp only[go_sem,J,I,O]|apply Br.mk<;>intro h<;>try simp -dsimp only[h]|refine aC ?_|fail
  all_goals first|exact⟨_,_,rfl,rfl⟩
 .have I:decide (((g+1:Nat):Int)<(H.length:Int))=false:=decide_eq_false (by omega);rw[if_neg h];refine fn0 Cd._s_l13R__end_k λX=>?_
  repeat' first|simp -dsimp only[go_sem,J,I]|apply Br.mk<;>intro h<;>try simp -dsimp only[h]|refine aC ?_|fail
  all_goals first|exact⟨_,_,rfl,rfl⟩
theorem aNd (kv hv:AV) (ns:List Int) (fr to:Nat) (h1:fr<=to) (h2:to<=ns.length) (hl:ns.length<=1048576):Fz F.lI [.ro [kv,.sl 1 (E cRw ns),hv],.v (.int .i64 (fr:Int)),.v (.int .i64 (to:Int)),.v (.int .i64 1)] (.sl 1 (E cI [wW ((ns.take to).drop fr)])):=by
 have hml:((ns.take to).drop fr).length=to-fr:=by simp;omega
 have hge:∀i,i<to-fr->((ns.take to).drop fr)[i]? = some (ns.getD (fr+i) 0):=by
  intro i h;rw[List.getElem?_drop,List.getElem?_take,if_pos (by omega)];simp[List.getD,(by omega:fr+i<ns.length)]
 generalize hm:(ns.take to).drop fr=ms at *
 have e1c:∀x:Int,E cI [x]=[[.v (.int .i64 x)]]:=λ_=>rfl;refine fn0 Cd._s_l13R__sums_k λX=>?_
 repeat' first|simp -dsimp only[go_sem]|apply Br.mk<;>intro h<;>try simp -dsimp only[h]|refine aC ?_|fail
 refine aN.at dM (X:={zz:Nat×(Unit) // zz.1<=(to-fr)∧True}) (λzz=>[(9,.loc (.t 13 0) 0 1),(10,.v (.int .i64 ((fr+zz.1.1:Nat):Int)))]) (λzz=>[(.t 13 0,.arr 1 (E cI [wW (ms.take zz.1.1)]) false)]) (λzz=>(to-fr)-zz.1.1) ⟨(0,()),by omega,trivial⟩ ?_ ?_
 .simp[Vs.LeL,Vs.look,Vs.aB,Vs.aR,Vs.aK,Vs.hset,Vs.aL,Vs.E,cI,wW]
 .rintro⟨⟨i,_⟩,hi,hg⟩;dsimp only at hi hg;simp -dsimp only[go_sem];refine Br.mk (λhc=>?_) λhc=>?_
  .have hlt:i<(to-fr):=Dq;have hw:=aH hlt (by omega);have hj:((fr+i:Nat):Int).toNat=fr+i:=by omega
   have gr:=aMq (by omega:fr+i<ns.length);have hss:=aLv (hge i (by omega));have hwj:IntKind.i64.wrap (((fr+i:Nat):Int)+1)=((fr+(i+1):Nat):Int):=by rw[aO (by omega) (by omega)];omega
   obtain⟨j,rfl⟩:∃j,j=i:=⟨i,rfl⟩;simp -dsimp only[go_sem];refine aN.at dM (X:={zz:Nat×(Unit) // zz.1<=1∧True}) (λzz=>[(9,.loc (.t 13 0) 0 1),(17,.junk),(11,.v (.int .i64 zz.1.1))]) (λzz=>[(.t 13 0,.arr 1 (E cI [if zz.1.1=0 then wW (ms.take j) else wW (ms.take (j+1))]) false)]) (λzz=>1-zz.1.1) ⟨(0,()),by omega,trivial⟩ ?_ ?_
   .simp[Vs.LeL,Vs.look,Vs.aB,Vs.aR,Vs.aK,Vs.hset,Vs.aL,Vs.E,cI]
   .rintro⟨⟨i,_⟩,hi,hg⟩;dsimp only at hi hg;simp -dsimp only[go_sem];refine Br.mk (λhc=>?_) λhc=>?_
    .have hlt:i<1:=Dq;have hw:=aH hlt (by omega);obtain rfl:i=0:=by omega
     repeat' first|simp -dsimp only[go_sem,gr,hj,hss,e1c,hw]|apply Br.mk<;>intro h<;>try simp -dsimp only[h]|refine aC ?_|fail
     all_goals first|omega|(exact nx (1,()) trivial (h2:=by simp[Vs.LeL,Vs.look,Vs.aB,Vs.aR,Vs.aK,Vs.hset,Vs.aL,hss,Vs.E,cI]))
    .have hge:i=1:=by
      have:¬i<1:=Dq;omega
     subst hge;simp -dsimp only[go_sem];refine And.intro ?_ (λh=>absurd rfl h);simp -dsimp only[go_sem,hwj]
     first|(exact⟨⟨(j+1,()),by omega,trivial⟩,by simp[Vs.LeL,Vs.look,Vs.aB,Vs.aR,Vs.aK,Vs.hset,Vs.aL],by simp only;omega⟩)
  .have hge:i=(to-fr):=by
    have:¬i<(to-fr):=Dq;omega
   subst hge;simp -dsimp only[go_sem];have hfull:(E cI [wW (ms.take (to-fr))]).take 1=E cI [wW ms]:=by rw[List.take_of_length_le (l:=ms) (by omega)];rfl
   first|(rw[hfull];exact⟨⟨_,_,rfl,rfl⟩,λh=>h rfl⟩)
end
section
variable [Vs.Envs]
attribute [local irreducible] Vs.Fn bI gT aY wW bK chOK areCh chTo chAt l03 chB rk cd3 chI stp stpTo
def lM (sf st:Int) (l:List (List Int)):List Int:=l.map λc=>(gT sf st c).1
theorem jT (sf st:Int) (l:List (List Int)):(lM sf st l).length=l.length:=by simp[lM]
theorem aCG {sf st:Int}{l:List (List Int)}{i:Nat} (h:i<l.length):E cRw ((lM sf st l).take i)++[[.sl 1 [[.v (.int .i64 (gT sf st l[i]).1)]]]]=E cRw ((lM sf st l).take (i+1)):=by
 rw[bB (by rw[jT];exact h),aV];simp[lM,E,cRw]
def jJ (sf st:Int) (l:List (List Int)) (i:Nat):AV:=if i=0 then .v (.slice none 0 0) else .loc (.t 84 0) 0 i
def jI (sf st:Int) (l:List (List Int)) (i:Nat):List (Vs.Name×Blk):=if i=0 then[] else[(.t 84 0,.arr 1 (E cRw ((lM sf st l).take i)) false)]
def u6 (sf st:Int) (l:List (List Int)) (i:Nat):AV:=if i=0 then .v (.slice none 0 0) else .sl 1 (E cRw ((lM sf st l).take i))
section
variable (l:List (List Int)) (fr to sf st:Int) (hk:bJ l) (hd:bA l=true) (hf:dR fr to (bF l)=true) (hn:nO sf st (bF l)=true)
include hk hd hf hn
theorem aEj:inB (bF l) 1 20=true:=by
 have _:=hk;have _:=hf;have _:=hn;by_cases H:l.length=0
 .unfold bF;rw[if_pos H];rfl
 .have F:=hd;simp only[bA,Bool.and_eq_true,List.all_eq_true,decide_eq_true_eq] at F;have I:l.getD 0 []∈l:=by rw[show l.getD 0 []=l[0]'(by omega) by simp[List.getD,(by omega:0<l.length)]];exact List.getElem_mem _
  have:=(F.1 _ I).1;simp only[gL,inB,Bool.and_eq_true,decide_eq_true_eq] at this;unfold bF;rw[if_neg H];simp only[inB,Bool.and_eq_true,decide_eq_true_eq];omega
theorem aGZ (U:bP fr to l=false):Fz F.yK [.ro [.v (.int .i64 fr),.v (.int .i64 to),.sl 2 [[.v (.int .i64 sf),.v (.int .i64 st)]],.v (.bool false)],.sl 1 (E cC l)] (.tup [.ro [.v (.slice none 0 0),.v (.slice none 0 0),.v (.slice none 0 0)],.v (.int .i64 8)]):=by
 have I:=cB l hk.2 hk.1;rw[hd] at I;have O:=dV l;have H:=aG0 fr to sf st (bF l) (aEj l fr to sf st hk hd hf hn) hf hn;have J:=jK l fr to hk.2 hk.1;have L:aY fr to l=8:=by simp only[aY,hd,hf,U];rfl
 rw[show mV fr to l=.v (.slice none 0 0) by simp[mV,L],L] at J;refine fn0 CdV.l13Read_k λX=>?_
 repeat' first|simp -dsimp only[go_sem,Int.reduceBEq,Int.reduceBNe,cC,cFd,aI,List.replicate_succ,List.replicate_zero,List.flatten_cons,List.flatten_nil,List.cons_append,List.nil_append,List.set_cons_zero,List.set_cons_succ,List.length_cons,List.length_nil,List.length_set,List.getD_cons_zero]|apply Br.mk<;>intro h<;>try simp -dsimp only[h]|refine aD.c (by first|exact I|exact O|exact H|exact J) ?_|refine aC ?_|fail
 all_goals first|exact⟨_,_,rfl,rfl⟩
attribute [local go_sem] Int.reduceBEq Int.reduceBNe cFd aI List.replicate_succ List.replicate_zero List.flatten_cons List.flatten_nil List.cons_append List.nil_append List.set_cons_zero List.set_cons_succ List.length_cons List.length_nil List.length_set List.getD_cons_zero in
theorem aGY (ha:bP fr to l=true) (hN:z8 sf st l=true):Fz F.yK [.ro [.v (.int .i64 fr),.v (.int .i64 to),.sl 2 [[.v (.int .i64 sf),.v (.int .i64 st)]],.v (.bool false)],.sl 1 (E cC l)] (.tup [.ro [.sl 1 (E cSt (bK fr to l)),u6 sf st l l.length,.sl 1 (E cI (bI fr to l l.length))],.v (.int .i64 0)]):=by
 have DK:=cB l hk.2 hk.1;rw[hd] at DK;have WD:=dV l;have OKS:=aG0 fr to sf st (bF l) (aEj l fr to sf st hk hd hf hn) hf hn;have KS:=jK l fr to hk.2 hk.1;have ho:=eF hd hf;have h40:=kM hd;have hc:aY fr to l=0:=by simp only[aY,hd,hf,ha];rfl
 rw[show mV fr to l=.sl 1 (E cSt (bK fr to l)) by simp[mV,hc],hc] at KS;have hp:∀c,c∈l->okP sf st c:=aGR hd hn;have e1c:∀x:Int,E cI [x]=[[.v (.int .i64 x)]]:=λ_=>rfl;have hok:∀j,(h:j<l.length)->j<l.length->(gT sf st l[j]).2=true:=λj h _=>List.all_eq_true.1 hN _ (List.getElem_mem h);have GR:=aDV l fr to ho ha (by omega);have hgl:=jG fr to l l.length;refine fn0 CdV.l13Read_k λX=>?_
 repeat' first|simp -dsimp only[go_sem,cC]|apply Br.mk<;>intro h<;>try simp -dsimp only[h]|refine aD.c (by first|exact DK|exact WD|exact OKS|exact KS) ?_|refine aC ?_|fail
 refine aN.at dM (X:={j:Nat // j<=l.length}) (λj=>[(9,.v (.int .i64 (j.1:Nat)))]) (λj=>(.t 15 0,.var [.v (.slice none 0 0),jJ sf st l j.1,.v (.slice none 0 0)] false)::jI sf st l j.1) (λj=>l.length-j.1) ⟨0,by omega⟩ ?_ ?_
 .simp[Vs.LeL,Vs.look,Vs.aB,Vs.aR,Vs.aK,Vs.hset,Vs.aL,jJ,jI]
 .rintro⟨j,hj⟩
  try dsimp only at hj
  by_cases hjm:j<l.length
  .have hlt:j<l.length:=by omega
   have ht:decide ((j:Int)<(l.length:Int))=true:=decide_eq_true (by omega);have gj:(E cC l).getD j []=[.sl 1 (E cI l[j])]:=aQ hlt;have PC:=aFv (hp _ (List.getElem_mem hlt));have NI:=sG (hp _ (List.getElem_mem hlt));have hrow:=aCG (sf:=sf) (st:=st) hlt;have hrl:(E cRw ((lM sf st l).take j)).length=j:=by rw[aI,List.length_take,jT];omega
   have hrl2:((lM sf st l).take j).length=j:=by rw[List.length_take,jT];omega
   have hwj:IntKind.i64.wrap ((j:Int)+1)=((j+1:Nat):Int):=by rw[aO (by omega) (by omega)];omega
   rw[hok j hlt hjm] at NI;by_cases hj0:j=0
   .have hA:jJ sf st l j=.v (.slice none 0 0):=by simp[jJ,hj0]
    have hH:jI sf st l j=[]:=by simp[jI,hj0]
    have hr0:E cRw ((lM sf st l).take j)=[]:=by rw[hj0];rfl
    have hrow0:[[.sl 1 [[.v (.int .i64 (gT sf st l[j]).1)]]]]=E cRw ((lM sf st l).take (j+1)):=by rw[←hrow,hr0];rfl
    rw[hA,hH]
    repeat' first|simp -dsimp only[go_sem,ht,e1c,cC]|apply Br.mk<;>intro h<;>try simp -dsimp only[h]|refine aC ?_|fail
    refine aN.at dM (X:={zz:Nat×(Unit) // zz.1<=1∧True}) (λzz=>[(10,.loc (.t 10 0) 0 zz.1.1),(42,.junk),(11,.v (.int .i64 zz.1.1))]) (λzz=>[(.t 10 0,.arr 1 (E cI ([(gT sf st l[j]).1].take zz.1.1)) false)]) (λzz=>1-zz.1.1) ⟨(0,()),by omega,trivial⟩ ?_ ?_
    .simp[Vs.LeL,Vs.look,Vs.aB,Vs.aR,Vs.aK,Vs.hset,Vs.aL,Vs.E,cI]
    .rintro⟨⟨i,_⟩,hi,hg⟩;dsimp only at hi hg;simp -dsimp only[go_sem,cC];refine Br.mk (λhc=>?_) λhc=>?_
     .have hlt:i<1:=Dq;have hw:=aH hlt (by omega);obtain rfl:i=0:=by omega
      repeat' first|simp -dsimp only[go_sem,gj,e1c,cC,hw]|apply Br.mk<;>intro h<;>try simp -dsimp only[h]|refine aD.c (by first|exact PC|exact NI) ?_|refine aC ?_|fail
      all_goals first|omega|(exact nx (1,()) trivial (h2:=by simp[Vs.LeL,Vs.look,Vs.aB,Vs.aR,Vs.aK,Vs.hset,Vs.aL,Vs.E,cI]))
     .have hge:i=1:=by
       have:¬i<1:=Dq;omega
      subst hge;simp -dsimp only[go_sem,cC]
      repeat' first|simp -dsimp only[go_sem,hwj,e1c,hrow,hrl,hrl2,ht,hrow0,cC]|apply Br.mk<;>intro h<;>try simp -dsimp only[h]|refine And.intro ?_ (λh=>absurd rfl h)|refine aC ?_|fail
      first|(exact⟨⟨j+1,by omega⟩,by simp[Vs.LeL,Vs.look,Vs.aB,Vs.aR,Vs.aK,Vs.hset,Vs.aL,jJ,jI,hrow,Vs.E,hj0],by simp only;omega⟩)
   .have hA:jJ sf st l j=.loc (.t 84 0) 0 j:=by simp[jJ,hj0]
    have hH:jI sf st l j=[(.t 84 0,.arr 1 (E cRw ((lM sf st l).take j)) false)]:=by simp[jI,hj0]
    rw[hA,hH]
    repeat' first|simp -dsimp only[go_sem,ht,e1c,cC]|apply Br.mk<;>intro h<;>try simp -dsimp only[h]|refine aC ?_|fail
    refine aN.at dM (X:={zz:Nat×(Unit) // zz.1<=1∧True}) (λzz=>[(10,.loc (.t 10 0) 0 zz.1.1),(42,.junk),(11,.v (.int .i64 zz.1.1))]) (λzz=>[(.t 10 0,.arr 1 (E cI ([(gT sf st l[j]).1].take zz.1.1)) false)]) (λzz=>1-zz.1.1) ⟨(0,()),by omega,trivial⟩ ?_ ?_
    .simp[Vs.LeL,Vs.look,Vs.aB,Vs.aR,Vs.aK,Vs.hset,Vs.aL,Vs.E,cI]
    .rintro⟨⟨i,_⟩,hi,hg⟩;dsimp only at hi hg;simp -dsimp only[go_sem,cC];refine Br.mk (λhc=>?_) λhc=>?_
     .have hlt:i<1:=Dq;have hw:=aH hlt (by omega);obtain rfl:i=0:=by omega
      repeat' first|simp -dsimp only[go_sem,gj,e1c,cC,hw]|apply Br.mk<;>intro h<;>try simp -dsimp only[h]|refine aD.c (by first|exact PC|exact NI) ?_|refine aC ?_|fail
      all_goals first|omega|(exact nx (1,()) trivial (h2:=by simp[Vs.LeL,Vs.look,Vs.aB,Vs.aR,Vs.aK,Vs.hset,Vs.aL,Vs.E,cI]))
     .have hge:i=1:=by
       have:¬i<1:=Dq;omega
      subst hge;simp -dsimp only[go_sem,cC]
      repeat' first|simp -dsimp only[go_sem,hwj,e1c,hrow,hrl,hrl2,ht,cC]|apply Br.mk<;>intro h<;>try simp -dsimp only[h]|refine And.intro ?_ (λh=>absurd rfl h)|refine aC ?_|fail
      first|(exact⟨⟨j+1,by omega⟩,by simp[Vs.LeL,Vs.look,Vs.aB,Vs.aR,Vs.aK,Vs.hset,Vs.aL,jJ,jI,hrow,Vs.E],by simp only;omega⟩)
  .obtain rfl:j=l.length:=by omega
   have ht:decide ((l.length:Int)<(l.length:Int))=false:=by simp
   by_cases hj0:l.length=0
   .have hA:jJ sf st l l.length=.v (.slice none 0 0):=by simp[jJ,hj0]
    have hH:jI sf st l l.length=[]:=by simp[jI,hj0]
    rw[hA,hH,show u6 sf st l l.length=.v (.slice none 0 0) by simp[u6,hj0]]
    repeat' first|simp -dsimp only[go_sem,ht,cC]|apply Br.mk<;>intro h<;>try simp -dsimp only[h]|refine aD.c (by first|exact GR) ?_|refine And.intro ?_ (λh=>absurd rfl h)|refine aC ?_|fail
    all_goals first|exact⟨⟨_,_,rfl,rfl⟩,λh=>h rfl⟩|exact⟨_,_,rfl,rfl⟩
   .have hA:jJ sf st l l.length=.loc (.t 84 0) 0 l.length:=by simp[jJ,hj0]
    have hH:jI sf st l l.length=[(.t 84 0,.arr 1 (E cRw ((lM sf st l).take l.length)) false)]:=by simp[jI,hj0]
    rw[hA,hH,show u6 sf st l l.length=.sl 1 (E cRw ((lM sf st l).take l.length)) by simp[u6,hj0]];have htk:(E cRw ((lM sf st l).take l.length)).take l.length=E cRw ((lM sf st l).take l.length):=List.take_of_length_le (by rw[aI,List.length_take,jT];omega);simp -dsimp only[go_sem,ht,cC]
    repeat' first|simp -dsimp only[go_sem,ht,htk,cC]|apply Br.mk<;>intro h<;>try simp -dsimp only[h]|refine aD.c (by first|exact GR) ?_|refine And.intro ?_ (λh=>absurd rfl h)|refine aC ?_|fail
    all_goals first|exact⟨⟨_,_,rfl,rfl⟩,λh=>h rfl⟩|exact⟨_,_,rfl,rfl⟩
end
end
end Go.Proofs.YtmiiohemehacjaaGreatDoor
