/- Offices that are valid. -/
import Derived.Test.YtonkjfiffcfaoaaGreatUwVb
import Derived.Test.YtonkjfiffcfaoaaGreatUwVf
import Derived.Test.YtonkjfiffcfaoaaGreatUwQd
import Derived.Test.YtonkjfiffcfaoaaGreatUwSm
import Derived.Test.YtonkjfiffcfaoaaGreatVtR
import Derived.Test.YtonkjfiffcfaoaaGreatUwC
import Derived.Test.YtonkjfiffcfaoaaGreatUuS
set_option linter.all false
set_option maxHeartbeats 8000000
namespace Go.Proofs.YtonkjfiffcfaoaaGreat
open Go.Vs
section
variable [Vs.Envs]
attribute [local irreducible] Vs.Fn bR lW bH cZ aW dA dB l03 chB rk cd3 chI stp aY
attribute [local go_sem] Int.reduceBEq Int.reduceBNe cC cFd aG List.replicate_succ List.replicate_zero List.flatten_cons List.flatten_nil List.cons_append List.nil_append List.set_cons_zero List.set_cons_succ List.length_cons List.length_nil List.length_set List.getD_cons_zero
open Go.Vs.Q in
def CdV.l13Read:aD:=s [o 4 (.mv (.const (.pointer none))),mi 5 0] [0,1]<|s [o 14 (.build [.v (.slice none 0 0),.v (.slice none 0 0),.v (.slice none 0 0)] []),bx 15 14,m 6 15] [0,1,6]<|.seq (s [m 16 1,c 17 F.jN [16],nt 18 17] [0,1,6,18]<|.cond 18 (s [m 19 6,m 4 19,mi 5 1] [4,5]<|.ret) .skip)<|.seq (s [m 20 0,m
 21 1,c 22 F.iE [21],c 23 F.aAa [20,22],nt 24 23] [0,1,6,24]<|.cond 24 (s [m 25 6,m 4 25,mi 5 2] [4,5]<|.ret) .skip)<|s [m 27 1,m 28 0,nc 29 28,fa 30 0 29,lt 31 2 30,c 32 F.jL [27,31],m 26 32,ex 33 26 0,ex 34 26 1,m 7 33,m 8 34] [0,1,6,7,8]<|.seq (s [m 35 8,ne 36 35 0]
 [0,1,6,7,8,36]<|.cond 36 (s [m 37 6,m 38 8,m 4 37,m 5 38] [4,5]<|.ret) .skip)<|.seq (s [mi 9 0] [0,1,6,7,9]<|.block 0 (.loop (.seq (s [m 39 9,m 40 1,ln 41 40,ls 42 39 41] [0,1,6,7,9,42]<|.cond 42 .skip (.exit 0))<|.seq (.block 1 (.seq (.naming 10 (.region [o 45 (.bslice 1 0 [.v (.int .i64 (0))] []),m
 10 45] [0,1,6,7,9,10] []))<|.seq (s [mi 11 0] [0,1,6,7,9,10,11]<|.closing 10 (.block 2 (.loop (.seq (s [m 46 11,m 47 0,nc 48 47,fa 49 2 48,lf 50 1 49,ln 51 50,ls 52 46 51] [0,1,6,7,9,10,11,52]<|.cond 52 .skip (.exit 2))<|.seq (.block 3 (r [m 56 1,m 57 9,ix 58 1 56 57,m 59 0,nc 60 59,fa 61 2 60,lf 62
 1 61,m 63 11,ix 64 2 62 63,lt 65 2 64,c 66 F.nW [58,65],c 67 F.l8 [66],m 55 67,ex 68 55 0,ex 69 55 1,m 12 68,m 13 69] [0,1,6,7,9,10,11,12,13] [56,57,59,58,60,61,62,63,64,65,66,67,55,68,69,12]<|.seq (s [m 70 13,nt 71 70] [0,1,6,7,9,10,11,12,71]<|.cond 71 (s [m 72 6,m 4 72,mi 5 8]
 [4,5]<|.ret) .skip)<|.naming 10 (.region [m 73 10,m 74 12,o 75 (.bslice 1 1 [.v (.int .i64 (0))] [(0,74)]),o 76 (.append 1 8 73 75),m 10 76] [0,1,6,7,9,10,11] [])))<|.region [m 53 11,ad 54 53 1,m 11 54] [0,1,6,7,9,10,11] []))))<|.region [m 77 6,m 78 6,nc 79 78,fa 80 1 79,lf 81 1 80,m 82 10,o 83
 (.bslice 1 1 [.v (.slice none 0 0)] [(0,82)]),o 84 (.append 1 24 81 83),nc 85 77,fa 86 1 85,⟨none,.store 1 86 84,none⟩] [0,1,6,7,9] []))<|.region [m 43 9,ad 44 43 1,m 9 44] [0,1,6,7,9] [])))<|s [m 87 6,m 88 7,nc 89 87,fa 90 0 89,⟨none,.store 1 90 88,none⟩] [6,7]<|s [m 91 6,m 92 7,c 93
 F.l6 [92],nc 94 91,fa 95 2 94,⟨none,.store 1 95 93,none⟩] [6]<|s [m 96 6,m 4 96,mi 5 0] [4,5]<|.ret
theorem CdV.l13Read_k:CK 116 Tryz.f116 CdV.l13Read 97 [.tmp 4,.tmp 5]:=ck Tryz.func116
attribute [go_sem] CdV.l13Read
def vT (ns:List Int):Int:=ns.foldl (fun a n=>IntKind.i64.wrap (a+n)) 0
theorem aHf {ns:List Int}{i:Nat} (h:i<ns.length):vT (ns.take (i+1))=IntKind.i64.wrap (vT (ns.take i)+ns[i]):=by
 unfold vT;rw[bK h,List.foldl_append];rfl
theorem aH8 (sf st:Int) (l:List (List Int)):vT (l.map fun c=>(lW sf st c).1)=jU sf st l:=by
 unfold vT jU;rw[List.foldl_map]
theorem aJV {ns:List Int}{i:Nat}{x:Int} (h:ns[i]? = some x):vT (ns.take (i+1))=IntKind.i64.wrap (vT (ns.take i)+x):=by
 obtain⟨hi,rfl⟩:=List.getElem?_eq_some_iff.1 h;exact aHf hi
def cRw (n:Int):List AV:=[.sl 1 [[.v (.int .i64 n)]]]
theorem aKT {ns:List Int}{i:Nat} (h:i<ns.length):(E cRw ns).getD i []=[.sl 1 [[.v (.int .i64 (ns.getD i 0))]]]:=by rw[aT h];simp[cRw,List.getD,h]
attribute [local irreducible] vT
theorem aFM (g0 g1 s0 s1 w:Int) (hw:inB w 1 20=true) (hf:dU g0 g1 w=true) (hn:uY s0 s1 w=true):Fz F.aAa [.ro [.v (.int .i64 g0),.v (.int .i64 g1),.sl 2 [[.v (.int .i64 s0),.v (.int .i64 s1)]],.v (.bool false)],.v (.int .i64 w)] (.v (.bool true)):=by
 have hn2:=hn;unfold uY at hn2;rw[Bool.and_eq_true] at hn2;obtain⟨hn0,hn1⟩:=hn2;have IN:=tT w 1 20;rw[hw] at IN;have FG:=dQ g0 g1 w;rw[hf] at FG;have FS:=dQ s0 s1 w;rw[hn0] at FS
 have e12:decide (IntKind.i64.wrap (s1-s0)>12)=false:=by
  have:=of_decide_eq_true hn1;exact decide_eq_false (by unfold W at this;omega)
 refine fn0 Cd.s_l13Ok_k fun X=>?_
 repeat' first|simp -dsimp only[go_sem,e12]|apply Br.mk<;>intro h<;>try simp -dsimp only[h]|refine aA.c (by first|exact IN|exact FG) ?_|refine aC ?_|fail
 refine aN.at dM (X:={zz:Nat×(Unit) // zz.1≤1∧True}) (fun zz=>[(5,.v (.int .i64 zz.1.1))]) (fun zz=>[]) (fun zz=>1-zz.1.1) ⟨(0,()),by omega,trivial⟩ ?_ ?_
 ·exact le0
 ·rintro⟨⟨i,_⟩,hi,hg⟩;dsimp only at hi hg;simp -dsimp only[go_sem];refine Br.mk (fun hc=>?_) fun hc=>?_
  ·have hlt:i<1:=Dq;have hw:=aH hlt (by omega);obtain rfl:i=0:=by omega
   repeat' first|simp -dsimp only[go_sem,hw,e12]|apply Br.mk<;>intro h<;>try simp -dsimp only[h]|refine aA.c (by first|exact FS) ?_|refine aC ?_|fail
   all_goals first|omega|(exact nx (1,()) trivial)
  ·have hge:i=1:=by
    have:¬i<1:=Dq;omega
   subst hge;simp -dsimp only[go_sem]
   first|exact⟨⟨_,_,rfl,rfl⟩,fun h=>h rfl⟩|(simp;done)
theorem r_end (nv:AV) (hs:List Int) (ks:List ByteArray) (g:Nat) (hg:g<hs.length) (hl:hs.length≤1048576):Fz F.nD [.ro [.sl 1 (E cSt ks),nv,.sl 1 (E cI hs)],.v (.int .i64 (g:Int))] (.v (.int .i64 (if g+1<hs.length then hs.getD (g+1) 0 else(ks.length:Int)))):=by
 have hw:IntKind.i64.wrap ((g:Int)+1)=((g+1:Nat):Int):=by rw[aO (by omega) (by omega)];omega
 by_cases h:g+1<hs.length
 ·have e1:decide (((g+1:Nat):Int)<(hs.length:Int))=true:=decide_eq_true (by omega);have gh:(E cI hs).getD (g+1) []=[.v (.int .i64 (hs.getD (g+1) 0))]:=by rw[aT h];simp[cI,List.getD,h]
  rw[if_pos h];refine fn0 Cd._s_l13R__end_k fun X=>?_
  repeat' first|simp -dsimp only[go_sem,hw,e1,gh]|apply Br.mk<;>intro h<;>try simp -dsimp only[h]|refine aC ?_|fail
  all_goals first|exact⟨_,_,rfl,rfl⟩
 ·have e1:decide (((g+1:Nat):Int)<(hs.length:Int))=false:=decide_eq_false (by omega);rw[if_neg h];refine fn0 Cd._s_l13R__end_k fun X=>?_
  repeat' first|simp -dsimp only[go_sem,hw,e1]|apply Br.mk<;>intro h<;>try simp -dsimp only[h]|refine aC ?_|fail
  all_goals first|exact⟨_,_,rfl,rfl⟩
theorem aLE (kv hv:AV) (ns:List Int) (fr to:Nat) (h1:fr≤to) (h2:to≤ns.length) (hl:ns.length≤1048576):Fz F.lM [.ro [kv,.sl 1 (E cRw ns),hv],.v (.int .i64 (fr:Int)),.v (.int .i64 (to:Int)),.v (.int .i64 1)] (.sl 1 (E cI [vT ((ns.take to).drop fr)])):=by
 have hml:((ns.take to).drop fr).length=to-fr:=by simp;omega
 have hge:∀i,i<to-fr→((ns.take to).drop fr)[i]? = some (ns.getD (fr+i) 0):=by
  intro i h;rw[List.getElem?_drop,List.getElem?_take,if_pos (by omega)];simp[List.getD,(by omega:fr+i<ns.length)]
 generalize hm:(ns.take to).drop fr=ms at *
 have e1c:∀x:Int,E cI [x]=[[.v (.int .i64 x)]]:=fun _=>rfl;refine fn0 Cd._s_l13R__sums_k fun X=>?_
 repeat' first|simp -dsimp only[go_sem]|apply Br.mk<;>intro h<;>try simp -dsimp only[h]|refine aC ?_|fail
 refine aN.at dM (X:={zz:Nat×(Unit) // zz.1≤(to-fr)∧True}) (fun zz=>[(9,.loc (.t 13 0) 0 1),(10,.v (.int .i64 ((fr+zz.1.1:Nat):Int)))]) (fun zz=>[(.t 13 0,.arr 1 (E cI [vT (ms.take zz.1.1)]) false)]) (fun zz=>(to-fr)-zz.1.1) ⟨(0,()),by omega,trivial⟩ ?_ ?_
 ·simp[Vs.LeL,Vs.look,Vs.aB,Vs.aP,Vs.aK,Vs.hset,Vs.aL,Vs.E,cI,vT]
 ·rintro⟨⟨i,_⟩,hi,hg⟩;dsimp only at hi hg;simp -dsimp only[go_sem];refine Br.mk (fun hc=>?_) fun hc=>?_
  ·have hlt:i<(to-fr):=Dq;have hw:=aH hlt (by omega);have hj:((fr+i:Nat):Int).toNat=fr+i:=by omega
   have gr:=aKT (by omega:fr+i<ns.length);have hss:=aJV (hge i (by omega));have hwj:IntKind.i64.wrap (((fr+i:Nat):Int)+1)=((fr+(i+1):Nat):Int):=by rw[aO (by omega) (by omega)];omega
   obtain⟨j,rfl⟩:∃j,j=i:=⟨i,rfl⟩;simp -dsimp only[go_sem];refine aN.at dM (X:={zz:Nat×(Unit) // zz.1≤1∧True}) (fun zz=>[(9,.loc (.t 13 0) 0 1),(17,.junk),(11,.v (.int .i64 zz.1.1))]) (fun zz=>[(.t 13 0,.arr 1 (E cI [if zz.1.1=0 then vT (ms.take j) else vT (ms.take (j+1))]) false)]) (fun zz=>1-zz.1.1) ⟨(0,()),by omega,trivial⟩ ?_ ?_
   ·simp[Vs.LeL,Vs.look,Vs.aB,Vs.aP,Vs.aK,Vs.hset,Vs.aL,Vs.E,cI]
   ·rintro⟨⟨i,_⟩,hi,hg⟩;dsimp only at hi hg;simp -dsimp only[go_sem];refine Br.mk (fun hc=>?_) fun hc=>?_
    ·have hlt:i<1:=Dq;have hw:=aH hlt (by omega);obtain rfl:i=0:=by omega
     repeat' first|simp -dsimp only[go_sem,gr,hj,hss,e1c,hw]|apply Br.mk<;>intro h<;>try simp -dsimp only[h]|refine aC ?_|fail
     all_goals first|omega|(exact nx (1,()) trivial (h2:=by simp[Vs.LeL,Vs.look,Vs.aB,Vs.aP,Vs.aK,Vs.hset,Vs.aL,hss,Vs.E,cI]))
    ·have hge:i=1:=by
      have:¬i<1:=Dq;omega
     subst hge;simp -dsimp only[go_sem];refine And.intro ?_ (fun h=>absurd rfl h);simp -dsimp only[go_sem,hwj]
     first|(exact⟨⟨(j+1,()),by omega,trivial⟩,by simp[Vs.LeL,Vs.look,Vs.aB,Vs.aP,Vs.aK,Vs.hset,Vs.aL],by simp only;omega⟩)
  ·have hge:i=(to-fr):=by
    have:¬i<(to-fr):=Dq;omega
   subst hge;simp -dsimp only[go_sem];have hfull:(E cI [vT (ms.take (to-fr))]).take 1=E cI [vT ms]:=by rw[List.take_of_length_le (l:=ms) (by omega)];rfl
   first|(rw[hfull];exact⟨⟨_,_,rfl,rfl⟩,fun h=>h rfl⟩)
end
section
variable [Vs.Envs]
attribute [local irreducible] Vs.Fn bR lW bH vT bQ cZ aW dA dB l03 chB rk cd3 chI stp aY
def lV (sf st:Int) (l:List (List Int)):List Int:=l.map fun c=>(lW sf st c).1
theorem kL (sf st:Int) (l:List (List Int)):(lV sf st l).length=l.length:=by simp[lV]
theorem aB6 {sf st:Int}{l:List (List Int)}{i:Nat} (h:i<l.length):E cRw ((lV sf st l).take i)++[[.sl 1 [[.v (.int .i64 (lW sf st l[i]).1)]]]]=E cRw ((lV sf st l).take (i+1)):=by
 rw[bK (by rw[kL];exact h),aR];simp[lV,E,cRw]
def j3 (sf st:Int) (l:List (List Int)) (i:Nat):AV:=if i=0 then .v (.slice none 0 0) else .loc (.t 84 0) 0 i
def jZ (sf st:Int) (l:List (List Int)) (i:Nat):List (Vs.Name×Blk):=if i=0 then[] else[(.t 84 0,.arr 1 (E cRw ((lV sf st l).take i)) false)]
def tO (sf st:Int) (l:List (List Int)) (i:Nat):AV:=if i=0 then .v (.slice none 0 0) else .sl 1 (E cRw ((lV sf st l).take i))
section
variable (l:List (List Int)) (fr to sf st:Int) (hk:bE l) (hd:aX l=true) (hf:dU fr to (bD l)=true) (hn:uY sf st (bD l)=true)
include hk hd hf hn
theorem aDv:inB (bD l) 1 20=true:=by
 have _:=hk;have _:=hf;have _:=hn;by_cases h0:l.length=0
 ·unfold bD;rw[if_pos h0];rfl
 ·have hd2:=hd;simp only[aX,Bool.and_eq_true,List.all_eq_true,decide_eq_true_eq] at hd2;have hm:l.getD 0 []∈l:=by rw[show l.getD 0 []=l[0]'(by omega) by simp[List.getD,(by omega:0<l.length)]];exact List.getElem_mem _
  have:=(hd2.1 _ hm).1;simp only[gF,inB,Bool.and_eq_true,decide_eq_true_eq] at this;unfold bD;rw[if_neg h0];simp only[inB,Bool.and_eq_true,decide_eq_true_eq];omega
theorem aFL (ha:bT fr to l=false):Fz F.xR [.ro [.v (.int .i64 fr),.v (.int .i64 to),.sl 2 [[.v (.int .i64 sf),.v (.int .i64 st)]],.v (.bool false)],.sl 1 (E cC l)] (.tup [.ro [.v (.slice none 0 0),.v (.slice none 0 0),.v (.slice none 0 0)],.v (.int .i64 8)]):=by
 have DK:=dH l hk.2 hk.1;rw[hd] at DK;have WD:=dL l;have OKS:=aFM fr to sf st (bD l) (aDv l fr to sf st hk hd hf hn) hf hn;have KS:=j4 l fr to hk.2 hk.1;have hc:bH fr to l=8:=by simp only[bH,hd,hf,ha];rfl
 rw[show gV fr to l=.v (.slice none 0 0) by simp[gV,hc],hc] at KS;refine fn0 CdV.l13Read_k fun X=>?_
 repeat' first|simp -dsimp only[go_sem,Int.reduceBEq,Int.reduceBNe,cC,cFd,aG,List.replicate_succ,List.replicate_zero,List.flatten_cons,List.flatten_nil,List.cons_append,List.nil_append,List.set_cons_zero,List.set_cons_succ,List.length_cons,List.length_nil,List.length_set,List.getD_cons_zero]|apply Br.mk<;>intro h<;>try simp -dsimp only[h]|refine aA.c (by first|exact DK|exact WD|exact OKS|exact KS) ?_|refine aC ?_|fail
 all_goals first|exact⟨_,_,rfl,rfl⟩
attribute [local go_sem] Int.reduceBEq Int.reduceBNe cFd aG List.replicate_succ List.replicate_zero List.flatten_cons List.flatten_nil List.cons_append List.nil_append List.set_cons_zero List.set_cons_succ List.length_cons List.length_nil List.length_set List.getD_cons_zero in
theorem aFK (ha:bT fr to l=true) (hN:zN sf st l=true):Fz F.xR [.ro [.v (.int .i64 fr),.v (.int .i64 to),.sl 2 [[.v (.int .i64 sf),.v (.int .i64 st)]],.v (.bool false)],.sl 1 (E cC l)] (.tup [.ro [.sl 1 (E cSt (bQ fr to l)),tO sf st l l.length,.sl 1 (E cI (bR fr to l l.length))],.v (.int .i64 0)]):=by
 have DK:=dH l hk.2 hk.1;rw[hd] at DK;have WD:=dL l;have OKS:=aFM fr to sf st (bD l) (aDv l fr to sf st hk hd hf hn) hf hn;have KS:=j4 l fr to hk.2 hk.1;have ho:=fA hd hf;have h40:=kX hd;have hc:bH fr to l=0:=by simp only[bH,hd,hf,ha];rfl
 rw[show gV fr to l=.sl 1 (E cSt (bQ fr to l)) by simp[gV,hc],hc] at KS;have hp:∀c,c∈l→okP sf st c:=aFD hd hn;have e1c:∀x:Int,E cI [x]=[[.v (.int .i64 x)]]:=fun _=>rfl;have hok:∀j,(h:j<l.length)→j<l.length→(lW sf st l[j]).2=true:=fun j h _=>List.all_eq_true.1 hN _ (List.getElem_mem h);have GR:=aDb l fr to ho ha (by omega);have hgl:=jT fr to l l.length;refine fn0 CdV.l13Read_k fun X=>?_
 repeat' first|simp -dsimp only[go_sem,cC]|apply Br.mk<;>intro h<;>try simp -dsimp only[h]|refine aA.c (by first|exact DK|exact WD|exact OKS|exact KS) ?_|refine aC ?_|fail
 refine aN.at dM (X:={j:Nat // j≤l.length}) (fun j=>[(9,.v (.int .i64 (j.1:Nat)))]) (fun j=>(.t 15 0,.var [.v (.slice none 0 0),j3 sf st l j.1,.v (.slice none 0 0)] false)::jZ sf st l j.1) (fun j=>l.length-j.1) ⟨0,by omega⟩ ?_ ?_
 ·simp[Vs.LeL,Vs.look,Vs.aB,Vs.aP,Vs.aK,Vs.hset,Vs.aL,j3,jZ]
 ·rintro⟨j,hj⟩
  try dsimp only at hj
  by_cases hjm:j<l.length
  ·have hlt:j<l.length:=by omega
   have ht:decide ((j:Int)<(l.length:Int))=true:=decide_eq_true (by omega);have gj:(E cC l).getD j []=[.sl 1 (E cI l[j])]:=aT hlt;have PC:=aIG (hp _ (List.getElem_mem hlt));have NI:=zD (hp _ (List.getElem_mem hlt));have hrow:=aB6 (sf:=sf) (st:=st) hlt;have hrl:(E cRw ((lV sf st l).take j)).length=j:=by rw[aG,List.length_take,kL];omega
   have hrl2:((lV sf st l).take j).length=j:=by rw[List.length_take,kL];omega
   have hwj:IntKind.i64.wrap ((j:Int)+1)=((j+1:Nat):Int):=by rw[aO (by omega) (by omega)];omega
   rw[hok j hlt hjm] at NI;by_cases hj0:j=0
   ·have hA:j3 sf st l j=.v (.slice none 0 0):=by simp[j3,hj0]
    have hH:jZ sf st l j=[]:=by simp[jZ,hj0]
    have hr0:E cRw ((lV sf st l).take j)=[]:=by rw[hj0];rfl
    have hrow0:[[.sl 1 [[.v (.int .i64 (lW sf st l[j]).1)]]]]=E cRw ((lV sf st l).take (j+1)):=by rw[←hrow,hr0];rfl
    rw[hA,hH]
    repeat' first|simp -dsimp only[go_sem,ht,e1c,cC]|apply Br.mk<;>intro h<;>try simp -dsimp only[h]|refine aC ?_|fail
    refine aN.at dM (X:={zz:Nat×(Unit) // zz.1≤1∧True}) (fun zz=>[(10,.loc (.t 10 0) 0 zz.1.1),(42,.junk),(11,.v (.int .i64 zz.1.1))]) (fun zz=>[(.t 10 0,.arr 1 (E cI ([(lW sf st l[j]).1].take zz.1.1)) false)]) (fun zz=>1-zz.1.1) ⟨(0,()),by omega,trivial⟩ ?_ ?_
    ·simp[Vs.LeL,Vs.look,Vs.aB,Vs.aP,Vs.aK,Vs.hset,Vs.aL,Vs.E,cI]
    ·rintro⟨⟨i,_⟩,hi,hg⟩;dsimp only at hi hg;simp -dsimp only[go_sem,cC];refine Br.mk (fun hc=>?_) fun hc=>?_
     ·have hlt:i<1:=Dq;have hw:=aH hlt (by omega);obtain rfl:i=0:=by omega
      repeat' first|simp -dsimp only[go_sem,gj,e1c,cC,hw]|apply Br.mk<;>intro h<;>try simp -dsimp only[h]|refine aA.c (by first|exact PC|exact NI) ?_|refine aC ?_|fail
      all_goals first|omega|(exact nx (1,()) trivial (h2:=by simp[Vs.LeL,Vs.look,Vs.aB,Vs.aP,Vs.aK,Vs.hset,Vs.aL,Vs.E,cI]))
     ·have hge:i=1:=by
       have:¬i<1:=Dq;omega
      subst hge;simp -dsimp only[go_sem,cC]
      repeat' first|simp -dsimp only[go_sem,hwj,e1c,hrow,hrl,hrl2,ht,hrow0,cC]|apply Br.mk<;>intro h<;>try simp -dsimp only[h]|refine And.intro ?_ (fun h=>absurd rfl h)|refine aC ?_|fail
      first|(exact⟨⟨j+1,by omega⟩,by simp[Vs.LeL,Vs.look,Vs.aB,Vs.aP,Vs.aK,Vs.hset,Vs.aL,j3,jZ,hrow,Vs.E,hj0],by simp only;omega⟩)
   ·have hA:j3 sf st l j=.loc (.t 84 0) 0 j:=by simp[j3,hj0]
    have hH:jZ sf st l j=[(.t 84 0,.arr 1 (E cRw ((lV sf st l).take j)) false)]:=by simp[jZ,hj0]
    rw[hA,hH]
    repeat' first|simp -dsimp only[go_sem,ht,e1c,cC]|apply Br.mk<;>intro h<;>try simp -dsimp only[h]|refine aC ?_|fail
    refine aN.at dM (X:={zz:Nat×(Unit) // zz.1≤1∧True}) (fun zz=>[(10,.loc (.t 10 0) 0 zz.1.1),(42,.junk),(11,.v (.int .i64 zz.1.1))]) (fun zz=>[(.t 10 0,.arr 1 (E cI ([(lW sf st l[j]).1].take zz.1.1)) false)]) (fun zz=>1-zz.1.1) ⟨(0,()),by omega,trivial⟩ ?_ ?_
    ·simp[Vs.LeL,Vs.look,Vs.aB,Vs.aP,Vs.aK,Vs.hset,Vs.aL,Vs.E,cI]
    ·rintro⟨⟨i,_⟩,hi,hg⟩;dsimp only at hi hg;simp -dsimp only[go_sem,cC];refine Br.mk (fun hc=>?_) fun hc=>?_
     ·have hlt:i<1:=Dq;have hw:=aH hlt (by omega);obtain rfl:i=0:=by omega
      repeat' first|simp -dsimp only[go_sem,gj,e1c,cC,hw]|apply Br.mk<;>intro h<;>try simp -dsimp only[h]|refine aA.c (by first|exact PC|exact NI) ?_|refine aC ?_|fail
      all_goals first|omega|(exact nx (1,()) trivial (h2:=by simp[Vs.LeL,Vs.look,Vs.aB,Vs.aP,Vs.aK,Vs.hset,Vs.aL,Vs.E,cI]))
     ·have hge:i=1:=by
       have:¬i<1:=Dq;omega
      subst hge;simp -dsimp only[go_sem,cC]
      repeat' first|simp -dsimp only[go_sem,hwj,e1c,hrow,hrl,hrl2,ht,cC]|apply Br.mk<;>intro h<;>try simp -dsimp only[h]|refine And.intro ?_ (fun h=>absurd rfl h)|refine aC ?_|fail
      first|(exact⟨⟨j+1,by omega⟩,by simp[Vs.LeL,Vs.look,Vs.aB,Vs.aP,Vs.aK,Vs.hset,Vs.aL,j3,jZ,hrow,Vs.E],by simp only;omega⟩)
  ·obtain rfl:j=l.length:=by omega
   have ht:decide ((l.length:Int)<(l.length:Int))=false:=by simp
   by_cases hj0:l.length=0
   ·have hA:j3 sf st l l.length=.v (.slice none 0 0):=by simp[j3,hj0]
    have hH:jZ sf st l l.length=[]:=by simp[jZ,hj0]
    rw[hA,hH,show tO sf st l l.length=.v (.slice none 0 0) by simp[tO,hj0]]
    repeat' first|simp -dsimp only[go_sem,ht,cC]|apply Br.mk<;>intro h<;>try simp -dsimp only[h]|refine aA.c (by first|exact GR) ?_|refine And.intro ?_ (fun h=>absurd rfl h)|refine aC ?_|fail
    all_goals first|exact⟨⟨_,_,rfl,rfl⟩,fun h=>h rfl⟩|exact⟨_,_,rfl,rfl⟩
   ·have hA:j3 sf st l l.length=.loc (.t 84 0) 0 l.length:=by simp[j3,hj0]
    have hH:jZ sf st l l.length=[(.t 84 0,.arr 1 (E cRw ((lV sf st l).take l.length)) false)]:=by simp[jZ,hj0]
    rw[hA,hH,show tO sf st l l.length=.sl 1 (E cRw ((lV sf st l).take l.length)) by simp[tO,hj0]];have htk:(E cRw ((lV sf st l).take l.length)).take l.length=E cRw ((lV sf st l).take l.length):=List.take_of_length_le (by rw[aG,List.length_take,kL];omega);simp -dsimp only[go_sem,ht,cC]
    repeat' first|simp -dsimp only[go_sem,ht,htk,cC]|apply Br.mk<;>intro h<;>try simp -dsimp only[h]|refine aA.c (by first|exact GR) ?_|refine And.intro ?_ (fun h=>absurd rfl h)|refine aC ?_|fail
    all_goals first|exact⟨⟨_,_,rfl,rfl⟩,fun h=>h rfl⟩|exact⟨_,_,rfl,rfl⟩
end
end
section
variable [Vs.Envs]
attribute [local irreducible] Vs.Fn bR lW bH vT bQ jU cZ aW dA dB l03 chB rk cd3 chI stp aY
theorem aDj {α:Type}{p:α→Bool}:∀{l:List α},l.all p=false→∃m,∃h:m<l.length,p l[m]=false∧∀j,(hj:j<l.length)→j<m→p l[j]=true
 | [],h=>by simp at h
 | x::r,h=>by
  cases hx:p x
  ·exact⟨0,by simp,by simpa using hx,fun j _ hj=>by omega⟩
  ·rw[List.all_cons,hx,Bool.true_and] at h;obtain⟨m,hm,h1,h2⟩:=aDj h;refine⟨m+1,by simpa using hm,by simpa using h1,fun j hj hjm=>?_⟩;cases j with
   |zero=>simpa using hx
   |succ j=>simpa using h2 j (by simpa using hj) (by omega)
section
variable (l:List (List Int)) (fr to sf st:Int) (hk:bE l) (hd:aX l=true) (hf:dU fr to (bD l)=true) (hn:uY sf st (bD l)=true)
include hk hd hf hn
attribute [local go_sem] Int.reduceBEq Int.reduceBNe cFd aG List.replicate_succ List.replicate_zero List.flatten_cons List.flatten_nil List.cons_append List.nil_append List.set_cons_zero List.set_cons_succ List.length_cons List.length_nil List.length_set List.getD_cons_zero in
theorem aEP (ha:bT fr to l=true) (hN:zN sf st l=false):∃v,Fz F.xR [.ro [.v (.int .i64 fr),.v (.int .i64 to),.sl 2 [[.v (.int .i64 sf),.v (.int .i64 st)]],.v (.bool false)],.sl 1 (E cC l)] (.tup [.ro v,.v (.int .i64 8)]):=by
 obtain⟨m,hm,hbad,hok0⟩:=aDj hN;refine⟨[.v (.slice none 0 0),tO sf st l m,.v (.slice none 0 0)],?_⟩;have DK:=dH l hk.2 hk.1;rw[hd] at DK;have WD:=dL l;have OKS:=aFM fr to sf st (bD l) (aDv l fr to sf st hk hd hf hn) hf hn;have KS:=j4 l fr to hk.2 hk.1;have ho:=fA hd hf;have h40:=kX hd;have hc:bH fr to l=0:=by simp only[bH,hd,hf,ha];rfl
 rw[show gV fr to l=.sl 1 (E cSt (bQ fr to l)) by simp[gV,hc],hc] at KS;have hp:∀c,c∈l→okP sf st c:=aFD hd hn;have e1c:∀x:Int,E cI [x]=[[.v (.int .i64 x)]]:=fun _=>rfl;have hok:∀j,(h:j<l.length)→j<m→(lW sf st l[j]).2=true:=hok0;refine fn0 CdV.l13Read_k fun X=>?_
 repeat' first|simp -dsimp only[go_sem,cC]|apply Br.mk<;>intro h<;>try simp -dsimp only[h]|refine aA.c (by first|exact DK|exact WD|exact OKS|exact KS) ?_|refine aC ?_|fail
 refine aN.at dM (X:={j:Nat // j≤m}) (fun j=>[(9,.v (.int .i64 (j.1:Nat)))]) (fun j=>(.t 15 0,.var [.v (.slice none 0 0),j3 sf st l j.1,.v (.slice none 0 0)] false)::jZ sf st l j.1) (fun j=>m-j.1) ⟨0,by omega⟩ ?_ ?_
 ·simp[Vs.LeL,Vs.look,Vs.aB,Vs.aP,Vs.aK,Vs.hset,Vs.aL,j3,jZ]
 ·rintro⟨j,hj⟩
  try dsimp only at hj
  by_cases hjm:j<m
  ·have hlt:j<l.length:=by omega
   have ht:decide ((j:Int)<(l.length:Int))=true:=decide_eq_true (by omega);have gj:(E cC l).getD j []=[.sl 1 (E cI l[j])]:=aT hlt;have PC:=aIG (hp _ (List.getElem_mem hlt));have NI:=zD (hp _ (List.getElem_mem hlt));have hrow:=aB6 (sf:=sf) (st:=st) hlt;have hrl:(E cRw ((lV sf st l).take j)).length=j:=by rw[aG,List.length_take,kL];omega
   have hrl2:((lV sf st l).take j).length=j:=by rw[List.length_take,kL];omega
   have hwj:IntKind.i64.wrap ((j:Int)+1)=((j+1:Nat):Int):=by rw[aO (by omega) (by omega)];omega
   rw[hok j hlt hjm] at NI;by_cases hj0:j=0
   ·have hA:j3 sf st l j=.v (.slice none 0 0):=by simp[j3,hj0]
    have hH:jZ sf st l j=[]:=by simp[jZ,hj0]
    have hr0:E cRw ((lV sf st l).take j)=[]:=by rw[hj0];rfl
    have hrow0:[[.sl 1 [[.v (.int .i64 (lW sf st l[j]).1)]]]]=E cRw ((lV sf st l).take (j+1)):=by rw[←hrow,hr0];rfl
    rw[hA,hH]
    repeat' first|simp -dsimp only[go_sem,ht,e1c,cC]|apply Br.mk<;>intro h<;>try simp -dsimp only[h]|refine aC ?_|fail
    refine aN.at dM (X:={zz:Nat×(Unit) // zz.1≤1∧True}) (fun zz=>[(10,.loc (.t 10 0) 0 zz.1.1),(42,.junk),(11,.v (.int .i64 zz.1.1))]) (fun zz=>[(.t 10 0,.arr 1 (E cI ([(lW sf st l[j]).1].take zz.1.1)) false)]) (fun zz=>1-zz.1.1) ⟨(0,()),by omega,trivial⟩ ?_ ?_
    ·simp[Vs.LeL,Vs.look,Vs.aB,Vs.aP,Vs.aK,Vs.hset,Vs.aL,Vs.E,cI]
    ·rintro⟨⟨i,_⟩,hi,hg⟩;dsimp only at hi hg;simp -dsimp only[go_sem,cC];refine Br.mk (fun hc=>?_) fun hc=>?_
     ·have hlt:i<1:=Dq;have hw:=aH hlt (by omega);obtain rfl:i=0:=by omega
      repeat' first|simp -dsimp only[go_sem,gj,e1c,cC,hw]|apply Br.mk<;>intro h<;>try simp -dsimp only[h]|refine aA.c (by first|exact PC|exact NI) ?_|refine aC ?_|fail
      all_goals first|omega|(exact nx (1,()) trivial (h2:=by simp[Vs.LeL,Vs.look,Vs.aB,Vs.aP,Vs.aK,Vs.hset,Vs.aL,Vs.E,cI]))
     ·have hge:i=1:=by
       have:¬i<1:=Dq;omega
      subst hge;simp -dsimp only[go_sem,cC]
      repeat' first|simp -dsimp only[go_sem,hwj,e1c,hrow,hrl,hrl2,ht,hrow0,cC]|apply Br.mk<;>intro h<;>try simp -dsimp only[h]|refine And.intro ?_ (fun h=>absurd rfl h)|refine aC ?_|fail
      first|(exact⟨⟨j+1,by omega⟩,by simp[Vs.LeL,Vs.look,Vs.aB,Vs.aP,Vs.aK,Vs.hset,Vs.aL,j3,jZ,hrow,Vs.E,hj0],by simp only;omega⟩)
   ·have hA:j3 sf st l j=.loc (.t 84 0) 0 j:=by simp[j3,hj0]
    have hH:jZ sf st l j=[(.t 84 0,.arr 1 (E cRw ((lV sf st l).take j)) false)]:=by simp[jZ,hj0]
    rw[hA,hH]
    repeat' first|simp -dsimp only[go_sem,ht,e1c,cC]|apply Br.mk<;>intro h<;>try simp -dsimp only[h]|refine aC ?_|fail
    refine aN.at dM (X:={zz:Nat×(Unit) // zz.1≤1∧True}) (fun zz=>[(10,.loc (.t 10 0) 0 zz.1.1),(42,.junk),(11,.v (.int .i64 zz.1.1))]) (fun zz=>[(.t 10 0,.arr 1 (E cI ([(lW sf st l[j]).1].take zz.1.1)) false)]) (fun zz=>1-zz.1.1) ⟨(0,()),by omega,trivial⟩ ?_ ?_
    ·simp[Vs.LeL,Vs.look,Vs.aB,Vs.aP,Vs.aK,Vs.hset,Vs.aL,Vs.E,cI]
    ·rintro⟨⟨i,_⟩,hi,hg⟩;dsimp only at hi hg;simp -dsimp only[go_sem,cC];refine Br.mk (fun hc=>?_) fun hc=>?_
     ·have hlt:i<1:=Dq;have hw:=aH hlt (by omega);obtain rfl:i=0:=by omega
      repeat' first|simp -dsimp only[go_sem,gj,e1c,cC,hw]|apply Br.mk<;>intro h<;>try simp -dsimp only[h]|refine aA.c (by first|exact PC|exact NI) ?_|refine aC ?_|fail
      all_goals first|omega|(exact nx (1,()) trivial (h2:=by simp[Vs.LeL,Vs.look,Vs.aB,Vs.aP,Vs.aK,Vs.hset,Vs.aL,Vs.E,cI]))
     ·have hge:i=1:=by
       have:¬i<1:=Dq;omega
      subst hge;simp -dsimp only[go_sem,cC]
      repeat' first|simp -dsimp only[go_sem,hwj,e1c,hrow,hrl,hrl2,ht,cC]|apply Br.mk<;>intro h<;>try simp -dsimp only[h]|refine And.intro ?_ (fun h=>absurd rfl h)|refine aC ?_|fail
      first|(exact⟨⟨j+1,by omega⟩,by simp[Vs.LeL,Vs.look,Vs.aB,Vs.aP,Vs.aK,Vs.hset,Vs.aL,j3,jZ,hrow,Vs.E],by simp only;omega⟩)
  ·obtain rfl:j=m:=by omega
   have hlt:j<l.length:=hm;have ht:decide ((j:Int)<(l.length:Int))=true:=decide_eq_true (by omega);have gj:(E cC l).getD j []=[.sl 1 (E cI l[j])]:=aT hlt;have PC:=aIG (hp _ (List.getElem_mem hlt));have NI:=zD (hp _ (List.getElem_mem hlt));have hrow:=aB6 (sf:=sf) (st:=st) hlt;have hrl:(E cRw ((lV sf st l).take j)).length=j:=by rw[aG,List.length_take,kL];omega
   have hrl2:((lV sf st l).take j).length=j:=by rw[List.length_take,kL];omega
   have hwj:IntKind.i64.wrap ((j:Int)+1)=((j+1:Nat):Int):=by rw[aO (by omega) (by omega)];omega
   rw[hbad] at NI;by_cases hj0:j=0
   ·have hA:j3 sf st l j=.v (.slice none 0 0):=by simp[j3,hj0]
    have hH:jZ sf st l j=[]:=by simp[jZ,hj0]
    rw[hA,hH,show tO sf st l j=.v (.slice none 0 0) by simp[tO,hj0]]
    repeat' first|simp -dsimp only[go_sem,ht,e1c,cC]|apply Br.mk<;>intro h<;>try simp -dsimp only[h]|refine aC ?_|fail
    refine aN.at dM (X:={zz:Nat×(Unit) // zz.1≤1∧zz.1=0}) (fun zz=>[(10,.loc (.t 10 0) 0 zz.1.1),(42,.junk),(11,.v (.int .i64 zz.1.1))]) (fun zz=>[(.t 10 0,.arr 1 (E cI ([(lW sf st l[j]).1].take zz.1.1)) false)]) (fun zz=>1-zz.1.1) ⟨(0,()),by omega,rfl⟩ ?_ ?_
    ·simp[Vs.LeL,Vs.look,Vs.aB,Vs.aP,Vs.aK,Vs.hset,Vs.aL,Vs.E,cI]
    ·rintro⟨⟨i,_⟩,hi,hg⟩;dsimp only at hi hg;simp -dsimp only[go_sem,cC];refine Br.mk (fun hc=>?_) fun hc=>?_
     ·have hlt:i<1:=Dq;have hw:=aH hlt (by omega);obtain rfl:i=0:=by omega
      repeat' first|simp -dsimp only[go_sem,gj,e1c,ht,cC,hw]|apply Br.mk<;>intro h<;>try simp -dsimp only[h]|refine aA.c (by first|exact PC|exact NI) ?_|refine aC ?_|fail
      all_goals first|omega|(exact⟨_,_,rfl,rfl⟩)|(rw[hbad];exact⟨_,_,rfl,rfl⟩)
     ·have hge:i=1:=by
       have:¬i<1:=Dq;omega
      subst hge;simp -dsimp only[go_sem,cC];omega
   ·have hA:j3 sf st l j=.loc (.t 84 0) 0 j:=by simp[j3,hj0]
    have hH:jZ sf st l j=[(.t 84 0,.arr 1 (E cRw ((lV sf st l).take j)) false)]:=by simp[jZ,hj0]
    rw[hA,hH,show tO sf st l j=.sl 1 (E cRw ((lV sf st l).take j)) by simp[tO,hj0]];have htk:(E cRw ((lV sf st l).take j)).take j=E cRw ((lV sf st l).take j):=List.take_of_length_le (by omega)
    repeat' first|simp -dsimp only[go_sem,ht,e1c,cC]|apply Br.mk<;>intro h<;>try simp -dsimp only[h]|refine aC ?_|fail
    refine aN.at dM (X:={zz:Nat×(Unit) // zz.1≤1∧zz.1=0}) (fun zz=>[(10,.loc (.t 10 0) 0 zz.1.1),(42,.junk),(11,.v (.int .i64 zz.1.1))]) (fun zz=>[(.t 10 0,.arr 1 (E cI ([(lW sf st l[j]).1].take zz.1.1)) false)]) (fun zz=>1-zz.1.1) ⟨(0,()),by omega,rfl⟩ ?_ ?_
    ·simp[Vs.LeL,Vs.look,Vs.aB,Vs.aP,Vs.aK,Vs.hset,Vs.aL,Vs.E,cI]
    ·rintro⟨⟨i,_⟩,hi,hg⟩;dsimp only at hi hg;simp -dsimp only[go_sem,cC];refine Br.mk (fun hc=>?_) fun hc=>?_
     ·have hlt:i<1:=Dq;have hw:=aH hlt (by omega);obtain rfl:i=0:=by omega
      repeat' first|simp -dsimp only[go_sem,gj,e1c,ht,htk,cC,hw]|apply Br.mk<;>intro h<;>try simp -dsimp only[h]|refine aA.c (by first|exact PC|exact NI) ?_|refine aC ?_|fail
      all_goals first|omega|(exact⟨_,_,rfl,rfl⟩)|(rw[hbad];exact⟨_,_,rfl,rfl⟩)
     ·have hge:i=1:=by
       have:¬i<1:=Dq;omega
      subst hge;simp -dsimp only[go_sem,cC];omega
attribute [local go_sem] Int.reduceBEq Int.reduceBNe aG List.replicate_succ List.replicate_zero List.flatten_cons List.flatten_nil List.cons_append List.nil_append List.set_cons_zero List.set_cons_succ List.length_cons List.length_nil List.length_set List.getD_cons_zero in
theorem aBH:Fz F.sZ [.sl 1 (E cC l),.agg (cFd fr to),.agg (cFd sf st)] (.tup [vS fr to sf st l,.v (.int .i64 (if nG fr to sf st l then 0 else 8))]):=by
 cases ha:bT fr to l
 ·have RD:=aFL l fr to sf st hk hd hf hn ha;have hb:nG fr to sf st l=false:=by simp[nG,ha]
  rw[show vS fr to sf st l=.v (.slice none 0 0) by simp[vS,hb],hb];refine fn0 Cd.s_l15Sums_k fun X=>?_
  repeat' first|simp -dsimp only[go_sem,cC,cFd,cTt]|apply Br.mk<;>intro h<;>try simp -dsimp only[h]|refine aA.c (by first|exact RD) ?_|refine aC ?_|fail
  all_goals first|exact⟨_,_,rfl,rfl⟩
 cases hN:zN sf st l
 ·obtain⟨v,RD⟩:=aEP l fr to sf st hk hd hf hn ha hN;have hb:nG fr to sf st l=false:=by simp[nG,hN]
  rw[show vS fr to sf st l=.v (.slice none 0 0) by simp[vS,hb],hb];refine fn0 Cd.s_l15Sums_k fun X=>?_
  repeat' first|simp -dsimp only[go_sem,cC,cFd,cTt]|apply Br.mk<;>intro h<;>try simp -dsimp only[h]|refine aA.c (by first|exact RD) ?_|refine aC ?_|fail
  all_goals first|exact⟨_,_,rfl,rfl⟩
 have RD:=aFK l fr to sf st hk hd hf hn ha hN;have hb:nG fr to sf st l=true:=by simp[nG,hN,ha]
 rw[show vS fr to sf st l=.sl 2 (E cTt (oK fr to sf st l)) by simp[vS,hb],hb];have h40:=kX hd;have hin:=uH (fr:=fr) (to:=to) (l:=l) l.length;have hup:=aAy (fr:=fr) (to:=to) (l:=l) l.length;have hgl:=jT fr to l l.length
 have htl:oK fr to sf st l=(List.range (bR fr to l l.length).length).map (fun i=>(txt (fH fr to ((fQ l (bR fr to l l.length) i).getD 0 [])),jU sf st (fQ l (bR fr to l l.length) i))):=by
  unfold oK aCl;rw[List.map_map];rfl
 rw[htl];have hkl:(bQ fr to l).length=l.length:=by unfold bQ;simp
 have hkg:∀i,i<l.length→(E cSt (bQ fr to l)).getD i []=[.v (.string (txt (fH fr to (l.getD i []))))]:=fun i hi=>by
  rw[aT (by omega)];simp[cSt,bQ,List.getD,hi]
 generalize bR fr to l l.length=o at *
 refine fn0 Cd.s_l15Sums_k fun X=>?_
 repeat' first|simp -dsimp only[go_sem,cC,cFd,cTt]|apply Br.mk<;>intro h<;>try simp -dsimp only[h]|refine aA.c (by first|exact RD) ?_|refine aC ?_|fail
 refine aN.at dM (X:={zz:Nat×(Unit) // zz.1≤o.length∧True}) (fun zz=>[(10,.loc (.t 10 0) 0 zz.1.1),(11,.v (.int .i64 zz.1.1))]) (fun zz=>[(.t 10 0,.arr 2 (E cTt ((List.range zz.1.1).map fun i=>(txt (fH fr to ((fQ l o i).getD 0 [])),jU sf st (fQ l o i)))) false)]) (fun zz=>o.length-zz.1.1) ⟨(0,()),by omega,trivial⟩ ?_ ?_
 ·simp[Vs.LeL,Vs.look,Vs.aB,Vs.aP,Vs.aK,Vs.hset,Vs.aL,Vs.E]
 ·rintro⟨⟨i,_⟩,hi,hg⟩;dsimp only at hi hg;simp -dsimp only[go_sem,cC,cFd,cTt];refine Br.mk (fun hc=>?_) fun hc=>?_
  ·have hlt:i<o.length:=Dq;have hw:=aH hlt (by omega)
   obtain ⟨a,e,hae,hel,ga,hga,hge2,hend⟩:∃a e:Nat,a<e∧e≤l.length∧o[i]=(a:Int)∧(o.getD i 0).toNat=a∧(if i+1<o.length then(o.getD (i+1) 0).toNat else l.length)=e∧(if i+1<o.length then o.getD (i+1) 0 else((bQ fr to l).length:Int))=(e:Int):=by
    have h0:=hin _ (List.getElem_mem hlt);have e0:o.getD i 0=o[i]:=by simp[List.getD,hlt]
    by_cases h1:i+1<o.length
    ·have h2:=hin _ (List.getElem_mem h1);have h3:o[i]<o[i+1]:=List.pairwise_iff_getElem.1 hup i (i+1) hlt h1 (by omega);have e1:o.getD (i+1) 0=o[i+1]:=by simp[List.getD,h1]
     refine⟨o[i].toNat,o[i+1].toNat,by omega,by omega,by omega,by rw[e0],by rw[if_pos h1,e1],by rw[if_pos h1,e1];omega⟩
    ·refine⟨o[i].toNat,l.length,by omega,by omega,by omega,by rw[e0],by rw[if_neg h1],by rw[if_neg h1,hkl]⟩
   have hgat:fQ l o i=(l.take e).drop a:=by unfold fQ;rw[hge2,hga]
   have hg0:((l.take e).drop a).getD 0 []=l.getD a []:=by
    simp only[List.getD];rw[List.getElem?_drop,List.getElem?_take,if_pos (by omega),Nat.add_zero]
   have gi:(E cI o).getD i []=[.v (.int .i64 (a:Int))]:=by rw[dI hlt,ga]
   have gk:=hkg a (by omega);have EN:=r_end (tO sf st l l.length) o (bQ fr to l) i hlt (by omega);rw[hend] at EN
   have hnv:tO sf st l l.length=.sl 1 (E cRw (lV sf st l)):=by
    unfold tO;rw[if_neg (by omega),List.take_of_length_le (by rw[kL];omega)]
   have SM:=aLE (.sl 1 (E cSt (bQ fr to l))) (.sl 1 (E cI o)) (lV sf st l) a e (by omega) (by rw[kL];exact hel) (by rw[kL];omega)
   have hsm:vT (((lV sf st l).take e).drop a)=jU sf st ((l.take e).drop a):=by
    rw[←aH8];congr 1;simp[lV,List.map_take,List.map_drop]
   rw[hsm] at SM;rw[hnv] at EN⊢;have e1s:(E cI [jU sf st ((l.take e).drop a)]).getD 0 []=[.v (.int .i64 (jU sf st ((l.take e).drop a)))]:=rfl;have e1l:(E cI [jU sf st ((l.take e).drop a)]).length=1:=rfl
   have hap:E cTt ((List.range i).map fun i=>(txt (fH fr to ((fQ l o i).getD 0 [])),jU sf st (fQ l o i)))++[[.v (.string (txt (fH fr to (l.getD a [])))),.v (.int .i64 (jU sf st ((l.take e).drop a)))]]=E cTt ((List.range (i+1)).map fun i=>(txt (fH fr to ((fQ l o i).getD 0 [])),jU sf st (fQ l o i))):=by
    rw[List.range_succ,List.map_append,aR];simp only[List.map_cons,List.map_nil,hgat,hg0];rfl
   have hal:(E cTt ((List.range i).map fun i=>(txt (fH fr to ((fQ l o i).getD 0 [])),jU sf st (fQ l o i)))).length=i:=by rw[aG];simp
   have hta:((a:Nat):Int).toNat=a:=by omega
   generalize jU sf st ((l.take e).drop a)=sw at *
   generalize txt (fH fr to (l.getD a []))=nm at *
   repeat' first|simp -dsimp only[go_sem,gi,gk,hw,hap,hal,hta,e1s,e1l,hkl,cC,cFd]|apply Br.mk<;>intro h<;>try simp -dsimp only[h]|refine aA.c (by first|exact EN|exact SM) ?_|refine aC ?_|fail
   all_goals first|omega|(exact nx (i+1,()) trivial (h2:=by simp[Vs.LeL,Vs.look,Vs.aB,Vs.aP,Vs.aK,Vs.hset,Vs.aL,hap,hnv,List.range_succ,Vs.rnL,Vs.rn,Vs.nmF,Vs.scr,Vs.AV.has]))
  ·have hge:i=o.length:=by
    have:¬i<o.length:=Dq;omega
   subst hge;simp -dsimp only[go_sem,cC,cFd,cTt];have htk:(E cTt ((List.range o.length).map fun i=>(txt (fH fr to ((fQ l o i).getD 0 [])),jU sf st (fQ l o i)))).take o.length=E cTt ((List.range o.length).map fun i=>(txt (fH fr to ((fQ l o i).getD 0 [])),jU sf st (fQ l o i))):=List.take_of_length_le (by rw[aG];simp)
   first|(rw[htk];exact⟨⟨_,_,rfl,rfl⟩,fun h=>h rfl⟩)
end
end
section
variable [Vs.Envs]
attribute [local irreducible] Vs.Fn pun cmT zR iY iU bH cZ aW dA dB l03 chB rk cd3 chI stp aY
theorem aIp {fr to:Int}{s:ByteArray}{l:List (List Int)} (h:iU fr to s l=0):aX l=true∧dU fr to (bD l)=true∧s.size=to.toNat-fr.toNat∧aW s=true∧bT fr to l=true:=by
 obtain⟨hd,hf,hsz,hch,hall⟩:=aGn h;have hf2:=hf;simp only[dU,Bool.and_eq_true,decide_eq_true_eq] at hf2;have hz2:((s.size:Int))=W (to-fr):=by simpa using hsz
 have hwb:bD l≤1048576:=by
  have h40:=kX hd;unfold bD;split
  ·omega
  ·rename_i h0;have hm:l.getD 0 []∈l:=by rw[show l.getD 0 []=l[0]'(by omega) by simp[List.getD,(by omega:0<l.length)]];exact List.getElem_mem _
   have:=(fA hd hf _ hm).2.2.2;omega
 rw[show W (to-fr)=to-fr from aO (by omega) (by omega)] at hz2;exact⟨hd,hf,by omega,hch,hall⟩
attribute [local go_sem] Int.reduceBEq Int.reduceBNe cP List.replicate_succ List.replicate_zero List.flatten_cons List.flatten_nil List.cons_append List.nil_append List.set_cons_zero List.set_cons_succ List.length_cons List.length_nil List.length_set in
theorem sU (l:List (List Int)) (fr to:Int) (s:ByteArray) (hk:bE l) (hz:s.size≤1048576):Fz F.lC [.sl 1 (E cC l),.agg (cFd fr to),.v (.string s)] (.tup [mJ fr to s l,.v (.int .i64 (iU fr to s l))]):=by
 have AK:=aLR l fr to s hk hz;by_cases h0:iU fr to s l=0
 ·obtain⟨hd,hf,hsz,hch,hall⟩:=aIp h0;have ho:=fA hd hf;have h40:=kX hd;rw[show mJ fr to s l=.sl 1 (E cC (flt (iY fr to s) l)) by simp[mJ,h0],h0];rw[show aHV fr to s l=.sl 1 (E cSt (bQ fr to l)) by simp[aHV,h0],h0] at AK;have hkl:=tX fr to l;refine fn0 Cd.s_SelectEqual_k fun X=>?_
  repeat' first|simp -dsimp only[go_sem,cC,cFd,hkl,aG]|apply Br.mk<;>intro h<;>try simp -dsimp only[h]|refine aA.c (by first|exact AK) ?_|refine aC ?_|fail
  refine aN.at dM (X:={zz:Nat×(Unit) // zz.1≤l.length∧True}) (fun zz=>[(10,.loc (.t 10 0) 0 (flt (iY fr to s) (l.take zz.1.1)).length),(11,.v (.int .i64 zz.1.1))]) (fun zz=>[(.t 10 0,.arr 1 (E cC (flt (iY fr to s) (l.take zz.1.1))) false)]) (fun zz=>l.length-zz.1.1) ⟨(0,()),by omega,trivial⟩ ?_ ?_
  ·simp[Vs.LeL,Vs.look,Vs.aB,Vs.aP,Vs.aK,Vs.hset,Vs.aL,Vs.E,flt]
  ·rintro⟨⟨i,_⟩,hi,hg⟩;dsimp only at hi hg;simp -dsimp only[go_sem,cC,cFd,hkl,aG];refine Br.mk (fun hc=>?_) fun hc=>?_
   ·have hlt:i<l.length:=Dq;have hw:=aH hlt (by omega);have hc:=ho _ (List.getElem_mem hlt);have hko:=aKB hc (List.all_eq_true.1 hall _ (List.getElem_mem hlt)) hsz hch;have hm:(E cSt (bQ fr to l)).getD i []=[.v (.string (txt (fH fr to l[i])))]:=by rw[aT (by omega)];simp[bQ,cSt]
    have hm2:(E cC l).getD i []=[.sl 1 (E cI l[i])]:=aT hlt;have hfs:=xB (q:=iY fr to s) hlt;have hfl:=yJ (iY fr to s) (l.take i);have ht:(l.take i).length=i:=by simp;omega
    have NC:=vD l[i] (hk.2 _ (List.getElem_mem hlt));have hE:(E cC (flt (iY fr to s) (l.take i))).length=(flt (iY fr to s) (l.take i)).length:=aG ..
    cases hq:iY fr to s l[i]
    ·rw[hq] at hfs hko;have hap:E cC (flt (iY fr to s) (l.take i))++[[.sl 1 (E cI l[i])]]=E cC (flt (iY fr to s) (l.take (i+1))):=by rw[hfs,aR];rfl
     have hln:(flt (iY fr to s) (l.take (i+1))).length=(flt (iY fr to s) (l.take i)).length+1:=by rw[hfs];simp
     simp -dsimp only[go_sem,hm,hm2,hw,hko,cC,cFd]
     repeat' first|simp -dsimp only[go_sem,hm,hm2,hw,hko,hap,hE,cC,cFd]|apply Br.mk<;>intro h<;>try simp -dsimp only[h]|refine aA.c (by first|exact NC) ?_|refine aC ?_|fail
     all_goals first|omega|(exact nx (i+1,()) trivial (h2:=by simp[Vs.LeL,Vs.look,Vs.aB,Vs.aP,Vs.aK,Vs.hset,Vs.aL,hln,Vs.rnL,Vs.rn,Vs.nmF,Vs.scr,Vs.AV.has]))
    ·rw[hq] at hfs hko;have hsame:flt (iY fr to s) (l.take (i+1))=flt (iY fr to s) (l.take i):=by rw[hfs];simp
     repeat' first|simp -dsimp only[go_sem,hm,hm2,hw,hko,cC,cFd]|apply Br.mk<;>intro h<;>try simp -dsimp only[h]|refine aC ?_|fail
     all_goals first|omega|(exact nx (i+1,()) trivial (h2:=by simp[Vs.LeL,Vs.look,Vs.aB,Vs.aP,Vs.aK,Vs.hset,Vs.aL,hsame,Vs.rnL,Vs.rn,Vs.nmF,Vs.scr,Vs.AV.has]))
   ·have hge:i=l.length:=by
     have:¬i<l.length:=Dq;omega
    subst hge;simp -dsimp only[go_sem,cC,cFd,hkl,aG]
    have htk:(E cC (flt (iY fr to s) (l.take l.length))).take (flt (iY fr to s) (l.take l.length)).length=E cC (flt (iY fr to s) l):=by
     rw[List.take_length];exact List.take_of_length_le (by rw[aG];exact Nat.le_refl _)
    first|(rw[htk];exact⟨⟨_,_,rfl,rfl⟩,fun h=>h rfl⟩)|(rw[List.take_length];exact⟨⟨_,_,rfl,rfl⟩,fun h=>h rfl⟩)
 ·have e0:(iU fr to s l != 0)=true:=by simp[h0]
  rw[show mJ fr to s l=.v (.slice none 0 0) by simp[mJ,h0]];rw[show aHV fr to s l=.v (.slice none 0 0) by simp[aHV,h0]] at AK;generalize iU fr to s l=c at *
  refine fn0 Cd.s_SelectEqual_k fun X=>?_
  repeat' first|simp -dsimp only[go_sem,cC,cFd,e0]|apply Br.mk<;>intro h<;>try simp -dsimp only[h]|refine aA.c (by first|exact AK) ?_|refine aC ?_|fail
  all_goals first|exact⟨_,_,rfl,rfl⟩
theorem aHZ {l:List (List Int)} (hd:aX l=true):inB (bD l) 1 20=true:=by
 by_cases h0:l.length=0
 ·unfold bD;rw[if_pos h0];rfl
 ·have hd2:=hd;simp only[aX,Bool.and_eq_true,List.all_eq_true,decide_eq_true_eq] at hd2;have hm:l.getD 0 []∈l:=by rw[show l.getD 0 []=l[0]'(by omega) by simp[List.getD,(by omega:0<l.length)]];exact List.getElem_mem _
  have:=(hd2.1 _ hm).1;simp only[gF,inB,Bool.and_eq_true,decide_eq_true_eq] at this;unfold bD;rw[if_neg h0];simp only[inB,Bool.and_eq_true,decide_eq_true_eq];omega
theorem aHR {l m:List (List Int)} (hd:aX l=true) (hs:∀c,c∈m→c∈l) (hm:m.length≤40):aX m=true∧(bD m=20∨bD m=bD l):=by
 simp only[aX,Bool.and_eq_true,List.all_eq_true,decide_eq_true_eq] at hd⊢;by_cases h0:m.length=0
 ·rw[List.eq_nil_of_length_eq_zero h0];exact⟨⟨fun c hc=>(by cases hc),by simp⟩,.inl rfl⟩
 ·have hm0:m.getD 0 []∈m:=by rw[show m.getD 0 []=m[0]'(by omega) by simp[List.getD,(by omega:0<m.length)]];exact List.getElem_mem _
  have e0:=(hd.1 _ (hs _ hm0)).2;refine⟨⟨fun c hc=>⟨(hd.1 _ (hs c hc)).1,by rw[e0];exact(hd.1 _ (hs c hc)).2⟩,hm⟩,.inr ?_⟩
  have hl0:l.length≠0:=by
   intro e;have:=hs _ hm0;rw[List.eq_nil_of_length_eq_zero e] at this;cases this
  unfold bD;rw[if_neg h0,if_neg hl0,e0]
end
section
variable [Vs.Envs]
attribute [local irreducible] Vs.Fn
def wO:List (List (List Int))→Nat
 | []=>20
 |d::r=>if d.length=0 then wO r else(d.getD 0 []).length
theorem aGd {l:List (List (List Int))}{i:Nat} (h:i<l.length):wO (l.drop i)=if l[i].length=0 then wO (l.drop (i+1)) else(l[i].getD 0 []).length:=by
 rw[List.drop_eq_getElem_cons h,wO]
theorem aCM (o:Off) (ho:yV o):Fz F.jE [.agg (cO o)] (.v (.int .i64 (wO o.trays))):=by
 refine fn0 Cd.i_officeColumns_k fun X=>?_;simp -dsimp only[go_sem,cO];refine aN.at dM (X:={zz:Nat×(Unit) // zz.1≤o.trays.length∧wO (o.trays.drop zz.1)=wO o.trays}) (fun zz=>[(8,.v (.int .i64 zz.1.1))]) (fun zz=>[]) (fun zz=>o.trays.length-zz.1.1) ⟨(0,()),by omega,rfl⟩ ?_ ?_
 ·exact le0
 ·rintro⟨⟨i,_⟩,hi,hg⟩;dsimp only at hi hg;simp -dsimp only[go_sem];refine Br.mk (fun hc=>?_) fun hc=>?_
  ·have hlt:i<o.trays.length:=Dq;have hw:=aH hlt ho.1.1;rw[aGd hlt] at hg;by_cases hd0:o.trays[i].length=0
   ·have hgt:decide ((o.trays[i].length:Int)>0)=false:=decide_eq_false (by omega);rw[if_pos hd0] at hg
    repeat' first|simp -dsimp only[go_sem,aT hlt,cD,hgt,hw]|apply Br.mk<;>intro h<;>try simp -dsimp only[h]|refine aC ?_|fail
    all_goals(exact nx (i+1,()) hg)
   ·have hgt:decide ((o.trays[i].length:Int)>0)=true:=decide_eq_true (by omega);have h0:0<o.trays[i].length:=by omega
    rw[if_neg hd0,getD_lt h0] at hg
    repeat' first|simp -dsimp only[go_sem,aT hlt,aT h0,cD,hgt,cC]|apply Br.mk<;>intro h<;>try simp -dsimp only[h]|refine aA.c (by first|exact sG _) ?_|refine aC ?_|fail
    all_goals(refine aS ?_;simp[←hg];done)
  ·have hge:i=o.trays.length:=by
    have:¬i<o.trays.length:=Dq;omega
   subst hge;simp -dsimp only[go_sem];rw[List.drop_length,wO] at hg;simp[←hg]
theorem aEM (o:Off) (ho:yV o):Fz F.nN [.ro (cO o)] (.v (.int .i64 (wO o.trays))):=by
 refine fn0 Cd.s_l15Width_k fun X=>?_;simp -dsimp only[go_sem,cO];refine aN.at dM (X:={zz:Nat×(Unit) // zz.1≤o.trays.length∧wO (o.trays.drop zz.1)=wO o.trays}) (fun zz=>[(3,.v (.int .i64 zz.1.1))]) (fun zz=>[]) (fun zz=>o.trays.length-zz.1.1) ⟨(0,()),by omega,rfl⟩ ?_ ?_
 ·exact le0
 ·rintro⟨⟨i,_⟩,hi,hg⟩;dsimp only at hi hg;simp -dsimp only[go_sem];refine Br.mk (fun hc=>?_) fun hc=>?_
  ·have hlt:i<o.trays.length:=Dq;have hw:=aH hlt ho.1.1;rw[aGd hlt] at hg;by_cases hd0:o.trays[i].length=0
   ·have hgt:decide ((o.trays[i].length:Int)>0)=false:=decide_eq_false (by omega);rw[if_pos hd0] at hg
    repeat' first|simp -dsimp only[go_sem,aT hlt,cD,hgt,hw]|apply Br.mk<;>intro h<;>try simp -dsimp only[h]|refine aC ?_|fail
    all_goals(exact nx (i+1,()) hg)
   ·have hgt:decide ((o.trays[i].length:Int)>0)=true:=decide_eq_true (by omega);have h0:0<o.trays[i].length:=by omega
    rw[if_neg hd0,getD_lt h0] at hg
    repeat' first|simp -dsimp only[go_sem,aT hlt,aT h0,cD,hgt,cC]|apply Br.mk<;>intro h<;>try simp -dsimp only[h]|refine aA.c (by first|exact sG _) ?_|refine aC ?_|fail
    all_goals(refine aS ?_;simp[←hg];done)
  ·have hge:i=o.trays.length:=by
    have:¬i<o.trays.length:=Dq;omega
   subst hge;simp -dsimp only[go_sem];rw[List.drop_length,wO] at hg;simp[←hg]
end
end Go.Proofs.YtonkjfiffcfaoaaGreat
