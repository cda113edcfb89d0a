/- EvalSpec: the reference's way. -/
import Derived.Test.YtkgeiaideklmoaaGreatZwVg
import Derived.Test.YtkgeiaideklmoaaGreatZwQh
import Derived.Test.YtkgeiaideklmoaaGreatZwC
import Derived.Test.YtkgeiaideklmoaaGreatZwSp
import Derived.Test.YtkgeiaideklmoaaGreatVtR
set_option linter.all false
set_option maxHeartbeats 8000000
namespace Go.Proofs.YtkgeiaideklmoaaGreat
open Go.Vs
section
variable [Vs.Envs]
attribute [local irreducible] Vs.Fn flt zR aO bL bM stp aP
set_option maxRecDepth 100000 in
theorem aIB:∀n:Nat,n<256->bK (n:Int)=true->0<=rk (cd3 (n:Int))∧chI (cd3 (n:Int))=(n:Int):=by decide +kernel
attribute [local irreducible] bK rk cd3 chI
theorem aEp {s:ByteArray} (h:aO s=true):∀b,b∈s.data.toList->bK (b.toNat:Int)=true:=by
 unfold aO at h;exact Az.1 h
theorem aJu {s:ByteArray} (h:aO s=true):dC (bcd s)=true:=by
 unfold dC bcd;rw[Az];intro x H;obtain⟨b,F,rfl⟩:=Bq.1 H;exact A7 (aIB b.toNat (UInt8.toNat_lt _) (aEp h b F)).1
theorem aLN {s:ByteArray} (h:aO s=true):txt (bcd s)=s:=by
 have e:(bcd s).map chI=s.data.toList.map λb=>(b.toNat:Int):=by
  unfold bcd;rw[Cc];refine List.map_congr_left λb H=>?_;exact(aIB b.toNat (UInt8.toNat_lt _) (aEp h b H)).2
 unfold txt aCy;rw[e,Cc]
 have F:(s.data.toList.map ((λn:Int=>UInt8.ofNat n.toNat)∘λb:UInt8=>(b.toNat:Int)))=s.data.toList:=by
  rw[show((λn:Int=>UInt8.ofNat n.toNat)∘λb:UInt8=>(b.toNat:Int))=id from funext λb=>by simp];simp
 rw[F]
theorem aMg {s:ByteArray}{w:Nat} (h:s.size=w):pun s w=bcd s:=by
 unfold pun;rw[h,Cw];simp
theorem aMz {fr to:Int}{c:List Int}{s:ByteArray} (J:okF fr to c) (L:dC (fH fr to c)=true) (I:s.size=to.toNat-fr.toNat) (H:aO s=true) :
  ((txt (fH fr to c)).toList==s.toList) = !dI fr to s c:=by
 have F:=aEv (a:=fH fr to c) (b:=bcd s) (by rw[lN J,aCq,I]) L (aJu H);rw[aLN H] at F;rw[F];unfold dI cmT;rw[aMg I];generalize jC (fH fr to c) (bcd s)=v;by_cases h0:v=0
 .subst h0;rfl
 .have e:(v==0)=false:=AC.2 h0;rw[e];rcases Int.lt_or_gt_of_ne h0 with h|h<;>simp[h]
theorem aL1 {fr to:Int}{s:ByteArray}{l:List (List Int)}:iM fr to s l=if bA fr to l=0∨bA fr to l=8 then(if l09 s fr to=0 then bA fr to l else l09 s fr to) else bA fr to l:=by
 unfold iM yJ bA l09;cases h1:bF l<;>cases h2:dZ fr to (bJ l)<;>cases h5:bV fr to l<;>by_cases F:(s.size:Int)=W (to-fr)<;>cases h4:aO s<;>simp[h1,h2,F,h4,h5]
end
section
variable [Vs.Envs]
attribute [local irreducible] Vs.Fn pun cmT flt zR dI bK aO bL bM l03 chB rk cd3 chI stp aP
def aJH (fr to:Int) (s:ByteArray) (l:List (List Int)):AV:=if iM fr to s l=0 then .sl 1 (E cSt (bS fr to l)) else .v (.slice none 0 0)
theorem aNS (s:ByteArray) (a b:Int):l09 s a b=2∨l09 s a b=0∨l09 s a b=7:=by
 unfold l09;split
 .exact .inl rfl
 .split
  .exact .inr (.inl rfl)
  .exact .inr (.inr rfl)
theorem aMB (fr to:Int) (l:List (List Int)):bA fr to l=0∨bA fr to l=8∨bA fr to l=1∨bA fr to l=2:=by
 unfold bA;split
 .split
  .split<;>simp
  .simp
 .simp
attribute [local go_sem] Int.reduceBEq Int.reduceBNe Af Ag Al Aq Ae Ai Ac Ak Ab Ah Am in
theorem aNT (l:List (List Int)) (fr to:Int) (s:ByteArray) (hk:aZ l) (hz:s.size<=1048576):Fz F.xN [.sl 1 (E cC l),.agg (cFd fr to),.sl 1 [[.v (.string s)]]] (.tup [aJH fr to s l,.v (.int .i64 (iM fr to s l))]):=by
 have KS:=jV l fr to hk.2 hk.1;have TX:=aIl s fr to hz;have hsc:=aL1 (fr:=fr) (to:=to) (s:=s) (l:=l);unfold aJH;rcases aMB fr to l with hc|hc|hc|hc<;>rcases aNS s fr to with hb|hb|hb
 all_goals
  have hs0:=hsc;simp[hc,hb] at hs0;simp only[nV,hc,Bj,Bd,Int.reduceEq] at KS;rw[hs0];simp only[Bj,Bd,Int.reduceEq];refine fn0 Cd.s_l09Ask_k λX=>?_
  repeat' first|simp -dsimp only[go_sem,cC,cFd,hb]|apply Br.mk<;>intro h<;>try simp -dsimp only[h]|refine aB.c (by first|exact KS|exact TX) ?_|refine aC ?_|fail
  try all_goals first|exact⟨_,_,rfl,rfl⟩|exact⟨⟨_,_,rfl,rfl⟩,λh=>h rfl⟩
  all_goals
   refine aM.at dM (X:={zz:Nat×(Unit) // zz.1<=1∧True}) (λzz=>[(10,.v (.int .i64 (if zz.1.1=0 then 0 else l09 s fr to))),(11,.v (.int .i64 zz.1.1))]) (λzz=>[]) (λzz=>1-zz.1.1) ⟨(0,()),by omega,trivial⟩ ?_ ?_
   .exact le0
   .rintro⟨⟨i,_⟩,hi,hg⟩;dsimp only at hi hg;simp -dsimp only[go_sem,cC,cFd,hb];refine Br.mk (λhc=>?_) λhc=>?_
    .have hlt:i<1:=Dq;have hw:=aG hlt (by omega);obtain rfl:i=0:=by omega
     repeat' first|simp -dsimp only[go_sem,cC,cFd,hb,hw]|apply Br.mk<;>intro h<;>try simp -dsimp only[h]|refine aB.c (by first|exact TX) ?_|refine aC ?_|fail
     all_goals first|exact λ_=>⟨⟨_,_,rfl,rfl⟩,λh=>h rfl⟩|omega|exact⟨_,_,rfl,rfl⟩|exact⟨⟨_,_,rfl,rfl⟩,λh=>h rfl⟩|exact⟨λ_=>⟨_,_,rfl,rfl⟩,λh=>absurd rfl h⟩|(exact nx (1,()) trivial (h2:=by simp[Vs.LeL,Vs.look,aA,aS,aJ,Vs.hset,aK,hb]))
    .have hge:i=1:=by
      have:¬i<1:=Dq;omega
     subst hge;simp -dsimp only[go_sem,cC,cFd,hb]
     first|exact⟨⟨_,_,rfl,rfl⟩,λh=>h rfl⟩|omega|exact⟨_,_,rfl,rfl⟩|exact⟨⟨_,_,rfl,rfl⟩,λh=>h rfl⟩|exact⟨λ_=>⟨_,_,rfl,rfl⟩,λh=>absurd rfl h⟩
end
section
variable [Vs.Envs]
attribute [local irreducible] Vs.Fn aV lT bA bK aO bL bM l03 chB rk cd3 chI stp aP
attribute [local go_sem] Int.reduceBEq Int.reduceBNe cC cFd aH Af Ag Al Aq Ae Ai Ac Ak Ab Ah Am Aw
open Go.Vs.Q in
def CdV.l13Read:aD:=s [o 4 (.mv (.const (.pointer none))),mi 5 0] [0,1]<|s [o 14 (.build [.v (.slice none 0 0),.v (.slice none 0 0),.v (.slice none 0 0)] []),bx 15 14,m 6 15] [0,1,6]<|.seq (s [m 16 1,c 17 F.kZ [16],nt 18 17] [0,1,6,18]<|.cond 18 (s [m 19 6,m 4 19,mi 5 1] [4,5]<|.ret) .skip)<|.seq (s [m 20 0,m
 21 1,c 22 F.j6 [21],c 23 F.aAE [20,22],nt 24 23] [0,1,6,24]<|.cond 24 (s [m 25 6,m 4 25,mi 5 2] [4,5]<|.ret) .skip)<|s [m 27 1,m 28 0,nc 29 28,fa 30 0 29,lt 31 2 30,c 32 F.jI [27,31],m 26 32,ex 33 26 0,ex 34 26 1,m 7 33,m 8 34] [0,1,6,7,8]<|.seq (s [m 35 8,ne 36 35 0]
 [0,1,6,7,8,36]<|.cond 36 (s [m 37 6,m 38 8,m 4 37,m 5 38] [4,5]<|.ret) .skip)<|.seq (s [mi 9 0] [0,1,6,7,9]<|.block 0 (.loop (.seq (s [m 39 9,m 40 1,ln 41 40,ls 42 39 41] [0,1,6,7,9,42]<|.cond 42 .skip (.exit 0))<|.seq (.block 1 (.seq (.naming 10 (.region [o 45 (.bslice 1 0 [.v (.int .i64 (0))] []),m
 10 45] [0,1,6,7,9,10] []))<|.seq (s [mi 11 0] [0,1,6,7,9,10,11]<|.closing 10 (.block 2 (.loop (.seq (s [m 46 11,m 47 0,nc 48 47,fa 49 2 48,lf 50 1 49,ln 51 50,ls 52 46 51] [0,1,6,7,9,10,11,52]<|.cond 52 .skip (.exit 2))<|.seq (.block 3 (r [m 56 1,m 57 9,ix 58 1 56 57,m 59 0,nc 60 59,fa 61 2 60,lf 62
 1 61,m 63 11,ix 64 2 62 63,lt 65 2 64,c 66 F.oO [58,65],c 67 F.mX [66],m 55 67,ex 68 55 0,ex 69 55 1,m 12 68,m 13 69] [0,1,6,7,9,10,11,12,13] [56,57,59,58,60,61,62,63,64,65,66,67,55,68,69,12]<|.seq (s [m 70 13,nt 71 70] [0,1,6,7,9,10,11,12,71]<|.cond 71 (s [m 72 6,m 4 72,mi 5 8]
 [4,5]<|.ret) .skip)<|.naming 10 (.region [m 73 10,m 74 12,o 75 (.bslice 1 1 [.v (.int .i64 (0))] [(0,74)]),o 76 (.append 1 8 73 75),m 10 76] [0,1,6,7,9,10,11] [])))<|.region [m 53 11,ad 54 53 1,m 11 54] [0,1,6,7,9,10,11] []))))<|.region [m 77 6,m 78 6,nc 79 78,fa 80 1 79,lf 81 1 80,m 82 10,o 83
 (.bslice 1 1 [.v (.slice none 0 0)] [(0,82)]),o 84 (.append 1 24 81 83),nc 85 77,fa 86 1 85,⟨none,.store 1 86 84,none⟩] [0,1,6,7,9] []))<|.region [m 43 9,ad 44 43 1,m 9 44] [0,1,6,7,9] [])))<|s [m 87 6,m 88 7,nc 89 87,fa 90 0 89,⟨none,.store 1 90 88,none⟩] [6,7]<|s [m 91 6,m 92 7,c 93
 F.mV [92],nc 94 91,fa 95 2 94,⟨none,.store 1 95 93,none⟩] [6]<|s [m 96 6,m 4 96,mi 5 0] [4,5]<|.ret
theorem CdV.l13Read_k:CK 107 Tryz.f107 CdV.l13Read 97 [.tmp 4,.tmp 5]:=ck Tryz.func107
attribute [go_sem] CdV.l13Read
def xC (ns:List Int):Int:=ns.foldl (λa n=>IntKind.i64.wrap (a+n)) 0
theorem aIX {F:List Int}{i:Nat} (h:i<F.length):xC (F.take (i+1))=IntKind.i64.wrap (xC (F.take i)+F[i]):=by
 unfold xC;rw[aY h,List.foldl_append];rfl
theorem aJ5 (sf st:Int) (l:List (List Int)):xC (l.map λc=>(lT sf st c).1)=fM sf st l:=by
 unfold xC fM;rw[List.foldl_map]
theorem aLX {F:List Int}{i:Nat}{x:Int} (h:F[i]? = some x):xC (F.take (i+1))=IntKind.i64.wrap (xC (F.take i)+x):=by
 obtain⟨hi,rfl⟩:=CB.1 h;exact aIX hi
def cRw (n:Int):List AV:=[.sl 1 [[.v (.int .i64 n)]]]
theorem aMR {F:List Int}{i:Nat} (h:i<F.length):(E cRw F).getD i []=[.sl 1 [[.v (.int .i64 (F.getD i 0))]]]:=by rw[aN h];simp[cRw,List.getD,h]
attribute [local irreducible] xC
theorem aG8 (g0 g1 s0 s1 w:Int) (hw:inB w 1 20=true) (hf:dZ g0 g1 w=true) (hn:zT s0 s1 w=true):Fz F.aAE [.ro [.v (.int .i64 g0),.v (.int .i64 g1),.sl 2 [[.v (.int .i64 s0),.v (.int .i64 s1)]],.v (.bool false)],.v (.int .i64 w)] (.v (.bool true)):=by
 have hn2:=hn;unfold zT at hn2;rw[Av] at hn2;obtain⟨hn0,hn1⟩:=hn2;have IN:=zX w 1 20;rw[hw] at IN;have FG:=fA g0 g1 w;rw[hf] at FG;have FS:=fA s0 s1 w;rw[hn0] at FS
 have e12:decide (IntKind.i64.wrap (s1-s0)>12)=false:=by
  have:=BJ hn1;exact AO (by unfold W at this;omega)
 refine fn0 Cd.s_l13Ok_k λX=>?_
 repeat' first|simp -dsimp only[go_sem,e12]|apply Br.mk<;>intro h<;>try simp -dsimp only[h]|refine aB.c (by first|exact IN|exact FG) ?_|refine aC ?_|fail
 refine aM.at dM (X:={zz:Nat×(Unit) // zz.1<=1∧True}) (λzz=>[(5,.v (.int .i64 zz.1.1))]) (λzz=>[]) (λzz=>1-zz.1.1) ⟨(0,()),by omega,trivial⟩ ?_ ?_
 .exact le0
 .rintro⟨⟨i,_⟩,hi,hg⟩;dsimp only at hi hg;simp -dsimp only[go_sem];refine Br.mk (λhc=>?_) λhc=>?_
  .have hlt:i<1:=Dq;have hw:=aG hlt (by omega);obtain rfl:i=0:=by omega
   repeat' first|simp -dsimp only[go_sem,hw,e12]|apply Br.mk<;>intro h<;>try simp -dsimp only[h]|refine aB.c (by first|exact FS) ?_|refine aC ?_|fail
   all_goals first|omega|(exact nx (1,()) trivial)
  .have hge:i=1:=by
    have:¬i<1:=Dq;omega
   subst hge;simp -dsimp only[go_sem]
   first|exact⟨⟨_,_,rfl,rfl⟩,λh=>h rfl⟩|(simp;done)
theorem r_end (U:AV) (H:List Int) (L:List ByteArray) (g:Nat) (Y:g<H.length) (Z:H.length<=1048576):Fz F.nX [.ro [.sl 1 (E cSt L),U,.sl 1 (E cI H)],.v (.int .i64 (g:Int))] (.v (.int .i64 (if g+1<H.length then H.getD (g+1) 0 else(L.length:Int)))):=by
 have J:IntKind.i64.wrap ((g:Int)+1)=((g+1:Nat):Int):=by rw[aR (by omega) (by omega)];omega
 by_cases h:g+1<H.length
 .have I:decide (((g+1:Nat):Int)<(H.length:Int))=true:=A7 (by omega);have O:(E cI H).getD (g+1) []=[.v (.int .i64 (H.getD (g+1) 0))]:=by rw[aN h];simp[cI,List.getD,h]
  rw[AP h];refine fn0 Cd._s_l13R__end_k λX=>?_
  repeat' first|simp -dsimp only[go_sem,J,I,O]|apply Br.mk<;>intro h<;>try simp -dsimp only[h]|refine aC ?_|fail
  all_goals first|exact⟨_,_,rfl,rfl⟩
 .have I:decide (((g+1:Nat):Int)<(H.length:Int))=false:=AO (by omega);rw[AB h];refine fn0 Cd._s_l13R__end_k λX=>?_
  repeat' first|simp -dsimp only[go_sem,J,I]|apply Br.mk<;>intro h<;>try simp -dsimp only[h]|refine aC ?_|fail
  all_goals first|exact⟨_,_,rfl,rfl⟩
theorem aNI (kv hv:AV) (ns:List Int) (fr to:Nat) (h1:fr<=to) (h2:to<=ns.length) (hl:ns.length<=1048576):Fz F.l9 [.ro [kv,.sl 1 (E cRw ns),hv],.v (.int .i64 (fr:Int)),.v (.int .i64 (to:Int)),.v (.int .i64 1)] (.sl 1 (E cI [xC ((ns.take to).drop fr)])):=by
 have hml:((ns.take to).drop fr).length=to-fr:=by simp;omega
 have hge:∀i,i<to-fr->((ns.take to).drop fr)[i]? = some (ns.getD (fr+i) 0):=by
  intro i h;rw[Dr,List.getElem?_take,AP (by omega)];simp[List.getD,(by omega:fr+i<ns.length)]
 generalize hm:(ns.take to).drop fr=ms at *
 have e1c:∀x:Int,E cI [x]=[[.v (.int .i64 x)]]:=λ_=>rfl;refine fn0 Cd._s_l13R__sums_k λX=>?_
 repeat' first|simp -dsimp only[go_sem]|apply Br.mk<;>intro h<;>try simp -dsimp only[h]|refine aC ?_|fail
 refine aM.at dM (X:={zz:Nat×(Unit) // zz.1<=(to-fr)∧True}) (λzz=>[(9,.loc (.t 13 0) 0 1),(10,.v (.int .i64 ((fr+zz.1.1:Nat):Int)))]) (λzz=>[(.t 13 0,.arr 1 (E cI [xC (ms.take zz.1.1)]) false)]) (λzz=>(to-fr)-zz.1.1) ⟨(0,()),by omega,trivial⟩ ?_ ?_
 .simp[Vs.LeL,Vs.look,aA,aS,aJ,Vs.hset,aK,Vs.E,cI,xC]
 .rintro⟨⟨i,_⟩,hi,hg⟩;dsimp only at hi hg;simp -dsimp only[go_sem];refine Br.mk (λhc=>?_) λhc=>?_
  .have hlt:i<(to-fr):=Dq;have hw:=aG hlt (by omega);have hj:((fr+i:Nat):Int).toNat=fr+i:=by omega
   have gr:=aMR (by omega:fr+i<ns.length);have hss:=aLX (hge i (by omega));have hwj:IntKind.i64.wrap (((fr+i:Nat):Int)+1)=((fr+(i+1):Nat):Int):=by rw[aR (by omega) (by omega)];omega
   obtain⟨j,rfl⟩:∃j,j=i:=⟨i,rfl⟩;simp -dsimp only[go_sem];refine aM.at dM (X:={zz:Nat×(Unit) // zz.1<=1∧True}) (λzz=>[(9,.loc (.t 13 0) 0 1),(17,.junk),(11,.v (.int .i64 zz.1.1))]) (λzz=>[(.t 13 0,.arr 1 (E cI [if zz.1.1=0 then xC (ms.take j) else xC (ms.take (j+1))]) false)]) (λzz=>1-zz.1.1) ⟨(0,()),by omega,trivial⟩ ?_ ?_
   .simp[Vs.LeL,Vs.look,aA,aS,aJ,Vs.hset,aK,Vs.E,cI]
   .rintro⟨⟨i,_⟩,hi,hg⟩;dsimp only at hi hg;simp -dsimp only[go_sem];refine Br.mk (λhc=>?_) λhc=>?_
    .have hlt:i<1:=Dq;have hw:=aG hlt (by omega);obtain rfl:i=0:=by omega
     repeat' first|simp -dsimp only[go_sem,gr,hj,hss,e1c,hw]|apply Br.mk<;>intro h<;>try simp -dsimp only[h]|refine aC ?_|fail
     all_goals first|omega|(exact nx (1,()) trivial (h2:=by simp[Vs.LeL,Vs.look,aA,aS,aJ,Vs.hset,aK,hss,Vs.E,cI]))
    .have hge:i=1:=by
      have:¬i<1:=Dq;omega
     subst hge;simp -dsimp only[go_sem];refine And.intro ?_ (λh=>absurd rfl h);simp -dsimp only[go_sem,hwj]
     first|(exact⟨⟨(j+1,()),by omega,trivial⟩,by simp[Vs.LeL,Vs.look,aA,aS,aJ,Vs.hset,aK],by simp only;omega⟩)
  .have hge:i=(to-fr):=by
    have:¬i<(to-fr):=Dq;omega
   subst hge;simp -dsimp only[go_sem];have hfull:(E cI [xC (ms.take (to-fr))]).take 1=E cI [xC ms]:=by rw[Aj (l:=ms) (by omega)];rfl
   first|(rw[hfull];exact⟨⟨_,_,rfl,rfl⟩,λh=>h rfl⟩)
end
section
variable [Vs.Envs]
attribute [local irreducible] Vs.Fn aV lT bA xC bS bK aO bL bM l03 chB rk cd3 chI stp aP
def mK (sf st:Int) (l:List (List Int)):List Int:=l.map λc=>(lT sf st c).1
theorem kD (sf st:Int) (l:List (List Int)):(mK sf st l).length=l.length:=by simp[mK]
theorem aCT {sf st:Int}{l:List (List Int)}{i:Nat} (h:i<l.length):E cRw ((mK sf st l).take i)++[[.sl 1 [[.v (.int .i64 (lT sf st l[i]).1)]]]]=E cRw ((mK sf st l).take (i+1)):=by
 rw[aY (by rw[kD];exact h),bH];simp[mK,E,cRw]
def jU (sf st:Int) (l:List (List Int)) (i:Nat):AV:=if i=0 then .v (.slice none 0 0) else .loc (.t 84 0) 0 i
def jT (sf st:Int) (l:List (List Int)) (i:Nat):List (Vs.Name×Blk):=if i=0 then[] else[(.t 84 0,.arr 1 (E cRw ((mK sf st l).take i)) false)]
def vB (sf st:Int) (l:List (List Int)) (i:Nat):AV:=if i=0 then .v (.slice none 0 0) else .sl 1 (E cRw ((mK sf st l).take i))
section
variable (l:List (List Int)) (fr to sf st:Int) (hk:aZ l) (hd:bF l=true) (hf:dZ fr to (bJ l)=true) (hn:zT sf st (bJ l)=true)
include hk hd hf hn
theorem aEt:inB (bJ l) 1 20=true:=by
 have _:=hk;have _:=hf;have _:=hn;by_cases h0:l.length=0
 .unfold bJ;rw[AP h0];rfl
 .have F:=hd;simp only[bF,Av,Az,Bb] at F;have H:l.getD 0 []∈l:=by rw[show l.getD 0 []=l[0]'(by omega) by simp[List.getD,(by omega:0<l.length)]];exact Aa _
  have:=(F.1 _ H).1;simp only[iL,inB,Av,Bb] at this;unfold bJ;rw[AB h0];simp only[inB,Av,Bb];omega
theorem aG7 (U:bV fr to l=false):Fz F.yV [.ro [.v (.int .i64 fr),.v (.int .i64 to),.sl 2 [[.v (.int .i64 sf),.v (.int .i64 st)]],.v (.bool false)],.sl 1 (E cC l)] (.tup [.ro [.v (.slice none 0 0),.v (.slice none 0 0),.v (.slice none 0 0)],.v (.int .i64 8)]):=by
 have I:=dK l hk.2 hk.1;rw[hd] at I;have O:=eZ l;have H:=aG8 fr to sf st (bJ l) (aEt l fr to sf st hk hd hf hn) hf hn;have J:=jV l fr to hk.2 hk.1;have L:bA fr to l=8:=by simp only[bA,hd,hf,U];rfl
 rw[show nV fr to l=.v (.slice none 0 0) by simp[nV,L],L] at J;refine fn0 CdV.l13Read_k λX=>?_
 repeat' first|simp -dsimp only[go_sem,Int.reduceBEq,Int.reduceBNe,cC,cFd,aH,Af,Ag,Al,Aq,Ae,Ai,Ac,Ak,Ab,Ah,Am,Aw]|apply Br.mk<;>intro h<;>try simp -dsimp only[h]|refine aB.c (by first|exact I|exact O|exact H|exact J) ?_|refine aC ?_|fail
 all_goals first|exact⟨_,_,rfl,rfl⟩
attribute [local go_sem] Int.reduceBEq Int.reduceBNe cFd aH Af Ag Al Aq Ae Ai Ac Ak Ab Ah Am Aw in
theorem aG6 (ha:bV fr to l=true) (hN:tX sf st l=true):Fz F.yV [.ro [.v (.int .i64 fr),.v (.int .i64 to),.sl 2 [[.v (.int .i64 sf),.v (.int .i64 st)]],.v (.bool false)],.sl 1 (E cC l)] (.tup [.ro [.sl 1 (E cSt (bS fr to l)),vB sf st l l.length,.sl 1 (E cI (aV fr to l l.length))],.v (.int .i64 0)]):=by
 have DK:=dK l hk.2 hk.1;rw[hd] at DK;have WD:=eZ l;have OKS:=aG8 fr to sf st (bJ l) (aEt l fr to sf st hk hd hf hn) hf hn;have KS:=jV l fr to hk.2 hk.1;have ho:=dF hd hf;have h40:=jB hd;have hc:bA fr to l=0:=by simp only[bA,hd,hf,ha];rfl
 rw[show nV fr to l=.sl 1 (E cSt (bS fr to l)) by simp[nV,hc],hc] at KS;have hp:∀c,c∈l->okP sf st c:=aEP hd hn;have e1c:∀x:Int,E cI [x]=[[.v (.int .i64 x)]]:=λ_=>rfl;have hok:∀j,(h:j<l.length)->j<l.length->(lT sf st l[j]).2=true:=λj h _=>Az.1 hN _ (Aa h);have GR:=aD4 l fr to ho ha (by omega);have hgl:=iU fr to l l.length;refine fn0 CdV.l13Read_k λX=>?_
 repeat' first|simp -dsimp only[go_sem,cC]|apply Br.mk<;>intro h<;>try simp -dsimp only[h]|refine aB.c (by first|exact DK|exact WD|exact OKS|exact KS) ?_|refine aC ?_|fail
 refine aM.at dM (X:={j:Nat // j<=l.length}) (λj=>[(9,.v (.int .i64 (j.1:Nat)))]) (λj=>(.t 15 0,.var [.v (.slice none 0 0),jU sf st l j.1,.v (.slice none 0 0)] false)::jT sf st l j.1) (λj=>l.length-j.1) ⟨0,by omega⟩ ?_ ?_
 .simp[Vs.LeL,Vs.look,aA,aS,aJ,Vs.hset,aK,jU,jT]
 .rintro⟨j,hj⟩
  try dsimp only at hj
  by_cases hjm:j<l.length
  .have hlt:j<l.length:=by omega
   have ht:decide ((j:Int)<(l.length:Int))=true:=A7 (by omega);have gj:(E cC l).getD j []=[.sl 1 (E cI l[j])]:=aN hlt;have PC:=aKA (hp _ (Aa hlt));have NI:=aAh (hp _ (Aa hlt));have hrow:=aCT (sf:=sf) (st:=st) hlt;have hrl:(E cRw ((mK sf st l).take j)).length=j:=by rw[aH,BM,kD];omega
   have hrl2:((mK sf st l).take j).length=j:=by rw[BM,kD];omega
   have hwj:IntKind.i64.wrap ((j:Int)+1)=((j+1:Nat):Int):=by rw[aR (by omega) (by omega)];omega
   rw[hok j hlt hjm] at NI;by_cases hj0:j=0
   .have hA:jU sf st l j=.v (.slice none 0 0):=by simp[jU,hj0]
    have hH:jT sf st l j=[]:=by simp[jT,hj0]
    have hr0:E cRw ((mK sf st l).take j)=[]:=by rw[hj0];rfl
    have hrow0:[[.sl 1 [[.v (.int .i64 (lT sf st l[j]).1)]]]]=E cRw ((mK sf st l).take (j+1)):=by rw[←hrow,hr0];rfl
    rw[hA,hH]
    repeat' first|simp -dsimp only[go_sem,ht,e1c,cC]|apply Br.mk<;>intro h<;>try simp -dsimp only[h]|refine aC ?_|fail
    refine aM.at dM (X:={zz:Nat×(Unit) // zz.1<=1∧True}) (λzz=>[(10,.loc (.t 10 0) 0 zz.1.1),(42,.junk),(11,.v (.int .i64 zz.1.1))]) (λzz=>[(.t 10 0,.arr 1 (E cI ([(lT sf st l[j]).1].take zz.1.1)) false)]) (λzz=>1-zz.1.1) ⟨(0,()),by omega,trivial⟩ ?_ ?_
    .simp[Vs.LeL,Vs.look,aA,aS,aJ,Vs.hset,aK,Vs.E,cI]
    .rintro⟨⟨i,_⟩,hi,hg⟩;dsimp only at hi hg;simp -dsimp only[go_sem,cC];refine Br.mk (λhc=>?_) λhc=>?_
     .have hlt:i<1:=Dq;have hw:=aG hlt (by omega);obtain rfl:i=0:=by omega
      repeat' first|simp -dsimp only[go_sem,gj,e1c,cC,hw]|apply Br.mk<;>intro h<;>try simp -dsimp only[h]|refine aB.c (by first|exact PC|exact NI) ?_|refine aC ?_|fail
      all_goals first|omega|(exact nx (1,()) trivial (h2:=by simp[Vs.LeL,Vs.look,aA,aS,aJ,Vs.hset,aK,Vs.E,cI]))
     .have hge:i=1:=by
       have:¬i<1:=Dq;omega
      subst hge;simp -dsimp only[go_sem,cC]
      repeat' first|simp -dsimp only[go_sem,hwj,e1c,hrow,hrl,hrl2,ht,hrow0,cC]|apply Br.mk<;>intro h<;>try simp -dsimp only[h]|refine And.intro ?_ (λh=>absurd rfl h)|refine aC ?_|fail
      first|(exact⟨⟨j+1,by omega⟩,by simp[Vs.LeL,Vs.look,aA,aS,aJ,Vs.hset,aK,jU,jT,hrow,Vs.E,hj0],by simp only;omega⟩)
   .have hA:jU sf st l j=.loc (.t 84 0) 0 j:=by simp[jU,hj0]
    have hH:jT sf st l j=[(.t 84 0,.arr 1 (E cRw ((mK sf st l).take j)) false)]:=by simp[jT,hj0]
    rw[hA,hH]
    repeat' first|simp -dsimp only[go_sem,ht,e1c,cC]|apply Br.mk<;>intro h<;>try simp -dsimp only[h]|refine aC ?_|fail
    refine aM.at dM (X:={zz:Nat×(Unit) // zz.1<=1∧True}) (λzz=>[(10,.loc (.t 10 0) 0 zz.1.1),(42,.junk),(11,.v (.int .i64 zz.1.1))]) (λzz=>[(.t 10 0,.arr 1 (E cI ([(lT sf st l[j]).1].take zz.1.1)) false)]) (λzz=>1-zz.1.1) ⟨(0,()),by omega,trivial⟩ ?_ ?_
    .simp[Vs.LeL,Vs.look,aA,aS,aJ,Vs.hset,aK,Vs.E,cI]
    .rintro⟨⟨i,_⟩,hi,hg⟩;dsimp only at hi hg;simp -dsimp only[go_sem,cC];refine Br.mk (λhc=>?_) λhc=>?_
     .have hlt:i<1:=Dq;have hw:=aG hlt (by omega);obtain rfl:i=0:=by omega
      repeat' first|simp -dsimp only[go_sem,gj,e1c,cC,hw]|apply Br.mk<;>intro h<;>try simp -dsimp only[h]|refine aB.c (by first|exact PC|exact NI) ?_|refine aC ?_|fail
      all_goals first|omega|(exact nx (1,()) trivial (h2:=by simp[Vs.LeL,Vs.look,aA,aS,aJ,Vs.hset,aK,Vs.E,cI]))
     .have hge:i=1:=by
       have:¬i<1:=Dq;omega
      subst hge;simp -dsimp only[go_sem,cC]
      repeat' first|simp -dsimp only[go_sem,hwj,e1c,hrow,hrl,hrl2,ht,cC]|apply Br.mk<;>intro h<;>try simp -dsimp only[h]|refine And.intro ?_ (λh=>absurd rfl h)|refine aC ?_|fail
      first|(exact⟨⟨j+1,by omega⟩,by simp[Vs.LeL,Vs.look,aA,aS,aJ,Vs.hset,aK,jU,jT,hrow,Vs.E],by simp only;omega⟩)
  .obtain rfl:j=l.length:=by omega
   have ht:decide ((l.length:Int)<(l.length:Int))=false:=by simp
   by_cases hj0:l.length=0
   .have hA:jU sf st l l.length=.v (.slice none 0 0):=by simp[jU,hj0]
    have hH:jT sf st l l.length=[]:=by simp[jT,hj0]
    rw[hA,hH,show vB sf st l l.length=.v (.slice none 0 0) by simp[vB,hj0]]
    repeat' first|simp -dsimp only[go_sem,ht,cC]|apply Br.mk<;>intro h<;>try simp -dsimp only[h]|refine aB.c (by first|exact GR) ?_|refine And.intro ?_ (λh=>absurd rfl h)|refine aC ?_|fail
    all_goals first|exact⟨⟨_,_,rfl,rfl⟩,λh=>h rfl⟩|exact⟨_,_,rfl,rfl⟩
   .have hA:jU sf st l l.length=.loc (.t 84 0) 0 l.length:=by simp[jU,hj0]
    have hH:jT sf st l l.length=[(.t 84 0,.arr 1 (E cRw ((mK sf st l).take l.length)) false)]:=by simp[jT,hj0]
    rw[hA,hH,show vB sf st l l.length=.sl 1 (E cRw ((mK sf st l).take l.length)) by simp[vB,hj0]];have htk:(E cRw ((mK sf st l).take l.length)).take l.length=E cRw ((mK sf st l).take l.length):=Aj (by rw[aH,BM,kD];omega);simp -dsimp only[go_sem,ht,cC]
    repeat' first|simp -dsimp only[go_sem,ht,htk,cC]|apply Br.mk<;>intro h<;>try simp -dsimp only[h]|refine aB.c (by first|exact GR) ?_|refine And.intro ?_ (λh=>absurd rfl h)|refine aC ?_|fail
    all_goals first|exact⟨⟨_,_,rfl,rfl⟩,λh=>h rfl⟩|exact⟨_,_,rfl,rfl⟩
end
end
section
variable [Vs.Envs]
attribute [local irreducible] Vs.Fn aV lT bA xC bS fM bK aO bL bM l03 chB rk cd3 chI stp aP
theorem aEd {α:Type}{p:α->Bool}:∀{l:List α},l.all p=false->∃m,∃h:m<l.length,p l[m]=false∧∀j,(F:j<l.length)->j<m->p l[j]=true
 | [],h=>by simp at h
 | x::r,h=>by
  cases hx:p x
  .exact⟨0,by simp,by simpa using hx,λj _ F=>by omega⟩
  .rw[BK,hx,CX] at h;obtain⟨m,J,H,h2⟩:=aEd h;refine⟨m+1,by simpa using J,by simpa using H,λj F I=>?_⟩;cases j with
   |zero=>simpa using hx
   |succ j=>simpa using h2 j (by simpa using F) (by omega)
section
variable (l:List (List Int)) (fr to sf st:Int) (hk:aZ l) (hd:bF l=true) (hf:dZ fr to (bJ l)=true) (hn:zT sf st (bJ l)=true)
include hk hd hf hn
attribute [local go_sem] Int.reduceBEq Int.reduceBNe cFd aH Af Ag Al Aq Ae Ai Ac Ak Ab Ah Am Aw in
theorem aFX (ha:bV fr to l=true) (hN:tX sf st l=false):∃v,Fz F.yV [.ro [.v (.int .i64 fr),.v (.int .i64 to),.sl 2 [[.v (.int .i64 sf),.v (.int .i64 st)]],.v (.bool false)],.sl 1 (E cC l)] (.tup [.ro v,.v (.int .i64 8)]):=by
 obtain⟨m,hm,hbad,hok0⟩:=aEd hN;refine⟨[.v (.slice none 0 0),vB sf st l m,.v (.slice none 0 0)],?_⟩;have DK:=dK l hk.2 hk.1;rw[hd] at DK;have WD:=eZ l;have OKS:=aG8 fr to sf st (bJ l) (aEt l fr to sf st hk hd hf hn) hf hn;have KS:=jV l fr to hk.2 hk.1;have ho:=dF hd hf;have h40:=jB hd;have hc:bA fr to l=0:=by simp only[bA,hd,hf,ha];rfl
 rw[show nV fr to l=.sl 1 (E cSt (bS fr to l)) by simp[nV,hc],hc] at KS;have hp:∀c,c∈l->okP sf st c:=aEP hd hn;have e1c:∀x:Int,E cI [x]=[[.v (.int .i64 x)]]:=λ_=>rfl;have hok:∀j,(h:j<l.length)->j<m->(lT sf st l[j]).2=true:=hok0;refine fn0 CdV.l13Read_k λX=>?_
 repeat' first|simp -dsimp only[go_sem,cC]|apply Br.mk<;>intro h<;>try simp -dsimp only[h]|refine aB.c (by first|exact DK|exact WD|exact OKS|exact KS) ?_|refine aC ?_|fail
 refine aM.at dM (X:={j:Nat // j<=m}) (λj=>[(9,.v (.int .i64 (j.1:Nat)))]) (λj=>(.t 15 0,.var [.v (.slice none 0 0),jU sf st l j.1,.v (.slice none 0 0)] false)::jT sf st l j.1) (λj=>m-j.1) ⟨0,by omega⟩ ?_ ?_
 .simp[Vs.LeL,Vs.look,aA,aS,aJ,Vs.hset,aK,jU,jT]
 .rintro⟨j,hj⟩
  try dsimp only at hj
  by_cases hjm:j<m
  .have hlt:j<l.length:=by omega
   have ht:decide ((j:Int)<(l.length:Int))=true:=A7 (by omega);have gj:(E cC l).getD j []=[.sl 1 (E cI l[j])]:=aN hlt;have PC:=aKA (hp _ (Aa hlt));have NI:=aAh (hp _ (Aa hlt));have hrow:=aCT (sf:=sf) (st:=st) hlt;have hrl:(E cRw ((mK sf st l).take j)).length=j:=by rw[aH,BM,kD];omega
   have hrl2:((mK sf st l).take j).length=j:=by rw[BM,kD];omega
   have hwj:IntKind.i64.wrap ((j:Int)+1)=((j+1:Nat):Int):=by rw[aR (by omega) (by omega)];omega
   rw[hok j hlt hjm] at NI;by_cases hj0:j=0
   .have hA:jU sf st l j=.v (.slice none 0 0):=by simp[jU,hj0]
    have hH:jT sf st l j=[]:=by simp[jT,hj0]
    have hr0:E cRw ((mK sf st l).take j)=[]:=by rw[hj0];rfl
    have hrow0:[[.sl 1 [[.v (.int .i64 (lT sf st l[j]).1)]]]]=E cRw ((mK sf st l).take (j+1)):=by rw[←hrow,hr0];rfl
    rw[hA,hH]
    repeat' first|simp -dsimp only[go_sem,ht,e1c,cC]|apply Br.mk<;>intro h<;>try simp -dsimp only[h]|refine aC ?_|fail
    refine aM.at dM (X:={zz:Nat×(Unit) // zz.1<=1∧True}) (λzz=>[(10,.loc (.t 10 0) 0 zz.1.1),(42,.junk),(11,.v (.int .i64 zz.1.1))]) (λzz=>[(.t 10 0,.arr 1 (E cI ([(lT sf st l[j]).1].take zz.1.1)) false)]) (λzz=>1-zz.1.1) ⟨(0,()),by omega,trivial⟩ ?_ ?_
    .simp[Vs.LeL,Vs.look,aA,aS,aJ,Vs.hset,aK,Vs.E,cI]
    .rintro⟨⟨i,_⟩,hi,hg⟩;dsimp only at hi hg;simp -dsimp only[go_sem,cC];refine Br.mk (λhc=>?_) λhc=>?_
     .have hlt:i<1:=Dq;have hw:=aG hlt (by omega);obtain rfl:i=0:=by omega
      repeat' first|simp -dsimp only[go_sem,gj,e1c,cC,hw]|apply Br.mk<;>intro h<;>try simp -dsimp only[h]|refine aB.c (by first|exact PC|exact NI) ?_|refine aC ?_|fail
      all_goals first|omega|(exact nx (1,()) trivial (h2:=by simp[Vs.LeL,Vs.look,aA,aS,aJ,Vs.hset,aK,Vs.E,cI]))
     .have hge:i=1:=by
       have:¬i<1:=Dq;omega
      subst hge;simp -dsimp only[go_sem,cC]
      repeat' first|simp -dsimp only[go_sem,hwj,e1c,hrow,hrl,hrl2,ht,hrow0,cC]|apply Br.mk<;>intro h<;>try simp -dsimp only[h]|refine And.intro ?_ (λh=>absurd rfl h)|refine aC ?_|fail
      first|(exact⟨⟨j+1,by omega⟩,by simp[Vs.LeL,Vs.look,aA,aS,aJ,Vs.hset,aK,jU,jT,hrow,Vs.E,hj0],by simp only;omega⟩)
   .have hA:jU sf st l j=.loc (.t 84 0) 0 j:=by simp[jU,hj0]
    have hH:jT sf st l j=[(.t 84 0,.arr 1 (E cRw ((mK sf st l).take j)) false)]:=by simp[jT,hj0]
    rw[hA,hH]
    repeat' first|simp -dsimp only[go_sem,ht,e1c,cC]|apply Br.mk<;>intro h<;>try simp -dsimp only[h]|refine aC ?_|fail
    refine aM.at dM (X:={zz:Nat×(Unit) // zz.1<=1∧True}) (λzz=>[(10,.loc (.t 10 0) 0 zz.1.1),(42,.junk),(11,.v (.int .i64 zz.1.1))]) (λzz=>[(.t 10 0,.arr 1 (E cI ([(lT sf st l[j]).1].take zz.1.1)) false)]) (λzz=>1-zz.1.1) ⟨(0,()),by omega,trivial⟩ ?_ ?_
    .simp[Vs.LeL,Vs.look,aA,aS,aJ,Vs.hset,aK,Vs.E,cI]
    .rintro⟨⟨i,_⟩,hi,hg⟩;dsimp only at hi hg;simp -dsimp only[go_sem,cC];refine Br.mk (λhc=>?_) λhc=>?_
     .have hlt:i<1:=Dq;have hw:=aG hlt (by omega);obtain rfl:i=0:=by omega
      repeat' first|simp -dsimp only[go_sem,gj,e1c,cC,hw]|apply Br.mk<;>intro h<;>try simp -dsimp only[h]|refine aB.c (by first|exact PC|exact NI) ?_|refine aC ?_|fail
      all_goals first|omega|(exact nx (1,()) trivial (h2:=by simp[Vs.LeL,Vs.look,aA,aS,aJ,Vs.hset,aK,Vs.E,cI]))
     .have hge:i=1:=by
       have:¬i<1:=Dq;omega
      subst hge;simp -dsimp only[go_sem,cC]
      repeat' first|simp -dsimp only[go_sem,hwj,e1c,hrow,hrl,hrl2,ht,cC]|apply Br.mk<;>intro h<;>try simp -dsimp only[h]|refine And.intro ?_ (λh=>absurd rfl h)|refine aC ?_|fail
      first|(exact⟨⟨j+1,by omega⟩,by simp[Vs.LeL,Vs.look,aA,aS,aJ,Vs.hset,aK,jU,jT,hrow,Vs.E],by simp only;omega⟩)
  .obtain rfl:j=m:=by omega
   have hlt:j<l.length:=hm;have ht:decide ((j:Int)<(l.length:Int))=true:=A7 (by omega);have gj:(E cC l).getD j []=[.sl 1 (E cI l[j])]:=aN hlt;have PC:=aKA (hp _ (Aa hlt));have NI:=aAh (hp _ (Aa hlt));have hrow:=aCT (sf:=sf) (st:=st) hlt;have hrl:(E cRw ((mK sf st l).take j)).length=j:=by rw[aH,BM,kD];omega
   have hrl2:((mK sf st l).take j).length=j:=by rw[BM,kD];omega
   have hwj:IntKind.i64.wrap ((j:Int)+1)=((j+1:Nat):Int):=by rw[aR (by omega) (by omega)];omega
   rw[hbad] at NI;by_cases hj0:j=0
   .have hA:jU sf st l j=.v (.slice none 0 0):=by simp[jU,hj0]
    have hH:jT sf st l j=[]:=by simp[jT,hj0]
    rw[hA,hH,show vB sf st l j=.v (.slice none 0 0) by simp[vB,hj0]]
    repeat' first|simp -dsimp only[go_sem,ht,e1c,cC]|apply Br.mk<;>intro h<;>try simp -dsimp only[h]|refine aC ?_|fail
    refine aM.at dM (X:={zz:Nat×(Unit) // zz.1<=1∧zz.1=0}) (λzz=>[(10,.loc (.t 10 0) 0 zz.1.1),(42,.junk),(11,.v (.int .i64 zz.1.1))]) (λzz=>[(.t 10 0,.arr 1 (E cI ([(lT sf st l[j]).1].take zz.1.1)) false)]) (λzz=>1-zz.1.1) ⟨(0,()),by omega,rfl⟩ ?_ ?_
    .simp[Vs.LeL,Vs.look,aA,aS,aJ,Vs.hset,aK,Vs.E,cI]
    .rintro⟨⟨i,_⟩,hi,hg⟩;dsimp only at hi hg;simp -dsimp only[go_sem,cC];refine Br.mk (λhc=>?_) λhc=>?_
     .have hlt:i<1:=Dq;have hw:=aG hlt (by omega);obtain rfl:i=0:=by omega
      repeat' first|simp -dsimp only[go_sem,gj,e1c,ht,cC,hw]|apply Br.mk<;>intro h<;>try simp -dsimp only[h]|refine aB.c (by first|exact PC|exact NI) ?_|refine aC ?_|fail
      all_goals first|omega|(exact⟨_,_,rfl,rfl⟩)|(rw[hbad];exact⟨_,_,rfl,rfl⟩)
     .have hge:i=1:=by
       have:¬i<1:=Dq;omega
      subst hge;simp -dsimp only[go_sem,cC];omega
   .have hA:jU sf st l j=.loc (.t 84 0) 0 j:=by simp[jU,hj0]
    have hH:jT sf st l j=[(.t 84 0,.arr 1 (E cRw ((mK sf st l).take j)) false)]:=by simp[jT,hj0]
    rw[hA,hH,show vB sf st l j=.sl 1 (E cRw ((mK sf st l).take j)) by simp[vB,hj0]];have htk:(E cRw ((mK sf st l).take j)).take j=E cRw ((mK sf st l).take j):=Aj (by omega)
    repeat' first|simp -dsimp only[go_sem,ht,e1c,cC]|apply Br.mk<;>intro h<;>try simp -dsimp only[h]|refine aC ?_|fail
    refine aM.at dM (X:={zz:Nat×(Unit) // zz.1<=1∧zz.1=0}) (λzz=>[(10,.loc (.t 10 0) 0 zz.1.1),(42,.junk),(11,.v (.int .i64 zz.1.1))]) (λzz=>[(.t 10 0,.arr 1 (E cI ([(lT sf st l[j]).1].take zz.1.1)) false)]) (λzz=>1-zz.1.1) ⟨(0,()),by omega,rfl⟩ ?_ ?_
    .simp[Vs.LeL,Vs.look,aA,aS,aJ,Vs.hset,aK,Vs.E,cI]
    .rintro⟨⟨i,_⟩,hi,hg⟩;dsimp only at hi hg;simp -dsimp only[go_sem,cC];refine Br.mk (λhc=>?_) λhc=>?_
     .have hlt:i<1:=Dq;have hw:=aG hlt (by omega);obtain rfl:i=0:=by omega
      repeat' first|simp -dsimp only[go_sem,gj,e1c,ht,htk,cC,hw]|apply Br.mk<;>intro h<;>try simp -dsimp only[h]|refine aB.c (by first|exact PC|exact NI) ?_|refine aC ?_|fail
      all_goals first|omega|(exact⟨_,_,rfl,rfl⟩)|(rw[hbad];exact⟨_,_,rfl,rfl⟩)
     .have hge:i=1:=by
       have:¬i<1:=Dq;omega
      subst hge;simp -dsimp only[go_sem,cC];omega
attribute [local go_sem] Int.reduceBEq Int.reduceBNe aH Af Ag Al Aq Ae Ai Ac Ak Ab Ah Am Aw in
theorem aCi:Fz F.uR [.sl 1 (E cC l),.agg (cFd fr to),.agg (cFd sf st)] (.tup [xB fr to sf st l,.v (.int .i64 (if jS fr to sf st l then 0 else 8))]):=by
 cases ha:bV fr to l
 .have RD:=aG7 l fr to sf st hk hd hf hn ha;have hb:jS fr to sf st l=false:=by simp[jS,ha]
  rw[show xB fr to sf st l=.v (.slice none 0 0) by simp[xB,hb],hb];refine fn0 Cd.s_l15Sums_k λX=>?_
  repeat' first|simp -dsimp only[go_sem,cC,cFd,cTt]|apply Br.mk<;>intro h<;>try simp -dsimp only[h]|refine aB.c (by first|exact RD) ?_|refine aC ?_|fail
  all_goals first|exact⟨_,_,rfl,rfl⟩
 cases hN:tX sf st l
 .obtain⟨v,RD⟩:=aFX l fr to sf st hk hd hf hn ha hN;have hb:jS fr to sf st l=false:=by simp[jS,hN]
  rw[show xB fr to sf st l=.v (.slice none 0 0) by simp[xB,hb],hb];refine fn0 Cd.s_l15Sums_k λX=>?_
  repeat' first|simp -dsimp only[go_sem,cC,cFd,cTt]|apply Br.mk<;>intro h<;>try simp -dsimp only[h]|refine aB.c (by first|exact RD) ?_|refine aC ?_|fail
  all_goals first|exact⟨_,_,rfl,rfl⟩
 have RD:=aG6 l fr to sf st hk hd hf hn ha hN;have hb:jS fr to sf st l=true:=by simp[jS,hN,ha]
 rw[show xB fr to sf st l=.sl 2 (E cTt (jX fr to sf st l)) by simp[xB,hb],hb];have h40:=jB hd;have hin:=vR (fr:=fr) (to:=to) (l:=l) l.length;have hup:=aAZ (fr:=fr) (to:=to) (l:=l) l.length;have hgl:=iU fr to l l.length
 have htl:jX fr to sf st l=(List.range (aV fr to l l.length).length).map (λi=>(txt (fH fr to ((fI l (aV fr to l l.length) i).getD 0 [])),fM sf st (fI l (aV fr to l l.length) i))):=by
  unfold jX aA0;rw[Cc];rfl
 rw[htl];have hkl:(bS fr to l).length=l.length:=by unfold bS;simp
 have hkg:∀i,i<l.length->(E cSt (bS fr to l)).getD i []=[.v (.string (txt (fH fr to (l.getD i []))))]:=λi hi=>by
  rw[aN (by omega)];simp[cSt,bS,List.getD,hi]
 generalize aV fr to l l.length=o at *
 refine fn0 Cd.s_l15Sums_k λX=>?_
 repeat' first|simp -dsimp only[go_sem,cC,cFd,cTt]|apply Br.mk<;>intro h<;>try simp -dsimp only[h]|refine aB.c (by first|exact RD) ?_|refine aC ?_|fail
 refine aM.at dM (X:={zz:Nat×(Unit) // zz.1<=o.length∧True}) (λzz=>[(10,.loc (.t 10 0) 0 zz.1.1),(11,.v (.int .i64 zz.1.1))]) (λzz=>[(.t 10 0,.arr 2 (E cTt ((List.range zz.1.1).map λi=>(txt (fH fr to ((fI l o i).getD 0 [])),fM sf st (fI l o i)))) false)]) (λzz=>o.length-zz.1.1) ⟨(0,()),by omega,trivial⟩ ?_ ?_
 .simp[Vs.LeL,Vs.look,aA,aS,aJ,Vs.hset,aK,Vs.E]
 .rintro⟨⟨i,_⟩,hi,hg⟩;dsimp only at hi hg;simp -dsimp only[go_sem,cC,cFd,cTt];refine Br.mk (λhc=>?_) λhc=>?_
  .have hlt:i<o.length:=Dq;have hw:=aG hlt (by omega)
   obtain ⟨a,e,hae,hel,ga,hga,hge2,hend⟩:∃a e:Nat,a<e∧e<=l.length∧o[i]=(a:Int)∧(o.getD i 0).toNat=a∧(if i+1<o.length then(o.getD (i+1) 0).toNat else l.length)=e∧(if i+1<o.length then o.getD (i+1) 0 else((bS fr to l).length:Int))=(e:Int):=by
    have h0:=hin _ (Aa hlt);have e0:o.getD i 0=o[i]:=by simp[List.getD,hlt]
    by_cases h1:i+1<o.length
    .have h2:=hin _ (Aa h1);have h3:o[i]<o[i+1]:=Dg.1 hup i (i+1) hlt h1 (by omega);have e1:o.getD (i+1) 0=o[i+1]:=by simp[List.getD,h1]
     refine⟨o[i].toNat,o[i+1].toNat,by omega,by omega,by omega,by rw[e0],by rw[AP h1,e1],by rw[AP h1,e1];omega⟩
    .refine⟨o[i].toNat,l.length,by omega,by omega,by omega,by rw[e0],by rw[AB h1],by rw[AB h1,hkl]⟩
   have hgat:fI l o i=(l.take e).drop a:=by unfold fI;rw[hge2,hga]
   have hg0:((l.take e).drop a).getD 0 []=l.getD a []:=by
    simp only[List.getD];rw[Dr,List.getElem?_take,AP (by omega),Ct]
   have gi:(E cI o).getD i []=[.v (.int .i64 (a:Int))]:=by rw[dJ hlt,ga]
   have gk:=hkg a (by omega);have EN:=r_end (vB sf st l l.length) o (bS fr to l) i hlt (by omega);rw[hend] at EN
   have hnv:vB sf st l l.length=.sl 1 (E cRw (mK sf st l)):=by
    unfold vB;rw[AB (by omega),Aj (by rw[kD];omega)]
   have SM:=aNI (.sl 1 (E cSt (bS fr to l))) (.sl 1 (E cI o)) (mK sf st l) a e (by omega) (by rw[kD];exact hel) (by rw[kD];omega)
   have hsm:xC (((mK sf st l).take e).drop a)=fM sf st ((l.take e).drop a):=by
    rw[←aJ5];congr 1;simp[mK,CG,CJ]
   rw[hsm] at SM;rw[hnv] at EN⊢;have e1s:(E cI [fM sf st ((l.take e).drop a)]).getD 0 []=[.v (.int .i64 (fM sf st ((l.take e).drop a)))]:=rfl;have e1l:(E cI [fM sf st ((l.take e).drop a)]).length=1:=rfl
   have hap:E cTt ((List.range i).map λi=>(txt (fH fr to ((fI l o i).getD 0 [])),fM sf st (fI l o i)))++[[.v (.string (txt (fH fr to (l.getD a [])))),.v (.int .i64 (fM sf st ((l.take e).drop a)))]]=E cTt ((List.range (i+1)).map λi=>(txt (fH fr to ((fI l o i).getD 0 [])),fM sf st (fI l o i))):=by
    rw[Dm,Bu,bH];simp only[BD,BX,hgat,hg0];rfl
   have hal:(E cTt ((List.range i).map λi=>(txt (fH fr to ((fI l o i).getD 0 [])),fM sf st (fI l o i)))).length=i:=by rw[aH];simp
   have hta:((a:Nat):Int).toNat=a:=by omega
   generalize fM sf st ((l.take e).drop a)=sw at *
   generalize txt (fH fr to (l.getD a []))=nm at *
   repeat' first|simp -dsimp only[go_sem,gi,gk,hw,hap,hal,hta,e1s,e1l,hkl,cC,cFd]|apply Br.mk<;>intro h<;>try simp -dsimp only[h]|refine aB.c (by first|exact EN|exact SM) ?_|refine aC ?_|fail
   all_goals first|omega|(exact nx (i+1,()) trivial (h2:=by simp[Vs.LeL,Vs.look,aA,aS,aJ,Vs.hset,aK,hap,hnv,Dm,Vs.rnL,Vs.rn,Vs.nmF,Vs.scr,Vs.AV.has]))
  .have hge:i=o.length:=by
    have:¬i<o.length:=Dq;omega
   subst hge;simp -dsimp only[go_sem,cC,cFd,cTt];have htk:(E cTt ((List.range o.length).map λi=>(txt (fH fr to ((fI l o i).getD 0 [])),fM sf st (fI l o i)))).take o.length=E cTt ((List.range o.length).map λi=>(txt (fH fr to ((fI l o i).getD 0 [])),fM sf st (fI l o i))):=Aj (by rw[aH];simp)
   first|(rw[htk];exact⟨⟨_,_,rfl,rfl⟩,λh=>h rfl⟩)
end
end
section
variable [Vs.Envs]
attribute [local irreducible] Vs.Fn pun cmT zR dI iM bA bK aO bL bM l03 chB rk cd3 chI stp aP
theorem aKk {fr to:Int}{s:ByteArray}{l:List (List Int)} (h:iM fr to s l=0):bF l=true∧dZ fr to (bJ l)=true∧s.size=to.toNat-fr.toNat∧aO s=true∧bV fr to l=true:=by
 obtain⟨hd,hf,J,H,F⟩:=aEJ h;have I:=hf;simp only[dZ,Av,Bb] at I;have L:((s.size:Int))=W (to-fr):=by simpa using J
 have Y:bJ l<=1048576:=by
  have O:=jB hd;unfold bJ;split
  .omega
  .rename_i h0;have U:l.getD 0 []∈l:=by rw[show l.getD 0 []=l[0]'(by omega) by simp[List.getD,(by omega:0<l.length)]];exact Aa _
   have:=(dF hd hf _ U).2.2.2;omega
 rw[show W (to-fr)=to-fr from aR (by omega) (by omega)] at L;exact⟨hd,hf,by omega,H,F⟩
attribute [local go_sem] Int.reduceBEq Int.reduceBNe cP Af Ag Al Aq Ae Ai Ac Ak Ab Ah Am in
theorem aBh (l:List (List Int)) (fr to:Int) (s:ByteArray) (hk:aZ l) (hz:s.size<=1048576):Fz F.lQ [.sl 1 (E cC l),.agg (cFd fr to),.v (.string s)] (.tup [uK fr to s l,.v (.int .i64 (iM fr to s l))]):=by
 have AK:=aNT l fr to s hk hz;by_cases h0:iM fr to s l=0
 .obtain⟨hd,hf,hsz,hch,hall⟩:=aKk h0;have ho:=dF hd hf;have h40:=jB hd;rw[show uK fr to s l=.sl 1 (E cC (flt (dI fr to s) l)) by simp[uK,h0],h0];rw[show aJH fr to s l=.sl 1 (E cSt (bS fr to l)) by simp[aJH,h0],h0] at AK;have hkl:=vI fr to l;refine fn0 Cd.s_SelectEqual_k λX=>?_
  repeat' first|simp -dsimp only[go_sem,cC,cFd,hkl,aH]|apply Br.mk<;>intro h<;>try simp -dsimp only[h]|refine aB.c (by first|exact AK) ?_|refine aC ?_|fail
  refine aM.at dM (X:={zz:Nat×(Unit) // zz.1<=l.length∧True}) (λzz=>[(10,.loc (.t 10 0) 0 (flt (dI fr to s) (l.take zz.1.1)).length),(11,.v (.int .i64 zz.1.1))]) (λzz=>[(.t 10 0,.arr 1 (E cC (flt (dI fr to s) (l.take zz.1.1))) false)]) (λzz=>l.length-zz.1.1) ⟨(0,()),by omega,trivial⟩ ?_ ?_
  .simp[Vs.LeL,Vs.look,aA,aS,aJ,Vs.hset,aK,Vs.E,flt]
  .rintro⟨⟨i,_⟩,hi,hg⟩;dsimp only at hi hg;simp -dsimp only[go_sem,cC,cFd,hkl,aH];refine Br.mk (λhc=>?_) λhc=>?_
   .have hlt:i<l.length:=Dq;have hw:=aG hlt (by omega);have hc:=ho _ (Aa hlt);have hko:=aMz hc (Az.1 hall _ (Aa hlt)) hsz hch;have hm:(E cSt (bS fr to l)).getD i []=[.v (.string (txt (fH fr to l[i])))]:=by rw[aN (by omega)];simp[bS,cSt]
    have hm2:(E cC l).getD i []=[.sl 1 (E cI l[i])]:=aN hlt;have hfs:=yH (q:=dI fr to s) hlt;have hfl:=zM (dI fr to s) (l.take i);have ht:(l.take i).length=i:=by simp;omega
    have NC:=x9 l[i] (hk.2 _ (Aa hlt));have hE:(E cC (flt (dI fr to s) (l.take i))).length=(flt (dI fr to s) (l.take i)).length:=aH ..
    cases hq:dI fr to s l[i]
    .rw[hq] at hfs hko;have hap:E cC (flt (dI fr to s) (l.take i))++[[.sl 1 (E cI l[i])]]=E cC (flt (dI fr to s) (l.take (i+1))):=by rw[hfs,bH];rfl
     have hln:(flt (dI fr to s) (l.take (i+1))).length=(flt (dI fr to s) (l.take i)).length+1:=by rw[hfs];simp
     simp -dsimp only[go_sem,hm,hm2,hw,hko,cC,cFd]
     repeat' first|simp -dsimp only[go_sem,hm,hm2,hw,hko,hap,hE,cC,cFd]|apply Br.mk<;>intro h<;>try simp -dsimp only[h]|refine aB.c (by first|exact NC) ?_|refine aC ?_|fail
     all_goals first|omega|(exact nx (i+1,()) trivial (h2:=by simp[Vs.LeL,Vs.look,aA,aS,aJ,Vs.hset,aK,hln,Vs.rnL,Vs.rn,Vs.nmF,Vs.scr,Vs.AV.has]))
    .rw[hq] at hfs hko;have hsame:flt (dI fr to s) (l.take (i+1))=flt (dI fr to s) (l.take i):=by rw[hfs];simp
     repeat' first|simp -dsimp only[go_sem,hm,hm2,hw,hko,cC,cFd]|apply Br.mk<;>intro h<;>try simp -dsimp only[h]|refine aC ?_|fail
     all_goals first|omega|(exact nx (i+1,()) trivial (h2:=by simp[Vs.LeL,Vs.look,aA,aS,aJ,Vs.hset,aK,hsame,Vs.rnL,Vs.rn,Vs.nmF,Vs.scr,Vs.AV.has]))
   .have hge:i=l.length:=by
     have:¬i<l.length:=Dq;omega
    subst hge;simp -dsimp only[go_sem,cC,cFd,hkl,aH]
    have htk:(E cC (flt (dI fr to s) (l.take l.length))).take (flt (dI fr to s) (l.take l.length)).length=E cC (flt (dI fr to s) l):=by
     rw[Bv];exact Aj (by rw[aH];exact Ar _)
    first|(rw[htk];exact⟨⟨_,_,rfl,rfl⟩,λh=>h rfl⟩)|(rw[Bv];exact⟨⟨_,_,rfl,rfl⟩,λh=>h rfl⟩)
 .have e0:(iM fr to s l != 0)=true:=by simp[h0]
  rw[show uK fr to s l=.v (.slice none 0 0) by simp[uK,h0]];rw[show aJH fr to s l=.v (.slice none 0 0) by simp[aJH,h0]] at AK;generalize iM fr to s l=c at *
  refine fn0 Cd.s_SelectEqual_k λX=>?_
  repeat' first|simp -dsimp only[go_sem,cC,cFd,e0]|apply Br.mk<;>intro h<;>try simp -dsimp only[h]|refine aB.c (by first|exact AK) ?_|refine aC ?_|fail
  all_goals first|exact⟨_,_,rfl,rfl⟩
end
section
variable [Vs.Envs]
attribute [local irreducible] Vs.Fn pun cmT zR dI iM bA bK aO bL bM l03 chB rk cd3 chI stp aP
end
end Go.Proofs.YtkgeiaideklmoaaGreat
