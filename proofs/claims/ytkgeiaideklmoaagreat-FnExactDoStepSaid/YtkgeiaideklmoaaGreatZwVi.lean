/- A deck is read by a tabulator: the reference. -/
import Derived.Test.YtkgeiaideklmoaaGreatZwVg
import Derived.Test.YtkgeiaideklmoaaGreatZwQh
import Derived.Test.YtkgeiaideklmoaaGreatZwC
import Derived.Test.YtkgeiaideklmoaaGreatZwSp
import Derived.Test.YtkgeiaideklmoaaGreatVtR
set_option linter.all false
set_option maxHeartbeats 8000000
namespace Go.Proofs.YtkgeiaideklmoaaGreat
open Go.Vs
section
variable [Vs.Envs]
attribute [local irreducible] Vs.Fn flt zR aP bM bP stp aQ
set_option maxRecDepth 100000 in
theorem aH1:∀n:Nat,n<256->bL (n:Int)=true->0<=rk (cd3 (n:Int))∧chI (cd3 (n:Int))=(n:Int):=by decide +kernel
attribute [local irreducible] bL rk cd3 chI
theorem aDZ {s:ByteArray} (h:aP s=true):∀b,b∈s.data.toList->bL (b.toNat:Int)=true:=by
 unfold aP at h;exact Az.1 h
theorem aIP {s:ByteArray} (h:aP s=true):dB (bcd s)=true:=by
 unfold dB bcd;rw[Az];intro x H;obtain⟨b,F,rfl⟩:=Bq.1 H;exact A9 (aH1 b.toNat (UInt8.toNat_lt _) (aDZ h b F)).1
theorem aLa {s:ByteArray} (h:aP s=true):txt (bcd s)=s:=by
 have e:(bcd s).map chI=s.data.toList.map λb=>(b.toNat:Int):=by
  unfold bcd;rw[Cb];refine List.map_congr_left λb H=>?_;exact(aH1 b.toNat (UInt8.toNat_lt _) (aDZ h b H)).2
 unfold txt aCh;rw[e,Cb]
 have F:(s.data.toList.map ((λn:Int=>UInt8.ofNat n.toNat)∘λb:UInt8=>(b.toNat:Int)))=s.data.toList:=by
  rw[show((λn:Int=>UInt8.ofNat n.toNat)∘λb:UInt8=>(b.toNat:Int))=id from funext λb=>by simp];simp
 rw[F]
theorem aLF {s:ByteArray}{w:Nat} (h:s.size=w):pun s w=bcd s:=by
 unfold pun;rw[h,Cw];simp
theorem aLX {fr to:Int}{c:List Int}{s:ByteArray} (J:okF fr to c) (L:dB (fH fr to c)=true) (I:s.size=to.toNat-fr.toNat) (H:aP s=true) :
  ((txt (fH fr to c)).toList==s.toList) = !dH fr to s c:=by
 have F:=aD5 (a:=fH fr to c) (b:=bcd s) (by rw[lF J,aCa,I]) L (aIP H);rw[aLa H] at F;rw[F];unfold dH cmT;rw[aLF I];generalize jA (fH fr to c) (bcd s)=v;by_cases h0:v=0
 .subst h0;rfl
 .have e:(v==0)=false:=AB.2 h0;rw[e];rcases Int.lt_or_gt_of_ne h0 with h|h<;>simp[h]
theorem aLq {fr to:Int}{s:ByteArray}{l:List (List Int)}:iN fr to s l=if aZ fr to l=0∨aZ fr to l=8 then(if l09 s fr to=0 then aZ fr to l else l09 s fr to) else aZ fr to l:=by
 unfold iN xV aZ l09;cases h1:bE l<;>cases h2:dX fr to (bJ l)<;>cases h5:bU fr to l<;>by_cases F:(s.size:Int)=W (to-fr)<;>cases h4:aP s<;>simp[h1,h2,F,h4,h5]
end
section
variable [Vs.Envs]
attribute [local irreducible] Vs.Fn pun cmT flt zR dH bL aP bM bP l03 chB rk cd3 chI stp aQ
def aI4 (fr to:Int) (s:ByteArray) (l:List (List Int)):AV:=if iN fr to s l=0 then .sl 1 (E cSt (bR fr to l)) else .v (.slice none 0 0)
theorem aM7 (s:ByteArray) (a b:Int):l09 s a b=2∨l09 s a b=0∨l09 s a b=7:=by
 unfold l09;split
 .exact .inl rfl
 .split
  .exact .inr (.inl rfl)
  .exact .inr (.inr rfl)
theorem aLZ (fr to:Int) (l:List (List Int)):aZ fr to l=0∨aZ fr to l=8∨aZ fr to l=1∨aZ fr to l=2:=by
 unfold aZ;split
 .split
  .split<;>simp
  .simp
 .simp
attribute [local go_sem] Int.reduceBEq Int.reduceBNe Af Ag Ao Aq Ae Aj Ad Al Ac Ai Ap in
theorem aM8 (l:List (List Int)) (fr to:Int) (s:ByteArray) (hk:aY l) (hz:s.size<=1048576):Fz F.wW [.sl 1 (E cC l),.agg (cFd fr to),.sl 1 [[.v (.string s)]]] (.tup [aI4 fr to s l,.v (.int .i64 (iN fr to s l))]):=by
 have KS:=jR l fr to hk.2 hk.1;have TX:=aHM s fr to hz;have hsc:=aLq (fr:=fr) (to:=to) (s:=s) (l:=l);unfold aI4;rcases aLZ fr to l with hc|hc|hc|hc<;>rcases aM7 s fr to with hb|hb|hb
 all_goals
  have hs0:=hsc;simp[hc,hb] at hs0;simp only[nN,hc,Bj,Bc,Int.reduceEq] at KS;rw[hs0];simp only[Bj,Bc,Int.reduceEq];refine fn0 Cd.s_l09Ask_k λX=>?_
  repeat' first|simp -dsimp only[go_sem,cC,cFd,hb]|apply Br.mk<;>intro h<;>try simp -dsimp only[h]|refine aB.c (by first|exact KS|exact TX) ?_|refine aC ?_|fail
  try all_goals first|exact⟨_,_,rfl,rfl⟩|exact⟨⟨_,_,rfl,rfl⟩,λh=>h rfl⟩
  all_goals
   refine aM.at dM (X:={zz:Nat×(Unit) // zz.1<=1∧True}) (λzz=>[(10,.v (.int .i64 (if zz.1.1=0 then 0 else l09 s fr to))),(11,.v (.int .i64 zz.1.1))]) (λzz=>[]) (λzz=>1-zz.1.1) ⟨(0,()),by omega,trivial⟩ ?_ ?_
   .exact le0
   .rintro⟨⟨i,_⟩,hi,hg⟩;dsimp only at hi hg;simp -dsimp only[go_sem,cC,cFd,hb];refine Br.mk (λhc=>?_) λhc=>?_
    .have hlt:i<1:=Dq;have hw:=aG hlt (by omega);obtain rfl:i=0:=by omega
     repeat' first|simp -dsimp only[go_sem,cC,cFd,hb,hw]|apply Br.mk<;>intro h<;>try simp -dsimp only[h]|refine aB.c (by first|exact TX) ?_|refine aC ?_|fail
     all_goals first|exact λ_=>⟨⟨_,_,rfl,rfl⟩,λh=>h rfl⟩|omega|exact⟨_,_,rfl,rfl⟩|exact⟨⟨_,_,rfl,rfl⟩,λh=>h rfl⟩|exact⟨λ_=>⟨_,_,rfl,rfl⟩,λh=>absurd rfl h⟩|(exact nx (1,()) trivial (h2:=by simp[Vs.LeL,Vs.look,aA,aS,aJ,Vs.hset,aK,hb]))
    .have hge:i=1:=by
      have:¬i<1:=Dq;omega
     subst hge;simp -dsimp only[go_sem,cC,cFd,hb]
     first|exact⟨⟨_,_,rfl,rfl⟩,λh=>h rfl⟩|omega|exact⟨_,_,rfl,rfl⟩|exact⟨⟨_,_,rfl,rfl⟩,λh=>h rfl⟩|exact⟨λ_=>⟨_,_,rfl,rfl⟩,λh=>absurd rfl h⟩
end
section
variable [Vs.Envs]
attribute [local irreducible] Vs.Fn aU lJ aZ bL aP bM bP l03 chB rk cd3 chI stp aQ
attribute [local go_sem] Int.reduceBEq Int.reduceBNe cC cFd aH Af Ag Ao Aq Ae Aj Ad Al Ac Ai Ap Ar
open Go.Vs.Q in
def CdV.l13Read:aD:=s [o 4 (.mv (.const (.pointer none))),mi 5 0] [0,1]<|s [o 14 (.build [.v (.slice none 0 0),.v (.slice none 0 0),.v (.slice none 0 0)] []),bx 15 14,m 6 15] [0,1,6]<|.seq (s [m 16 1,c 17 F.kT [16],nt 18 17] [0,1,6,18]<|.cond 18 (s [m 19 6,m 4 19,mi 5 1] [4,5]<|.ret) .skip)<|.seq (s [m 20 0,m
 21 1,c 22 F.jW [21],c 23 F.aAp [20,22],nt 24 23] [0,1,6,24]<|.cond 24 (s [m 25 6,m 4 25,mi 5 2] [4,5]<|.ret) .skip)<|s [m 27 1,m 28 0,nc 29 28,fa 30 0 29,lt 31 2 30,c 32 F.jG [27,31],m 26 32,ex 33 26 0,ex 34 26 1,m 7 33,m 8 34] [0,1,6,7,8]<|.seq (s [m 35 8,ne 36 35 0]
 [0,1,6,7,8,36]<|.cond 36 (s [m 37 6,m 38 8,m 4 37,m 5 38] [4,5]<|.ret) .skip)<|.seq (s [mi 9 0] [0,1,6,7,9]<|.block 0 (.loop (.seq (s [m 39 9,m 40 1,ln 41 40,ls 42 39 41] [0,1,6,7,9,42]<|.cond 42 .skip (.exit 0))<|.seq (.block 1 (.seq (.naming 10 (.region [o 45 (.bslice 1 0 [.v (.int .i64 (0))] []),m
 10 45] [0,1,6,7,9,10] []))<|.seq (s [mi 11 0] [0,1,6,7,9,10,11]<|.closing 10 (.block 2 (.loop (.seq (s [m 46 11,m 47 0,nc 48 47,fa 49 2 48,lf 50 1 49,ln 51 50,ls 52 46 51] [0,1,6,7,9,10,11,52]<|.cond 52 .skip (.exit 2))<|.seq (.block 3 (r [m 56 1,m 57 9,ix 58 1 56 57,m 59 0,nc 60 59,fa 61 2 60,lf 62
 1 61,m 63 11,ix 64 2 62 63,lt 65 2 64,c 66 F.oF [58,65],c 67 F.mO [66],m 55 67,ex 68 55 0,ex 69 55 1,m 12 68,m 13 69] [0,1,6,7,9,10,11,12,13] [56,57,59,58,60,61,62,63,64,65,66,67,55,68,69,12]<|.seq (s [m 70 13,nt 71 70] [0,1,6,7,9,10,11,12,71]<|.cond 71 (s [m 72 6,m 4 72,mi 5 8]
 [4,5]<|.ret) .skip)<|.naming 10 (.region [m 73 10,m 74 12,o 75 (.bslice 1 1 [.v (.int .i64 (0))] [(0,74)]),o 76 (.append 1 8 73 75),m 10 76] [0,1,6,7,9,10,11] [])))<|.region [m 53 11,ad 54 53 1,m 11 54] [0,1,6,7,9,10,11] []))))<|.region [m 77 6,m 78 6,nc 79 78,fa 80 1 79,lf 81 1 80,m 82 10,o 83
 (.bslice 1 1 [.v (.slice none 0 0)] [(0,82)]),o 84 (.append 1 24 81 83),nc 85 77,fa 86 1 85,⟨none,.store 1 86 84,none⟩] [0,1,6,7,9] []))<|.region [m 43 9,ad 44 43 1,m 9 44] [0,1,6,7,9] [])))<|s [m 87 6,m 88 7,nc 89 87,fa 90 0 89,⟨none,.store 1 90 88,none⟩] [6,7]<|s [m 91 6,m 92 7,c 93
 F.mK [92],nc 94 91,fa 95 2 94,⟨none,.store 1 95 93,none⟩] [6]<|s [m 96 6,m 4 96,mi 5 0] [4,5]<|.ret
theorem CdV.l13Read_k:CK 107 Tryz.f107 CdV.l13Read 97 [.tmp 4,.tmp 5]:=ck Tryz.func107
attribute [go_sem] CdV.l13Read
def wM (ns:List Int):Int:=ns.foldl (λa n=>IntKind.i64.wrap (a+n)) 0
theorem aIm {F:List Int}{i:Nat} (h:i<F.length):wM (F.take (i+1))=IntKind.i64.wrap (wM (F.take i)+F[i]):=by
 unfold wM;rw[aX h,List.foldl_append];rfl
theorem aJu (sf st:Int) (l:List (List Int)):wM (l.map λc=>(lJ sf st c).1)=fJ sf st l:=by
 unfold wM fJ;rw[List.foldl_map]
theorem aLl {F:List Int}{i:Nat}{x:Int} (h:F[i]? = some x):wM (F.take (i+1))=IntKind.i64.wrap (wM (F.take i)+x):=by
 obtain⟨hi,rfl⟩:=CB.1 h;exact aIm hi
def cRw (n:Int):List AV:=[.sl 1 [[.v (.int .i64 n)]]]
theorem aMc {F:List Int}{i:Nat} (h:i<F.length):(E cRw F).getD i []=[.sl 1 [[.v (.int .i64 (F.getD i 0))]]]:=by rw[aN h];simp[cRw,List.getD,h]
attribute [local irreducible] wM
theorem aGG (g0 g1 s0 s1 w:Int) (hw:inB w 1 20=true) (hf:dX g0 g1 w=true) (hn:zA s0 s1 w=true):Fz F.aAp [.ro [.v (.int .i64 g0),.v (.int .i64 g1),.sl 2 [[.v (.int .i64 s0),.v (.int .i64 s1)]],.v (.bool false)],.v (.int .i64 w)] (.v (.bool true)):=by
 have hn2:=hn;unfold zA at hn2;rw[Aw] at hn2;obtain⟨hn0,hn1⟩:=hn2;have IN:=zG w 1 20;rw[hw] at IN;have FG:=eZ g0 g1 w;rw[hf] at FG;have FS:=eZ s0 s1 w;rw[hn0] at FS
 have e12:decide (IntKind.i64.wrap (s1-s0)>12)=false:=by
  have:=BK hn1;exact AQ (by unfold W at this;omega)
 refine fn0 Cd.s_l13Ok_k λX=>?_
 repeat' first|simp -dsimp only[go_sem,e12]|apply Br.mk<;>intro h<;>try simp -dsimp only[h]|refine aB.c (by first|exact IN|exact FG) ?_|refine aC ?_|fail
 refine aM.at dM (X:={zz:Nat×(Unit) // zz.1<=1∧True}) (λzz=>[(5,.v (.int .i64 zz.1.1))]) (λzz=>[]) (λzz=>1-zz.1.1) ⟨(0,()),by omega,trivial⟩ ?_ ?_
 .exact le0
 .rintro⟨⟨i,_⟩,hi,hg⟩;dsimp only at hi hg;simp -dsimp only[go_sem];refine Br.mk (λhc=>?_) λhc=>?_
  .have hlt:i<1:=Dq;have hw:=aG hlt (by omega);obtain rfl:i=0:=by omega
   repeat' first|simp -dsimp only[go_sem,hw,e12]|apply Br.mk<;>intro h<;>try simp -dsimp only[h]|refine aB.c (by first|exact FS) ?_|refine aC ?_|fail
   all_goals first|omega|(exact nx (1,()) trivial)
  .have hge:i=1:=by
    have:¬i<1:=Dq;omega
   subst hge;simp -dsimp only[go_sem]
   first|exact⟨⟨_,_,rfl,rfl⟩,λh=>h rfl⟩|(simp;done)
theorem r_end (U:AV) (H:List Int) (L:List ByteArray) (g:Nat) (Y:g<H.length) (Z:H.length<=1048576):Fz F.nO [.ro [.sl 1 (E cSt L),U,.sl 1 (E cI H)],.v (.int .i64 (g:Int))] (.v (.int .i64 (if g+1<H.length then H.getD (g+1) 0 else(L.length:Int)))):=by
 have J:IntKind.i64.wrap ((g:Int)+1)=((g+1:Nat):Int):=by rw[aV (by omega) (by omega)];omega
 by_cases h:g+1<H.length
 .have I:decide (((g+1:Nat):Int)<(H.length:Int))=true:=A9 (by omega);have O:(E cI H).getD (g+1) []=[.v (.int .i64 (H.getD (g+1) 0))]:=by rw[aN h];simp[cI,List.getD,h]
  rw[AP h];refine fn0 Cd._s_l13R__end_k λX=>?_
  repeat' first|simp -dsimp only[go_sem,J,I,O]|apply Br.mk<;>intro h<;>try simp -dsimp only[h]|refine aC ?_|fail
  all_goals first|exact⟨_,_,rfl,rfl⟩
 .have I:decide (((g+1:Nat):Int)<(H.length:Int))=false:=AQ (by omega);rw[AC h];refine fn0 Cd._s_l13R__end_k λX=>?_
  repeat' first|simp -dsimp only[go_sem,J,I]|apply Br.mk<;>intro h<;>try simp -dsimp only[h]|refine aC ?_|fail
  all_goals first|exact⟨_,_,rfl,rfl⟩
theorem aMZ (kv hv:AV) (ns:List Int) (fr to:Nat) (h1:fr<=to) (h2:to<=ns.length) (hl:ns.length<=1048576):Fz F.lY [.ro [kv,.sl 1 (E cRw ns),hv],.v (.int .i64 (fr:Int)),.v (.int .i64 (to:Int)),.v (.int .i64 1)] (.sl 1 (E cI [wM ((ns.take to).drop fr)])):=by
 have hml:((ns.take to).drop fr).length=to-fr:=by simp;omega
 have hge:∀i,i<to-fr->((ns.take to).drop fr)[i]? = some (ns.getD (fr+i) 0):=by
  intro i h;rw[Dp,List.getElem?_take,AP (by omega)];simp[List.getD,(by omega:fr+i<ns.length)]
 generalize hm:(ns.take to).drop fr=ms at *
 have e1c:∀x:Int,E cI [x]=[[.v (.int .i64 x)]]:=λ_=>rfl;refine fn0 Cd._s_l13R__sums_k λX=>?_
 repeat' first|simp -dsimp only[go_sem]|apply Br.mk<;>intro h<;>try simp -dsimp only[h]|refine aC ?_|fail
 refine aM.at dM (X:={zz:Nat×(Unit) // zz.1<=(to-fr)∧True}) (λzz=>[(9,.loc (.t 13 0) 0 1),(10,.v (.int .i64 ((fr+zz.1.1:Nat):Int)))]) (λzz=>[(.t 13 0,.arr 1 (E cI [wM (ms.take zz.1.1)]) false)]) (λzz=>(to-fr)-zz.1.1) ⟨(0,()),by omega,trivial⟩ ?_ ?_
 .simp[Vs.LeL,Vs.look,aA,aS,aJ,Vs.hset,aK,Vs.E,cI,wM]
 .rintro⟨⟨i,_⟩,hi,hg⟩;dsimp only at hi hg;simp -dsimp only[go_sem];refine Br.mk (λhc=>?_) λhc=>?_
  .have hlt:i<(to-fr):=Dq;have hw:=aG hlt (by omega);have hj:((fr+i:Nat):Int).toNat=fr+i:=by omega
   have gr:=aMc (by omega:fr+i<ns.length);have hss:=aLl (hge i (by omega));have hwj:IntKind.i64.wrap (((fr+i:Nat):Int)+1)=((fr+(i+1):Nat):Int):=by rw[aV (by omega) (by omega)];omega
   obtain⟨j,rfl⟩:∃j,j=i:=⟨i,rfl⟩;simp -dsimp only[go_sem];refine aM.at dM (X:={zz:Nat×(Unit) // zz.1<=1∧True}) (λzz=>[(9,.loc (.t 13 0) 0 1),(17,.junk),(11,.v (.int .i64 zz.1.1))]) (λzz=>[(.t 13 0,.arr 1 (E cI [if zz.1.1=0 then wM (ms.take j) else wM (ms.take (j+1))]) false)]) (λzz=>1-zz.1.1) ⟨(0,()),by omega,trivial⟩ ?_ ?_
   .simp[Vs.LeL,Vs.look,aA,aS,aJ,Vs.hset,aK,Vs.E,cI]
   .rintro⟨⟨i,_⟩,hi,hg⟩;dsimp only at hi hg;simp -dsimp only[go_sem];refine Br.mk (λhc=>?_) λhc=>?_
    .have hlt:i<1:=Dq;have hw:=aG hlt (by omega);obtain rfl:i=0:=by omega
     repeat' first|simp -dsimp only[go_sem,gr,hj,hss,e1c,hw]|apply Br.mk<;>intro h<;>try simp -dsimp only[h]|refine aC ?_|fail
     all_goals first|omega|(exact nx (1,()) trivial (h2:=by simp[Vs.LeL,Vs.look,aA,aS,aJ,Vs.hset,aK,hss,Vs.E,cI]))
    .have hge:i=1:=by
      have:¬i<1:=Dq;omega
     subst hge;simp -dsimp only[go_sem];refine And.intro ?_ (λh=>absurd rfl h);simp -dsimp only[go_sem,hwj]
     first|(exact⟨⟨(j+1,()),by omega,trivial⟩,by simp[Vs.LeL,Vs.look,aA,aS,aJ,Vs.hset,aK],by simp only;omega⟩)
  .have hge:i=(to-fr):=by
    have:¬i<(to-fr):=Dq;omega
   subst hge;simp -dsimp only[go_sem];have hfull:(E cI [wM (ms.take (to-fr))]).take 1=E cI [wM ms]:=by rw[Ah (l:=ms) (by omega)];rfl
   first|(rw[hfull];exact⟨⟨_,_,rfl,rfl⟩,λh=>h rfl⟩)
end
section
variable [Vs.Envs]
attribute [local irreducible] Vs.Fn aU lJ aZ wM bR bL aP bM bP l03 chB rk cd3 chI stp aQ
def mD (sf st:Int) (l:List (List Int)):List Int:=l.map λc=>(lJ sf st c).1
theorem jY (sf st:Int) (l:List (List Int)):(mD sf st l).length=l.length:=by simp[mD]
theorem aCy {sf st:Int}{l:List (List Int)}{i:Nat} (h:i<l.length):E cRw ((mD sf st l).take i)++[[.sl 1 [[.v (.int .i64 (lJ sf st l[i]).1)]]]]=E cRw ((mD sf st l).take (i+1)):=by
 rw[aX (by rw[jY];exact h),bG];simp[mD,E,cRw]
def jQ (sf st:Int) (l:List (List Int)) (i:Nat):AV:=if i=0 then .v (.slice none 0 0) else .loc (.t 84 0) 0 i
def jP (sf st:Int) (l:List (List Int)) (i:Nat):List (Vs.Name×Blk):=if i=0 then[] else[(.t 84 0,.arr 1 (E cRw ((mD sf st l).take i)) false)]
def uS (sf st:Int) (l:List (List Int)) (i:Nat):AV:=if i=0 then .v (.slice none 0 0) else .sl 1 (E cRw ((mD sf st l).take i))
section
variable (l:List (List Int)) (fr to sf st:Int) (hk:aY l) (hd:bE l=true) (hf:dX fr to (bJ l)=true) (hn:zA sf st (bJ l)=true)
include hk hd hf hn
theorem aD3:inB (bJ l) 1 20=true:=by
 have _:=hk;have _:=hf;have _:=hn;by_cases h0:l.length=0
 .unfold bJ;rw[AP h0];rfl
 .have F:=hd;simp only[bE,Aw,Az,Bb] at F;have H:l.getD 0 []∈l:=by rw[show l.getD 0 []=l[0]'(by omega) by simp[List.getD,(by omega:0<l.length)]];exact Aa _
  have:=(F.1 _ H).1;simp only[iH,inB,Aw,Bb] at this;unfold bJ;rw[AC h0];simp only[inB,Aw,Bb];omega
theorem aGF (U:bU fr to l=false):Fz F.yF [.ro [.v (.int .i64 fr),.v (.int .i64 to),.sl 2 [[.v (.int .i64 sf),.v (.int .i64 st)]],.v (.bool false)],.sl 1 (E cC l)] (.tup [.ro [.v (.slice none 0 0),.v (.slice none 0 0),.v (.slice none 0 0)],.v (.int .i64 8)]):=by
 have I:=dJ l hk.2 hk.1;rw[hd] at I;have O:=eY l;have H:=aGG fr to sf st (bJ l) (aD3 l fr to sf st hk hd hf hn) hf hn;have J:=jR l fr to hk.2 hk.1;have L:aZ fr to l=8:=by simp only[aZ,hd,hf,U];rfl
 rw[show nN fr to l=.v (.slice none 0 0) by simp[nN,L],L] at J;refine fn0 CdV.l13Read_k λX=>?_
 repeat' first|simp -dsimp only[go_sem,Int.reduceBEq,Int.reduceBNe,cC,cFd,aH,Af,Ag,Ao,Aq,Ae,Aj,Ad,Al,Ac,Ai,Ap,Ar]|apply Br.mk<;>intro h<;>try simp -dsimp only[h]|refine aB.c (by first|exact I|exact O|exact H|exact J) ?_|refine aC ?_|fail
 all_goals first|exact⟨_,_,rfl,rfl⟩
attribute [local go_sem] Int.reduceBEq Int.reduceBNe cFd aH Af Ag Ao Aq Ae Aj Ad Al Ac Ai Ap Ar in
theorem aGE (ha:bU fr to l=true) (hN:uF sf st l=true):Fz F.yF [.ro [.v (.int .i64 fr),.v (.int .i64 to),.sl 2 [[.v (.int .i64 sf),.v (.int .i64 st)]],.v (.bool false)],.sl 1 (E cC l)] (.tup [.ro [.sl 1 (E cSt (bR fr to l)),uS sf st l l.length,.sl 1 (E cI (aU fr to l l.length))],.v (.int .i64 0)]):=by
 have DK:=dJ l hk.2 hk.1;rw[hd] at DK;have WD:=eY l;have OKS:=aGG fr to sf st (bJ l) (aD3 l fr to sf st hk hd hf hn) hf hn;have KS:=jR l fr to hk.2 hk.1;have ho:=dE hd hf;have h40:=iZ hd;have hc:aZ fr to l=0:=by simp only[aZ,hd,hf,ha];rfl
 rw[show nN fr to l=.sl 1 (E cSt (bR fr to l)) by simp[nN,hc],hc] at KS;have hp:∀c,c∈l->okP sf st c:=aEm hd hn;have e1c:∀x:Int,E cI [x]=[[.v (.int .i64 x)]]:=λ_=>rfl;have hok:∀j,(h:j<l.length)->j<l.length->(lJ sf st l[j]).2=true:=λj h _=>Az.1 hN _ (Aa h);have GR:=aDE l fr to ho ha (by omega);have hgl:=iR fr to l l.length;refine fn0 CdV.l13Read_k λX=>?_
 repeat' first|simp -dsimp only[go_sem,cC]|apply Br.mk<;>intro h<;>try simp -dsimp only[h]|refine aB.c (by first|exact DK|exact WD|exact OKS|exact KS) ?_|refine aC ?_|fail
 refine aM.at dM (X:={j:Nat // j<=l.length}) (λj=>[(9,.v (.int .i64 (j.1:Nat)))]) (λj=>(.t 15 0,.var [.v (.slice none 0 0),jQ sf st l j.1,.v (.slice none 0 0)] false)::jP sf st l j.1) (λj=>l.length-j.1) ⟨0,by omega⟩ ?_ ?_
 .simp[Vs.LeL,Vs.look,aA,aS,aJ,Vs.hset,aK,jQ,jP]
 .rintro⟨j,hj⟩
  try dsimp only at hj
  by_cases hjm:j<l.length
  .have hlt:j<l.length:=by omega
   have ht:decide ((j:Int)<(l.length:Int))=true:=A9 (by omega);have gj:(E cC l).getD j []=[.sl 1 (E cI l[j])]:=aN hlt;have PC:=aJY (hp _ (Aa hlt));have NI:=zS (hp _ (Aa hlt));have hrow:=aCy (sf:=sf) (st:=st) hlt;have hrl:(E cRw ((mD sf st l).take j)).length=j:=by rw[aH,BM,jY];omega
   have hrl2:((mD sf st l).take j).length=j:=by rw[BM,jY];omega
   have hwj:IntKind.i64.wrap ((j:Int)+1)=((j+1:Nat):Int):=by rw[aV (by omega) (by omega)];omega
   rw[hok j hlt hjm] at NI;by_cases hj0:j=0
   .have hA:jQ sf st l j=.v (.slice none 0 0):=by simp[jQ,hj0]
    have hH:jP sf st l j=[]:=by simp[jP,hj0]
    have hr0:E cRw ((mD sf st l).take j)=[]:=by rw[hj0];rfl
    have hrow0:[[.sl 1 [[.v (.int .i64 (lJ sf st l[j]).1)]]]]=E cRw ((mD sf st l).take (j+1)):=by rw[←hrow,hr0];rfl
    rw[hA,hH]
    repeat' first|simp -dsimp only[go_sem,ht,e1c,cC]|apply Br.mk<;>intro h<;>try simp -dsimp only[h]|refine aC ?_|fail
    refine aM.at dM (X:={zz:Nat×(Unit) // zz.1<=1∧True}) (λzz=>[(10,.loc (.t 10 0) 0 zz.1.1),(42,.junk),(11,.v (.int .i64 zz.1.1))]) (λzz=>[(.t 10 0,.arr 1 (E cI ([(lJ sf st l[j]).1].take zz.1.1)) false)]) (λzz=>1-zz.1.1) ⟨(0,()),by omega,trivial⟩ ?_ ?_
    .simp[Vs.LeL,Vs.look,aA,aS,aJ,Vs.hset,aK,Vs.E,cI]
    .rintro⟨⟨i,_⟩,hi,hg⟩;dsimp only at hi hg;simp -dsimp only[go_sem,cC];refine Br.mk (λhc=>?_) λhc=>?_
     .have hlt:i<1:=Dq;have hw:=aG hlt (by omega);obtain rfl:i=0:=by omega
      repeat' first|simp -dsimp only[go_sem,gj,e1c,cC,hw]|apply Br.mk<;>intro h<;>try simp -dsimp only[h]|refine aB.c (by first|exact PC|exact NI) ?_|refine aC ?_|fail
      all_goals first|omega|(exact nx (1,()) trivial (h2:=by simp[Vs.LeL,Vs.look,aA,aS,aJ,Vs.hset,aK,Vs.E,cI]))
     .have hge:i=1:=by
       have:¬i<1:=Dq;omega
      subst hge;simp -dsimp only[go_sem,cC]
      repeat' first|simp -dsimp only[go_sem,hwj,e1c,hrow,hrl,hrl2,ht,hrow0,cC]|apply Br.mk<;>intro h<;>try simp -dsimp only[h]|refine And.intro ?_ (λh=>absurd rfl h)|refine aC ?_|fail
      first|(exact⟨⟨j+1,by omega⟩,by simp[Vs.LeL,Vs.look,aA,aS,aJ,Vs.hset,aK,jQ,jP,hrow,Vs.E,hj0],by simp only;omega⟩)
   .have hA:jQ sf st l j=.loc (.t 84 0) 0 j:=by simp[jQ,hj0]
    have hH:jP sf st l j=[(.t 84 0,.arr 1 (E cRw ((mD sf st l).take j)) false)]:=by simp[jP,hj0]
    rw[hA,hH]
    repeat' first|simp -dsimp only[go_sem,ht,e1c,cC]|apply Br.mk<;>intro h<;>try simp -dsimp only[h]|refine aC ?_|fail
    refine aM.at dM (X:={zz:Nat×(Unit) // zz.1<=1∧True}) (λzz=>[(10,.loc (.t 10 0) 0 zz.1.1),(42,.junk),(11,.v (.int .i64 zz.1.1))]) (λzz=>[(.t 10 0,.arr 1 (E cI ([(lJ sf st l[j]).1].take zz.1.1)) false)]) (λzz=>1-zz.1.1) ⟨(0,()),by omega,trivial⟩ ?_ ?_
    .simp[Vs.LeL,Vs.look,aA,aS,aJ,Vs.hset,aK,Vs.E,cI]
    .rintro⟨⟨i,_⟩,hi,hg⟩;dsimp only at hi hg;simp -dsimp only[go_sem,cC];refine Br.mk (λhc=>?_) λhc=>?_
     .have hlt:i<1:=Dq;have hw:=aG hlt (by omega);obtain rfl:i=0:=by omega
      repeat' first|simp -dsimp only[go_sem,gj,e1c,cC,hw]|apply Br.mk<;>intro h<;>try simp -dsimp only[h]|refine aB.c (by first|exact PC|exact NI) ?_|refine aC ?_|fail
      all_goals first|omega|(exact nx (1,()) trivial (h2:=by simp[Vs.LeL,Vs.look,aA,aS,aJ,Vs.hset,aK,Vs.E,cI]))
     .have hge:i=1:=by
       have:¬i<1:=Dq;omega
      subst hge;simp -dsimp only[go_sem,cC]
      repeat' first|simp -dsimp only[go_sem,hwj,e1c,hrow,hrl,hrl2,ht,cC]|apply Br.mk<;>intro h<;>try simp -dsimp only[h]|refine And.intro ?_ (λh=>absurd rfl h)|refine aC ?_|fail
      first|(exact⟨⟨j+1,by omega⟩,by simp[Vs.LeL,Vs.look,aA,aS,aJ,Vs.hset,aK,jQ,jP,hrow,Vs.E],by simp only;omega⟩)
  .obtain rfl:j=l.length:=by omega
   have ht:decide ((l.length:Int)<(l.length:Int))=false:=by simp
   by_cases hj0:l.length=0
   .have hA:jQ sf st l l.length=.v (.slice none 0 0):=by simp[jQ,hj0]
    have hH:jP sf st l l.length=[]:=by simp[jP,hj0]
    rw[hA,hH,show uS sf st l l.length=.v (.slice none 0 0) by simp[uS,hj0]]
    repeat' first|simp -dsimp only[go_sem,ht,cC]|apply Br.mk<;>intro h<;>try simp -dsimp only[h]|refine aB.c (by first|exact GR) ?_|refine And.intro ?_ (λh=>absurd rfl h)|refine aC ?_|fail
    all_goals first|exact⟨⟨_,_,rfl,rfl⟩,λh=>h rfl⟩|exact⟨_,_,rfl,rfl⟩
   .have hA:jQ sf st l l.length=.loc (.t 84 0) 0 l.length:=by simp[jQ,hj0]
    have hH:jP sf st l l.length=[(.t 84 0,.arr 1 (E cRw ((mD sf st l).take l.length)) false)]:=by simp[jP,hj0]
    rw[hA,hH,show uS sf st l l.length=.sl 1 (E cRw ((mD sf st l).take l.length)) by simp[uS,hj0]];have htk:(E cRw ((mD sf st l).take l.length)).take l.length=E cRw ((mD sf st l).take l.length):=Ah (by rw[aH,BM,jY];omega);simp -dsimp only[go_sem,ht,cC]
    repeat' first|simp -dsimp only[go_sem,ht,htk,cC]|apply Br.mk<;>intro h<;>try simp -dsimp only[h]|refine aB.c (by first|exact GR) ?_|refine And.intro ?_ (λh=>absurd rfl h)|refine aC ?_|fail
    all_goals first|exact⟨⟨_,_,rfl,rfl⟩,λh=>h rfl⟩|exact⟨_,_,rfl,rfl⟩
end
end
end Go.Proofs.YtkgeiaideklmoaaGreat
