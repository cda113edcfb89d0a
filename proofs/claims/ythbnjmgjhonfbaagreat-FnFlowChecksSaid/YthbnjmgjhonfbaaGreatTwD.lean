/- Offices that are valid. -/
import Derived.Test.YthbnjmgjhonfbaaGreatTwVi
import Derived.Test.YthbnjmgjhonfbaaGreatTwVf
import Derived.Test.YthbnjmgjhonfbaaGreatTwSq
import Derived.Test.YthbnjmgjhonfbaaGreatTwC
import Derived.Test.YthbnjmgjhonfbaaGreatTuS
set_option linter.all false
set_option maxHeartbeats 8000000
namespace Go.Proofs.YthbnjmgjhonfbaaGreat
open Go.Vs
section
variable [Vs.Envs]
attribute [local irreducible] Vs.Fn bT lU bG vV bS jY cZ aW dB dC l03 chB rk cd3 chI stp aZ
theorem aDo {α:Type}{p:α→Bool}:∀{l:List α},l.all p=false→∃m,∃h:m<l.length,p l[m]=false∧∀j,(hj:j<l.length)→j<m→p l[j]=true
 | [],h=>by simp at h
 | x::r,h=>by
  cases hx:p x
  ·exact⟨0,by simp,by simpa using hx,fun j _ hj=>by omega⟩
  ·rw[List.all_cons,hx,Bool.true_and] at h;obtain⟨m,hm,h1,h2⟩:=aDo h;refine⟨m+1,by simpa using hm,by simpa using h1,fun j hj hjm=>?_⟩;cases j with
   |zero=>simpa using hx
   |succ j=>simpa using h2 j (by simpa using hj) (by omega)
section
variable (l:List (List Int)) (fr to sf st:Int) (hk:bA l) (hd:aS l=true) (hf:dJ fr to (aT l)=true) (hn:rF sf st (aT l)=true)
include hk hd hf hn
attribute [local go_sem] Int.reduceBEq Int.reduceBNe cFd aH List.replicate_succ List.replicate_zero List.flatten_cons List.flatten_nil List.cons_append List.nil_append List.set_cons_zero List.set_cons_succ List.length_cons List.length_nil List.length_set List.getD_cons_zero in
theorem aEW (ha:bI fr to l=true) (hN:zL sf st l=false):∃v,Fz F.xY [.ro [.v (.int .i64 fr),.v (.int .i64 to),.sl 2 [[.v (.int .i64 sf),.v (.int .i64 st)]],.v (.bool false)],.sl 1 (E cC l)] (.tup [.ro v,.v (.int .i64 8)]):=by
 obtain⟨m,hm,hbad,hok0⟩:=aDo hN;refine⟨[.v (.slice none 0 0),tY sf st l m,.v (.slice none 0 0)],?_⟩;have DK:=dG l hk.2 hk.1;rw[hd] at DK;have WD:=dO l;have OKS:=aFS fr to sf st (aT l) (aDD l fr to sf st hk hd hf hn) hf hn;have KS:=j6 l fr to hk.2 hk.1;have ho:=dW hd hf;have h40:=iE hd;have hc:bG fr to l=0:=by simp only[bG,hd,hf,ha];rfl
 rw[show gY fr to l=.sl 1 (E cSt (bS fr to l)) by simp[gY,hc],hc] at KS;have hp:∀c,c∈l→okP sf st c:=aDS hd hn;have e1c:∀x:Int,E cI [x]=[[.v (.int .i64 x)]]:=fun _=>rfl;have hok:∀j,(h:j<l.length)→j<m→(lU sf st l[j]).2=true:=hok0;refine fn0 CdV.l13Read_k fun X=>?_
 repeat' first|simp -dsimp only[go_sem,cC]|apply Br.mk<;>intro h<;>try simp -dsimp only[h]|refine aA.c (by first|exact DK|exact WD|exact OKS|exact KS) ?_|refine aC ?_|fail
 refine aN.at dM (X:={j:Nat // j≤m}) (fun j=>[(9,.v (.int .i64 (j.1:Nat)))]) (fun j=>(.t 15 0,.var [.v (.slice none 0 0),j5 sf st l j.1,.v (.slice none 0 0)] false)::j4 sf st l j.1) (fun j=>m-j.1) ⟨0,by omega⟩ ?_ ?_
 ·simp[Vs.LeL,Vs.look,Vs.aB,Vs.aP,Vs.aK,Vs.hset,Vs.aL,j5,j4]
 ·rintro⟨j,hj⟩
  try dsimp only at hj
  by_cases hjm:j<m
  ·have hlt:j<l.length:=by omega
   have ht:decide ((j:Int)<(l.length:Int))=true:=decide_eq_true (by omega);have gj:(E cC l).getD j []=[.sl 1 (E cI l[j])]:=aX hlt;have PC:=aIK (hp _ (List.getElem_mem hlt));have NI:=zC (hp _ (List.getElem_mem hlt));have hrow:=aB5 (sf:=sf) (st:=st) hlt;have hrl:(E cRw ((lT sf st l).take j)).length=j:=by rw[aH,List.length_take,kJ];omega
   have hrl2:((lT sf st l).take j).length=j:=by rw[List.length_take,kJ];omega
   have hwj:IntKind.i64.wrap ((j:Int)+1)=((j+1:Nat):Int):=by rw[aR (by omega) (by omega)];omega
   rw[hok j hlt hjm] at NI;by_cases hj0:j=0
   ·have hA:j5 sf st l j=.v (.slice none 0 0):=by simp[j5,hj0]
    have hH:j4 sf st l j=[]:=by simp[j4,hj0]
    have hr0:E cRw ((lT sf st l).take j)=[]:=by rw[hj0];rfl
    have hrow0:[[.sl 1 [[.v (.int .i64 (lU sf st l[j]).1)]]]]=E cRw ((lT sf st l).take (j+1)):=by rw[←hrow,hr0];rfl
    rw[hA,hH]
    repeat' first|simp -dsimp only[go_sem,ht,e1c,cC]|apply Br.mk<;>intro h<;>try simp -dsimp only[h]|refine aC ?_|fail
    refine aN.at dM (X:={zz:Nat×(Unit) // zz.1≤1∧True}) (fun zz=>[(10,.loc (.t 10 0) 0 zz.1.1),(42,.junk),(11,.v (.int .i64 zz.1.1))]) (fun zz=>[(.t 10 0,.arr 1 (E cI ([(lU sf st l[j]).1].take zz.1.1)) false)]) (fun zz=>1-zz.1.1) ⟨(0,()),by omega,trivial⟩ ?_ ?_
    ·simp[Vs.LeL,Vs.look,Vs.aB,Vs.aP,Vs.aK,Vs.hset,Vs.aL,Vs.E,cI]
    ·rintro⟨⟨i,_⟩,hi,hg⟩;dsimp only at hi hg;simp -dsimp only[go_sem,cC];refine Br.mk (fun hc=>?_) fun hc=>?_
     ·have hlt:i<1:=Dq;have hw:=aG hlt (by omega);obtain rfl:i=0:=by omega
      repeat' first|simp -dsimp only[go_sem,gj,e1c,cC,hw]|apply Br.mk<;>intro h<;>try simp -dsimp only[h]|refine aA.c (by first|exact PC|exact NI) ?_|refine aC ?_|fail
      all_goals first|omega|(exact nx (1,()) trivial (h2:=by simp[Vs.LeL,Vs.look,Vs.aB,Vs.aP,Vs.aK,Vs.hset,Vs.aL,Vs.E,cI]))
     ·have hge:i=1:=by
       have:¬i<1:=Dq;omega
      subst hge;simp -dsimp only[go_sem,cC]
      repeat' first|simp -dsimp only[go_sem,hwj,e1c,hrow,hrl,hrl2,ht,hrow0,cC]|apply Br.mk<;>intro h<;>try simp -dsimp only[h]|refine And.intro ?_ (fun h=>absurd rfl h)|refine aC ?_|fail
      first|(exact⟨⟨j+1,by omega⟩,by simp[Vs.LeL,Vs.look,Vs.aB,Vs.aP,Vs.aK,Vs.hset,Vs.aL,j5,j4,hrow,Vs.E,hj0],by simp only;omega⟩)
   ·have hA:j5 sf st l j=.loc (.t 84 0) 0 j:=by simp[j5,hj0]
    have hH:j4 sf st l j=[(.t 84 0,.arr 1 (E cRw ((lT sf st l).take j)) false)]:=by simp[j4,hj0]
    rw[hA,hH]
    repeat' first|simp -dsimp only[go_sem,ht,e1c,cC]|apply Br.mk<;>intro h<;>try simp -dsimp only[h]|refine aC ?_|fail
    refine aN.at dM (X:={zz:Nat×(Unit) // zz.1≤1∧True}) (fun zz=>[(10,.loc (.t 10 0) 0 zz.1.1),(42,.junk),(11,.v (.int .i64 zz.1.1))]) (fun zz=>[(.t 10 0,.arr 1 (E cI ([(lU sf st l[j]).1].take zz.1.1)) false)]) (fun zz=>1-zz.1.1) ⟨(0,()),by omega,trivial⟩ ?_ ?_
    ·simp[Vs.LeL,Vs.look,Vs.aB,Vs.aP,Vs.aK,Vs.hset,Vs.aL,Vs.E,cI]
    ·rintro⟨⟨i,_⟩,hi,hg⟩;dsimp only at hi hg;simp -dsimp only[go_sem,cC];refine Br.mk (fun hc=>?_) fun hc=>?_
     ·have hlt:i<1:=Dq;have hw:=aG hlt (by omega);obtain rfl:i=0:=by omega
      repeat' first|simp -dsimp only[go_sem,gj,e1c,cC,hw]|apply Br.mk<;>intro h<;>try simp -dsimp only[h]|refine aA.c (by first|exact PC|exact NI) ?_|refine aC ?_|fail
      all_goals first|omega|(exact nx (1,()) trivial (h2:=by simp[Vs.LeL,Vs.look,Vs.aB,Vs.aP,Vs.aK,Vs.hset,Vs.aL,Vs.E,cI]))
     ·have hge:i=1:=by
       have:¬i<1:=Dq;omega
      subst hge;simp -dsimp only[go_sem,cC]
      repeat' first|simp -dsimp only[go_sem,hwj,e1c,hrow,hrl,hrl2,ht,cC]|apply Br.mk<;>intro h<;>try simp -dsimp only[h]|refine And.intro ?_ (fun h=>absurd rfl h)|refine aC ?_|fail
      first|(exact⟨⟨j+1,by omega⟩,by simp[Vs.LeL,Vs.look,Vs.aB,Vs.aP,Vs.aK,Vs.hset,Vs.aL,j5,j4,hrow,Vs.E],by simp only;omega⟩)
  ·obtain rfl:j=m:=by omega
   have hlt:j<l.length:=hm;have ht:decide ((j:Int)<(l.length:Int))=true:=decide_eq_true (by omega);have gj:(E cC l).getD j []=[.sl 1 (E cI l[j])]:=aX hlt;have PC:=aIK (hp _ (List.getElem_mem hlt));have NI:=zC (hp _ (List.getElem_mem hlt));have hrow:=aB5 (sf:=sf) (st:=st) hlt;have hrl:(E cRw ((lT sf st l).take j)).length=j:=by rw[aH,List.length_take,kJ];omega
   have hrl2:((lT sf st l).take j).length=j:=by rw[List.length_take,kJ];omega
   have hwj:IntKind.i64.wrap ((j:Int)+1)=((j+1:Nat):Int):=by rw[aR (by omega) (by omega)];omega
   rw[hbad] at NI;by_cases hj0:j=0
   ·have hA:j5 sf st l j=.v (.slice none 0 0):=by simp[j5,hj0]
    have hH:j4 sf st l j=[]:=by simp[j4,hj0]
    rw[hA,hH,show tY sf st l j=.v (.slice none 0 0) by simp[tY,hj0]]
    repeat' first|simp -dsimp only[go_sem,ht,e1c,cC]|apply Br.mk<;>intro h<;>try simp -dsimp only[h]|refine aC ?_|fail
    refine aN.at dM (X:={zz:Nat×(Unit) // zz.1≤1∧zz.1=0}) (fun zz=>[(10,.loc (.t 10 0) 0 zz.1.1),(42,.junk),(11,.v (.int .i64 zz.1.1))]) (fun zz=>[(.t 10 0,.arr 1 (E cI ([(lU sf st l[j]).1].take zz.1.1)) false)]) (fun zz=>1-zz.1.1) ⟨(0,()),by omega,rfl⟩ ?_ ?_
    ·simp[Vs.LeL,Vs.look,Vs.aB,Vs.aP,Vs.aK,Vs.hset,Vs.aL,Vs.E,cI]
    ·rintro⟨⟨i,_⟩,hi,hg⟩;dsimp only at hi hg;simp -dsimp only[go_sem,cC];refine Br.mk (fun hc=>?_) fun hc=>?_
     ·have hlt:i<1:=Dq;have hw:=aG hlt (by omega);obtain rfl:i=0:=by omega
      repeat' first|simp -dsimp only[go_sem,gj,e1c,ht,cC,hw]|apply Br.mk<;>intro h<;>try simp -dsimp only[h]|refine aA.c (by first|exact PC|exact NI) ?_|refine aC ?_|fail
      all_goals first|omega|(exact⟨_,_,rfl,rfl⟩)|(rw[hbad];exact⟨_,_,rfl,rfl⟩)
     ·have hge:i=1:=by
       have:¬i<1:=Dq;omega
      subst hge;simp -dsimp only[go_sem,cC];omega
   ·have hA:j5 sf st l j=.loc (.t 84 0) 0 j:=by simp[j5,hj0]
    have hH:j4 sf st l j=[(.t 84 0,.arr 1 (E cRw ((lT sf st l).take j)) false)]:=by simp[j4,hj0]
    rw[hA,hH,show tY sf st l j=.sl 1 (E cRw ((lT sf st l).take j)) by simp[tY,hj0]];have htk:(E cRw ((lT sf st l).take j)).take j=E cRw ((lT sf st l).take j):=List.take_of_length_le (by omega)
    repeat' first|simp -dsimp only[go_sem,ht,e1c,cC]|apply Br.mk<;>intro h<;>try simp -dsimp only[h]|refine aC ?_|fail
    refine aN.at dM (X:={zz:Nat×(Unit) // zz.1≤1∧zz.1=0}) (fun zz=>[(10,.loc (.t 10 0) 0 zz.1.1),(42,.junk),(11,.v (.int .i64 zz.1.1))]) (fun zz=>[(.t 10 0,.arr 1 (E cI ([(lU sf st l[j]).1].take zz.1.1)) false)]) (fun zz=>1-zz.1.1) ⟨(0,()),by omega,rfl⟩ ?_ ?_
    ·simp[Vs.LeL,Vs.look,Vs.aB,Vs.aP,Vs.aK,Vs.hset,Vs.aL,Vs.E,cI]
    ·rintro⟨⟨i,_⟩,hi,hg⟩;dsimp only at hi hg;simp -dsimp only[go_sem,cC];refine Br.mk (fun hc=>?_) fun hc=>?_
     ·have hlt:i<1:=Dq;have hw:=aG hlt (by omega);obtain rfl:i=0:=by omega
      repeat' first|simp -dsimp only[go_sem,gj,e1c,ht,htk,cC,hw]|apply Br.mk<;>intro h<;>try simp -dsimp only[h]|refine aA.c (by first|exact PC|exact NI) ?_|refine aC ?_|fail
      all_goals first|omega|(exact⟨_,_,rfl,rfl⟩)|(rw[hbad];exact⟨_,_,rfl,rfl⟩)
     ·have hge:i=1:=by
       have:¬i<1:=Dq;omega
      subst hge;simp -dsimp only[go_sem,cC];omega
attribute [local go_sem] Int.reduceBEq Int.reduceBNe aH List.replicate_succ List.replicate_zero List.flatten_cons List.flatten_nil List.cons_append List.nil_append List.set_cons_zero List.set_cons_succ List.length_cons List.length_nil List.length_set List.getD_cons_zero in
theorem aAm:Fz F.qF [.sl 1 (E cC l),.agg (cFd fr to),.agg (cFd sf st)] (.tup [nJ fr to sf st l,.v (.int .i64 (if iX fr to sf st l then 0 else 8))]):=by
 cases ha:bI fr to l
 ·have RD:=aFR l fr to sf st hk hd hf hn ha;have hb:iX fr to sf st l=false:=by simp[iX,ha]
  rw[show nJ fr to sf st l=.v (.slice none 0 0) by simp[nJ,hb],hb];refine fn0 Cd.s_l15Sums_k fun X=>?_
  repeat' first|simp -dsimp only[go_sem,cC,cFd,cTt]|apply Br.mk<;>intro h<;>try simp -dsimp only[h]|refine aA.c (by first|exact RD) ?_|refine aC ?_|fail
  all_goals first|exact⟨_,_,rfl,rfl⟩
 cases hN:zL sf st l
 ·obtain⟨v,RD⟩:=aEW l fr to sf st hk hd hf hn ha hN;have hb:iX fr to sf st l=false:=by simp[iX,hN]
  rw[show nJ fr to sf st l=.v (.slice none 0 0) by simp[nJ,hb],hb];refine fn0 Cd.s_l15Sums_k fun X=>?_
  repeat' first|simp -dsimp only[go_sem,cC,cFd,cTt]|apply Br.mk<;>intro h<;>try simp -dsimp only[h]|refine aA.c (by first|exact RD) ?_|refine aC ?_|fail
  all_goals first|exact⟨_,_,rfl,rfl⟩
 have RD:=aFQ l fr to sf st hk hd hf hn ha hN;have hb:iX fr to sf st l=true:=by simp[iX,hN,ha]
 rw[show nJ fr to sf st l=.sl 2 (E cTt (kU fr to sf st l)) by simp[nJ,hb],hb];have h40:=iE hd;have hin:=uM (fr:=fr) (to:=to) (l:=l) l.length;have hup:=aAv (fr:=fr) (to:=to) (l:=l) l.length;have hgl:=jX fr to l l.length
 have htl:kU fr to sf st l=(List.range (bT fr to l l.length).length).map (fun i=>(txt (fH fr to ((fV l (bT fr to l l.length) i).getD 0 [])),jY sf st (fV l (bT fr to l l.length) i))):=by
  unfold kU aCk;rw[List.map_map];rfl
 rw[htl];have hkl:(bS fr to l).length=l.length:=by unfold bS;simp
 have hkg:∀i,i<l.length→(E cSt (bS fr to l)).getD i []=[.v (.string (txt (fH fr to (l.getD i []))))]:=fun i hi=>by
  rw[aX (by omega)];simp[cSt,bS,List.getD,hi]
 generalize bT fr to l l.length=o at *
 refine fn0 Cd.s_l15Sums_k fun X=>?_
 repeat' first|simp -dsimp only[go_sem,cC,cFd,cTt]|apply Br.mk<;>intro h<;>try simp -dsimp only[h]|refine aA.c (by first|exact RD) ?_|refine aC ?_|fail
 refine aN.at dM (X:={zz:Nat×(Unit) // zz.1≤o.length∧True}) (fun zz=>[(10,.loc (.t 10 0) 0 zz.1.1),(11,.v (.int .i64 zz.1.1))]) (fun zz=>[(.t 10 0,.arr 2 (E cTt ((List.range zz.1.1).map fun i=>(txt (fH fr to ((fV l o i).getD 0 [])),jY sf st (fV l o i)))) false)]) (fun zz=>o.length-zz.1.1) ⟨(0,()),by omega,trivial⟩ ?_ ?_
 ·simp[Vs.LeL,Vs.look,Vs.aB,Vs.aP,Vs.aK,Vs.hset,Vs.aL,Vs.E]
 ·rintro⟨⟨i,_⟩,hi,hg⟩;dsimp only at hi hg;simp -dsimp only[go_sem,cC,cFd,cTt];refine Br.mk (fun hc=>?_) fun hc=>?_
  ·have hlt:i<o.length:=Dq;have hw:=aG hlt (by omega)
   obtain ⟨a,e,hae,hel,ga,hga,hge2,hend⟩:∃a e:Nat,a<e∧e≤l.length∧o[i]=(a:Int)∧(o.getD i 0).toNat=a∧(if i+1<o.length then(o.getD (i+1) 0).toNat else l.length)=e∧(if i+1<o.length then o.getD (i+1) 0 else((bS fr to l).length:Int))=(e:Int):=by
    have h0:=hin _ (List.getElem_mem hlt);have e0:o.getD i 0=o[i]:=by simp[List.getD,hlt]
    by_cases h1:i+1<o.length
    ·have h2:=hin _ (List.getElem_mem h1);have h3:o[i]<o[i+1]:=List.pairwise_iff_getElem.1 hup i (i+1) hlt h1 (by omega);have e1:o.getD (i+1) 0=o[i+1]:=by simp[List.getD,h1]
     refine⟨o[i].toNat,o[i+1].toNat,by omega,by omega,by omega,by rw[e0],by rw[if_pos h1,e1],by rw[if_pos h1,e1];omega⟩
    ·refine⟨o[i].toNat,l.length,by omega,by omega,by omega,by rw[e0],by rw[if_neg h1],by rw[if_neg h1,hkl]⟩
   have hgat:fV l o i=(l.take e).drop a:=by unfold fV;rw[hge2,hga]
   have hg0:((l.take e).drop a).getD 0 []=l.getD a []:=by
    simp only[List.getD];rw[List.getElem?_drop,List.getElem?_take,if_pos (by omega),Nat.add_zero]
   have gi:(E cI o).getD i []=[.v (.int .i64 (a:Int))]:=by rw[dK hlt,ga]
   have gk:=hkg a (by omega);have EN:=r_end (tY sf st l l.length) o (bS fr to l) i hlt (by omega);rw[hend] at EN
   have hnv:tY sf st l l.length=.sl 1 (E cRw (lT sf st l)):=by
    unfold tY;rw[if_neg (by omega),List.take_of_length_le (by rw[kJ];omega)]
   have SM:=aLR (.sl 1 (E cSt (bS fr to l))) (.sl 1 (E cI o)) (lT sf st l) a e (by omega) (by rw[kJ];exact hel) (by rw[kJ];omega)
   have hsm:vV (((lT sf st l).take e).drop a)=jY sf st ((l.take e).drop a):=by
    rw[←aIb];congr 1;simp[lT,List.map_take,List.map_drop]
   rw[hsm] at SM;rw[hnv] at EN⊢;have e1s:(E cI [jY sf st ((l.take e).drop a)]).getD 0 []=[.v (.int .i64 (jY sf st ((l.take e).drop a)))]:=rfl;have e1l:(E cI [jY sf st ((l.take e).drop a)]).length=1:=rfl
   have hap:E cTt ((List.range i).map fun i=>(txt (fH fr to ((fV l o i).getD 0 [])),jY sf st (fV l o i)))++[[.v (.string (txt (fH fr to (l.getD a [])))),.v (.int .i64 (jY sf st ((l.take e).drop a)))]]=E cTt ((List.range (i+1)).map fun i=>(txt (fH fr to ((fV l o i).getD 0 [])),jY sf st (fV l o i))):=by
    rw[List.range_succ,List.map_append,aY];simp only[List.map_cons,List.map_nil,hgat,hg0];rfl
   have hal:(E cTt ((List.range i).map fun i=>(txt (fH fr to ((fV l o i).getD 0 [])),jY sf st (fV l o i)))).length=i:=by rw[aH];simp
   have hta:((a:Nat):Int).toNat=a:=by omega
   generalize jY sf st ((l.take e).drop a)=sw at *
   generalize txt (fH fr to (l.getD a []))=nm at *
   repeat' first|simp -dsimp only[go_sem,gi,gk,hw,hap,hal,hta,e1s,e1l,hkl,cC,cFd]|apply Br.mk<;>intro h<;>try simp -dsimp only[h]|refine aA.c (by first|exact EN|exact SM) ?_|refine aC ?_|fail
   all_goals first|omega|(exact nx (i+1,()) trivial (h2:=by simp[Vs.LeL,Vs.look,Vs.aB,Vs.aP,Vs.aK,Vs.hset,Vs.aL,hap,hnv,List.range_succ,Vs.rnL,Vs.rn,Vs.nmF,Vs.scr,Vs.AV.has]))
  ·have hge:i=o.length:=by
    have:¬i<o.length:=Dq;omega
   subst hge;simp -dsimp only[go_sem,cC,cFd,cTt];have htk:(E cTt ((List.range o.length).map fun i=>(txt (fH fr to ((fV l o i).getD 0 [])),jY sf st (fV l o i)))).take o.length=E cTt ((List.range o.length).map fun i=>(txt (fH fr to ((fV l o i).getD 0 [])),jY sf st (fV l o i))):=List.take_of_length_le (by rw[aH];simp)
   first|(rw[htk];exact⟨⟨_,_,rfl,rfl⟩,fun h=>h rfl⟩)
end
end
section
variable [Vs.Envs]
attribute [local irreducible] Vs.Fn pun cmT zR iI gF bG cfC cZ aW dB dC l03 chB rk cd3 chI stp aZ
attribute [local go_sem] Int.reduceBEq Int.reduceBNe List.replicate_succ List.replicate_zero List.flatten_cons List.flatten_nil List.cons_append List.nil_append List.set_cons_zero List.set_cons_succ List.length_cons List.length_nil List.length_set
theorem aIt {fr to:Int}{s:ByteArray}{l:List (List Int)} (h:gF fr to s l=0):aS l=true∧dJ fr to (aT l)=true∧s.size=to.toNat-fr.toNat∧aW s=true∧bI fr to l=true:=by
 obtain⟨hd,hf,hsz,hch,hall⟩:=aGr h;have hf2:=hf;simp only[dJ,Bool.and_eq_true,decide_eq_true_eq] at hf2;have hz2:((s.size:Int))=W (to-fr):=by simpa using hsz
 have hwb:aT l≤1048576:=by
  have h40:=iE hd;unfold aT;split
  ·omega
  ·rename_i h0;have hm:l.getD 0 []∈l:=by rw[show l.getD 0 []=l[0]'(by omega) by simp[List.getD,(by omega:0<l.length)]];exact List.getElem_mem _
   have:=(dW hd hf _ hm).2.2.2;omega
 rw[show W (to-fr)=to-fr from aR (by omega) (by omega)] at hz2;exact⟨hd,hf,by omega,hch,hall⟩
attribute [local go_sem] cP in
theorem nK (l:List (List Int)) (fr to:Int) (s:ByteArray) (hk:bA l) (hz:s.size≤1048576):Fz F.jP [.sl 1 (E cC l),.agg (cFd fr to),.v (.string s)] (.tup [iZ fr to s l,.v (.int .i64 (gF fr to s l))]):=by
 have AK:=aL4 l fr to s hk hz;by_cases h0:gF fr to s l=0
 ·obtain⟨hd,hf,hsz,hch,hall⟩:=aIt h0;have ho:=dW hd hf;have h40:=iE hd;rw[show iZ fr to s l=.sl 1 (E cC (flt (iI fr to s) l)) by simp[iZ,h0],h0];rw[show aH1 fr to s l=.sl 1 (E cSt (bS fr to l)) by simp[aH1,h0],h0] at AK;have hkl:=uA fr to l;refine fn0 Cd.s_SelectEqual_k fun X=>?_
  repeat' first|simp -dsimp only[go_sem,cC,cFd,hkl,aH]|apply Br.mk<;>intro h<;>try simp -dsimp only[h]|refine aA.c (by first|exact AK) ?_|refine aC ?_|fail
  refine aN.at dM (X:={zz:Nat×(Unit) // zz.1≤l.length∧True}) (fun zz=>[(10,.loc (.t 10 0) 0 (flt (iI fr to s) (l.take zz.1.1)).length),(11,.v (.int .i64 zz.1.1))]) (fun zz=>[(.t 10 0,.arr 1 (E cC (flt (iI fr to s) (l.take zz.1.1))) false)]) (fun zz=>l.length-zz.1.1) ⟨(0,()),by omega,trivial⟩ ?_ ?_
  ·simp[Vs.LeL,Vs.look,Vs.aB,Vs.aP,Vs.aK,Vs.hset,Vs.aL,Vs.E,flt]
  ·rintro⟨⟨i,_⟩,hi,hg⟩;dsimp only at hi hg;simp -dsimp only[go_sem,cC,cFd,hkl,aH];refine Br.mk (fun hc=>?_) fun hc=>?_
   ·have hlt:i<l.length:=Dq;have hw:=aG hlt (by omega);have hc:=ho _ (List.getElem_mem hlt);have hko:=aKR hc (List.all_eq_true.1 hall _ (List.getElem_mem hlt)) hsz hch;have hm:(E cSt (bS fr to l)).getD i []=[.v (.string (txt (fH fr to l[i])))]:=by rw[aX (by omega)];simp[bS,cSt]
    have hm2:(E cC l).getD i []=[.sl 1 (E cI l[i])]:=aX hlt;have hfs:=xJ (q:=iI fr to s) hlt;have hfl:=vN (iI fr to s) (l.take i);have ht:(l.take i).length=i:=by simp;omega
    have NC:=wX l[i] (hk.2 _ (List.getElem_mem hlt));have hE:(E cC (flt (iI fr to s) (l.take i))).length=(flt (iI fr to s) (l.take i)).length:=aH ..
    cases hq:iI fr to s l[i]
    ·rw[hq] at hfs hko;have hap:E cC (flt (iI fr to s) (l.take i))++[[.sl 1 (E cI l[i])]]=E cC (flt (iI fr to s) (l.take (i+1))):=by rw[hfs,aY];rfl
     have hln:(flt (iI fr to s) (l.take (i+1))).length=(flt (iI fr to s) (l.take i)).length+1:=by rw[hfs];simp
     simp -dsimp only[go_sem,hm,hm2,hw,hko,cC,cFd]
     repeat' first|simp -dsimp only[go_sem,hm,hm2,hw,hko,hap,hE,cC,cFd]|apply Br.mk<;>intro h<;>try simp -dsimp only[h]|refine aA.c (by first|exact NC) ?_|refine aC ?_|fail
     all_goals first|omega|(exact nx (i+1,()) trivial (h2:=by simp[Vs.LeL,Vs.look,Vs.aB,Vs.aP,Vs.aK,Vs.hset,Vs.aL,hln,Vs.rnL,Vs.rn,Vs.nmF,Vs.scr,Vs.AV.has]))
    ·rw[hq] at hfs hko;have hsame:flt (iI fr to s) (l.take (i+1))=flt (iI fr to s) (l.take i):=by rw[hfs];simp
     repeat' first|simp -dsimp only[go_sem,hm,hm2,hw,hko,cC,cFd]|apply Br.mk<;>intro h<;>try simp -dsimp only[h]|refine aC ?_|fail
     all_goals first|omega|(exact nx (i+1,()) trivial (h2:=by simp[Vs.LeL,Vs.look,Vs.aB,Vs.aP,Vs.aK,Vs.hset,Vs.aL,hsame,Vs.rnL,Vs.rn,Vs.nmF,Vs.scr,Vs.AV.has]))
   ·have hge:i=l.length:=by
     have:¬i<l.length:=Dq;omega
    subst hge;simp -dsimp only[go_sem,cC,cFd,hkl,aH]
    have htk:(E cC (flt (iI fr to s) (l.take l.length))).take (flt (iI fr to s) (l.take l.length)).length=E cC (flt (iI fr to s) l):=by
     rw[List.take_length];exact List.take_of_length_le (by rw[aH];exact Nat.le_refl _)
    first|(rw[htk];exact⟨⟨_,_,rfl,rfl⟩,fun h=>h rfl⟩)|(rw[List.take_length];exact⟨⟨_,_,rfl,rfl⟩,fun h=>h rfl⟩)
 ·have e0:(gF fr to s l != 0)=true:=by simp[h0]
  rw[show iZ fr to s l=.v (.slice none 0 0) by simp[iZ,h0]];rw[show aH1 fr to s l=.v (.slice none 0 0) by simp[aH1,h0]] at AK;generalize gF fr to s l=c at *
  refine fn0 Cd.s_SelectEqual_k fun X=>?_
  repeat' first|simp -dsimp only[go_sem,cC,cFd,e0]|apply Br.mk<;>intro h<;>try simp -dsimp only[h]|refine aA.c (by first|exact AK) ?_|refine aC ?_|fail
  all_goals first|exact⟨_,_,rfl,rfl⟩
theorem aAL {l:List (List Int)} (hd:aS l=true):inB (aT l) 1 20=true:=by
 by_cases h0:l.length=0
 ·unfold aT;rw[if_pos h0];rfl
 ·have hd2:=hd;simp only[aS,Bool.and_eq_true,List.all_eq_true,decide_eq_true_eq] at hd2;have hm:l.getD 0 []∈l:=by rw[show l.getD 0 []=l[0]'(by omega) by simp[List.getD,(by omega:0<l.length)]];exact List.getElem_mem _
  have:=(hd2.1 _ hm).1;simp only[gM,inB,Bool.and_eq_true,decide_eq_true_eq] at this;unfold aT;rw[if_neg h0];simp only[inB,Bool.and_eq_true,decide_eq_true_eq];omega
theorem aMh (x:Spc) (l:List (List Int)):cfC x l=if lcC x l=0 then(if dR x.text then 0 else gF x.w0 x.w1 x.text l) else lcC x l:=by
 unfold cfC lcC;cases hd:aS l
 ·simp
 ·rw[aAL hd];cases hs:lN x (aT l)<;>simp
attribute [local go_sem] cFd in
theorem aI0 (x:Spc) (l:List (List Int)) (hk:bA l) (hz:x.text.size≤1048576):Fz F.qR [.ro (cP x),.sl 1 (E cC l)] (.tup [cfV x l,.v (.int .i64 (cfC x l))]):=by
 have LC:=aKK x l hk hz;have CP:=aBC l hk;have SE:=nK l x.w0 x.w1 x.text hk hz;have hcc:=aMh x l;by_cases h0:lcC x l=0
 ·rw[h0] at LC;rw[if_pos h0] at hcc;cases hn:dR x.text
  ·rw[hn] at hcc;simp only[Bool.false_eq_true,if_false] at hcc;have hV:cfV x l=iZ x.w0 x.w1 x.text l:=by unfold cfV iZ cfL;rw[hcc,hn];rfl
   have hv2:iZ x.w0 x.w1 x.text l=.sl 1 (E cC (flt (iI x.w0 x.w1 x.text) l))∨iZ x.w0 x.w1 x.text l=.v (.slice none 0 0):=by unfold iZ;split<;>simp
   rw[hcc,hV];unfold dR at hn;rcases hv2 with hv2|hv2<;>rw[hv2] at SE⊢
   all_goals
    refine fn0 Cd.s_l16Cards_k fun X=>?_
    repeat' first|simp -dsimp only[go_sem,cC,cP,hn]|apply Br.mk<;>intro h<;>try simp -dsimp only[h]|refine aA.c (by first|exact LC|exact SE) ?_|refine aC ?_|fail
    all_goals first|exact⟨_,_,rfl,rfl⟩
  ·rw[hn] at hcc;simp only[if_true] at hcc;have hV:cfV x l=.sl 1 (E cC l):=by unfold cfV cfL;rw[hcc,hn];rfl
   rw[hcc,hV];unfold dR at hn;refine fn0 Cd.s_l16Cards_k fun X=>?_
   repeat' first|simp -dsimp only[go_sem,cC,cP,hn]|apply Br.mk<;>intro h<;>try simp -dsimp only[h]|refine aA.c (by first|exact LC|exact CP) ?_|refine aC ?_|fail
   all_goals first|exact⟨_,_,rfl,rfl⟩
 ·rw[if_neg h0] at hcc;have e0:(lcC x l != 0)=true:=by simp[h0]
  have hV:cfV x l=.v (.slice none 0 0):=by unfold cfV;rw[hcc,if_neg h0]
  rw[hV,hcc];generalize lcC x l=c at *
  refine fn0 Cd.s_l16Cards_k fun X=>?_
  repeat' first|simp -dsimp only[go_sem,cC,cP,e0]|apply Br.mk<;>intro h<;>try simp -dsimp only[h]|refine aA.c (by first|exact LC) ?_|refine aC ?_|fail
  all_goals first|exact⟨_,_,rfl,rfl⟩
theorem yK {l m:List (List Int)} (hd:aS l=true) (hs:∀c,c∈m→c∈l) (hm:m.length≤40):aS m=true∧(aT m=20∨aT m=aT l):=by
 simp only[aS,Bool.and_eq_true,List.all_eq_true,decide_eq_true_eq] at hd⊢;by_cases h0:m.length=0
 ·rw[List.eq_nil_of_length_eq_zero h0];exact⟨⟨fun c hc=>(by cases hc),by simp⟩,.inl rfl⟩
 ·have hm0:m.getD 0 []∈m:=by rw[show m.getD 0 []=m[0]'(by omega) by simp[List.getD,(by omega:0<m.length)]];exact List.getElem_mem _
  have e0:=(hd.1 _ (hs _ hm0)).2;refine⟨⟨fun c hc=>⟨(hd.1 _ (hs c hc)).1,by rw[e0];exact(hd.1 _ (hs c hc)).2⟩,hm⟩,.inr ?_⟩
  have hl0:l.length≠0:=by
   intro e;have:=hs _ hm0;rw[List.eq_nil_of_length_eq_zero e] at this;cases this
  unfold aT;rw[if_neg h0,if_neg hl0,e0]
theorem aAA {a b:Int}{l m:List (List Int)} (hd:aS l=true) (hw:aT m=20∨aT m=aT l) (hf:dJ a b (aT l)=true):dJ a b (aT m)=true:=by
 rcases hw with hw|hw
 ·have h1:=aAL hd;simp only[inB,dJ,Bool.and_eq_true,decide_eq_true_eq] at h1 hf⊢;omega
 ·rw[hw];exact hf
theorem aIQ {a b:Int}{l m:List (List Int)} (hd:aS l=true) (hw:aT m=20∨aT m=aT l) (hf:rF a b (aT l)=true):rF a b (aT m)=true:=by
 unfold rF at hf⊢;rw[Bool.and_eq_true] at hf⊢;exact⟨aAA hd hw hf.1,hf.2⟩
attribute [local go_sem] cFd in
theorem aKJ (x:Spc) (l:List (List Int)) (hk:bA l) (hz:x.text.size≤1048576):Fz F.tJ [.ro (cP x),.sl 1 (E cC l)] (.tup [evV x l,.v (.int .i64 (evC x l))]):=by
 have CF:=aI0 x l hk hz;by_cases h0:cfC x l=0
 ·obtain⟨hd,hf,hn⟩:=aJI h0;have h40:=iE hd;have hml:=aEe (x:=x) (l:=l);have hll:=aBL x l;obtain⟨hdc,hwc⟩:=yK hd hml (by omega);have hfc:=aAA hd hwc hf;have hkc:bA (cfL x l):=⟨by omega,fun c hc=>hk.2 c (hml c hc)⟩;have hof:∀c,c∈cfL x l→okF x.g0 x.g1 c:=fun c hc=>dW hd hf c (hml c hc);have SB:=sS (cfL x l) x.g0 x.g1 hkc.2 hkc.1;have hsm:=zQ hof (by omega:(cfL x l).length≤40);have hsl:=wG x.g0 x.g1 (cfL x l);obtain⟨hds,hws⟩:=yK hd (fun c hc=>hml c (hsm c hc)) (by omega:(bQ x.g0 x.g1 (cfL x l)).length≤40);have hks:bA (bQ x.g0 x.g1 (cfL x l)):=⟨by omega,fun c hc=>hk.2 c (hml c (hsm c hc))⟩;have TO:=aAm (bQ x.g0 x.g1 (cfL x l)) x.g0 x.g1 x.s0 x.s1 hks hds (aAA hd hws hf) (aIQ hd hws hn);rw[show cfV x l=.sl 1 (E cC (cfL x l)) by simp[cfV,h0],h0] at CF;have hkey:bG x.g0 x.g1 (cfL x l)=if bI x.g0 x.g1 (cfL x l) then 0 else 8:=by unfold bG;rw[hdc,hfc];rfl
  cases ha:bI x.g0 x.g1 (cfL x l)
  ·rw[ha] at hkey;simp only[Bool.false_eq_true,if_false] at hkey;rw[show mJ x.g0 x.g1 (cfL x l)=.v (.slice none 0 0) by simp[mJ,hkey],hkey] at SB;rw[show evC x l=8 by simp[evC,h0,ha],show evV x l=.v (.slice none 0 0) by simp[evV,h0,ha]];refine fn0 Cd.s_l16Eval_k fun X=>?_
   repeat' first|simp -dsimp only[go_sem,cC,cP]|apply Br.mk<;>intro h<;>try simp -dsimp only[h]|refine aA.c (by first|exact CF|exact SB) ?_|refine aC ?_|fail
   all_goals first|exact⟨_,_,rfl,rfl⟩
  ·rw[ha] at hkey;simp only[if_true] at hkey;rw[show mJ x.g0 x.g1 (cfL x l)=.sl 1 (E cC (bQ x.g0 x.g1 (cfL x l))) by simp[mJ,hkey],hkey] at SB;rw[show evC x l=(if iX x.g0 x.g1 x.s0 x.s1 (bQ x.g0 x.g1 (cfL x l)) then 0 else 8) by simp[evC,h0,ha],show evV x l=nJ x.g0 x.g1 x.s0 x.s1 (bQ x.g0 x.g1 (cfL x l)) by simp[evV,h0,ha]];generalize(if iX x.g0 x.g1 x.s0 x.s1 (bQ x.g0 x.g1 (cfL x l)) then(0:Int) else 8)=c at *
   have hv2:nJ x.g0 x.g1 x.s0 x.s1 (bQ x.g0 x.g1 (cfL x l))=.sl 2 (E cTt (kU x.g0 x.g1 x.s0 x.s1 (bQ x.g0 x.g1 (cfL x l))))∨nJ x.g0 x.g1 x.s0 x.s1 (bQ x.g0 x.g1 (cfL x l))=.v (.slice none 0 0):=by unfold nJ;split<;>simp
   rcases hv2 with hv2|hv2<;>rw[hv2] at TO⊢
   all_goals
    refine fn0 Cd.s_l16Eval_k fun X=>?_
    repeat' first|simp -dsimp only[go_sem,cC,cP]|apply Br.mk<;>intro h<;>try simp -dsimp only[h]|refine aA.c (by first|exact CF|exact SB|exact TO) ?_|refine aC ?_|fail
    all_goals first|exact⟨_,_,rfl,rfl⟩
 ·have e0:(cfC x l != 0)=true:=by simp[h0]
  rw[show evC x l=cfC x l by simp[evC,h0],show evV x l=.v (.slice none 0 0) by simp[evV,h0]];rw[show cfV x l=.v (.slice none 0 0) by simp[cfV,h0]] at CF;generalize cfC x l=c at *
  refine fn0 Cd.s_l16Eval_k fun X=>?_
  repeat' first|simp -dsimp only[go_sem,cC,cP,e0]|apply Br.mk<;>intro h<;>try simp -dsimp only[h]|refine aA.c (by first|exact CF) ?_|refine aC ?_|fail
  all_goals first|exact⟨_,_,rfl,rfl⟩
end
section
variable [Vs.Envs]
attribute [local irreducible] Vs.Fn
def wO:List (List (List Int))→Nat
 | []=>20
 |d::r=>if d.length=0 then wO r else(d.getD 0 []).length
theorem aGl {l:List (List (List Int))}{i:Nat} (h:i<l.length):wO (l.drop i)=if l[i].length=0 then wO (l.drop (i+1)) else(l[i].getD 0 []).length:=by
 rw[List.drop_eq_getElem_cons h,wO]
theorem aCM (o:Off) (ho:yS o):Fz F.jH [.agg (cO o)] (.v (.int .i64 (wO o.trays))):=by
 refine fn0 Cd.i_officeColumns_k fun X=>?_;simp -dsimp only[go_sem,cO];refine aN.at dM (X:={zz:Nat×(Unit) // zz.1≤o.trays.length∧wO (o.trays.drop zz.1)=wO o.trays}) (fun zz=>[(8,.v (.int .i64 zz.1.1))]) (fun zz=>[]) (fun zz=>o.trays.length-zz.1.1) ⟨(0,()),by omega,rfl⟩ ?_ ?_
 ·exact le0
 ·rintro⟨⟨i,_⟩,hi,hg⟩;dsimp only at hi hg;simp -dsimp only[go_sem];refine Br.mk (fun hc=>?_) fun hc=>?_
  ·have hlt:i<o.trays.length:=Dq;have hw:=aG hlt ho.1.1;rw[aGl hlt] at hg;by_cases hd0:o.trays[i].length=0
   ·have hgt:decide ((o.trays[i].length:Int)>0)=false:=decide_eq_false (by omega);rw[if_pos hd0] at hg
    repeat' first|simp -dsimp only[go_sem,aX hlt,cD,hgt,hw]|apply Br.mk<;>intro h<;>try simp -dsimp only[h]|refine aC ?_|fail
    all_goals(exact nx (i+1,()) hg)
   ·have hgt:decide ((o.trays[i].length:Int)>0)=true:=decide_eq_true (by omega);have h0:0<o.trays[i].length:=by omega
    rw[if_neg hd0,getD_lt h0] at hg
    repeat' first|simp -dsimp only[go_sem,aX hlt,aX h0,cD,hgt,cC]|apply Br.mk<;>intro h<;>try simp -dsimp only[h]|refine aA.c (by first|exact qC _) ?_|refine aC ?_|fail
    all_goals(refine aO ?_;simp[←hg];done)
  ·have hge:i=o.trays.length:=by
    have:¬i<o.trays.length:=Dq;omega
   subst hge;simp -dsimp only[go_sem];rw[List.drop_length,wO] at hg;simp[←hg]
theorem aET (o:Off) (ho:yS o):Fz F.nM [.ro (cO o)] (.v (.int .i64 (wO o.trays))):=by
 refine fn0 Cd.s_l15Width_k fun X=>?_;simp -dsimp only[go_sem,cO];refine aN.at dM (X:={zz:Nat×(Unit) // zz.1≤o.trays.length∧wO (o.trays.drop zz.1)=wO o.trays}) (fun zz=>[(3,.v (.int .i64 zz.1.1))]) (fun zz=>[]) (fun zz=>o.trays.length-zz.1.1) ⟨(0,()),by omega,rfl⟩ ?_ ?_
 ·exact le0
 ·rintro⟨⟨i,_⟩,hi,hg⟩;dsimp only at hi hg;simp -dsimp only[go_sem];refine Br.mk (fun hc=>?_) fun hc=>?_
  ·have hlt:i<o.trays.length:=Dq;have hw:=aG hlt ho.1.1;rw[aGl hlt] at hg;by_cases hd0:o.trays[i].length=0
   ·have hgt:decide ((o.trays[i].length:Int)>0)=false:=decide_eq_false (by omega);rw[if_pos hd0] at hg
    repeat' first|simp -dsimp only[go_sem,aX hlt,cD,hgt,hw]|apply Br.mk<;>intro h<;>try simp -dsimp only[h]|refine aC ?_|fail
    all_goals(exact nx (i+1,()) hg)
   ·have hgt:decide ((o.trays[i].length:Int)>0)=true:=decide_eq_true (by omega);have h0:0<o.trays[i].length:=by omega
    rw[if_neg hd0,getD_lt h0] at hg
    repeat' first|simp -dsimp only[go_sem,aX hlt,aX h0,cD,hgt,cC]|apply Br.mk<;>intro h<;>try simp -dsimp only[h]|refine aA.c (by first|exact qC _) ?_|refine aC ?_|fail
    all_goals(refine aO ?_;simp[←hg];done)
  ·have hge:i=o.trays.length:=by
    have:¬i<o.trays.length:=Dq;omega
   subst hge;simp -dsimp only[go_sem];rw[List.drop_length,wO] at hg;simp[←hg]
end
end Go.Proofs.YthbnjmgjhonfbaaGreat
