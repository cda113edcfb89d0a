/- EvalSpec: the reference's way. -/
import Derived.Test.YtkgeiaideklmoaaGreatZwVi
import Derived.Test.YtkgeiaideklmoaaGreatZwVg
import Derived.Test.YtkgeiaideklmoaaGreatZwSq
set_option linter.all false
set_option maxHeartbeats 8000000
namespace Go.Proofs.YtkgeiaideklmoaaGreat
open Go.Vs
section
variable [Vs.Envs]
attribute [local irreducible] Vs.Fn bL kS aX vL bO eX chOK areCh chTo chAt l03 chB rk cd3 chI stp stpTo
theorem aCZ {α:Type}{p:α→Bool}:∀{l:List α},l.all p=false→∃m,∃h:m<l.length,p l[m]=false∧∀j,(F:j<l.length)→j<m→p l[j]=true
 | [],h=>by simp at h
 | x::r,h=>by
  cases hx:p x
  ·exact⟨0,by simp,by simpa using hx,fun j _ F=>by omega⟩
  ·rw[List.all_cons,hx,Bool.true_and] at h;obtain⟨m,I,G,h2⟩:=aCZ h;refine⟨m+1,by simpa using I,by simpa using G,fun j F H=>?_⟩;cases j with
   |zero=>simpa using hx
   |succ j=>simpa using h2 j (by simpa using F) (by omega)
section
variable (l:List (List Int)) (fr to sf st:Int) (hk:aU l) (hd:bB l=true) (hf:d9 fr to (bD l)=true) (hn:xZ sf st (bD l)=true)
include hk hd hf hn
attribute [local go_sem] Int.reduceBEq Int.reduceBNe cFd aI List.replicate_succ List.replicate_zero List.flatten_cons List.flatten_nil List.cons_append List.nil_append List.set_cons_zero List.set_cons_succ List.length_cons List.length_nil List.length_set List.getD_cons_zero in
theorem aEK (ha:bP fr to l=true) (hN:rT sf st l=false):∃v,Fz F.xG [.ro [.v (.int .i64 fr),.v (.int .i64 to),.sl 2 [[.v (.int .i64 sf),.v (.int .i64 st)]],.v (.bool false)],.sl 1 (E cC l)] (.tup [.ro v,.v (.int .i64 8)]):=by
 obtain⟨m,hm,hbad,hok0⟩:=aCZ hN;refine⟨[.v (.slice none 0 0),tF sf st l m,.v (.slice none 0 0)],?_⟩;have DK:=dD l hk.2 hk.1;rw[hd] at DK;have WD:=dK l;have OKS:=aFK fr to sf st (bD l) (aDf l fr to sf st hk hd hf hn) hf hn;have KS:=jP l fr to hk.2 hk.1;have ho:=dV hd hf;have h40:=kK hd;have hc:aX fr to l=0:=by simp only[aX,hd,hf,ha];rfl
 rw[show gK fr to l=.sl 1 (E cSt (bO fr to l)) by simp[gK,hc],hc] at KS;have hp:∀c,c∈l→okP sf st c:=aDC hd hn;have e1c:∀x:Int,E cI [x]=[[.v (.int .i64 x)]]:=fun _=>rfl;have hok:∀j,(h:j<l.length)→j<m→(kS sf st l[j]).2=true:=hok0;refine fn0 CdV.l13Read_k fun X=>?_
 repeat' first|simp -dsimp only[go_sem,cC]|apply Br.mk<;>intro h<;>try simp -dsimp only[h]|refine aD.c (by first|exact DK|exact WD|exact OKS|exact KS) ?_|refine aC ?_|fail
 refine aN.at dM (X:={j:Nat // j≤m}) (fun j=>[(9,.v (.int .i64 (j.1:Nat)))]) (fun j=>(.t 15 0,.var [.v (.slice none 0 0),jO sf st l j.1,.v (.slice none 0 0)] false)::jN sf st l j.1) (fun j=>m-j.1) ⟨0,by omega⟩ ?_ ?_
 ·simp[Vs.LeL,Vs.look,Vs.aB,Vs.aQ,Vs.aL,Vs.hset,Vs.aM,jO,jN]
 ·rintro⟨j,hj⟩
  try dsimp only at hj
  by_cases hjm:j<m
  ·have hlt:j<l.length:=by omega
   have ht:decide ((j:Int)<(l.length:Int))=true:=decide_eq_true (by omega);have gj:(E cC l).getD j []=[.sl 1 (E cI l[j])]:=aS hlt;have PC:=aIK (hp _ (List.getElem_mem hlt));have NI:=yO (hp _ (List.getElem_mem hlt));have hrow:=aBQ (sf:=sf) (st:=st) hlt;have hrl:(E cRw ((lI sf st l).take j)).length=j:=by rw[aI,List.length_take,jW];omega
   have hrl2:((lI sf st l).take j).length=j:=by rw[List.length_take,jW];omega
   have hwj:IntKind.i64.wrap ((j:Int)+1)=((j+1:Nat):Int):=by rw[aP (by omega) (by omega)];omega
   rw[hok j hlt hjm] at NI;by_cases hj0:j=0
   ·have hA:jO sf st l j=.v (.slice none 0 0):=by simp[jO,hj0]
    have hH:jN sf st l j=[]:=by simp[jN,hj0]
    have hr0:E cRw ((lI sf st l).take j)=[]:=by rw[hj0];rfl
    have hrow0:[[.sl 1 [[.v (.int .i64 (kS sf st l[j]).1)]]]]=E cRw ((lI sf st l).take (j+1)):=by rw[←hrow,hr0];rfl
    rw[hA,hH]
    repeat' first|simp -dsimp only[go_sem,ht,e1c,cC]|apply Br.mk<;>intro h<;>try simp -dsimp only[h]|refine aC ?_|fail
    refine aN.at dM (X:={zz:Nat×(Unit) // zz.1≤1∧True}) (fun zz=>[(10,.loc (.t 10 0) 0 zz.1.1),(42,.junk),(11,.v (.int .i64 zz.1.1))]) (fun zz=>[(.t 10 0,.arr 1 (E cI ([(kS sf st l[j]).1].take zz.1.1)) false)]) (fun zz=>1-zz.1.1) ⟨(0,()),by omega,trivial⟩ ?_ ?_
    ·simp[Vs.LeL,Vs.look,Vs.aB,Vs.aQ,Vs.aL,Vs.hset,Vs.aM,Vs.E,cI]
    ·rintro⟨⟨i,_⟩,hi,hg⟩;dsimp only at hi hg;simp -dsimp only[go_sem,cC];refine Br.mk (fun hc=>?_) fun hc=>?_
     ·have hlt:i<1:=Dq;have hw:=aH hlt (by omega);obtain rfl:i=0:=by omega
      repeat' first|simp -dsimp only[go_sem,gj,e1c,cC,hw]|apply Br.mk<;>intro h<;>try simp -dsimp only[h]|refine aD.c (by first|exact PC|exact NI) ?_|refine aC ?_|fail
      all_goals first|omega|(exact nx (1,()) trivial (h2:=by simp[Vs.LeL,Vs.look,Vs.aB,Vs.aQ,Vs.aL,Vs.hset,Vs.aM,Vs.E,cI]))
     ·have hge:i=1:=by
       have:¬i<1:=Dq;omega
      subst hge;simp -dsimp only[go_sem,cC]
      repeat' first|simp -dsimp only[go_sem,hwj,e1c,hrow,hrl,hrl2,ht,hrow0,cC]|apply Br.mk<;>intro h<;>try simp -dsimp only[h]|refine And.intro ?_ (fun h=>absurd rfl h)|refine aC ?_|fail
      first|(exact⟨⟨j+1,by omega⟩,by simp[Vs.LeL,Vs.look,Vs.aB,Vs.aQ,Vs.aL,Vs.hset,Vs.aM,jO,jN,hrow,Vs.E,hj0],by simp only;omega⟩)
   ·have hA:jO sf st l j=.loc (.t 84 0) 0 j:=by simp[jO,hj0]
    have hH:jN sf st l j=[(.t 84 0,.arr 1 (E cRw ((lI sf st l).take j)) false)]:=by simp[jN,hj0]
    rw[hA,hH]
    repeat' first|simp -dsimp only[go_sem,ht,e1c,cC]|apply Br.mk<;>intro h<;>try simp -dsimp only[h]|refine aC ?_|fail
    refine aN.at dM (X:={zz:Nat×(Unit) // zz.1≤1∧True}) (fun zz=>[(10,.loc (.t 10 0) 0 zz.1.1),(42,.junk),(11,.v (.int .i64 zz.1.1))]) (fun zz=>[(.t 10 0,.arr 1 (E cI ([(kS sf st l[j]).1].take zz.1.1)) false)]) (fun zz=>1-zz.1.1) ⟨(0,()),by omega,trivial⟩ ?_ ?_
    ·simp[Vs.LeL,Vs.look,Vs.aB,Vs.aQ,Vs.aL,Vs.hset,Vs.aM,Vs.E,cI]
    ·rintro⟨⟨i,_⟩,hi,hg⟩;dsimp only at hi hg;simp -dsimp only[go_sem,cC];refine Br.mk (fun hc=>?_) fun hc=>?_
     ·have hlt:i<1:=Dq;have hw:=aH hlt (by omega);obtain rfl:i=0:=by omega
      repeat' first|simp -dsimp only[go_sem,gj,e1c,cC,hw]|apply Br.mk<;>intro h<;>try simp -dsimp only[h]|refine aD.c (by first|exact PC|exact NI) ?_|refine aC ?_|fail
      all_goals first|omega|(exact nx (1,()) trivial (h2:=by simp[Vs.LeL,Vs.look,Vs.aB,Vs.aQ,Vs.aL,Vs.hset,Vs.aM,Vs.E,cI]))
     ·have hge:i=1:=by
       have:¬i<1:=Dq;omega
      subst hge;simp -dsimp only[go_sem,cC]
      repeat' first|simp -dsimp only[go_sem,hwj,e1c,hrow,hrl,hrl2,ht,cC]|apply Br.mk<;>intro h<;>try simp -dsimp only[h]|refine And.intro ?_ (fun h=>absurd rfl h)|refine aC ?_|fail
      first|(exact⟨⟨j+1,by omega⟩,by simp[Vs.LeL,Vs.look,Vs.aB,Vs.aQ,Vs.aL,Vs.hset,Vs.aM,jO,jN,hrow,Vs.E],by simp only;omega⟩)
  ·obtain rfl:j=m:=by omega
   have hlt:j<l.length:=hm;have ht:decide ((j:Int)<(l.length:Int))=true:=decide_eq_true (by omega);have gj:(E cC l).getD j []=[.sl 1 (E cI l[j])]:=aS hlt;have PC:=aIK (hp _ (List.getElem_mem hlt));have NI:=yO (hp _ (List.getElem_mem hlt));have hrow:=aBQ (sf:=sf) (st:=st) hlt;have hrl:(E cRw ((lI sf st l).take j)).length=j:=by rw[aI,List.length_take,jW];omega
   have hrl2:((lI sf st l).take j).length=j:=by rw[List.length_take,jW];omega
   have hwj:IntKind.i64.wrap ((j:Int)+1)=((j+1:Nat):Int):=by rw[aP (by omega) (by omega)];omega
   rw[hbad] at NI;by_cases hj0:j=0
   ·have hA:jO sf st l j=.v (.slice none 0 0):=by simp[jO,hj0]
    have hH:jN sf st l j=[]:=by simp[jN,hj0]
    rw[hA,hH,show tF sf st l j=.v (.slice none 0 0) by simp[tF,hj0]]
    repeat' first|simp -dsimp only[go_sem,ht,e1c,cC]|apply Br.mk<;>intro h<;>try simp -dsimp only[h]|refine aC ?_|fail
    refine aN.at dM (X:={zz:Nat×(Unit) // zz.1≤1∧zz.1=0}) (fun zz=>[(10,.loc (.t 10 0) 0 zz.1.1),(42,.junk),(11,.v (.int .i64 zz.1.1))]) (fun zz=>[(.t 10 0,.arr 1 (E cI ([(kS sf st l[j]).1].take zz.1.1)) false)]) (fun zz=>1-zz.1.1) ⟨(0,()),by omega,rfl⟩ ?_ ?_
    ·simp[Vs.LeL,Vs.look,Vs.aB,Vs.aQ,Vs.aL,Vs.hset,Vs.aM,Vs.E,cI]
    ·rintro⟨⟨i,_⟩,hi,hg⟩;dsimp only at hi hg;simp -dsimp only[go_sem,cC];refine Br.mk (fun hc=>?_) fun hc=>?_
     ·have hlt:i<1:=Dq;have hw:=aH hlt (by omega);obtain rfl:i=0:=by omega
      repeat' first|simp -dsimp only[go_sem,gj,e1c,ht,cC,hw]|apply Br.mk<;>intro h<;>try simp -dsimp only[h]|refine aD.c (by first|exact PC|exact NI) ?_|refine aC ?_|fail
      all_goals first|omega|(exact⟨_,_,rfl,rfl⟩)|(rw[hbad];exact⟨_,_,rfl,rfl⟩)
     ·have hge:i=1:=by
       have:¬i<1:=Dq;omega
      subst hge;simp -dsimp only[go_sem,cC];omega
   ·have hA:jO sf st l j=.loc (.t 84 0) 0 j:=by simp[jO,hj0]
    have hH:jN sf st l j=[(.t 84 0,.arr 1 (E cRw ((lI sf st l).take j)) false)]:=by simp[jN,hj0]
    rw[hA,hH,show tF sf st l j=.sl 1 (E cRw ((lI sf st l).take j)) by simp[tF,hj0]];have htk:(E cRw ((lI sf st l).take j)).take j=E cRw ((lI sf st l).take j):=List.take_of_length_le (by omega)
    repeat' first|simp -dsimp only[go_sem,ht,e1c,cC]|apply Br.mk<;>intro h<;>try simp -dsimp only[h]|refine aC ?_|fail
    refine aN.at dM (X:={zz:Nat×(Unit) // zz.1≤1∧zz.1=0}) (fun zz=>[(10,.loc (.t 10 0) 0 zz.1.1),(42,.junk),(11,.v (.int .i64 zz.1.1))]) (fun zz=>[(.t 10 0,.arr 1 (E cI ([(kS sf st l[j]).1].take zz.1.1)) false)]) (fun zz=>1-zz.1.1) ⟨(0,()),by omega,rfl⟩ ?_ ?_
    ·simp[Vs.LeL,Vs.look,Vs.aB,Vs.aQ,Vs.aL,Vs.hset,Vs.aM,Vs.E,cI]
    ·rintro⟨⟨i,_⟩,hi,hg⟩;dsimp only at hi hg;simp -dsimp only[go_sem,cC];refine Br.mk (fun hc=>?_) fun hc=>?_
     ·have hlt:i<1:=Dq;have hw:=aH hlt (by omega);obtain rfl:i=0:=by omega
      repeat' first|simp -dsimp only[go_sem,gj,e1c,ht,htk,cC,hw]|apply Br.mk<;>intro h<;>try simp -dsimp only[h]|refine aD.c (by first|exact PC|exact NI) ?_|refine aC ?_|fail
      all_goals first|omega|(exact⟨_,_,rfl,rfl⟩)|(rw[hbad];exact⟨_,_,rfl,rfl⟩)
     ·have hge:i=1:=by
       have:¬i<1:=Dq;omega
      subst hge;simp -dsimp only[go_sem,cC];omega
attribute [local go_sem] Int.reduceBEq Int.reduceBNe aI List.replicate_succ List.replicate_zero List.flatten_cons List.flatten_nil List.cons_append List.nil_append List.set_cons_zero List.set_cons_succ List.length_cons List.length_nil List.length_set List.getD_cons_zero in
theorem aBq:Fz F.sQ [.sl 1 (E cC l),.agg (cFd fr to),.agg (cFd sf st)] (.tup [vK fr to sf st l,.v (.int .i64 (if jK fr to sf st l then 0 else 8))]):=by
 cases ha:bP fr to l
 ·have RD:=aFJ l fr to sf st hk hd hf hn ha;have hb:jK fr to sf st l=false:=by simp[jK,ha]
  rw[show vK fr to sf st l=.v (.slice none 0 0) by simp[vK,hb],hb];refine fn0 Cd.s_l15Sums_k fun X=>?_
  repeat' first|simp -dsimp only[go_sem,cC,cFd,cTt]|apply Br.mk<;>intro h<;>try simp -dsimp only[h]|refine aD.c (by first|exact RD) ?_|refine aC ?_|fail
  all_goals first|exact⟨_,_,rfl,rfl⟩
 cases hN:rT sf st l
 ·obtain⟨v,RD⟩:=aEK l fr to sf st hk hd hf hn ha hN;have hb:jK fr to sf st l=false:=by simp[jK,hN]
  rw[show vK fr to sf st l=.v (.slice none 0 0) by simp[vK,hb],hb];refine fn0 Cd.s_l15Sums_k fun X=>?_
  repeat' first|simp -dsimp only[go_sem,cC,cFd,cTt]|apply Br.mk<;>intro h<;>try simp -dsimp only[h]|refine aD.c (by first|exact RD) ?_|refine aC ?_|fail
  all_goals first|exact⟨_,_,rfl,rfl⟩
 have RD:=aFI l fr to sf st hk hd hf hn ha hN;have hb:jK fr to sf st l=true:=by simp[jK,hN,ha]
 rw[show vK fr to sf st l=.sl 2 (E cTt (iI fr to sf st l)) by simp[vK,hb],hb];have h40:=kK hd;have hin:=uF (fr:=fr) (to:=to) (l:=l) l.length;have hup:=aAg (fr:=fr) (to:=to) (l:=l) l.length;have hgl:=jJ fr to l l.length
 have htl:iI fr to sf st l=(List.range (bL fr to l l.length).length).map (fun i=>(txt (fH fr to ((eT l (bL fr to l l.length) i).getD 0 [])),eX sf st (eT l (bL fr to l l.length) i))):=by
  unfold iI aAh;rw[List.map_map];rfl
 rw[htl];have hkl:(bO fr to l).length=l.length:=by unfold bO;simp
 have hkg:∀i,i<l.length→(E cSt (bO fr to l)).getD i []=[.v (.string (txt (fH fr to (l.getD i []))))]:=fun i hi=>by
  rw[aS (by omega)];simp[cSt,bO,List.getD,hi]
 generalize bL fr to l l.length=o at *
 refine fn0 Cd.s_l15Sums_k fun X=>?_
 repeat' first|simp -dsimp only[go_sem,cC,cFd,cTt]|apply Br.mk<;>intro h<;>try simp -dsimp only[h]|refine aD.c (by first|exact RD) ?_|refine aC ?_|fail
 refine aN.at dM (X:={zz:Nat×(Unit) // zz.1≤o.length∧True}) (fun zz=>[(10,.loc (.t 10 0) 0 zz.1.1),(11,.v (.int .i64 zz.1.1))]) (fun zz=>[(.t 10 0,.arr 2 (E cTt ((List.range zz.1.1).map fun i=>(txt (fH fr to ((eT l o i).getD 0 [])),eX sf st (eT l o i)))) false)]) (fun zz=>o.length-zz.1.1) ⟨(0,()),by omega,trivial⟩ ?_ ?_
 ·simp[Vs.LeL,Vs.look,Vs.aB,Vs.aQ,Vs.aL,Vs.hset,Vs.aM,Vs.E]
 ·rintro⟨⟨i,_⟩,hi,hg⟩;dsimp only at hi hg;simp -dsimp only[go_sem,cC,cFd,cTt];refine Br.mk (fun hc=>?_) fun hc=>?_
  ·have hlt:i<o.length:=Dq;have hw:=aH hlt (by omega)
   obtain ⟨a,e,hae,hel,ga,hga,hge2,hend⟩:∃a e:Nat,a<e∧e≤l.length∧o[i]=(a:Int)∧(o.getD i 0).toNat=a∧(if i+1<o.length then(o.getD (i+1) 0).toNat else l.length)=e∧(if i+1<o.length then o.getD (i+1) 0 else((bO fr to l).length:Int))=(e:Int):=by
    have h0:=hin _ (List.getElem_mem hlt);have e0:o.getD i 0=o[i]:=by simp[List.getD,hlt]
    by_cases h1:i+1<o.length
    ·have h2:=hin _ (List.getElem_mem h1);have h3:o[i]<o[i+1]:=List.pairwise_iff_getElem.1 hup i (i+1) hlt h1 (by omega);have e1:o.getD (i+1) 0=o[i+1]:=by simp[List.getD,h1]
     refine⟨o[i].toNat,o[i+1].toNat,by omega,by omega,by omega,by rw[e0],by rw[if_pos h1,e1],by rw[if_pos h1,e1];omega⟩
    ·refine⟨o[i].toNat,l.length,by omega,by omega,by omega,by rw[e0],by rw[if_neg h1],by rw[if_neg h1,hkl]⟩
   have hgat:eT l o i=(l.take e).drop a:=by unfold eT;rw[hge2,hga]
   have hg0:((l.take e).drop a).getD 0 []=l.getD a []:=by
    simp only[List.getD];rw[List.getElem?_drop,List.getElem?_take,if_pos (by omega),Nat.add_zero]
   have gi:(E cI o).getD i []=[.v (.int .i64 (a:Int))]:=by rw[cZ hlt,ga]
   have gk:=hkg a (by omega);have EN:=r_end (tF sf st l l.length) o (bO fr to l) i hlt (by omega);rw[hend] at EN
   have hnv:tF sf st l l.length=.sl 1 (E cRw (lI sf st l)):=by
    unfold tF;rw[if_neg (by omega),List.take_of_length_le (by rw[jW];omega)]
   have SM:=aLz (.sl 1 (E cSt (bO fr to l))) (.sl 1 (E cI o)) (lI sf st l) a e (by omega) (by rw[jW];exact hel) (by rw[jW];omega)
   have hsm:vL (((lI sf st l).take e).drop a)=eX sf st ((l.take e).drop a):=by
    rw[←aId];congr 1;simp[lI,List.map_take,List.map_drop]
   rw[hsm] at SM;rw[hnv] at EN⊢;have e1s:(E cI [eX sf st ((l.take e).drop a)]).getD 0 []=[.v (.int .i64 (eX sf st ((l.take e).drop a)))]:=rfl;have e1l:(E cI [eX sf st ((l.take e).drop a)]).length=1:=rfl
   have hap:E cTt ((List.range i).map fun i=>(txt (fH fr to ((eT l o i).getD 0 [])),eX sf st (eT l o i)))++[[.v (.string (txt (fH fr to (l.getD a [])))),.v (.int .i64 (eX sf st ((l.take e).drop a)))]]=E cTt ((List.range (i+1)).map fun i=>(txt (fH fr to ((eT l o i).getD 0 [])),eX sf st (eT l o i))):=by
    rw[List.range_succ,List.map_append,aY];simp only[List.map_cons,List.map_nil,hgat,hg0];rfl
   have hal:(E cTt ((List.range i).map fun i=>(txt (fH fr to ((eT l o i).getD 0 [])),eX sf st (eT l o i)))).length=i:=by rw[aI];simp
   have hta:((a:Nat):Int).toNat=a:=by omega
   generalize eX sf st ((l.take e).drop a)=sw at *
   generalize txt (fH fr to (l.getD a []))=nm at *
   repeat' first|simp -dsimp only[go_sem,gi,gk,hw,hap,hal,hta,e1s,e1l,hkl,cC,cFd]|apply Br.mk<;>intro h<;>try simp -dsimp only[h]|refine aD.c (by first|exact EN|exact SM) ?_|refine aC ?_|fail
   all_goals first|omega|(exact nx (i+1,()) trivial (h2:=by simp[Vs.LeL,Vs.look,Vs.aB,Vs.aQ,Vs.aL,Vs.hset,Vs.aM,hap,hnv,List.range_succ,Vs.rnL,Vs.rn,Vs.nmF,Vs.scr,Vs.AV.has]))
  ·have hge:i=o.length:=by
    have:¬i<o.length:=Dq;omega
   subst hge;simp -dsimp only[go_sem,cC,cFd,cTt];have htk:(E cTt ((List.range o.length).map fun i=>(txt (fH fr to ((eT l o i).getD 0 [])),eX sf st (eT l o i)))).take o.length=E cTt ((List.range o.length).map fun i=>(txt (fH fr to ((eT l o i).getD 0 [])),eX sf st (eT l o i))):=List.take_of_length_le (by rw[aI];simp)
   first|(rw[htk];exact⟨⟨_,_,rfl,rfl⟩,fun h=>h rfl⟩)
end
end
section
variable [Vs.Envs]
attribute [local irreducible] Vs.Fn pun cmT zR gY fI aX chOK areCh chTo chAt l03 chB rk cd3 chI stp stpTo
theorem aIr {fr to:Int}{s:ByteArray}{l:List (List Int)} (h:fI fr to s l=0):bB l=true∧d9 fr to (bD l)=true∧s.size=to.toNat-fr.toNat∧areCh s=true∧bP fr to l=true:=by
 obtain⟨hd,hf,I,G,F⟩:=aGt h;have H:=hf;simp only[d9,Bool.and_eq_true,decide_eq_true_eq] at H;have J:((s.size:Int))=W (to-fr):=by simpa using I
 have O:bD l≤1048576:=by
  have L:=kK hd;unfold bD;split
  ·omega
  ·rename_i U;have M:l.getD 0 []∈l:=by rw[show l.getD 0 []=l[0]'(by omega) by simp[List.getD,(by omega:0<l.length)]];exact List.getElem_mem _
   have:=(dV hd hf _ M).2.2.2;omega
 rw[show W (to-fr)=to-fr from aP (by omega) (by omega)] at J;exact⟨hd,hf,by omega,G,F⟩
attribute [local go_sem] Int.reduceBEq Int.reduceBNe cP List.replicate_succ List.replicate_zero List.flatten_cons List.flatten_nil List.cons_append List.nil_append List.set_cons_zero List.set_cons_succ List.length_cons List.length_nil List.length_set in
theorem sN (l:List (List Int)) (fr to:Int) (s:ByteArray) (hk:aU l) (hz:s.size≤1048576):Fz F.kR [.sl 1 (E cC l),.agg (cFd fr to),.v (.string s)] (.tup [l8 fr to s l,.v (.int .i64 (fI fr to s l))]):=by
 have AK:=aLC l fr to s hk hz;by_cases h0:fI fr to s l=0
 ·obtain⟨hd,hf,hsz,hch,hall⟩:=aIr h0;have ho:=dV hd hf;have h40:=kK hd;rw[show l8 fr to s l=.sl 1 (E cC (flt (gY fr to s) l)) by simp[l8,h0],h0];rw[show aHW fr to s l=.sl 1 (E cSt (bO fr to l)) by simp[aHW,h0],h0] at AK;have hkl:=tV fr to l;refine fn0 Cd.s_SelectEqual_k fun X=>?_
  repeat' first|simp -dsimp only[go_sem,cC,cFd,hkl,aI]|apply Br.mk<;>intro h<;>try simp -dsimp only[h]|refine aD.c (by first|exact AK) ?_|refine aC ?_|fail
  refine aN.at dM (X:={zz:Nat×(Unit) // zz.1≤l.length∧True}) (fun zz=>[(10,.loc (.t 10 0) 0 (flt (gY fr to s) (l.take zz.1.1)).length),(11,.v (.int .i64 zz.1.1))]) (fun zz=>[(.t 10 0,.arr 1 (E cC (flt (gY fr to s) (l.take zz.1.1))) false)]) (fun zz=>l.length-zz.1.1) ⟨(0,()),by omega,trivial⟩ ?_ ?_
  ·simp[Vs.LeL,Vs.look,Vs.aB,Vs.aQ,Vs.aL,Vs.hset,Vs.aM,Vs.E,flt]
  ·rintro⟨⟨i,_⟩,hi,hg⟩;dsimp only at hi hg;simp -dsimp only[go_sem,cC,cFd,hkl,aI];refine Br.mk (fun hc=>?_) fun hc=>?_
   ·have hlt:i<l.length:=Dq;have hw:=aH hlt (by omega);have hc:=ho _ (List.getElem_mem hlt);have hko:=aKw hc (List.all_eq_true.1 hall _ (List.getElem_mem hlt)) hsz hch;have hm:(E cSt (bO fr to l)).getD i []=[.v (.string (txt (fH fr to l[i])))]:=by rw[aS (by omega)];simp[bO,cSt]
    have hm2:(E cC l).getD i []=[.sl 1 (E cI l[i])]:=aS hlt;have hfs:=wS (q:=gY fr to s) hlt;have hfl:=xU (gY fr to s) (l.take i);have ht:(l.take i).length=i:=by simp;omega
    have NC:=wI l[i] (hk.2 _ (List.getElem_mem hlt));have hE:(E cC (flt (gY fr to s) (l.take i))).length=(flt (gY fr to s) (l.take i)).length:=aI ..
    cases hq:gY fr to s l[i]
    ·rw[hq] at hfs hko;have hap:E cC (flt (gY fr to s) (l.take i))++[[.sl 1 (E cI l[i])]]=E cC (flt (gY fr to s) (l.take (i+1))):=by rw[hfs,aY];rfl
     have hln:(flt (gY fr to s) (l.take (i+1))).length=(flt (gY fr to s) (l.take i)).length+1:=by rw[hfs];simp
     simp -dsimp only[go_sem,hm,hm2,hw,hko,cC,cFd]
     repeat' first|simp -dsimp only[go_sem,hm,hm2,hw,hko,hap,hE,cC,cFd]|apply Br.mk<;>intro h<;>try simp -dsimp only[h]|refine aD.c (by first|exact NC) ?_|refine aC ?_|fail
     all_goals first|omega|(exact nx (i+1,()) trivial (h2:=by simp[Vs.LeL,Vs.look,Vs.aB,Vs.aQ,Vs.aL,Vs.hset,Vs.aM,hln,Vs.rnL,Vs.rn,Vs.nmF,Vs.scr,Vs.AV.has]))
    ·rw[hq] at hfs hko;have hsame:flt (gY fr to s) (l.take (i+1))=flt (gY fr to s) (l.take i):=by rw[hfs];simp
     repeat' first|simp -dsimp only[go_sem,hm,hm2,hw,hko,cC,cFd]|apply Br.mk<;>intro h<;>try simp -dsimp only[h]|refine aC ?_|fail
     all_goals first|omega|(exact nx (i+1,()) trivial (h2:=by simp[Vs.LeL,Vs.look,Vs.aB,Vs.aQ,Vs.aL,Vs.hset,Vs.aM,hsame,Vs.rnL,Vs.rn,Vs.nmF,Vs.scr,Vs.AV.has]))
   ·have hge:i=l.length:=by
     have:¬i<l.length:=Dq;omega
    subst hge;simp -dsimp only[go_sem,cC,cFd,hkl,aI]
    have htk:(E cC (flt (gY fr to s) (l.take l.length))).take (flt (gY fr to s) (l.take l.length)).length=E cC (flt (gY fr to s) l):=by
     rw[List.take_length];exact List.take_of_length_le (by rw[aI];exact Nat.le_refl _)
    first|(rw[htk];exact⟨⟨_,_,rfl,rfl⟩,fun h=>h rfl⟩)|(rw[List.take_length];exact⟨⟨_,_,rfl,rfl⟩,fun h=>h rfl⟩)
 ·have e0:(fI fr to s l != 0)=true:=by simp[h0]
  rw[show l8 fr to s l=.v (.slice none 0 0) by simp[l8,h0]];rw[show aHW fr to s l=.v (.slice none 0 0) by simp[aHW,h0]] at AK;generalize fI fr to s l=c at *
  refine fn0 Cd.s_SelectEqual_k fun X=>?_
  repeat' first|simp -dsimp only[go_sem,cC,cFd,e0]|apply Br.mk<;>intro h<;>try simp -dsimp only[h]|refine aD.c (by first|exact AK) ?_|refine aC ?_|fail
  all_goals first|exact⟨_,_,rfl,rfl⟩
theorem aDe {l:List (List Int)} (hd:bB l=true):inB (bD l) 1 20=true:=by
 by_cases G:l.length=0
 ·unfold bD;rw[if_pos G];rfl
 ·have F:=hd;simp only[bB,Bool.and_eq_true,List.all_eq_true,decide_eq_true_eq] at F;have H:l.getD 0 []∈l:=by rw[show l.getD 0 []=l[0]'(by omega) by simp[List.getD,(by omega:0<l.length)]];exact List.getElem_mem _
  have:=(F.1 _ H).1;simp only[gX,inB,Bool.and_eq_true,decide_eq_true_eq] at this;unfold bD;rw[if_neg G];simp only[inB,Bool.and_eq_true,decide_eq_true_eq];omega
end
section
variable [Vs.Envs]
attribute [local irreducible] Vs.Fn pun cmT zR gY fI aX chOK areCh chTo chAt l03 chB rk cd3 chI stp stpTo
end
end Go.Proofs.YtkgeiaideklmoaaGreat
