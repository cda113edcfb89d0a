/- EvalSpec: the reference's way. -/
import Derived.Test.YtmiiohemehacjaaGreatDoorXwVi
import Derived.Test.YtmiiohemehacjaaGreatDoorXwVf
import Derived.Test.YtmiiohemehacjaaGreatDoorXwSq
import Derived.Test.YtmiiohemehacjaaGreatDoorXwVb
set_option linter.all false
set_option maxHeartbeats 8000000
namespace Go.Proofs.YtmiiohemehacjaaGreatDoor
open Go.Vs
section
variable [Vs.Envs]
attribute [local irreducible] Vs.Fn bI gT aY wW bK jH chOK areCh chTo chAt l03 chB rk cd3 chI stp stpTo
theorem aD3 {α:Type}{p:α->Bool}:∀{l:List α},l.all p=false->∃m,∃h:m<l.length,p l[m]=false∧∀j,(F:j<l.length)->j<m->p l[j]=true
 | [],h=>by simp at h
 | x::r,h=>by
  cases hx:p x
  .exact⟨0,by simp,by simpa using hx,λj _ F=>by omega⟩
  .rw[List.all_cons,hx,Bool.true_and] at h;obtain⟨m,J,H,h2⟩:=aD3 h;refine⟨m+1,by simpa using J,by simpa using H,λj F I=>?_⟩;cases j with
   |zero=>simpa using hx
   |succ j=>simpa using h2 j (by simpa using F) (by omega)
section
variable (l:List (List Int)) (fr to sf st:Int) (hk:bJ l) (hd:bA l=true) (hf:dR fr to (bF l)=true) (hn:nO sf st (bF l)=true)
include hk hd hf hn
attribute [local go_sem] Int.reduceBEq Int.reduceBNe cFd aI List.replicate_succ List.replicate_zero List.flatten_cons List.flatten_nil List.cons_append List.nil_append List.set_cons_zero List.set_cons_succ List.length_cons List.length_nil List.length_set List.getD_cons_zero in
set_option maxHeartbeats 2000000 in
theorem aFM (ha:bP fr to l=true) (hN:z8 sf st l=false):∃v,Fz F.yK [.ro [.v (.int .i64 fr),.v (.int .i64 to),.sl 2 [[.v (.int .i64 sf),.v (.int .i64 st)]],.v (.bool false)],.sl 1 (E cC l)] (.tup [.ro v,.v (.int .i64 8)]):=by
 obtain⟨m,hm,hbad,hok0⟩:=aD3 hN;refine⟨[.v (.slice none 0 0),u6 sf st l m,.v (.slice none 0 0)],?_⟩;have DK:=cB l hk.2 hk.1;rw[hd] at DK;have WD:=dV l;have OKS:=aG0 fr to sf st (bF l) (aEj l fr to sf st hk hd hf hn) hf hn;have KS:=jK l fr to hk.2 hk.1;have ho:=eF hd hf;have h40:=kM hd;have hc:aY fr to l=0:=by simp only[aY,hd,hf,ha];rfl
 rw[show mV fr to l=.sl 1 (E cSt (bK fr to l)) by simp[mV,hc],hc] at KS;have hp:∀c,c∈l->okP sf st c:=aGR hd hn;have e1c:∀x:Int,E cI [x]=[[.v (.int .i64 x)]]:=λ_=>rfl;have hok:∀j,(h:j<l.length)->j<m->(gT sf st l[j]).2=true:=hok0;refine fn0 CdV.l13Read_k λX=>?_
 repeat' first|simp -dsimp only[go_sem,cC]|apply Br.mk<;>intro h<;>try simp -dsimp only[h]|refine aD.c (by first|exact DK|exact WD|exact OKS|exact KS) ?_|refine aC ?_|fail
 refine aN.at dM (X:={j:Nat // j<=m}) (λj=>[(9,.v (.int .i64 (j.1:Nat)))]) (λj=>(.t 15 0,.var [.v (.slice none 0 0),jJ sf st l j.1,.v (.slice none 0 0)] false)::jI sf st l j.1) (λj=>m-j.1) ⟨0,by omega⟩ ?_ ?_
 .simp[Vs.LeL,Vs.look,Vs.aB,Vs.aR,Vs.aK,Vs.hset,Vs.aL,jJ,jI]
 .rintro⟨j,hj⟩
  try dsimp only at hj
  by_cases hjm:j<m
  .have hlt:j<l.length:=by omega
   have ht:decide ((j:Int)<(l.length:Int))=true:=decide_eq_true (by omega);have gj:(E cC l).getD j []=[.sl 1 (E cI l[j])]:=aQ hlt;have PC:=aFv (hp _ (List.getElem_mem hlt));have NI:=sG (hp _ (List.getElem_mem hlt));have hrow:=aCG (sf:=sf) (st:=st) hlt;have hrl:(E cRw ((lM sf st l).take j)).length=j:=by rw[aI,List.length_take,jT];omega
   have hrl2:((lM sf st l).take j).length=j:=by rw[List.length_take,jT];omega
   have hwj:IntKind.i64.wrap ((j:Int)+1)=((j+1:Nat):Int):=by rw[aO (by omega) (by omega)];omega
   rw[hok j hlt hjm] at NI;by_cases hj0:j=0
   .have hA:jJ sf st l j=.v (.slice none 0 0):=by simp[jJ,hj0]
    have hH:jI sf st l j=[]:=by simp[jI,hj0]
    have hr0:E cRw ((lM sf st l).take j)=[]:=by rw[hj0];rfl
    have hrow0:[[.sl 1 [[.v (.int .i64 (gT sf st l[j]).1)]]]]=E cRw ((lM sf st l).take (j+1)):=by rw[←hrow,hr0];rfl
    rw[hA,hH]
    repeat' first|simp -dsimp only[go_sem,ht,e1c,cC]|apply Br.mk<;>intro h<;>try simp -dsimp only[h]|refine aC ?_|fail
    refine aN.at dM (X:={zz:Nat×(Unit) // zz.1<=1∧True}) (λzz=>[(10,.loc (.t 10 0) 0 zz.1.1),(42,.junk),(11,.v (.int .i64 zz.1.1))]) (λzz=>[(.t 10 0,.arr 1 (E cI ([(gT sf st l[j]).1].take zz.1.1)) false)]) (λzz=>1-zz.1.1) ⟨(0,()),by omega,trivial⟩ ?_ ?_
    .simp[Vs.LeL,Vs.look,Vs.aB,Vs.aR,Vs.aK,Vs.hset,Vs.aL,Vs.E,cI]
    .rintro⟨⟨i,_⟩,hi,hg⟩;dsimp only at hi hg;simp -dsimp only[go_sem,cC];refine Br.mk (λhc=>?_) λhc=>?_
     .have hlt:i<1:=Dq;have hw:=aH hlt (by omega);obtain rfl:i=0:=by omega
      repeat' first|simp -dsimp only[go_sem,gj,e1c,cC,hw]|apply Br.mk<;>intro h<;>try simp -dsimp only[h]|refine aD.c (by first|exact PC|exact NI) ?_|refine aC ?_|fail
      all_goals first|omega|(exact nx (1,()) trivial (h2:=by simp[Vs.LeL,Vs.look,Vs.aB,Vs.aR,Vs.aK,Vs.hset,Vs.aL,Vs.E,cI]))
     .have hge:i=1:=by
       have:¬i<1:=Dq;omega
      subst hge;simp -dsimp only[go_sem,cC]
      repeat' first|simp -dsimp only[go_sem,hwj,e1c,hrow,hrl,hrl2,ht,hrow0,cC]|apply Br.mk<;>intro h<;>try simp -dsimp only[h]|refine And.intro ?_ (λh=>absurd rfl h)|refine aC ?_|fail
      first|(exact⟨⟨j+1,by omega⟩,by simp[Vs.LeL,Vs.look,Vs.aB,Vs.aR,Vs.aK,Vs.hset,Vs.aL,jJ,jI,hrow,Vs.E,hj0],by simp only;omega⟩)
   .have hA:jJ sf st l j=.loc (.t 84 0) 0 j:=by simp[jJ,hj0]
    have hH:jI sf st l j=[(.t 84 0,.arr 1 (E cRw ((lM sf st l).take j)) false)]:=by simp[jI,hj0]
    rw[hA,hH]
    repeat' first|simp -dsimp only[go_sem,ht,e1c,cC]|apply Br.mk<;>intro h<;>try simp -dsimp only[h]|refine aC ?_|fail
    refine aN.at dM (X:={zz:Nat×(Unit) // zz.1<=1∧True}) (λzz=>[(10,.loc (.t 10 0) 0 zz.1.1),(42,.junk),(11,.v (.int .i64 zz.1.1))]) (λzz=>[(.t 10 0,.arr 1 (E cI ([(gT sf st l[j]).1].take zz.1.1)) false)]) (λzz=>1-zz.1.1) ⟨(0,()),by omega,trivial⟩ ?_ ?_
    .simp[Vs.LeL,Vs.look,Vs.aB,Vs.aR,Vs.aK,Vs.hset,Vs.aL,Vs.E,cI]
    .rintro⟨⟨i,_⟩,hi,hg⟩;dsimp only at hi hg;simp -dsimp only[go_sem,cC];refine Br.mk (λhc=>?_) λhc=>?_
     .have hlt:i<1:=Dq;have hw:=aH hlt (by omega);obtain rfl:i=0:=by omega
      repeat' first|simp -dsimp only[go_sem,gj,e1c,cC,hw]|apply Br.mk<;>intro h<;>try simp -dsimp only[h]|refine aD.c (by first|exact PC|exact NI) ?_|refine aC ?_|fail
      all_goals first|omega|(exact nx (1,()) trivial (h2:=by simp[Vs.LeL,Vs.look,Vs.aB,Vs.aR,Vs.aK,Vs.hset,Vs.aL,Vs.E,cI]))
     .have hge:i=1:=by
       have:¬i<1:=Dq;omega
      subst hge;simp -dsimp only[go_sem,cC]
      repeat' first|simp -dsimp only[go_sem,hwj,e1c,hrow,hrl,hrl2,ht,cC]|apply Br.mk<;>intro h<;>try simp -dsimp only[h]|refine And.intro ?_ (λh=>absurd rfl h)|refine aC ?_|fail
      first|(exact⟨⟨j+1,by omega⟩,by simp[Vs.LeL,Vs.look,Vs.aB,Vs.aR,Vs.aK,Vs.hset,Vs.aL,jJ,jI,hrow,Vs.E],by simp only;omega⟩)
  .obtain rfl:j=m:=by omega
   have hlt:j<l.length:=hm;have ht:decide ((j:Int)<(l.length:Int))=true:=decide_eq_true (by omega);have gj:(E cC l).getD j []=[.sl 1 (E cI l[j])]:=aQ hlt;have PC:=aFv (hp _ (List.getElem_mem hlt));have NI:=sG (hp _ (List.getElem_mem hlt));have hrow:=aCG (sf:=sf) (st:=st) hlt;have hrl:(E cRw ((lM sf st l).take j)).length=j:=by rw[aI,List.length_take,jT];omega
   have hrl2:((lM sf st l).take j).length=j:=by rw[List.length_take,jT];omega
   have hwj:IntKind.i64.wrap ((j:Int)+1)=((j+1:Nat):Int):=by rw[aO (by omega) (by omega)];omega
   rw[hbad] at NI;by_cases hj0:j=0
   .have hA:jJ sf st l j=.v (.slice none 0 0):=by simp[jJ,hj0]
    have hH:jI sf st l j=[]:=by simp[jI,hj0]
    rw[hA,hH,show u6 sf st l j=.v (.slice none 0 0) by simp[u6,hj0]]
    repeat' first|simp -dsimp only[go_sem,ht,e1c,cC]|apply Br.mk<;>intro h<;>try simp -dsimp only[h]|refine aC ?_|fail
    refine aN.at dM (X:={zz:Nat×(Unit) // zz.1<=1∧zz.1=0}) (λzz=>[(10,.loc (.t 10 0) 0 zz.1.1),(42,.junk),(11,.v (.int .i64 zz.1.1))]) (λzz=>[(.t 10 0,.arr 1 (E cI ([(gT sf st l[j]).1].take zz.1.1)) false)]) (λzz=>1-zz.1.1) ⟨(0,()),by omega,rfl⟩ ?_ ?_
    .simp[Vs.LeL,Vs.look,Vs.aB,Vs.aR,Vs.aK,Vs.hset,Vs.aL,Vs.E,cI]
    .rintro⟨⟨i,_⟩,hi,hg⟩;dsimp only at hi hg;simp -dsimp only[go_sem,cC];refine Br.mk (λhc=>?_) λhc=>?_
     .have hlt:i<1:=Dq;have hw:=aH hlt (by omega);obtain rfl:i=0:=by omega
      repeat' first|simp -dsimp only[go_sem,gj,e1c,ht,cC,hw]|apply Br.mk<;>intro h<;>try simp -dsimp only[h]|refine aD.c (by first|exact PC|exact NI) ?_|refine aC ?_|fail
      all_goals first|omega|(exact⟨_,_,rfl,rfl⟩)|(rw[hbad];exact⟨_,_,rfl,rfl⟩)
     .have hge:i=1:=by
       have:¬i<1:=Dq;omega
      subst hge;simp -dsimp only[go_sem,cC];omega
   .have hA:jJ sf st l j=.loc (.t 84 0) 0 j:=by simp[jJ,hj0]
    have hH:jI sf st l j=[(.t 84 0,.arr 1 (E cRw ((lM sf st l).take j)) false)]:=by simp[jI,hj0]
    rw[hA,hH,show u6 sf st l j=.sl 1 (E cRw ((lM sf st l).take j)) by simp[u6,hj0]];have htk:(E cRw ((lM sf st l).take j)).take j=E cRw ((lM sf st l).take j):=List.take_of_length_le (by omega)
    repeat' first|simp -dsimp only[go_sem,ht,e1c,cC]|apply Br.mk<;>intro h<;>try simp -dsimp only[h]|refine aC ?_|fail
    refine aN.at dM (X:={zz:Nat×(Unit) // zz.1<=1∧zz.1=0}) (λzz=>[(10,.loc (.t 10 0) 0 zz.1.1),(42,.junk),(11,.v (.int .i64 zz.1.1))]) (λzz=>[(.t 10 0,.arr 1 (E cI ([(gT sf st l[j]).1].take zz.1.1)) false)]) (λzz=>1-zz.1.1) ⟨(0,()),by omega,rfl⟩ ?_ ?_
    .simp[Vs.LeL,Vs.look,Vs.aB,Vs.aR,Vs.aK,Vs.hset,Vs.aL,Vs.E,cI]
    .rintro⟨⟨i,_⟩,hi,hg⟩;dsimp only at hi hg;simp -dsimp only[go_sem,cC];refine Br.mk (λhc=>?_) λhc=>?_
     .have hlt:i<1:=Dq;have hw:=aH hlt (by omega);obtain rfl:i=0:=by omega
      repeat' first|simp -dsimp only[go_sem,gj,e1c,ht,htk,cC,hw]|apply Br.mk<;>intro h<;>try simp -dsimp only[h]|refine aD.c (by first|exact PC|exact NI) ?_|refine aC ?_|fail
      all_goals first|omega|(exact⟨_,_,rfl,rfl⟩)|(rw[hbad];exact⟨_,_,rfl,rfl⟩)
     .have hge:i=1:=by
       have:¬i<1:=Dq;omega
      subst hge;simp -dsimp only[go_sem,cC];omega
attribute [local go_sem] Int.reduceBEq Int.reduceBNe aI List.replicate_succ List.replicate_zero List.flatten_cons List.flatten_nil List.cons_append List.nil_append List.set_cons_zero List.set_cons_succ List.length_cons List.length_nil List.length_set List.getD_cons_zero in
theorem aB6:Fz F.uR [.sl 1 (E cC l),.agg (cFd fr to),.agg (cFd sf st)] (.tup [wV fr to sf st l,.v (.int .i64 (if nG fr to sf st l then 0 else 8))]):=by
 cases ha:bP fr to l
 .have RD:=aGZ l fr to sf st hk hd hf hn ha;have hb:nG fr to sf st l=false:=by simp[nG,ha]
  rw[show wV fr to sf st l=.v (.slice none 0 0) by simp[wV,hb],hb];refine fn0 Cd.s_l15Sums_k λX=>?_
  repeat' first|simp -dsimp only[go_sem,cC,cFd,cTt]|apply Br.mk<;>intro h<;>try simp -dsimp only[h]|refine aD.c (by first|exact RD) ?_|refine aC ?_|fail
  all_goals first|exact⟨_,_,rfl,rfl⟩
 cases hN:z8 sf st l
 .obtain⟨v,RD⟩:=aFM l fr to sf st hk hd hf hn ha hN;have hb:nG fr to sf st l=false:=by simp[nG,hN]
  rw[show wV fr to sf st l=.v (.slice none 0 0) by simp[wV,hb],hb];refine fn0 Cd.s_l15Sums_k λX=>?_
  repeat' first|simp -dsimp only[go_sem,cC,cFd,cTt]|apply Br.mk<;>intro h<;>try simp -dsimp only[h]|refine aD.c (by first|exact RD) ?_|refine aC ?_|fail
  all_goals first|exact⟨_,_,rfl,rfl⟩
 have RD:=aGY l fr to sf st hk hd hf hn ha hN;have hb:nG fr to sf st l=true:=by simp[nG,hN,ha]
 rw[show wV fr to sf st l=.sl 2 (E cTt (oH fr to sf st l)) by simp[wV,hb],hb];have h40:=kM hd;have hin:=vQ (fr:=fr) (to:=to) (l:=l) l.length;have hup:=aAM (fr:=fr) (to:=to) (l:=l) l.length;have hgl:=jG fr to l l.length
 have htl:oH fr to sf st l=(List.range (bI fr to l l.length).length).map (λi=>(txt (fH fr to ((fF l (bI fr to l l.length) i).getD 0 [])),jH sf st (fF l (bI fr to l l.length) i))):=by
  unfold oH aCU;rw[List.map_map];rfl
 rw[htl];have hkl:(bK fr to l).length=l.length:=by unfold bK;simp
 have hkg:∀i,i<l.length->(E cSt (bK fr to l)).getD i []=[.v (.string (txt (fH fr to (l.getD i []))))]:=λi hi=>by
  rw[aQ (by omega)];simp[cSt,bK,List.getD,hi]
 generalize bI fr to l l.length=o at *
 refine fn0 Cd.s_l15Sums_k λX=>?_
 repeat' first|simp -dsimp only[go_sem,cC,cFd,cTt]|apply Br.mk<;>intro h<;>try simp -dsimp only[h]|refine aD.c (by first|exact RD) ?_|refine aC ?_|fail
 refine aN.at dM (X:={zz:Nat×(Unit) // zz.1<=o.length∧True}) (λzz=>[(10,.loc (.t 10 0) 0 zz.1.1),(11,.v (.int .i64 zz.1.1))]) (λzz=>[(.t 10 0,.arr 2 (E cTt ((List.range zz.1.1).map λi=>(txt (fH fr to ((fF l o i).getD 0 [])),jH sf st (fF l o i)))) false)]) (λzz=>o.length-zz.1.1) ⟨(0,()),by omega,trivial⟩ ?_ ?_
 .simp[Vs.LeL,Vs.look,Vs.aB,Vs.aR,Vs.aK,Vs.hset,Vs.aL,Vs.E]
 .rintro⟨⟨i,_⟩,hi,hg⟩;dsimp only at hi hg;simp -dsimp only[go_sem,cC,cFd,cTt];refine Br.mk (λhc=>?_) λhc=>?_
  .have hlt:i<o.length:=Dq;have hw:=aH hlt (by omega)
   obtain ⟨a,e,hae,hel,ga,hga,hge2,hend⟩:∃a e:Nat,a<e∧e<=l.length∧o[i]=(a:Int)∧(o.getD i 0).toNat=a∧(if i+1<o.length then(o.getD (i+1) 0).toNat else l.length)=e∧(if i+1<o.length then o.getD (i+1) 0 else((bK fr to l).length:Int))=(e:Int):=by
    have h0:=hin _ (List.getElem_mem hlt);have e0:o.getD i 0=o[i]:=by simp[List.getD,hlt]
    by_cases h1:i+1<o.length
    .have h2:=hin _ (List.getElem_mem h1);have h3:o[i]<o[i+1]:=List.pairwise_iff_getElem.1 hup i (i+1) hlt h1 (by omega);have e1:o.getD (i+1) 0=o[i+1]:=by simp[List.getD,h1]
     refine⟨o[i].toNat,o[i+1].toNat,by omega,by omega,by omega,by rw[e0],by rw[if_pos h1,e1],by rw[if_pos h1,e1];omega⟩
    .refine⟨o[i].toNat,l.length,by omega,by omega,by omega,by rw[e0],by rw[if_neg h1],by rw[if_neg h1,hkl]⟩
   have hgat:fF l o i=(l.take e).drop a:=by unfold fF;rw[hge2,hga]
   have hg0:((l.take e).drop a).getD 0 []=l.getD a []:=by
    simp only[List.getD];rw[List.getElem?_drop,List.getElem?_take,if_pos (by omega),Nat.add_zero]
   have gi:(E cI o).getD i []=[.v (.int .i64 (a:Int))]:=by rw[bY hlt,ga]
   have gk:=hkg a (by omega);have EN:=r_end (u6 sf st l l.length) o (bK fr to l) i hlt (by omega);rw[hend] at EN
   have hnv:u6 sf st l l.length=.sl 1 (E cRw (lM sf st l)):=by
    unfold u6;rw[if_neg (by omega),List.take_of_length_le (by rw[jT];omega)]
   have SM:=aNd (.sl 1 (E cSt (bK fr to l))) (.sl 1 (E cI o)) (lM sf st l) a e (by omega) (by rw[jT];exact hel) (by rw[jT];omega)
   have hsm:wW (((lM sf st l).take e).drop a)=jH sf st ((l.take e).drop a):=by
    rw[←aJM];congr 1;simp[lM,List.map_take,List.map_drop]
   rw[hsm] at SM;rw[hnv] at EN⊢;have e1s:(E cI [jH sf st ((l.take e).drop a)]).getD 0 []=[.v (.int .i64 (jH sf st ((l.take e).drop a)))]:=rfl;have e1l:(E cI [jH sf st ((l.take e).drop a)]).length=1:=rfl
   have hap:E cTt ((List.range i).map λi=>(txt (fH fr to ((fF l o i).getD 0 [])),jH sf st (fF l o i)))++[[.v (.string (txt (fH fr to (l.getD a [])))),.v (.int .i64 (jH sf st ((l.take e).drop a)))]]=E cTt ((List.range (i+1)).map λi=>(txt (fH fr to ((fF l o i).getD 0 [])),jH sf st (fF l o i))):=by
    rw[List.range_succ,List.map_append,aV];simp only[List.map_cons,List.map_nil,hgat,hg0];rfl
   have hal:(E cTt ((List.range i).map λi=>(txt (fH fr to ((fF l o i).getD 0 [])),jH sf st (fF l o i)))).length=i:=by rw[aI];simp
   have hta:((a:Nat):Int).toNat=a:=by omega
   generalize jH sf st ((l.take e).drop a)=sw at *
   generalize txt (fH fr to (l.getD a []))=nm at *
   repeat' first|simp -dsimp only[go_sem,gi,gk,hw,hap,hal,hta,e1s,e1l,hkl,cC,cFd]|apply Br.mk<;>intro h<;>try simp -dsimp only[h]|refine aD.c (by first|exact EN|exact SM) ?_|refine aC ?_|fail
   all_goals first|omega|(exact nx (i+1,()) trivial (h2:=by simp[Vs.LeL,Vs.look,Vs.aB,Vs.aR,Vs.aK,Vs.hset,Vs.aL,hap,hnv,List.range_succ,Vs.rnL,Vs.rn,Vs.nmF,Vs.scr,Vs.AV.has]))
  .have hge:i=o.length:=by
    have:¬i<o.length:=Dq;omega
   subst hge;simp -dsimp only[go_sem,cC,cFd,cTt];have htk:(E cTt ((List.range o.length).map λi=>(txt (fH fr to ((fF l o i).getD 0 [])),jH sf st (fF l o i)))).take o.length=E cTt ((List.range o.length).map λi=>(txt (fH fr to ((fF l o i).getD 0 [])),jH sf st (fF l o i))):=List.take_of_length_le (by rw[aI];simp)
   first|(rw[htk];exact⟨⟨_,_,rfl,rfl⟩,λh=>h rfl⟩)
end
end
section
variable [Vs.Envs]
attribute [local irreducible] Vs.Fn pun cmT zR iH kS aY chOK areCh chTo chAt l03 chB rk cd3 chI stp stpTo
theorem aJY {fr to:Int}{s:ByteArray}{l:List (List Int)} (h:kS fr to s l=0):bA l=true∧dR fr to (bF l)=true∧s.size=to.toNat-fr.toNat∧areCh s=true∧bP fr to l=true:=by
 obtain⟨hd,hf,J,H,F⟩:=aHL h;have I:=hf;simp only[dR,Bool.and_eq_true,decide_eq_true_eq] at I;have L:((s.size:Int))=W (to-fr):=by simpa using J
 have Y:bF l<=1048576:=by
  have O:=kM hd;unfold bF;split
  .omega
  .rename_i Z;have U:l.getD 0 []∈l:=by rw[show l.getD 0 []=l[0]'(by omega) by simp[List.getD,(by omega:0<l.length)]];exact List.getElem_mem _
   have:=(eF hd hf _ U).2.2.2;omega
 rw[show W (to-fr)=to-fr from aO (by omega) (by omega)] at L;exact⟨hd,hf,by omega,H,F⟩
attribute [local go_sem] Int.reduceBEq Int.reduceBNe cP List.replicate_succ List.replicate_zero List.flatten_cons List.flatten_nil List.cons_append List.nil_append List.set_cons_zero List.set_cons_succ List.length_cons List.length_nil List.length_set in
theorem uN (l:List (List Int)) (fr to:Int) (s:ByteArray) (hk:bJ l) (hz:s.size<=1048576):Fz F.kT [.sl 1 (E cC l),.agg (cFd fr to),.v (.string s)] (.tup [mF fr to s l,.v (.int .i64 (kS fr to s l))]):=by
 have AK:=aNq l fr to s hk hz;by_cases h0:kS fr to s l=0
 .obtain⟨hd,hf,hsz,hch,hall⟩:=aJY h0;have ho:=eF hd hf;have h40:=kM hd;rw[show mF fr to s l=.sl 1 (E cC (flt (iH fr to s) l)) by simp[mF,h0],h0];rw[show aJm fr to s l=.sl 1 (E cSt (bK fr to l)) by simp[aJm,h0],h0] at AK;have hkl:=vI fr to l;refine fn0 Cd.s_SelectEqual_k λX=>?_
  repeat' first|simp -dsimp only[go_sem,cC,cFd,hkl,aI]|apply Br.mk<;>intro h<;>try simp -dsimp only[h]|refine aD.c (by first|exact AK) ?_|refine aC ?_|fail
  refine aN.at dM (X:={zz:Nat×(Unit) // zz.1<=l.length∧True}) (λzz=>[(10,.loc (.t 10 0) 0 (flt (iH fr to s) (l.take zz.1.1)).length),(11,.v (.int .i64 zz.1.1))]) (λzz=>[(.t 10 0,.arr 1 (E cC (flt (iH fr to s) (l.take zz.1.1))) false)]) (λzz=>l.length-zz.1.1) ⟨(0,()),by omega,trivial⟩ ?_ ?_
  .simp[Vs.LeL,Vs.look,Vs.aB,Vs.aR,Vs.aK,Vs.hset,Vs.aL,Vs.E,flt]
  .rintro⟨⟨i,_⟩,hi,hg⟩;dsimp only at hi hg;simp -dsimp only[go_sem,cC,cFd,hkl,aI];refine Br.mk (λhc=>?_) λhc=>?_
   .have hlt:i<l.length:=Dq;have hw:=aH hlt (by omega);have hc:=ho _ (List.getElem_mem hlt);have hko:=aL9 hc (List.all_eq_true.1 hall _ (List.getElem_mem hlt)) hsz hch;have hm:(E cSt (bK fr to l)).getD i []=[.v (.string (txt (fH fr to l[i])))]:=by rw[aQ (by omega)];simp[bK,cSt]
    have hm2:(E cC l).getD i []=[.sl 1 (E cI l[i])]:=aQ hlt;have hfs:=xZ (q:=iH fr to s) hlt;have hfl:=yZ (iH fr to s) (l.take i);have ht:(l.take i).length=i:=by simp;omega
    have NC:=xQ l[i] (hk.2 _ (List.getElem_mem hlt));have hE:(E cC (flt (iH fr to s) (l.take i))).length=(flt (iH fr to s) (l.take i)).length:=aI ..
    cases hq:iH fr to s l[i]
    .rw[hq] at hfs hko;have hap:E cC (flt (iH fr to s) (l.take i))++[[.sl 1 (E cI l[i])]]=E cC (flt (iH fr to s) (l.take (i+1))):=by rw[hfs,aV];rfl
     have hln:(flt (iH fr to s) (l.take (i+1))).length=(flt (iH fr to s) (l.take i)).length+1:=by rw[hfs];simp
     simp -dsimp only[go_sem,hm,hm2,hw,hko,cC,cFd]
     repeat' first|simp -dsimp only[go_sem,hm,hm2,hw,hko,hap,hE,cC,cFd]|apply Br.mk<;>intro h<;>try simp -dsimp only[h]|refine aD.c (by first|exact NC) ?_|refine aC ?_|fail
     all_goals first|omega|(exact nx (i+1,()) trivial (h2:=by simp[Vs.LeL,Vs.look,Vs.aB,Vs.aR,Vs.aK,Vs.hset,Vs.aL,hln,Vs.rnL,Vs.rn,Vs.nmF,Vs.scr,Vs.AV.has]))
    .rw[hq] at hfs hko;have hsame:flt (iH fr to s) (l.take (i+1))=flt (iH fr to s) (l.take i):=by rw[hfs];simp
     repeat' first|simp -dsimp only[go_sem,hm,hm2,hw,hko,cC,cFd]|apply Br.mk<;>intro h<;>try simp -dsimp only[h]|refine aC ?_|fail
     all_goals first|omega|(exact nx (i+1,()) trivial (h2:=by simp[Vs.LeL,Vs.look,Vs.aB,Vs.aR,Vs.aK,Vs.hset,Vs.aL,hsame,Vs.rnL,Vs.rn,Vs.nmF,Vs.scr,Vs.AV.has]))
   .have hge:i=l.length:=by
     have:¬i<l.length:=Dq;omega
    subst hge;simp -dsimp only[go_sem,cC,cFd,hkl,aI]
    have htk:(E cC (flt (iH fr to s) (l.take l.length))).take (flt (iH fr to s) (l.take l.length)).length=E cC (flt (iH fr to s) l):=by
     rw[List.take_length];exact List.take_of_length_le (by rw[aI];exact Nat.le_refl _)
    first|(rw[htk];exact⟨⟨_,_,rfl,rfl⟩,λh=>h rfl⟩)|(rw[List.take_length];exact⟨⟨_,_,rfl,rfl⟩,λh=>h rfl⟩)
 .have e0:(kS fr to s l != 0)=true:=by simp[h0]
  rw[show mF fr to s l=.v (.slice none 0 0) by simp[mF,h0]];rw[show aJm fr to s l=.v (.slice none 0 0) by simp[aJm,h0]] at AK;generalize kS fr to s l=c at *
  refine fn0 Cd.s_SelectEqual_k λX=>?_
  repeat' first|simp -dsimp only[go_sem,cC,cFd,e0]|apply Br.mk<;>intro h<;>try simp -dsimp only[h]|refine aD.c (by first|exact AK) ?_|refine aC ?_|fail
  all_goals first|exact⟨_,_,rfl,rfl⟩
end
end Go.Proofs.YtmiiohemehacjaaGreatDoor
