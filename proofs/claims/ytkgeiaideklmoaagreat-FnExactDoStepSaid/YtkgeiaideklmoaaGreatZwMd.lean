/- EvalSpec: the reference's way. -/
import Derived.Test.YtkgeiaideklmoaaGreatZwVi
import Derived.Test.YtkgeiaideklmoaaGreatZwVg
import Derived.Test.YtkgeiaideklmoaaGreatZwSp
set_option linter.all false
set_option maxHeartbeats 8000000
namespace Go.Proofs.YtkgeiaideklmoaaGreat
open Go.Vs
section
variable [Vs.Envs]
attribute [local irreducible] Vs.Fn aU lJ aZ wM bR fJ bL aP bM bP l03 chB rk cd3 chI stp aQ
theorem aDN {α:Type}{p:α->Bool}:∀{l:List α},l.all p=false->∃m,∃h:m<l.length,p l[m]=false∧∀j,(F:j<l.length)->j<m->p l[j]=true
 | [],h=>by simp at h
 | x::r,h=>by
  cases hx:p x
  .exact⟨0,by simp,by simpa using hx,λj _ F=>by omega⟩
  .rw[BJ,hx,CW] at h;obtain⟨m,J,H,h2⟩:=aDN h;refine⟨m+1,by simpa using J,by simpa using H,λj F I=>?_⟩;cases j with
   |zero=>simpa using hx
   |succ j=>simpa using h2 j (by simpa using F) (by omega)
section
variable (l:List (List Int)) (fr to sf st:Int) (hk:aY l) (hd:bE l=true) (hf:dX fr to (bJ l)=true) (hn:zA sf st (bJ l)=true)
include hk hd hf hn
attribute [local go_sem] Int.reduceBEq Int.reduceBNe cFd aH Af Ag Ao Aq Ae Aj Ad Al Ac Ai Ap Ar in
theorem aFw (ha:bU fr to l=true) (hN:uF sf st l=false):∃v,Fz F.yF [.ro [.v (.int .i64 fr),.v (.int .i64 to),.sl 2 [[.v (.int .i64 sf),.v (.int .i64 st)]],.v (.bool false)],.sl 1 (E cC l)] (.tup [.ro v,.v (.int .i64 8)]):=by
 obtain⟨m,hm,hbad,hok0⟩:=aDN hN;refine⟨[.v (.slice none 0 0),uS sf st l m,.v (.slice none 0 0)],?_⟩;have DK:=dJ l hk.2 hk.1;rw[hd] at DK;have WD:=eY l;have OKS:=aGG fr to sf st (bJ l) (aD3 l fr to sf st hk hd hf hn) hf hn;have KS:=jR l fr to hk.2 hk.1;have ho:=dE hd hf;have h40:=iZ hd;have hc:aZ fr to l=0:=by simp only[aZ,hd,hf,ha];rfl
 rw[show nN fr to l=.sl 1 (E cSt (bR fr to l)) by simp[nN,hc],hc] at KS;have hp:∀c,c∈l->okP sf st c:=aEm hd hn;have e1c:∀x:Int,E cI [x]=[[.v (.int .i64 x)]]:=λ_=>rfl;have hok:∀j,(h:j<l.length)->j<m->(lJ sf st l[j]).2=true:=hok0;refine fn0 CdV.l13Read_k λX=>?_
 repeat' first|simp -dsimp only[go_sem,cC]|apply Br.mk<;>intro h<;>try simp -dsimp only[h]|refine aB.c (by first|exact DK|exact WD|exact OKS|exact KS) ?_|refine aC ?_|fail
 refine aM.at dM (X:={j:Nat // j<=m}) (λj=>[(9,.v (.int .i64 (j.1:Nat)))]) (λj=>(.t 15 0,.var [.v (.slice none 0 0),jQ sf st l j.1,.v (.slice none 0 0)] false)::jP sf st l j.1) (λj=>m-j.1) ⟨0,by omega⟩ ?_ ?_
 .simp[Vs.LeL,Vs.look,aA,aS,aJ,Vs.hset,aK,jQ,jP]
 .rintro⟨j,hj⟩
  try dsimp only at hj
  by_cases hjm:j<m
  .have hlt:j<l.length:=by omega
   have ht:decide ((j:Int)<(l.length:Int))=true:=A9 (by omega);have gj:(E cC l).getD j []=[.sl 1 (E cI l[j])]:=aN hlt;have PC:=aJY (hp _ (Aa hlt));have NI:=zS (hp _ (Aa hlt));have hrow:=aCy (sf:=sf) (st:=st) hlt;have hrl:(E cRw ((mD sf st l).take j)).length=j:=by rw[aH,BM,jY];omega
   have hrl2:((mD sf st l).take j).length=j:=by rw[BM,jY];omega
   have hwj:IntKind.i64.wrap ((j:Int)+1)=((j+1:Nat):Int):=by rw[aV (by omega) (by omega)];omega
   rw[hok j hlt hjm] at NI;by_cases hj0:j=0
   .have hA:jQ sf st l j=.v (.slice none 0 0):=by simp[jQ,hj0]
    have hH:jP sf st l j=[]:=by simp[jP,hj0]
    have hr0:E cRw ((mD sf st l).take j)=[]:=by rw[hj0];rfl
    have hrow0:[[.sl 1 [[.v (.int .i64 (lJ sf st l[j]).1)]]]]=E cRw ((mD sf st l).take (j+1)):=by rw[←hrow,hr0];rfl
    rw[hA,hH]
    repeat' first|simp -dsimp only[go_sem,ht,e1c,cC]|apply Br.mk<;>intro h<;>try simp -dsimp only[h]|refine aC ?_|fail
    refine aM.at dM (X:={zz:Nat×(Unit) // zz.1<=1∧True}) (λzz=>[(10,.loc (.t 10 0) 0 zz.1.1),(42,.junk),(11,.v (.int .i64 zz.1.1))]) (λzz=>[(.t 10 0,.arr 1 (E cI ([(lJ sf st l[j]).1].take zz.1.1)) false)]) (λzz=>1-zz.1.1) ⟨(0,()),by omega,trivial⟩ ?_ ?_
    .simp[Vs.LeL,Vs.look,aA,aS,aJ,Vs.hset,aK,Vs.E,cI]
    .rintro⟨⟨i,_⟩,hi,hg⟩;dsimp only at hi hg;simp -dsimp only[go_sem,cC];refine Br.mk (λhc=>?_) λhc=>?_
     .have hlt:i<1:=Dq;have hw:=aG hlt (by omega);obtain rfl:i=0:=by omega
      repeat' first|simp -dsimp only[go_sem,gj,e1c,cC,hw]|apply Br.mk<;>intro h<;>try simp -dsimp only[h]|refine aB.c (by first|exact PC|exact NI) ?_|refine aC ?_|fail
      all_goals first|omega|(exact nx (1,()) trivial (h2:=by simp[Vs.LeL,Vs.look,aA,aS,aJ,Vs.hset,aK,Vs.E,cI]))
     .have hge:i=1:=by
       have:¬i<1:=Dq;omega
      subst hge;simp -dsimp only[go_sem,cC]
      repeat' first|simp -dsimp only[go_sem,hwj,e1c,hrow,hrl,hrl2,ht,hrow0,cC]|apply Br.mk<;>intro h<;>try simp -dsimp only[h]|refine And.intro ?_ (λh=>absurd rfl h)|refine aC ?_|fail
      first|(exact⟨⟨j+1,by omega⟩,by simp[Vs.LeL,Vs.look,aA,aS,aJ,Vs.hset,aK,jQ,jP,hrow,Vs.E,hj0],by simp only;omega⟩)
   .have hA:jQ sf st l j=.loc (.t 84 0) 0 j:=by simp[jQ,hj0]
    have hH:jP sf st l j=[(.t 84 0,.arr 1 (E cRw ((mD sf st l).take j)) false)]:=by simp[jP,hj0]
    rw[hA,hH]
    repeat' first|simp -dsimp only[go_sem,ht,e1c,cC]|apply Br.mk<;>intro h<;>try simp -dsimp only[h]|refine aC ?_|fail
    refine aM.at dM (X:={zz:Nat×(Unit) // zz.1<=1∧True}) (λzz=>[(10,.loc (.t 10 0) 0 zz.1.1),(42,.junk),(11,.v (.int .i64 zz.1.1))]) (λzz=>[(.t 10 0,.arr 1 (E cI ([(lJ sf st l[j]).1].take zz.1.1)) false)]) (λzz=>1-zz.1.1) ⟨(0,()),by omega,trivial⟩ ?_ ?_
    .simp[Vs.LeL,Vs.look,aA,aS,aJ,Vs.hset,aK,Vs.E,cI]
    .rintro⟨⟨i,_⟩,hi,hg⟩;dsimp only at hi hg;simp -dsimp only[go_sem,cC];refine Br.mk (λhc=>?_) λhc=>?_
     .have hlt:i<1:=Dq;have hw:=aG hlt (by omega);obtain rfl:i=0:=by omega
      repeat' first|simp -dsimp only[go_sem,gj,e1c,cC,hw]|apply Br.mk<;>intro h<;>try simp -dsimp only[h]|refine aB.c (by first|exact PC|exact NI) ?_|refine aC ?_|fail
      all_goals first|omega|(exact nx (1,()) trivial (h2:=by simp[Vs.LeL,Vs.look,aA,aS,aJ,Vs.hset,aK,Vs.E,cI]))
     .have hge:i=1:=by
       have:¬i<1:=Dq;omega
      subst hge;simp -dsimp only[go_sem,cC]
      repeat' first|simp -dsimp only[go_sem,hwj,e1c,hrow,hrl,hrl2,ht,cC]|apply Br.mk<;>intro h<;>try simp -dsimp only[h]|refine And.intro ?_ (λh=>absurd rfl h)|refine aC ?_|fail
      first|(exact⟨⟨j+1,by omega⟩,by simp[Vs.LeL,Vs.look,aA,aS,aJ,Vs.hset,aK,jQ,jP,hrow,Vs.E],by simp only;omega⟩)
  .obtain rfl:j=m:=by omega
   have hlt:j<l.length:=hm;have ht:decide ((j:Int)<(l.length:Int))=true:=A9 (by omega);have gj:(E cC l).getD j []=[.sl 1 (E cI l[j])]:=aN hlt;have PC:=aJY (hp _ (Aa hlt));have NI:=zS (hp _ (Aa hlt));have hrow:=aCy (sf:=sf) (st:=st) hlt;have hrl:(E cRw ((mD sf st l).take j)).length=j:=by rw[aH,BM,jY];omega
   have hrl2:((mD sf st l).take j).length=j:=by rw[BM,jY];omega
   have hwj:IntKind.i64.wrap ((j:Int)+1)=((j+1:Nat):Int):=by rw[aV (by omega) (by omega)];omega
   rw[hbad] at NI;by_cases hj0:j=0
   .have hA:jQ sf st l j=.v (.slice none 0 0):=by simp[jQ,hj0]
    have hH:jP sf st l j=[]:=by simp[jP,hj0]
    rw[hA,hH,show uS sf st l j=.v (.slice none 0 0) by simp[uS,hj0]]
    repeat' first|simp -dsimp only[go_sem,ht,e1c,cC]|apply Br.mk<;>intro h<;>try simp -dsimp only[h]|refine aC ?_|fail
    refine aM.at dM (X:={zz:Nat×(Unit) // zz.1<=1∧zz.1=0}) (λzz=>[(10,.loc (.t 10 0) 0 zz.1.1),(42,.junk),(11,.v (.int .i64 zz.1.1))]) (λzz=>[(.t 10 0,.arr 1 (E cI ([(lJ sf st l[j]).1].take zz.1.1)) false)]) (λzz=>1-zz.1.1) ⟨(0,()),by omega,rfl⟩ ?_ ?_
    .simp[Vs.LeL,Vs.look,aA,aS,aJ,Vs.hset,aK,Vs.E,cI]
    .rintro⟨⟨i,_⟩,hi,hg⟩;dsimp only at hi hg;simp -dsimp only[go_sem,cC];refine Br.mk (λhc=>?_) λhc=>?_
     .have hlt:i<1:=Dq;have hw:=aG hlt (by omega);obtain rfl:i=0:=by omega
      repeat' first|simp -dsimp only[go_sem,gj,e1c,ht,cC,hw]|apply Br.mk<;>intro h<;>try simp -dsimp only[h]|refine aB.c (by first|exact PC|exact NI) ?_|refine aC ?_|fail
      all_goals first|omega|(exact⟨_,_,rfl,rfl⟩)|(rw[hbad];exact⟨_,_,rfl,rfl⟩)
     .have hge:i=1:=by
       have:¬i<1:=Dq;omega
      subst hge;simp -dsimp only[go_sem,cC];omega
   .have hA:jQ sf st l j=.loc (.t 84 0) 0 j:=by simp[jQ,hj0]
    have hH:jP sf st l j=[(.t 84 0,.arr 1 (E cRw ((mD sf st l).take j)) false)]:=by simp[jP,hj0]
    rw[hA,hH,show uS sf st l j=.sl 1 (E cRw ((mD sf st l).take j)) by simp[uS,hj0]];have htk:(E cRw ((mD sf st l).take j)).take j=E cRw ((mD sf st l).take j):=Ah (by omega)
    repeat' first|simp -dsimp only[go_sem,ht,e1c,cC]|apply Br.mk<;>intro h<;>try simp -dsimp only[h]|refine aC ?_|fail
    refine aM.at dM (X:={zz:Nat×(Unit) // zz.1<=1∧zz.1=0}) (λzz=>[(10,.loc (.t 10 0) 0 zz.1.1),(42,.junk),(11,.v (.int .i64 zz.1.1))]) (λzz=>[(.t 10 0,.arr 1 (E cI ([(lJ sf st l[j]).1].take zz.1.1)) false)]) (λzz=>1-zz.1.1) ⟨(0,()),by omega,rfl⟩ ?_ ?_
    .simp[Vs.LeL,Vs.look,aA,aS,aJ,Vs.hset,aK,Vs.E,cI]
    .rintro⟨⟨i,_⟩,hi,hg⟩;dsimp only at hi hg;simp -dsimp only[go_sem,cC];refine Br.mk (λhc=>?_) λhc=>?_
     .have hlt:i<1:=Dq;have hw:=aG hlt (by omega);obtain rfl:i=0:=by omega
      repeat' first|simp -dsimp only[go_sem,gj,e1c,ht,htk,cC,hw]|apply Br.mk<;>intro h<;>try simp -dsimp only[h]|refine aB.c (by first|exact PC|exact NI) ?_|refine aC ?_|fail
      all_goals first|omega|(exact⟨_,_,rfl,rfl⟩)|(rw[hbad];exact⟨_,_,rfl,rfl⟩)
     .have hge:i=1:=by
       have:¬i<1:=Dq;omega
      subst hge;simp -dsimp only[go_sem,cC];omega
attribute [local go_sem] Int.reduceBEq Int.reduceBNe aH Af Ag Ao Aq Ae Aj Ad Al Ac Ai Ap Ar in
theorem aB2:Fz F.uJ [.sl 1 (E cC l),.agg (cFd fr to),.agg (cFd sf st)] (.tup [wL fr to sf st l,.v (.int .i64 (if jS fr to sf st l then 0 else 8))]):=by
 cases ha:bU fr to l
 .have RD:=aGF l fr to sf st hk hd hf hn ha;have hb:jS fr to sf st l=false:=by simp[jS,ha]
  rw[show wL fr to sf st l=.v (.slice none 0 0) by simp[wL,hb],hb];refine fn0 Cd.s_l15Sums_k λX=>?_
  repeat' first|simp -dsimp only[go_sem,cC,cFd,cTt]|apply Br.mk<;>intro h<;>try simp -dsimp only[h]|refine aB.c (by first|exact RD) ?_|refine aC ?_|fail
  all_goals first|exact⟨_,_,rfl,rfl⟩
 cases hN:uF sf st l
 .obtain⟨v,RD⟩:=aFw l fr to sf st hk hd hf hn ha hN;have hb:jS fr to sf st l=false:=by simp[jS,hN]
  rw[show wL fr to sf st l=.v (.slice none 0 0) by simp[wL,hb],hb];refine fn0 Cd.s_l15Sums_k λX=>?_
  repeat' first|simp -dsimp only[go_sem,cC,cFd,cTt]|apply Br.mk<;>intro h<;>try simp -dsimp only[h]|refine aB.c (by first|exact RD) ?_|refine aC ?_|fail
  all_goals first|exact⟨_,_,rfl,rfl⟩
 have RD:=aGE l fr to sf st hk hd hf hn ha hN;have hb:jS fr to sf st l=true:=by simp[jS,hN,ha]
 rw[show wL fr to sf st l=.sl 2 (E cTt (kS fr to sf st l)) by simp[wL,hb],hb];have h40:=iZ hd;have hin:=vD (fr:=fr) (to:=to) (l:=l) l.length;have hup:=aAK (fr:=fr) (to:=to) (l:=l) l.length;have hgl:=iR fr to l l.length
 have htl:kS fr to sf st l=(List.range (aU fr to l l.length).length).map (λi=>(txt (fH fr to ((fG l (aU fr to l l.length) i).getD 0 [])),fJ sf st (fG l (aU fr to l l.length) i))):=by
  unfold kS aAL;rw[Cb];rfl
 rw[htl];have hkl:(bR fr to l).length=l.length:=by unfold bR;simp
 have hkg:∀i,i<l.length->(E cSt (bR fr to l)).getD i []=[.v (.string (txt (fH fr to (l.getD i []))))]:=λi hi=>by
  rw[aN (by omega)];simp[cSt,bR,List.getD,hi]
 generalize aU fr to l l.length=o at *
 refine fn0 Cd.s_l15Sums_k λX=>?_
 repeat' first|simp -dsimp only[go_sem,cC,cFd,cTt]|apply Br.mk<;>intro h<;>try simp -dsimp only[h]|refine aB.c (by first|exact RD) ?_|refine aC ?_|fail
 refine aM.at dM (X:={zz:Nat×(Unit) // zz.1<=o.length∧True}) (λzz=>[(10,.loc (.t 10 0) 0 zz.1.1),(11,.v (.int .i64 zz.1.1))]) (λzz=>[(.t 10 0,.arr 2 (E cTt ((List.range zz.1.1).map λi=>(txt (fH fr to ((fG l o i).getD 0 [])),fJ sf st (fG l o i)))) false)]) (λzz=>o.length-zz.1.1) ⟨(0,()),by omega,trivial⟩ ?_ ?_
 .simp[Vs.LeL,Vs.look,aA,aS,aJ,Vs.hset,aK,Vs.E]
 .rintro⟨⟨i,_⟩,hi,hg⟩;dsimp only at hi hg;simp -dsimp only[go_sem,cC,cFd,cTt];refine Br.mk (λhc=>?_) λhc=>?_
  .have hlt:i<o.length:=Dq;have hw:=aG hlt (by omega)
   obtain ⟨a,e,hae,hel,ga,hga,hge2,hend⟩:∃a e:Nat,a<e∧e<=l.length∧o[i]=(a:Int)∧(o.getD i 0).toNat=a∧(if i+1<o.length then(o.getD (i+1) 0).toNat else l.length)=e∧(if i+1<o.length then o.getD (i+1) 0 else((bR fr to l).length:Int))=(e:Int):=by
    have h0:=hin _ (Aa hlt);have e0:o.getD i 0=o[i]:=by simp[List.getD,hlt]
    by_cases h1:i+1<o.length
    .have h2:=hin _ (Aa h1);have h3:o[i]<o[i+1]:=Dg.1 hup i (i+1) hlt h1 (by omega);have e1:o.getD (i+1) 0=o[i+1]:=by simp[List.getD,h1]
     refine⟨o[i].toNat,o[i+1].toNat,by omega,by omega,by omega,by rw[e0],by rw[AP h1,e1],by rw[AP h1,e1];omega⟩
    .refine⟨o[i].toNat,l.length,by omega,by omega,by omega,by rw[e0],by rw[AC h1],by rw[AC h1,hkl]⟩
   have hgat:fG l o i=(l.take e).drop a:=by unfold fG;rw[hge2,hga]
   have hg0:((l.take e).drop a).getD 0 []=l.getD a []:=by
    simp only[List.getD];rw[Dp,List.getElem?_take,AP (by omega),Cu]
   have gi:(E cI o).getD i []=[.v (.int .i64 (a:Int))]:=by rw[dI hlt,ga]
   have gk:=hkg a (by omega);have EN:=r_end (uS sf st l l.length) o (bR fr to l) i hlt (by omega);rw[hend] at EN
   have hnv:uS sf st l l.length=.sl 1 (E cRw (mD sf st l)):=by
    unfold uS;rw[AC (by omega),Ah (by rw[jY];omega)]
   have SM:=aMZ (.sl 1 (E cSt (bR fr to l))) (.sl 1 (E cI o)) (mD sf st l) a e (by omega) (by rw[jY];exact hel) (by rw[jY];omega)
   have hsm:wM (((mD sf st l).take e).drop a)=fJ sf st ((l.take e).drop a):=by
    rw[←aJu];congr 1;simp[mD,CG,CJ]
   rw[hsm] at SM;rw[hnv] at EN⊢;have e1s:(E cI [fJ sf st ((l.take e).drop a)]).getD 0 []=[.v (.int .i64 (fJ sf st ((l.take e).drop a)))]:=rfl;have e1l:(E cI [fJ sf st ((l.take e).drop a)]).length=1:=rfl
   have hap:E cTt ((List.range i).map λi=>(txt (fH fr to ((fG l o i).getD 0 [])),fJ sf st (fG l o i)))++[[.v (.string (txt (fH fr to (l.getD a [])))),.v (.int .i64 (fJ sf st ((l.take e).drop a)))]]=E cTt ((List.range (i+1)).map λi=>(txt (fH fr to ((fG l o i).getD 0 [])),fJ sf st (fG l o i))):=by
    rw[Dj,Bu,bG];simp only[Bt,BI,hgat,hg0];rfl
   have hal:(E cTt ((List.range i).map λi=>(txt (fH fr to ((fG l o i).getD 0 [])),fJ sf st (fG l o i)))).length=i:=by rw[aH];simp
   have hta:((a:Nat):Int).toNat=a:=by omega
   generalize fJ sf st ((l.take e).drop a)=sw at *
   generalize txt (fH fr to (l.getD a []))=nm at *
   repeat' first|simp -dsimp only[go_sem,gi,gk,hw,hap,hal,hta,e1s,e1l,hkl,cC,cFd]|apply Br.mk<;>intro h<;>try simp -dsimp only[h]|refine aB.c (by first|exact EN|exact SM) ?_|refine aC ?_|fail
   all_goals first|omega|(exact nx (i+1,()) trivial (h2:=by simp[Vs.LeL,Vs.look,aA,aS,aJ,Vs.hset,aK,hap,hnv,Dj,Vs.rnL,Vs.rn,Vs.nmF,Vs.scr,Vs.AV.has]))
  .have hge:i=o.length:=by
    have:¬i<o.length:=Dq;omega
   subst hge;simp -dsimp only[go_sem,cC,cFd,cTt];have htk:(E cTt ((List.range o.length).map λi=>(txt (fH fr to ((fG l o i).getD 0 [])),fJ sf st (fG l o i)))).take o.length=E cTt ((List.range o.length).map λi=>(txt (fH fr to ((fG l o i).getD 0 [])),fJ sf st (fG l o i))):=Ah (by rw[aH];simp)
   first|(rw[htk];exact⟨⟨_,_,rfl,rfl⟩,λh=>h rfl⟩)
end
end
section
variable [Vs.Envs]
attribute [local irreducible] Vs.Fn pun cmT zR dH iN aZ bL aP bM bP l03 chB rk cd3 chI stp aQ
theorem aJI {fr to:Int}{s:ByteArray}{l:List (List Int)} (h:iN fr to s l=0):bE l=true∧dX fr to (bJ l)=true∧s.size=to.toNat-fr.toNat∧aP s=true∧bU fr to l=true:=by
 obtain⟨hd,hf,J,H,F⟩:=aEg h;have I:=hf;simp only[dX,Aw,Bb] at I;have L:((s.size:Int))=W (to-fr):=by simpa using J
 have Y:bJ l<=1048576:=by
  have O:=iZ hd;unfold bJ;split
  .omega
  .rename_i h0;have U:l.getD 0 []∈l:=by rw[show l.getD 0 []=l[0]'(by omega) by simp[List.getD,(by omega:0<l.length)]];exact Aa _
   have:=(dE hd hf _ U).2.2.2;omega
 rw[show W (to-fr)=to-fr from aV (by omega) (by omega)] at L;exact⟨hd,hf,by omega,H,F⟩
attribute [local go_sem] Int.reduceBEq Int.reduceBNe cP Af Ag Ao Aq Ae Aj Ad Al Ac Ai Ap in
theorem aA1 (l:List (List Int)) (fr to:Int) (s:ByteArray) (hk:aY l) (hz:s.size<=1048576):Fz F.lH [.sl 1 (E cC l),.agg (cFd fr to),.v (.string s)] (.tup [uB fr to s l,.v (.int .i64 (iN fr to s l))]):=by
 have AK:=aM8 l fr to s hk hz;by_cases h0:iN fr to s l=0
 .obtain⟨hd,hf,hsz,hch,hall⟩:=aJI h0;have ho:=dE hd hf;have h40:=iZ hd;rw[show uB fr to s l=.sl 1 (E cC (flt (dH fr to s) l)) by simp[uB,h0],h0];rw[show aI4 fr to s l=.sl 1 (E cSt (bR fr to l)) by simp[aI4,h0],h0] at AK;have hkl:=uV fr to l;refine fn0 Cd.s_SelectEqual_k λX=>?_
  repeat' first|simp -dsimp only[go_sem,cC,cFd,hkl,aH]|apply Br.mk<;>intro h<;>try simp -dsimp only[h]|refine aB.c (by first|exact AK) ?_|refine aC ?_|fail
  refine aM.at dM (X:={zz:Nat×(Unit) // zz.1<=l.length∧True}) (λzz=>[(10,.loc (.t 10 0) 0 (flt (dH fr to s) (l.take zz.1.1)).length),(11,.v (.int .i64 zz.1.1))]) (λzz=>[(.t 10 0,.arr 1 (E cC (flt (dH fr to s) (l.take zz.1.1))) false)]) (λzz=>l.length-zz.1.1) ⟨(0,()),by omega,trivial⟩ ?_ ?_
  .simp[Vs.LeL,Vs.look,aA,aS,aJ,Vs.hset,aK,Vs.E,flt]
  .rintro⟨⟨i,_⟩,hi,hg⟩;dsimp only at hi hg;simp -dsimp only[go_sem,cC,cFd,hkl,aH];refine Br.mk (λhc=>?_) λhc=>?_
   .have hlt:i<l.length:=Dq;have hw:=aG hlt (by omega);have hc:=ho _ (Aa hlt);have hko:=aLX hc (Az.1 hall _ (Aa hlt)) hsz hch;have hm:(E cSt (bR fr to l)).getD i []=[.v (.string (txt (fH fr to l[i])))]:=by rw[aN (by omega)];simp[bR,cSt]
    have hm2:(E cC l).getD i []=[.sl 1 (E cI l[i])]:=aN hlt;have hfs:=xS (q:=dH fr to s) hlt;have hfl:=yY (dH fr to s) (l.take i);have ht:(l.take i).length=i:=by simp;omega
    have NC:=xJ l[i] (hk.2 _ (Aa hlt));have hE:(E cC (flt (dH fr to s) (l.take i))).length=(flt (dH fr to s) (l.take i)).length:=aH ..
    cases hq:dH fr to s l[i]
    .rw[hq] at hfs hko;have hap:E cC (flt (dH fr to s) (l.take i))++[[.sl 1 (E cI l[i])]]=E cC (flt (dH fr to s) (l.take (i+1))):=by rw[hfs,bG];rfl
     have hln:(flt (dH fr to s) (l.take (i+1))).length=(flt (dH fr to s) (l.take i)).length+1:=by rw[hfs];simp
     simp -dsimp only[go_sem,hm,hm2,hw,hko,cC,cFd]
     repeat' first|simp -dsimp only[go_sem,hm,hm2,hw,hko,hap,hE,cC,cFd]|apply Br.mk<;>intro h<;>try simp -dsimp only[h]|refine aB.c (by first|exact NC) ?_|refine aC ?_|fail
     all_goals first|omega|(exact nx (i+1,()) trivial (h2:=by simp[Vs.LeL,Vs.look,aA,aS,aJ,Vs.hset,aK,hln,Vs.rnL,Vs.rn,Vs.nmF,Vs.scr,Vs.AV.has]))
    .rw[hq] at hfs hko;have hsame:flt (dH fr to s) (l.take (i+1))=flt (dH fr to s) (l.take i):=by rw[hfs];simp
     repeat' first|simp -dsimp only[go_sem,hm,hm2,hw,hko,cC,cFd]|apply Br.mk<;>intro h<;>try simp -dsimp only[h]|refine aC ?_|fail
     all_goals first|omega|(exact nx (i+1,()) trivial (h2:=by simp[Vs.LeL,Vs.look,aA,aS,aJ,Vs.hset,aK,hsame,Vs.rnL,Vs.rn,Vs.nmF,Vs.scr,Vs.AV.has]))
   .have hge:i=l.length:=by
     have:¬i<l.length:=Dq;omega
    subst hge;simp -dsimp only[go_sem,cC,cFd,hkl,aH]
    have htk:(E cC (flt (dH fr to s) (l.take l.length))).take (flt (dH fr to s) (l.take l.length)).length=E cC (flt (dH fr to s) l):=by
     rw[Bw];exact Ah (by rw[aH];exact Au _)
    first|(rw[htk];exact⟨⟨_,_,rfl,rfl⟩,λh=>h rfl⟩)|(rw[Bw];exact⟨⟨_,_,rfl,rfl⟩,λh=>h rfl⟩)
 .have e0:(iN fr to s l != 0)=true:=by simp[h0]
  rw[show uB fr to s l=.v (.slice none 0 0) by simp[uB,h0]];rw[show aI4 fr to s l=.v (.slice none 0 0) by simp[aI4,h0]] at AK;generalize iN fr to s l=c at *
  refine fn0 Cd.s_SelectEqual_k λX=>?_
  repeat' first|simp -dsimp only[go_sem,cC,cFd,e0]|apply Br.mk<;>intro h<;>try simp -dsimp only[h]|refine aB.c (by first|exact AK) ?_|refine aC ?_|fail
  all_goals first|exact⟨_,_,rfl,rfl⟩
end
section
variable [Vs.Envs]
attribute [local irreducible] Vs.Fn pun cmT zR dH iN aZ bL aP bM bP l03 chB rk cd3 chI stp aQ
end
end Go.Proofs.YtkgeiaideklmoaaGreat
