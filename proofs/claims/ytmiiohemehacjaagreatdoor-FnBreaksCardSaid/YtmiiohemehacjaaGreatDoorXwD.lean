/- Offices that are valid. -/
import Derived.Test.YtmiiohemehacjaaGreatDoorXwK
import Derived.Test.YtmiiohemehacjaaGreatDoorXuF
import Derived.Test.YtmiiohemehacjaaGreatDoorVtO
import Derived.Test.YtmiiohemehacjaaGreatDoorVsI
import Derived.Test.YtmiiohemehacjaaGreatDoorXuR
set_option linter.all false
set_option maxHeartbeats 8000000
namespace Go.Proofs.YtmiiohemehacjaaGreatDoor
open Go.Vs
section
variable [Vs.Envs]
attribute [local irreducible] Vs.Fn
def cFd (fr to:Int):List AV:=[.v (.int .i64 fr),.v (.int .i64 to)]
def bL (l:List (List Int)):Int:=if l.length=0 then 20 else((l.getD 0 []).length:Int)
theorem dG (l:List (List Int)):Fz F.iZ [.sl 1 (E cC l)] (.v (.int .i64 (bL l))):=by
 refine fn0 Cd.s_l07Width_k λX=>?_;simp -dsimp only[go_sem,cC];by_cases I:l.length=0
 .have u:((l.length:Int)==0)=true:=Bj.2 (by omega)
  repeat' first|simp -dsimp only[go_sem,u,cC]|apply Br.mk<;>intro h<;>try simp -dsimp only[h]|refine aC ?_|fail
  all_goals simp[bL,I]
 .have u:((l.length:Int)==0)=false:=Ap.2 (by omega);have G:0<l.length:=by omega
  have H:(E cC l).getD 0 []=[.sl 1 (E cI l[0])]:=aR G;have J:l.getD 0 []=l[0]:=by simp[List.getD,G]
  repeat' first|simp -dsimp only[go_sem,u,H,cC]|apply Br.mk<;>intro h<;>try simp -dsimp only[h]|refine aC ?_|fail
  all_goals simp_all [bL]
theorem eZ (l:List (List Int)):Fz F.eO [.sl 1 (E cC l)] (.v (.int .i64 (bL l))):=by
 refine fn0 Cd.i_deckColumns_k λX=>?_;simp -dsimp only[go_sem,cC];by_cases I:l.length=0
 .have u:((l.length:Int)==0)=true:=Bj.2 (by omega)
  repeat' first|simp -dsimp only[go_sem,u,cC]|apply Br.mk<;>intro h<;>try simp -dsimp only[h]|refine aA.c (by first|exact nW l[0]) ?_|refine aC ?_|fail
  all_goals simp[bL,I]
 .have u:((l.length:Int)==0)=false:=Ap.2 (by omega);have G:0<l.length:=by omega
  have H:(E cC l).getD 0 []=[.sl 1 (E cI l[0])]:=aR G;have J:l.getD 0 []=l[0]:=by simp[List.getD,G]
  repeat' first|simp -dsimp only[go_sem,u,H,cC]|apply Br.mk<;>intro h<;>try simp -dsimp only[h]|refine aA.c (by first|exact nW l[0]) ?_|refine aC ?_|fail
  all_goals simp_all [bL]
theorem xR (fr to w:Int):Fz F.oH [.agg (cFd fr to),.v (.int .i64 w)] (.v (.bool (kX fr to w))):=by
 refine fn0 Cd.s_l18Field_k λX=>?_
 repeat' first|simp -dsimp only[go_sem,cFd]|apply Br.mk<;>intro h<;>try simp -dsimp only[h]|refine aA.c (by first|exact dX fr to w) ?_|refine aC ?_|fail
 all_goals(simp_all [kX])
def dQ (fr to:Int) (c:List Int):Int×Bool:=uW ((c.take to.toNat).drop fr.toNat).dropLast (((c.take to.toNat).drop fr.toNat).getLastD 0)
def okP (fr to:Int) (c:List Int):Prop:=0<=fr∧fr<to∧to<=c.length∧to-fr<=12∧c.length<=20∧∀x,x∈c->0<=x∧x<=4095
theorem aCZ {fr to:Int}{c:List Int} (h:okP fr to c):∃u x,(c.take to.toNat).drop fr.toNat=u++[x]∧u.length+1<=12∧0<=x∧x<=4095∧dQ fr to c=uW u x:=by
 obtain⟨L,M,h2,O,U,I⟩:=h;have F:((c.take to.toNat).drop fr.toNat).length=to.toNat-fr.toNat:=by simp;omega
 have G:(c.take to.toNat).drop fr.toNat≠[]:=by intro e;rw[e] at F;simp at F;omega
 have J:=List.dropLast_concat_getLast G;have H:=I (((c.take to.toNat).drop fr.toNat).getLast G) (CQ (CU (List.getLast_mem G)));refine⟨_,_,J.symm,?_,H.1,H.2,?_⟩
 .rw[List.length_dropLast,F];omega
 .unfold dQ;rw[List.getLastD_eq_getLast?,List.getLast?_eq_some_getLast G];rfl
theorem aCn {fr to:Int}{c:List Int} (h:okP fr to c):-1000000000000<=(dQ fr to c).1∧(dQ fr to c).1<=1000000000000:=by
 obtain⟨u,x,_,G,_,_,F⟩:=aCZ h;rw[F];exact aLt u x G
theorem aBs {fr to:Int}{c:List Int} (h:okP fr to c):Fz F.mH [.agg (cC c),.agg (cFd fr to)] (.tup [.v (.int .i64 (dQ fr to c).1),.v (.bool (dQ fr to c).2)]):=by
 obtain⟨u,x,I,J,_,_,H⟩:=aCZ h;obtain⟨G,L,h2,M,O,U⟩:=h;rw[H];exact aJO c fr to u x G (by omega) h2 I J
theorem rV {fr to:Int}{c:List Int} (h:okP fr to c):Fz F.kE [.sl 1 (E cI ((c.take to.toNat).drop fr.toNat))] (.tup [.v (.int .i64 (dQ fr to c).1),.v (.bool (dQ fr to c).2)]):=by
 obtain⟨u,x,J,L,G,H,I⟩:=aCZ h;rw[I,J];exact aIF u x G H L
theorem aFp {fr to:Int}{c:List Int} (h:okP fr to c):Fz F.mM [.ro (cC c),.agg (cFd fr to)] (.sl 1 (E cI ((c.take to.toNat).drop fr.toNat))):=by
 obtain⟨u,G,h2,H,I,J⟩:=h;exact part c fr to u (by omega) h2
def uC (fr to:Int):List (List Int)->Int->Int->Option (Int×Int)
 | [],s,d=>some (s,d)
 |c::r,s,d=>if(dQ fr to c).2=true then uC fr to r (W (s+(dQ fr to c).1)) (W (d+(dsN (dQ fr to c).1.natAbs:Int))) else none
def bR (fr to:Int) (l:List (List Int)):Int×Int×Int:=
 match uC fr to l 0 0 with
 |some (s,d)=>(l.length,s,d)
 |none=>(0,0,0)
def cCt (x:Int×Int×Int):List AV:=[.v (.int .i64 x.1),.v (.int .i64 x.2.1),.v (.int .i64 x.2.2)]
def iU (fr to:Int) (l:List (List Int)):Bool:=(uC fr to l 0 0).isSome
end
section
variable [Vs.Tab 1 Vs.powP]
attribute [local irreducible] Vs.Fn
theorem uX (l:List (List Int)) (fr to:Int) (hl:l.length<=1048576) (hok:∀c,c∈l->okP fr to c):Fz F.sU [.sl 1 (E cC l),.agg (cFd fr to)] (.tup [.agg (cCt (bR fr to l)),.v (.bool (iU fr to l))]):=by
 refine fn0 Cd.s_l18Of_k λX=>?_;simp -dsimp only[go_sem,cC,cFd,cCt];refine aO.at dM (X:={zz:Nat×(Int×Int) // zz.1<=l.length∧uC fr to (l.drop zz.1) zz.2.1 zz.2.2=uC fr to l 0 0}) (λzz=>[(7,.v (.int .i64 zz.1.1))]) (λzz=>[(.t 6 0,.var [.v (.int .i64 l.length),.v (.int .i64 zz.1.2.1),.v (.int .i64 zz.1.2.2)] false)]) (λzz=>l.length-zz.1.1) ⟨(0,(0,0)),by omega,by simp⟩ ?_ ?_
 .exact le0
 .rintro⟨⟨i,a,b⟩,hi,hg⟩;dsimp only at hi hg;simp -dsimp only[go_sem];refine Br.mk (λhc=>?_) λhc=>?_
  .have hlt:i<l.length:=Dq;have hw:=aI hlt hl;have hk:=hok _ (Am hlt);have hle:=aCn hk;have hm:(E cC l).getD i []=[.sl 1 (E cI l[i])]:=aR hlt;rw[Bn hlt,uC] at hg;cases hb:(dQ fr to l[i]).2
   .rw[AJ (by simp[hb])] at hg
    repeat' first|simp -dsimp only[go_sem,hm,hw,hb,cC,cFd]|apply Br.mk<;>intro h<;>try simp -dsimp only[h]|refine aA.c (by first|exact aFp hk|exact rV hk|exact aD6 _ (by omega) (by omega)) ?_|refine aC ?_|fail
    all_goals simp[cCt,bR,iU,←hg]
   .rw[AY hb] at hg
    repeat' first|simp -dsimp only[go_sem,hm,hw,hb,cC,cFd]|apply Br.mk<;>intro h<;>try simp -dsimp only[h]|refine aA.c (by first|exact aFp hk|exact rV hk|exact aD6 _ (by omega) (by omega)) ?_|refine aC ?_|fail
    all_goals(exact nx (i+1,(W (a+(dQ fr to l[i]).1),W (b+(dsN (dQ fr to l[i]).1.natAbs:Int)))) hg)
  .have hge:i=l.length:=by
    have:¬i<l.length:=Dq;omega
   subst hge;simp -dsimp only[go_sem];rw[Cs,uC] at hg;simp[cCt,bR,iU,←hg]
theorem o6 (l:List (List Int)) (fr to:Int) (hl:l.length<=1048576) (hok:∀c,c∈l->okP fr to c):Fz F.iW [.sl 1 (E cC l),.agg (cFd fr to)] (.tup [.agg (cCt (bR fr to l)),.v (.bool (iU fr to l))]):=by
 refine fn0 Cd.i_controlOf_k λX=>?_;simp -dsimp only[go_sem,cC,cFd,cCt];refine aA.flat (aMf l) rfl ?_;simp -dsimp only[go_sem,cC,cFd];refine aO.at dM (X:={zz:Nat×(Int×Int) // zz.1<=l.length∧uC fr to (l.drop zz.1) zz.2.1 zz.2.2=uC fr to l 0 0}) (λzz=>[(16,.v (.int .i64 zz.1.1))]) (λzz=>[(.t 6 0,.var [.v (.int .i64 l.length),.v (.int .i64 zz.1.2.1),.v (.int .i64 zz.1.2.2)] false)]) (λzz=>l.length-zz.1.1) ⟨(0,(0,0)),by omega,by simp⟩ ?_ ?_
 .exact le0
 .rintro⟨⟨i,a,b⟩,hi,hg⟩;dsimp only at hi hg;simp -dsimp only[go_sem];refine Br.mk (λhc=>?_) λhc=>?_
  .have hlt:i<l.length:=Dq;have hw:=aI hlt hl;have hk:=hok _ (Am hlt);have hle:=aCn hk;have hm:(E cC l).getD i []=[.sl 1 (E cI l[i])]:=aR hlt;rw[Bn hlt,uC] at hg;cases hb:(dQ fr to l[i]).2
   .rw[AJ (by simp[hb])] at hg
    repeat' first|simp -dsimp only[go_sem,hm,hw,hb,cC,cFd]|apply Br.mk<;>intro h<;>try simp -dsimp only[h]|refine aA.c (by first|exact aBs hk|exact aF2 _ (by omega) (by omega)) ?_|refine aC ?_|fail
    all_goals simp[cCt,bR,iU,←hg]
   .rw[AY hb] at hg
    repeat' first|simp -dsimp only[go_sem,hm,hw,hb,cC,cFd]|apply Br.mk<;>intro h<;>try simp -dsimp only[h]|refine aA.c (by first|exact aBs hk|exact aF2 _ (by omega) (by omega)) ?_|refine aC ?_|fail
    all_goals(exact nx (i+1,(W (a+(dQ fr to l[i]).1),W (b+(dsN (dQ fr to l[i]).1.natAbs:Int)))) hg)
  .have hge:i=l.length:=by
    have:¬i<l.length:=Dq;omega
   subst hge;simp -dsimp only[go_sem];rw[Cs,uC] at hg;simp[cCt,bR,iU,←hg]
end
section
variable [Vs.Envs]
attribute [local irreducible] Vs.Fn
theorem getD_lt {α:Type}{l:List α}{i:Nat} (h:i<l.length) (d:α):l.getD i d=l[i]:=by simp[List.getD,h]
def cTs (t:List Tot):List AV:=[.sl 2 (E cT t)]
structure Off where
 trays:List (List (List Int))
 totals:List (List Tot)
def cO (o:Off):List AV:=[.sl 1 (E cD o.trays),.sl 1 (E cTs o.totals)]
def bE (l:List (List Int)):Prop:=l.length<=1048576∧∀c,c∈l->c.length<=1048576
def aMz (l:List (List (List Int))):Prop:=l.length<=1048576∧∀d,d∈l->bE d
def aGt (l:List Tot):Prop:=l.length<=1048576∧∀t,t∈l->t.1.size<=1048576
def aK9 (l:List (List Tot)):Prop:=l.length<=1048576∧∀t,t∈l->aGt t
def fC (o:Off):Prop:=aMz o.trays∧aK9 o.totals
end
section
variable [Vs.Envs]
attribute [local irreducible] Vs.Fn
def wO:List (List (List Int))->Nat
 | []=>20
 |d::r=>if d.length=0 then wO r else(d.getD 0 []).length
theorem aHd {l:List (List (List Int))}{i:Nat} (h:i<l.length):wO (l.drop i)=if l[i].length=0 then wO (l.drop (i+1)) else(l[i].getD 0 []).length:=by
 rw[Bn h,wO]
def tX (o:Off) (i:Nat):Bool:=bB (o.trays.getD i [])&&((o.trays.getD i []).length==0||((o.trays.getD i []).getD 0 []).length==wO o.trays)
def rR (o:Off):Bool:=aCR o.trays.length (tX o)&&(((o.trays.length:Int)==6)&&decide ((o.totals.length:Int)<=20))
theorem lQ (o:Off) (ho:fC o):Fz F.fF [.agg (cO o)] (.v (.int .i64 (wO o.trays))):=by
 refine fn0 Cd.i_officeColumns_k λX=>?_;simp -dsimp only[go_sem,cO];refine aO.at dM (X:={zz:Nat×(Unit) // zz.1<=o.trays.length∧wO (o.trays.drop zz.1)=wO o.trays}) (λzz=>[(8,.v (.int .i64 zz.1.1))]) (λzz=>[]) (λzz=>o.trays.length-zz.1.1) ⟨(0,()),by omega,rfl⟩ ?_ ?_
 .exact le0
 .rintro⟨⟨i,_⟩,hi,hg⟩;dsimp only at hi hg;simp -dsimp only[go_sem];refine Br.mk (λhc=>?_) λhc=>?_
  .have hlt:i<o.trays.length:=Dq;have hw:=aI hlt ho.1.1;rw[aHd hlt] at hg;by_cases hd0:o.trays[i].length=0
   .have hgt:decide ((o.trays[i].length:Int)>0)=false:=AX (by omega);rw[AY hd0] at hg
    repeat' first|simp -dsimp only[go_sem,aR hlt,cD,hgt,hw]|apply Br.mk<;>intro h<;>try simp -dsimp only[h]|refine aC ?_|fail
    all_goals(exact nx (i+1,()) hg)
   .have hgt:decide ((o.trays[i].length:Int)>0)=true:=AR (by omega);have h0:0<o.trays[i].length:=by omega
    rw[AJ hd0,getD_lt h0] at hg
    repeat' first|simp -dsimp only[go_sem,aR hlt,aR h0,cD,hgt,cC]|apply Br.mk<;>intro h<;>try simp -dsimp only[h]|refine aA.c (by first|exact nW _) ?_|refine aC ?_|fail
    all_goals(refine aU ?_;simp[←hg];done)
  .have hge:i=o.trays.length:=by
    have:¬i<o.trays.length:=Dq;omega
   subst hge;simp -dsimp only[go_sem];rw[Cs,wO] at hg;simp[←hg]
theorem nN (o:Off) (ho:fC o):Fz F.iY [.ro (cO o)] (.v (.int .i64 (wO o.trays))):=by
 refine fn0 Cd.s_l15Width_k λX=>?_;simp -dsimp only[go_sem,cO];refine aO.at dM (X:={zz:Nat×(Unit) // zz.1<=o.trays.length∧wO (o.trays.drop zz.1)=wO o.trays}) (λzz=>[(3,.v (.int .i64 zz.1.1))]) (λzz=>[]) (λzz=>o.trays.length-zz.1.1) ⟨(0,()),by omega,rfl⟩ ?_ ?_
 .exact le0
 .rintro⟨⟨i,_⟩,hi,hg⟩;dsimp only at hi hg;simp -dsimp only[go_sem];refine Br.mk (λhc=>?_) λhc=>?_
  .have hlt:i<o.trays.length:=Dq;have hw:=aI hlt ho.1.1;rw[aHd hlt] at hg;by_cases hd0:o.trays[i].length=0
   .have hgt:decide ((o.trays[i].length:Int)>0)=false:=AX (by omega);rw[AY hd0] at hg
    repeat' first|simp -dsimp only[go_sem,aR hlt,cD,hgt,hw]|apply Br.mk<;>intro h<;>try simp -dsimp only[h]|refine aC ?_|fail
    all_goals(exact nx (i+1,()) hg)
   .have hgt:decide ((o.trays[i].length:Int)>0)=true:=AR (by omega);have h0:0<o.trays[i].length:=by omega
    rw[AJ hd0,getD_lt h0] at hg
    repeat' first|simp -dsimp only[go_sem,aR hlt,aR h0,cD,hgt,cC]|apply Br.mk<;>intro h<;>try simp -dsimp only[h]|refine aA.c (by first|exact nW _) ?_|refine aC ?_|fail
    all_goals(refine aU ?_;simp[←hg];done)
  .have hge:i=o.trays.length:=by
    have:¬i<o.trays.length:=Dq;omega
   subst hge;simp -dsimp only[go_sem];rw[Cs,wO] at hg;simp[←hg]
theorem l15Ok (o:Off) (ho:fC o):Fz F.aAI [.ro (cO o)] (.v (.bool (rR o))):=by
 refine fn0 Cd.s_l15Ok_k λX=>?_;simp -dsimp only[go_sem,cO];refine aO.at dM (X:={zz:Nat×(Unit) // zz.1<=o.trays.length∧aCR zz.1 (tX o)=true}) (λzz=>[(3,.v (.int .i64 zz.1.1))]) (λzz=>[]) (λzz=>o.trays.length-zz.1.1) ⟨(0,()),by omega,aDZ _⟩ ?_ ?_
 .exact le0
 .rintro⟨⟨i,_⟩,hi,hg⟩;dsimp only at hi hg;simp -dsimp only[go_sem];refine Br.mk (λhc=>?_) λhc=>?_
  .have hlt:i<o.trays.length:=Dq;have hw:=aI hlt ho.1.1;have hgi:=getD_lt hlt ([]:List (List Int));have hs:=ho.1.2 _ (Am hlt);by_cases hd0:o.trays[i].length=0
   .have hgt:decide ((o.trays[i].length:Int)>0)=false:=AX (by omega)
    repeat' first|simp -dsimp only[go_sem,aR hlt,cD,hgt,hw]|apply Br.mk<;>intro h<;>try simp -dsimp only[h]|refine aA.c (by first|exact bJ _ hs.2 hs.1|exact nN o ho) ?_|refine aC ?_|fail
    all_goals first
     | (refine aU ?_;have hp:tX o i=false:=by(simp only[tX,hgi];simp_all)
        simp[rR,uR hlt hp];done)
     |(exact nx (i+1,()) (yU hg (by(simp only[tX,hgi];simp_all))))
   .have hgt:decide ((o.trays[i].length:Int)>0)=true:=AR (by omega);have h0:0<o.trays[i].length:=by omega
    have hg0:=getD_lt h0 ([]:List Int);by_cases hww:o.trays[i][0].length=wO o.trays
    .have hb:((o.trays[i][0].length:Int) != (wO o.trays:Int))=false:=by simp[hww]
     repeat' first|simp -dsimp only[go_sem,aR hlt,aR h0,cD,hgt,cC,hb,hw]|apply Br.mk<;>intro h<;>try simp -dsimp only[h]|refine aA.c (by first|exact bJ _ hs.2 hs.1|exact nN o ho) ?_|refine aC ?_|fail
     all_goals first
      | (refine aU ?_;have hp:tX o i=false:=by(simp only[tX,hgi,hg0];simp_all)
         simp[rR,uR hlt hp];done)
      |(exact nx (i+1,()) (yU hg (by(simp only[tX,hgi,hg0];simp_all))))
    .have hb:((o.trays[i][0].length:Int) != (wO o.trays:Int))=true:=by simp;omega
     repeat' first|simp -dsimp only[go_sem,aR hlt,aR h0,cD,hgt,cC,hb,hw]|apply Br.mk<;>intro h<;>try simp -dsimp only[h]|refine aA.c (by first|exact bJ _ hs.2 hs.1|exact nN o ho) ?_|refine aC ?_|fail
     all_goals first
      | (refine aU ?_;have hp:tX o i=false:=by(simp only[tX,hgi,hg0];simp_all)
         simp[rR,uR hlt hp];done)
  .have hge:i=o.trays.length:=by
    have:¬i<o.trays.length:=Dq;omega
   subst hge;simp -dsimp only[go_sem];refine⟨?_,by simp⟩;refine Br.mk (λh=>?_) (λh=>?_)
   all_goals
    simp -dsimp only[go_sem,h]
    simp_all [rR]
theorem aBv (o:Off) (ho:fC o):Fz F.lW [.agg (cO o)] (.v (.bool (rR o))):=by
 refine fn0 Cd.i_ValidOffice_k λX=>?_;simp -dsimp only[go_sem,cO];by_cases h6:o.trays.length=6
 rotate_left
 .have hb:((o.trays.length:Int) != 6)=true:=by simp;omega
  have hb':((o.trays.length:Int)==6)=false:=by simp;omega
  simp -dsimp only[go_sem,hb];simp[rR,hb']
 have hb:((o.trays.length:Int) != 6)=false:=by simp;omega
 have hb':((o.trays.length:Int)==6)=true:=by simp;omega
 by_cases h20:(o.totals.length:Int)>20
 .have hb2:decide ((o.totals.length:Int)>20)=true:=AR (by omega);have hb2':decide ((o.totals.length:Int)<=20)=false:=AX (by omega);simp -dsimp only[go_sem,hb,hb2];simp[rR,hb2']
 have hb2:decide ((o.totals.length:Int)>20)=false:=AX (by omega);have hb2':decide ((o.totals.length:Int)<=20)=true:=AR (by omega);simp -dsimp only[go_sem,hb,hb2];refine aO.at dM (X:={zz:Nat×(Unit) // zz.1<=o.trays.length∧aCR zz.1 (tX o)=true}) (λzz=>[(18,.v (.int .i64 zz.1.1))]) (λzz=>[]) (λzz=>o.trays.length-zz.1.1) ⟨(0,()),by omega,aDZ _⟩ ?_ ?_
 .exact le0
 .rintro⟨⟨i,_⟩,hi,hg⟩;dsimp only at hi hg;simp -dsimp only[go_sem];refine Br.mk (λhc=>?_) λhc=>?_
  .have hlt:i<o.trays.length:=Dq;have hw:=aI hlt ho.1.1;have hgi:=getD_lt hlt ([]:List (List Int));have hs:=ho.1.2 _ (Am hlt);by_cases hd0:o.trays[i].length=0
   .have hgt:decide ((o.trays[i].length:Int)>0)=false:=AX (by omega)
    repeat' first|simp -dsimp only[go_sem,aR hlt,cD,hgt,hw]|apply Br.mk<;>intro h<;>try simp -dsimp only[h]|refine aA.c (by first|exact bY _ hs.2 hs.1|exact nW _|exact lQ o ho) ?_|refine aC ?_|fail
    all_goals first
     | (refine aU ?_;have hp:tX o i=false:=by(simp only[tX,hgi];simp_all)
        simp[rR,uR hlt hp];done)
     |(exact nx (i+1,()) (yU hg (by(simp only[tX,hgi];simp_all))))
   .have hgt:decide ((o.trays[i].length:Int)>0)=true:=AR (by omega);have h0:0<o.trays[i].length:=by omega
    have hg0:=getD_lt h0 ([]:List Int);by_cases hww:o.trays[i][0].length=wO o.trays
    .have hb:((o.trays[i][0].length:Int) != (wO o.trays:Int))=false:=by simp[hww]
     repeat' first|simp -dsimp only[go_sem,aR hlt,aR h0,cD,hgt,cC,hb,hw]|apply Br.mk<;>intro h<;>try simp -dsimp only[h]|refine aA.c (by first|exact bY _ hs.2 hs.1|exact nW _|exact lQ o ho) ?_|refine aC ?_|fail
     all_goals first
      | (refine aU ?_;have hp:tX o i=false:=by(simp only[tX,hgi,hg0];simp_all)
         simp[rR,uR hlt hp];done)
      |(exact nx (i+1,()) (yU hg (by(simp only[tX,hgi,hg0];simp_all))))
    .have hb:((o.trays[i][0].length:Int) != (wO o.trays:Int))=true:=by simp;omega
     repeat' first|simp -dsimp only[go_sem,aR hlt,aR h0,cD,hgt,cC,hb,hw]|apply Br.mk<;>intro h<;>try simp -dsimp only[h]|refine aA.c (by first|exact bY _ hs.2 hs.1|exact nW _|exact lQ o ho) ?_|refine aC ?_|fail
     all_goals first
      | (refine aU ?_;have hp:tX o i=false:=by(simp only[tX,hgi,hg0];simp_all)
         simp[rR,uR hlt hp];done)
  .have hge:i=o.trays.length:=by
    have:¬i<o.trays.length:=Dq;omega
   subst hge;simp -dsimp only[go_sem];simp[rR,hg,hb',hb2']
end
end Go.Proofs.YtmiiohemehacjaaGreatDoor
