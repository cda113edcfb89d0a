/- Offices that are valid. -/
import Derived.Test.YtklmdppgonhflaaGreatDoorXwK
import Derived.Test.YtklmdppgonhflaaGreatDoorXuF
import Derived.Test.YtklmdppgonhflaaGreatDoorVtO
import Derived.Test.YtklmdppgonhflaaGreatDoorXuR
set_option linter.all false
set_option maxHeartbeats 8000000
namespace Go.Proofs.YtklmdppgonhflaaGreatDoor
open Go.Vs
section
variable [Vs.Envs]
attribute [local irreducible] Vs.Fn
def cFd (fr to:Int):List AV:=[.v (.int .i64 fr),.v (.int .i64 to)]
def bK (l:List (List Int)):Int:=if l.length=0 then 20 else((l.getD 0 []).length:Int)
theorem dY (l:List (List Int)):Fz F.jJ [.sl 1 (E cC l)] (.v (.int .i64 (bK l))):=by
 refine fn0 Cd.s_l07Width_k λX=>?_;simp -dsimp only[go_sem,cC];by_cases J:l.length=0
 .have G:((l.length:Int)==0)=true:=BO.2 (by omega)
  repeat' first|simp -dsimp only[go_sem,G,cC]|apply Br.mk<;>intro h<;>try simp -dsimp only[h]|refine aC ?_|refine aC9 ?_|fail
  all_goals simp[bK,J]
 .have G:((l.length:Int)==0)=false:=AB.2 (by omega);have H:0<l.length:=by omega
  have I:(E cC l).getD 0 []=[.sl 1 (E cI l[0])]:=aW H;have M:l.getD 0 []=l[0]:=by simp[List.getD,H]
  repeat' first|simp -dsimp only[go_sem,G,I,cC]|apply Br.mk<;>intro h<;>try simp -dsimp only[h]|refine aC ?_|refine aC9 ?_|fail
  all_goals simp_all [bK]
theorem jG (l:List (List Int)):Fz F.eP [.sl 1 (E cC l)] (.v (.int .i64 (bK l))):=by
 refine fn0 Cd.i_deckColumns_k λX=>?_;simp -dsimp only[go_sem,cC];by_cases J:l.length=0
 .have G:((l.length:Int)==0)=true:=BO.2 (by omega)
  repeat' first|simp -dsimp only[go_sem,G,cC]|apply Br.mk<;>intro h<;>try simp -dsimp only[h]|refine aA.c (by first|exact o5 l[0]) ?_|refine aC ?_|refine aC9 ?_|fail
  all_goals simp[bK,J]
 .have G:((l.length:Int)==0)=false:=AB.2 (by omega);have H:0<l.length:=by omega
  have I:(E cC l).getD 0 []=[.sl 1 (E cI l[0])]:=aW H;have M:l.getD 0 []=l[0]:=by simp[List.getD,H]
  repeat' first|simp -dsimp only[go_sem,G,I,cC]|apply Br.mk<;>intro h<;>try simp -dsimp only[h]|refine aA.c (by first|exact o5 l[0]) ?_|refine aC ?_|refine aC9 ?_|fail
  all_goals simp_all [bK]
theorem aGi (fr to w:Int):Fz F.pM [.agg (cFd fr to),.v (.int .i64 w)] (.v (.bool (l9 fr to w))):=by
 refine fn0 Cd.s_l18Field_k λX=>?_
 repeat' first|simp -dsimp only[go_sem,cFd]|apply Br.mk<;>intro h<;>try simp -dsimp only[h]|refine aA.c (by first|exact dZ fr to w) ?_|refine aC ?_|refine aC9 ?_|fail
 all_goals(simp_all [l9])
def dX (fr to:Int) (c:List Int):Int×Bool:=vP ((c.take to.toNat).drop fr.toNat).dropLast (((c.take to.toNat).drop fr.toNat).getLastD 0)
def okP (fr to:Int) (c:List Int):Prop:=0<=fr∧fr<to∧to<=c.length∧to-fr<=12∧c.length<=20∧∀x,x∈c->0<=x∧x<=4095
theorem aDq {fr to:Int}{c:List Int} (h:okP fr to c):∃u x,(c.take to.toNat).drop fr.toNat=u++[x]∧u.length+1<=12∧0<=x∧x<=4095∧dX fr to c=vP u x:=by
 obtain⟨M,O,h2,U,V,I⟩:=h;have F:((c.take to.toNat).drop fr.toNat).length=to.toNat-fr.toNat:=by simp;omega
 have G:(c.take to.toNat).drop fr.toNat≠[]:=by intro e;rw[e] at F;simp at F;omega
 have J:=List.dropLast_concat_getLast G;have H:=I (((c.take to.toNat).drop fr.toNat).getLast G) (CE (CZ (List.getLast_mem G)));refine⟨_,_,J.symm,?_,H.1,H.2,?_⟩
 .rw[List.length_dropLast,F];omega
 .unfold dX;rw[List.getLastD_eq_getLast?,List.getLast?_eq_some_getLast G];rfl
theorem aCM {fr to:Int}{c:List Int} (h:okP fr to c):-1000000000000<=(dX fr to c).1∧(dX fr to c).1<=1000000000000:=by
 obtain⟨u,x,_,G,_,_,F⟩:=aDq h;rw[F];exact aMS u x G
theorem aBP {fr to:Int}{c:List Int} (h:okP fr to c):Fz F.nH [.agg (cC c),.agg (cFd fr to)] (.tup [.v (.int .i64 (dX fr to c).1),.v (.bool (dX fr to c).2)]):=by
 obtain⟨u,x,I,J,_,_,H⟩:=aDq h;obtain⟨G,M,h2,O,U,V⟩:=h;rw[H];exact aK4 c fr to u x G (by omega) h2 I J
theorem tL {fr to:Int}{c:List Int} (h:okP fr to c):Fz F.lF [.sl 1 (E cI ((c.take to.toNat).drop fr.toNat))] (.tup [.v (.int .i64 (dX fr to c).1),.v (.bool (dX fr to c).2)]):=by
 obtain⟨u,x,J,M,G,H,I⟩:=aDq h;rw[I,J];exact aJM u x G H M
theorem aF4 {fr to:Int}{c:List Int} (h:okP fr to c):Fz F.nL [.ro (cC c),.agg (cFd fr to)] (.sl 1 (E cI ((c.take to.toNat).drop fr.toNat))):=by
 obtain⟨G,H,h2,I,J,M⟩:=h;exact part c fr to G (by omega) h2
def zN (fr to:Int):List (List Int)->Int->Int->Option (Int×Int)
 | [],s,d=>some (s,d)
 |c::r,s,d=>if(dX fr to c).2=true then zN fr to r (W (s+(dX fr to c).1)) (W (d+(dsN (dX fr to c).1.natAbs:Int))) else none
def fK (fr to:Int) (l:List (List Int)):Int×Int×Int:=
 match zN fr to l 0 0 with
 |some (s,d)=>(l.length,s,d)
 |none=>(0,0,0)
def cCt (x:Int×Int×Int):List AV:=[.v (.int .i64 x.1),.v (.int .i64 x.2.1),.v (.int .i64 x.2.2)]
def lU (fr to:Int) (l:List (List Int)):Bool:=(zN fr to l 0 0).isSome
end
section
variable [Vs.Envs]
attribute [local irreducible] Vs.Fn
theorem getD_lt {α:Type}{l:List α}{i:Nat} (h:i<l.length) (d:α):l.getD i d=l[i]:=by simp[List.getD,h]
def cTs (t:List Tot):List AV:=[.sl 2 (E cT t)]
structure Off where
 trays:List (List (List Int))
 totals:List (List Tot)
def cO (o:Off):List AV:=[.sl 1 (E cD o.trays),.sl 1 (E cTs o.totals)]
def bO (l:List (List Int)):Prop:=l.length<=1048576∧∀c,c∈l->c.length<=1048576
def aN3 (l:List (List (List Int))):Prop:=l.length<=1048576∧∀d,d∈l->bO d
def aHc (l:List Tot):Prop:=l.length<=1048576∧∀t,t∈l->t.1.size<=1048576
def aMt (l:List (List Tot)):Prop:=l.length<=1048576∧∀t,t∈l->aHc t
def kP (o:Off):Prop:=aN3 o.trays∧aMt o.totals
end
section
variable [Vs.Envs]
attribute [local irreducible] Vs.Fn
def wO:List (List (List Int))->Nat
 | []=>20
 |d::r=>if d.length=0 then wO r else(d.getD 0 []).length
theorem aH4 {l:List (List (List Int))}{i:Nat} (h:i<l.length):wO (l.drop i)=if l[i].length=0 then wO (l.drop (i+1)) else(l[i].getD 0 []).length:=by
 rw[Ci h,wO]
def rU (o:Off) (i:Nat):Bool:=bC (o.trays.getD i [])&&((o.trays.getD i []).length==0||((o.trays.getD i []).getD 0 []).length==wO o.trays)
def o8 (o:Off):Bool:=aDj o.trays.length (rU o)&&(((o.trays.length:Int)==6)&&decide ((o.totals.length:Int)<=20))
theorem bS (o:Off) (ho:kP o):Fz F.dQ [.agg (cO o)] (.v (.int .i64 (wO o.trays))):=by
 refine fn0 Cd.i_officeColumns_k λX=>?_;simp -dsimp only[go_sem,cO];refine aP.at dM (X:={zz:Nat×(Unit) // zz.1<=o.trays.length∧wO (o.trays.drop zz.1)=wO o.trays}) (λzz=>[(8,.v (.int .i64 zz.1.1))]) (λzz=>[]) (λzz=>o.trays.length-zz.1.1) ⟨(0,()),by omega,rfl⟩ ?_ ?_
 .exact le0
 .rintro⟨⟨i,_⟩,hi,hg⟩;dsimp only at hi hg;simp -dsimp only[go_sem];refine Br.mk (λhc=>?_) λhc=>?_
  .have hlt:i<o.trays.length:=Dq;have hw:=aJ hlt ho.1.1;rw[aH4 hlt] at hg;by_cases hd0:o.trays[i].length=0
   .have hgt:decide ((o.trays[i].length:Int)>0)=false:=AQ (by omega);rw[AP hd0] at hg
    repeat' first|simp -dsimp only[go_sem,aW hlt,cD,hgt,hw]|apply Br.mk<;>intro h<;>try simp -dsimp only[h]|refine aC ?_|refine aC9 ?_|fail
    all_goals(exact nx (i+1,()) hg)
   .have hgt:decide ((o.trays[i].length:Int)>0)=true:=A9 (by omega);have h0:0<o.trays[i].length:=by omega
    rw[AC hd0,getD_lt h0] at hg
    repeat' first|simp -dsimp only[go_sem,aW hlt,aW h0,cD,hgt,cC]|apply Br.mk<;>intro h<;>try simp -dsimp only[h]|refine aA.c (by first|exact o5 _) ?_|refine aC ?_|refine aC9 ?_|fail
    all_goals(refine aR ?_;simp[←hg];done)
  .have hge:i=o.trays.length:=by
    have:¬i<o.trays.length:=Dq;omega
   subst hge;simp -dsimp only[go_sem];rw[De,wO] at hg;simp[←hg]
theorem gQ (o:Off) (ho:kP o):Fz F.jI [.ro (cO o)] (.v (.int .i64 (wO o.trays))):=by
 refine fn0 Cd.s_l15Width_k λX=>?_;simp -dsimp only[go_sem,cO];refine aP.at dM (X:={zz:Nat×(Unit) // zz.1<=o.trays.length∧wO (o.trays.drop zz.1)=wO o.trays}) (λzz=>[(3,.v (.int .i64 zz.1.1))]) (λzz=>[]) (λzz=>o.trays.length-zz.1.1) ⟨(0,()),by omega,rfl⟩ ?_ ?_
 .exact le0
 .rintro⟨⟨i,_⟩,hi,hg⟩;dsimp only at hi hg;simp -dsimp only[go_sem];refine Br.mk (λhc=>?_) λhc=>?_
  .have hlt:i<o.trays.length:=Dq;have hw:=aJ hlt ho.1.1;rw[aH4 hlt] at hg;by_cases hd0:o.trays[i].length=0
   .have hgt:decide ((o.trays[i].length:Int)>0)=false:=AQ (by omega);rw[AP hd0] at hg
    repeat' first|simp -dsimp only[go_sem,aW hlt,cD,hgt,hw]|apply Br.mk<;>intro h<;>try simp -dsimp only[h]|refine aC ?_|refine aC9 ?_|fail
    all_goals(exact nx (i+1,()) hg)
   .have hgt:decide ((o.trays[i].length:Int)>0)=true:=A9 (by omega);have h0:0<o.trays[i].length:=by omega
    rw[AC hd0,getD_lt h0] at hg
    repeat' first|simp -dsimp only[go_sem,aW hlt,aW h0,cD,hgt,cC]|apply Br.mk<;>intro h<;>try simp -dsimp only[h]|refine aA.c (by first|exact o5 _) ?_|refine aC ?_|refine aC9 ?_|fail
    all_goals(refine aR ?_;simp[←hg];done)
  .have hge:i=o.trays.length:=by
    have:¬i<o.trays.length:=Dq;omega
   subst hge;simp -dsimp only[go_sem];rw[De,wO] at hg;simp[←hg]
theorem aNO (o:Off) (ho:kP o):Fz F.zZ [.ro (cO o)] (.v (.bool (o8 o))):=by
 refine fn0 Cd.s_l15Ok_k λX=>?_;simp -dsimp only[go_sem,cO];refine aP.at dM (X:={zz:Nat×(Unit) // zz.1<=o.trays.length∧aDj zz.1 (rU o)=true}) (λzz=>[(3,.v (.int .i64 zz.1.1))]) (λzz=>[]) (λzz=>o.trays.length-zz.1.1) ⟨(0,()),by omega,aEr _⟩ ?_ ?_
 .exact le0
 .rintro⟨⟨i,_⟩,hi,hg⟩;dsimp only at hi hg;simp -dsimp only[go_sem];refine Br.mk (λhc=>?_) λhc=>?_
  .have hlt:i<o.trays.length:=Dq;have hw:=aJ hlt ho.1.1;have hgi:=getD_lt hlt ([]:List (List Int));have hs:=ho.1.2 _ (Aa hlt);by_cases hd0:o.trays[i].length=0
   .have hgt:decide ((o.trays[i].length:Int)>0)=false:=AQ (by omega)
    repeat' first|simp -dsimp only[go_sem,aW hlt,cD,hgt,hw]|apply Br.mk<;>intro h<;>try simp -dsimp only[h]|refine aA.c (by first|exact dC _ hs.2 hs.1|exact gQ o ho) ?_|refine aC ?_|refine aC9 ?_|fail
    all_goals first
     | (refine aR ?_;have hp:rU o i=false:=by(simp only[rU,hgi];simp_all)
        simp[o8,vL hlt hp];done)
     |(exact nx (i+1,()) (aAc hg (by(simp only[rU,hgi];simp_all))))
   .have hgt:decide ((o.trays[i].length:Int)>0)=true:=A9 (by omega);have h0:0<o.trays[i].length:=by omega
    have hg0:=getD_lt h0 ([]:List Int);by_cases hww:o.trays[i][0].length=wO o.trays
    .have hb:((o.trays[i][0].length:Int) != (wO o.trays:Int))=false:=by simp[hww]
     repeat' first|simp -dsimp only[go_sem,aW hlt,aW h0,cD,hgt,cC,hb,hw]|apply Br.mk<;>intro h<;>try simp -dsimp only[h]|refine aA.c (by first|exact dC _ hs.2 hs.1|exact gQ o ho) ?_|refine aC ?_|refine aC9 ?_|fail
     all_goals first
      | (refine aR ?_;have hp:rU o i=false:=by(simp only[rU,hgi,hg0];simp_all)
         simp[o8,vL hlt hp];done)
      |(exact nx (i+1,()) (aAc hg (by(simp only[rU,hgi,hg0];simp_all))))
    .have hb:((o.trays[i][0].length:Int) != (wO o.trays:Int))=true:=by simp;omega
     repeat' first|simp -dsimp only[go_sem,aW hlt,aW h0,cD,hgt,cC,hb,hw]|apply Br.mk<;>intro h<;>try simp -dsimp only[h]|refine aA.c (by first|exact dC _ hs.2 hs.1|exact gQ o ho) ?_|refine aC ?_|refine aC9 ?_|fail
     all_goals first
      | (refine aR ?_;have hp:rU o i=false:=by(simp only[rU,hgi,hg0];simp_all)
         simp[o8,vL hlt hp];done)
  .have hge:i=o.trays.length:=by
    have:¬i<o.trays.length:=Dq;omega
   subst hge;simp -dsimp only[go_sem];refine⟨?_,by simp⟩;refine Br.mk (λh=>?_) (λh=>?_)
   all_goals
    simp -dsimp only[go_sem,h]
    simp_all [o8]
theorem vU (o:Off) (ho:kP o):Fz F.kI [.agg (cO o)] (.v (.bool (o8 o))):=by
 refine fn0 Cd.i_ValidOffice_k λX=>?_;simp -dsimp only[go_sem,cO];by_cases h6:o.trays.length=6
 rotate_left
 .have hb:((o.trays.length:Int) != 6)=true:=by simp;omega
  have hb':((o.trays.length:Int)==6)=false:=by simp;omega
  simp -dsimp only[go_sem,hb];simp[o8,hb']
 have hb:((o.trays.length:Int) != 6)=false:=by simp;omega
 have hb':((o.trays.length:Int)==6)=true:=by simp;omega
 by_cases h20:(o.totals.length:Int)>20
 .have hb2:decide ((o.totals.length:Int)>20)=true:=A9 (by omega);have hb2':decide ((o.totals.length:Int)<=20)=false:=AQ (by omega);simp -dsimp only[go_sem,hb,hb2];simp[o8,hb2']
 have hb2:decide ((o.totals.length:Int)>20)=false:=AQ (by omega);have hb2':decide ((o.totals.length:Int)<=20)=true:=A9 (by omega);simp -dsimp only[go_sem,hb,hb2];refine aP.at dM (X:={zz:Nat×(Unit) // zz.1<=o.trays.length∧aDj zz.1 (rU o)=true}) (λzz=>[(18,.v (.int .i64 zz.1.1))]) (λzz=>[]) (λzz=>o.trays.length-zz.1.1) ⟨(0,()),by omega,aEr _⟩ ?_ ?_
 .exact le0
 .rintro⟨⟨i,_⟩,hi,hg⟩;dsimp only at hi hg;simp -dsimp only[go_sem];refine Br.mk (λhc=>?_) λhc=>?_
  .have hlt:i<o.trays.length:=Dq;have hw:=aJ hlt ho.1.1;have hgi:=getD_lt hlt ([]:List (List Int));have hs:=ho.1.2 _ (Aa hlt);by_cases hd0:o.trays[i].length=0
   .have hgt:decide ((o.trays[i].length:Int)>0)=false:=AQ (by omega)
    repeat' first|simp -dsimp only[go_sem,aW hlt,cD,hgt,hw]|apply Br.mk<;>intro h<;>try simp -dsimp only[h]|refine aA.c (by first|exact lY _ hs.2 hs.1|exact o5 _|exact bS o ho) ?_|refine aC ?_|refine aC9 ?_|fail
    all_goals first
     | (refine aR ?_;have hp:rU o i=false:=by(simp only[rU,hgi];simp_all)
        simp[o8,vL hlt hp];done)
     |(exact nx (i+1,()) (aAc hg (by(simp only[rU,hgi];simp_all))))
   .have hgt:decide ((o.trays[i].length:Int)>0)=true:=A9 (by omega);have h0:0<o.trays[i].length:=by omega
    have hg0:=getD_lt h0 ([]:List Int);by_cases hww:o.trays[i][0].length=wO o.trays
    .have hb:((o.trays[i][0].length:Int) != (wO o.trays:Int))=false:=by simp[hww]
     repeat' first|simp -dsimp only[go_sem,aW hlt,aW h0,cD,hgt,cC,hb,hw]|apply Br.mk<;>intro h<;>try simp -dsimp only[h]|refine aA.c (by first|exact lY _ hs.2 hs.1|exact o5 _|exact bS o ho) ?_|refine aC ?_|refine aC9 ?_|fail
     all_goals first
      | (refine aR ?_;have hp:rU o i=false:=by(simp only[rU,hgi,hg0];simp_all)
         simp[o8,vL hlt hp];done)
      |(exact nx (i+1,()) (aAc hg (by(simp only[rU,hgi,hg0];simp_all))))
    .have hb:((o.trays[i][0].length:Int) != (wO o.trays:Int))=true:=by simp;omega
     repeat' first|simp -dsimp only[go_sem,aW hlt,aW h0,cD,hgt,cC,hb,hw]|apply Br.mk<;>intro h<;>try simp -dsimp only[h]|refine aA.c (by first|exact lY _ hs.2 hs.1|exact o5 _|exact bS o ho) ?_|refine aC ?_|refine aC9 ?_|fail
     all_goals first
      | (refine aR ?_;have hp:rU o i=false:=by(simp only[rU,hgi,hg0];simp_all)
         simp[o8,vL hlt hp];done)
  .have hge:i=o.trays.length:=by
    have:¬i<o.trays.length:=Dq;omega
   subst hge;simp -dsimp only[go_sem];simp[o8,hg,hb',hb2']
theorem aBD (o:Off) (G:kP o):Fz F.mG [.agg (cO o)] (.v (.bool (o8 o))):=by
 refine fn0 Cd.s_ValidOffice_k λX=>?_
 repeat' first|simp -dsimp only[go_sem,cO]|apply Br.mk<;>intro h<;>try simp -dsimp only[h]|refine aA.c (by first|exact aNO o G) ?_|refine aC ?_|refine aC9 ?_|fail
 all_goals(simp_all)
end
end Go.Proofs.YtklmdppgonhflaaGreatDoor
