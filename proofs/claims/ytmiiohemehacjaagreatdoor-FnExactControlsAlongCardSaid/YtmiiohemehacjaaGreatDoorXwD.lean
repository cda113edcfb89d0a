/- Offices that are valid. -/
import Derived.Test.YtmiiohemehacjaaGreatDoorXwK
import Derived.Test.YtmiiohemehacjaaGreatDoorXuF
import Derived.Test.YtmiiohemehacjaaGreatDoorVtO
import Derived.Test.YtmiiohemehacjaaGreatDoorVsI
import Derived.Test.YtmiiohemehacjaaGreatDoorXuR
set_option linter.all false
set_option maxHeartbeats 8000000
namespace Go.Proofs.YtmiiohemehacjaaGreatDoor
open Go.Vs
section
variable [Vs.Envs]
attribute [local irreducible] Vs.Fn
def cFd (fr to:Int):List AV:=[.v (.int .i64 fr),.v (.int .i64 to)]
def bF (l:List (List Int)):Int:=if l.length=0 then 20 else((l.getD 0 []).length:Int)
theorem dV (l:List (List Int)):Fz F.jQ [.sl 1 (E cC l)] (.v (.int .i64 (bF l))):=by
 refine fn0 Cd.s_l07Width_k λX=>?_;simp -dsimp only[go_sem,cC];by_cases L:l.length=0
 .have H:((l.length:Int)==0)=true:=beq_iff_eq.2 (by omega)
  repeat' first|simp -dsimp only[go_sem,H,cC]|apply Br.mk<;>intro h<;>try simp -dsimp only[h]|refine aC ?_|fail
  all_goals simp[bF,L]
 .have H:((l.length:Int)==0)=false:=beq_eq_false_iff_ne.2 (by omega);have I:0<l.length:=by omega
  have J:(E cC l).getD 0 []=[.sl 1 (E cI l[0])]:=aQ I;have O:l.getD 0 []=l[0]:=by simp[List.getD,I]
  repeat' first|simp -dsimp only[go_sem,H,J,cC]|apply Br.mk<;>intro h<;>try simp -dsimp only[h]|refine aC ?_|fail
  all_goals simp_all [bF]
theorem kF (l:List (List Int)):Fz F.fE [.sl 1 (E cC l)] (.v (.int .i64 (bF l))):=by
 refine fn0 Cd.i_deckColumns_k λX=>?_;simp -dsimp only[go_sem,cC];by_cases L:l.length=0
 .have H:((l.length:Int)==0)=true:=beq_iff_eq.2 (by omega)
  repeat' first|simp -dsimp only[go_sem,H,cC]|apply Br.mk<;>intro h<;>try simp -dsimp only[h]|refine aD.c (by first|exact nA l[0]) ?_|refine aC ?_|fail
  all_goals simp[bF,L]
 .have H:((l.length:Int)==0)=false:=beq_eq_false_iff_ne.2 (by omega);have I:0<l.length:=by omega
  have J:(E cC l).getD 0 []=[.sl 1 (E cI l[0])]:=aQ I;have O:l.getD 0 []=l[0]:=by simp[List.getD,I]
  repeat' first|simp -dsimp only[go_sem,H,J,cC]|apply Br.mk<;>intro h<;>try simp -dsimp only[h]|refine aD.c (by first|exact nA l[0]) ?_|refine aC ?_|fail
  all_goals simp_all [bF]
theorem aKs (fr to w:Int):Fz F.rG [.agg (cFd fr to),.v (.int .i64 w)] (.v (.bool (nO fr to w))):=by
 refine fn0 Cd.s_l18Field_k λX=>?_
 repeat' first|simp -dsimp only[go_sem,cFd]|apply Br.mk<;>intro h<;>try simp -dsimp only[h]|refine aD.c (by first|exact dH fr to w) ?_|refine aC ?_|fail
 all_goals(simp_all [nO])
def gT (fr to:Int) (c:List Int):Int×Bool:=u7 ((c.take to.toNat).drop fr.toNat).dropLast (((c.take to.toNat).drop fr.toNat).getLastD 0)
def okP (fr to:Int) (c:List Int):Prop:=0<=fr∧fr<to∧to<=c.length∧to-fr<=12∧c.length<=20∧∀x,x∈c->0<=x∧x<=4095
theorem aCD {fr to:Int}{c:List Int} (h:okP fr to c):∃u x,(c.take to.toNat).drop fr.toNat=u++[x]∧u.length+1<=12∧0<=x∧x<=4095∧gT fr to c=u7 u x:=by
 obtain⟨O,U,h2,Y,Z,J⟩:=h;have F:((c.take to.toNat).drop fr.toNat).length=to.toNat-fr.toNat:=by simp;omega
 have H:(c.take to.toNat).drop fr.toNat≠[]:=by intro e;rw[e] at F;simp at F;omega
 have L:=List.dropLast_concat_getLast H;have I:=J (((c.take to.toNat).drop fr.toNat).getLast H) (List.mem_of_mem_take (List.mem_of_mem_drop (List.getLast_mem H)));refine⟨_,_,L.symm,?_,I.1,I.2,?_⟩
 .rw[List.length_dropLast,F];omega
 .unfold gT;rw[List.getLastD_eq_getLast?,List.getLast?_eq_some_getLast H];rfl
theorem aHV {fr to:Int}{c:List Int} (h:okP fr to c):-1000000000000<=(gT fr to c).1∧(gT fr to c).1<=1000000000000:=by
 obtain⟨u,x,_,H,_,_,F⟩:=aCD h;rw[F];exact aLT u x H
theorem aA9 {fr to:Int}{c:List Int} (h:okP fr to c):Fz F.lS [.agg (cC c),.agg (cFd fr to)] (.tup [.v (.int .i64 (gT fr to c).1),.v (.bool (gT fr to c).2)]):=by
 obtain⟨u,x,J,L,_,_,I⟩:=aCD h;obtain⟨H,O,h2,U,Y,Z⟩:=h;rw[I];exact aKg c fr to u x H (by omega) h2 J L
theorem sG {fr to:Int}{c:List Int} (h:okP fr to c):Fz F.jR [.sl 1 (E cI ((c.take to.toNat).drop fr.toNat))] (.tup [.v (.int .i64 (gT fr to c).1),.v (.bool (gT fr to c).2)]):=by
 obtain⟨u,x,L,O,H,I,J⟩:=aCD h;rw[J,L];exact aI3 u x H I O
theorem aFv {fr to:Int}{c:List Int} (h:okP fr to c):Fz F.lX [.ro (cC c),.agg (cFd fr to)] (.sl 1 (E cI ((c.take to.toNat).drop fr.toNat))):=by
 obtain⟨H,I,h2,J,L,O⟩:=h;exact part c fr to H (by omega) h2
def aC4 (fr to:Int):List (List Int)->Int->Int->Option (Int×Int)
 | [],s,d=>some (s,d)
 |c::r,s,d=>if(gT fr to c).2=true then aC4 fr to r (W (s+(gT fr to c).1)) (W (d+(dsN (gT fr to c).1.natAbs:Int))) else none
def xA (fr to:Int) (l:List (List Int)):Int×Int×Int:=
 match aC4 fr to l 0 0 with
 |some (s,d)=>(l.length,s,d)
 |none=>(0,0,0)
def cCt (x:Int×Int×Int):List AV:=[.v (.int .i64 x.1),.v (.int .i64 x.2.1),.v (.int .i64 x.2.2)]
def wN (fr to:Int) (l:List (List Int)):Bool:=(aC4 fr to l 0 0).isSome
end
section
variable [Vs.Tab 1 Vs.powP]
attribute [local irreducible] Vs.Fn
theorem aH3 (l:List (List Int)) (fr to:Int) (hl:l.length<=1048576) (hok:∀c,c∈l->okP fr to c):Fz F.aAp [.sl 1 (E cC l),.agg (cFd fr to)] (.tup [.agg (cCt (xA fr to l)),.v (.bool (wN fr to l))]):=by
 refine fn0 Cd.s_l18Of_k λX=>?_;simp -dsimp only[go_sem,cC,cFd,cCt];refine aN.at dM (X:={zz:Nat×(Int×Int) // zz.1<=l.length∧aC4 fr to (l.drop zz.1) zz.2.1 zz.2.2=aC4 fr to l 0 0}) (λzz=>[(7,.v (.int .i64 zz.1.1))]) (λzz=>[(.t 6 0,.var [.v (.int .i64 l.length),.v (.int .i64 zz.1.2.1),.v (.int .i64 zz.1.2.2)] false)]) (λzz=>l.length-zz.1.1) ⟨(0,(0,0)),by omega,by simp⟩ ?_ ?_
 .exact le0
 .rintro⟨⟨i,a,b⟩,hi,hg⟩;dsimp only at hi hg;simp -dsimp only[go_sem];refine Br.mk (λhc=>?_) λhc=>?_
  .have hlt:i<l.length:=Dq;have hw:=aH hlt hl;have hk:=hok _ (List.getElem_mem hlt);have hle:=aHV hk;have hm:(E cC l).getD i []=[.sl 1 (E cI l[i])]:=aQ hlt;rw[List.drop_eq_getElem_cons hlt,aC4] at hg;cases hb:(gT fr to l[i]).2
   .rw[if_neg (by simp[hb])] at hg
    repeat' first|simp -dsimp only[go_sem,hm,hw,hb,cC,cFd]|apply Br.mk<;>intro h<;>try simp -dsimp only[h]|refine aD.c (by first|exact aFv hk|exact sG hk|exact aDU _ (by omega) (by omega)) ?_|refine aC ?_|fail
    all_goals simp[cCt,xA,wN,←hg]
   .rw[if_pos hb] at hg
    repeat' first|simp -dsimp only[go_sem,hm,hw,hb,cC,cFd]|apply Br.mk<;>intro h<;>try simp -dsimp only[h]|refine aD.c (by first|exact aFv hk|exact sG hk|exact aDU _ (by omega) (by omega)) ?_|refine aC ?_|fail
    all_goals(exact nx (i+1,(W (a+(gT fr to l[i]).1),W (b+(dsN (gT fr to l[i]).1.natAbs:Int)))) hg)
  .have hge:i=l.length:=by
    have:¬i<l.length:=Dq;omega
   subst hge;simp -dsimp only[go_sem];rw[List.drop_length,aC4] at hg;simp[cCt,xA,wN,←hg]
theorem aD6 (l:List (List Int)) (fr to:Int) (hl:l.length<=1048576) (hok:∀c,c∈l->okP fr to c):Fz F.pM [.sl 1 (E cC l),.agg (cFd fr to)] (.tup [.agg (cCt (xA fr to l)),.v (.bool (wN fr to l))]):=by
 refine fn0 Cd.i_controlOf_k λX=>?_;simp -dsimp only[go_sem,cC,cFd,cCt];refine aD.flat (aMF l) rfl ?_;simp -dsimp only[go_sem,cC,cFd];refine aN.at dM (X:={zz:Nat×(Int×Int) // zz.1<=l.length∧aC4 fr to (l.drop zz.1) zz.2.1 zz.2.2=aC4 fr to l 0 0}) (λzz=>[(16,.v (.int .i64 zz.1.1))]) (λzz=>[(.t 6 0,.var [.v (.int .i64 l.length),.v (.int .i64 zz.1.2.1),.v (.int .i64 zz.1.2.2)] false)]) (λzz=>l.length-zz.1.1) ⟨(0,(0,0)),by omega,by simp⟩ ?_ ?_
 .exact le0
 .rintro⟨⟨i,a,b⟩,hi,hg⟩;dsimp only at hi hg;simp -dsimp only[go_sem];refine Br.mk (λhc=>?_) λhc=>?_
  .have hlt:i<l.length:=Dq;have hw:=aH hlt hl;have hk:=hok _ (List.getElem_mem hlt);have hle:=aHV hk;have hm:(E cC l).getD i []=[.sl 1 (E cI l[i])]:=aQ hlt;rw[List.drop_eq_getElem_cons hlt,aC4] at hg;cases hb:(gT fr to l[i]).2
   .rw[if_neg (by simp[hb])] at hg
    repeat' first|simp -dsimp only[go_sem,hm,hw,hb,cC,cFd]|apply Br.mk<;>intro h<;>try simp -dsimp only[h]|refine aD.c (by first|exact aA9 hk|exact aGb _ (by omega) (by omega)) ?_|refine aC ?_|fail
    all_goals simp[cCt,xA,wN,←hg]
   .rw[if_pos hb] at hg
    repeat' first|simp -dsimp only[go_sem,hm,hw,hb,cC,cFd]|apply Br.mk<;>intro h<;>try simp -dsimp only[h]|refine aD.c (by first|exact aA9 hk|exact aGb _ (by omega) (by omega)) ?_|refine aC ?_|fail
    all_goals(exact nx (i+1,(W (a+(gT fr to l[i]).1),W (b+(dsN (gT fr to l[i]).1.natAbs:Int)))) hg)
  .have hge:i=l.length:=by
    have:¬i<l.length:=Dq;omega
   subst hge;simp -dsimp only[go_sem];rw[List.drop_length,aC4] at hg;simp[cCt,xA,wN,←hg]
end
section
variable [Vs.Envs]
attribute [local irreducible] Vs.Fn
theorem getD_lt {α:Type}{l:List α}{i:Nat} (h:i<l.length) (d:α):l.getD i d=l[i]:=by simp[List.getD,h]
def cTs (t:List Tot):List AV:=[.sl 2 (E cT t)]
structure Off where
 trays:List (List (List Int))
 totals:List (List Tot)
def cO (o:Off):List AV:=[.sl 1 (E cD o.trays),.sl 1 (E cTs o.totals)]
def bJ (l:List (List Int)):Prop:=l.length<=1048576∧∀c,c∈l->c.length<=1048576
def aCq (l:List (List (List Int))):Prop:=l.length<=1048576∧∀d,d∈l->bJ d
def aEx (l:List Tot):Prop:=l.length<=1048576∧∀t,t∈l->t.1.size<=1048576
def aAj (l:List (List Tot)):Prop:=l.length<=1048576∧∀t,t∈l->aEx t
def dD (o:Off):Prop:=aCq o.trays∧aAj o.totals
end
section
variable [Vs.Envs]
attribute [local irreducible] Vs.Fn
def wO:List (List (List Int))->Nat
 | []=>20
 |d::r=>if d.length=0 then wO r else(d.getD 0 []).length
theorem aHx {l:List (List (List Int))}{i:Nat} (h:i<l.length):wO (l.drop i)=if l[i].length=0 then wO (l.drop (i+1)) else(l[i].getD 0 []).length:=by
 rw[List.drop_eq_getElem_cons h,wO]
def uF (o:Off) (i:Nat):Bool:=bA (o.trays.getD i [])&&((o.trays.getD i []).length==0||((o.trays.getD i []).getD 0 []).length==wO o.trays)
def tH (o:Off):Bool:=aCw o.trays.length (uF o)&&(((o.trays.length:Int)==6)&&decide ((o.totals.length:Int)<=20))
theorem kU (o:Off) (ho:dD o):Fz F.eH [.agg (cO o)] (.v (.int .i64 (wO o.trays))):=by
 refine fn0 Cd.i_officeColumns_k λX=>?_;simp -dsimp only[go_sem,cO];refine aN.at dM (X:={zz:Nat×(Unit) // zz.1<=o.trays.length∧wO (o.trays.drop zz.1)=wO o.trays}) (λzz=>[(8,.v (.int .i64 zz.1.1))]) (λzz=>[]) (λzz=>o.trays.length-zz.1.1) ⟨(0,()),by omega,rfl⟩ ?_ ?_
 .exact le0
 .rintro⟨⟨i,_⟩,hi,hg⟩;dsimp only at hi hg;simp -dsimp only[go_sem];refine Br.mk (λhc=>?_) λhc=>?_
  .have hlt:i<o.trays.length:=Dq;have hw:=aH hlt ho.1.1;rw[aHx hlt] at hg;by_cases hd0:o.trays[i].length=0
   .have hgt:decide ((o.trays[i].length:Int)>0)=false:=decide_eq_false (by omega);rw[if_pos hd0] at hg
    repeat' first|simp -dsimp only[go_sem,aQ hlt,cD,hgt,hw]|apply Br.mk<;>intro h<;>try simp -dsimp only[h]|refine aC ?_|fail
    all_goals(exact nx (i+1,()) hg)
   .have hgt:decide ((o.trays[i].length:Int)>0)=true:=decide_eq_true (by omega);have h0:0<o.trays[i].length:=by omega
    rw[if_neg hd0,getD_lt h0] at hg
    repeat' first|simp -dsimp only[go_sem,aQ hlt,aQ h0,cD,hgt,cC]|apply Br.mk<;>intro h<;>try simp -dsimp only[h]|refine aD.c (by first|exact nA _) ?_|refine aC ?_|fail
    all_goals(refine aU ?_;simp[←hg];done)
  .have hge:i=o.trays.length:=by
    have:¬i<o.trays.length:=Dq;omega
   subst hge;simp -dsimp only[go_sem];rw[List.drop_length,wO] at hg;simp[←hg]
theorem vH (o:Off) (ho:dD o):Fz F.jP [.ro (cO o)] (.v (.int .i64 (wO o.trays))):=by
 refine fn0 Cd.s_l15Width_k λX=>?_;simp -dsimp only[go_sem,cO];refine aN.at dM (X:={zz:Nat×(Unit) // zz.1<=o.trays.length∧wO (o.trays.drop zz.1)=wO o.trays}) (λzz=>[(3,.v (.int .i64 zz.1.1))]) (λzz=>[]) (λzz=>o.trays.length-zz.1.1) ⟨(0,()),by omega,rfl⟩ ?_ ?_
 .exact le0
 .rintro⟨⟨i,_⟩,hi,hg⟩;dsimp only at hi hg;simp -dsimp only[go_sem];refine Br.mk (λhc=>?_) λhc=>?_
  .have hlt:i<o.trays.length:=Dq;have hw:=aH hlt ho.1.1;rw[aHx hlt] at hg;by_cases hd0:o.trays[i].length=0
   .have hgt:decide ((o.trays[i].length:Int)>0)=false:=decide_eq_false (by omega);rw[if_pos hd0] at hg
    repeat' first|simp -dsimp only[go_sem,aQ hlt,cD,hgt,hw]|apply Br.mk<;>intro h<;>try simp -dsimp only[h]|refine aC ?_|fail
    all_goals(exact nx (i+1,()) hg)
   .have hgt:decide ((o.trays[i].length:Int)>0)=true:=decide_eq_true (by omega);have h0:0<o.trays[i].length:=by omega
    rw[if_neg hd0,getD_lt h0] at hg
    repeat' first|simp -dsimp only[go_sem,aQ hlt,aQ h0,cD,hgt,cC]|apply Br.mk<;>intro h<;>try simp -dsimp only[h]|refine aD.c (by first|exact nA _) ?_|refine aC ?_|fail
    all_goals(refine aU ?_;simp[←hg];done)
  .have hge:i=o.trays.length:=by
    have:¬i<o.trays.length:=Dq;omega
   subst hge;simp -dsimp only[go_sem];rw[List.drop_length,wO] at hg;simp[←hg]
theorem l15Ok (o:Off) (ho:dD o):Fz F.aAq [.ro (cO o)] (.v (.bool (tH o))):=by
 refine fn0 Cd.s_l15Ok_k λX=>?_;simp -dsimp only[go_sem,cO];refine aN.at dM (X:={zz:Nat×(Unit) // zz.1<=o.trays.length∧aCw zz.1 (uF o)=true}) (λzz=>[(3,.v (.int .i64 zz.1.1))]) (λzz=>[]) (λzz=>o.trays.length-zz.1.1) ⟨(0,()),by omega,aDM _⟩ ?_ ?_
 .exact le0
 .rintro⟨⟨i,_⟩,hi,hg⟩;dsimp only at hi hg;simp -dsimp only[go_sem];refine Br.mk (λhc=>?_) λhc=>?_
  .have hlt:i<o.trays.length:=Dq;have hw:=aH hlt ho.1.1;have hgi:=getD_lt hlt ([]:List (List Int));have hs:=ho.1.2 _ (List.getElem_mem hlt);by_cases hd0:o.trays[i].length=0
   .have hgt:decide ((o.trays[i].length:Int)>0)=false:=decide_eq_false (by omega)
    repeat' first|simp -dsimp only[go_sem,aQ hlt,cD,hgt,hw]|apply Br.mk<;>intro h<;>try simp -dsimp only[h]|refine aD.c (by first|exact cB _ hs.2 hs.1|exact vH o ho) ?_|refine aC ?_|fail
    all_goals first
     | (refine aU ?_;have hp:uF o i=false:=by(simp only[uF,hgi];simp_all)
        simp[tH,uW hlt hp];done)
     |(exact nx (i+1,()) (yM hg (by(simp only[uF,hgi];simp_all))))
   .have hgt:decide ((o.trays[i].length:Int)>0)=true:=decide_eq_true (by omega);have h0:0<o.trays[i].length:=by omega
    have hg0:=getD_lt h0 ([]:List Int);by_cases hww:o.trays[i][0].length=wO o.trays
    .have hb:((o.trays[i][0].length:Int) != (wO o.trays:Int))=false:=by simp[hww]
     repeat' first|simp -dsimp only[go_sem,aQ hlt,aQ h0,cD,hgt,cC,hb,hw]|apply Br.mk<;>intro h<;>try simp -dsimp only[h]|refine aD.c (by first|exact cB _ hs.2 hs.1|exact vH o ho) ?_|refine aC ?_|fail
     all_goals first
      | (refine aU ?_;have hp:uF o i=false:=by(simp only[uF,hgi,hg0];simp_all)
         simp[tH,uW hlt hp];done)
      |(exact nx (i+1,()) (yM hg (by(simp only[uF,hgi,hg0];simp_all))))
    .have hb:((o.trays[i][0].length:Int) != (wO o.trays:Int))=true:=by simp;omega
     repeat' first|simp -dsimp only[go_sem,aQ hlt,aQ h0,cD,hgt,cC,hb,hw]|apply Br.mk<;>intro h<;>try simp -dsimp only[h]|refine aD.c (by first|exact cB _ hs.2 hs.1|exact vH o ho) ?_|refine aC ?_|fail
     all_goals first
      | (refine aU ?_;have hp:uF o i=false:=by(simp only[uF,hgi,hg0];simp_all)
         simp[tH,uW hlt hp];done)
  .have hge:i=o.trays.length:=by
    have:¬i<o.trays.length:=Dq;omega
   subst hge;simp -dsimp only[go_sem];refine⟨?_,by simp⟩;refine Br.mk (λh=>?_) (λh=>?_)
   all_goals
    simp -dsimp only[go_sem,h]
    simp_all [tH]
theorem aBf (o:Off) (ho:dD o):Fz F.lC [.agg (cO o)] (.v (.bool (tH o))):=by
 refine fn0 Cd.i_ValidOffice_k λX=>?_;simp -dsimp only[go_sem,cO];by_cases h6:o.trays.length=6
 rotate_left
 .have hb:((o.trays.length:Int) != 6)=true:=by simp;omega
  have hb':((o.trays.length:Int)==6)=false:=by simp;omega
  simp -dsimp only[go_sem,hb];simp[tH,hb']
 have hb:((o.trays.length:Int) != 6)=false:=by simp;omega
 have hb':((o.trays.length:Int)==6)=true:=by simp;omega
 by_cases h20:(o.totals.length:Int)>20
 .have hb2:decide ((o.totals.length:Int)>20)=true:=decide_eq_true (by omega);have hb2':decide ((o.totals.length:Int)<=20)=false:=decide_eq_false (by omega);simp -dsimp only[go_sem,hb,hb2];simp[tH,hb2']
 have hb2:decide ((o.totals.length:Int)>20)=false:=decide_eq_false (by omega);have hb2':decide ((o.totals.length:Int)<=20)=true:=decide_eq_true (by omega);simp -dsimp only[go_sem,hb,hb2];refine aN.at dM (X:={zz:Nat×(Unit) // zz.1<=o.trays.length∧aCw zz.1 (uF o)=true}) (λzz=>[(18,.v (.int .i64 zz.1.1))]) (λzz=>[]) (λzz=>o.trays.length-zz.1.1) ⟨(0,()),by omega,aDM _⟩ ?_ ?_
 .exact le0
 .rintro⟨⟨i,_⟩,hi,hg⟩;dsimp only at hi hg;simp -dsimp only[go_sem];refine Br.mk (λhc=>?_) λhc=>?_
  .have hlt:i<o.trays.length:=Dq;have hw:=aH hlt ho.1.1;have hgi:=getD_lt hlt ([]:List (List Int));have hs:=ho.1.2 _ (List.getElem_mem hlt);by_cases hd0:o.trays[i].length=0
   .have hgt:decide ((o.trays[i].length:Int)>0)=false:=decide_eq_false (by omega)
    repeat' first|simp -dsimp only[go_sem,aQ hlt,cD,hgt,hw]|apply Br.mk<;>intro h<;>try simp -dsimp only[h]|refine aD.c (by first|exact lT _ hs.2 hs.1|exact nA _|exact kU o ho) ?_|refine aC ?_|fail
    all_goals first
     | (refine aU ?_;have hp:uF o i=false:=by(simp only[uF,hgi];simp_all)
        simp[tH,uW hlt hp];done)
     |(exact nx (i+1,()) (yM hg (by(simp only[uF,hgi];simp_all))))
   .have hgt:decide ((o.trays[i].length:Int)>0)=true:=decide_eq_true (by omega);have h0:0<o.trays[i].length:=by omega
    have hg0:=getD_lt h0 ([]:List Int);by_cases hww:o.trays[i][0].length=wO o.trays
    .have hb:((o.trays[i][0].length:Int) != (wO o.trays:Int))=false:=by simp[hww]
     repeat' first|simp -dsimp only[go_sem,aQ hlt,aQ h0,cD,hgt,cC,hb,hw]|apply Br.mk<;>intro h<;>try simp -dsimp only[h]|refine aD.c (by first|exact lT _ hs.2 hs.1|exact nA _|exact kU o ho) ?_|refine aC ?_|fail
     all_goals first
      | (refine aU ?_;have hp:uF o i=false:=by(simp only[uF,hgi,hg0];simp_all)
         simp[tH,uW hlt hp];done)
      |(exact nx (i+1,()) (yM hg (by(simp only[uF,hgi,hg0];simp_all))))
    .have hb:((o.trays[i][0].length:Int) != (wO o.trays:Int))=true:=by simp;omega
     repeat' first|simp -dsimp only[go_sem,aQ hlt,aQ h0,cD,hgt,cC,hb,hw]|apply Br.mk<;>intro h<;>try simp -dsimp only[h]|refine aD.c (by first|exact lT _ hs.2 hs.1|exact nA _|exact kU o ho) ?_|refine aC ?_|fail
     all_goals first
      | (refine aU ?_;have hp:uF o i=false:=by(simp only[uF,hgi,hg0];simp_all)
         simp[tH,uW hlt hp];done)
  .have hge:i=o.trays.length:=by
    have:¬i<o.trays.length:=Dq;omega
   subst hge;simp -dsimp only[go_sem];simp[tH,hg,hb',hb2']
end
end Go.Proofs.YtmiiohemehacjaaGreatDoor
