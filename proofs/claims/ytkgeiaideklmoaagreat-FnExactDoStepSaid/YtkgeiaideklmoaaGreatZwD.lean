/- Offices that are valid. -/
import Derived.Test.YtkgeiaideklmoaaGreatZwC
import Derived.Test.YtkgeiaideklmoaaGreatZuS
set_option linter.all false
set_option maxHeartbeats 8000000
namespace Go.Proofs.YtkgeiaideklmoaaGreat
open Go.Vs
variable [Vs.Envs]
attribute [local irreducible] Vs.Fn
def wO:List (List (List Int))->Nat
 | []=>20
 |d::r=>if d.length=0 then wO r else(d.getD 0 []).length
theorem aHe {l:List (List (List Int))}{i:Nat} (h:i<l.length):wO (l.drop i)=if l[i].length=0 then wO (l.drop (i+1)) else(l[i].getD 0 []).length:=by
 rw[Ci h,wO]
def uC (o:Off) (i:Nat):Bool:=bE (o.trays.getD i [])&&((o.trays.getD i []).length==0||((o.trays.getD i []).getD 0 []).length==wO o.trays)
def nP (o:Off):Bool:=aCq o.trays.length (uC o)&&(((o.trays.length:Int)==6)&&decide ((o.totals.length:Int)<=20))
theorem lI (o:Off) (ho:eD o):Fz F.fD [.agg (cO o)] (.v (.int .i64 (wO o.trays))):=by
 refine fn0 Cd.i_officeColumns_k λX=>?_;simp -dsimp only[go_sem,cO];refine aM.at dM (X:={zz:Nat×(Unit) // zz.1<=o.trays.length∧wO (o.trays.drop zz.1)=wO o.trays}) (λzz=>[(8,.v (.int .i64 zz.1.1))]) (λzz=>[]) (λzz=>o.trays.length-zz.1.1) ⟨(0,()),by omega,rfl⟩ ?_ ?_
 .exact le0
 .rintro⟨⟨i,_⟩,hi,hg⟩;dsimp only at hi hg;simp -dsimp only[go_sem];refine Br.mk (λhc=>?_) λhc=>?_
  .have hlt:i<o.trays.length:=Dq;have hw:=aG hlt ho.1.1;rw[aHe hlt] at hg;by_cases hd0:o.trays[i].length=0
   .have hgt:decide ((o.trays[i].length:Int)>0)=false:=AQ (by omega);rw[AP hd0] at hg
    repeat' first|simp -dsimp only[go_sem,aN hlt,cD,hgt,hw]|apply Br.mk<;>intro h<;>try simp -dsimp only[h]|refine aC ?_|fail
    all_goals(exact nx (i+1,()) hg)
   .have hgt:decide ((o.trays[i].length:Int)>0)=true:=A9 (by omega);have h0:0<o.trays[i].length:=by omega
    rw[AC hd0,getD_lt h0] at hg
    repeat' first|simp -dsimp only[go_sem,aN hlt,aN h0,cD,hgt,cC]|apply Br.mk<;>intro h<;>try simp -dsimp only[h]|refine aB.c (by first|exact pO _) ?_|refine aC ?_|fail
    all_goals(refine bK ?_;simp[←hg];done)
  .have hge:i=o.trays.length:=by
    have:¬i<o.trays.length:=Dq;omega
   subst hge;simp -dsimp only[go_sem];rw[De,wO] at hg;simp[←hg]
theorem aAD (o:Off) (ho:eD o):Fz F.nU [.ro (cO o)] (.v (.int .i64 (wO o.trays))):=by
 refine fn0 Cd.s_l15Width_k λX=>?_;simp -dsimp only[go_sem,cO];refine aM.at dM (X:={zz:Nat×(Unit) // zz.1<=o.trays.length∧wO (o.trays.drop zz.1)=wO o.trays}) (λzz=>[(3,.v (.int .i64 zz.1.1))]) (λzz=>[]) (λzz=>o.trays.length-zz.1.1) ⟨(0,()),by omega,rfl⟩ ?_ ?_
 .exact le0
 .rintro⟨⟨i,_⟩,hi,hg⟩;dsimp only at hi hg;simp -dsimp only[go_sem];refine Br.mk (λhc=>?_) λhc=>?_
  .have hlt:i<o.trays.length:=Dq;have hw:=aG hlt ho.1.1;rw[aHe hlt] at hg;by_cases hd0:o.trays[i].length=0
   .have hgt:decide ((o.trays[i].length:Int)>0)=false:=AQ (by omega);rw[AP hd0] at hg
    repeat' first|simp -dsimp only[go_sem,aN hlt,cD,hgt,hw]|apply Br.mk<;>intro h<;>try simp -dsimp only[h]|refine aC ?_|fail
    all_goals(exact nx (i+1,()) hg)
   .have hgt:decide ((o.trays[i].length:Int)>0)=true:=A9 (by omega);have h0:0<o.trays[i].length:=by omega
    rw[AC hd0,getD_lt h0] at hg
    repeat' first|simp -dsimp only[go_sem,aN hlt,aN h0,cD,hgt,cC]|apply Br.mk<;>intro h<;>try simp -dsimp only[h]|refine aB.c (by first|exact pO _) ?_|refine aC ?_|fail
    all_goals(refine bK ?_;simp[←hg];done)
  .have hge:i=o.trays.length:=by
    have:¬i<o.trays.length:=Dq;omega
   subst hge;simp -dsimp only[go_sem];rw[De,wO] at hg;simp[←hg]
theorem l15Ok (o:Off) (ho:eD o):Fz F.aAo [.ro (cO o)] (.v (.bool (nP o))):=by
 refine fn0 Cd.s_l15Ok_k λX=>?_;simp -dsimp only[go_sem,cO];refine aM.at dM (X:={zz:Nat×(Unit) // zz.1<=o.trays.length∧aCq zz.1 (uC o)=true}) (λzz=>[(3,.v (.int .i64 zz.1.1))]) (λzz=>[]) (λzz=>o.trays.length-zz.1.1) ⟨(0,()),by omega,aDx _⟩ ?_ ?_
 .exact le0
 .rintro⟨⟨i,_⟩,hi,hg⟩;dsimp only at hi hg;simp -dsimp only[go_sem];refine Br.mk (λhc=>?_) λhc=>?_
  .have hlt:i<o.trays.length:=Dq;have hw:=aG hlt ho.1.1;have hgi:=getD_lt hlt ([]:List (List Int));have hs:=ho.1.2 _ (Aa hlt);by_cases hd0:o.trays[i].length=0
   .have hgt:decide ((o.trays[i].length:Int)>0)=false:=AQ (by omega)
    repeat' first|simp -dsimp only[go_sem,aN hlt,cD,hgt,hw]|apply Br.mk<;>intro h<;>try simp -dsimp only[h]|refine aB.c (by first|exact dJ _ hs.2 hs.1|exact aAD o ho) ?_|refine aC ?_|fail
    all_goals first
     | (refine bK ?_;have hp:uC o i=false:=by(simp only[uC,hgi];simp_all)
        simp[nP,uO hlt hp];done)
     |(exact nx (i+1,()) (yH hg (by(simp only[uC,hgi];simp_all))))
   .have hgt:decide ((o.trays[i].length:Int)>0)=true:=A9 (by omega);have h0:0<o.trays[i].length:=by omega
    have hg0:=getD_lt h0 ([]:List Int);by_cases hww:o.trays[i][0].length=wO o.trays
    .have hb:((o.trays[i][0].length:Int) != (wO o.trays:Int))=false:=by simp[hww]
     repeat' first|simp -dsimp only[go_sem,aN hlt,aN h0,cD,hgt,cC,hb,hw]|apply Br.mk<;>intro h<;>try simp -dsimp only[h]|refine aB.c (by first|exact dJ _ hs.2 hs.1|exact aAD o ho) ?_|refine aC ?_|fail
     all_goals first
      | (refine bK ?_;have hp:uC o i=false:=by(simp only[uC,hgi,hg0];simp_all)
         simp[nP,uO hlt hp];done)
      |(exact nx (i+1,()) (yH hg (by(simp only[uC,hgi,hg0];simp_all))))
    .have hb:((o.trays[i][0].length:Int) != (wO o.trays:Int))=true:=by simp;omega
     repeat' first|simp -dsimp only[go_sem,aN hlt,aN h0,cD,hgt,cC,hb,hw]|apply Br.mk<;>intro h<;>try simp -dsimp only[h]|refine aB.c (by first|exact dJ _ hs.2 hs.1|exact aAD o ho) ?_|refine aC ?_|fail
     all_goals first
      | (refine bK ?_;have hp:uC o i=false:=by(simp only[uC,hgi,hg0];simp_all)
         simp[nP,uO hlt hp];done)
  .have hge:i=o.trays.length:=by
    have:¬i<o.trays.length:=Dq;omega
   subst hge;simp -dsimp only[go_sem];refine⟨?_,by simp⟩;refine Br.mk (λh=>?_) (λh=>?_)
   all_goals
    simp -dsimp only[go_sem,h]
    simp_all [nP]
theorem uW (o:Off) (ho:eD o):Fz F.jN [.agg (cO o)] (.v (.bool (nP o))):=by
 refine fn0 Cd.i_ValidOffice_k λX=>?_;simp -dsimp only[go_sem,cO];by_cases h6:o.trays.length=6
 rotate_left
 .have hb:((o.trays.length:Int) != 6)=true:=by simp;omega
  have hb':((o.trays.length:Int)==6)=false:=by simp;omega
  simp -dsimp only[go_sem,hb];simp[nP,hb']
 have hb:((o.trays.length:Int) != 6)=false:=by simp;omega
 have hb':((o.trays.length:Int)==6)=true:=by simp;omega
 by_cases h20:(o.totals.length:Int)>20
 .have hb2:decide ((o.totals.length:Int)>20)=true:=A9 (by omega);have hb2':decide ((o.totals.length:Int)<=20)=false:=AQ (by omega);simp -dsimp only[go_sem,hb,hb2];simp[nP,hb2']
 have hb2:decide ((o.totals.length:Int)>20)=false:=AQ (by omega);have hb2':decide ((o.totals.length:Int)<=20)=true:=A9 (by omega);simp -dsimp only[go_sem,hb,hb2];refine aM.at dM (X:={zz:Nat×(Unit) // zz.1<=o.trays.length∧aCq zz.1 (uC o)=true}) (λzz=>[(18,.v (.int .i64 zz.1.1))]) (λzz=>[]) (λzz=>o.trays.length-zz.1.1) ⟨(0,()),by omega,aDx _⟩ ?_ ?_
 .exact le0
 .rintro⟨⟨i,_⟩,hi,hg⟩;dsimp only at hi hg;simp -dsimp only[go_sem];refine Br.mk (λhc=>?_) λhc=>?_
  .have hlt:i<o.trays.length:=Dq;have hw:=aG hlt ho.1.1;have hgi:=getD_lt hlt ([]:List (List Int));have hs:=ho.1.2 _ (Aa hlt);by_cases hd0:o.trays[i].length=0
   .have hgt:decide ((o.trays[i].length:Int)>0)=false:=AQ (by omega)
    repeat' first|simp -dsimp only[go_sem,aN hlt,cD,hgt,hw]|apply Br.mk<;>intro h<;>try simp -dsimp only[h]|refine aB.c (by first|exact mH _ hs.2 hs.1|exact pO _|exact lI o ho) ?_|refine aC ?_|fail
    all_goals first
     | (refine bK ?_;have hp:uC o i=false:=by(simp only[uC,hgi];simp_all)
        simp[nP,uO hlt hp];done)
     |(exact nx (i+1,()) (yH hg (by(simp only[uC,hgi];simp_all))))
   .have hgt:decide ((o.trays[i].length:Int)>0)=true:=A9 (by omega);have h0:0<o.trays[i].length:=by omega
    have hg0:=getD_lt h0 ([]:List Int);by_cases hww:o.trays[i][0].length=wO o.trays
    .have hb:((o.trays[i][0].length:Int) != (wO o.trays:Int))=false:=by simp[hww]
     repeat' first|simp -dsimp only[go_sem,aN hlt,aN h0,cD,hgt,cC,hb,hw]|apply Br.mk<;>intro h<;>try simp -dsimp only[h]|refine aB.c (by first|exact mH _ hs.2 hs.1|exact pO _|exact lI o ho) ?_|refine aC ?_|fail
     all_goals first
      | (refine bK ?_;have hp:uC o i=false:=by(simp only[uC,hgi,hg0];simp_all)
         simp[nP,uO hlt hp];done)
      |(exact nx (i+1,()) (yH hg (by(simp only[uC,hgi,hg0];simp_all))))
    .have hb:((o.trays[i][0].length:Int) != (wO o.trays:Int))=true:=by simp;omega
     repeat' first|simp -dsimp only[go_sem,aN hlt,aN h0,cD,hgt,cC,hb,hw]|apply Br.mk<;>intro h<;>try simp -dsimp only[h]|refine aB.c (by first|exact mH _ hs.2 hs.1|exact pO _|exact lI o ho) ?_|refine aC ?_|fail
     all_goals first
      | (refine bK ?_;have hp:uC o i=false:=by(simp only[uC,hgi,hg0];simp_all)
         simp[nP,uO hlt hp];done)
  .have hge:i=o.trays.length:=by
    have:¬i<o.trays.length:=Dq;omega
   subst hge;simp -dsimp only[go_sem];simp[nP,hg,hb',hb2']
end Go.Proofs.YtkgeiaideklmoaaGreat
