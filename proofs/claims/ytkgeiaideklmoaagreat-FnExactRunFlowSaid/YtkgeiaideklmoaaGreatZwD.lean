/- Offices that are valid. -/
import Derived.Test.YtkgeiaideklmoaaGreatZwC
import Derived.Test.YtkgeiaideklmoaaGreatZuS
set_option linter.all false
set_option maxHeartbeats 8000000
namespace Go.Proofs.YtkgeiaideklmoaaGreat
open Go.Vs
variable [Vs.Envs]
attribute [local irreducible] Vs.Fn
def wO:List (List (List Int))->Nat
 | []=>20
 |d::r=>if d.length=0 then wO r else(d.getD 0 []).length
theorem aHI {l:List (List (List Int))}{i:Nat} (h:i<l.length):wO (l.drop i)=if l[i].length=0 then wO (l.drop (i+1)) else(l[i].getD 0 []).length:=by
 rw[BS h,wO]
def uL (o:Off) (i:Nat):Bool:=bF (o.trays.getD i [])&&((o.trays.getD i []).length==0||((o.trays.getD i []).getD 0 []).length==wO o.trays)
def lC (o:Off):Bool:=aCL o.trays.length (uL o)&&(((o.trays.length:Int)==6)&&decide ((o.totals.length:Int)<=20))
theorem lS (o:Off) (ho:dY o):Fz F.fE [.agg (cO o)] (.v (.int .i64 (wO o.trays))):=by
 refine fn0 Cd.i_officeColumns_k λX=>?_;simp -dsimp only[go_sem,cO];refine aM.at dM (X:={zz:Nat×(Unit) // zz.1<=o.trays.length∧wO (o.trays.drop zz.1)=wO o.trays}) (λzz=>[(8,.v (.int .i64 zz.1.1))]) (λzz=>[]) (λzz=>o.trays.length-zz.1.1) ⟨(0,()),by omega,rfl⟩ ?_ ?_
 .exact le0
 .rintro⟨⟨i,_⟩,hi,hg⟩;dsimp only at hi hg;simp -dsimp only[go_sem];refine Br.mk (λhc=>?_) λhc=>?_
  .have hlt:i<o.trays.length:=Dq;have hw:=aG hlt ho.1.1;rw[aHI hlt] at hg;by_cases hd0:o.trays[i].length=0
   .have hgt:decide ((o.trays[i].length:Int)>0)=false:=AO (by omega);rw[AP hd0] at hg
    repeat' first|simp -dsimp only[go_sem,aN hlt,cD,hgt,hw]|apply Br.mk<;>intro h<;>try simp -dsimp only[h]|refine aC ?_|fail
    all_goals(exact nx (i+1,()) hg)
   .have hgt:decide ((o.trays[i].length:Int)>0)=true:=A7 (by omega);have h0:0<o.trays[i].length:=by omega
    rw[AB hd0,getD_lt h0] at hg
    repeat' first|simp -dsimp only[go_sem,aN hlt,aN h0,cD,hgt,cC]|apply Br.mk<;>intro h<;>try simp -dsimp only[h]|refine aB.c (by first|exact pX _) ?_|refine aC ?_|fail
    all_goals(refine bN ?_;simp[←hg];done)
  .have hge:i=o.trays.length:=by
    have:¬i<o.trays.length:=Dq;omega
   subst hge;simp -dsimp only[go_sem];rw[CV,wO] at hg;simp[←hg]
theorem xZ (o:Off) (ho:dY o):Fz F.mG [.ro (cO o)] (.v (.int .i64 (wO o.trays))):=by
 refine fn0 Cd.s_l15Width_k λX=>?_;simp -dsimp only[go_sem,cO];refine aM.at dM (X:={zz:Nat×(Unit) // zz.1<=o.trays.length∧wO (o.trays.drop zz.1)=wO o.trays}) (λzz=>[(3,.v (.int .i64 zz.1.1))]) (λzz=>[]) (λzz=>o.trays.length-zz.1.1) ⟨(0,()),by omega,rfl⟩ ?_ ?_
 .exact le0
 .rintro⟨⟨i,_⟩,hi,hg⟩;dsimp only at hi hg;simp -dsimp only[go_sem];refine Br.mk (λhc=>?_) λhc=>?_
  .have hlt:i<o.trays.length:=Dq;have hw:=aG hlt ho.1.1;rw[aHI hlt] at hg;by_cases hd0:o.trays[i].length=0
   .have hgt:decide ((o.trays[i].length:Int)>0)=false:=AO (by omega);rw[AP hd0] at hg
    repeat' first|simp -dsimp only[go_sem,aN hlt,cD,hgt,hw]|apply Br.mk<;>intro h<;>try simp -dsimp only[h]|refine aC ?_|fail
    all_goals(exact nx (i+1,()) hg)
   .have hgt:decide ((o.trays[i].length:Int)>0)=true:=A7 (by omega);have h0:0<o.trays[i].length:=by omega
    rw[AB hd0,getD_lt h0] at hg
    repeat' first|simp -dsimp only[go_sem,aN hlt,aN h0,cD,hgt,cC]|apply Br.mk<;>intro h<;>try simp -dsimp only[h]|refine aB.c (by first|exact pX _) ?_|refine aC ?_|fail
    all_goals(refine bN ?_;simp[←hg];done)
  .have hge:i=o.trays.length:=by
    have:¬i<o.trays.length:=Dq;omega
   subst hge;simp -dsimp only[go_sem];rw[CV,wO] at hg;simp[←hg]
theorem l15Ok (o:Off) (ho:dY o):Fz F.aAD [.ro (cO o)] (.v (.bool (lC o))):=by
 refine fn0 Cd.s_l15Ok_k λX=>?_;simp -dsimp only[go_sem,cO];refine aM.at dM (X:={zz:Nat×(Unit) // zz.1<=o.trays.length∧aCL zz.1 (uL o)=true}) (λzz=>[(3,.v (.int .i64 zz.1.1))]) (λzz=>[]) (λzz=>o.trays.length-zz.1.1) ⟨(0,()),by omega,aDW _⟩ ?_ ?_
 .exact le0
 .rintro⟨⟨i,_⟩,hi,hg⟩;dsimp only at hi hg;simp -dsimp only[go_sem];refine Br.mk (λhc=>?_) λhc=>?_
  .have hlt:i<o.trays.length:=Dq;have hw:=aG hlt ho.1.1;have hgi:=getD_lt hlt ([]:List (List Int));have hs:=ho.1.2 _ (Aa hlt);by_cases hd0:o.trays[i].length=0
   .have hgt:decide ((o.trays[i].length:Int)>0)=false:=AO (by omega)
    repeat' first|simp -dsimp only[go_sem,aN hlt,cD,hgt,hw]|apply Br.mk<;>intro h<;>try simp -dsimp only[h]|refine aB.c (by first|exact dK _ hs.2 hs.1|exact xZ o ho) ?_|refine aC ?_|fail
    all_goals first
     | (refine bN ?_;have hp:uL o i=false:=by(simp only[uL,hgi];simp_all)
        simp[lC,uY hlt hp];done)
     |(exact nx (i+1,()) (yY hg (by(simp only[uL,hgi];simp_all))))
   .have hgt:decide ((o.trays[i].length:Int)>0)=true:=A7 (by omega);have h0:0<o.trays[i].length:=by omega
    have hg0:=getD_lt h0 ([]:List Int);by_cases hww:o.trays[i][0].length=wO o.trays
    .have hb:((o.trays[i][0].length:Int) != (wO o.trays:Int))=false:=by simp[hww]
     repeat' first|simp -dsimp only[go_sem,aN hlt,aN h0,cD,hgt,cC,hb,hw]|apply Br.mk<;>intro h<;>try simp -dsimp only[h]|refine aB.c (by first|exact dK _ hs.2 hs.1|exact xZ o ho) ?_|refine aC ?_|fail
     all_goals first
      | (refine bN ?_;have hp:uL o i=false:=by(simp only[uL,hgi,hg0];simp_all)
         simp[lC,uY hlt hp];done)
      |(exact nx (i+1,()) (yY hg (by(simp only[uL,hgi,hg0];simp_all))))
    .have hb:((o.trays[i][0].length:Int) != (wO o.trays:Int))=true:=by simp;omega
     repeat' first|simp -dsimp only[go_sem,aN hlt,aN h0,cD,hgt,cC,hb,hw]|apply Br.mk<;>intro h<;>try simp -dsimp only[h]|refine aB.c (by first|exact dK _ hs.2 hs.1|exact xZ o ho) ?_|refine aC ?_|fail
     all_goals first
      | (refine bN ?_;have hp:uL o i=false:=by(simp only[uL,hgi,hg0];simp_all)
         simp[lC,uY hlt hp];done)
  .have hge:i=o.trays.length:=by
    have:¬i<o.trays.length:=Dq;omega
   subst hge;simp -dsimp only[go_sem];refine⟨?_,by simp⟩;refine Br.mk (λh=>?_) (λh=>?_)
   all_goals
    simp -dsimp only[go_sem,h]
    simp_all [lC]
theorem vJ (o:Off) (ho:dY o):Fz F.jP [.agg (cO o)] (.v (.bool (lC o))):=by
 refine fn0 Cd.i_ValidOffice_k λX=>?_;simp -dsimp only[go_sem,cO];by_cases h6:o.trays.length=6
 rotate_left
 .have hb:((o.trays.length:Int) != 6)=true:=by simp;omega
  have hb':((o.trays.length:Int)==6)=false:=by simp;omega
  simp -dsimp only[go_sem,hb];simp[lC,hb']
 have hb:((o.trays.length:Int) != 6)=false:=by simp;omega
 have hb':((o.trays.length:Int)==6)=true:=by simp;omega
 by_cases h20:(o.totals.length:Int)>20
 .have hb2:decide ((o.totals.length:Int)>20)=true:=A7 (by omega);have hb2':decide ((o.totals.length:Int)<=20)=false:=AO (by omega);simp -dsimp only[go_sem,hb,hb2];simp[lC,hb2']
 have hb2:decide ((o.totals.length:Int)>20)=false:=AO (by omega);have hb2':decide ((o.totals.length:Int)<=20)=true:=A7 (by omega);simp -dsimp only[go_sem,hb,hb2];refine aM.at dM (X:={zz:Nat×(Unit) // zz.1<=o.trays.length∧aCL zz.1 (uL o)=true}) (λzz=>[(18,.v (.int .i64 zz.1.1))]) (λzz=>[]) (λzz=>o.trays.length-zz.1.1) ⟨(0,()),by omega,aDW _⟩ ?_ ?_
 .exact le0
 .rintro⟨⟨i,_⟩,hi,hg⟩;dsimp only at hi hg;simp -dsimp only[go_sem];refine Br.mk (λhc=>?_) λhc=>?_
  .have hlt:i<o.trays.length:=Dq;have hw:=aG hlt ho.1.1;have hgi:=getD_lt hlt ([]:List (List Int));have hs:=ho.1.2 _ (Aa hlt);by_cases hd0:o.trays[i].length=0
   .have hgt:decide ((o.trays[i].length:Int)>0)=false:=AO (by omega)
    repeat' first|simp -dsimp only[go_sem,aN hlt,cD,hgt,hw]|apply Br.mk<;>intro h<;>try simp -dsimp only[h]|refine aB.c (by first|exact mR _ hs.2 hs.1|exact pX _|exact lS o ho) ?_|refine aC ?_|fail
    all_goals first
     | (refine bN ?_;have hp:uL o i=false:=by(simp only[uL,hgi];simp_all)
        simp[lC,uY hlt hp];done)
     |(exact nx (i+1,()) (yY hg (by(simp only[uL,hgi];simp_all))))
   .have hgt:decide ((o.trays[i].length:Int)>0)=true:=A7 (by omega);have h0:0<o.trays[i].length:=by omega
    have hg0:=getD_lt h0 ([]:List Int);by_cases hww:o.trays[i][0].length=wO o.trays
    .have hb:((o.trays[i][0].length:Int) != (wO o.trays:Int))=false:=by simp[hww]
     repeat' first|simp -dsimp only[go_sem,aN hlt,aN h0,cD,hgt,cC,hb,hw]|apply Br.mk<;>intro h<;>try simp -dsimp only[h]|refine aB.c (by first|exact mR _ hs.2 hs.1|exact pX _|exact lS o ho) ?_|refine aC ?_|fail
     all_goals first
      | (refine bN ?_;have hp:uL o i=false:=by(simp only[uL,hgi,hg0];simp_all)
         simp[lC,uY hlt hp];done)
      |(exact nx (i+1,()) (yY hg (by(simp only[uL,hgi,hg0];simp_all))))
    .have hb:((o.trays[i][0].length:Int) != (wO o.trays:Int))=true:=by simp;omega
     repeat' first|simp -dsimp only[go_sem,aN hlt,aN h0,cD,hgt,cC,hb,hw]|apply Br.mk<;>intro h<;>try simp -dsimp only[h]|refine aB.c (by first|exact mR _ hs.2 hs.1|exact pX _|exact lS o ho) ?_|refine aC ?_|fail
     all_goals first
      | (refine bN ?_;have hp:uL o i=false:=by(simp only[uL,hgi,hg0];simp_all)
         simp[lC,uY hlt hp];done)
  .have hge:i=o.trays.length:=by
    have:¬i<o.trays.length:=Dq;omega
   subst hge;simp -dsimp only[go_sem];simp[lC,hg,hb',hb2']
end Go.Proofs.YtkgeiaideklmoaaGreat
