/- The reference's number of a field. -/
import Derived.Test.YtkgeiaideklmoaaGreatZuR
import Derived.Test.YtkgeiaideklmoaaGreatVtR
import Derived.Test.YtkgeiaideklmoaaGreatVtK
import Derived.Lib.ItoaNum
set_option linter.all false
set_option maxHeartbeats 8000000
namespace Go.Proofs.YtkgeiaideklmoaaGreat
open Go.Vs
section
variable [Vs.Envs]
attribute [local irreducible] Vs.Fn chOK areCh chTo chAt l03
theorem aDO {r a b:Int} (h:inB r a b=true):a≤r:=by
 simp only[inB,Bool.and_eq_true,decide_eq_true_eq] at h;omega
def uJ (r:Int):Int:=if r=12 then 1 else if r=11 then 2 else if inB r 0 9 then W (4*2 ^ (min r.toNat 64)) else 0
def cdP (n:Int):Int×Bool:=
 if n=32 then(0,true) else if n=38 then(uJ 12,true) else if n=45 then(uJ 11,true) else if aA1 n then(uJ (W (IntKind.u8.wrap (n-48))),true)
 else if btw n 65 73 then(orI (uJ 12) (uJ (W (W (IntKind.u8.wrap (n-65))+1))),true) else if btw n 74 82 then(orI (uJ 11) (uJ (W (W (IntKind.u8.wrap (n-74))+1))),true)
 else if n=47 then(orI (uJ 0) (uJ 1),true) else if btw n 83 90 then(orI (uJ 0) (uJ (W (W (IntKind.u8.wrap (n-83))+2))),true) else(0,false)
theorem aLT (r:Int):Fz F.eF [.v (.int .i64 r)] (.v (.int .i64 (uJ r))):=by
 refine fn0 Cd.i_bitOf_k fun X=>?_
 repeat' first|simp -dsimp only[go_sem]|apply Br.mk<;>intro h<;>try simp -dsimp only[h]|refine RgK.mk rfl ?_|refine aD.c (by first|exact inside _ _ _) ?_|refine And.intro (by first|rfl|omega|decide|exact aDO (by assumption)|(refine⟨?_,?_⟩<;>(first|rfl|omega|decide|exact aDO (by assumption)))|(refine⟨?_,?_,?_⟩<;>(first|rfl|omega|decide|exact aDO (by assumption)))|(refine⟨?_,?_,?_,?_⟩<;>(first|rfl|omega|decide|exact aDO (by assumption)))) ?_|fail
 all_goals(simp_all [uJ,IntKind.bits])
theorem isDigit (n:Int):Fz F.uB [.v (.int .u8 n)] (.v (.bool (aA1 n))):=by
 refine fn0 Cd.i_isDigit_k fun X=>?_
 repeat' first|simp -dsimp only[go_sem]|apply Br.mk<;>intro h<;>try simp -dsimp only[h]|refine aC ?_|fail
 all_goals(first|(simp_all [aA1];done)|(simp_all [aA1];omega))
theorem aL1 (n:Int):Fz F.wQ [.v (.int .u8 n)] (.tup [.v (.int .i64 (cdP n).1),.v (.bool (cdP n).2)]):=by
 refine fn0 Cd.i_CodeOf_k fun X=>?_
 repeat' first|simp -dsimp only[go_sem]|apply Br.mk<;>intro h<;>try simp -dsimp only[h]|refine aD.c (by first|exact aLT _|exact isDigit _) ?_|refine aC ?_|fail
 all_goals(first|(simp_all [cdP,btw,orI];done)|(refine aV ?_;grind [cdP,btw,orI]))
def cd3 (n:Int):Int:=(cdP n).1
theorem codeOf (n:Int):Fz F.uD [.v (.int .u8 n)] (.v (.int .i64 (cd3 n))):=by
 refine fn0 Cd.i_codeOf_k fun X=>?_
 repeat' first|simp -dsimp only[go_sem]|apply Br.mk<;>intro h<;>try simp -dsimp only[h]|refine aD.c (by first|exact aL1 _) ?_|refine aC ?_|fail
 all_goals(simp_all [cd3])
def chB (i:Nat):Nat:=(CH.data.toList.getD i 0).toNat
set_option maxRecDepth 100000 in
theorem aKK:∀i:Nat,i<40→cd3 (chB i)=l03 (chB i)∧0≤l03 (chB i):=by decide +kernel
def rkF (m:Int):Nat→Nat→Int
 |0,_=>-1
 |k+1,i=>if l03 (chB i)=m then i else rkF m k (i+1)
def rk (m:Int):Int:=rkF m 40 0
theorem aEo (m:Int) {i:Nat} (h:i<40):rkF m (40-i) i=if l03 (chB i)=m then(i:Int) else rkF m (40-(i+1)) (i+1):=by
 rw[show 40-i=(40-(i+1))+1 by omega,rkF]
theorem aDy (m:Int):∀(k i:Nat),k+i=40→-1≤rkF m k i∧rkF m k i<40∧(0≤rkF m k i→l03 (chB (rkF m k i).toNat)=m)
 |0,_,_=>by simp[rkF]
 | k+1,i,h=>by
  rw[rkF];split
  ·rename_i F;exact⟨by omega,by omega,fun _=>by simpa using F⟩
  ·exact aDy m k (i+1) (by omega)
theorem aBJ (m:Int):-1≤rk m∧rk m<40:=⟨(aDy m 40 0 rfl).1,(aDy m 40 0 rfl).2.1⟩
theorem aGA {m:Int} (h:0≤rk m):l03 (chB (rk m).toNat)=m:=(aDy m 40 0 rfl).2.2 h
theorem aIB {a b:Int} (h:0≤rk a) (F:rk a=rk b):a=b:=by
 rw[←aGA h,F,aGA (F ▸ h)]
theorem chL (i:Nat):(([32,38,65,66,67,68,69,70,71,72,73,45,74,75,76,77,78,79,80,81,82,47,83,84,85,86,87,88,89,90,48,49,50,51,52,53,54,55,56,57]:List UInt8).getD i 0).toNat=chB i:=rfl
theorem chS:(⟨#[32,38,65,66,67,68,69,70,71,72,73,45,74,75,76,77,78,79,80,81,82,47,83,84,85,86,87,88,89,90,48,49,50,51,52,53,54,55,56,57]⟩:ByteArray).size=40:=rfl
attribute [local irreducible] chB rk cd3
theorem aBL (m:Int):Fz F.oM [.v (.int .i64 m)] (.v (.int .i64 (rk m))):=by
 refine fn0 Cd.i_rankOf_k fun X=>?_;simp -dsimp only[go_sem];refine aN.at dM (X:={zz:Nat×(Unit) // zz.1≤40∧rkF m (40-zz.1) zz.1=rk m}) (fun zz=>[(3,.v (.int .i64 zz.1.1))]) (fun zz=>[]) (fun zz=>40-zz.1.1) ⟨(0,()),by omega,by unfold rk;rfl⟩ ?_ ?_
 ·exact le0
 ·rintro⟨⟨i,_⟩,hi,hg⟩;dsimp only at hi hg;simp -dsimp only[go_sem];refine Br.mk (fun hc=>?_) fun hc=>?_
  ·have hlt:i<40:=Dq;have hw:=aH hlt (by omega);rw[aEo m hlt] at hg;have hcb:=(aKK i hlt).1;by_cases hz:l03 (chB i)=m
   ·have ez:(l03 (chB i)==m)=true:=beq_iff_eq.2 hz;rw[if_pos hz] at hg
    repeat' first|simp -dsimp only[go_sem,hw,chL,chS,hcb,ez]|apply Br.mk<;>intro h<;>try simp -dsimp only[h]|refine aD.c (by first|exact codeOf _) ?_|refine aC ?_|fail
    all_goals simp[←hg]
   ·have ez:(l03 (chB i)==m)=false:=beq_eq_false_iff_ne.2 hz;rw[if_neg hz] at hg
    repeat' first|simp -dsimp only[go_sem,hw,chL,chS,hcb,ez]|apply Br.mk<;>intro h<;>try simp -dsimp only[h]|refine aD.c (by first|exact codeOf _) ?_|refine aC ?_|fail
    all_goals(exact nx (i+1,()) hg)
  ·have hge:i=40:=by
    have:¬i<40:=Dq;omega
   subst hge;simp -dsimp only[go_sem];have:rk m=-1:=by rw[←hg];rfl
   simp[this]
end
section
variable [Vs.Envs]
attribute [local irreducible] Vs.Fn chOK areCh chTo chAt l03 chB rk cd3
def cU (n:Int):List AV:=[.v (.int .u8 n)]
theorem qR:∀l:List Int,qU (E cU l)=some l
 | []=>rfl
 | n::r=>by
  have:=qR r;simp only[E,List.map_cons,cU,qU] at this⊢;rw[this]
def chI (m:Int):Int:=(chB (rk m).toNat:Int)
def txt (l:List Int):ByteArray:=aBE (l.map chI)
def bY (l:List Int):Bool:=l.all fun m=>decide (0≤rk m)
theorem aLQ:∀i:Nat,i<40→chB i<256:=fun i _=>by unfold chB;exact UInt8.toNat_lt _
theorem aJd (m:Int):Fz F.bS [.v (.int .i64 m)] (.v (.bool (decide (rk m<0)))):=by
 refine fn0 Cd.i_hasCharacters_1_k fun X=>?_
 repeat' first|simp -dsimp only[go_sem]|apply Br.mk<;>intro h<;>try simp -dsimp only[h]|refine aD.c (by first|exact aBL _) ?_|refine aC ?_|fail
 all_goals(simp_all)
theorem idxCh (l:List Int) (G:l.length≤1048576):Fz F.jG [.sl 1 (E cI l),.fn F.bS []] (.v (.int .i64 (rA (fun m=>decide (rk m<0)) l))):=
 aFM Tryz.mixed Cd.ixf_int64_k.o Cd.ixf_int64_k.n Cd.ixf_int64_k.r rfl (fun m=>decide (rk m<0)) F.bS [] rfl (fun m H=>aJd m) G
theorem conCh (l:List Int) (G:l.length≤1048576):Fz F.kL [.sl 1 (E cI l),.fn F.bS []] (.v (.bool (l.any (fun m=>decide (rk m<0))))):=
 aC1 Tryz.mixed (g:=F.jG) Cd.ctf_int64_k.o Cd.ctf_int64_k.n Cd.ctf_int64_k.r rfl (fun m=>decide (rk m<0)) F.bS [] rfl (idxCh l G)
theorem aDb (l:List Int):(!l.any fun m=>decide (rk m<0))=bY l:=by
 unfold bY
 induction l with
 |nil=>rfl
 | cons x r ih =>
  simp only[List.any_cons,List.all_cons,Bool.not_or,ih];congr 1;by_cases h:rk x<0<;>simp[h]<;>omega
theorem aCx (l:List Int) (G:l.length≤1048576):Fz F.iZ [.sl 1 (E cI l)] (.v (.bool (bY l))):=by
 refine fn0 Cd.i_hasCharacters_k fun X=>?_
 repeat' first|simp -dsimp only[go_sem]|apply Br.mk<;>intro h<;>try simp -dsimp only[h]|refine aD.c (by first|exact conCh l G) ?_|refine aC ?_|fail
 all_goals(first|(simp_all [aDb];done)|(refine aV ?_;have e:=aDb l;simp_all))
theorem aEM  : Fz F.nI [] (.v (.string ⟨#[32,38,65,66,67,68,69,70,71,72,73,45,74,75,76,77,78,79,80,81,82,47,83,84,85,86,87,88,89,90,48,49,50,51,52,53,54,55,56,57]⟩)):=by
 refine fn0 Cd.s_l03Order_k fun X=>?_
 repeat' first|simp -dsimp only[go_sem]|apply Br.mk<;>intro h<;>try simp -dsimp only[h]|refine aC ?_|fail
 all_goals(simp_all)
theorem aLf:(⟨#[32,38,65,66,67,68,69,70,71,72,73,45,74,75,76,77,78,79,80,81,82,47,83,84,85,86,87,88,89,90,48,49,50,51,52,53,54,55,56,57]⟩:ByteArray)=CH:=rfl
theorem sF:CH.size=40:=rfl
theorem aHc (i:Nat):(CH.data.toList.getD i 0).toNat=chB i:=by unfold chB;rfl
set_option maxRecDepth 100000 in
theorem aGZ:∀i:Nat,i<40→∀j:Nat,j<40→chB i=chB j→i=j:=by decide +kernel
def aEN (m:Int):Int×Bool:=if 0≤rk m then(chI m,true) else(0,false)
theorem aGM (m:Int):Fz F.sZ [.v (.int .i64 m)] (.tup [.v (.int .u8 (aEN m).1),.v (.bool (aEN m).2)]):=by
 refine fn0 Cd.s_l03Char_k fun X=>?_;simp -dsimp only[go_sem];refine aD.flat aEM rfl ?_;simp -dsimp only[go_sem,aLf];refine aN.at dM (X:={zz:Nat×(Unit) // zz.1≤40∧rkF m (40-zz.1) zz.1=rk m}) (fun zz=>[(5,.v (.int .i64 zz.1.1))]) (fun zz=>[]) (fun zz=>40-zz.1.1) ⟨(0,()),by omega,by unfold rk;rfl⟩ ?_ ?_
 ·exact le0
 ·rintro⟨⟨i,_⟩,hi,hg⟩;dsimp only at hi hg;simp -dsimp only[go_sem,sF];refine Br.mk (fun hc=>?_) fun hc=>?_
  ·have hlt:i<40:=Dq;have hw:=aH hlt (by omega);rw[aEo m hlt] at hg;have h8:i<CH.size:=hlt;by_cases hz:l03 (chB i)=m
   ·have ez:(l03 (chB i)==m)=true:=beq_iff_eq.2 hz;rw[if_pos hz] at hg
    repeat' first|simp -dsimp only[go_sem,hw,sF,aHc,ez]|apply Br.mk<;>intro h<;>try simp -dsimp only[h]|refine aD.c (by first|exact aDL _) ?_|refine aC ?_|fail
    all_goals first
     |(refine aV ?_;have hr:rk m=(i:Int):=hg.symm;simp[aEN,chI,hr];done)
     |omega
   ·have ez:(l03 (chB i)==m)=false:=beq_eq_false_iff_ne.2 hz;rw[if_neg hz] at hg
    repeat' first|simp -dsimp only[go_sem,hw,sF,aHc,ez]|apply Br.mk<;>intro h<;>try simp -dsimp only[h]|refine aD.c (by first|exact aDL _) ?_|refine aC ?_|fail
    all_goals first|omega|(exact nx (i+1,()) hg)
  ·have hge:i=40:=by
    have:¬i<40:=Dq;omega
   subst hge;simp -dsimp only[go_sem,sF];have:rk m=-1:=by rw[←hg];rfl
   simp[aEN,this]
theorem aDK (k:Nat) (hk:k<40):Fz F.pY [.v (.int .u8 (chB k))] (.v (.int .i64 (k:Int))):=by
 refine fn0 Cd.s_l03Rank_k fun X=>?_;simp -dsimp only[go_sem];refine aD.flat aEM rfl ?_;simp -dsimp only[go_sem,aLf];refine aN.at dM (X:={zz:Nat×(Unit) // zz.1≤40∧zz.1≤k}) (fun zz=>[(4,.v (.int .i64 zz.1.1))]) (fun zz=>[]) (fun zz=>40-zz.1.1) ⟨(0,()),by omega,by omega⟩ ?_ ?_
 ·exact le0
 ·rintro⟨⟨i,_⟩,hi,hg⟩;dsimp only at hi hg;simp -dsimp only[go_sem,sF];refine Br.mk (fun hc=>?_) fun hc=>?_
  ·have hlt:i<40:=Dq;have hw:=aH hlt (by omega);have h8:i<CH.size:=hlt;by_cases hz:i=k
   ·subst hz;have ez:((chB i:Int)==(chB i:Int))=true:=beq_iff_eq.2 rfl
    repeat' first|simp -dsimp only[go_sem,hw,sF,aHc,ez]|apply Br.mk<;>intro h<;>try simp -dsimp only[h]|refine aC ?_|fail
    all_goals first|(simp_all;done)|omega
   ·have ez:((chB i:Int)==(chB k:Int))=false:=beq_eq_false_iff_ne.2 (fun h=>hz (aGZ i hlt k hk (by omega)))
    repeat' first|simp -dsimp only[go_sem,hw,sF,aHc,ez]|apply Br.mk<;>intro h<;>try simp -dsimp only[h]|refine aC ?_|fail
    all_goals first|omega|(exact nx (i+1,()) (by dsimp only at hg⊢;omega))
  ·have hge:i=40:=by
    have:¬i<40:=Dq;omega
   subst hge;simp -dsimp only[go_sem,sF];omega
end
section
variable [Vs.Envs]
attribute [local irreducible] Vs.Fn
end
section
variable [Vs.Envs]
attribute [local irreducible] Vs.Fn
end
section
variable [Vs.Envs]
attribute [local irreducible] Vs.Fn
end
section
variable [Vs.Envs]
attribute [local irreducible] Vs.Fn
def aCm (i:Nat):Int:=((4*2 ^ i:Nat):Int)
theorem shl4 {i:Nat} (hi:i<10):IntKind.i64.wrap (4*2 ^ (min i IntKind.i64.bits))=aCm i:=by
 have:i=0∨i=1∨i=2∨i=3∨i=4∨i=5∨i=6∨i=7∨i=8∨i=9:=by omega
 rcases this with rfl|rfl|rfl|rfl|rfl|rfl|rfl|rfl|rfl|rfl<;>decide
theorem u64I {i:Nat} (hi:i<10):IntKind.u64.wrap (i:Int)=(i:Int):=by
 have:i=0∨i=1∨i=2∨i=3∨i=4∨i=5∨i=6∨i=7∨i=8∨i=9:=by omega
 rcases this with rfl|rfl|rfl|rfl|rfl|rfl|rfl|rfl|rfl|rfl<;>decide
theorem aLb (i:Nat) (hi:i<10):Fz F.eF [.v (.int .i64 (i:Int))] (.v (.int .i64 (aCm i))):=by
 have G:((i:Int)==12)=false:=beq_eq_false_iff_ne.2 (by omega);have H:((i:Int)==11)=false:=beq_eq_false_iff_ne.2 (by omega);have I:inB i 0 9=true:=by simp[inB];omega
 have J:=shl4 hi;have L:=u64I hi;have M:(0:Int)≤(i:Int):=by omega
 refine fn0 Cd.i_bitOf_k fun X=>?_
 repeat' first|simp -dsimp only[go_sem,G,H,I,J,L,M]|apply Br.mk<;>intro h<;>try simp -dsimp only[h]|refine aD.c (by first|exact inside _ _ _) ?_|refine aC ?_|fail
 all_goals first|(simp_all;done)|(simp_all;exact shl4 hi)
theorem aI3 (i:Nat) (hi:i<10):Fz F.jV [.v (.int .i64 (i:Int))] (.v (.int .i64 (aCm i))):=by
 have G:((i:Int)==12)=false:=beq_eq_false_iff_ne.2 (by omega);have H:((i:Int)==11)=false:=beq_eq_false_iff_ne.2 (by omega);have I:inB i 0 9=true:=by simp[inB];omega
 have J:=shl4 hi;have L:=u64I hi;have M:(0:Int)≤(i:Int):=by omega
 refine fn0 Cd.s_l02Bit_k fun X=>?_
 repeat' first|simp -dsimp only[go_sem,G,H,I,J,L,M]|apply Br.mk<;>intro h<;>try simp -dsimp only[h]|refine aD.c (by first|exact yG _ _ _) ?_|refine aC ?_|fail
 all_goals first|(simp_all;done)|(simp_all;exact shl4 hi)
theorem aG3  : Fz F.eF [.v (.int .i64 11)] (.v (.int .i64 2)):=by
 refine fn0 Cd.i_bitOf_k fun X=>?_
 repeat' first|simp -dsimp only[go_sem]|apply Br.mk<;>intro h<;>try simp -dsimp only[h]|refine aD.c (by first|exact inside _ _ _) ?_|refine aC ?_|fail
 all_goals(simp_all)
def dgF (m:Int):Nat→Nat→Int
 |0,_=>-1
 |k+1,i=>if aCm i=m then i else dgF m k (i+1)
def dg (m:Int):Int:=dgF m 10 0
theorem aE3 (m:Int) {i:Nat} (hi:i<10):dgF m (10-i) i=if aCm i=m then(i:Int) else dgF m (10-(i+1)) (i+1):=by
 rw[show 10-i=(10-(i+1))+1 by omega,dgF]
theorem aBv (m:Int):Fz F.uC [.v (.int .i64 m)] (.v (.int .i64 (dg m))):=by
 refine fn0 Cd.i_digitOf_k fun X=>?_;simp -dsimp only[go_sem];refine aN.at dM (X:={zz:Nat×(Unit) // zz.1≤10∧dgF m (10-zz.1) zz.1=dg m}) (fun zz=>[(4,.v (.int .i64 zz.1.1))]) (fun zz=>[]) (fun zz=>10-zz.1.1) ⟨(0,()),by omega,rfl⟩ ?_ ?_
 ·exact le0
 ·rintro⟨⟨i,a⟩,hi,hg⟩;dsimp only at hi hg;simp -dsimp only[go_sem];refine Br.mk (fun hc=>?_) fun hc=>?_
  ·have hlt:i<10:=Dq;have hw:=aH hlt (by omega);rw[aE3 m hlt] at hg;by_cases he:aCm i=m
   ·have hb:(aCm i==m)=true:=beq_iff_eq.2 (by simp[he]);rw[if_pos he] at hg
    repeat' first|simp -dsimp only[go_sem,hw,hb]|apply Br.mk<;>intro h<;>try simp -dsimp only[h]|refine aD.c (by first|exact aLb i hlt) ?_|refine aC ?_|fail
    all_goals simp[hg]
   ·have hb:(aCm i==m)=false:=beq_eq_false_iff_ne.2 (fun e=>he (by simp[e]));rw[if_neg he] at hg
    repeat' first|simp -dsimp only[go_sem,hw,hb]|apply Br.mk<;>intro h<;>try simp -dsimp only[h]|refine aD.c (by first|exact aLb i hlt) ?_|refine aC ?_|fail
    all_goals(exact nx (i+1,()) hg)
  ·have hge:i=10:=by
    have:¬i<10:=Dq;omega
   subst hge;simp -dsimp only[go_sem];have:dg m=-1:=by rw[←hg];rfl
   simp[this]
theorem kT (m:Int):Fz F.qL [.v (.int .i64 m)] (.v (.int .i64 (dg m))):=by
 refine fn0 Cd.s_l03Digit_k fun X=>?_;simp -dsimp only[go_sem];refine aN.at dM (X:={zz:Nat×(Unit) // zz.1≤10∧dgF m (10-zz.1) zz.1=dg m}) (fun zz=>[(3,.v (.int .i64 zz.1.1))]) (fun zz=>[]) (fun zz=>10-zz.1.1) ⟨(0,()),by omega,rfl⟩ ?_ ?_
 ·exact le0
 ·rintro⟨⟨i,a⟩,hi,hg⟩;dsimp only at hi hg;simp -dsimp only[go_sem];refine Br.mk (fun hc=>?_) fun hc=>?_
  ·have hlt:i<10:=Dq;have hw:=aH hlt (by omega);rw[aE3 m hlt] at hg;by_cases he:aCm i=m
   ·have hb:(m==aCm i)=true:=beq_iff_eq.2 (by simp[he]);rw[if_pos he] at hg
    repeat' first|simp -dsimp only[go_sem,hw,hb]|apply Br.mk<;>intro h<;>try simp -dsimp only[h]|refine aD.c (by first|exact aI3 i hlt) ?_|refine aC ?_|fail
    all_goals simp[hg]
   ·have hb:(m==aCm i)=false:=beq_eq_false_iff_ne.2 (fun e=>he (by simp[e]));rw[if_neg he] at hg
    repeat' first|simp -dsimp only[go_sem,hw,hb]|apply Br.mk<;>intro h<;>try simp -dsimp only[h]|refine aD.c (by first|exact aI3 i hlt) ?_|refine aC ?_|fail
    all_goals(exact nx (i+1,()) hg)
  ·have hge:i=10:=by
    have:¬i<10:=Dq;omega
   subst hge;simp -dsimp only[go_sem];have:dg m=-1:=by rw[←hg];rfl
   simp[this]
theorem xW (l:List Int) (G:l.length≤1048576):Vs.Fn Tryz.prog F.j6 [] [.sl 1 (E cI l)] (.loc (.b 0) 0 l.length) [some (.arr 1 (E cI l) false)]:=by
 refine fn1 Cd.i_copyInts_k [.t 5 0] [.arr 1 (E cI l) false] fun X=>?_;unfold Cd.j6;simp -dsimp only[go_sem,List.replicate_succ,List.replicate_zero,List.flatten_cons,List.flatten_nil];exact⟨by omega,⟨by omega,by omega⟩,⟨_,_,rfl,rfl⟩⟩
theorem aLe {α:Type}{c:α→List AV} (l:List α) (a b:Nat):E c ((l.take a).drop b)=((E c l).take a).drop b:=by simp[E,List.map_take,List.map_drop]
theorem part (c:List Int) (fr to:Int) (G:0≤fr) (H:fr≤to) (h2:to≤c.length):Fz F.nJ [.ro (cC c),.agg [.v (.int .i64 fr),.v (.int .i64 to)]] (.sl 1 (E cI ((c.take to.toNat).drop fr.toNat))):=by
 refine fn0 Cd.s_l02Part_k fun X=>?_
 repeat' first|simp -dsimp only[go_sem,cC]|apply Br.mk<;>intro h<;>try simp -dsimp only[h]|refine aC ?_|fail
 all_goals exact aV (by rw[aLe])
end
section
variable [Vs.Envs]
attribute [local irreducible] Vs.Fn
theorem aD.own {P:Program}{f:FuncId}{ys:List AV}{d:Option Nat}{σ:St}{K:St→Prop}{t:Tag K}{r:AV}{F:List (Option Blk)} (G:Vs.Fn P f [] ys r F) (H:kF (d.getD 0) 0 F.length σ=true)
  (I:K ⟨put d (rn (phi [] (d.getD 0) F.length) r) σ.s,x9 σ.h [] (d.getD 0) F true []⟩):aD P f [] ys [] d σ [] K t:=
 ⟨r,F,true,G,fun h=>(by cases h),H,I⟩
def nGo:List Int→Int→Bool→Option (Int×Bool)
 | [],n,b=>some (n,b)
 |m::r,n,b=>if m=0∧b=false then nGo r n b else if dg m<0 then none else nGo r (W (W (10*n)+dg m)) true
def nB (x:Int):Bool:=nW .and .i64 x 2 != 0
def nY (x:Int):Int:=nW .andNot .i64 x 2
def wG (u:List Int) (x:Int):Int×Bool:=
 if (u++[x]).any (fun z=>z != 0) then
  match nGo (u++[nY x]) 0 false with
  |none=>(0,false)
  |some (n,b)=>if !b||(nY x==0||(nB x&&n==0)) then(0,false) else(if nB x then W (0-n) else n,true)
 else(0,true)
theorem aKh (u v:List Int):∀(n:Int) (b:Bool),nGo (u++v) n b=(nGo u n b).bind fun p=>nGo v p.1 p.2:=by
 induction u with
 |nil=>intro n b;rfl
 | cons m r ih =>
  intro n b;simp only[List.cons_append,nGo];split
  ·exact ih _ _
  ·split
   ·rfl
   ·exact ih _ _
theorem nGo_t (u:List Int):∀(n:Int),nGo u n true=none∨∃k,nGo u n true=some (k,true):=by
 induction u with
 |nil=>intro n;exact .inr ⟨n,rfl⟩
 | cons m r ih =>
  intro n;simp only[nGo,Bool.true_eq_false,and_false,if_false];split
  ·exact .inl rfl
  ·exact ih _
theorem nGo_f (u:List Int):∀(n:Int),(u.any (fun z=>z != 0)=false∧nGo u n false=some (n,false))∨(u.any (fun z=>z != 0)=true∧(nGo u n false=none∨∃k,nGo u n false=some (k,true))):=by
 induction u with
 |nil=>intro n;exact .inl ⟨rfl,rfl⟩
 | cons m r ih =>
  intro n;simp only[nGo,List.any_cons,and_true];by_cases F:m=0
  ·subst F;simpa using ih n
  ·rw[if_neg F];refine .inr ⟨by simp[F],?_⟩;split
   ·exact .inl rfl
   ·exact nGo_t r _
set_option maxRecDepth 20000 in
theorem bits2:∀a,a<64→∀b,b<64→(if nB ((64*a+b:Nat):Int)=true then nY ((64*a+b:Nat):Int)=((64*a+b:Nat):Int)-2∧2≤64*a+b else nY ((64*a+b:Nat):Int)=((64*a+b:Nat):Int)):=by
 decide +kernel
theorem bit2 (x:Int) (F:0≤x) (G:x≤4095):if nB x=true then nY x=x-2∧2≤x else nY x=x:=by
 obtain⟨n,rfl⟩:∃n:Nat,x=n:=⟨x.toNat,by omega⟩;have:=bits2 (n/64) (by omega) (n%64) (by omega);rw[show 64*(n/64)+n%64=n by omega] at this;split at this<;>split<;>first|omega|(rename_i a b;exact absurd a b)|(rename_i a b;exact absurd b a)
theorem aHt (x:Int):Fz F.fA [.v (.int .i64 x)] (.v (.bool (x != 0))):=by
 refine fn0 Cd.i_numberIn_1_k fun X=>?_
 repeat' first|simp -dsimp only[go_sem]|apply Br.mk<;>intro h<;>try simp -dsimp only[h]|refine aC ?_|fail
 all_goals(simp_all)
theorem jT (l:List Int) (G:l.length≤1048576):Fz F.jG [.sl 1 (E cI l),.fn F.fA []] (.v (.int .i64 (rA (fun z=>z != 0) l))):=
 aFM Tryz.mixed Cd.ixf_int64_k.o Cd.ixf_int64_k.n Cd.ixf_int64_k.r rfl (fun z=>z != 0) F.fA [] rfl (fun x H=>aHt x) G
theorem conN (l:List Int) (G:l.length≤1048576):Fz F.kL [.sl 1 (E cI l),.fn F.fA []] (.v (.bool (l.any (fun z=>z != 0)))):=
 aC1 Tryz.mixed (g:=F.jG) Cd.ctf_int64_k.o Cd.ctf_int64_k.n Cd.ctf_int64_k.r rfl (fun z=>z != 0) F.fA [] rfl (jT l G)
theorem aIO (c:List Int) (fr to:Int) (u:List Int) (x:Int) (h0:0≤fr) (h1:fr≤to) (h2:to≤c.length) (hp:(c.take to.toNat).drop fr.toNat=u++[x]) (hu:u.length+1≤12):Fz F.nR [.agg (cC c),.agg [.v (.int .i64 fr),.v (.int .i64 to)]] (.tup [.v (.int .i64 (wG u x).1),.v (.bool (wG u x).2)]):=by
 obtain⟨l,hl⟩:∃l:List Int,u++[x]=l:=⟨_,rfl⟩;obtain⟨M,hM⟩:∃M:List Int,u++[nY x]=M:=⟨_,rfl⟩;have hll:l.length=u.length+1:=by rw[←hl];simp
 have hML:M.length=u.length+1:=by rw[←hM];simp
 have hE:List.drop fr.toNat (List.take to.toNat (E cI c))=E cI l:=by rw[←aLe,hp,hl]
 have hw1:IntKind.i64.wrap ((l.length:Int)-1)=(u.length:Int):=by rw[aP (by omega) (by omega)];omega
 have hx:(E cI l).getD u.length []=[.v (.int .i64 x)]:=by rw[←hl];simp[E,cI,List.getD]
 have hst:(E cI l).set u.length [.v (.int .i64 (nW .andNot .i64 x 2))]=E cI M:=by rw[←hl,←hM];simp[E,cI,nY]
 have hB:(nW .and .i64 x 2 != 0)=nB x:=rfl;have hXM:(E cI M).getD u.length []=[.v (.int .i64 (nY x))]:=by rw[←hM];simp[E,cI,List.getD]
 refine fn0 Cd.i_numberIn_k fun X=>?_;simp -dsimp only[go_sem,cC];refine⟨⟨by omega,by omega,by simpa using h2⟩,?_⟩;simp -dsimp only[go_sem,hE];refine aD.own (xW l (by omega)) rfl ?_;by_cases ha:l.any (fun z=>z != 0)=true
 ·simp -dsimp only[go_sem,hw1,hx,hst,ha,hB]
  repeat' first|simp -dsimp only[go_sem,hw1,hx,hst,ha,hB]|apply Br.mk<;>intro h<;>try simp -dsimp only[h]|refine aD.c (by first|exact xW l (by omega)|exact conN l (by omega)|exact aG3) ?_|refine aC ?_|fail
  refine aN.at dM (X:={zz:Nat×(Int×Bool) // zz.1≤l.length∧nGo (M.drop zz.1) zz.2.1 zz.2.2=nGo M 0 false}) (fun zz=>[(44,.v (.int .i64 zz.1.1)),(9,.v (.int .i64 zz.1.2.1)),(10,.v (.bool zz.1.2.2))]) (fun zz=>[]) (fun zz=>l.length-zz.1.1) ⟨(0,(0,false)),by omega,by simp⟩ ?_ ?_
  ·exact le0
  ·rintro⟨⟨i,a,b⟩,hi,hg⟩;dsimp only at hi hg;simp -dsimp only[go_sem,hw1,hx,hst,ha,hB];refine Br.mk (fun hc=>?_) fun hc=>?_
   ·have hlt:i<l.length:=Dq;have hw:=aH hlt (by omega);have hm:(E cI M).getD i []=[.v (.int .i64 M[i])]:=cZ (by omega);have hiM:i<M.length:=by omega
    rw[List.drop_eq_getElem_cons hiM,nGo] at hg;by_cases hz:M[i]=0
    ·have e1:(M[i]==0)=true:=beq_iff_eq.2 hz;cases b with
     | false =>
      rw[if_pos ⟨hz,rfl⟩] at hg
      repeat' first|simp -dsimp only[go_sem,hm,hw,e1]|apply Br.mk<;>intro h<;>try simp -dsimp only[h]|refine aD.c (by first|exact aBv _) ?_|refine aC ?_|fail
      all_goals((refine fun _=>⟨?_,fun h=>absurd rfl h⟩);exact nx (i+1,(a,false)) hg)
     | true =>
      rw[if_neg (by simp)] at hg;have hd:dg M[i]=-1:=by rw[hz];rfl
      rw[if_pos (by omega)] at hg;have hN:wG u x=(0,false):=by unfold wG;rw[hl,if_pos ha,hM,←hg]
      have e2:decide (dg M[i]<0)=true:=decide_eq_true (by omega)
      repeat' first|simp -dsimp only[go_sem,hm,hw,e1,e2]|apply Br.mk<;>intro h<;>try simp -dsimp only[h]|refine aD.c (by first|exact aBv _) ?_|refine aC ?_|fail
      all_goals simp[hN]
    ·have e1:(M[i]==0)=false:=beq_eq_false_iff_ne.2 hz;rw[if_neg (by simp[hz])] at hg;by_cases hd:dg M[i]<0
     ·rw[if_pos hd] at hg;have hN:wG u x=(0,false):=by unfold wG;rw[hl,if_pos ha,hM,←hg]
      have e2:decide (dg M[i]<0)=true:=decide_eq_true hd
      repeat' first|simp -dsimp only[go_sem,hm,hw,e1,e2]|apply Br.mk<;>intro h<;>try simp -dsimp only[h]|refine aD.c (by first|exact aBv _) ?_|refine aC ?_|fail
      all_goals simp[hN]
     ·rw[if_neg hd] at hg;have e2:decide (dg M[i]<0)=false:=decide_eq_false hd
      repeat' first|simp -dsimp only[go_sem,hm,hw,e1,e2]|apply Br.mk<;>intro h<;>try simp -dsimp only[h]|refine aD.c (by first|exact aBv _) ?_|refine aC ?_|fail
      all_goals(exact nx (i+1,(W (W (10*a)+dg M[i]),true)) hg)
   ·have hge:i=l.length:=by
     have:¬i<l.length:=Dq;omega
    subst hge;simp -dsimp only[go_sem,hw1,hx,hst,ha,hB];rw[List.drop_eq_nil_of_le (by omega),nGo] at hg;have hN:wG u x=(if !b||(nY x==0||(nB x&&a==0)) then(0,false) else(if nB x then W (0-a) else a,true)):=by unfold wG;rw[hl,if_pos ha,hM,←hg]
    cases hb:nB x<;>cases hy:(nY x==0)<;>cases h0:(a==0)<;>cases b
    all_goals
     simp -dsimp only[go_sem,hXM,hb,hy,h0,hw1,hx,hst,ha,hB]
    all_goals simp[hN,hb,hy,h0]
    all_goals omega
 ·have ha:=by simpa using ha
  have hN:wG u x=(0,true):=by unfold wG;rw[hl,if_neg (by simpa using ha)]
  have ha:l.any (fun z=>z != 0)=false:=by simpa using ha
  repeat' first|simp -dsimp only[go_sem,hw1,hx,hst,ha,hB]|apply Br.mk<;>intro h<;>try simp -dsimp only[h]|refine aD.c (by first|exact xW l (by omega)|exact conN l (by omega)|exact aG3) ?_|refine aC ?_|fail
  all_goals simp[hN]
end
section
variable [Vs.Envs]
attribute [local irreducible] Vs.Fn
def aFU (a:Int) (m:Bool):Int×Bool:=if m then(W (0-a),a != 0) else(a,true)
theorem aHu (u:List Int) (x:Int) (h0:0≤x) (h1:x≤4095) :
  wG u x=match nGo u 0 false with
   |none=>(0,false)
   |some (a,b)=>if nY x=0∧b=false∧nB x=false then(a,true) else if dg (nY x)<0 then(0,false) else aFU (W (W (10*a)+dg (nY x))) (nB x):=by
 have M:=bit2 x h0 h1;have U:dg 0=-1:=rfl;unfold wG aFU;rw[aKh,List.any_append];rcases nGo_f u 0 with⟨O,J⟩|⟨O,J|⟨k,J⟩⟩
 ·rw[J,O];simp only[Option.bind_some,nGo,List.any_cons,List.any_nil,Bool.or_false,Bool.false_or];have G:W 0=0:=by decide
  cases Y:nB x<;>simp only[Y,Bool.false_eq_true,if_false,if_true] at M
  ·rw[M];by_cases H:x=0
   ·simp[H]
   ·by_cases F:dg x<0
    ·simp[H,F]
    ·simp[H,F]
  ·obtain⟨M,h2⟩:=M;have H:x≠0:=by omega
   by_cases I:nY x=0
   ·simp[I,H,U]
   ·by_cases F:dg (nY x)<0
    ·simp[H,I,F]
    ·by_cases L:W (dg (nY x))=0
     ·simp[H,I,F,L,G]
     ·simp[H,I,F,L,G]
 ·rw[J,O];simp
 ·rw[J,O];have G:W 0=0:=by decide
  simp only[Option.bind_some,nGo,Bool.true_or,if_true,Bool.true_eq_false,and_false,false_and,if_false];by_cases F:dg (nY x)<0
  ·simp[F]
  ·have I:nY x≠0:=by intro e;rw[e] at F;exact F (by decide)
   cases Y:nB x
   ·simp[I,F]
   ·by_cases L:W (W (10*k)+dg (nY x))=0
    ·simp[I,F,L,G]
    ·simp[I,F,L]
theorem aHG (u:List Int) (x:Int) (h0:0≤x) (h1:x≤4095) (hu:u.length+1≤12):Fz F.lT [.sl 1 (E cI (u++[x]))] (.tup [.v (.int .i64 (wG u x).1),.v (.bool (wG u x).2)]):=by
 have hF:=aHu u x h0 h1;have hb2:=bit2 x h0 h1;obtain⟨l,hl⟩:∃l:List Int,u++[x]=l:=⟨_,rfl⟩;have hll:l.length=u.length+1:=by rw[←hl];simp
 have hw1:IntKind.i64.wrap ((l.length:Int)-1)=(u.length:Int):=by rw[aP (by omega) (by omega)];omega
 rw[hl];refine fn0 Cd.s_l03Number_k fun X=>?_;simp -dsimp only[go_sem];refine aN.at dM (X:={zz:Nat×(Int×Bool×Bool) // zz.1≤l.length∧((zz.1≤u.length∧zz.2.2.2=false∧nGo (u.drop zz.1) zz.2.1 zz.2.2.1=nGo u 0 false)∨(zz.1=u.length+1∧aFU zz.2.1 zz.2.2.2=wG u x))}) (fun zz=>[(7,.v (.int .i64 zz.1.1)),(4,.v (.int .i64 zz.1.2.1)),(5,.v (.bool zz.1.2.2.1)),(6,.v (.bool zz.1.2.2.2))]) (fun zz=>[]) (fun zz=>l.length-zz.1.1) ⟨(0,(0,false,false)),by omega,.inl ⟨by omega,rfl,by simp⟩⟩ ?_ ?_
 ·exact le0
 ·rintro⟨⟨i,a,b,m⟩,hi,hg⟩;dsimp only at hi hg;simp -dsimp only[go_sem,hw1];refine Br.mk (fun hc=>?_) fun hc=>?_
  ·have hlt:i<l.length:=Dq;have hw:=aH hlt (by omega);have hm:(E cI l).getD i []=[.v (.int .i64 l[i])]:=cZ hlt;have hiu:i≤u.length:=by omega
   rcases hg with⟨_,hmi,hg⟩|⟨hi2,_⟩
   case inr=>omega
   subst hmi;by_cases hi2:i<u.length
   ·have hq:((i:Int)==(u.length:Int))=false:=beq_eq_false_iff_ne.2 (by omega);have hm:(E cI l).getD i []=[.v (.int .i64 u[i])]:=by rw[hm];subst hl;simp[List.getElem_append,hi2]
    rw[List.drop_eq_getElem_cons hi2,nGo] at hg;by_cases hz:u[i]=0
    ·have e1:(u[i]==0)=true:=beq_iff_eq.2 hz;cases b with
     | false =>
      rw[if_pos ⟨hz,rfl⟩] at hg
      repeat' first|simp -dsimp only[go_sem,hm,hw,hq,e1,hw1]|apply Br.mk<;>intro h<;>try simp -dsimp only[h]|refine aD.c (by first|exact kT _) ?_|refine aC ?_|fail
      all_goals((refine⟨?_,fun h=>absurd rfl h⟩);exact nx (i+1,(a,false,false)) (.inl ⟨by first|omega|(simp;omega),rfl,hg⟩))
     | true =>
      rw[if_neg (by simp)] at hg;have hd:dg u[i]=-1:=by rw[hz];rfl
      rw[if_pos (by omega)] at hg;rw[←hg] at hF;have e2:decide (dg u[i]<0)=true:=decide_eq_true (by omega)
      repeat' first|simp -dsimp only[go_sem,hm,hw,hq,e1,e2,hw1]|apply Br.mk<;>intro h<;>try simp -dsimp only[h]|refine aD.c (by first|exact kT _) ?_|refine aC ?_|fail
      all_goals simp[hF]
    ·have e1:(u[i]==0)=false:=beq_eq_false_iff_ne.2 hz;rw[if_neg (by simp[hz])] at hg;by_cases hd:dg u[i]<0
     ·rw[if_pos hd] at hg;rw[←hg] at hF;have e2:decide (dg u[i]<0)=true:=decide_eq_true hd
      repeat' first|simp -dsimp only[go_sem,hm,hw,hq,e1,e2,hw1]|apply Br.mk<;>intro h<;>try simp -dsimp only[h]|refine aD.c (by first|exact kT _) ?_|refine aC ?_|fail
      all_goals simp[hF]
     ·rw[if_neg hd] at hg;have e2:decide (dg u[i]<0)=false:=decide_eq_false hd
      repeat' first|simp -dsimp only[go_sem,hm,hw,hq,e1,e2,hw1]|apply Br.mk<;>intro h<;>try simp -dsimp only[h]|refine aD.c (by first|exact kT _) ?_|refine aC ?_|fail
      all_goals(exact nx (i+1,(W (W (10*a)+dg u[i]),true,false)) (.inl ⟨by first|omega|(simp;omega),rfl,hg⟩))
   ·have hiu:i=u.length:=by omega
    subst hiu;have hq:((u.length:Int)==(u.length:Int))=true:=beq_iff_eq.2 rfl;have hm:(E cI l).getD u.length []=[.v (.int .i64 x)]:=by rw[hm];subst hl;simp
    rw[List.drop_length,nGo] at hg;rw[←hg] at hF;dsimp only at hF;have hB:(nW BinOp.and IntKind.i64 x 2 != 0)=nB x:=rfl;cases hn:nB x<;>simp only[hn,Bool.false_eq_true,if_false,if_true] at hb2
    ·rw[hb2,hn] at hF;by_cases hz:x=0
     ·have e1:(x==0)=true:=beq_iff_eq.2 hz;cases b with
      | false =>
       rw[if_pos ⟨hz,rfl,rfl⟩] at hF
       repeat' first|simp -dsimp only[go_sem,hm,hw,hq,e1,hB,hn,hw1]|apply Br.mk<;>intro h<;>try simp -dsimp only[h]|refine aD.c (by first|exact kT _) ?_|refine aC ?_|fail
       all_goals((refine⟨?_,fun h=>absurd rfl h⟩);exact nx (u.length+1,(a,false,false)) (.inr ⟨rfl,by first|(rw[hF];done)|(rw[hF];simp[aFU])⟩))
      | true =>
       have hd:dg x=-1:=by rw[hz];rfl
       rw[if_neg (by simp),if_pos (by omega)] at hF;have e2:decide (dg x<0)=true:=decide_eq_true (by omega)
       repeat' first|simp -dsimp only[go_sem,hm,hw,hq,e1,e2,hB,hn,hw1]|apply Br.mk<;>intro h<;>try simp -dsimp only[h]|refine aD.c (by first|exact kT _) ?_|refine aC ?_|fail
       all_goals simp[hF]
     ·have e1:(x==0)=false:=beq_eq_false_iff_ne.2 hz;rw[if_neg (by simp[hz])] at hF;by_cases hd:dg x<0
      ·rw[if_pos hd] at hF;have e2:decide (dg x<0)=true:=decide_eq_true hd
       repeat' first|simp -dsimp only[go_sem,hm,hw,hq,e1,e2,hB,hn,hw1]|apply Br.mk<;>intro h<;>try simp -dsimp only[h]|refine aD.c (by first|exact kT _) ?_|refine aC ?_|fail
       all_goals simp[hF]
      ·rw[if_neg hd] at hF;have e2:decide (dg x<0)=false:=decide_eq_false hd
       repeat' first|simp -dsimp only[go_sem,hm,hw,hq,e1,e2,hB,hn,hw1]|apply Br.mk<;>intro h<;>try simp -dsimp only[h]|refine aD.c (by first|exact kT _) ?_|refine aC ?_|fail
       all_goals(exact nx (u.length+1,(W (W (10*a)+dg x),true,false)) (.inr ⟨rfl,by first|(rw[hF];done)|(rw[hF];simp[aFU])⟩))
    ·obtain⟨hb2,hx2⟩:=hb2;rw[hb2,hn] at hF;rw[if_neg (by simp)] at hF;have hw2:IntKind.i64.wrap (x-2)=x-2:=aP (by omega) (by omega);by_cases hd:dg (x-2)<0
     ·rw[if_pos hd] at hF;have e2:decide (dg (x-2)<0)=true:=decide_eq_true hd;cases e1:(x-2==0)<;>cases b
      all_goals
       repeat' first|simp -dsimp only[go_sem,hm,hw,hq,hw2,e1,e2,hB,hn,hw1]|apply Br.mk<;>intro h<;>try simp -dsimp only[h]|refine aD.c (by first|exact kT _) ?_|refine aC ?_|fail
       all_goals simp[hF]
     ·rw[if_neg hd] at hF;have e2:decide (dg (x-2)<0)=false:=decide_eq_false hd;cases e1:(x-2==0)<;>cases b
      all_goals
       repeat' first|simp -dsimp only[go_sem,hm,hw,hq,hw2,e1,e2,hB,hn,hw1]|apply Br.mk<;>intro h<;>try simp -dsimp only[h]|refine aD.c (by first|exact kT _) ?_|refine aC ?_|fail
       all_goals(exact nx (u.length+1,(W (W (10*a)+dg (x-2)),true,true)) (.inr ⟨rfl,by first|(rw[hF];done)|(rw[hF];simp[aFU])⟩))
  ·have hge:i=l.length:=by
    have:¬i<l.length:=Dq;omega
   subst hge;simp -dsimp only[go_sem,hw1];rcases hg with⟨h3,_⟩|⟨_,hg⟩
   ·omega
   cases m
   all_goals
    simp -dsimp only[go_sem,hw1]
   all_goals simp[←hg,aFU]
end
end Go.Proofs.YtkgeiaideklmoaaGreat
