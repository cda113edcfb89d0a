/- The reference's number of a field. -/
import Derived.Test.YtkgeiaideklmoaaGreatZuR
import Derived.Test.YtkgeiaideklmoaaGreatVtR
import Derived.Test.YtkgeiaideklmoaaGreatVtK
import Derived.Lib.ItoaNum
set_option linter.all false
set_option maxHeartbeats 8000000
namespace Go.Proofs.YtkgeiaideklmoaaGreat
open Go.Vs
section
variable [Vs.Envs]
attribute [local irreducible] Vs.Fn bK aO bL bM l03
theorem aE0 {r a b:Int} (h:inB r a b=true):a<=r:=by
 simp only[inB,Av,Bb] at h;omega
def vX (r:Int):Int:=if r=12 then 1 else if r=11 then 2 else if inB r 0 9 then W (4*2 ^ (min r.toNat 64)) else 0
def cdP (n:Int):Int×Bool:=
 if n=32 then(0,true) else if n=38 then(vX 12,true) else if n=45 then(vX 11,true) else if aBO n then(vX (W (IntKind.u8.wrap (n-48))),true)
 else if btw n 65 73 then(orI (vX 12) (vX (W (W (IntKind.u8.wrap (n-65))+1))),true) else if btw n 74 82 then(orI (vX 11) (vX (W (W (IntKind.u8.wrap (n-74))+1))),true)
 else if n=47 then(orI (vX 0) (vX 1),true) else if btw n 83 90 then(orI (vX 0) (vX (W (W (IntKind.u8.wrap (n-83))+2))),true) else(0,false)
theorem aOb (r:Int):Fz F.fC [.v (.int .i64 r)] (.v (.int .i64 (vX r))):=by
 refine fn0 Cd.i_bitOf_k λX=>?_
 repeat' first|simp -dsimp only[go_sem]|apply Br.mk<;>intro h<;>try simp -dsimp only[h]|refine RgK.mk rfl ?_|refine aB.c (by first|exact inside _ _ _) ?_|refine And.intro (by first|rfl|omega|decide|exact aE0 (by assumption)|(refine⟨?_,?_⟩<;>(first|rfl|omega|decide|exact aE0 (by assumption)))|(refine⟨?_,?_,?_⟩<;>(first|rfl|omega|decide|exact aE0 (by assumption)))|(refine⟨?_,?_,?_,?_⟩<;>(first|rfl|omega|decide|exact aE0 (by assumption)))) ?_|fail
 all_goals(simp_all [vX,IntKind.bits])
theorem isDigit (n:Int):Fz F.vM [.v (.int .u8 n)] (.v (.bool (aBO n))):=by
 refine fn0 Cd.i_isDigit_k λX=>?_
 repeat' first|simp -dsimp only[go_sem]|apply Br.mk<;>intro h<;>try simp -dsimp only[h]|refine aC ?_|fail
 all_goals(first|(simp_all [aBO];done)|(simp_all [aBO];omega))
theorem aOk (n:Int):Fz F.yE [.v (.int .u8 n)] (.tup [.v (.int .i64 (cdP n).1),.v (.bool (cdP n).2)]):=by
 refine fn0 Cd.i_CodeOf_k λX=>?_
 repeat' first|simp -dsimp only[go_sem]|apply Br.mk<;>intro h<;>try simp -dsimp only[h]|refine aB.c (by first|exact aOb _|exact isDigit _) ?_|refine aC ?_|fail
 all_goals(first|(simp_all [cdP,btw,orI];done)|(refine bN ?_;grind [cdP,btw,orI]))
def cd3 (n:Int):Int:=(cdP n).1
theorem codeOf (n:Int):Fz F.vO [.v (.int .u8 n)] (.v (.int .i64 (cd3 n))):=by
 refine fn0 Cd.i_codeOf_k λX=>?_
 repeat' first|simp -dsimp only[go_sem]|apply Br.mk<;>intro h<;>try simp -dsimp only[h]|refine aB.c (by first|exact aOk _) ?_|refine aC ?_|fail
 all_goals(simp_all [cd3])
def chB (i:Nat):Nat:=(CH.data.toList.getD i 0).toNat
set_option maxRecDepth 100000 in
theorem aMN:∀i:Nat,i<40->cd3 (chB i)=l03 (chB i)∧0<=l03 (chB i):=by decide +kernel
def rkF (m:Int):Nat->Nat->Int
 |0,_=>-1
 |k+1,i=>if l03 (chB i)=m then i else rkF m k (i+1)
def rk (m:Int):Int:=rkF m 40 0
theorem aFF (m:Int) {i:Nat} (h:i<40):rkF m (40-i) i=if l03 (chB i)=m then(i:Int) else rkF m (40-(i+1)) (i+1):=by
 rw[show 40-i=(40-(i+1))+1 by omega,rkF]
theorem aEN (m:Int):∀(k i:Nat),k+i=40->-1<=rkF m k i∧rkF m k i<40∧(0<=rkF m k i->l03 (chB (rkF m k i).toNat)=m)
 |0,_,_=>by simp[rkF]
 | k+1,i,h=>by
  rw[rkF];split
  .rename_i F;exact⟨by omega,by omega,λ_=>by simpa using F⟩
  .exact aEN m k (i+1) (by omega)
theorem aCD (m:Int):-1<=rk m∧rk m<40:=⟨(aEN m 40 0 rfl).1,(aEN m 40 0 rfl).2.1⟩
theorem aH5 {m:Int} (h:0<=rk m):l03 (chB (rk m).toNat)=m:=(aEN m 40 0 rfl).2.2 h
theorem aKr {a b:Int} (h:0<=rk a) (F:rk a=rk b):a=b:=by
 rw[←aH5 h,F,aH5 (F ▸ h)]
theorem chL (i:Nat):(([32,38,65,66,67,68,69,70,71,72,73,45,74,75,76,77,78,79,80,81,82,47,83,84,85,86,87,88,89,90,48,49,50,51,52,53,54,55,56,57]:List UInt8).getD i 0).toNat=chB i:=rfl
theorem chS:(⟨#[32,38,65,66,67,68,69,70,71,72,73,45,74,75,76,77,78,79,80,81,82,47,83,84,85,86,87,88,89,90,48,49,50,51,52,53,54,55,56,57]⟩:ByteArray).size=40:=rfl
attribute [local irreducible] chB rk cd3
theorem aCK (m:Int):Fz F.qK [.v (.int .i64 m)] (.v (.int .i64 (rk m))):=by
 refine fn0 Cd.i_rankOf_k λX=>?_;simp -dsimp only[go_sem];refine aM.at dM (X:={zz:Nat×(Unit) // zz.1<=40∧rkF m (40-zz.1) zz.1=rk m}) (λzz=>[(3,.v (.int .i64 zz.1.1))]) (λzz=>[]) (λzz=>40-zz.1.1) ⟨(0,()),by omega,by unfold rk;rfl⟩ ?_ ?_
 .exact le0
 .rintro⟨⟨i,_⟩,hi,hg⟩;dsimp only at hi hg;simp -dsimp only[go_sem];refine Br.mk (λhc=>?_) λhc=>?_
  .have hlt:i<40:=Dq;have hw:=aG hlt (by omega);rw[aFF m hlt] at hg;have hcb:=(aMN i hlt).1;by_cases hz:l03 (chB i)=m
   .have ez:(l03 (chB i)==m)=true:=BN.2 hz;rw[AP hz] at hg
    repeat' first|simp -dsimp only[go_sem,hw,chL,chS,hcb,ez]|apply Br.mk<;>intro h<;>try simp -dsimp only[h]|refine aB.c (by first|exact codeOf _) ?_|refine aC ?_|fail
    all_goals simp[←hg]
   .have ez:(l03 (chB i)==m)=false:=AC.2 hz;rw[AB hz] at hg
    repeat' first|simp -dsimp only[go_sem,hw,chL,chS,hcb,ez]|apply Br.mk<;>intro h<;>try simp -dsimp only[h]|refine aB.c (by first|exact codeOf _) ?_|refine aC ?_|fail
    all_goals(exact nx (i+1,()) hg)
  .have hge:i=40:=by
    have:¬i<40:=Dq;omega
   subst hge;simp -dsimp only[go_sem];have:rk m=-1:=by rw[←hg];rfl
   simp[this]
end
section
variable [Vs.Envs]
attribute [local irreducible] Vs.Fn bK aO bL bM l03 chB rk cd3
def cU (n:Int):List AV:=[.v (.int .u8 n)]
theorem sN:∀l:List Int,sO (E cU l)=some l
 | []=>rfl
 | n::r=>by
  have:=sN r;simp only[E,BD,cU,sO] at this⊢;rw[this]
def chI (m:Int):Int:=(chB (rk m).toNat:Int)
def txt (l:List Int):ByteArray:=aCy (l.map chI)
def dC (l:List Int):Bool:=l.all λm=>decide (0<=rk m)
theorem aN7:∀i:Nat,i<40->chB i<256:=λi _=>by unfold chB;exact UInt8.toNat_lt _
theorem aK8 (m:Int):Fz F.bZ [.v (.int .i64 m)] (.v (.bool (decide (rk m<0)))):=by
 refine fn0 Cd.i_hasCharacters_1_k λX=>?_
 repeat' first|simp -dsimp only[go_sem]|apply Br.mk<;>intro h<;>try simp -dsimp only[h]|refine aB.c (by first|exact aCK _) ?_|refine aC ?_|fail
 all_goals(simp_all)
theorem idxCh (l:List Int) (H:l.length<=1048576):Fz F.jM [.sl 1 (E cI l),.fn F.bZ []] (.v (.int .i64 (qI (λm=>decide (rk m<0)) l))):=
 aHb Tryz.mixed Cd.ixf_int64_k.o Cd.ixf_int64_k.n Cd.ixf_int64_k.r rfl (λm=>decide (rk m<0)) F.bZ [] rfl (λm I=>aK8 m) H
theorem conCh (l:List Int) (H:l.length<=1048576):Fz F.lI [.sl 1 (E cI l),.fn F.bZ []] (.v (.bool (l.any (λm=>decide (rk m<0))))):=
 aGl Tryz.mixed (g:=F.jM) Cd.ctf_int64_k.o Cd.ctf_int64_k.n Cd.ctf_int64_k.r rfl (λm=>decide (rk m<0)) F.bZ [] rfl (idxCh l H)
theorem aEq (l:List Int):(!l.any λm=>decide (rk m<0))=dC l:=by
 unfold dC
 induction l with
 |nil=>rfl
 | cons x r ih =>
  simp only[List.any_cons,BK,Bool.not_or,ih];congr 1;by_cases h:rk x<0<;>simp[h]<;>omega
theorem aDH (l:List Int) (H:l.length<=1048576):Fz F.jG [.sl 1 (E cI l)] (.v (.bool (dC l))):=by
 refine fn0 Cd.i_hasCharacters_k λX=>?_
 repeat' first|simp -dsimp only[go_sem]|apply Br.mk<;>intro h<;>try simp -dsimp only[h]|refine aB.c (by first|exact conCh l H) ?_|refine aC ?_|fail
 all_goals(first|(simp_all [aEq];done)|(refine bN ?_;have e:=aEq l;simp_all))
theorem aFZ  : Fz F.oN [] (.v (.string ⟨#[32,38,65,66,67,68,69,70,71,72,73,45,74,75,76,77,78,79,80,81,82,47,83,84,85,86,87,88,89,90,48,49,50,51,52,53,54,55,56,57]⟩)):=by
 refine fn0 Cd.s_l03Order_k λX=>?_
 repeat' first|simp -dsimp only[go_sem]|apply Br.mk<;>intro h<;>try simp -dsimp only[h]|refine aC ?_|fail
 all_goals(simp_all)
theorem aNn:(⟨#[32,38,65,66,67,68,69,70,71,72,73,45,74,75,76,77,78,79,80,81,82,47,83,84,85,86,87,88,89,90,48,49,50,51,52,53,54,55,56,57]⟩:ByteArray)=CH:=rfl
theorem uI:CH.size=40:=rfl
theorem aIM (i:Nat):(CH.data.toList.getD i 0).toNat=chB i:=by unfold chB;rfl
set_option maxRecDepth 100000 in
theorem aIA:∀i:Nat,i<40->∀j:Nat,j<40->chB i=chB j->i=j:=by decide +kernel
def aF0 (m:Int):Int×Bool:=if 0<=rk m then(chI m,true) else(0,false)
theorem aIm (m:Int):Fz F.uV [.v (.int .i64 m)] (.tup [.v (.int .u8 (aF0 m).1),.v (.bool (aF0 m).2)]):=by
 refine fn0 Cd.s_l03Char_k λX=>?_;simp -dsimp only[go_sem];refine aB.flat aFZ rfl ?_;simp -dsimp only[go_sem,aNn];refine aM.at dM (X:={zz:Nat×(Unit) // zz.1<=40∧rkF m (40-zz.1) zz.1=rk m}) (λzz=>[(5,.v (.int .i64 zz.1.1))]) (λzz=>[]) (λzz=>40-zz.1.1) ⟨(0,()),by omega,by unfold rk;rfl⟩ ?_ ?_
 .exact le0
 .rintro⟨⟨i,_⟩,hi,hg⟩;dsimp only at hi hg;simp -dsimp only[go_sem,uI];refine Br.mk (λhc=>?_) λhc=>?_
  .have hlt:i<40:=Dq;have hw:=aG hlt (by omega);rw[aFF m hlt] at hg;have h8:i<CH.size:=hlt;by_cases hz:l03 (chB i)=m
   .have ez:(l03 (chB i)==m)=true:=BN.2 hz;rw[AP hz] at hg
    repeat' first|simp -dsimp only[go_sem,hw,uI,aIM,ez]|apply Br.mk<;>intro h<;>try simp -dsimp only[h]|refine aB.c (by first|exact aEX _) ?_|refine aC ?_|fail
    all_goals first
     |(refine bN ?_;have hr:rk m=(i:Int):=hg.symm;simp[aF0,chI,hr];done)
     |omega
   .have ez:(l03 (chB i)==m)=false:=AC.2 hz;rw[AB hz] at hg
    repeat' first|simp -dsimp only[go_sem,hw,uI,aIM,ez]|apply Br.mk<;>intro h<;>try simp -dsimp only[h]|refine aB.c (by first|exact aEX _) ?_|refine aC ?_|fail
    all_goals first|omega|(exact nx (i+1,()) hg)
  .have hge:i=40:=by
    have:¬i<40:=Dq;omega
   subst hge;simp -dsimp only[go_sem,uI];have:rk m=-1:=by rw[←hg];rfl
   simp[aF0,this]
theorem aEW (k:Nat) (hk:k<40):Fz F.rR [.v (.int .u8 (chB k))] (.v (.int .i64 (k:Int))):=by
 refine fn0 Cd.s_l03Rank_k λX=>?_;simp -dsimp only[go_sem];refine aB.flat aFZ rfl ?_;simp -dsimp only[go_sem,aNn];refine aM.at dM (X:={zz:Nat×(Unit) // zz.1<=40∧zz.1<=k}) (λzz=>[(4,.v (.int .i64 zz.1.1))]) (λzz=>[]) (λzz=>40-zz.1.1) ⟨(0,()),by omega,by omega⟩ ?_ ?_
 .exact le0
 .rintro⟨⟨i,_⟩,hi,hg⟩;dsimp only at hi hg;simp -dsimp only[go_sem,uI];refine Br.mk (λhc=>?_) λhc=>?_
  .have hlt:i<40:=Dq;have hw:=aG hlt (by omega);have h8:i<CH.size:=hlt;by_cases hz:i=k
   .subst hz;have ez:((chB i:Int)==(chB i:Int))=true:=BN.2 rfl
    repeat' first|simp -dsimp only[go_sem,hw,uI,aIM,ez]|apply Br.mk<;>intro h<;>try simp -dsimp only[h]|refine aC ?_|fail
    all_goals first|(simp_all;done)|omega
   .have ez:((chB i:Int)==(chB k:Int))=false:=AC.2 (λh=>hz (aIA i hlt k hk (by omega)))
    repeat' first|simp -dsimp only[go_sem,hw,uI,aIM,ez]|apply Br.mk<;>intro h<;>try simp -dsimp only[h]|refine aC ?_|fail
    all_goals first|omega|(exact nx (i+1,()) (by dsimp only at hg⊢;omega))
  .have hge:i=40:=by
    have:¬i<40:=Dq;omega
   subst hge;simp -dsimp only[go_sem,uI];omega
end
section
variable [Vs.Envs]
attribute [local irreducible] Vs.Fn
end
section
variable [Vs.Envs]
attribute [local irreducible] Vs.Fn
end
section
variable [Vs.Envs]
attribute [local irreducible] Vs.Fn
end
section
variable [Vs.Envs]
attribute [local irreducible] Vs.Fn
def aDq (i:Nat):Int:=((4*2 ^ i:Nat):Int)
theorem shl4 {i:Nat} (hi:i<10):IntKind.i64.wrap (4*2 ^ (min i IntKind.i64.bits))=aDq i:=by
 have:i=0∨i=1∨i=2∨i=3∨i=4∨i=5∨i=6∨i=7∨i=8∨i=9:=by omega
 rcases this with rfl|rfl|rfl|rfl|rfl|rfl|rfl|rfl|rfl|rfl<;>decide
theorem u64I {i:Nat} (hi:i<10):IntKind.u64.wrap (i:Int)=(i:Int):=by
 have:i=0∨i=1∨i=2∨i=3∨i=4∨i=5∨i=6∨i=7∨i=8∨i=9:=by omega
 rcases this with rfl|rfl|rfl|rfl|rfl|rfl|rfl|rfl|rfl|rfl<;>decide
theorem aNh (i:Nat) (hi:i<10):Fz F.fC [.v (.int .i64 (i:Int))] (.v (.int .i64 (aDq i))):=by
 have H:((i:Int)==12)=false:=AC.2 (by omega);have I:((i:Int)==11)=false:=AC.2 (by omega);have J:inB i 0 9=true:=by simp[inB];omega
 have L:=shl4 hi;have O:=u64I hi;have U:(0:Int)<=(i:Int):=by omega
 refine fn0 Cd.i_bitOf_k λX=>?_
 repeat' first|simp -dsimp only[go_sem,H,I,J,L,O,U]|apply Br.mk<;>intro h<;>try simp -dsimp only[h]|refine aB.c (by first|exact inside _ _ _) ?_|refine aC ?_|fail
 all_goals first|(simp_all;done)|(simp_all;exact shl4 hi)
theorem aKY (i:Nat) (hi:i<10):Fz F.kC [.v (.int .i64 (i:Int))] (.v (.int .i64 (aDq i))):=by
 have H:((i:Int)==12)=false:=AC.2 (by omega);have I:((i:Int)==11)=false:=AC.2 (by omega);have J:inB i 0 9=true:=by simp[inB];omega
 have L:=shl4 hi;have O:=u64I hi;have U:(0:Int)<=(i:Int):=by omega
 refine fn0 Cd.s_l02Bit_k λX=>?_
 repeat' first|simp -dsimp only[go_sem,H,I,J,L,O,U]|apply Br.mk<;>intro h<;>try simp -dsimp only[h]|refine aB.c (by first|exact zX _ _ _) ?_|refine aC ?_|fail
 all_goals first|(simp_all;done)|(simp_all;exact shl4 hi)
theorem aIF  : Fz F.fC [.v (.int .i64 11)] (.v (.int .i64 2)):=by
 refine fn0 Cd.i_bitOf_k λX=>?_
 repeat' first|simp -dsimp only[go_sem]|apply Br.mk<;>intro h<;>try simp -dsimp only[h]|refine aB.c (by first|exact inside _ _ _) ?_|refine aC ?_|fail
 all_goals(simp_all)
def dgF (m:Int):Nat->Nat->Int
 |0,_=>-1
 |k+1,i=>if aDq i=m then i else dgF m k (i+1)
def dg (m:Int):Int:=dgF m 10 0
theorem aGk (m:Int) {i:Nat} (hi:i<10):dgF m (10-i) i=if aDq i=m then(i:Int) else dgF m (10-(i+1)) (i+1):=by
 rw[show 10-i=(10-(i+1))+1 by omega,dgF]
theorem aCo (m:Int):Fz F.vN [.v (.int .i64 m)] (.v (.int .i64 (dg m))):=by
 refine fn0 Cd.i_digitOf_k λX=>?_;simp -dsimp only[go_sem];refine aM.at dM (X:={zz:Nat×(Unit) // zz.1<=10∧dgF m (10-zz.1) zz.1=dg m}) (λzz=>[(4,.v (.int .i64 zz.1.1))]) (λzz=>[]) (λzz=>10-zz.1.1) ⟨(0,()),by omega,rfl⟩ ?_ ?_
 .exact le0
 .rintro⟨⟨i,a⟩,hi,hg⟩;dsimp only at hi hg;simp -dsimp only[go_sem];refine Br.mk (λhc=>?_) λhc=>?_
  .have hlt:i<10:=Dq;have hw:=aG hlt (by omega);rw[aGk m hlt] at hg;by_cases he:aDq i=m
   .have hb:(aDq i==m)=true:=BN.2 (by simp[he]);rw[AP he] at hg
    repeat' first|simp -dsimp only[go_sem,hw,hb]|apply Br.mk<;>intro h<;>try simp -dsimp only[h]|refine aB.c (by first|exact aNh i hlt) ?_|refine aC ?_|fail
    all_goals simp[hg]
   .have hb:(aDq i==m)=false:=AC.2 (λe=>he (by simp[e]));rw[AB he] at hg
    repeat' first|simp -dsimp only[go_sem,hw,hb]|apply Br.mk<;>intro h<;>try simp -dsimp only[h]|refine aB.c (by first|exact aNh i hlt) ?_|refine aC ?_|fail
    all_goals(exact nx (i+1,()) hg)
  .have hge:i=10:=by
    have:¬i<10:=Dq;omega
   subst hge;simp -dsimp only[go_sem];have:dg m=-1:=by rw[←hg];rfl
   simp[this]
theorem lY (m:Int):Fz F.sI [.v (.int .i64 m)] (.v (.int .i64 (dg m))):=by
 refine fn0 Cd.s_l03Digit_k λX=>?_;simp -dsimp only[go_sem];refine aM.at dM (X:={zz:Nat×(Unit) // zz.1<=10∧dgF m (10-zz.1) zz.1=dg m}) (λzz=>[(3,.v (.int .i64 zz.1.1))]) (λzz=>[]) (λzz=>10-zz.1.1) ⟨(0,()),by omega,rfl⟩ ?_ ?_
 .exact le0
 .rintro⟨⟨i,a⟩,hi,hg⟩;dsimp only at hi hg;simp -dsimp only[go_sem];refine Br.mk (λhc=>?_) λhc=>?_
  .have hlt:i<10:=Dq;have hw:=aG hlt (by omega);rw[aGk m hlt] at hg;by_cases he:aDq i=m
   .have hb:(m==aDq i)=true:=BN.2 (by simp[he]);rw[AP he] at hg
    repeat' first|simp -dsimp only[go_sem,hw,hb]|apply Br.mk<;>intro h<;>try simp -dsimp only[h]|refine aB.c (by first|exact aKY i hlt) ?_|refine aC ?_|fail
    all_goals simp[hg]
   .have hb:(m==aDq i)=false:=AC.2 (λe=>he (by simp[e]));rw[AB he] at hg
    repeat' first|simp -dsimp only[go_sem,hw,hb]|apply Br.mk<;>intro h<;>try simp -dsimp only[h]|refine aB.c (by first|exact aKY i hlt) ?_|refine aC ?_|fail
    all_goals(exact nx (i+1,()) hg)
  .have hge:i=10:=by
    have:¬i<10:=Dq;omega
   subst hge;simp -dsimp only[go_sem];have:dg m=-1:=by rw[←hg];rfl
   simp[this]
theorem zP (l:List Int) (H:l.length<=1048576):Vs.Fn Tryz.prog F.kM [] [.sl 1 (E cI l)] (.loc (.b 0) 0 l.length) [some (.arr 1 (E cI l) false)]:=by
 refine fn1 Cd.i_copyInts_k [.t 5 0] [.arr 1 (E cI l) false] λX=>?_;unfold Cd.kM;simp -dsimp only[go_sem,Af,Ag,Al,Aq];exact⟨by omega,⟨by omega,by omega⟩,⟨_,_,rfl,rfl⟩⟩
theorem aNm {α:Type}{c:α->List AV} (l:List α) (a b:Nat):E c ((l.take a).drop b)=((E c l).take a).drop b:=by simp[E,CG,CJ]
theorem part (c:List Int) (fr to:Int) (h0:0<=fr) (H:fr<=to) (h2:to<=c.length):Fz F.oO [.ro (cC c),.agg [.v (.int .i64 fr),.v (.int .i64 to)]] (.sl 1 (E cI ((c.take to.toNat).drop fr.toNat))):=by
 refine fn0 Cd.s_l02Part_k λX=>?_
 repeat' first|simp -dsimp only[go_sem,cC]|apply Br.mk<;>intro h<;>try simp -dsimp only[h]|refine aC ?_|fail
 all_goals exact bN (by rw[aNm])
end
section
variable [Vs.Envs]
attribute [local irreducible] Vs.Fn
theorem aB.own {P:Program}{f:FuncId}{ys:List AV}{d:Option Nat}{σ:St}{K:St->Prop}{t:Tag K}{r:AV}{F:List (Option Blk)} (H:Vs.Fn P f [] ys r F) (I:kT (d.getD 0) 0 F.length σ=true)
  (J:K ⟨put d (rn (phi [] (d.getD 0) F.length) r) σ.s,zU σ.h [] (d.getD 0) F true []⟩):aB P f [] ys [] d σ [] K t:=
 ⟨r,F,true,H,λh=>(by cases h),I,J⟩
def nGo:List Int->Int->Bool->Option (Int×Bool)
 | [],n,b=>some (n,b)
 |m::r,n,b=>if m=0∧b=false then nGo r n b else if dg m<0 then none else nGo r (W (W (10*n)+dg m)) true
def nB (x:Int):Bool:=pU .and .i64 x 2 != 0
def nY (x:Int):Int:=pU .andNot .i64 x 2
def xW (u:List Int) (x:Int):Int×Bool:=
 if (u++[x]).any (λz=>z != 0) then
  match nGo (u++[nY x]) 0 false with
  |none=>(0,false)
  |some (n,b)=>if !b||(nY x==0||(nB x&&n==0)) then(0,false) else(if nB x then W (0-n) else n,true)
 else(0,true)
theorem aMm (u v:List Int):∀(n:Int) (b:Bool),nGo (u++v) n b=(nGo u n b).bind λp=>nGo v p.1 p.2:=by
 induction u with
 |nil=>intro n b;rfl
 | cons m r ih =>
  intro n b;simp only[Ae,nGo];split
  .exact ih _ _
  .split
   .rfl
   .exact ih _ _
theorem nGo_t (u:List Int):∀(n:Int),nGo u n true=none∨∃k,nGo u n true=some (k,true):=by
 induction u with
 |nil=>intro n;exact .inr ⟨n,rfl⟩
 | cons m r ih =>
  intro n;simp only[nGo,Bool.true_eq_false,and_false,Bd];split
  .exact .inl rfl
  .exact ih _
theorem nGo_f (u:List Int):∀(n:Int),(u.any (λz=>z != 0)=false∧nGo u n false=some (n,false))∨(u.any (λz=>z != 0)=true∧(nGo u n false=none∨∃k,nGo u n false=some (k,true))):=by
 induction u with
 |nil=>intro n;exact .inl ⟨rfl,rfl⟩
 | cons m r ih =>
  intro n;simp only[nGo,List.any_cons,and_true];by_cases F:m=0
  .subst F;simpa using ih n
  .rw[AB F];refine .inr ⟨by simp[F],?_⟩;split
   .exact .inl rfl
   .exact nGo_t r _
set_option maxRecDepth 20000 in
theorem bits2:∀a,a<64->∀b,b<64->(if nB ((64*a+b:Nat):Int)=true then nY ((64*a+b:Nat):Int)=((64*a+b:Nat):Int)-2∧2<=64*a+b else nY ((64*a+b:Nat):Int)=((64*a+b:Nat):Int)):=by
 decide +kernel
theorem bit2 (x:Int) (h0:0<=x) (F:x<=4095):if nB x=true then nY x=x-2∧2<=x else nY x=x:=by
 obtain⟨n,rfl⟩:∃n:Nat,x=n:=⟨x.toNat,by omega⟩;have:=bits2 (n/64) (by omega) (n%64) (by omega);rw[show 64*(n/64)+n%64=n by omega] at this;split at this<;>split<;>first|omega|(rename_i a b;exact absurd a b)|(rename_i a b;exact absurd b a)
theorem aJb (x:Int):Fz F.fQ [.v (.int .i64 x)] (.v (.bool (x != 0))):=by
 refine fn0 Cd.i_numberIn_1_k λX=>?_
 repeat' first|simp -dsimp only[go_sem]|apply Br.mk<;>intro h<;>try simp -dsimp only[h]|refine aC ?_|fail
 all_goals(simp_all)
theorem lH (l:List Int) (H:l.length<=1048576):Fz F.jM [.sl 1 (E cI l),.fn F.fQ []] (.v (.int .i64 (qI (λz=>z != 0) l))):=
 aHb Tryz.mixed Cd.ixf_int64_k.o Cd.ixf_int64_k.n Cd.ixf_int64_k.r rfl (λz=>z != 0) F.fQ [] rfl (λx I=>aJb x) H
theorem conN (l:List Int) (H:l.length<=1048576):Fz F.lI [.sl 1 (E cI l),.fn F.fQ []] (.v (.bool (l.any (λz=>z != 0)))):=
 aGl Tryz.mixed (g:=F.jM) Cd.ctf_int64_k.o Cd.ctf_int64_k.n Cd.ctf_int64_k.r rfl (λz=>z != 0) F.fQ [] rfl (lH l H)
theorem aKH (c:List Int) (fr to:Int) (u:List Int) (x:Int) (h0:0<=fr) (h1:fr<=to) (h2:to<=c.length) (hp:(c.take to.toNat).drop fr.toNat=u++[x]) (hu:u.length+1<=12):Fz F.pM [.agg (cC c),.agg [.v (.int .i64 fr),.v (.int .i64 to)]] (.tup [.v (.int .i64 (xW u x).1),.v (.bool (xW u x).2)]):=by
 obtain⟨l,hl⟩:∃l:List Int,u++[x]=l:=⟨_,rfl⟩;obtain⟨M,hM⟩:∃M:List Int,u++[nY x]=M:=⟨_,rfl⟩;have hll:l.length=u.length+1:=by rw[←hl];simp
 have hML:M.length=u.length+1:=by rw[←hM];simp
 have hE:List.drop fr.toNat (List.take to.toNat (E cI c))=E cI l:=by rw[←aNm,hp,hl]
 have hw1:IntKind.i64.wrap ((l.length:Int)-1)=(u.length:Int):=by rw[aR (by omega) (by omega)];omega
 have hx:(E cI l).getD u.length []=[.v (.int .i64 x)]:=by rw[←hl];simp[E,cI,List.getD]
 have hst:(E cI l).set u.length [.v (.int .i64 (pU .andNot .i64 x 2))]=E cI M:=by rw[←hl,←hM];simp[E,cI,nY]
 have hB:(pU .and .i64 x 2 != 0)=nB x:=rfl;have hXM:(E cI M).getD u.length []=[.v (.int .i64 (nY x))]:=by rw[←hM];simp[E,cI,List.getD]
 refine fn0 Cd.i_numberIn_k λX=>?_;simp -dsimp only[go_sem,cC];refine⟨⟨by omega,by omega,by simpa using h2⟩,?_⟩;simp -dsimp only[go_sem,hE];refine aB.own (zP l (by omega)) rfl ?_;by_cases ha:l.any (λz=>z != 0)=true
 .simp -dsimp only[go_sem,hw1,hx,hst,ha,hB]
  repeat' first|simp -dsimp only[go_sem,hw1,hx,hst,ha,hB]|apply Br.mk<;>intro h<;>try simp -dsimp only[h]|refine aB.c (by first|exact zP l (by omega)|exact conN l (by omega)|exact aIF) ?_|refine aC ?_|fail
  refine aM.at dM (X:={zz:Nat×(Int×Bool) // zz.1<=l.length∧nGo (M.drop zz.1) zz.2.1 zz.2.2=nGo M 0 false}) (λzz=>[(44,.v (.int .i64 zz.1.1)),(9,.v (.int .i64 zz.1.2.1)),(10,.v (.bool zz.1.2.2))]) (λzz=>[]) (λzz=>l.length-zz.1.1) ⟨(0,(0,false)),by omega,by simp⟩ ?_ ?_
  .exact le0
  .rintro⟨⟨i,a,b⟩,hi,hg⟩;dsimp only at hi hg;simp -dsimp only[go_sem,hw1,hx,hst,ha,hB];refine Br.mk (λhc=>?_) λhc=>?_
   .have hlt:i<l.length:=Dq;have hw:=aG hlt (by omega);have hm:(E cI M).getD i []=[.v (.int .i64 M[i])]:=dJ (by omega);have hiM:i<M.length:=by omega
    rw[BS hiM,nGo] at hg;by_cases hz:M[i]=0
    .have e1:(M[i]==0)=true:=BN.2 hz;cases b with
     | false =>
      rw[AP ⟨hz,rfl⟩] at hg
      repeat' first|simp -dsimp only[go_sem,hm,hw,e1]|apply Br.mk<;>intro h<;>try simp -dsimp only[h]|refine aB.c (by first|exact aCo _) ?_|refine aC ?_|fail
      all_goals((refine λ_=>⟨?_,λh=>absurd rfl h⟩);exact nx (i+1,(a,false)) hg)
     | true =>
      rw[AB (by simp)] at hg;have hd:dg M[i]=-1:=by rw[hz];rfl
      rw[AP (by omega)] at hg;have hN:xW u x=(0,false):=by unfold xW;rw[hl,AP ha,hM,←hg]
      have e2:decide (dg M[i]<0)=true:=A7 (by omega)
      repeat' first|simp -dsimp only[go_sem,hm,hw,e1,e2]|apply Br.mk<;>intro h<;>try simp -dsimp only[h]|refine aB.c (by first|exact aCo _) ?_|refine aC ?_|fail
      all_goals simp[hN]
    .have e1:(M[i]==0)=false:=AC.2 hz;rw[AB (by simp[hz])] at hg;by_cases hd:dg M[i]<0
     .rw[AP hd] at hg;have hN:xW u x=(0,false):=by unfold xW;rw[hl,AP ha,hM,←hg]
      have e2:decide (dg M[i]<0)=true:=A7 hd
      repeat' first|simp -dsimp only[go_sem,hm,hw,e1,e2]|apply Br.mk<;>intro h<;>try simp -dsimp only[h]|refine aB.c (by first|exact aCo _) ?_|refine aC ?_|fail
      all_goals simp[hN]
     .rw[AB hd] at hg;have e2:decide (dg M[i]<0)=false:=AO hd
      repeat' first|simp -dsimp only[go_sem,hm,hw,e1,e2]|apply Br.mk<;>intro h<;>try simp -dsimp only[h]|refine aB.c (by first|exact aCo _) ?_|refine aC ?_|fail
      all_goals(exact nx (i+1,(W (W (10*a)+dg M[i]),true)) hg)
   .have hge:i=l.length:=by
     have:¬i<l.length:=Dq;omega
    subst hge;simp -dsimp only[go_sem,hw1,hx,hst,ha,hB];rw[List.drop_eq_nil_of_le (by omega),nGo] at hg;have hN:xW u x=(if !b||(nY x==0||(nB x&&a==0)) then(0,false) else(if nB x then W (0-a) else a,true)):=by unfold xW;rw[hl,AP ha,hM,←hg]
    cases hb:nB x<;>cases hy:(nY x==0)<;>cases h0:(a==0)<;>cases b
    all_goals
     simp -dsimp only[go_sem,hXM,hb,hy,h0,hw1,hx,hst,ha,hB]
    all_goals simp[hN,hb,hy,h0]
    all_goals omega
 .have ha:=by simpa using ha
  have hN:xW u x=(0,true):=by unfold xW;rw[hl,AB (by simpa using ha)]
  have ha:l.any (λz=>z != 0)=false:=by simpa using ha
  repeat' first|simp -dsimp only[go_sem,hw1,hx,hst,ha,hB]|apply Br.mk<;>intro h<;>try simp -dsimp only[h]|refine aB.c (by first|exact zP l (by omega)|exact conN l (by omega)|exact aIF) ?_|refine aC ?_|fail
  all_goals simp[hN]
end
section
variable [Vs.Envs]
attribute [local irreducible] Vs.Fn
def aHp (a:Int) (m:Bool):Int×Bool:=if m then(W (0-a),a != 0) else(a,true)
theorem aJc (u:List Int) (x:Int) (h0:0<=x) (h1:x<=4095) :
  xW u x=match nGo u 0 false with
   |none=>(0,false)
   |some (a,b)=>if nY x=0∧b=false∧nB x=false then(a,true) else if dg (nY x)<0 then(0,false) else aHp (W (W (10*a)+dg (nY x))) (nB x):=by
 have U:=bit2 x h0 h1;have Z:dg 0=-1:=rfl;unfold xW aHp;rw[aMm,List.any_append];rcases nGo_f u 0 with⟨Y,L⟩|⟨Y,L|⟨k,L⟩⟩
 .rw[L,Y];simp only[CQ,nGo,List.any_cons,List.any_nil,Bool.or_false,Di];have H:W 0=0:=by decide
  cases hn:nB x<;>simp only[hn,AR,Bd,Bj] at U
  .rw[U];by_cases I:x=0
   .simp[I]
   .by_cases F:dg x<0
    .simp[I,F]
    .simp[I,F]
  .obtain⟨U,h2⟩:=U;have I:x≠0:=by omega
   by_cases J:nY x=0
   .simp[J,I,Z]
   .by_cases F:dg (nY x)<0
    .simp[I,J,F]
    .by_cases O:W (dg (nY x))=0
     .simp[I,J,F,O,H]
     .simp[I,J,F,O,H]
 .rw[L,Y];simp
 .rw[L,Y];have H:W 0=0:=by decide
  simp only[CQ,nGo,Bool.true_or,Bj,Bool.true_eq_false,and_false,false_and,Bd];by_cases F:dg (nY x)<0
  .simp[F]
  .have J:nY x≠0:=by intro e;rw[e] at F;exact F (by decide)
   cases hn:nB x
   .simp[J,F]
   .by_cases O:W (W (10*k)+dg (nY x))=0
    .simp[J,F,O,H]
    .simp[J,F,O]
theorem aJo (u:List Int) (x:Int) (h0:0<=x) (h1:x<=4095) (hu:u.length+1<=12):Fz F.mX [.sl 1 (E cI (u++[x]))] (.tup [.v (.int .i64 (xW u x).1),.v (.bool (xW u x).2)]):=by
 have hF:=aJc u x h0 h1;have hb2:=bit2 x h0 h1;obtain⟨l,hl⟩:∃l:List Int,u++[x]=l:=⟨_,rfl⟩;have hll:l.length=u.length+1:=by rw[←hl];simp
 have hw1:IntKind.i64.wrap ((l.length:Int)-1)=(u.length:Int):=by rw[aR (by omega) (by omega)];omega
 rw[hl];refine fn0 Cd.s_l03Number_k λX=>?_;simp -dsimp only[go_sem];refine aM.at dM (X:={zz:Nat×(Int×Bool×Bool) // zz.1<=l.length∧((zz.1<=u.length∧zz.2.2.2=false∧nGo (u.drop zz.1) zz.2.1 zz.2.2.1=nGo u 0 false)∨(zz.1=u.length+1∧aHp zz.2.1 zz.2.2.2=xW u x))}) (λzz=>[(7,.v (.int .i64 zz.1.1)),(4,.v (.int .i64 zz.1.2.1)),(5,.v (.bool zz.1.2.2.1)),(6,.v (.bool zz.1.2.2.2))]) (λzz=>[]) (λzz=>l.length-zz.1.1) ⟨(0,(0,false,false)),by omega,.inl ⟨by omega,rfl,by simp⟩⟩ ?_ ?_
 .exact le0
 .rintro⟨⟨i,a,b,m⟩,hi,hg⟩;dsimp only at hi hg;simp -dsimp only[go_sem,hw1];refine Br.mk (λhc=>?_) λhc=>?_
  .have hlt:i<l.length:=Dq;have hw:=aG hlt (by omega);have hm:(E cI l).getD i []=[.v (.int .i64 l[i])]:=dJ hlt;have hiu:i<=u.length:=by omega
   rcases hg with⟨_,hmi,hg⟩|⟨hi2,_⟩
   case inr=>omega
   subst hmi;by_cases hi2:i<u.length
   .have hq:((i:Int)==(u.length:Int))=false:=AC.2 (by omega);have hm:(E cI l).getD i []=[.v (.int .i64 u[i])]:=by rw[hm];subst hl;simp[List.getElem_append,hi2]
    rw[BS hi2,nGo] at hg;by_cases hz:u[i]=0
    .have e1:(u[i]==0)=true:=BN.2 hz;cases b with
     | false =>
      rw[AP ⟨hz,rfl⟩] at hg
      repeat' first|simp -dsimp only[go_sem,hm,hw,hq,e1,hw1]|apply Br.mk<;>intro h<;>try simp -dsimp only[h]|refine aB.c (by first|exact lY _) ?_|refine aC ?_|fail
      all_goals((refine⟨?_,λh=>absurd rfl h⟩);exact nx (i+1,(a,false,false)) (.inl ⟨by first|omega|(simp;omega),rfl,hg⟩))
     | true =>
      rw[AB (by simp)] at hg;have hd:dg u[i]=-1:=by rw[hz];rfl
      rw[AP (by omega)] at hg;rw[←hg] at hF;have e2:decide (dg u[i]<0)=true:=A7 (by omega)
      repeat' first|simp -dsimp only[go_sem,hm,hw,hq,e1,e2,hw1]|apply Br.mk<;>intro h<;>try simp -dsimp only[h]|refine aB.c (by first|exact lY _) ?_|refine aC ?_|fail
      all_goals simp[hF]
    .have e1:(u[i]==0)=false:=AC.2 hz;rw[AB (by simp[hz])] at hg;by_cases hd:dg u[i]<0
     .rw[AP hd] at hg;rw[←hg] at hF;have e2:decide (dg u[i]<0)=true:=A7 hd
      repeat' first|simp -dsimp only[go_sem,hm,hw,hq,e1,e2,hw1]|apply Br.mk<;>intro h<;>try simp -dsimp only[h]|refine aB.c (by first|exact lY _) ?_|refine aC ?_|fail
      all_goals simp[hF]
     .rw[AB hd] at hg;have e2:decide (dg u[i]<0)=false:=AO hd
      repeat' first|simp -dsimp only[go_sem,hm,hw,hq,e1,e2,hw1]|apply Br.mk<;>intro h<;>try simp -dsimp only[h]|refine aB.c (by first|exact lY _) ?_|refine aC ?_|fail
      all_goals(exact nx (i+1,(W (W (10*a)+dg u[i]),true,false)) (.inl ⟨by first|omega|(simp;omega),rfl,hg⟩))
   .have hiu:i=u.length:=by omega
    subst hiu;have hq:((u.length:Int)==(u.length:Int))=true:=BN.2 rfl;have hm:(E cI l).getD u.length []=[.v (.int .i64 x)]:=by rw[hm];subst hl;simp
    rw[CV,nGo] at hg;rw[←hg] at hF;dsimp only at hF;have hB:(pU BinOp.and IntKind.i64 x 2 != 0)=nB x:=rfl;cases hn:nB x<;>simp only[hn,AR,Bd,Bj] at hb2
    .rw[hb2,hn] at hF;by_cases hz:x=0
     .have e1:(x==0)=true:=BN.2 hz;cases b with
      | false =>
       rw[AP ⟨hz,rfl,rfl⟩] at hF
       repeat' first|simp -dsimp only[go_sem,hm,hw,hq,e1,hB,hn,hw1]|apply Br.mk<;>intro h<;>try simp -dsimp only[h]|refine aB.c (by first|exact lY _) ?_|refine aC ?_|fail
       all_goals((refine⟨?_,λh=>absurd rfl h⟩);exact nx (u.length+1,(a,false,false)) (.inr ⟨rfl,by first|(rw[hF];done)|(rw[hF];simp[aHp])⟩))
      | true =>
       have hd:dg x=-1:=by rw[hz];rfl
       rw[AB (by simp),AP (by omega)] at hF;have e2:decide (dg x<0)=true:=A7 (by omega)
       repeat' first|simp -dsimp only[go_sem,hm,hw,hq,e1,e2,hB,hn,hw1]|apply Br.mk<;>intro h<;>try simp -dsimp only[h]|refine aB.c (by first|exact lY _) ?_|refine aC ?_|fail
       all_goals simp[hF]
     .have e1:(x==0)=false:=AC.2 hz;rw[AB (by simp[hz])] at hF;by_cases hd:dg x<0
      .rw[AP hd] at hF;have e2:decide (dg x<0)=true:=A7 hd
       repeat' first|simp -dsimp only[go_sem,hm,hw,hq,e1,e2,hB,hn,hw1]|apply Br.mk<;>intro h<;>try simp -dsimp only[h]|refine aB.c (by first|exact lY _) ?_|refine aC ?_|fail
       all_goals simp[hF]
      .rw[AB hd] at hF;have e2:decide (dg x<0)=false:=AO hd
       repeat' first|simp -dsimp only[go_sem,hm,hw,hq,e1,e2,hB,hn,hw1]|apply Br.mk<;>intro h<;>try simp -dsimp only[h]|refine aB.c (by first|exact lY _) ?_|refine aC ?_|fail
       all_goals(exact nx (u.length+1,(W (W (10*a)+dg x),true,false)) (.inr ⟨rfl,by first|(rw[hF];done)|(rw[hF];simp[aHp])⟩))
    .obtain⟨hb2,hx2⟩:=hb2;rw[hb2,hn] at hF;rw[AB (by simp)] at hF;have hw2:IntKind.i64.wrap (x-2)=x-2:=aR (by omega) (by omega);by_cases hd:dg (x-2)<0
     .rw[AP hd] at hF;have e2:decide (dg (x-2)<0)=true:=A7 hd;cases e1:(x-2==0)<;>cases b
      all_goals
       repeat' first|simp -dsimp only[go_sem,hm,hw,hq,hw2,e1,e2,hB,hn,hw1]|apply Br.mk<;>intro h<;>try simp -dsimp only[h]|refine aB.c (by first|exact lY _) ?_|refine aC ?_|fail
       all_goals simp[hF]
     .rw[AB hd] at hF;have e2:decide (dg (x-2)<0)=false:=AO hd;cases e1:(x-2==0)<;>cases b
      all_goals
       repeat' first|simp -dsimp only[go_sem,hm,hw,hq,hw2,e1,e2,hB,hn,hw1]|apply Br.mk<;>intro h<;>try simp -dsimp only[h]|refine aB.c (by first|exact lY _) ?_|refine aC ?_|fail
       all_goals(exact nx (u.length+1,(W (W (10*a)+dg (x-2)),true,true)) (.inr ⟨rfl,by first|(rw[hF];done)|(rw[hF];simp[aHp])⟩))
  .have hge:i=l.length:=by
    have:¬i<l.length:=Dq;omega
   subst hge;simp -dsimp only[go_sem,hw1];rcases hg with⟨h3,_⟩|⟨_,hg⟩
   .omega
   cases m
   all_goals
    simp -dsimp only[go_sem,hw1]
   all_goals simp[←hg,aHp]
end
end Go.Proofs.YtkgeiaideklmoaaGreat
