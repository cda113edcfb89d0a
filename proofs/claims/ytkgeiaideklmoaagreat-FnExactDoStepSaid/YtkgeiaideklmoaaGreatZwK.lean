/- The reference's number of a field. -/
import Derived.Test.YtkgeiaideklmoaaGreatZuR
import Derived.Test.YtkgeiaideklmoaaGreatVtR
import Derived.Test.YtkgeiaideklmoaaGreatVtK
import Derived.Lib.ItoaNum
set_option linter.all false
set_option maxHeartbeats 8000000
namespace Go.Proofs.YtkgeiaideklmoaaGreat
open Go.Vs
section
variable [Vs.Envs]
attribute [local irreducible] Vs.Fn bL aP bM bP l03
theorem aEz {r a b:Int} (h:inB r a b=true):a<=r:=by
 simp only[inB,Aw,Bb] at h;omega
def vI (r:Int):Int:=if r=12 then 1 else if r=11 then 2 else if inB r 0 9 then W (4*2 ^ (min r.toNat 64)) else 0
def cdP (n:Int):Int×Bool:=
 if n=32 then(0,true) else if n=38 then(vI 12,true) else if n=45 then(vI 11,true) else if aBy n then(vI (W (IntKind.u8.wrap (n-48))),true)
 else if btw n 65 73 then(orI (vI 12) (vI (W (W (IntKind.u8.wrap (n-65))+1))),true) else if btw n 74 82 then(orI (vI 11) (vI (W (W (IntKind.u8.wrap (n-74))+1))),true)
 else if n=47 then(orI (vI 0) (vI 1),true) else if btw n 83 90 then(orI (vI 0) (vI (W (W (IntKind.u8.wrap (n-83))+2))),true) else(0,false)
theorem aNn (r:Int):Fz F.fB [.v (.int .i64 r)] (.v (.int .i64 (vI r))):=by
 refine fn0 Cd.i_bitOf_k λX=>?_
 repeat' first|simp -dsimp only[go_sem]|apply Br.mk<;>intro h<;>try simp -dsimp only[h]|refine RgK.mk rfl ?_|refine aB.c (by first|exact inside _ _ _) ?_|refine And.intro (by first|rfl|omega|decide|exact aEz (by assumption)|(refine⟨?_,?_⟩<;>(first|rfl|omega|decide|exact aEz (by assumption)))|(refine⟨?_,?_,?_⟩<;>(first|rfl|omega|decide|exact aEz (by assumption)))|(refine⟨?_,?_,?_,?_⟩<;>(first|rfl|omega|decide|exact aEz (by assumption)))) ?_|fail
 all_goals(simp_all [vI,IntKind.bits])
theorem isDigit (n:Int):Fz F.uZ [.v (.int .u8 n)] (.v (.bool (aBy n))):=by
 refine fn0 Cd.i_isDigit_k λX=>?_
 repeat' first|simp -dsimp only[go_sem]|apply Br.mk<;>intro h<;>try simp -dsimp only[h]|refine aC ?_|fail
 all_goals(first|(simp_all [aBy];done)|(simp_all [aBy];omega))
theorem aNw (n:Int):Fz F.xP [.v (.int .u8 n)] (.tup [.v (.int .i64 (cdP n).1),.v (.bool (cdP n).2)]):=by
 refine fn0 Cd.i_CodeOf_k λX=>?_
 repeat' first|simp -dsimp only[go_sem]|apply Br.mk<;>intro h<;>try simp -dsimp only[h]|refine aB.c (by first|exact aNn _|exact isDigit _) ?_|refine aC ?_|fail
 all_goals(first|(simp_all [cdP,btw,orI];done)|(refine bK ?_;grind [cdP,btw,orI]))
def cd3 (n:Int):Int:=(cdP n).1
theorem codeOf (n:Int):Fz F.u7 [.v (.int .u8 n)] (.v (.int .i64 (cd3 n))):=by
 refine fn0 Cd.i_codeOf_k λX=>?_
 repeat' first|simp -dsimp only[go_sem]|apply Br.mk<;>intro h<;>try simp -dsimp only[h]|refine aB.c (by first|exact aNw _) ?_|refine aC ?_|fail
 all_goals(simp_all [cd3])
def chB (i:Nat):Nat:=(CH.data.toList.getD i 0).toNat
set_option maxRecDepth 100000 in
theorem aL8:∀i:Nat,i<40->cd3 (chB i)=l03 (chB i)∧0<=l03 (chB i):=by decide +kernel
def rkF (m:Int):Nat->Nat->Int
 |0,_=>-1
 |k+1,i=>if l03 (chB i)=m then i else rkF m k (i+1)
def rk (m:Int):Int:=rkF m 40 0
theorem aFc (m:Int) {i:Nat} (h:i<40):rkF m (40-i) i=if l03 (chB i)=m then(i:Int) else rkF m (40-(i+1)) (i+1):=by
 rw[show 40-i=(40-(i+1))+1 by omega,rkF]
theorem aEk (m:Int):∀(k i:Nat),k+i=40->-1<=rkF m k i∧rkF m k i<40∧(0<=rkF m k i->l03 (chB (rkF m k i).toNat)=m)
 |0,_,_=>by simp[rkF]
 | k+1,i,h=>by
  rw[rkF];split
  .rename_i F;exact⟨by omega,by omega,λ_=>by simpa using F⟩
  .exact aEk m k (i+1) (by omega)
theorem aCk (m:Int):-1<=rk m∧rk m<40:=⟨(aEk m 40 0 rfl).1,(aEk m 40 0 rfl).2.1⟩
theorem aHu {m:Int} (h:0<=rk m):l03 (chB (rk m).toNat)=m:=(aEk m 40 0 rfl).2.2 h
theorem aJP {a b:Int} (h:0<=rk a) (F:rk a=rk b):a=b:=by
 rw[←aHu h,F,aHu (F ▸ h)]
theorem chL (i:Nat):(([32,38,65,66,67,68,69,70,71,72,73,45,74,75,76,77,78,79,80,81,82,47,83,84,85,86,87,88,89,90,48,49,50,51,52,53,54,55,56,57]:List UInt8).getD i 0).toNat=chB i:=rfl
theorem chS:(⟨#[32,38,65,66,67,68,69,70,71,72,73,45,74,75,76,77,78,79,80,81,82,47,83,84,85,86,87,88,89,90,48,49,50,51,52,53,54,55,56,57]⟩:ByteArray).size=40:=rfl
attribute [local irreducible] chB rk cd3
theorem aCp (m:Int):Fz F.qF [.v (.int .i64 m)] (.v (.int .i64 (rk m))):=by
 refine fn0 Cd.i_rankOf_k λX=>?_;simp -dsimp only[go_sem];refine aM.at dM (X:={zz:Nat×(Unit) // zz.1<=40∧rkF m (40-zz.1) zz.1=rk m}) (λzz=>[(3,.v (.int .i64 zz.1.1))]) (λzz=>[]) (λzz=>40-zz.1.1) ⟨(0,()),by omega,by unfold rk;rfl⟩ ?_ ?_
 .exact le0
 .rintro⟨⟨i,_⟩,hi,hg⟩;dsimp only at hi hg;simp -dsimp only[go_sem];refine Br.mk (λhc=>?_) λhc=>?_
  .have hlt:i<40:=Dq;have hw:=aG hlt (by omega);rw[aFc m hlt] at hg;have hcb:=(aL8 i hlt).1;by_cases hz:l03 (chB i)=m
   .have ez:(l03 (chB i)==m)=true:=BO.2 hz;rw[AP hz] at hg
    repeat' first|simp -dsimp only[go_sem,hw,chL,chS,hcb,ez]|apply Br.mk<;>intro h<;>try simp -dsimp only[h]|refine aB.c (by first|exact codeOf _) ?_|refine aC ?_|fail
    all_goals simp[←hg]
   .have ez:(l03 (chB i)==m)=false:=AB.2 hz;rw[AC hz] at hg
    repeat' first|simp -dsimp only[go_sem,hw,chL,chS,hcb,ez]|apply Br.mk<;>intro h<;>try simp -dsimp only[h]|refine aB.c (by first|exact codeOf _) ?_|refine aC ?_|fail
    all_goals(exact nx (i+1,()) hg)
  .have hge:i=40:=by
    have:¬i<40:=Dq;omega
   subst hge;simp -dsimp only[go_sem];have:rk m=-1:=by rw[←hg];rfl
   simp[this]
end
section
variable [Vs.Envs]
attribute [local irreducible] Vs.Fn bL aP bM bP l03 chB rk cd3
def cU (n:Int):List AV:=[.v (.int .u8 n)]
theorem sG:∀l:List Int,sH (E cU l)=some l
 | []=>rfl
 | n::r=>by
  have:=sG r;simp only[E,Bt,cU,sH] at this⊢;rw[this]
def chI (m:Int):Int:=(chB (rk m).toNat:Int)
def txt (l:List Int):ByteArray:=aCh (l.map chI)
def dB (l:List Int):Bool:=l.all λm=>decide (0<=rk m)
theorem aNj:∀i:Nat,i<40->chB i<256:=λi _=>by unfold chB;exact UInt8.toNat_lt _
theorem aKw (m:Int):Fz F.bX [.v (.int .i64 m)] (.v (.bool (decide (rk m<0)))):=by
 refine fn0 Cd.i_hasCharacters_1_k λX=>?_
 repeat' first|simp -dsimp only[go_sem]|apply Br.mk<;>intro h<;>try simp -dsimp only[h]|refine aB.c (by first|exact aCp _) ?_|refine aC ?_|fail
 all_goals(simp_all)
theorem idxCh (l:List Int) (H:l.length<=1048576):Fz F.jK [.sl 1 (E cI l),.fn F.bX []] (.v (.int .i64 (qD (λm=>decide (rk m<0)) l))):=
 aGJ Tryz.mixed Cd.ixf_int64_k.o Cd.ixf_int64_k.n Cd.ixf_int64_k.r rfl (λm=>decide (rk m<0)) F.bX [] rfl (λm I=>aKw m) H
theorem conCh (l:List Int) (H:l.length<=1048576):Fz F.kY [.sl 1 (E cI l),.fn F.bX []] (.v (.bool (l.any (λm=>decide (rk m<0))))):=
 aFV Tryz.mixed (g:=F.jK) Cd.ctf_int64_k.o Cd.ctf_int64_k.n Cd.ctf_int64_k.r rfl (λm=>decide (rk m<0)) F.bX [] rfl (idxCh l H)
theorem aD0 (l:List Int):(!l.any λm=>decide (rk m<0))=dB l:=by
 unfold dB
 induction l with
 |nil=>rfl
 | cons x r ih =>
  simp only[List.any_cons,BJ,Bool.not_or,ih];congr 1;by_cases h:rk x<0<;>simp[h]<;>omega
theorem aDk (l:List Int) (H:l.length<=1048576):Fz F.jE [.sl 1 (E cI l)] (.v (.bool (dB l))):=by
 refine fn0 Cd.i_hasCharacters_k λX=>?_
 repeat' first|simp -dsimp only[go_sem]|apply Br.mk<;>intro h<;>try simp -dsimp only[h]|refine aB.c (by first|exact conCh l H) ?_|refine aC ?_|fail
 all_goals(first|(simp_all [aD0];done)|(refine bK ?_;have e:=aD0 l;simp_all))
theorem aFy  : Fz F.oD [] (.v (.string ⟨#[32,38,65,66,67,68,69,70,71,72,73,45,74,75,76,77,78,79,80,81,82,47,83,84,85,86,87,88,89,90,48,49,50,51,52,53,54,55,56,57]⟩)):=by
 refine fn0 Cd.s_l03Order_k λX=>?_
 repeat' first|simp -dsimp only[go_sem]|apply Br.mk<;>intro h<;>try simp -dsimp only[h]|refine aC ?_|fail
 all_goals(simp_all)
theorem aMI:(⟨#[32,38,65,66,67,68,69,70,71,72,73,45,74,75,76,77,78,79,80,81,82,47,83,84,85,86,87,88,89,90,48,49,50,51,52,53,54,55,56,57]⟩:ByteArray)=CH:=rfl
theorem uA:CH.size=40:=rfl
theorem aIb (i:Nat):(CH.data.toList.getD i 0).toNat=chB i:=by unfold chB;rfl
set_option maxRecDepth 100000 in
theorem aH0:∀i:Nat,i<40->∀j:Nat,j<40->chB i=chB j->i=j:=by decide +kernel
def aFz (m:Int):Int×Bool:=if 0<=rk m then(chI m,true) else(0,false)
theorem aHN (m:Int):Fz F.uN [.v (.int .i64 m)] (.tup [.v (.int .u8 (aFz m).1),.v (.bool (aFz m).2)]):=by
 refine fn0 Cd.s_l03Char_k λX=>?_;simp -dsimp only[go_sem];refine aB.flat aFy rfl ?_;simp -dsimp only[go_sem,aMI];refine aM.at dM (X:={zz:Nat×(Unit) // zz.1<=40∧rkF m (40-zz.1) zz.1=rk m}) (λzz=>[(5,.v (.int .i64 zz.1.1))]) (λzz=>[]) (λzz=>40-zz.1.1) ⟨(0,()),by omega,by unfold rk;rfl⟩ ?_ ?_
 .exact le0
 .rintro⟨⟨i,_⟩,hi,hg⟩;dsimp only at hi hg;simp -dsimp only[go_sem,uA];refine Br.mk (λhc=>?_) λhc=>?_
  .have hlt:i<40:=Dq;have hw:=aG hlt (by omega);rw[aFc m hlt] at hg;have h8:i<CH.size:=hlt;by_cases hz:l03 (chB i)=m
   .have ez:(l03 (chB i)==m)=true:=BO.2 hz;rw[AP hz] at hg
    repeat' first|simp -dsimp only[go_sem,hw,uA,aIb,ez]|apply Br.mk<;>intro h<;>try simp -dsimp only[h]|refine aB.c (by first|exact aEw _) ?_|refine aC ?_|fail
    all_goals first
     |(refine bK ?_;have hr:rk m=(i:Int):=hg.symm;simp[aFz,chI,hr];done)
     |omega
   .have ez:(l03 (chB i)==m)=false:=AB.2 hz;rw[AC hz] at hg
    repeat' first|simp -dsimp only[go_sem,hw,uA,aIb,ez]|apply Br.mk<;>intro h<;>try simp -dsimp only[h]|refine aB.c (by first|exact aEw _) ?_|refine aC ?_|fail
    all_goals first|omega|(exact nx (i+1,()) hg)
  .have hge:i=40:=by
    have:¬i<40:=Dq;omega
   subst hge;simp -dsimp only[go_sem,uA];have:rk m=-1:=by rw[←hg];rfl
   simp[aFz,this]
theorem aEv (k:Nat) (hk:k<40):Fz F.rG [.v (.int .u8 (chB k))] (.v (.int .i64 (k:Int))):=by
 refine fn0 Cd.s_l03Rank_k λX=>?_;simp -dsimp only[go_sem];refine aB.flat aFy rfl ?_;simp -dsimp only[go_sem,aMI];refine aM.at dM (X:={zz:Nat×(Unit) // zz.1<=40∧zz.1<=k}) (λzz=>[(4,.v (.int .i64 zz.1.1))]) (λzz=>[]) (λzz=>40-zz.1.1) ⟨(0,()),by omega,by omega⟩ ?_ ?_
 .exact le0
 .rintro⟨⟨i,_⟩,hi,hg⟩;dsimp only at hi hg;simp -dsimp only[go_sem,uA];refine Br.mk (λhc=>?_) λhc=>?_
  .have hlt:i<40:=Dq;have hw:=aG hlt (by omega);have h8:i<CH.size:=hlt;by_cases hz:i=k
   .subst hz;have ez:((chB i:Int)==(chB i:Int))=true:=BO.2 rfl
    repeat' first|simp -dsimp only[go_sem,hw,uA,aIb,ez]|apply Br.mk<;>intro h<;>try simp -dsimp only[h]|refine aC ?_|fail
    all_goals first|(simp_all;done)|omega
   .have ez:((chB i:Int)==(chB k:Int))=false:=AB.2 (λh=>hz (aH0 i hlt k hk (by omega)))
    repeat' first|simp -dsimp only[go_sem,hw,uA,aIb,ez]|apply Br.mk<;>intro h<;>try simp -dsimp only[h]|refine aC ?_|fail
    all_goals first|omega|(exact nx (i+1,()) (by dsimp only at hg⊢;omega))
  .have hge:i=40:=by
    have:¬i<40:=Dq;omega
   subst hge;simp -dsimp only[go_sem,uA];omega
end
section
variable [Vs.Envs]
attribute [local irreducible] Vs.Fn
end
section
variable [Vs.Envs]
attribute [local irreducible] Vs.Fn
end
section
variable [Vs.Envs]
attribute [local irreducible] Vs.Fn
end
section
variable [Vs.Envs]
attribute [local irreducible] Vs.Fn
def aC3 (i:Nat):Int:=((4*2 ^ i:Nat):Int)
theorem shl4 {i:Nat} (hi:i<10):IntKind.i64.wrap (4*2 ^ (min i IntKind.i64.bits))=aC3 i:=by
 have:i=0∨i=1∨i=2∨i=3∨i=4∨i=5∨i=6∨i=7∨i=8∨i=9:=by omega
 rcases this with rfl|rfl|rfl|rfl|rfl|rfl|rfl|rfl|rfl|rfl<;>decide
theorem u64I {i:Nat} (hi:i<10):IntKind.u64.wrap (i:Int)=(i:Int):=by
 have:i=0∨i=1∨i=2∨i=3∨i=4∨i=5∨i=6∨i=7∨i=8∨i=9:=by omega
 rcases this with rfl|rfl|rfl|rfl|rfl|rfl|rfl|rfl|rfl|rfl<;>decide
theorem aMC (i:Nat) (hi:i<10):Fz F.fB [.v (.int .i64 (i:Int))] (.v (.int .i64 (aC3 i))):=by
 have H:((i:Int)==12)=false:=AB.2 (by omega);have I:((i:Int)==11)=false:=AB.2 (by omega);have J:inB i 0 9=true:=by simp[inB];omega
 have L:=shl4 hi;have O:=u64I hi;have U:(0:Int)<=(i:Int):=by omega
 refine fn0 Cd.i_bitOf_k λX=>?_
 repeat' first|simp -dsimp only[go_sem,H,I,J,L,O,U]|apply Br.mk<;>intro h<;>try simp -dsimp only[h]|refine aB.c (by first|exact inside _ _ _) ?_|refine aC ?_|fail
 all_goals first|(simp_all;done)|(simp_all;exact shl4 hi)
theorem aKm (i:Nat) (hi:i<10):Fz F.jX [.v (.int .i64 (i:Int))] (.v (.int .i64 (aC3 i))):=by
 have H:((i:Int)==12)=false:=AB.2 (by omega);have I:((i:Int)==11)=false:=AB.2 (by omega);have J:inB i 0 9=true:=by simp[inB];omega
 have L:=shl4 hi;have O:=u64I hi;have U:(0:Int)<=(i:Int):=by omega
 refine fn0 Cd.s_l02Bit_k λX=>?_
 repeat' first|simp -dsimp only[go_sem,H,I,J,L,O,U]|apply Br.mk<;>intro h<;>try simp -dsimp only[h]|refine aB.c (by first|exact zG _ _ _) ?_|refine aC ?_|fail
 all_goals first|(simp_all;done)|(simp_all;exact shl4 hi)
theorem aH4  : Fz F.fB [.v (.int .i64 11)] (.v (.int .i64 2)):=by
 refine fn0 Cd.i_bitOf_k λX=>?_
 repeat' first|simp -dsimp only[go_sem]|apply Br.mk<;>intro h<;>try simp -dsimp only[h]|refine aB.c (by first|exact inside _ _ _) ?_|refine aC ?_|fail
 all_goals(simp_all)
def dgF (m:Int):Nat->Nat->Int
 |0,_=>-1
 |k+1,i=>if aC3 i=m then i else dgF m k (i+1)
def dg (m:Int):Int:=dgF m 10 0
theorem aFU (m:Int) {i:Nat} (hi:i<10):dgF m (10-i) i=if aC3 i=m then(i:Int) else dgF m (10-(i+1)) (i+1):=by
 rw[show 10-i=(10-(i+1))+1 by omega,dgF]
theorem aB8 (m:Int):Fz F.u6 [.v (.int .i64 m)] (.v (.int .i64 (dg m))):=by
 refine fn0 Cd.i_digitOf_k λX=>?_;simp -dsimp only[go_sem];refine aM.at dM (X:={zz:Nat×(Unit) // zz.1<=10∧dgF m (10-zz.1) zz.1=dg m}) (λzz=>[(4,.v (.int .i64 zz.1.1))]) (λzz=>[]) (λzz=>10-zz.1.1) ⟨(0,()),by omega,rfl⟩ ?_ ?_
 .exact le0
 .rintro⟨⟨i,a⟩,hi,hg⟩;dsimp only at hi hg;simp -dsimp only[go_sem];refine Br.mk (λhc=>?_) λhc=>?_
  .have hlt:i<10:=Dq;have hw:=aG hlt (by omega);rw[aFU m hlt] at hg;by_cases he:aC3 i=m
   .have hb:(aC3 i==m)=true:=BO.2 (by simp[he]);rw[AP he] at hg
    repeat' first|simp -dsimp only[go_sem,hw,hb]|apply Br.mk<;>intro h<;>try simp -dsimp only[h]|refine aB.c (by first|exact aMC i hlt) ?_|refine aC ?_|fail
    all_goals simp[hg]
   .have hb:(aC3 i==m)=false:=AB.2 (λe=>he (by simp[e]));rw[AC he] at hg
    repeat' first|simp -dsimp only[go_sem,hw,hb]|apply Br.mk<;>intro h<;>try simp -dsimp only[h]|refine aB.c (by first|exact aMC i hlt) ?_|refine aC ?_|fail
    all_goals(exact nx (i+1,()) hg)
  .have hge:i=10:=by
    have:¬i<10:=Dq;omega
   subst hge;simp -dsimp only[go_sem];have:dg m=-1:=by rw[←hg];rfl
   simp[this]
theorem lN (m:Int):Fz F.rY [.v (.int .i64 m)] (.v (.int .i64 (dg m))):=by
 refine fn0 Cd.s_l03Digit_k λX=>?_;simp -dsimp only[go_sem];refine aM.at dM (X:={zz:Nat×(Unit) // zz.1<=10∧dgF m (10-zz.1) zz.1=dg m}) (λzz=>[(3,.v (.int .i64 zz.1.1))]) (λzz=>[]) (λzz=>10-zz.1.1) ⟨(0,()),by omega,rfl⟩ ?_ ?_
 .exact le0
 .rintro⟨⟨i,a⟩,hi,hg⟩;dsimp only at hi hg;simp -dsimp only[go_sem];refine Br.mk (λhc=>?_) λhc=>?_
  .have hlt:i<10:=Dq;have hw:=aG hlt (by omega);rw[aFU m hlt] at hg;by_cases he:aC3 i=m
   .have hb:(m==aC3 i)=true:=BO.2 (by simp[he]);rw[AP he] at hg
    repeat' first|simp -dsimp only[go_sem,hw,hb]|apply Br.mk<;>intro h<;>try simp -dsimp only[h]|refine aB.c (by first|exact aKm i hlt) ?_|refine aC ?_|fail
    all_goals simp[hg]
   .have hb:(m==aC3 i)=false:=AB.2 (λe=>he (by simp[e]));rw[AC he] at hg
    repeat' first|simp -dsimp only[go_sem,hw,hb]|apply Br.mk<;>intro h<;>try simp -dsimp only[h]|refine aB.c (by first|exact aKm i hlt) ?_|refine aC ?_|fail
    all_goals(exact nx (i+1,()) hg)
  .have hge:i=10:=by
    have:¬i<10:=Dq;omega
   subst hge;simp -dsimp only[go_sem];have:dg m=-1:=by rw[←hg];rfl
   simp[this]
theorem y7 (l:List Int) (H:l.length<=1048576):Vs.Fn Tryz.prog F.kH [] [.sl 1 (E cI l)] (.loc (.b 0) 0 l.length) [some (.arr 1 (E cI l) false)]:=by
 refine fn1 Cd.i_copyInts_k [.t 5 0] [.arr 1 (E cI l) false] λX=>?_;unfold Cd.kH;simp -dsimp only[go_sem,Af,Ag,Ao,Aq];exact⟨by omega,⟨by omega,by omega⟩,⟨_,_,rfl,rfl⟩⟩
theorem aMH {α:Type}{c:α->List AV} (l:List α) (a b:Nat):E c ((l.take a).drop b)=((E c l).take a).drop b:=by simp[E,CG,CJ]
theorem part (c:List Int) (fr to:Int) (h0:0<=fr) (H:fr<=to) (h2:to<=c.length):Fz F.oF [.ro (cC c),.agg [.v (.int .i64 fr),.v (.int .i64 to)]] (.sl 1 (E cI ((c.take to.toNat).drop fr.toNat))):=by
 refine fn0 Cd.s_l02Part_k λX=>?_
 repeat' first|simp -dsimp only[go_sem,cC]|apply Br.mk<;>intro h<;>try simp -dsimp only[h]|refine aC ?_|fail
 all_goals exact bK (by rw[aMH])
end
section
variable [Vs.Envs]
attribute [local irreducible] Vs.Fn
theorem aB.own {P:Program}{f:FuncId}{ys:List AV}{d:Option Nat}{σ:St}{K:St->Prop}{t:Tag K}{r:AV}{F:List (Option Blk)} (H:Vs.Fn P f [] ys r F) (I:kM (d.getD 0) 0 F.length σ=true)
  (J:K ⟨put d (rn (phi [] (d.getD 0) F.length) r) σ.s,zC σ.h [] (d.getD 0) F true []⟩):aB P f [] ys [] d σ [] K t:=
 ⟨r,F,true,H,λh=>(by cases h),I,J⟩
def nGo:List Int->Int->Bool->Option (Int×Bool)
 | [],n,b=>some (n,b)
 |m::r,n,b=>if m=0∧b=false then nGo r n b else if dg m<0 then none else nGo r (W (W (10*n)+dg m)) true
def nB (x:Int):Bool:=pK .and .i64 x 2 != 0
def nY (x:Int):Int:=pK .andNot .i64 x 2
def xE (u:List Int) (x:Int):Int×Bool:=
 if (u++[x]).any (λz=>z != 0) then
  match nGo (u++[nY x]) 0 false with
  |none=>(0,false)
  |some (n,b)=>if !b||(nY x==0||(nB x&&n==0)) then(0,false) else(if nB x then W (0-n) else n,true)
 else(0,true)
theorem aLL (u v:List Int):∀(n:Int) (b:Bool),nGo (u++v) n b=(nGo u n b).bind λp=>nGo v p.1 p.2:=by
 induction u with
 |nil=>intro n b;rfl
 | cons m r ih =>
  intro n b;simp only[Ae,nGo];split
  .exact ih _ _
  .split
   .rfl
   .exact ih _ _
theorem nGo_t (u:List Int):∀(n:Int),nGo u n true=none∨∃k,nGo u n true=some (k,true):=by
 induction u with
 |nil=>intro n;exact .inr ⟨n,rfl⟩
 | cons m r ih =>
  intro n;simp only[nGo,Bool.true_eq_false,and_false,Bc];split
  .exact .inl rfl
  .exact ih _
theorem nGo_f (u:List Int):∀(n:Int),(u.any (λz=>z != 0)=false∧nGo u n false=some (n,false))∨(u.any (λz=>z != 0)=true∧(nGo u n false=none∨∃k,nGo u n false=some (k,true))):=by
 induction u with
 |nil=>intro n;exact .inl ⟨rfl,rfl⟩
 | cons m r ih =>
  intro n;simp only[nGo,List.any_cons,and_true];by_cases F:m=0
  .subst F;simpa using ih n
  .rw[AC F];refine .inr ⟨by simp[F],?_⟩;split
   .exact .inl rfl
   .exact nGo_t r _
set_option maxRecDepth 20000 in
theorem bits2:∀a,a<64->∀b,b<64->(if nB ((64*a+b:Nat):Int)=true then nY ((64*a+b:Nat):Int)=((64*a+b:Nat):Int)-2∧2<=64*a+b else nY ((64*a+b:Nat):Int)=((64*a+b:Nat):Int)):=by
 decide +kernel
theorem bit2 (x:Int) (h0:0<=x) (F:x<=4095):if nB x=true then nY x=x-2∧2<=x else nY x=x:=by
 obtain⟨n,rfl⟩:∃n:Nat,x=n:=⟨x.toNat,by omega⟩;have:=bits2 (n/64) (by omega) (n%64) (by omega);rw[show 64*(n/64)+n%64=n by omega] at this;split at this<;>split<;>first|omega|(rename_i a b;exact absurd a b)|(rename_i a b;exact absurd b a)
theorem aIy (x:Int):Fz F.fO [.v (.int .i64 x)] (.v (.bool (x != 0))):=by
 refine fn0 Cd.i_numberIn_1_k λX=>?_
 repeat' first|simp -dsimp only[go_sem]|apply Br.mk<;>intro h<;>try simp -dsimp only[h]|refine aC ?_|fail
 all_goals(simp_all)
theorem kX (l:List Int) (H:l.length<=1048576):Fz F.jK [.sl 1 (E cI l),.fn F.fO []] (.v (.int .i64 (qD (λz=>z != 0) l))):=
 aGJ Tryz.mixed Cd.ixf_int64_k.o Cd.ixf_int64_k.n Cd.ixf_int64_k.r rfl (λz=>z != 0) F.fO [] rfl (λx I=>aIy x) H
theorem conN (l:List Int) (H:l.length<=1048576):Fz F.kY [.sl 1 (E cI l),.fn F.fO []] (.v (.bool (l.any (λz=>z != 0)))):=
 aFV Tryz.mixed (g:=F.jK) Cd.ctf_int64_k.o Cd.ctf_int64_k.n Cd.ctf_int64_k.r rfl (λz=>z != 0) F.fO [] rfl (kX l H)
theorem aJ4 (c:List Int) (fr to:Int) (u:List Int) (x:Int) (h0:0<=fr) (h1:fr<=to) (h2:to<=c.length) (hp:(c.take to.toNat).drop fr.toNat=u++[x]) (hu:u.length+1<=12):Fz F.pE [.agg (cC c),.agg [.v (.int .i64 fr),.v (.int .i64 to)]] (.tup [.v (.int .i64 (xE u x).1),.v (.bool (xE u x).2)]):=by
 obtain⟨l,hl⟩:∃l:List Int,u++[x]=l:=⟨_,rfl⟩;obtain⟨M,hM⟩:∃M:List Int,u++[nY x]=M:=⟨_,rfl⟩;have hll:l.length=u.length+1:=by rw[←hl];simp
 have hML:M.length=u.length+1:=by rw[←hM];simp
 have hE:List.drop fr.toNat (List.take to.toNat (E cI c))=E cI l:=by rw[←aMH,hp,hl]
 have hw1:IntKind.i64.wrap ((l.length:Int)-1)=(u.length:Int):=by rw[aV (by omega) (by omega)];omega
 have hx:(E cI l).getD u.length []=[.v (.int .i64 x)]:=by rw[←hl];simp[E,cI,List.getD]
 have hst:(E cI l).set u.length [.v (.int .i64 (pK .andNot .i64 x 2))]=E cI M:=by rw[←hl,←hM];simp[E,cI,nY]
 have hB:(pK .and .i64 x 2 != 0)=nB x:=rfl;have hXM:(E cI M).getD u.length []=[.v (.int .i64 (nY x))]:=by rw[←hM];simp[E,cI,List.getD]
 refine fn0 Cd.i_numberIn_k λX=>?_;simp -dsimp only[go_sem,cC];refine⟨⟨by omega,by omega,by simpa using h2⟩,?_⟩;simp -dsimp only[go_sem,hE];refine aB.own (y7 l (by omega)) rfl ?_;by_cases ha:l.any (λz=>z != 0)=true
 .simp -dsimp only[go_sem,hw1,hx,hst,ha,hB]
  repeat' first|simp -dsimp only[go_sem,hw1,hx,hst,ha,hB]|apply Br.mk<;>intro h<;>try simp -dsimp only[h]|refine aB.c (by first|exact y7 l (by omega)|exact conN l (by omega)|exact aH4) ?_|refine aC ?_|fail
  refine aM.at dM (X:={zz:Nat×(Int×Bool) // zz.1<=l.length∧nGo (M.drop zz.1) zz.2.1 zz.2.2=nGo M 0 false}) (λzz=>[(44,.v (.int .i64 zz.1.1)),(9,.v (.int .i64 zz.1.2.1)),(10,.v (.bool zz.1.2.2))]) (λzz=>[]) (λzz=>l.length-zz.1.1) ⟨(0,(0,false)),by omega,by simp⟩ ?_ ?_
  .exact le0
  .rintro⟨⟨i,a,b⟩,hi,hg⟩;dsimp only at hi hg;simp -dsimp only[go_sem,hw1,hx,hst,ha,hB];refine Br.mk (λhc=>?_) λhc=>?_
   .have hlt:i<l.length:=Dq;have hw:=aG hlt (by omega);have hm:(E cI M).getD i []=[.v (.int .i64 M[i])]:=dI (by omega);have hiM:i<M.length:=by omega
    rw[Ci hiM,nGo] at hg;by_cases hz:M[i]=0
    .have e1:(M[i]==0)=true:=BO.2 hz;cases b with
     | false =>
      rw[AP ⟨hz,rfl⟩] at hg
      repeat' first|simp -dsimp only[go_sem,hm,hw,e1]|apply Br.mk<;>intro h<;>try simp -dsimp only[h]|refine aB.c (by first|exact aB8 _) ?_|refine aC ?_|fail
      all_goals((refine λ_=>⟨?_,λh=>absurd rfl h⟩);exact nx (i+1,(a,false)) hg)
     | true =>
      rw[AC (by simp)] at hg;have hd:dg M[i]=-1:=by rw[hz];rfl
      rw[AP (by omega)] at hg;have hN:xE u x=(0,false):=by unfold xE;rw[hl,AP ha,hM,←hg]
      have e2:decide (dg M[i]<0)=true:=A9 (by omega)
      repeat' first|simp -dsimp only[go_sem,hm,hw,e1,e2]|apply Br.mk<;>intro h<;>try simp -dsimp only[h]|refine aB.c (by first|exact aB8 _) ?_|refine aC ?_|fail
      all_goals simp[hN]
    .have e1:(M[i]==0)=false:=AB.2 hz;rw[AC (by simp[hz])] at hg;by_cases hd:dg M[i]<0
     .rw[AP hd] at hg;have hN:xE u x=(0,false):=by unfold xE;rw[hl,AP ha,hM,←hg]
      have e2:decide (dg M[i]<0)=true:=A9 hd
      repeat' first|simp -dsimp only[go_sem,hm,hw,e1,e2]|apply Br.mk<;>intro h<;>try simp -dsimp only[h]|refine aB.c (by first|exact aB8 _) ?_|refine aC ?_|fail
      all_goals simp[hN]
     .rw[AC hd] at hg;have e2:decide (dg M[i]<0)=false:=AQ hd
      repeat' first|simp -dsimp only[go_sem,hm,hw,e1,e2]|apply Br.mk<;>intro h<;>try simp -dsimp only[h]|refine aB.c (by first|exact aB8 _) ?_|refine aC ?_|fail
      all_goals(exact nx (i+1,(W (W (10*a)+dg M[i]),true)) hg)
   .have hge:i=l.length:=by
     have:¬i<l.length:=Dq;omega
    subst hge;simp -dsimp only[go_sem,hw1,hx,hst,ha,hB];rw[List.drop_eq_nil_of_le (by omega),nGo] at hg;have hN:xE u x=(if !b||(nY x==0||(nB x&&a==0)) then(0,false) else(if nB x then W (0-a) else a,true)):=by unfold xE;rw[hl,AP ha,hM,←hg]
    cases hb:nB x<;>cases hy:(nY x==0)<;>cases h0:(a==0)<;>cases b
    all_goals
     simp -dsimp only[go_sem,hXM,hb,hy,h0,hw1,hx,hst,ha,hB]
    all_goals simp[hN,hb,hy,h0]
    all_goals omega
 .have ha:=by simpa using ha
  have hN:xE u x=(0,true):=by unfold xE;rw[hl,AC (by simpa using ha)]
  have ha:l.any (λz=>z != 0)=false:=by simpa using ha
  repeat' first|simp -dsimp only[go_sem,hw1,hx,hst,ha,hB]|apply Br.mk<;>intro h<;>try simp -dsimp only[h]|refine aB.c (by first|exact y7 l (by omega)|exact conN l (by omega)|exact aH4) ?_|refine aC ?_|fail
  all_goals simp[hN]
end
section
variable [Vs.Envs]
attribute [local irreducible] Vs.Fn
def aGX (a:Int) (m:Bool):Int×Bool:=if m then(W (0-a),a != 0) else(a,true)
theorem aIz (u:List Int) (x:Int) (h0:0<=x) (h1:x<=4095) :
  xE u x=match nGo u 0 false with
   |none=>(0,false)
   |some (a,b)=>if nY x=0∧b=false∧nB x=false then(a,true) else if dg (nY x)<0 then(0,false) else aGX (W (W (10*a)+dg (nY x))) (nB x):=by
 have U:=bit2 x h0 h1;have Z:dg 0=-1:=rfl;unfold xE aGX;rw[aLL,List.any_append];rcases nGo_f u 0 with⟨Y,L⟩|⟨Y,L|⟨k,L⟩⟩
 .rw[L,Y];simp only[CQ,nGo,List.any_cons,List.any_nil,Bool.or_false,Di];have H:W 0=0:=by decide
  cases hn:nB x<;>simp only[hn,AO,Bc,Bj] at U
  .rw[U];by_cases I:x=0
   .simp[I]
   .by_cases F:dg x<0
    .simp[I,F]
    .simp[I,F]
  .obtain⟨U,h2⟩:=U;have I:x≠0:=by omega
   by_cases J:nY x=0
   .simp[J,I,Z]
   .by_cases F:dg (nY x)<0
    .simp[I,J,F]
    .by_cases O:W (dg (nY x))=0
     .simp[I,J,F,O,H]
     .simp[I,J,F,O,H]
 .rw[L,Y];simp
 .rw[L,Y];have H:W 0=0:=by decide
  simp only[CQ,nGo,Bool.true_or,Bj,Bool.true_eq_false,and_false,false_and,Bc];by_cases F:dg (nY x)<0
  .simp[F]
  .have J:nY x≠0:=by intro e;rw[e] at F;exact F (by decide)
   cases hn:nB x
   .simp[J,F]
   .by_cases O:W (W (10*k)+dg (nY x))=0
    .simp[J,F,O,H]
    .simp[J,F,O]
theorem aIJ (u:List Int) (x:Int) (h0:0<=x) (h1:x<=4095) (hu:u.length+1<=12):Fz F.mO [.sl 1 (E cI (u++[x]))] (.tup [.v (.int .i64 (xE u x).1),.v (.bool (xE u x).2)]):=by
 have hF:=aIz u x h0 h1;have hb2:=bit2 x h0 h1;obtain⟨l,hl⟩:∃l:List Int,u++[x]=l:=⟨_,rfl⟩;have hll:l.length=u.length+1:=by rw[←hl];simp
 have hw1:IntKind.i64.wrap ((l.length:Int)-1)=(u.length:Int):=by rw[aV (by omega) (by omega)];omega
 rw[hl];refine fn0 Cd.s_l03Number_k λX=>?_;simp -dsimp only[go_sem];refine aM.at dM (X:={zz:Nat×(Int×Bool×Bool) // zz.1<=l.length∧((zz.1<=u.length∧zz.2.2.2=false∧nGo (u.drop zz.1) zz.2.1 zz.2.2.1=nGo u 0 false)∨(zz.1=u.length+1∧aGX zz.2.1 zz.2.2.2=xE u x))}) (λzz=>[(7,.v (.int .i64 zz.1.1)),(4,.v (.int .i64 zz.1.2.1)),(5,.v (.bool zz.1.2.2.1)),(6,.v (.bool zz.1.2.2.2))]) (λzz=>[]) (λzz=>l.length-zz.1.1) ⟨(0,(0,false,false)),by omega,.inl ⟨by omega,rfl,by simp⟩⟩ ?_ ?_
 .exact le0
 .rintro⟨⟨i,a,b,m⟩,hi,hg⟩;dsimp only at hi hg;simp -dsimp only[go_sem,hw1];refine Br.mk (λhc=>?_) λhc=>?_
  .have hlt:i<l.length:=Dq;have hw:=aG hlt (by omega);have hm:(E cI l).getD i []=[.v (.int .i64 l[i])]:=dI hlt;have hiu:i<=u.length:=by omega
   rcases hg with⟨_,hmi,hg⟩|⟨hi2,_⟩
   case inr=>omega
   subst hmi;by_cases hi2:i<u.length
   .have hq:((i:Int)==(u.length:Int))=false:=AB.2 (by omega);have hm:(E cI l).getD i []=[.v (.int .i64 u[i])]:=by rw[hm];subst hl;simp[List.getElem_append,hi2]
    rw[Ci hi2,nGo] at hg;by_cases hz:u[i]=0
    .have e1:(u[i]==0)=true:=BO.2 hz;cases b with
     | false =>
      rw[AP ⟨hz,rfl⟩] at hg
      repeat' first|simp -dsimp only[go_sem,hm,hw,hq,e1,hw1]|apply Br.mk<;>intro h<;>try simp -dsimp only[h]|refine aB.c (by first|exact lN _) ?_|refine aC ?_|fail
      all_goals((refine⟨?_,λh=>absurd rfl h⟩);exact nx (i+1,(a,false,false)) (.inl ⟨by first|omega|(simp;omega),rfl,hg⟩))
     | true =>
      rw[AC (by simp)] at hg;have hd:dg u[i]=-1:=by rw[hz];rfl
      rw[AP (by omega)] at hg;rw[←hg] at hF;have e2:decide (dg u[i]<0)=true:=A9 (by omega)
      repeat' first|simp -dsimp only[go_sem,hm,hw,hq,e1,e2,hw1]|apply Br.mk<;>intro h<;>try simp -dsimp only[h]|refine aB.c (by first|exact lN _) ?_|refine aC ?_|fail
      all_goals simp[hF]
    .have e1:(u[i]==0)=false:=AB.2 hz;rw[AC (by simp[hz])] at hg;by_cases hd:dg u[i]<0
     .rw[AP hd] at hg;rw[←hg] at hF;have e2:decide (dg u[i]<0)=true:=A9 hd
      repeat' first|simp -dsimp only[go_sem,hm,hw,hq,e1,e2,hw1]|apply Br.mk<;>intro h<;>try simp -dsimp only[h]|refine aB.c (by first|exact lN _) ?_|refine aC ?_|fail
      all_goals simp[hF]
     .rw[AC hd] at hg;have e2:decide (dg u[i]<0)=false:=AQ hd
      repeat' first|simp -dsimp only[go_sem,hm,hw,hq,e1,e2,hw1]|apply Br.mk<;>intro h<;>try simp -dsimp only[h]|refine aB.c (by first|exact lN _) ?_|refine aC ?_|fail
      all_goals(exact nx (i+1,(W (W (10*a)+dg u[i]),true,false)) (.inl ⟨by first|omega|(simp;omega),rfl,hg⟩))
   .have hiu:i=u.length:=by omega
    subst hiu;have hq:((u.length:Int)==(u.length:Int))=true:=BO.2 rfl;have hm:(E cI l).getD u.length []=[.v (.int .i64 x)]:=by rw[hm];subst hl;simp
    rw[De,nGo] at hg;rw[←hg] at hF;dsimp only at hF;have hB:(pK BinOp.and IntKind.i64 x 2 != 0)=nB x:=rfl;cases hn:nB x<;>simp only[hn,AO,Bc,Bj] at hb2
    .rw[hb2,hn] at hF;by_cases hz:x=0
     .have e1:(x==0)=true:=BO.2 hz;cases b with
      | false =>
       rw[AP ⟨hz,rfl,rfl⟩] at hF
       repeat' first|simp -dsimp only[go_sem,hm,hw,hq,e1,hB,hn,hw1]|apply Br.mk<;>intro h<;>try simp -dsimp only[h]|refine aB.c (by first|exact lN _) ?_|refine aC ?_|fail
       all_goals((refine⟨?_,λh=>absurd rfl h⟩);exact nx (u.length+1,(a,false,false)) (.inr ⟨rfl,by first|(rw[hF];done)|(rw[hF];simp[aGX])⟩))
      | true =>
       have hd:dg x=-1:=by rw[hz];rfl
       rw[AC (by simp),AP (by omega)] at hF;have e2:decide (dg x<0)=true:=A9 (by omega)
       repeat' first|simp -dsimp only[go_sem,hm,hw,hq,e1,e2,hB,hn,hw1]|apply Br.mk<;>intro h<;>try simp -dsimp only[h]|refine aB.c (by first|exact lN _) ?_|refine aC ?_|fail
       all_goals simp[hF]
     .have e1:(x==0)=false:=AB.2 hz;rw[AC (by simp[hz])] at hF;by_cases hd:dg x<0
      .rw[AP hd] at hF;have e2:decide (dg x<0)=true:=A9 hd
       repeat' first|simp -dsimp only[go_sem,hm,hw,hq,e1,e2,hB,hn,hw1]|apply Br.mk<;>intro h<;>try simp -dsimp only[h]|refine aB.c (by first|exact lN _) ?_|refine aC ?_|fail
       all_goals simp[hF]
      .rw[AC hd] at hF;have e2:decide (dg x<0)=false:=AQ hd
       repeat' first|simp -dsimp only[go_sem,hm,hw,hq,e1,e2,hB,hn,hw1]|apply Br.mk<;>intro h<;>try simp -dsimp only[h]|refine aB.c (by first|exact lN _) ?_|refine aC ?_|fail
       all_goals(exact nx (u.length+1,(W (W (10*a)+dg x),true,false)) (.inr ⟨rfl,by first|(rw[hF];done)|(rw[hF];simp[aGX])⟩))
    .obtain⟨hb2,hx2⟩:=hb2;rw[hb2,hn] at hF;rw[AC (by simp)] at hF;have hw2:IntKind.i64.wrap (x-2)=x-2:=aV (by omega) (by omega);by_cases hd:dg (x-2)<0
     .rw[AP hd] at hF;have e2:decide (dg (x-2)<0)=true:=A9 hd;cases e1:(x-2==0)<;>cases b
      all_goals
       repeat' first|simp -dsimp only[go_sem,hm,hw,hq,hw2,e1,e2,hB,hn,hw1]|apply Br.mk<;>intro h<;>try simp -dsimp only[h]|refine aB.c (by first|exact lN _) ?_|refine aC ?_|fail
       all_goals simp[hF]
     .rw[AC hd] at hF;have e2:decide (dg (x-2)<0)=false:=AQ hd;cases e1:(x-2==0)<;>cases b
      all_goals
       repeat' first|simp -dsimp only[go_sem,hm,hw,hq,hw2,e1,e2,hB,hn,hw1]|apply Br.mk<;>intro h<;>try simp -dsimp only[h]|refine aB.c (by first|exact lN _) ?_|refine aC ?_|fail
       all_goals(exact nx (u.length+1,(W (W (10*a)+dg (x-2)),true,true)) (.inr ⟨rfl,by first|(rw[hF];done)|(rw[hF];simp[aGX])⟩))
  .have hge:i=l.length:=by
    have:¬i<l.length:=Dq;omega
   subst hge;simp -dsimp only[go_sem,hw1];rcases hg with⟨h3,_⟩|⟨_,hg⟩
   .omega
   cases m
   all_goals
    simp -dsimp only[go_sem,hw1]
   all_goals simp[←hg,aGX]
end
end Go.Proofs.YtkgeiaideklmoaaGreat
