/- Texts of qC, and how they are compared. -/
import Derived.Test.YthbnjmgjhonfbaaGreatTuF
import Derived.Test.YthbnjmgjhonfbaaGreatTuR
import Derived.Test.YthbnjmgjhonfbaaGreatVtN
set_option linter.all false
set_option maxHeartbeats 8000000
namespace Go.Proofs.YthbnjmgjhonfbaaGreat
open Go.Vs
section
variable [Vs.Envs]
attribute [local irreducible] Vs.Fn cZ aW dB dC l03
theorem aD4 {r a b:Int} (h:inB r a b=true):a≤r:=by
 simp only[inB,Bool.and_eq_true,decide_eq_true_eq] at h;omega
def uT (r:Int):Int:=if r=12 then 1 else if r=11 then 2 else if inB r 0 9 then W (4*2 ^ (min r.toNat 64)) else 0
def cdP (n:Int):Int×Bool:=
 if n=32 then(0,true) else if n=38 then(uT 12,true) else if n=45 then(uT 11,true) else if aBe n then(uT (W (IntKind.u8.wrap (n-48))),true)
 else if btw n 65 73 then(orI (uT 12) (uT (W (W (IntKind.u8.wrap (n-65))+1))),true) else if btw n 74 82 then(orI (uT 11) (uT (W (W (IntKind.u8.wrap (n-74))+1))),true)
 else if n=47 then(orI (uT 0) (uT 1),true) else if btw n 83 90 then(orI (uT 0) (uT (W (W (IntKind.u8.wrap (n-83))+2))),true) else(0,false)
theorem aMl (r:Int):Fz F.eY [.v (.int .i64 r)] (.v (.int .i64 (uT r))):=by
 refine fn0 Cd.i_bitOf_k fun X=>?_
 repeat' first|simp -dsimp only[go_sem]|apply Br.mk<;>intro h<;>try simp -dsimp only[h]|refine RgK.mk rfl ?_|refine aA.c (by first|exact inside _ _ _) ?_|refine And.intro (by first|rfl|omega|decide|exact aD4 (by assumption)|(refine⟨?_,?_⟩<;>(first|rfl|omega|decide|exact aD4 (by assumption)))|(refine⟨?_,?_,?_⟩<;>(first|rfl|omega|decide|exact aD4 (by assumption)))|(refine⟨?_,?_,?_,?_⟩<;>(first|rfl|omega|decide|exact aD4 (by assumption)))) ?_|fail
 all_goals(simp_all [uT,IntKind.bits])
theorem isDigit (n:Int):Fz F.uG [.v (.int .u8 n)] (.v (.bool (aBe n))):=by
 refine fn0 Cd.i_isDigit_k fun X=>?_
 repeat' first|simp -dsimp only[go_sem]|apply Br.mk<;>intro h<;>try simp -dsimp only[h]|refine aC ?_|fail
 all_goals(first|(simp_all [aBe];done)|(simp_all [aBe];omega))
theorem aMy (n:Int):Fz F.xH [.v (.int .u8 n)] (.tup [.v (.int .i64 (cdP n).1),.v (.bool (cdP n).2)]):=by
 refine fn0 Cd.i_CodeOf_k fun X=>?_
 repeat' first|simp -dsimp only[go_sem]|apply Br.mk<;>intro h<;>try simp -dsimp only[h]|refine aA.c (by first|exact aMl _|exact isDigit _) ?_|refine aC ?_|fail
 all_goals(first|(simp_all [cdP,btw,orI];done)|(refine aO ?_;grind [cdP,btw,orI]))
def cd3 (n:Int):Int:=(cdP n).1
theorem codeOf (n:Int):Fz F.uI [.v (.int .u8 n)] (.v (.int .i64 (cd3 n))):=by
 refine fn0 Cd.i_codeOf_k fun X=>?_
 repeat' first|simp -dsimp only[go_sem]|apply Br.mk<;>intro h<;>try simp -dsimp only[h]|refine aA.c (by first|exact aMy _) ?_|refine aC ?_|fail
 all_goals(simp_all [cd3])
def chB (i:Nat):Nat:=(CH.data.toList.getD i 0).toNat
set_option maxRecDepth 100000 in
theorem aK7:∀i:Nat,i<40→cd3 (chB i)=l03 (chB i)∧0≤l03 (chB i):=by decide +kernel
def rkF (m:Int):Nat→Nat→Int
 |0,_=>-1
 |k+1,i=>if l03 (chB i)=m then i else rkF m k (i+1)
def rk (m:Int):Int:=rkF m 40 0
theorem aEz (m:Int) {i:Nat} (h:i<40):rkF m (40-i) i=if l03 (chB i)=m then(i:Int) else rkF m (40-(i+1)) (i+1):=by
 rw[show 40-i=(40-(i+1))+1 by omega,rkF]
theorem aDO (m:Int):∀(k i:Nat),k+i=40→-1≤rkF m k i∧rkF m k i<40∧(0≤rkF m k i→l03 (chB (rkF m k i).toNat)=m)
 |0,_,_=>by simp[rkF]
 | k+1,i,h=>by
  rw[rkF];split
  ·rename_i h1;exact⟨by omega,by omega,fun _=>by simpa using h1⟩
  ·exact aDO m k (i+1) (by omega)
theorem aBY (m:Int):-1≤rk m∧rk m<40:=⟨(aDO m 40 0 rfl).1,(aDO m 40 0 rfl).2.1⟩
theorem aGy {m:Int} (h:0≤rk m):l03 (chB (rk m).toNat)=m:=(aDO m 40 0 rfl).2.2 h
theorem aIA {a b:Int} (h:0≤rk a) (he:rk a=rk b):a=b:=by
 rw[←aGy h,he,aGy (he ▸ h)]
theorem chL (i:Nat):(([32,38,65,66,67,68,69,70,71,72,73,45,74,75,76,77,78,79,80,81,82,47,83,84,85,86,87,88,89,90,48,49,50,51,52,53,54,55,56,57]:List UInt8).getD i 0).toNat=chB i:=rfl
theorem chS:(⟨#[32,38,65,66,67,68,69,70,71,72,73,45,74,75,76,77,78,79,80,81,82,47,83,84,85,86,87,88,89,90,48,49,50,51,52,53,54,55,56,57]⟩:ByteArray).size=40:=rfl
attribute [local irreducible] chB rk cd3
theorem aB0 (m:Int):Fz F.o9 [.v (.int .i64 m)] (.v (.int .i64 (rk m))):=by
 refine fn0 Cd.i_rankOf_k fun X=>?_;simp -dsimp only[go_sem];refine aN.at dM (X:={zz:Nat×(Unit) // zz.1≤40∧rkF m (40-zz.1) zz.1=rk m}) (fun zz=>[(3,.v (.int .i64 zz.1.1))]) (fun zz=>[]) (fun zz=>40-zz.1.1) ⟨(0,()),by omega,by unfold rk;rfl⟩ ?_ ?_
 ·exact le0
 ·rintro⟨⟨i,_⟩,hi,hg⟩;dsimp only at hi hg;simp -dsimp only[go_sem];refine Br.mk (fun hc=>?_) fun hc=>?_
  ·have hlt:i<40:=Dq;have hw:=aG hlt (by omega);rw[aEz m hlt] at hg;have hcb:=(aK7 i hlt).1;by_cases hz:l03 (chB i)=m
   ·have ez:(l03 (chB i)==m)=true:=beq_iff_eq.2 hz;rw[if_pos hz] at hg
    repeat' first|simp -dsimp only[go_sem,hw,chL,chS,hcb,ez]|apply Br.mk<;>intro h<;>try simp -dsimp only[h]|refine aA.c (by first|exact codeOf _) ?_|refine aC ?_|fail
    all_goals simp[←hg]
   ·have ez:(l03 (chB i)==m)=false:=beq_eq_false_iff_ne.2 hz;rw[if_neg hz] at hg
    repeat' first|simp -dsimp only[go_sem,hw,chL,chS,hcb,ez]|apply Br.mk<;>intro h<;>try simp -dsimp only[h]|refine aA.c (by first|exact codeOf _) ?_|refine aC ?_|fail
    all_goals(exact nx (i+1,()) hg)
  ·have hge:i=40:=by
    have:¬i<40:=Dq;omega
   subst hge;simp -dsimp only[go_sem];have:rk m=-1:=by rw[←hg];rfl
   simp[this]
end
section
variable [Vs.Envs]
attribute [local irreducible] Vs.Fn cZ aW dB dC l03 chB rk cd3
def cU (n:Int):List AV:=[.v (.int .u8 n)]
theorem oZ:∀l:List Int,rE (E cU l)=some l
 | []=>rfl
 | n::r=>by
  have:=oZ r;simp only[E,List.map_cons,cU,rE] at this⊢;rw[this]
def chI (m:Int):Int:=(chB (rk m).toNat:Int)
def txt (l:List Int):ByteArray:=uX (l.map chI)
def cK (l:List Int):Bool:=l.all fun m=>decide (0≤rk m)
theorem aMg:∀i:Nat,i<40→chB i<256:=fun i _=>by unfold chB;exact UInt8.toNat_lt _
theorem aJg (m:Int):Fz F.bX [.v (.int .i64 m)] (.v (.bool (decide (rk m<0)))):=by
 refine fn0 Cd.i_hasCharacters_1_k fun X=>?_
 repeat' first|simp -dsimp only[go_sem]|apply Br.mk<;>intro h<;>try simp -dsimp only[h]|refine aA.c (by first|exact aB0 _) ?_|refine aC ?_|fail
 all_goals(simp_all)
theorem idxCh (l:List Int) (hl:l.length≤1048576):Fz F.jT [.sl 1 (E cI l),.fn F.bX []] (.v (.int .i64 (sD (fun m=>decide (rk m<0)) l))):=
 aFV Tryz.mixed Cd.ixf_int64_k.o Cd.ixf_int64_k.n Cd.ixf_int64_k.r rfl (fun m=>decide (rk m<0)) F.bX [] rfl (fun m hm=>aJg m) hl
theorem conCh (l:List Int) (hl:l.length≤1048576):Fz F.kY [.sl 1 (E cI l),.fn F.bX []] (.v (.bool (l.any (fun m=>decide (rk m<0))))):=
 aDs Tryz.mixed (g:=F.jT) Cd.ctf_int64_k.o Cd.ctf_int64_k.n Cd.ctf_int64_k.r rfl (fun m=>decide (rk m<0)) F.bX [] rfl (idxCh l hl)
theorem aDA (l:List Int):(!l.any fun m=>decide (rk m<0))=cK l:=by
 unfold cK
 induction l with
 |nil=>rfl
 | cons x r ih =>
  simp only[List.any_cons,List.all_cons,Bool.not_or,ih];congr 1;by_cases h:rk x<0<;>simp[h]<;>omega
theorem aCR (l:List Int) (hl:l.length≤1048576):Fz F.jI [.sl 1 (E cI l)] (.v (.bool (cK l))):=by
 refine fn0 Cd.i_hasCharacters_k fun X=>?_
 repeat' first|simp -dsimp only[go_sem]|apply Br.mk<;>intro h<;>try simp -dsimp only[h]|refine aA.c (by first|exact conCh l hl) ?_|refine aC ?_|fail
 all_goals(first|(simp_all [aDA];done)|(refine aO ?_;have e:=aDA l;simp_all))
theorem aCe  : Fz F.lQ [] (.v (.string ⟨#[32,38,65,66,67,68,69,70,71,72,73,45,74,75,76,77,78,79,80,81,82,47,83,84,85,86,87,88,89,90,48,49,50,51,52,53,54,55,56,57]⟩)):=by
 refine fn0 Cd.s_l03Order_k fun X=>?_
 repeat' first|simp -dsimp only[go_sem]|apply Br.mk<;>intro h<;>try simp -dsimp only[h]|refine aC ?_|fail
 all_goals(simp_all)
theorem aLD:(⟨#[32,38,65,66,67,68,69,70,71,72,73,45,74,75,76,77,78,79,80,81,82,47,83,84,85,86,87,88,89,90,48,49,50,51,52,53,54,55,56,57]⟩:ByteArray)=CH:=rfl
theorem sQ:CH.size=40:=rfl
theorem aHc (i:Nat):(CH.data.toList.getD i 0).toNat=chB i:=by unfold chB;rfl
set_option maxRecDepth 100000 in
theorem aG3:∀i:Nat,i<40→∀j:Nat,j<40→chB i=chB j→i=j:=by decide +kernel
def aEY (m:Int):Int×Bool:=if 0≤rk m then(chI m,true) else(0,false)
theorem aGO (m:Int):Fz F.tQ [.v (.int .i64 m)] (.tup [.v (.int .u8 (aEY m).1),.v (.bool (aEY m).2)]):=by
 refine fn0 Cd.s_l03Char_k fun X=>?_;simp -dsimp only[go_sem];refine aA.flat aCe rfl ?_;simp -dsimp only[go_sem,aLD];refine aN.at dM (X:={zz:Nat×(Unit) // zz.1≤40∧rkF m (40-zz.1) zz.1=rk m}) (fun zz=>[(5,.v (.int .i64 zz.1.1))]) (fun zz=>[]) (fun zz=>40-zz.1.1) ⟨(0,()),by omega,by unfold rk;rfl⟩ ?_ ?_
 ·exact le0
 ·rintro⟨⟨i,_⟩,hi,hg⟩;dsimp only at hi hg;simp -dsimp only[go_sem,sQ];refine Br.mk (fun hc=>?_) fun hc=>?_
  ·have hlt:i<40:=Dq;have hw:=aG hlt (by omega);rw[aEz m hlt] at hg;have h8:i<CH.size:=hlt;by_cases hz:l03 (chB i)=m
   ·have ez:(l03 (chB i)==m)=true:=beq_iff_eq.2 hz;rw[if_pos hz] at hg
    repeat' first|simp -dsimp only[go_sem,hw,sQ,aHc,ez]|apply Br.mk<;>intro h<;>try simp -dsimp only[h]|refine aA.c (by first|exact aAn _) ?_|refine aC ?_|fail
    all_goals first
     |(refine aO ?_;have hr:rk m=(i:Int):=hg.symm;simp[aEY,chI,hr];done)
     |omega
   ·have ez:(l03 (chB i)==m)=false:=beq_eq_false_iff_ne.2 hz;rw[if_neg hz] at hg
    repeat' first|simp -dsimp only[go_sem,hw,sQ,aHc,ez]|apply Br.mk<;>intro h<;>try simp -dsimp only[h]|refine aA.c (by first|exact aAn _) ?_|refine aC ?_|fail
    all_goals first|omega|(exact nx (i+1,()) hg)
  ·have hge:i=40:=by
    have:¬i<40:=Dq;omega
   subst hge;simp -dsimp only[go_sem,sQ];have:rk m=-1:=by rw[←hg];rfl
   simp[aEY,this]
theorem aD0 (k:Nat) (hk:k<40):Fz F.qI [.v (.int .u8 (chB k))] (.v (.int .i64 (k:Int))):=by
 refine fn0 Cd.s_l03Rank_k fun X=>?_;simp -dsimp only[go_sem];refine aA.flat aCe rfl ?_;simp -dsimp only[go_sem,aLD];refine aN.at dM (X:={zz:Nat×(Unit) // zz.1≤40∧zz.1≤k}) (fun zz=>[(4,.v (.int .i64 zz.1.1))]) (fun zz=>[]) (fun zz=>40-zz.1.1) ⟨(0,()),by omega,by omega⟩ ?_ ?_
 ·exact le0
 ·rintro⟨⟨i,_⟩,hi,hg⟩;dsimp only at hi hg;simp -dsimp only[go_sem,sQ];refine Br.mk (fun hc=>?_) fun hc=>?_
  ·have hlt:i<40:=Dq;have hw:=aG hlt (by omega);have h8:i<CH.size:=hlt;by_cases hz:i=k
   ·subst hz;have ez:((chB i:Int)==(chB i:Int))=true:=beq_iff_eq.2 rfl
    repeat' first|simp -dsimp only[go_sem,hw,sQ,aHc,ez]|apply Br.mk<;>intro h<;>try simp -dsimp only[h]|refine aC ?_|fail
    all_goals first|(simp_all;done)|omega
   ·have ez:((chB i:Int)==(chB k:Int))=false:=beq_eq_false_iff_ne.2 (fun h=>hz (aG3 i hlt k hk (by omega)))
    repeat' first|simp -dsimp only[go_sem,hw,sQ,aHc,ez]|apply Br.mk<;>intro h<;>try simp -dsimp only[h]|refine aC ?_|fail
    all_goals first|omega|(exact nx (i+1,()) (by dsimp only at hg⊢;omega))
  ·have hge:i=40:=by
    have:¬i<40:=Dq;omega
   subst hge;simp -dsimp only[go_sem,sQ];omega
end
end Go.Proofs.YthbnjmgjhonfbaaGreat
