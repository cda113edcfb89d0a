/- Characters, fields, specifications and steps. -/
import Derived.Test.YthbnjmgjhonfbaaGreatTuD
import Derived.Test.YthbnjmgjhonfbaaGreatVtI
set_option linter.all false
set_option maxHeartbeats 8000000
namespace Go.Proofs.YthbnjmgjhonfbaaGreat
open Go.Vs
variable [Vs.Envs]
attribute [local irreducible] Vs.Fn
theorem u64_nonneg (n:Int):0≤IntKind.u64.wrap n:=by
 simp only[IntKind.wrap,IntKind.bits,IntKind.signed,Bool.false_and,Bool.false_eq_true,if_false];exact Int.emod_nonneg _ (by decide)
def aCD (r:Int):Int:=if r=12 then 1 else if r=11 then 2 else if inB r 0 9 then W (4*2 ^ (min (IntKind.u64.wrap r).toNat 64)) else 0
def aBe (n:Int):Bool:=decide (n≥48)&&decide (n≤57)
def btw (n a b:Int):Bool:=decide (n≥a)&&decide (n≤b)
def orI (a b:Int):Int:=iM .or .i64 a b
def l03 (n:Int):Int:=
 if n=32 then 0 else if n=38 then 1 else if n=45 then 2 else if n=47 then orI 4 (aCD 1) else if aBe n then aCD (W (W n-48))
 else if btw n 65 73 then orI 1 (aCD (W (W (W n-65)+1))) else if btw n 74 82 then orI 2 (aCD (W (W (W n-74)+1))) else if btw n 83 90 then orI 4 (aCD (W (W (W n-83)+2))) else -1
def CH:ByteArray:=⟨#[32,38,65,66,67,68,69,70,71,72,73,45,74,75,76,77,78,79,80,81,82,47,83,84,85,86,87,88,89,90,48,49,50,51,52,53,54,55,56,57]⟩
def cZ (n:Int):Bool:=decide (yE CH n≥0)
set_option maxRecDepth 100000 in
theorem aMf:∀n:Nat,n<256→cZ (n:Int)=decide (l03 (n:Int)≥0):=by decide +kernel
def aW (s:ByteArray):Bool:=s.data.toList.all fun b=>cZ b.toNat
theorem aKP (r:Int):Fz F.jF [.v (.int .i64 r)] (.v (.int .i64 (aCD r))):=by
 refine fn0 Cd.s_l02Bit_k fun X=>?_
 repeat' first|simp -dsimp only[go_sem]|apply Br.mk<;>intro h<;>try simp -dsimp only[h]|refine RgK.mk rfl ?_|refine aA.c (by first|exact yO _ _ _) ?_|refine And.intro (by first|rfl|omega|decide|exact u64_nonneg _|(refine⟨?_,?_⟩<;>(first|rfl|omega|decide|exact u64_nonneg _))|(refine⟨?_,?_,?_⟩<;>(first|rfl|omega|decide|exact u64_nonneg _))|(refine⟨?_,?_,?_,?_⟩<;>(first|rfl|omega|decide|exact u64_nonneg _))) ?_|fail
 all_goals(simp_all [aCD,IntKind.bits,u64_nonneg])
theorem aI5 (n:Int):Fz F.qZ [.v (.int .u8 n)] (.v (.bool (aBe n))):=by
 refine fn0 Cd.s_l01Digit_k fun X=>?_
 repeat' first|simp -dsimp only[go_sem]|apply Br.mk<;>intro h<;>try simp -dsimp only[h]|refine aC ?_|fail
 all_goals(first|(simp_all [aBe];done)|(simp_all [aBe];omega))
theorem aAn (n:Int):Fz F.nR [.v (.int .u8 n)] (.v (.int .i64 (l03 n))):=by
 refine fn0 Cd.s_l03Code_k fun X=>?_
 repeat' first|simp -dsimp only[go_sem]|apply Br.mk<;>intro h<;>try simp -dsimp only[h]|refine aA.c (by first|exact aKP _|exact aI5 _) ?_|refine aC ?_|fail
 all_goals(first|(simp_all [l03,btw,orI];done)|(refine aO ?_;grind [l03,btw,orI]))
theorem aIk (s:ByteArray) (n:Int):Fz F.bM [.v (.string s),.v (.int .u8 n)] (.v (.int .i64 (yE s n))):=by
 refine fn0 Cd.internal_stringslite_IndexByte_k fun X=>?_
 repeat' first|simp -dsimp only[go_sem]|apply Br.mk<;>intro h<;>try simp -dsimp only[h]|refine aC ?_|fail
 all_goals(simp_all)
theorem aLG (s:ByteArray) (n:Int):Fz F.strings_IndexByte [.v (.string s),.v (.int .u8 n)] (.v (.int .i64 (yE s n))):=by
 refine fn0 Cd.strings_IndexByte_k fun X=>?_
 repeat' first|simp -dsimp only[go_sem]|apply Br.mk<;>intro h<;>try simp -dsimp only[h]|refine aA.c (by first|exact aIk _ _) ?_|refine aC ?_|fail
 all_goals(simp_all)
theorem aE3 (n:Int):Fz F.lG [.v (.int .u8 n)] (.v (.bool (cZ n))):=by
 refine fn0 Cd.i_isCharacter_k fun X=>?_
 repeat' first|simp -dsimp only[go_sem]|apply Br.mk<;>intro h<;>try simp -dsimp only[h]|refine aA.c (by first|exact aLG _ _) ?_|refine aC ?_|fail
 all_goals(simp_all [cZ,CH])
def dB (s:ByteArray) (i:Nat):Bool:=(s.data.toList.take i).all fun b=>cZ b.toNat
def dC (s:ByteArray) (i:Nat):Bool:=cZ (s.data.toList.getD i 0).toNat
theorem aDw {s:ByteArray}{i:Nat} (h:i<s.size):dB s (i+1)=(dB s i&&dC s i):=by
 have hl:i<s.data.toList.length:=h;unfold dB dC;rw[bL hl,List.all_append,List.getD_eq_getElem?_getD,List.getElem?_eq_getElem hl];simp
theorem aFj (s:ByteArray):dB s s.size=aW s:=by
 unfold dB aW;rw[show s.size=s.data.toList.length from rfl,List.take_length]
theorem aCw {s:ByteArray}{i:Nat} (h:i<s.size) (h2:dC s i=false):aW s=false:=by
 have hl:i<s.data.toList.length:=h;unfold dC at h2;rw[List.getD_eq_getElem?_getD,List.getElem?_eq_getElem hl] at h2;exact gJ (p:=fun b:UInt8=>cZ b.toNat) hl h2
theorem aJG (s:ByteArray) (i:Nat):dC s i=decide (l03 (s.data.toList.getD i 0).toNat≥0):=aMf _ (UInt8.toNat_lt _)
theorem aK8 (s:ByteArray) (i:Nat):cZ (s.data.toList.getD i 0).toNat=dC s i:=rfl
attribute [local irreducible] cZ aW dB dC l03
theorem oJ (s:ByteArray) (hs:s.size≤1048576):Fz F.fD [.v (.string s)] (.v (.bool (aW s))):=by
 refine fn0 Cd.i_areCharacters_k fun X=>?_;simp -dsimp only[go_sem];refine aN.intro dM (fun i:{i:Nat // i≤s.size∧dB s i=true}=>⟨[(0,.v (.string s)),(3,.v (.int .i64 i.1))],[]⟩) (fun i=>s.size-i.1) ⟨0,by simp[dB]⟩ ?_ ?_
 ·simp[Vs.LeL,Vs.look]
 ·rintro⟨i,hi,hall⟩;simp -dsimp only[go_sem];refine Br.mk (fun h1=>?_) fun h1=>?_
  ·have hlt:i<s.size:=by simpa using h1
   have hw:=aG hlt hs;simp -dsimp only[go_sem];refine⟨⟨by omega,by omega⟩,aA.flat (aE3 _) rfl ?_⟩;simp -dsimp only[aK8];simp -dsimp only[go_sem];refine Br.mk (fun h2=>?_) fun h2=>?_
   ·simp -dsimp only[go_sem];simp[aCw hlt (by simpa using h2)]
   ·simp -dsimp only[go_sem,hw];exact⟨⟨i+1,by omega,by rw[aDw hlt,hall];simpa using h2⟩,by simp[Vs.LeL,Vs.look],by simp only;omega⟩
  ·have hge:i=s.size:=by
    have:¬i<s.size:=by simpa using h1
    omega
   subst hge;simp -dsimp only[go_sem];simp[←aFj,hall]
def l09 (s:ByteArray) (a b:Int):Int:=if(s.size:Int)≠W (b-a) then 2 else if aW s then 0 else 7
theorem aDZ (s:ByteArray) (a b:Int) (hs:s.size≤1048576):Fz F.nP [.v (.string s),.agg [.v (.int .i64 a),.v (.int .i64 b)]] (.v (.int .i64 (l09 s a b))):=by
 refine fn0 Cd.s_l09Text_k fun X=>?_;simp -dsimp only[go_sem];refine Br.mk (fun h0=>?_) fun h0=>?_
 ·simp -dsimp only[go_sem];have:(s.size:Int)≠W (b-a):=by simpa using h0
  simp[l09,this]
 ·simp -dsimp only[go_sem];have hsz:(s.size:Int)=W (b-a):=by simpa using h0
  refine aN.intro dM (fun i:{i:Nat // i≤s.size∧dB s i=true}=>⟨[(0,.v (.string s)),(5,.v (.int .i64 i.1))],[]⟩) (fun i=>s.size-i.1) ⟨0,by simp[dB]⟩ ?_ ?_
  ·simp[Vs.LeL,Vs.look]
  ·rintro⟨i,hi,hall⟩;simp -dsimp only[go_sem];refine Br.mk (fun h1=>?_) fun h1=>?_
   ·have hlt:i<s.size:=by simpa using h1
    have hw:=aG hlt hs;simp -dsimp only[go_sem];refine⟨⟨by omega,by omega⟩,aA.flat (aAn _) rfl ?_⟩;have hch:=aJG s i;simp -dsimp only[go_sem];refine Br.mk (fun h2=>?_) fun h2=>?_
    ·simp -dsimp only[go_sem];simp only[decide_eq_true_eq] at h2;have h3:dC s i=false:=by rw[hch,decide_eq_false_iff_not];omega
     simp[l09,hsz,aCw hlt h3]
    ·simp -dsimp only[go_sem,hw];simp only[decide_eq_false_iff_not] at h2;have h3:dC s i=true:=by rw[hch,decide_eq_true_eq];omega
     exact⟨⟨i+1,by omega,by rw[aDw hlt,hall,h3];rfl⟩,by simp[Vs.LeL,Vs.look],by simp only;omega⟩
   ·have hge:i=s.size:=by
     have:¬i<s.size:=by simpa using h1
     omega
    subst hge;simp -dsimp only[go_sem];have:aW s=true:=by rw[←aFj,hall]
    simp[l09,hsz,this]
def dJ (a b w:Int):Bool:=decide (0≤a)&&(decide (a<b)&&decide (b≤w))
def rF (a b w:Int):Bool:=dJ a b w&&decide (W (b-a)≤12)
theorem sM (a b w:Int):Fz F.jU [.agg [.v (.int .i64 a),.v (.int .i64 b)],.v (.int .i64 w)] (.v (.bool (dJ a b w))):=by
 refine fn0 Cd.i_isField_k fun X=>?_
 repeat' first|simp -dsimp only[go_sem]|apply Br.mk<;>intro h<;>try simp -dsimp only[h]|refine aC ?_|fail
 all_goals(first|(simp_all [dJ];done)|(simp_all [dJ];omega)|(refine aO ?_;grind [dJ]))
theorem dS (a b w:Int):Fz F.dN [.agg [.v (.int .i64 a),.v (.int .i64 b)],.v (.int .i64 w)] (.v (.bool (dJ a b w))):=by
 refine fn0 Cd.s_l02Field_k fun X=>?_
 repeat' first|simp -dsimp only[go_sem]|apply Br.mk<;>intro h<;>try simp -dsimp only[h]|refine aC ?_|fail
 all_goals(first|(simp_all [dJ];done)|(simp_all [dJ];omega)|(refine aO ?_;grind [dJ]))
theorem yP (a b w:Int):Fz F.gU [.agg [.v (.int .i64 a),.v (.int .i64 b)],.v (.int .i64 w)] (.v (.bool (rF a b w))):=by
 refine fn0 Cd.i_isNumberField_k fun X=>?_
 repeat' first|simp -dsimp only[go_sem]|apply Br.mk<;>intro h<;>try simp -dsimp only[h]|refine aA.c (by first|exact sM _ _ _) ?_|refine aC ?_|fail
 all_goals(first|(simp_all [rF];done)|(refine aO ?_;grind [rF]))
theorem aKL (n:Int):Fz F.nN [.v (.int .i64 n)] (.v (.bool (inB n 0 5))):=by
 refine fn0 Cd.s_l15Tray_k fun X=>?_
 repeat' first|simp -dsimp only[go_sem]|apply Br.mk<;>intro h<;>try simp -dsimp only[h]|refine aA.c (by first|exact yO _ _ _|exact inside _ _ _) ?_|refine aC ?_|fail
 all_goals(simp_all)
theorem aL6 (n:Int):Fz F.rO [.v (.int .i64 n)] (.v (.bool (inB n 0 5))):=by
 refine fn0 Cd.i_isTray_k fun X=>?_
 repeat' first|simp -dsimp only[go_sem]|apply Br.mk<;>intro h<;>try simp -dsimp only[h]|refine aA.c (by first|exact yO _ _ _|exact inside _ _ _) ?_|refine aC ?_|fail
 all_goals(simp_all)
theorem aKN (n:Int):Fz F.tL [.v (.int .i64 n)] (.v (.bool (inB n 2 4))):=by
 refine fn0 Cd.s_l15Both_k fun X=>?_
 repeat' first|simp -dsimp only[go_sem]|apply Br.mk<;>intro h<;>try simp -dsimp only[h]|refine aA.c (by first|exact yO _ _ _|exact inside _ _ _) ?_|refine aC ?_|fail
 all_goals(simp_all)
theorem aH8 (n:Int):Fz F.rH [.v (.int .i64 n)] (.v (.bool (inB n 2 4))):=by
 refine fn0 Cd.i_takesTwo_k fun X=>?_
 repeat' first|simp -dsimp only[go_sem]|apply Br.mk<;>intro h<;>try simp -dsimp only[h]|refine aA.c (by first|exact yO _ _ _|exact inside _ _ _) ?_|refine aC ?_|fail
 all_goals(simp_all)
structure Spc where
 w0:Int
 w1:Int
 text:ByteArray
 g0:Int
 g1:Int
 s0:Int
 s1:Int
def cP (x:Spc):List AV:=[.v (.int .i64 x.w0),.v (.int .i64 x.w1),.v (.string x.text),.v (.int .i64 x.g0),.v (.int .i64 x.g1),.v (.int .i64 x.s0),.v (.int .i64 x.s1)]
def dR (s:ByteArray):Bool:=s.toList==(⟨#[]⟩:ByteArray).toList
def lN (x:Spc) (w:Int):Bool:=dJ x.g0 x.g1 w&&(rF x.s0 x.s1 w&&(if dR x.text then(x.w0==0&&x.w1==0) else dJ x.w0 x.w1 w&&(aW x.text&&((x.text.size:Int)==W (x.w1-x.w0)))))
theorem aDX (s:ByteArray) (a b:Int):(l09 s a b==0)=(aW s&&((s.size:Int)==W (b-a))):=by
 unfold l09;by_cases h:(s.size:Int)=W (b-a)
 ·cases h2:aW s<;>simp[h]
 ·cases h2:aW s<;>simp[h]
theorem mY (x:Spc) (w:Int) (hs:x.text.size≤1048576):Fz F.kP [.agg (cP x),.v (.int .i64 w)] (.v (.bool (inB w 1 20&&lN x w))):=by
 refine fn0 Cd.i_ValidSpec_k fun X=>?_
 repeat' first|simp -dsimp only[go_sem,cP]|apply Br.mk<;>intro h<;>try simp -dsimp only[h]|refine aA.c (by first|exact inside _ _ _|exact sM _ _ _|exact yP _ _ _|exact oJ _ hs) ?_|refine aC ?_|fail
 all_goals(first|(simp_all [lN,dR];done)|(refine aO ?_;grind [lN,dR]))
theorem aIZ (x:Spc) (w:Int) (hs:x.text.size≤1048576):Fz F.u6 [.ro (cP x),.v (.int .i64 w)] (.v (.bool (lN x w))):=by
 refine fn0 Cd.s_l16Ok_k fun X=>?_
 repeat' first|simp -dsimp only[go_sem,cP]|apply Br.mk<;>intro h<;>try simp -dsimp only[h]|refine aA.c (by first|exact dS _ _ _|exact aDZ _ _ _ hs) ?_|refine aC ?_|fail
 all_goals(first|(simp_all [lN,rF,dR,aDX];done)|(refine aO ?_;grind [lN,rF,dR,aDX]))
end Go.Proofs.YthbnjmgjhonfbaaGreat
