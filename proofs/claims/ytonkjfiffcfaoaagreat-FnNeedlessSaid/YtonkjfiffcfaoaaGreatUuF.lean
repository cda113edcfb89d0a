/- Characters, fields, specifications and steps. -/
import Derived.Test.YtonkjfiffcfaoaaGreatUuD
import Derived.Test.YtonkjfiffcfaoaaGreatVtI
set_option linter.all false
set_option maxHeartbeats 8000000
namespace Go.Proofs.YtonkjfiffcfaoaaGreat
open Go.Vs
variable [Vs.Envs]
attribute [local irreducible] Vs.Fn
theorem u64_nonneg (n:Int):0≤IntKind.u64.wrap n:=by
 simp only[IntKind.wrap,IntKind.bits,IntKind.signed,Bool.false_and,Bool.false_eq_true,if_false];exact Int.emod_nonneg _ (by decide)
def aCD (r:Int):Int:=if r=12 then 1 else if r=11 then 2 else if inB r 0 9 then W (4*2 ^ (min (IntKind.u64.wrap r).toNat 64)) else 0
def aBj (n:Int):Bool:=decide (n≥48)&&decide (n≤57)
def btw (n a b:Int):Bool:=decide (n≥a)&&decide (n≤b)
def orI (a b:Int):Int:=iH .or .i64 a b
def l03 (n:Int):Int:=
 if n=32 then 0 else if n=38 then 1 else if n=45 then 2 else if n=47 then orI 4 (aCD 1) else if aBj n then aCD (W (W n-48))
 else if btw n 65 73 then orI 1 (aCD (W (W (W n-65)+1))) else if btw n 74 82 then orI 2 (aCD (W (W (W n-74)+1))) else if btw n 83 90 then orI 4 (aCD (W (W (W n-83)+2))) else -1
def CH:ByteArray:=⟨#[32,38,65,66,67,68,69,70,71,72,73,45,74,75,76,77,78,79,80,81,82,47,83,84,85,86,87,88,89,90,48,49,50,51,52,53,54,55,56,57]⟩
def cZ (n:Int):Bool:=decide (yB CH n≥0)
set_option maxRecDepth 100000 in
theorem aL3:∀n:Nat,n<256→cZ (n:Int)=decide (l03 (n:Int)≥0):=by decide +kernel
def aW (s:ByteArray):Bool:=s.data.toList.all fun b=>cZ b.toNat
theorem aKz (r:Int):Fz F.jB [.v (.int .i64 r)] (.v (.int .i64 (aCD r))):=by
 refine fn0 Cd.s_l02Bit_k fun X=>?_
 repeat' first|simp -dsimp only[go_sem]|apply Br.mk<;>intro h<;>try simp -dsimp only[h]|refine RgK.mk rfl ?_|refine aA.c (by first|exact tT _ _ _) ?_|refine And.intro (by first|rfl|omega|decide|exact u64_nonneg _|(refine⟨?_,?_⟩<;>(first|rfl|omega|decide|exact u64_nonneg _))|(refine⟨?_,?_,?_⟩<;>(first|rfl|omega|decide|exact u64_nonneg _))|(refine⟨?_,?_,?_,?_⟩<;>(first|rfl|omega|decide|exact u64_nonneg _))) ?_|fail
 all_goals(simp_all [aCD,IntKind.bits,u64_nonneg])
theorem aI0 (n:Int):Fz F.qW [.v (.int .u8 n)] (.v (.bool (aBj n))):=by
 refine fn0 Cd.s_l01Digit_k fun X=>?_
 repeat' first|simp -dsimp only[go_sem]|apply Br.mk<;>intro h<;>try simp -dsimp only[h]|refine aC ?_|fail
 all_goals(first|(simp_all [aBj];done)|(simp_all [aBj];omega))
theorem aAq (n:Int):Fz F.nU [.v (.int .u8 n)] (.v (.int .i64 (l03 n))):=by
 refine fn0 Cd.s_l03Code_k fun X=>?_
 repeat' first|simp -dsimp only[go_sem]|apply Br.mk<;>intro h<;>try simp -dsimp only[h]|refine aA.c (by first|exact aKz _|exact aI0 _) ?_|refine aC ?_|fail
 all_goals(first|(simp_all [l03,btw,orI];done)|(refine aS ?_;grind [l03,btw,orI]))
theorem aIi (s:ByteArray) (n:Int):Fz F.bL [.v (.string s),.v (.int .u8 n)] (.v (.int .i64 (yB s n))):=by
 refine fn0 Cd.internal_stringslite_IndexByte_k fun X=>?_
 repeat' first|simp -dsimp only[go_sem]|apply Br.mk<;>intro h<;>try simp -dsimp only[h]|refine aC ?_|fail
 all_goals(simp_all)
theorem aLs (s:ByteArray) (n:Int):Fz F.strings_IndexByte [.v (.string s),.v (.int .u8 n)] (.v (.int .i64 (yB s n))):=by
 refine fn0 Cd.strings_IndexByte_k fun X=>?_
 repeat' first|simp -dsimp only[go_sem]|apply Br.mk<;>intro h<;>try simp -dsimp only[h]|refine aA.c (by first|exact aIi _ _) ?_|refine aC ?_|fail
 all_goals(simp_all)
theorem aEW (n:Int):Fz F.lH [.v (.int .u8 n)] (.v (.bool (cZ n))):=by
 refine fn0 Cd.i_isCharacter_k fun X=>?_
 repeat' first|simp -dsimp only[go_sem]|apply Br.mk<;>intro h<;>try simp -dsimp only[h]|refine aA.c (by first|exact aLs _ _) ?_|refine aC ?_|fail
 all_goals(simp_all [cZ,CH])
def dA (s:ByteArray) (i:Nat):Bool:=(s.data.toList.take i).all fun b=>cZ b.toNat
def dB (s:ByteArray) (i:Nat):Bool:=cZ (s.data.toList.getD i 0).toNat
theorem aDo {s:ByteArray}{i:Nat} (h:i<s.size):dA s (i+1)=(dA s i&&dB s i):=by
 have hl:i<s.data.toList.length:=h;unfold dA dB;rw[bK hl,List.all_append,List.getD_eq_getElem?_getD,List.getElem?_eq_getElem hl];simp
theorem aFc (s:ByteArray):dA s s.size=aW s:=by
 unfold dA aW;rw[show s.size=s.data.toList.length from rfl,List.take_length]
theorem aCw {s:ByteArray}{i:Nat} (h:i<s.size) (h2:dB s i=false):aW s=false:=by
 have hl:i<s.data.toList.length:=h;unfold dB at h2;rw[List.getD_eq_getElem?_getD,List.getElem?_eq_getElem hl] at h2;exact dX (p:=fun b:UInt8=>cZ b.toNat) hl h2
theorem aJx (s:ByteArray) (i:Nat):dB s i=decide (l03 (s.data.toList.getD i 0).toNat≥0):=aL3 _ (UInt8.toNat_lt _)
theorem aKR (s:ByteArray) (i:Nat):cZ (s.data.toList.getD i 0).toNat=dB s i:=rfl
attribute [local irreducible] cZ aW dA dB l03
theorem sQ (s:ByteArray) (hs:s.size≤1048576):Fz F.gN [.v (.string s)] (.v (.bool (aW s))):=by
 refine fn0 Cd.i_areCharacters_k fun X=>?_;simp -dsimp only[go_sem];refine aN.intro dM (fun i:{i:Nat // i≤s.size∧dA s i=true}=>⟨[(0,.v (.string s)),(3,.v (.int .i64 i.1))],[]⟩) (fun i=>s.size-i.1) ⟨0,by simp[dA]⟩ ?_ ?_
 ·simp[Vs.LeL,Vs.look]
 ·rintro⟨i,hi,hall⟩;simp -dsimp only[go_sem];refine Br.mk (fun h1=>?_) fun h1=>?_
  ·have hlt:i<s.size:=by simpa using h1
   have hw:=aH hlt hs;simp -dsimp only[go_sem];refine⟨⟨by omega,by omega⟩,aA.flat (aEW _) rfl ?_⟩;simp -dsimp only[aKR];simp -dsimp only[go_sem];refine Br.mk (fun h2=>?_) fun h2=>?_
   ·simp -dsimp only[go_sem];simp[aCw hlt (by simpa using h2)]
   ·simp -dsimp only[go_sem,hw];exact⟨⟨i+1,by omega,by rw[aDo hlt,hall];simpa using h2⟩,by simp[Vs.LeL,Vs.look],by simp only;omega⟩
  ·have hge:i=s.size:=by
    have:¬i<s.size:=by simpa using h1
    omega
   subst hge;simp -dsimp only[go_sem];simp[←aFc,hall]
def l09 (s:ByteArray) (a b:Int):Int:=if(s.size:Int)≠W (b-a) then 2 else if aW s then 0 else 7
theorem aDU (s:ByteArray) (a b:Int) (hs:s.size≤1048576):Fz F.nR [.v (.string s),.agg [.v (.int .i64 a),.v (.int .i64 b)]] (.v (.int .i64 (l09 s a b))):=by
 refine fn0 Cd.s_l09Text_k fun X=>?_;simp -dsimp only[go_sem];refine Br.mk (fun h0=>?_) fun h0=>?_
 ·simp -dsimp only[go_sem];have:(s.size:Int)≠W (b-a):=by simpa using h0
  simp[l09,this]
 ·simp -dsimp only[go_sem];have hsz:(s.size:Int)=W (b-a):=by simpa using h0
  refine aN.intro dM (fun i:{i:Nat // i≤s.size∧dA s i=true}=>⟨[(0,.v (.string s)),(5,.v (.int .i64 i.1))],[]⟩) (fun i=>s.size-i.1) ⟨0,by simp[dA]⟩ ?_ ?_
  ·simp[Vs.LeL,Vs.look]
  ·rintro⟨i,hi,hall⟩;simp -dsimp only[go_sem];refine Br.mk (fun h1=>?_) fun h1=>?_
   ·have hlt:i<s.size:=by simpa using h1
    have hw:=aH hlt hs;simp -dsimp only[go_sem];refine⟨⟨by omega,by omega⟩,aA.flat (aAq _) rfl ?_⟩;have hch:=aJx s i;simp -dsimp only[go_sem];refine Br.mk (fun h2=>?_) fun h2=>?_
    ·simp -dsimp only[go_sem];simp only[decide_eq_true_eq] at h2;have h3:dB s i=false:=by rw[hch,decide_eq_false_iff_not];omega
     simp[l09,hsz,aCw hlt h3]
    ·simp -dsimp only[go_sem,hw];simp only[decide_eq_false_iff_not] at h2;have h3:dB s i=true:=by rw[hch,decide_eq_true_eq];omega
     exact⟨⟨i+1,by omega,by rw[aDo hlt,hall,h3];rfl⟩,by simp[Vs.LeL,Vs.look],by simp only;omega⟩
   ·have hge:i=s.size:=by
     have:¬i<s.size:=by simpa using h1
     omega
    subst hge;simp -dsimp only[go_sem];have:aW s=true:=by rw[←aFc,hall]
    simp[l09,hsz,this]
def dU (a b w:Int):Bool:=decide (0≤a)&&(decide (a<b)&&decide (b≤w))
def uY (a b w:Int):Bool:=dU a b w&&decide (W (b-a)≤12)
theorem vF (a b w:Int):Fz F.mG [.agg [.v (.int .i64 a),.v (.int .i64 b)],.v (.int .i64 w)] (.v (.bool (dU a b w))):=by
 refine fn0 Cd.i_isField_k fun X=>?_
 repeat' first|simp -dsimp only[go_sem]|apply Br.mk<;>intro h<;>try simp -dsimp only[h]|refine aC ?_|fail
 all_goals(first|(simp_all [dU];done)|(simp_all [dU];omega)|(refine aS ?_;grind [dU]))
theorem dQ (a b w:Int):Fz F.dK [.agg [.v (.int .i64 a),.v (.int .i64 b)],.v (.int .i64 w)] (.v (.bool (dU a b w))):=by
 refine fn0 Cd.s_l02Field_k fun X=>?_
 repeat' first|simp -dsimp only[go_sem]|apply Br.mk<;>intro h<;>try simp -dsimp only[h]|refine aC ?_|fail
 all_goals(first|(simp_all [dU];done)|(simp_all [dU];omega)|(refine aS ?_;grind [dU]))
theorem aCN (a b w:Int):Fz F.jF [.agg [.v (.int .i64 a),.v (.int .i64 b)],.v (.int .i64 w)] (.v (.bool (uY a b w))):=by
 refine fn0 Cd.i_isNumberField_k fun X=>?_
 repeat' first|simp -dsimp only[go_sem]|apply Br.mk<;>intro h<;>try simp -dsimp only[h]|refine aA.c (by first|exact vF _ _ _) ?_|refine aC ?_|fail
 all_goals(first|(simp_all [uY];done)|(refine aS ?_;grind [uY]))
theorem aKv (n:Int):Fz F.nO [.v (.int .i64 n)] (.v (.bool (inB n 0 5))):=by
 refine fn0 Cd.s_l15Tray_k fun X=>?_
 repeat' first|simp -dsimp only[go_sem]|apply Br.mk<;>intro h<;>try simp -dsimp only[h]|refine aA.c (by first|exact tT _ _ _|exact inside _ _ _) ?_|refine aC ?_|fail
 all_goals(simp_all)
theorem aLT (n:Int):Fz F.rO [.v (.int .i64 n)] (.v (.bool (inB n 0 5))):=by
 refine fn0 Cd.i_isTray_k fun X=>?_
 repeat' first|simp -dsimp only[go_sem]|apply Br.mk<;>intro h<;>try simp -dsimp only[h]|refine aA.c (by first|exact tT _ _ _|exact inside _ _ _) ?_|refine aC ?_|fail
 all_goals(simp_all)
theorem aKx (n:Int):Fz F.tC [.v (.int .i64 n)] (.v (.bool (inB n 2 4))):=by
 refine fn0 Cd.s_l15Both_k fun X=>?_
 repeat' first|simp -dsimp only[go_sem]|apply Br.mk<;>intro h<;>try simp -dsimp only[h]|refine aA.c (by first|exact tT _ _ _|exact inside _ _ _) ?_|refine aC ?_|fail
 all_goals(simp_all)
theorem aH5 (n:Int):Fz F.rJ [.v (.int .i64 n)] (.v (.bool (inB n 2 4))):=by
 refine fn0 Cd.i_takesTwo_k fun X=>?_
 repeat' first|simp -dsimp only[go_sem]|apply Br.mk<;>intro h<;>try simp -dsimp only[h]|refine aA.c (by first|exact tT _ _ _|exact inside _ _ _) ?_|refine aC ?_|fail
 all_goals(simp_all)
structure Spc where
 w0:Int
 w1:Int
 text:ByteArray
 g0:Int
 g1:Int
 s0:Int
 s1:Int
def cP (x:Spc):List AV:=[.v (.int .i64 x.w0),.v (.int .i64 x.w1),.v (.string x.text),.v (.int .i64 x.g0),.v (.int .i64 x.g1),.v (.int .i64 x.s0),.v (.int .i64 x.s1)]
def oD (s:ByteArray):Bool:=s.toList==(⟨#[]⟩:ByteArray).toList
def spcB (x:Spc) (w:Int):Bool:=dU x.g0 x.g1 w&&(uY x.s0 x.s1 w&&(if oD x.text then(x.w0==0&&x.w1==0) else dU x.w0 x.w1 w&&(aW x.text&&((x.text.size:Int)==W (x.w1-x.w0)))))
theorem aDS (s:ByteArray) (a b:Int):(l09 s a b==0)=(aW s&&((s.size:Int)==W (b-a))):=by
 unfold l09;by_cases h:(s.size:Int)=W (b-a)
 ·cases h2:aW s<;>simp[h]
 ·cases h2:aW s<;>simp[h]
theorem l16Ok (x:Spc) (w:Int) (hs:x.text.size≤1048576):Fz F.z8 [.ro (cP x),.v (.int .i64 w)] (.v (.bool (spcB x w))):=by
 refine fn0 Cd.s_l16Ok_k fun X=>?_
 repeat' first|simp -dsimp only[go_sem,cP]|apply Br.mk<;>intro h<;>try simp -dsimp only[h]|refine aA.c (by first|exact dQ _ _ _|exact aDU _ _ _ hs) ?_|refine aC ?_|fail
 all_goals(first|(simp_all [spcB,uY,oD,aDS];done)|(refine aS ?_;grind [spcB,uY,oD,aDS]))
end Go.Proofs.YtonkjfiffcfaoaaGreat
