/- Characters, fields, specifications and steps. -/
import Derived.Test.YtklmdppgonhflaaGreatDoorXuR
import Derived.Test.YtklmdppgonhflaaGreatDoorXuB
import Derived.Test.YtklmdppgonhflaaGreatDoorVtJ
set_option linter.all false
set_option maxHeartbeats 8000000
namespace Go.Proofs.YtklmdppgonhflaaGreatDoor
open Go.Vs
section
variable [Vs.Envs]
attribute [local irreducible] Vs.Fn
theorem lY (l:List (List Int)) (hs:∀x,x∈l->x.length<=1048576) (hl:l.length<=1048576):Fz F.jF [.sl 1 (E cC l)] (.v (.bool (bC l))):=by
 refine fn0 Cd.i_ValidDeck_k λX=>?_;simp -dsimp only[go_sem];refine aP.intro dM (λi:{i:Nat // i<=l.length∧(l.take i).all (λc=>fC c&&decide (c.length=(l.getD 0 []).length))=true}=>⟨[(0,.sl 1 (E cC l)),(5,.sl 1 (E cC l)),(6,.v (.int .i64 l.length)),(7,.v (.int .i64 i.1))],[]⟩) (λi=>l.length-i.1) ⟨0,by simp⟩ ?_ ?_
 .simp[Vs.LeL,Vs.look]
 .rintro⟨i,hi,hall⟩;simp -dsimp only[go_sem];refine Br.mk (λh1=>?_) λh1=>?_
  .have hlt:i<l.length:=by simpa using h1
   have h0:0<l.length:=by omega
   have hw:=aJ hlt hl;have g0:l.getD 0 []=l[0]:=by simp[List.getD,h0]
   simp -dsimp only[go_sem,aW hlt,aW h0];refine⟨⟨by omega,by omega⟩,by first|omega|decide|simp[cC],?_⟩;simp -dsimp only[go_sem,cC,aW hlt];refine RgK.mk rfl ?_;simp -dsimp only[go_sem,cC,aW hlt];refine aA.flat (aJb l[i] (hs _ (Aa hlt))) rfl ?_;simp -dsimp only[go_sem,cC,aW hlt];refine Br.mk (λh2=>?_) λh2=>?_
   .simp -dsimp only[go_sem,h2];have e:(fC l[i]&&decide (l[i].length=(l.getD 0 []).length))=false:=by simp at h2;simp[h2]
    have hf:bC l=false:=by rw[bC,iK (p:=λc=>fC c&&decide (c.length=(l.getD 0 []).length)) hlt e];rfl
    simp[hf]
   .simp -dsimp only[go_sem,cC,h2,aW hlt,aW h0];refine aA.flat (o5 l[i]) rfl ?_;simp -dsimp only[go_sem,cC,h2,aW hlt,aW h0];refine⟨⟨by omega,by omega⟩,?_⟩;refine aA.flat (o5 l[0]) rfl ?_;simp -dsimp only[go_sem,cC,h2,aW hlt,aW h0];refine Br.mk (λh3=>?_) λh3=>?_
    .simp -dsimp only[go_sem]
     have e:(fC l[i]&&decide (l[i].length=(l.getD 0 []).length))=false:=by
      rw[g0];have:l[i].length≠l[0].length:=by simp at h3;omega
      simp[this]
     have hf:bC l=false:=by rw[bC,iK (p:=λc=>fC c&&decide (c.length=(l.getD 0 []).length)) hlt e];rfl
     simp[hf]
    .simp -dsimp only[go_sem,hw]
     have e:(fC l[i]&&decide (l[i].length=(l.getD 0 []).length))=true:=by
      rw[g0];have:l[i].length=l[0].length:=by simp at h3;omega
      simp at h2;simp[this,h2]
     exact⟨⟨i+1,by omega,bH (p:=λc=>fC c&&decide (c.length=(l.getD 0 []).length)) hlt hall e⟩,by simp[Vs.LeL,Vs.look],by simp only;omega⟩
  .have hge:i=l.length:=by
    have:¬i<l.length:=by simpa using h1
    omega
   subst hge;simp -dsimp only[go_sem];have:l.all (λc=>fC c&&decide (c.length=(l.getD 0 []).length))=true:=by simpa using hall
   rw[bC,this];simp only[CW,Value.bool.injEq,AV.v.injEq];simp;omega
theorem aNG (l:List (List Int)):Fz F.iY [.sl 1 (E cC l)] (.v (.int .i64 l.length)):=by
 refine fn0 Cd.i_size_i_Card__k λX=>?_
 repeat' first|simp -dsimp only[go_sem]|apply Br.mk<;>intro h<;>try simp -dsimp only[h]|refine aC ?_|refine aC9 ?_|fail
 all_goals(simp_all)
theorem aLX (l:List Int) (G:l.length<=1048576):Fz F.lM [.sl 1 (E cI l)] (.sl 1 (E cI l)):=by
 refine fn0 Cd.i_copyInts_k λX=>?_;simp -dsimp only[go_sem];exact⟨by omega,rfl,⟨rfl,by omega,by omega⟩,_,_,rfl,rfl⟩
theorem aCN (c:List Int) (G:c.length<=1048576):Fz F.qD [.agg (cC c)] (.agg (cC c)):=by
 refine fn0 Cd.i_newCard_k λX=>?_
 repeat' first|simp -dsimp only[go_sem,cC]|apply Br.mk<;>intro h<;>try simp -dsimp only[h]|refine aA.c (by first|exact aLX c G) ?_|refine aC ?_|refine aC9 ?_|fail
 all_goals(exact⟨_,_,rfl,rfl⟩)
theorem aBa (l:List (List Int)) (U:∀x,x∈l->x.length<=1048576) (O:l.length<=1048576):Vs.Fn Tryz.prog F.kG [] [.sl 1 (E cC l)] (.loc (.b 0) 0 l.length) [some (.arr 1 (E cC l) false)]:=by
 refine fn1 Cd.i_newDeck_k [.t 3 0] [.arr 1 (E cC l) false] λX=>?_;unfold Cd.kG;simp -dsimp only[go_sem];refine⟨by omega,rfl,?_⟩;refine aP.intro dM (λi:{i:Nat // i<=l.length}=>⟨[(3,.loc (.t 3 0) 0 i.1),(7,.sl 1 (E cC l)),(8,.v (.int .i64 l.length)),(9,.v (.int .i64 i.1))],[(.t 3 0,.arr 1 (E cC (l.take i.1)) false)]⟩) (λi=>l.length-i.1) ⟨0,by omega⟩ ?_ ?_
 .simp[Vs.LeL,Vs.look,aB,Vs.E]
 .rintro⟨i,hi⟩;have M:(l.take i).length=i:=by simp;omega
  simp -dsimp only[go_sem];refine Br.mk (λH=>?_) λH=>?_
  .have G:i<l.length:=by simpa using H
   have V:=aJ G O;simp -dsimp only[go_sem,aW G];refine⟨⟨by omega,by omega⟩,by simp[cC],?_⟩;simp -dsimp only[go_sem,cC];have I:E cC (l.take i)++[[.sl 1 (E cI l[i])]]=E cC (l.take (i+1)):=by rw[bM G,aV];rfl
   refine aA.pure (aCN l[i] (U _ (Aa G))) ?_;simp -dsimp only[go_sem,cC,M,aH,I,V,Af,Ag,Ao,Aq];exact⟨by omega,⟨rfl,by omega,by omega⟩,rfl,⟨i+1,by omega⟩,by simp[Vs.LeL,Vs.look,aB],by simp only;omega⟩
  .have J:i=l.length:=by
    have:¬i<l.length:=by simpa using H
    omega
   subst J;simp -dsimp only[go_sem];exact⟨⟨[],[],rfl,by rw[Bw]⟩,by simp⟩
end
section
variable [Vs.Envs]
attribute [local irreducible] Vs.Fn
abbrev Tot:=ByteArray×Int
def cT (x:Tot):List AV:=[.v (.string x.1),.v (.int .i64 x.2)]
structure Stp where
 kind:Int
 a:Int
 b:Int
 to:Int
 f0:Int
 f1:Int
 s0:Int
 s1:Int
 text:ByteArray
def cS (x:Stp):List AV:=[.v (.int .i64 x.kind),.v (.int .i64 x.a),.v (.int .i64 x.b),.v (.int .i64 x.to),.v (.int .i64 x.f0),.v (.int .i64 x.f1),.v (.int .i64 x.s0),.v (.int .i64 x.s1),.v (.string x.text)]
end
section
variable [Vs.Envs]
attribute [local irreducible] Vs.Fn
theorem u64_nonneg (n:Int):0<=IntKind.u64.wrap n:=by
 simp only[IntKind.wrap,IntKind.bits,IntKind.signed,Bool.false_and,AO,Bc];exact Int.emod_nonneg _ (by decide)
def aD1 (r:Int):Int:=if r=12 then 1 else if r=11 then 2 else if inB r 0 9 then W (4*2 ^ (min (IntKind.u64.wrap r).toNat 64)) else 0
def aAw (n:Int):Bool:=decide (n≥48)&&decide (n<=57)
def btw (n a b:Int):Bool:=decide (n≥a)&&decide (n<=b)
def orI (a b:Int):Int:=fU .or .i64 a b
def l03 (n:Int):Int:=
 if n=32 then 0 else if n=38 then 1 else if n=45 then 2 else if n=47 then orI 4 (aD1 1) else if aAw n then aD1 (W (W n-48))
 else if btw n 65 73 then orI 1 (aD1 (W (W (W n-65)+1))) else if btw n 74 82 then orI 2 (aD1 (W (W (W n-74)+1))) else if btw n 83 90 then orI 4 (aD1 (W (W (W n-83)+2))) else -1
def CH:ByteArray:=⟨#[32,38,65,66,67,68,69,70,71,72,73,45,74,75,76,77,78,79,80,81,82,47,83,84,85,86,87,88,89,90,48,49,50,51,52,53,54,55,56,57]⟩
def dJ (n:Int):Bool:=decide (aAk CH n≥0)
set_option maxRecDepth 100000 in
theorem aOP:∀n:Nat,n<256->dJ (n:Int)=decide (l03 (n:Int)≥0):=by decide +kernel
def bB (s:ByteArray):Bool:=s.data.toList.all λb=>dJ b.toNat
theorem aM9 (r:Int):Fz F.jP [.v (.int .i64 r)] (.v (.int .i64 (aD1 r))):=by
 refine fn0 Cd.s_l02Bit_k λX=>?_
 repeat' first|simp -dsimp only[go_sem]|apply Br.mk<;>intro h<;>try simp -dsimp only[h]|refine RgK.mk rfl ?_|refine aA.c (by first|exact yV _ _ _) ?_|refine And.intro (by first|rfl|omega|decide|exact u64_nonneg _|(refine⟨?_,?_⟩<;>(first|rfl|omega|decide|exact u64_nonneg _))|(refine⟨?_,?_,?_⟩<;>(first|rfl|omega|decide|exact u64_nonneg _))|(refine⟨?_,?_,?_,?_⟩<;>(first|rfl|omega|decide|exact u64_nonneg _))) ?_|fail
 all_goals(simp_all [aD1,IntKind.bits,u64_nonneg])
theorem aGm (n:Int):Fz F.p8 [.v (.int .u8 n)] (.v (.bool (aAw n))):=by
 refine fn0 Cd.s_l01Digit_k λX=>?_
 repeat' first|simp -dsimp only[go_sem]|apply Br.mk<;>intro h<;>try simp -dsimp only[h]|refine aC ?_|refine aC9 ?_|fail
 all_goals(first|(simp_all [aAw];done)|(simp_all [aAw];omega))
theorem aBi (n:Int):Fz F.pW [.v (.int .u8 n)] (.v (.int .i64 (l03 n))):=by
 refine fn0 Cd.s_l03Code_k λX=>?_
 repeat' first|simp -dsimp only[go_sem]|apply Br.mk<;>intro h<;>try simp -dsimp only[h]|refine aA.c (by first|exact aM9 _|exact aGm _) ?_|refine aC ?_|refine aC9 ?_|fail
 all_goals(first|(simp_all [l03,btw,orI];done)|(refine aR ?_;grind [l03,btw,orI]))
theorem aKy (s:ByteArray) (n:Int):Fz F.bQ [.v (.string s),.v (.int .u8 n)] (.v (.int .i64 (aAk s n))):=by
 refine fn0 Cd.internal_stringslite_IndexByte_k λX=>?_
 repeat' first|simp -dsimp only[go_sem]|apply Br.mk<;>intro h<;>try simp -dsimp only[h]|refine aC ?_|refine aC9 ?_|fail
 all_goals(simp_all)
theorem aN1 (s:ByteArray) (n:Int):Fz F.strings_IndexByte [.v (.string s),.v (.int .u8 n)] (.v (.int .i64 (aAk s n))):=by
 refine fn0 Cd.strings_IndexByte_k λX=>?_
 repeat' first|simp -dsimp only[go_sem]|apply Br.mk<;>intro h<;>try simp -dsimp only[h]|refine aA.c (by first|exact aKy _ _) ?_|refine aC ?_|refine aC9 ?_|fail
 all_goals(simp_all)
theorem aGs (n:Int):Fz F.mR [.v (.int .u8 n)] (.v (.bool (dJ n))):=by
 refine fn0 Cd.i_isCharacter_k λX=>?_
 repeat' first|simp -dsimp only[go_sem]|apply Br.mk<;>intro h<;>try simp -dsimp only[h]|refine aA.c (by first|exact aN1 _ _) ?_|refine aC ?_|refine aC9 ?_|fail
 all_goals(simp_all [dJ,CH])
def dK (s:ByteArray) (i:Nat):Bool:=(s.data.toList.take i).all λb=>dJ b.toNat
def dL (s:ByteArray) (i:Nat):Bool:=dJ (s.data.toList.getD i 0).toNat
theorem aEO {s:ByteArray}{i:Nat} (h:i<s.size):dK s (i+1)=(dK s i&&dL s i):=by
 have F:i<s.data.toList.length:=h;unfold dK dL;rw[bM F,List.all_append,A8,Ba F];simp
theorem aGS (s:ByteArray):dK s s.size=bB s:=by
 unfold dK bB;rw[show s.size=s.data.toList.length from rfl,Bw]
theorem aDV {s:ByteArray}{i:Nat} (h:i<s.size) (h2:dL s i=false):bB s=false:=by
 have F:i<s.data.toList.length:=h;unfold dL at h2;rw[A8,Ba F] at h2;exact iK (p:=λb:UInt8=>dJ b.toNat) F h2
theorem aL1 (s:ByteArray) (i:Nat):dL s i=decide (l03 (s.data.toList.getD i 0).toNat≥0):=aOP _ (UInt8.toNat_lt _)
theorem aNq (s:ByteArray) (i:Nat):dJ (s.data.toList.getD i 0).toNat=dL s i:=rfl
attribute [local irreducible] dJ bB dK dL l03
theorem uZ (s:ByteArray) (hs:s.size<=1048576):Fz F.iE [.v (.string s)] (.v (.bool (bB s))):=by
 refine fn0 Cd.i_areCharacters_k λX=>?_;simp -dsimp only[go_sem];refine aP.intro dM (λi:{i:Nat // i<=s.size∧dK s i=true}=>⟨[(0,.v (.string s)),(3,.v (.int .i64 i.1))],[]⟩) (λi=>s.size-i.1) ⟨0,by simp[dK]⟩ ?_ ?_
 .simp[Vs.LeL,Vs.look]
 .rintro⟨i,hi,hall⟩;simp -dsimp only[go_sem];refine Br.mk (λh1=>?_) λh1=>?_
  .have hlt:i<s.size:=by simpa using h1
   have hw:=aJ hlt hs;simp -dsimp only[go_sem];refine⟨⟨by omega,by omega⟩,aA.flat (aGs _) rfl ?_⟩;simp -dsimp only[aNq];simp -dsimp only[go_sem];refine Br.mk (λh2=>?_) λh2=>?_
   .simp -dsimp only[go_sem];simp[aDV hlt (by simpa using h2)]
   .simp -dsimp only[go_sem,hw];exact⟨⟨i+1,by omega,by rw[aEO hlt,hall];simpa using h2⟩,by simp[Vs.LeL,Vs.look],by simp only;omega⟩
  .have hge:i=s.size:=by
    have:¬i<s.size:=by simpa using h1
    omega
   subst hge;simp -dsimp only[go_sem];simp[←aGS,hall]
def l09 (s:ByteArray) (a b:Int):Int:=if(s.size:Int)≠W (b-a) then 2 else if bB s then 0 else 7
theorem aIC (s:ByteArray) (a b:Int) (hs:s.size<=1048576):Fz F.sF [.v (.string s),.agg [.v (.int .i64 a),.v (.int .i64 b)]] (.v (.int .i64 (l09 s a b))):=by
 refine fn0 Cd.s_l09Text_k λX=>?_;simp -dsimp only[go_sem];refine Br.mk (λh0=>?_) λh0=>?_
 .simp -dsimp only[go_sem];have:(s.size:Int)≠W (b-a):=by simpa using h0
  simp[l09,this]
 .simp -dsimp only[go_sem];have hsz:(s.size:Int)=W (b-a):=by simpa using h0
  refine aP.intro dM (λi:{i:Nat // i<=s.size∧dK s i=true}=>⟨[(0,.v (.string s)),(5,.v (.int .i64 i.1))],[]⟩) (λi=>s.size-i.1) ⟨0,by simp[dK]⟩ ?_ ?_
  .simp[Vs.LeL,Vs.look]
  .rintro⟨i,hi,hall⟩;simp -dsimp only[go_sem];refine Br.mk (λh1=>?_) λh1=>?_
   .have hlt:i<s.size:=by simpa using h1
    have hw:=aJ hlt hs;simp -dsimp only[go_sem];refine⟨⟨by omega,by omega⟩,aA.flat (aBi _) rfl ?_⟩;have hch:=aL1 s i;simp -dsimp only[go_sem];refine Br.mk (λh2=>?_) λh2=>?_
    .simp -dsimp only[go_sem];simp only[Bb] at h2;have h3:dL s i=false:=by rw[hch,BD];omega
     simp[l09,hsz,aDV hlt h3]
    .simp -dsimp only[go_sem,hw];simp only[BD] at h2;have h3:dL s i=true:=by rw[hch,Bb];omega
     exact⟨⟨i+1,by omega,by rw[aEO hlt,hall,h3];rfl⟩,by simp[Vs.LeL,Vs.look],by simp only;omega⟩
   .have hge:i=s.size:=by
     have:¬i<s.size:=by simpa using h1
     omega
    subst hge;simp -dsimp only[go_sem];have:bB s=true:=by rw[←aGS,hall]
    simp[l09,hsz,this]
def dW (a b w:Int):Bool:=decide (0<=a)&&(decide (a<b)&&decide (b<=w))
def l9 (a b w:Int):Bool:=dW a b w&&decide (W (b-a)<=12)
theorem xH (a b w:Int):Fz F.nU [.agg [.v (.int .i64 a),.v (.int .i64 b)],.v (.int .i64 w)] (.v (.bool (dW a b w))):=by
 refine fn0 Cd.i_isField_k λX=>?_
 repeat' first|simp -dsimp only[go_sem]|apply Br.mk<;>intro h<;>try simp -dsimp only[h]|refine aC ?_|refine aC9 ?_|fail
 all_goals(first|(simp_all [dW];done)|(simp_all [dW];omega)|(refine aR ?_;grind [dW]))
theorem dZ (a b w:Int):Fz F.fD [.agg [.v (.int .i64 a),.v (.int .i64 b)],.v (.int .i64 w)] (.v (.bool (dW a b w))):=by
 refine fn0 Cd.s_l02Field_k λX=>?_
 repeat' first|simp -dsimp only[go_sem]|apply Br.mk<;>intro h<;>try simp -dsimp only[h]|refine aC ?_|refine aC9 ?_|fail
 all_goals(first|(simp_all [dW];done)|(simp_all [dW];omega)|(refine aR ?_;grind [dW]))
theorem uU (a b w:Int):Fz F.fE [.agg [.v (.int .i64 a),.v (.int .i64 b)],.v (.int .i64 w)] (.v (.bool (l9 a b w))):=by
 refine fn0 Cd.i_isNumberField_k λX=>?_
 repeat' first|simp -dsimp only[go_sem]|apply Br.mk<;>intro h<;>try simp -dsimp only[h]|refine aA.c (by first|exact xH _ _ _) ?_|refine aC ?_|refine aC9 ?_|fail
 all_goals(first|(simp_all [l9];done)|(refine aR ?_;grind [l9]))
theorem aM3 (n:Int):Fz F.pO [.v (.int .i64 n)] (.v (.bool (inB n 0 5))):=by
 refine fn0 Cd.s_l15Tray_k λX=>?_
 repeat' first|simp -dsimp only[go_sem]|apply Br.mk<;>intro h<;>try simp -dsimp only[h]|refine aA.c (by first|exact yV _ _ _|exact inside _ _ _) ?_|refine aC ?_|refine aC9 ?_|fail
 all_goals(simp_all)
theorem aOC (n:Int):Fz F.tV [.v (.int .i64 n)] (.v (.bool (inB n 0 5))):=by
 refine fn0 Cd.i_isTray_k λX=>?_
 repeat' first|simp -dsimp only[go_sem]|apply Br.mk<;>intro h<;>try simp -dsimp only[h]|refine aA.c (by first|exact yV _ _ _|exact inside _ _ _) ?_|refine aC ?_|refine aC9 ?_|fail
 all_goals(simp_all)
theorem aM6 (n:Int):Fz F.vG [.v (.int .i64 n)] (.v (.bool (inB n 2 4))):=by
 refine fn0 Cd.s_l15Both_k λX=>?_
 repeat' first|simp -dsimp only[go_sem]|apply Br.mk<;>intro h<;>try simp -dsimp only[h]|refine aA.c (by first|exact yV _ _ _|exact inside _ _ _) ?_|refine aC ?_|refine aC9 ?_|fail
 all_goals(simp_all)
theorem aKm (n:Int):Fz F.tQ [.v (.int .i64 n)] (.v (.bool (inB n 2 4))):=by
 refine fn0 Cd.i_takesTwo_k λX=>?_
 repeat' first|simp -dsimp only[go_sem]|apply Br.mk<;>intro h<;>try simp -dsimp only[h]|refine aA.c (by first|exact yV _ _ _|exact inside _ _ _) ?_|refine aC ?_|refine aC9 ?_|fail
 all_goals(simp_all)
structure Spc where
 w0:Int
 w1:Int
 text:ByteArray
 g0:Int
 g1:Int
 s0:Int
 s1:Int
def cP (x:Spc):List AV:=[.v (.int .i64 x.w0),.v (.int .i64 x.w1),.v (.string x.text),.v (.int .i64 x.g0),.v (.int .i64 x.g1),.v (.int .i64 x.s0),.v (.int .i64 x.s1)]
def aBQ (s:ByteArray):Bool:=s.toList==(⟨#[]⟩:ByteArray).toList
theorem aLm (s:ByteArray) (a b:Int):(l09 s a b==0)=(bB s&&((s.size:Int)==W (b-a))):=by
 unfold l09;by_cases h:(s.size:Int)=W (b-a)
 .cases h2:bB s<;>simp[h]
 .cases h2:bB s<;>simp[h]
end
end Go.Proofs.YtklmdppgonhflaaGreatDoor
