/- Characters, fields, specifications and steps. -/
import Derived.Test.YtmiiohemehacjaaGreatDoorXuR
import Derived.Test.YtmiiohemehacjaaGreatDoorXuB
import Derived.Test.YtmiiohemehacjaaGreatDoorVtJ
set_option linter.all false
set_option maxHeartbeats 8000000
namespace Go.Proofs.YtmiiohemehacjaaGreatDoor
open Go.Vs
section
variable [Vs.Envs]
attribute [local irreducible] Vs.Fn
theorem bY (l:List (List Int)) (hs:∀x,x∈l->x.length<=1048576) (hl:l.length<=1048576):Fz F.iG [.sl 1 (E cC l)] (.v (.bool (bB l))):=by
 refine fn0 Cd.i_ValidDeck_k λX=>?_;simp -dsimp only[go_sem];refine aO.intro dM (λi:{i:Nat // i<=l.length∧(l.take i).all (λc=>gL c&&decide (c.length=(l.getD 0 []).length))=true}=>⟨[(0,.sl 1 (E cC l)),(5,.sl 1 (E cC l)),(6,.v (.int .i64 l.length)),(7,.v (.int .i64 i.1))],[]⟩) (λi=>l.length-i.1) ⟨0,by simp⟩ ?_ ?_
 .simp[Vs.LeL,Vs.look]
 .rintro⟨i,hi,hall⟩;simp -dsimp only[go_sem];refine Br.mk (λh1=>?_) λh1=>?_
  .have hlt:i<l.length:=by simpa using h1
   have h0:0<l.length:=by omega
   have hw:=aI hlt hl;have g0:l.getD 0 []=l[0]:=by simp[List.getD,h0]
   simp -dsimp only[go_sem,aR hlt,aR h0];refine⟨⟨by omega,by omega⟩,by first|omega|decide|simp[cC],?_⟩;simp -dsimp only[go_sem,cC,aR hlt];refine RgK.mk rfl ?_;simp -dsimp only[go_sem,cC,aR hlt];refine aA.flat (aIb l[i] (hs _ (Am hlt))) rfl ?_;simp -dsimp only[go_sem,cC,aR hlt];refine Br.mk (λh2=>?_) λh2=>?_
   .simp -dsimp only[go_sem,h2];have e:(gL l[i]&&decide (l[i].length=(l.getD 0 []).length))=false:=by simp at h2;simp[h2]
    have hf:bB l=false:=by rw[bB,iD (p:=λc=>gL c&&decide (c.length=(l.getD 0 []).length)) hlt e];rfl
    simp[hf]
   .simp -dsimp only[go_sem,cC,h2,aR hlt,aR h0];refine aA.flat (nW l[i]) rfl ?_;simp -dsimp only[go_sem,cC,h2,aR hlt,aR h0];refine⟨⟨by omega,by omega⟩,?_⟩;refine aA.flat (nW l[0]) rfl ?_;simp -dsimp only[go_sem,cC,h2,aR hlt,aR h0];refine Br.mk (λh3=>?_) λh3=>?_
    .simp -dsimp only[go_sem]
     have e:(gL l[i]&&decide (l[i].length=(l.getD 0 []).length))=false:=by
      rw[g0];have:l[i].length≠l[0].length:=by simp at h3;omega
      simp[this]
     have hf:bB l=false:=by rw[bB,iD (p:=λc=>gL c&&decide (c.length=(l.getD 0 []).length)) hlt e];rfl
     simp[hf]
    .simp -dsimp only[go_sem,hw]
     have e:(gL l[i]&&decide (l[i].length=(l.getD 0 []).length))=true:=by
      rw[g0];have:l[i].length=l[0].length:=by simp at h3;omega
      simp at h2;simp[this,h2]
     exact⟨⟨i+1,by omega,bH (p:=λc=>gL c&&decide (c.length=(l.getD 0 []).length)) hlt hall e⟩,by simp[Vs.LeL,Vs.look],by simp only;omega⟩
  .have hge:i=l.length:=by
    have:¬i<l.length:=by simpa using h1
    omega
   subst hge;simp -dsimp only[go_sem];have:l.all (λc=>gL c&&decide (c.length=(l.getD 0 []).length))=true:=by simpa using hall
   rw[bB,this];simp only[CX,Value.bool.injEq,AV.v.injEq];simp;omega
theorem aMf (l:List (List Int)):Fz F.iP [.sl 1 (E cC l)] (.v (.int .i64 l.length)):=by
 refine fn0 Cd.i_size_i_Card__k λX=>?_
 repeat' first|simp -dsimp only[go_sem]|apply Br.mk<;>intro h<;>try simp -dsimp only[h]|refine aC ?_|fail
 all_goals(simp_all)
theorem aKE (l:List Int) (u:l.length<=1048576):Fz F.kM [.sl 1 (E cI l)] (.sl 1 (E cI l)):=by
 refine fn0 Cd.i_copyInts_k λX=>?_;simp -dsimp only[go_sem];exact⟨by omega,rfl,⟨rfl,by omega,by omega⟩,_,_,rfl,rfl⟩
theorem aCo (c:List Int) (u:c.length<=1048576):Fz F.oZ [.agg (cC c)] (.agg (cC c)):=by
 refine fn0 Cd.i_newCard_k λX=>?_
 repeat' first|simp -dsimp only[go_sem,cC]|apply Br.mk<;>intro h<;>try simp -dsimp only[h]|refine aA.c (by first|exact aKE c u) ?_|refine aC ?_|fail
 all_goals(exact⟨_,_,rfl,rfl⟩)
theorem aAU (l:List (List Int)) (M:∀x,x∈l->x.length<=1048576) (L:l.length<=1048576):Vs.Fn Tryz.prog F.jT [] [.sl 1 (E cC l)] (.loc (.b 0) 0 l.length) [some (.arr 1 (E cC l) false)]:=by
 refine fn1 Cd.i_newDeck_k [.t 3 0] [.arr 1 (E cC l) false] λX=>?_;unfold Cd.jT;simp -dsimp only[go_sem];refine⟨by omega,rfl,?_⟩;refine aO.intro dM (λi:{i:Nat // i<=l.length}=>⟨[(3,.loc (.t 3 0) 0 i.1),(7,.sl 1 (E cC l)),(8,.v (.int .i64 l.length)),(9,.v (.int .i64 i.1))],[(.t 3 0,.arr 1 (E cC (l.take i.1)) false)]⟩) (λi=>l.length-i.1) ⟨0,by omega⟩ ?_ ?_
 .simp[Vs.LeL,Vs.look,aB,Vs.E]
 .rintro⟨i,hi⟩;have J:(l.take i).length=i:=by simp;omega
  simp -dsimp only[go_sem];refine Br.mk (λG=>?_) λG=>?_
  .have u:i<l.length:=by simpa using G
   have O:=aI u L;simp -dsimp only[go_sem,aR u];refine⟨⟨by omega,by omega⟩,by simp[cC],?_⟩;simp -dsimp only[go_sem,cC];have H:E cC (l.take i)++[[.sl 1 (E cI l[i])]]=E cC (l.take (i+1)):=by rw[bU u,aS];rfl
   refine aA.pure (aCo l[i] (M _ (Am u))) ?_;simp -dsimp only[go_sem,cC,J,aH,H,O,Ai,Ah,Al,Aq];exact⟨by omega,⟨rfl,by omega,by omega⟩,rfl,⟨i+1,by omega⟩,by simp[Vs.LeL,Vs.look,aB],by simp only;omega⟩
  .have I:i=l.length:=by
    have:¬i<l.length:=by simpa using G
    omega
   subst I;simp -dsimp only[go_sem];exact⟨⟨[],[],rfl,by rw[Ce]⟩,by simp⟩
end
section
variable [Vs.Envs]
attribute [local irreducible] Vs.Fn
abbrev Tot:=ByteArray×Int
def cT (x:Tot):List AV:=[.v (.string x.1),.v (.int .i64 x.2)]
structure Stp where
 kind:Int
 a:Int
 b:Int
 to:Int
 f0:Int
 f1:Int
 s0:Int
 s1:Int
 text:ByteArray
def cS (x:Stp):List AV:=[.v (.int .i64 x.kind),.v (.int .i64 x.a),.v (.int .i64 x.b),.v (.int .i64 x.to),.v (.int .i64 x.f0),.v (.int .i64 x.f1),.v (.int .i64 x.s0),.v (.int .i64 x.s1),.v (.string x.text)]
end
section
variable [Vs.Envs]
attribute [local irreducible] Vs.Fn
theorem u64_nonneg (n:Int):0<=IntKind.u64.wrap n:=by
 simp only[IntKind.wrap,IntKind.bits,IntKind.signed,Dy,A8,Bg];exact Int.emod_nonneg _ (by decide)
def aDC (r:Int):Int:=if r=12 then 1 else if r=11 then 2 else if inB r 0 9 then W (4*2 ^ (min (IntKind.u64.wrap r).toNat 64)) else 0
def aBZ (n:Int):Bool:=decide (n≥48)&&decide (n<=57)
def btw (n a b:Int):Bool:=decide (n≥a)&&decide (n<=b)
def orI (a b:Int):Int:=gG .or .i64 a b
def l03 (n:Int):Int:=
 if n=32 then 0 else if n=38 then 1 else if n=45 then 2 else if n=47 then orI 4 (aDC 1) else if aBZ n then aDC (W (W n-48))
 else if btw n 65 73 then orI 1 (aDC (W (W (W n-65)+1))) else if btw n 74 82 then orI 2 (aDC (W (W (W n-74)+1))) else if btw n 83 90 then orI 4 (aDC (W (W (W n-83)+2))) else -1
def CH:ByteArray:=⟨#[32,38,65,66,67,68,69,70,71,72,73,45,74,75,76,77,78,79,80,81,82,47,83,84,85,86,87,88,89,90,48,49,50,51,52,53,54,55,56,57]⟩
def chOK (n:Int):Bool:=decide (zM CH n≥0)
set_option maxRecDepth 100000 in
theorem aNc:∀n:Nat,n<256->chOK (n:Int)=decide (l03 (n:Int)≥0):=by decide +kernel
def areCh (s:ByteArray):Bool:=s.data.toList.all λb=>chOK b.toNat
theorem aLJ (r:Int):Fz F.jF [.v (.int .i64 r)] (.v (.int .i64 (aDC r))):=by
 refine fn0 Cd.s_l02Bit_k λX=>?_
 repeat' first|simp -dsimp only[go_sem]|apply Br.mk<;>intro h<;>try simp -dsimp only[h]|refine RgK.mk rfl ?_|refine aA.c (by first|exact aAe _ _ _) ?_|refine And.intro (by first|rfl|omega|decide|exact u64_nonneg _|(refine⟨?_,?_⟩<;>(first|rfl|omega|decide|exact u64_nonneg _))|(refine⟨?_,?_,?_⟩<;>(first|rfl|omega|decide|exact u64_nonneg _))|(refine⟨?_,?_,?_,?_⟩<;>(first|rfl|omega|decide|exact u64_nonneg _))) ?_|fail
 all_goals(simp_all [aDC,IntKind.bits,u64_nonneg])
theorem aJ8 (n:Int):Fz F.rM [.v (.int .u8 n)] (.v (.bool (aBZ n))):=by
 refine fn0 Cd.s_l01Digit_k λX=>?_
 repeat' first|simp -dsimp only[go_sem]|apply Br.mk<;>intro h<;>try simp -dsimp only[h]|refine aC ?_|fail
 all_goals(first|(simp_all [aBZ];done)|(simp_all [aBZ];omega))
theorem aA2 (n:Int):Fz F.oN [.v (.int .u8 n)] (.v (.int .i64 (l03 n))):=by
 refine fn0 Cd.s_l03Code_k λX=>?_
 repeat' first|simp -dsimp only[go_sem]|apply Br.mk<;>intro h<;>try simp -dsimp only[h]|refine aA.c (by first|exact aLJ _|exact aJ8 _) ?_|refine aC ?_|fail
 all_goals(first|(simp_all [l03,btw,orI];done)|(refine aU ?_;grind [l03,btw,orI]))
theorem aJm (s:ByteArray) (n:Int):Fz F.bO [.v (.string s),.v (.int .u8 n)] (.v (.int .i64 (zM s n))):=by
 refine fn0 Cd.internal_stringslite_IndexByte_k λX=>?_
 repeat' first|simp -dsimp only[go_sem]|apply Br.mk<;>intro h<;>try simp -dsimp only[h]|refine aC ?_|fail
 all_goals(simp_all)
theorem aMy (s:ByteArray) (n:Int):Fz F.strings_IndexByte [.v (.string s),.v (.int .u8 n)] (.v (.int .i64 (zM s n))):=by
 refine fn0 Cd.strings_IndexByte_k λX=>?_
 repeat' first|simp -dsimp only[go_sem]|apply Br.mk<;>intro h<;>try simp -dsimp only[h]|refine aA.c (by first|exact aJm _ _) ?_|refine aC ?_|fail
 all_goals(simp_all)
theorem aFN (n:Int):Fz F.lV [.v (.int .u8 n)] (.v (.bool (chOK n))):=by
 refine fn0 Cd.i_isCharacter_k λX=>?_
 repeat' first|simp -dsimp only[go_sem]|apply Br.mk<;>intro h<;>try simp -dsimp only[h]|refine aA.c (by first|exact aMy _ _) ?_|refine aC ?_|fail
 all_goals(simp_all [chOK,CH])
def chTo (s:ByteArray) (i:Nat):Bool:=(s.data.toList.take i).all λb=>chOK b.toNat
def chAt (s:ByteArray) (i:Nat):Bool:=chOK (s.data.toList.getD i 0).toNat
theorem aEn {s:ByteArray}{i:Nat} (h:i<s.size):chTo s (i+1)=(chTo s i&&chAt s i):=by
 have u:i<s.data.toList.length:=h;unfold chTo chAt;rw[bU u,List.all_append,Bc,Bf u];simp
theorem aGb (s:ByteArray):chTo s s.size=areCh s:=by
 unfold chTo areCh;rw[show s.size=s.data.toList.length from rfl,Ce]
theorem aDw {s:ByteArray}{i:Nat} (h:i<s.size) (h2:chAt s i=false):areCh s=false:=by
 have u:i<s.data.toList.length:=h;unfold chAt at h2;rw[Bc,Bf u] at h2;exact iD (p:=λb:UInt8=>chOK b.toNat) u h2
theorem aKI (s:ByteArray) (i:Nat):chAt s i=decide (l03 (s.data.toList.getD i 0).toNat≥0):=aNc _ (UInt8.toNat_lt _)
theorem aLX (s:ByteArray) (i:Nat):chOK (s.data.toList.getD i 0).toNat=chAt s i:=rfl
attribute [local irreducible] chOK areCh chTo chAt l03
theorem uD (s:ByteArray) (hs:s.size<=1048576):Fz F.gY [.v (.string s)] (.v (.bool (areCh s))):=by
 refine fn0 Cd.i_areCharacters_k λX=>?_;simp -dsimp only[go_sem];refine aO.intro dM (λi:{i:Nat // i<=s.size∧chTo s i=true}=>⟨[(0,.v (.string s)),(3,.v (.int .i64 i.1))],[]⟩) (λi=>s.size-i.1) ⟨0,by simp[chTo]⟩ ?_ ?_
 .simp[Vs.LeL,Vs.look]
 .rintro⟨i,hi,hall⟩;simp -dsimp only[go_sem];refine Br.mk (λh1=>?_) λh1=>?_
  .have hlt:i<s.size:=by simpa using h1
   have hw:=aI hlt hs;simp -dsimp only[go_sem];refine⟨⟨by omega,by omega⟩,aA.flat (aFN _) rfl ?_⟩;simp -dsimp only[aLX];simp -dsimp only[go_sem];refine Br.mk (λh2=>?_) λh2=>?_
   .simp -dsimp only[go_sem];simp[aDw hlt (by simpa using h2)]
   .simp -dsimp only[go_sem,hw];exact⟨⟨i+1,by omega,by rw[aEn hlt,hall];simpa using h2⟩,by simp[Vs.LeL,Vs.look],by simp only;omega⟩
  .have hge:i=s.size:=by
    have:¬i<s.size:=by simpa using h1
    omega
   subst hge;simp -dsimp only[go_sem];simp[←aGb,hall]
def l09 (s:ByteArray) (a b:Int):Int:=if(s.size:Int)≠W (b-a) then 2 else if areCh s then 0 else 7
theorem aHI (s:ByteArray) (a b:Int) (hs:s.size<=1048576):Fz F.qV [.v (.string s),.agg [.v (.int .i64 a),.v (.int .i64 b)]] (.v (.int .i64 (l09 s a b))):=by
 refine fn0 Cd.s_l09Text_k λX=>?_;simp -dsimp only[go_sem];refine Br.mk (λh0=>?_) λh0=>?_
 .simp -dsimp only[go_sem];have:(s.size:Int)≠W (b-a):=by simpa using h0
  simp[l09,this]
 .simp -dsimp only[go_sem];have hsz:(s.size:Int)=W (b-a):=by simpa using h0
  refine aO.intro dM (λi:{i:Nat // i<=s.size∧chTo s i=true}=>⟨[(0,.v (.string s)),(5,.v (.int .i64 i.1))],[]⟩) (λi=>s.size-i.1) ⟨0,by simp[chTo]⟩ ?_ ?_
  .simp[Vs.LeL,Vs.look]
  .rintro⟨i,hi,hall⟩;simp -dsimp only[go_sem];refine Br.mk (λh1=>?_) λh1=>?_
   .have hlt:i<s.size:=by simpa using h1
    have hw:=aI hlt hs;simp -dsimp only[go_sem];refine⟨⟨by omega,by omega⟩,aA.flat (aA2 _) rfl ?_⟩;have hch:=aKI s i;simp -dsimp only[go_sem];refine Br.mk (λh2=>?_) λh2=>?_
    .simp -dsimp only[go_sem];simp only[Bb] at h2;have h3:chAt s i=false:=by rw[hch,BH];omega
     simp[l09,hsz,aDw hlt h3]
    .simp -dsimp only[go_sem,hw];simp only[BH] at h2;have h3:chAt s i=true:=by rw[hch,Bb];omega
     exact⟨⟨i+1,by omega,by rw[aEn hlt,hall,h3];rfl⟩,by simp[Vs.LeL,Vs.look],by simp only;omega⟩
   .have hge:i=s.size:=by
     have:¬i<s.size:=by simpa using h1
     omega
    subst hge;simp -dsimp only[go_sem];have:areCh s=true:=by rw[←aGb,hall]
    simp[l09,hsz,this]
def eF (a b w:Int):Bool:=decide (0<=a)&&(decide (a<b)&&decide (b<=w))
def kX (a b w:Int):Bool:=eF a b w&&decide (W (b-a)<=12)
theorem wF (a b w:Int):Fz F.mY [.agg [.v (.int .i64 a),.v (.int .i64 b)],.v (.int .i64 w)] (.v (.bool (eF a b w))):=by
 refine fn0 Cd.i_isField_k λX=>?_
 repeat' first|simp -dsimp only[go_sem]|apply Br.mk<;>intro h<;>try simp -dsimp only[h]|refine aC ?_|fail
 all_goals(first|(simp_all [eF];done)|(simp_all [eF];omega)|(refine aU ?_;grind [eF]))
theorem dX (a b w:Int):Fz F.fD [.agg [.v (.int .i64 a),.v (.int .i64 b)],.v (.int .i64 w)] (.v (.bool (eF a b w))):=by
 refine fn0 Cd.s_l02Field_k λX=>?_
 repeat' first|simp -dsimp only[go_sem]|apply Br.mk<;>intro h<;>try simp -dsimp only[h]|refine aC ?_|fail
 all_goals(first|(simp_all [eF];done)|(simp_all [eF];omega)|(refine aU ?_;grind [eF]))
theorem jS (a b w:Int):Fz F.fG [.agg [.v (.int .i64 a),.v (.int .i64 b)],.v (.int .i64 w)] (.v (.bool (kX a b w))):=by
 refine fn0 Cd.i_isNumberField_k λX=>?_
 repeat' first|simp -dsimp only[go_sem]|apply Br.mk<;>intro h<;>try simp -dsimp only[h]|refine aA.c (by first|exact wF _ _ _) ?_|refine aC ?_|fail
 all_goals(first|(simp_all [kX];done)|(refine aU ?_;grind [kX]))
theorem aLE (n:Int):Fz F.oI [.v (.int .i64 n)] (.v (.bool (inB n 0 5))):=by
 refine fn0 Cd.s_l15Tray_k λX=>?_
 repeat' first|simp -dsimp only[go_sem]|apply Br.mk<;>intro h<;>try simp -dsimp only[h]|refine aA.c (by first|exact aAe _ _ _|exact inside _ _ _) ?_|refine aC ?_|fail
 all_goals(simp_all)
theorem aM3 (n:Int):Fz F.rZ [.v (.int .i64 n)] (.v (.bool (inB n 0 5))):=by
 refine fn0 Cd.i_isTray_k λX=>?_
 repeat' first|simp -dsimp only[go_sem]|apply Br.mk<;>intro h<;>try simp -dsimp only[h]|refine aA.c (by first|exact aAe _ _ _|exact inside _ _ _) ?_|refine aC ?_|fail
 all_goals(simp_all)
theorem aLG (n:Int):Fz F.uK [.v (.int .i64 n)] (.v (.bool (inB n 2 4))):=by
 refine fn0 Cd.s_l15Both_k λX=>?_
 repeat' first|simp -dsimp only[go_sem]|apply Br.mk<;>intro h<;>try simp -dsimp only[h]|refine aA.c (by first|exact aAe _ _ _|exact inside _ _ _) ?_|refine aC ?_|fail
 all_goals(simp_all)
theorem aJb (n:Int):Fz F.rX [.v (.int .i64 n)] (.v (.bool (inB n 2 4))):=by
 refine fn0 Cd.i_takesTwo_k λX=>?_
 repeat' first|simp -dsimp only[go_sem]|apply Br.mk<;>intro h<;>try simp -dsimp only[h]|refine aA.c (by first|exact aAe _ _ _|exact inside _ _ _) ?_|refine aC ?_|fail
 all_goals(simp_all)
structure Spc where
 w0:Int
 w1:Int
 text:ByteArray
 g0:Int
 g1:Int
 s0:Int
 s1:Int
def cP (x:Spc):List AV:=[.v (.int .i64 x.w0),.v (.int .i64 x.w1),.v (.string x.text),.v (.int .i64 x.g0),.v (.int .i64 x.g1),.v (.int .i64 x.s0),.v (.int .i64 x.s1)]
def aBt (s:ByteArray):Bool:=s.toList==(⟨#[]⟩:ByteArray).toList
theorem aJ3 (s:ByteArray) (a b:Int):(l09 s a b==0)=(areCh s&&((s.size:Int)==W (b-a))):=by
 unfold l09;by_cases h:(s.size:Int)=W (b-a)
 .cases h2:areCh s<;>simp[h]
 .cases h2:areCh s<;>simp[h]
end
end Go.Proofs.YtmiiohemehacjaaGreatDoor
