/- Characters, fields, specifications and steps. -/
import Derived.Test.YtmiiohemehacjaaGreatDoorXuR
import Derived.Test.YtmiiohemehacjaaGreatDoorXuB
import Derived.Test.YtmiiohemehacjaaGreatDoorVtJ
set_option linter.all false
set_option maxHeartbeats 8000000
namespace Go.Proofs.YtmiiohemehacjaaGreatDoor
open Go.Vs
section
variable [Vs.Envs]
attribute [local irreducible] Vs.Fn
theorem lT (l:List (List Int)) (hs:∀x,x∈l->x.length<=1048576) (hl:l.length<=1048576):Fz F.j5 [.sl 1 (E cC l)] (.v (.bool (bA l))):=by
 refine fn0 Cd.i_ValidDeck_k λX=>?_;simp -dsimp only[go_sem];refine aN.intro dM (λi:{i:Nat // i<=l.length∧(l.take i).all (λc=>gL c&&decide (c.length=(l.getD 0 []).length))=true}=>⟨[(0,.sl 1 (E cC l)),(5,.sl 1 (E cC l)),(6,.v (.int .i64 l.length)),(7,.v (.int .i64 i.1))],[]⟩) (λi=>l.length-i.1) ⟨0,by simp⟩ ?_ ?_
 .simp[Vs.LeL,Vs.look]
 .rintro⟨i,hi,hall⟩;simp -dsimp only[go_sem];refine Br.mk (λh1=>?_) λh1=>?_
  .have hlt:i<l.length:=by simpa using h1
   have h0:0<l.length:=by omega
   have hw:=aH hlt hl;have g0:l.getD 0 []=l[0]:=by simp[List.getD,h0]
   simp -dsimp only[go_sem,aQ hlt,aQ h0];refine⟨⟨by omega,by omega⟩,by first|omega|decide|simp[cC],?_⟩;simp -dsimp only[go_sem,cC,aQ hlt];refine RgK.mk rfl ?_;simp -dsimp only[go_sem,cC,aQ hlt];refine aD.flat (aIz l[i] (hs _ (List.getElem_mem hlt))) rfl ?_;simp -dsimp only[go_sem,cC,aQ hlt];refine Br.mk (λh2=>?_) λh2=>?_
   .simp -dsimp only[go_sem,h2];have e:(gL l[i]&&decide (l[i].length=(l.getD 0 []).length))=false:=by simp at h2;simp[h2]
    have hf:bA l=false:=by rw[bA,gG (p:=λc=>gL c&&decide (c.length=(l.getD 0 []).length)) hlt e];rfl
    simp[hf]
   .simp -dsimp only[go_sem,cC,h2,aQ hlt,aQ h0];refine aD.flat (nA l[i]) rfl ?_;simp -dsimp only[go_sem,cC,h2,aQ hlt,aQ h0];refine⟨⟨by omega,by omega⟩,?_⟩;refine aD.flat (nA l[0]) rfl ?_;simp -dsimp only[go_sem,cC,h2,aQ hlt,aQ h0];refine Br.mk (λh3=>?_) λh3=>?_
    .simp -dsimp only[go_sem]
     have e:(gL l[i]&&decide (l[i].length=(l.getD 0 []).length))=false:=by
      rw[g0];have:l[i].length≠l[0].length:=by simp at h3;omega
      simp[this]
     have hf:bA l=false:=by rw[bA,gG (p:=λc=>gL c&&decide (c.length=(l.getD 0 []).length)) hlt e];rfl
     simp[hf]
    .simp -dsimp only[go_sem,hw]
     have e:(gL l[i]&&decide (l[i].length=(l.getD 0 []).length))=true:=by
      rw[g0];have:l[i].length=l[0].length:=by simp at h3;omega
      simp at h2;simp[this,h2]
     exact⟨⟨i+1,by omega,aX (p:=λc=>gL c&&decide (c.length=(l.getD 0 []).length)) hlt hall e⟩,by simp[Vs.LeL,Vs.look],by simp only;omega⟩
  .have hge:i=l.length:=by
    have:¬i<l.length:=by simpa using h1
    omega
   subst hge;simp -dsimp only[go_sem];have:l.all (λc=>gL c&&decide (c.length=(l.getD 0 []).length))=true:=by simpa using hall
   rw[bA,this];simp only[Bool.true_and,Value.bool.injEq,AV.v.injEq];simp;omega
theorem aMF (l:List (List Int)):Fz F.gZ [.sl 1 (E cC l)] (.v (.int .i64 l.length)):=by
 refine fn0 Cd.i_size_i_Card__k λX=>?_
 repeat' first|simp -dsimp only[go_sem]|apply Br.mk<;>intro h<;>try simp -dsimp only[h]|refine aC ?_|fail
 all_goals(simp_all)
theorem aK2 (l:List Int) (H:l.length<=1048576):Fz F.jZ [.sl 1 (E cI l)] (.sl 1 (E cI l)):=by
 refine fn0 Cd.i_copyInts_k λX=>?_;simp -dsimp only[go_sem];exact⟨by omega,rfl,⟨rfl,by omega,by omega⟩,_,_,rfl,rfl⟩
theorem aBZ (c:List Int) (H:c.length<=1048576):Fz F.nX [.agg (cC c)] (.agg (cC c)):=by
 refine fn0 Cd.i_newCard_k λX=>?_
 repeat' first|simp -dsimp only[go_sem,cC]|apply Br.mk<;>intro h<;>try simp -dsimp only[h]|refine aD.c (by first|exact aK2 c H) ?_|refine aC ?_|fail
 all_goals(exact⟨_,_,rfl,rfl⟩)
theorem aAz (l:List (List Int)) (Y:∀x,x∈l->x.length<=1048576) (U:l.length<=1048576):Vs.Fn Tryz.prog F.jE [] [.sl 1 (E cC l)] (.loc (.b 0) 0 l.length) [some (.arr 1 (E cC l) false)]:=by
 refine fn1 Cd.i_newDeck_k [.t 3 0] [.arr 1 (E cC l) false] λX=>?_;unfold Cd.jE;simp -dsimp only[go_sem];refine⟨by omega,rfl,?_⟩;refine aN.intro dM (λi:{i:Nat // i<=l.length}=>⟨[(3,.loc (.t 3 0) 0 i.1),(7,.sl 1 (E cC l)),(8,.v (.int .i64 l.length)),(9,.v (.int .i64 i.1))],[(.t 3 0,.arr 1 (E cC (l.take i.1)) false)]⟩) (λi=>l.length-i.1) ⟨0,by omega⟩ ?_ ?_
 .simp[Vs.LeL,Vs.look,Vs.aB,Vs.E]
 .rintro⟨i,hi⟩;have O:(l.take i).length=i:=by simp;omega
  simp -dsimp only[go_sem];refine Br.mk (λI=>?_) λI=>?_
  .have H:i<l.length:=by simpa using I
   have Z:=aH H U;simp -dsimp only[go_sem,aQ H];refine⟨⟨by omega,by omega⟩,by simp[cC],?_⟩;simp -dsimp only[go_sem,cC];have J:E cC (l.take i)++[[.sl 1 (E cI l[i])]]=E cC (l.take (i+1)):=by rw[bB H,aV];rfl
   refine aD.pure (aBZ l[i] (Y _ (List.getElem_mem H))) ?_;simp -dsimp only[go_sem,cC,O,aI,J,Z,List.replicate_succ,List.replicate_zero,List.flatten_cons,List.flatten_nil];exact⟨by omega,⟨rfl,by omega,by omega⟩,rfl,⟨i+1,by omega⟩,by simp[Vs.LeL,Vs.look,Vs.aB],by simp only;omega⟩
  .have L:i=l.length:=by
    have:¬i<l.length:=by simpa using I
    omega
   subst L;simp -dsimp only[go_sem];exact⟨⟨[],[],rfl,by rw[List.take_length]⟩,by simp⟩
end
section
variable [Vs.Envs]
attribute [local irreducible] Vs.Fn
abbrev Tot:=ByteArray×Int
def cT (x:Tot):List AV:=[.v (.string x.1),.v (.int .i64 x.2)]
def aDD (x:Tot) (n:Int):Int:=szT x.1 n
theorem aLr (s:ByteArray) (a n:Int):Fz F.qR [.agg [.v (.string s),.v (.int .i64 a)],.v (.int .i64 n)] (.v (.int .i64 (szT s n))):=by
 refine fn0 Cd.l_szTotal_k λX=>?_
 repeat' first|simp -dsimp only[go_sem]|apply Br.mk<;>intro h<;>try simp -dsimp only[h]|refine aC ?_|fail
 all_goals(simp_all [szT]<;>omega)
theorem aHC (s:ByteArray) (a:Int):Fz F.nP [.agg [.v (.string s),.v (.int .i64 a)]] (.agg [.v (.string s),.v (.int .i64 a)]):=by
 refine fn0 Cd.l_toTotal_k λX=>?_
 repeat' first|simp -dsimp only[go_sem]|apply Br.mk<;>intro h<;>try simp -dsimp only[h]|refine aC ?_|fail
 all_goals(exact⟨_,_,rfl,rfl⟩)
theorem aMg (s:ByteArray) (a:Int):Fz F.qV [.agg [.v (.string s),.v (.int .i64 a)],.agg [.v (.string s),.v (.int .i64 a)]] (.v (.bool true)):=by
 refine fn0 Cd.l_eqTotal_k λX=>?_
 repeat' first|simp -dsimp only[go_sem]|apply Br.mk<;>intro h<;>try simp -dsimp only[h]|refine aC ?_|fail
 all_goals(simp_all)
theorem xB {x:Tot}{n:Int} (I:x.1.size<2 ^ 63) (F:0<=n) (H:n<=1048576) (h:0<=aDD x n):aDD x n<=n:=(aEq I F H h).1
theorem aJE (l:List Tot) (n:Int) (O:∀x,x∈l->x.1.size<2 ^ 63) (L:l.length<2 ^ 63) (H:0<=n∧n<=1048576):Fz F.nS [.sl 2 (E cT l),.v (.int .i64 n)] (.v (.int .i64 (szL aDD l n))):=
 aGB Tryz.mixed (g:=F.qR) (k:=2) Cd.l_szTotalS_k.o Cd.l_szTotalS_k.n Cd.l_szTotalS_k.r rfl aDD (λ_=>rfl) (λ_=>rfl) (λx J n I H=>aLr _ _ _) (λx J n I H h=>xB (O x J) I H h) n L H
theorem aJx (l:List Tot) (H:l.length<=1048576):Fz F.lQ [.sl 2 (E cT l)] (.sl 2 (E cT l)):=
 aGy Tryz.mixed (g:=F.nP) (k:=2) (y:=24) (z:=[.v (.string ⟨#[]⟩),.v (.int .i64 (0))]) Cd.l_toTotalS_k.o Cd.l_toTotalS_k.n Cd.l_toTotalS_k.r rfl (λ_=>rfl) (by decide) rfl rfl (λ_=>rfl) (λx I=>aHC _ _) H (by decide)
theorem aKQ (l:List Tot) (H:l.length<=1048576):Fz F.nU [.sl 2 (E cT l),.sl 2 (E cT l)] (.v (.bool true)):=
 aET Tryz.mixed (g:=F.qV) (k:=2) Cd.l_eqTotalS_k.o Cd.l_eqTotalS_k.n Cd.l_eqTotalS_k.r rfl (λ_=>rfl) (λ_=>rfl) (λx I=>aMg _ _) H
theorem aHE (a b:Int):Fz F.jB [.agg [.v (.int .i64 a),.v (.int .i64 b)]] (.agg [.v (.int .i64 a),.v (.int .i64 b)]):=by
 refine fn0 Cd.l_toField_k λX=>?_
 repeat' first|simp -dsimp only[go_sem]|apply Br.mk<;>intro h<;>try simp -dsimp only[h]|refine aC ?_|fail
 all_goals(exact⟨_,_,rfl,rfl⟩)
theorem aMi (a b:Int):Fz F.qW [.agg [.v (.int .i64 a),.v (.int .i64 b)],.agg [.v (.int .i64 a),.v (.int .i64 b)]] (.v (.bool true)):=by
 refine fn0 Cd.l_eqField_k λX=>?_
 repeat' first|simp -dsimp only[go_sem]|apply Br.mk<;>intro h<;>try simp -dsimp only[h]|refine aC ?_|fail
 all_goals(simp_all)
structure Stp where
 kind:Int
 a:Int
 b:Int
 to:Int
 f0:Int
 f1:Int
 s0:Int
 s1:Int
 text:ByteArray
def cS (x:Stp):List AV:=[.v (.int .i64 x.kind),.v (.int .i64 x.a),.v (.int .i64 x.b),.v (.int .i64 x.to),.v (.int .i64 x.f0),.v (.int .i64 x.f1),.v (.int .i64 x.s0),.v (.int .i64 x.s1),.v (.string x.text)]
def oJ (x:Stp) (n:Int):Int:=szT x.text n
theorem aE9 {x:Stp}{n:Int} (I:x.text.size<2 ^ 63) (F:0<=n) (H:n<=1048576) (h:0<=oJ x n):oJ x n<=n:=(aEq I F H h).1
theorem aMZ (x:Stp) (n:Int):Fz F.vC [.agg (cS x),.v (.int .i64 n)] (.v (.int .i64 (oJ x n))):=by
 refine fn0 Cd.l_szStep_k λX=>?_
 repeat' first|simp -dsimp only[go_sem,cS]|apply Br.mk<;>intro h<;>try simp -dsimp only[h]|refine aC ?_|fail
 all_goals(simp_all [oJ,szT]<;>omega)
theorem aJz (x:Stp):Fz F.rW [.agg (cS x)] (.agg (cS x)):=by
 refine fn0 Cd.l_toStep_k λX=>?_
 repeat' first|simp -dsimp only[go_sem,cS]|apply Br.mk<;>intro h<;>try simp -dsimp only[h]|refine aD.c (by first|exact aHE _ _) ?_|refine aC ?_|fail
 all_goals(exact⟨_,_,rfl,rfl⟩)
theorem aNx (x:Stp):Fz F.vF [.agg (cS x),.agg (cS x)] (.v (.bool true)):=by
 refine fn0 Cd.l_eqStep_k λX=>?_
 repeat' first|simp -dsimp only[go_sem,cS]|apply Br.mk<;>intro h<;>try simp -dsimp only[h]|refine aD.c (by first|exact aMi _ _) ?_|refine aC ?_|fail
 all_goals(simp_all)
theorem aEr (l:List Stp) (n:Int) (O:∀x,x∈l->x.text.size<2 ^ 63) (L:l.length<2 ^ 63) (H:0<=n∧n<=1048576):Fz F.vB [.sl 9 (E cS l),.v (.int .i64 n)] (.v (.int .i64 (szL oJ l n))):=
 aGB Tryz.mixed (g:=F.vC) (k:=9) Cd.l_szStepS_k.o Cd.l_szStepS_k.n Cd.l_szStepS_k.r rfl oJ (λ_=>rfl) (λ_=>rfl) (λx J n I H=>aMZ _ _) (λx J n I H h=>aE9 (O x J) I H h) n L H
theorem aBT (l:List Stp) (H:l.length<=1048576):Fz F.kJ [.sl 9 (E cS l)] (.sl 9 (E cS l)):=
 aGy Tryz.mixed (g:=F.rW) (k:=9) (y:=80) (z:=[.v (.int .i64 (0)),.v (.int .i64 (0)),.v (.int .i64 (0)),.v (.int .i64 (0)),.v (.int .i64 (0)),.v (.int .i64 (0)),.v (.int .i64 (0)),.v (.int .i64 (0)),.v (.string ⟨#[]⟩)]) Cd.l_toStepS_k.o Cd.l_toStepS_k.n Cd.l_toStepS_k.r rfl (λ_=>rfl) (by decide) rfl rfl (λ_=>rfl) (λx I=>aJz _) H (by decide)
theorem aId (l:List Stp) (H:l.length<=1048576):Fz F.vE [.sl 9 (E cS l),.sl 9 (E cS l)] (.v (.bool true)):=
 aET Tryz.mixed (g:=F.vF) (k:=9) Cd.l_eqStepS_k.o Cd.l_eqStepS_k.n Cd.l_eqStepS_k.r rfl (λ_=>rfl) (λ_=>rfl) (λx I=>aNx _) H
end
section
variable [Vs.Envs]
attribute [local irreducible] Vs.Fn
theorem u64_nonneg (n:Int):0<=IntKind.u64.wrap n:=by
 simp only[IntKind.wrap,IntKind.bits,IntKind.signed,Bool.false_and,Bool.false_eq_true,if_false];exact Int.emod_nonneg _ (by decide)
def aDh (r:Int):Int:=if r=12 then 1 else if r=11 then 2 else if inB r 0 9 then W (4*2 ^ (min (IntKind.u64.wrap r).toNat 64)) else 0
def aBD (n:Int):Bool:=decide (n≥48)&&decide (n<=57)
def btw (n a b:Int):Bool:=decide (n≥a)&&decide (n<=b)
def orI (a b:Int):Int:=oG .or .i64 a b
def l03 (n:Int):Int:=
 if n=32 then 0 else if n=38 then 1 else if n=45 then 2 else if n=47 then orI 4 (aDh 1) else if aBD n then aDh (W (W n-48))
 else if btw n 65 73 then orI 1 (aDh (W (W (W n-65)+1))) else if btw n 74 82 then orI 2 (aDh (W (W (W n-74)+1))) else if btw n 83 90 then orI 4 (aDh (W (W (W n-83)+2))) else -1
def CH:ByteArray:=⟨#[32,38,65,66,67,68,69,70,71,72,73,45,74,75,76,77,78,79,80,81,82,47,83,84,85,86,87,88,89,90,48,49,50,51,52,53,54,55,56,57]⟩
def chOK (n:Int):Bool:=decide (yS CH n≥0)
set_option maxRecDepth 100000 in
theorem aNC:∀n:Nat,n<256->chOK (n:Int)=decide (l03 (n:Int)≥0):=by decide +kernel
def areCh (s:ByteArray):Bool:=s.data.toList.all λb=>chOK b.toNat
theorem aL7 (r:Int):Fz F.jS [.v (.int .i64 r)] (.v (.int .i64 (aDh r))):=by
 refine fn0 Cd.s_l02Bit_k λX=>?_
 repeat' first|simp -dsimp only[go_sem]|apply Br.mk<;>intro h<;>try simp -dsimp only[h]|refine RgK.mk rfl ?_|refine aD.c (by first|exact zI _ _ _) ?_|refine And.intro (by first|rfl|omega|decide|exact u64_nonneg _|(refine⟨?_,?_⟩<;>(first|rfl|omega|decide|exact u64_nonneg _))|(refine⟨?_,?_,?_⟩<;>(first|rfl|omega|decide|exact u64_nonneg _))|(refine⟨?_,?_,?_,?_⟩<;>(first|rfl|omega|decide|exact u64_nonneg _))) ?_|fail
 all_goals(simp_all [aDh,IntKind.bits,u64_nonneg])
theorem aKx (n:Int):Fz F.rP [.v (.int .u8 n)] (.v (.bool (aBD n))):=by
 refine fn0 Cd.s_l01Digit_k λX=>?_
 repeat' first|simp -dsimp only[go_sem]|apply Br.mk<;>intro h<;>try simp -dsimp only[h]|refine aC ?_|fail
 all_goals(first|(simp_all [aBD];done)|(simp_all [aBD];omega))
theorem aEM (n:Int):Fz F.qP [.v (.int .u8 n)] (.v (.int .i64 (l03 n))):=by
 refine fn0 Cd.s_l03Code_k λX=>?_
 repeat' first|simp -dsimp only[go_sem]|apply Br.mk<;>intro h<;>try simp -dsimp only[h]|refine aD.c (by first|exact aL7 _|exact aKx _) ?_|refine aC ?_|fail
 all_goals(first|(simp_all [l03,btw,orI];done)|(refine aU ?_;grind [l03,btw,orI]))
theorem aJS (s:ByteArray) (n:Int):Fz F.bD [.v (.string s),.v (.int .u8 n)] (.v (.int .i64 (yS s n))):=by
 refine fn0 Cd.internal_stringslite_IndexByte_k λX=>?_
 repeat' first|simp -dsimp only[go_sem]|apply Br.mk<;>intro h<;>try simp -dsimp only[h]|refine aC ?_|fail
 all_goals(simp_all)
theorem aM2 (s:ByteArray) (n:Int):Fz F.strings_IndexByte [.v (.string s),.v (.int .u8 n)] (.v (.int .i64 (yS s n))):=by
 refine fn0 Cd.strings_IndexByte_k λX=>?_
 repeat' first|simp -dsimp only[go_sem]|apply Br.mk<;>intro h<;>try simp -dsimp only[h]|refine aD.c (by first|exact aJS _ _) ?_|refine aC ?_|fail
 all_goals(simp_all)
theorem aFU (n:Int):Fz F.kZ [.v (.int .u8 n)] (.v (.bool (chOK n))):=by
 refine fn0 Cd.i_isCharacter_k λX=>?_
 repeat' first|simp -dsimp only[go_sem]|apply Br.mk<;>intro h<;>try simp -dsimp only[h]|refine aD.c (by first|exact aM2 _ _) ?_|refine aC ?_|fail
 all_goals(simp_all [chOK,CH])
def chTo (s:ByteArray) (i:Nat):Bool:=(s.data.toList.take i).all λb=>chOK b.toNat
def chAt (s:ByteArray) (i:Nat):Bool:=chOK (s.data.toList.getD i 0).toNat
theorem aEb {s:ByteArray}{i:Nat} (h:i<s.size):chTo s (i+1)=(chTo s i&&chAt s i):=by
 have F:i<s.data.toList.length:=h;unfold chTo chAt;rw[bB F,List.all_append,List.getD_eq_getElem?_getD,List.getElem?_eq_getElem F];simp
theorem aGj (s:ByteArray):chTo s s.size=areCh s:=by
 unfold chTo areCh;rw[show s.size=s.data.toList.length from rfl,List.take_length]
theorem aC9 {s:ByteArray}{i:Nat} (h:i<s.size) (h2:chAt s i=false):areCh s=false:=by
 have F:i<s.data.toList.length:=h;unfold chAt at h2;rw[List.getD_eq_getElem?_getD,List.getElem?_eq_getElem F] at h2;exact gG (p:=λb:UInt8=>chOK b.toNat) F h2
theorem aK6 (s:ByteArray) (i:Nat):chAt s i=decide (l03 (s.data.toList.getD i 0).toNat≥0):=aNC _ (UInt8.toNat_lt _)
theorem aMn (s:ByteArray) (i:Nat):chOK (s.data.toList.getD i 0).toNat=chAt s i:=rfl
attribute [local irreducible] chOK areCh chTo chAt l03
theorem uJ (s:ByteArray) (hs:s.size<=1048576):Fz F.fZ [.v (.string s)] (.v (.bool (areCh s))):=by
 refine fn0 Cd.i_areCharacters_k λX=>?_;simp -dsimp only[go_sem];refine aN.intro dM (λi:{i:Nat // i<=s.size∧chTo s i=true}=>⟨[(0,.v (.string s)),(3,.v (.int .i64 i.1))],[]⟩) (λi=>s.size-i.1) ⟨0,by simp[chTo]⟩ ?_ ?_
 .simp[Vs.LeL,Vs.look]
 .rintro⟨i,hi,hall⟩;simp -dsimp only[go_sem];refine Br.mk (λh1=>?_) λh1=>?_
  .have hlt:i<s.size:=by simpa using h1
   have hw:=aH hlt hs;simp -dsimp only[go_sem];refine⟨⟨by omega,by omega⟩,aD.flat (aFU _) rfl ?_⟩;simp -dsimp only[aMn];simp -dsimp only[go_sem];refine Br.mk (λh2=>?_) λh2=>?_
   .simp -dsimp only[go_sem];simp[aC9 hlt (by simpa using h2)]
   .simp -dsimp only[go_sem,hw];exact⟨⟨i+1,by omega,by rw[aEb hlt,hall];simpa using h2⟩,by simp[Vs.LeL,Vs.look],by simp only;omega⟩
  .have hge:i=s.size:=by
    have:¬i<s.size:=by simpa using h1
    omega
   subst hge;simp -dsimp only[go_sem];simp[←aGj,hall]
def l09 (s:ByteArray) (a b:Int):Int:=if(s.size:Int)≠W (b-a) then 2 else if areCh s then 0 else 7
theorem aH6 (s:ByteArray) (a b:Int) (hs:s.size<=1048576):Fz F.qN [.v (.string s),.agg [.v (.int .i64 a),.v (.int .i64 b)]] (.v (.int .i64 (l09 s a b))):=by
 refine fn0 Cd.s_l09Text_k λX=>?_;simp -dsimp only[go_sem];refine Br.mk (λh0=>?_) λh0=>?_
 .simp -dsimp only[go_sem];have:(s.size:Int)≠W (b-a):=by simpa using h0
  simp[l09,this]
 .simp -dsimp only[go_sem];have hsz:(s.size:Int)=W (b-a):=by simpa using h0
  refine aN.intro dM (λi:{i:Nat // i<=s.size∧chTo s i=true}=>⟨[(0,.v (.string s)),(5,.v (.int .i64 i.1))],[]⟩) (λi=>s.size-i.1) ⟨0,by simp[chTo]⟩ ?_ ?_
  .simp[Vs.LeL,Vs.look]
  .rintro⟨i,hi,hall⟩;simp -dsimp only[go_sem];refine Br.mk (λh1=>?_) λh1=>?_
   .have hlt:i<s.size:=by simpa using h1
    have hw:=aH hlt hs;simp -dsimp only[go_sem];refine⟨⟨by omega,by omega⟩,aD.flat (aEM _) rfl ?_⟩;have hch:=aK6 s i;simp -dsimp only[go_sem];refine Br.mk (λh2=>?_) λh2=>?_
    .simp -dsimp only[go_sem];simp only[decide_eq_true_eq] at h2;have h3:chAt s i=false:=by rw[hch,decide_eq_false_iff_not];omega
     simp[l09,hsz,aC9 hlt h3]
    .simp -dsimp only[go_sem,hw];simp only[decide_eq_false_iff_not] at h2;have h3:chAt s i=true:=by rw[hch,decide_eq_true_eq];omega
     exact⟨⟨i+1,by omega,by rw[aEb hlt,hall,h3];rfl⟩,by simp[Vs.LeL,Vs.look],by simp only;omega⟩
   .have hge:i=s.size:=by
     have:¬i<s.size:=by simpa using h1
     omega
    subst hge;simp -dsimp only[go_sem];have:areCh s=true:=by rw[←aGj,hall]
    simp[l09,hsz,this]
def dR (a b w:Int):Bool:=decide (0<=a)&&(decide (a<b)&&decide (b<=w))
def nO (a b w:Int):Bool:=dR a b w&&decide (W (b-a)<=12)
theorem wI (a b w:Int):Fz F.l9 [.agg [.v (.int .i64 a),.v (.int .i64 b)],.v (.int .i64 w)] (.v (.bool (dR a b w))):=by
 refine fn0 Cd.i_isField_k λX=>?_
 repeat' first|simp -dsimp only[go_sem]|apply Br.mk<;>intro h<;>try simp -dsimp only[h]|refine aC ?_|fail
 all_goals(first|(simp_all [dR];done)|(simp_all [dR];omega)|(refine aU ?_;grind [dR]))
theorem dH (a b w:Int):Fz F.eD [.agg [.v (.int .i64 a),.v (.int .i64 b)],.v (.int .i64 w)] (.v (.bool (dR a b w))):=by
 refine fn0 Cd.s_l02Field_k λX=>?_
 repeat' first|simp -dsimp only[go_sem]|apply Br.mk<;>intro h<;>try simp -dsimp only[h]|refine aC ?_|fail
 all_goals(first|(simp_all [dR];done)|(simp_all [dR];omega)|(refine aU ?_;grind [dR]))
theorem zJ (a b w:Int):Fz F.fV [.agg [.v (.int .i64 a),.v (.int .i64 b)],.v (.int .i64 w)] (.v (.bool (nO a b w))):=by
 refine fn0 Cd.i_isNumberField_k λX=>?_
 repeat' first|simp -dsimp only[go_sem]|apply Br.mk<;>intro h<;>try simp -dsimp only[h]|refine aD.c (by first|exact wI _ _ _) ?_|refine aC ?_|fail
 all_goals(first|(simp_all [nO];done)|(refine aU ?_;grind [nO]))
theorem aL2 (n:Int):Fz F.nJ [.v (.int .i64 n)] (.v (.bool (inB n 0 5))):=by
 refine fn0 Cd.s_l15Tray_k λX=>?_
 repeat' first|simp -dsimp only[go_sem]|apply Br.mk<;>intro h<;>try simp -dsimp only[h]|refine aD.c (by first|exact zI _ _ _|exact inside _ _ _) ?_|refine aC ?_|fail
 all_goals(simp_all)
theorem aNs (n:Int):Fz F.sM [.v (.int .i64 n)] (.v (.bool (inB n 0 5))):=by
 refine fn0 Cd.i_isTray_k λX=>?_
 repeat' first|simp -dsimp only[go_sem]|apply Br.mk<;>intro h<;>try simp -dsimp only[h]|refine aD.c (by first|exact zI _ _ _|exact inside _ _ _) ?_|refine aC ?_|fail
 all_goals(simp_all)
theorem aL5 (n:Int):Fz F.uT [.v (.int .i64 n)] (.v (.bool (inB n 2 4))):=by
 refine fn0 Cd.s_l15Both_k λX=>?_
 repeat' first|simp -dsimp only[go_sem]|apply Br.mk<;>intro h<;>try simp -dsimp only[h]|refine aD.c (by first|exact zI _ _ _|exact inside _ _ _) ?_|refine aC ?_|fail
 all_goals(simp_all)
theorem aJD (n:Int):Fz F.sJ [.v (.int .i64 n)] (.v (.bool (inB n 2 4))):=by
 refine fn0 Cd.i_takesTwo_k λX=>?_
 repeat' first|simp -dsimp only[go_sem]|apply Br.mk<;>intro h<;>try simp -dsimp only[h]|refine aD.c (by first|exact zI _ _ _|exact inside _ _ _) ?_|refine aC ?_|fail
 all_goals(simp_all)
structure Spc where
 w0:Int
 w1:Int
 text:ByteArray
 g0:Int
 g1:Int
 s0:Int
 s1:Int
def cP (x:Spc):List AV:=[.v (.int .i64 x.w0),.v (.int .i64 x.w1),.v (.string x.text),.v (.int .i64 x.g0),.v (.int .i64 x.g1),.v (.int .i64 x.s0),.v (.int .i64 x.s1)]
def aBa (s:ByteArray):Bool:=s.toList==(⟨#[]⟩:ByteArray).toList
theorem aKt (s:ByteArray) (a b:Int):(l09 s a b==0)=(areCh s&&((s.size:Int)==W (b-a))):=by
 unfold l09;by_cases h:(s.size:Int)=W (b-a)
 .cases h2:areCh s<;>simp[h]
 .cases h2:areCh s<;>simp[h]
end
end Go.Proofs.YtmiiohemehacjaaGreatDoor
