/- Decks of samples: what the reference says, what the program says. -/
import Derived.Test.YtkgeiaideklmoaaGreatZuB
import Derived.Test.YtkgeiaideklmoaaGreatVtJ
set_option linter.all false
set_option maxHeartbeats 8000000
namespace Go.Proofs.YtkgeiaideklmoaaGreat
open Go.Vs
section
variable [Vs.Envs]
attribute [local irreducible] Vs.Fn
abbrev Tot:=ByteArray×Int
def cT (x:Tot):List AV:=[.v (.string x.1),.v (.int .i64 x.2)]
def aDp (x:Tot) (n:Int):Int:=szT x.1 n
theorem aLh (s:ByteArray) (a n:Int):Fz F.rP [.agg [.v (.string s),.v (.int .i64 a)],.v (.int .i64 n)] (.v (.int .i64 (szT s n))):=by
 refine fn0 Cd.l_szTotal_k λX=>?_
 repeat' first|simp -dsimp only[go_sem]|apply Br.mk<;>intro h<;>try simp -dsimp only[h]|refine aC ?_|fail
 all_goals(simp_all [szT]<;>omega)
theorem aHk (s:ByteArray) (a:Int):Fz F.oM [.agg [.v (.string s),.v (.int .i64 a)]] (.agg [.v (.string s),.v (.int .i64 a)]):=by
 refine fn0 Cd.l_toTotal_k λX=>?_
 repeat' first|simp -dsimp only[go_sem]|apply Br.mk<;>intro h<;>try simp -dsimp only[h]|refine aC ?_|fail
 all_goals(exact⟨_,_,rfl,rfl⟩)
theorem aL3 (s:ByteArray) (a:Int):Fz F.rR [.agg [.v (.string s),.v (.int .i64 a)],.agg [.v (.string s),.v (.int .i64 a)]] (.v (.bool true)):=by
 refine fn0 Cd.l_eqTotal_k λX=>?_
 repeat' first|simp -dsimp only[go_sem]|apply Br.mk<;>intro h<;>try simp -dsimp only[h]|refine aC ?_|fail
 all_goals(simp_all)
theorem wQ {x:Tot}{n:Int} (H:x.1.size<2 ^ 63) (h0:0<=n) (F:n<=1048576) (h:0<=aDp x n):aDp x n<=n:=(aGk H h0 F h).1
theorem aJl (l:List Tot) (n:Int) (L:∀x,x∈l->x.1.size<2 ^ 63) (J:l.length<2 ^ 63) (H:0<=n∧n<=1048576):Fz F.oP [.sl 2 (E cT l),.v (.int .i64 n)] (.v (.int .i64 (szL aDp l n))):=
 aJo Tryz.mixed (g:=F.rP) (k:=2) Cd.l_szTotalS_k.o Cd.l_szTotalS_k.n Cd.l_szTotalS_k.r rfl aDp (λ_=>rfl) (λ_=>rfl) (λx I n h0 H=>aLh _ _ _) (λx I n h0 H h=>wQ (L x I) h0 H h) n J H
theorem aJe (l:List Tot) (H:l.length<=1048576):Fz F.mF [.sl 2 (E cT l)] (.sl 2 (E cT l)):=
 aJg Tryz.mixed (g:=F.oM) (k:=2) (y:=24) (z:=[.v (.string ⟨#[]⟩),.v (.int .i64 (0))]) Cd.l_toTotalS_k.o Cd.l_toTotalS_k.n Cd.l_toTotalS_k.r rfl (λ_=>rfl) (by decide) rfl rfl (λ_=>rfl) (λx I=>aHk _ _) H (by decide)
theorem aKC (l:List Tot) (H:l.length<=1048576):Fz F.oU [.sl 2 (E cT l),.sl 2 (E cT l)] (.v (.bool true)):=
 aKD Tryz.mixed (g:=F.rR) (k:=2) Cd.l_eqTotalS_k.o Cd.l_eqTotalS_k.n Cd.l_eqTotalS_k.r rfl (λ_=>rfl) (λ_=>rfl) (λx I=>aL3 _ _) H
theorem aLe (a b:Int):Fz F.rM [.agg [.v (.int .i64 a),.v (.int .i64 b)]] (.agg [.v (.int .i64 a),.v (.int .i64 b)]):=by
 refine fn0 Cd.l_toField_k λX=>?_
 repeat' first|simp -dsimp only[go_sem]|apply Br.mk<;>intro h<;>try simp -dsimp only[h]|refine aC ?_|fail
 all_goals(exact⟨_,_,rfl,rfl⟩)
structure Stp where
 kind:Int
 a:Int
 b:Int
 to:Int
 f0:Int
 f1:Int
 s0:Int
 s1:Int
 text:ByteArray
def cS (x:Stp):List AV:=[.v (.int .i64 x.kind),.v (.int .i64 x.a),.v (.int .i64 x.b),.v (.int .i64 x.to),.v (.int .i64 x.f0),.v (.int .i64 x.f1),.v (.int .i64 x.s0),.v (.int .i64 x.s1),.v (.string x.text)]
def aBs (x:Stp) (n:Int):Int:=szT x.text n
theorem aJn (x:Stp) (n:Int):Fz F.xI [.agg (cS x),.v (.int .i64 n)] (.v (.int .i64 (aBs x n))):=by
 refine fn0 Cd.l_szStep_k λX=>?_
 repeat' first|simp -dsimp only[go_sem,cS]|apply Br.mk<;>intro h<;>try simp -dsimp only[h]|refine aC ?_|fail
 all_goals(simp_all [aBs,szT]<;>omega)
theorem aGh (x:Stp):Fz F.sJ [.agg (cS x)] (.agg (cS x)):=by
 refine fn0 Cd.l_toStep_k λX=>?_
 repeat' first|simp -dsimp only[go_sem,cS]|apply Br.mk<;>intro h<;>try simp -dsimp only[h]|refine aB.c (by first|exact aLe _ _) ?_|refine aC ?_|fail
 all_goals(exact⟨_,_,rfl,rfl⟩)
end
section
variable [Vs.Envs]
attribute [local irreducible] Vs.Fn
theorem u64_nonneg (n:Int):0<=IntKind.u64.wrap n:=by
 simp only[IntKind.wrap,IntKind.bits,IntKind.signed,Bool.false_and,AO,Bc];exact Int.emod_nonneg _ (by decide)
def aC2 (r:Int):Int:=if r=12 then 1 else if r=11 then 2 else if inB r 0 9 then W (4*2 ^ (min (IntKind.u64.wrap r).toNat 64)) else 0
def aBy (n:Int):Bool:=decide (n≥48)&&decide (n<=57)
def btw (n a b:Int):Bool:=decide (n≥a)&&decide (n<=b)
def orI (a b:Int):Int:=pK .or .i64 a b
def l03 (n:Int):Int:=
 if n=32 then 0 else if n=38 then 1 else if n=45 then 2 else if n=47 then orI 4 (aC2 1) else if aBy n then aC2 (W (W n-48))
 else if btw n 65 73 then orI 1 (aC2 (W (W (W n-65)+1))) else if btw n 74 82 then orI 2 (aC2 (W (W (W n-74)+1))) else if btw n 83 90 then orI 4 (aC2 (W (W (W n-83)+2))) else -1
def CH:ByteArray:=⟨#[32,38,65,66,67,68,69,70,71,72,73,45,74,75,76,77,78,79,80,81,82,47,83,84,85,86,87,88,89,90,48,49,50,51,52,53,54,55,56,57]⟩
def bL (n:Int):Bool:=decide (yQ CH n≥0)
set_option maxRecDepth 100000 in
theorem aNi:∀n:Nat,n<256->bL (n:Int)=decide (l03 (n:Int)≥0):=by decide +kernel
def aP (s:ByteArray):Bool:=s.data.toList.all λb=>bL b.toNat
theorem aLV (r:Int):Fz F.jX [.v (.int .i64 r)] (.v (.int .i64 (aC2 r))):=by
 refine fn0 Cd.s_l02Bit_k λX=>?_
 repeat' first|simp -dsimp only[go_sem]|apply Br.mk<;>intro h<;>try simp -dsimp only[h]|refine RgK.mk rfl ?_|refine aB.c (by first|exact zG _ _ _) ?_|refine And.intro (by first|rfl|omega|decide|exact u64_nonneg _|(refine⟨?_,?_⟩<;>(first|rfl|omega|decide|exact u64_nonneg _))|(refine⟨?_,?_,?_⟩<;>(first|rfl|omega|decide|exact u64_nonneg _))|(refine⟨?_,?_,?_,?_⟩<;>(first|rfl|omega|decide|exact u64_nonneg _))) ?_|fail
 all_goals(simp_all [aC2,IntKind.bits,u64_nonneg])
theorem aKn (n:Int):Fz F.rZ [.v (.int .u8 n)] (.v (.bool (aBy n))):=by
 refine fn0 Cd.s_l01Digit_k λX=>?_
 repeat' first|simp -dsimp only[go_sem]|apply Br.mk<;>intro h<;>try simp -dsimp only[h]|refine aC ?_|fail
 all_goals(first|(simp_all [aBy];done)|(simp_all [aBy];omega))
theorem aEw (n:Int):Fz F.rH [.v (.int .u8 n)] (.v (.int .i64 (l03 n))):=by
 refine fn0 Cd.s_l03Code_k λX=>?_
 repeat' first|simp -dsimp only[go_sem]|apply Br.mk<;>intro h<;>try simp -dsimp only[h]|refine aB.c (by first|exact aLV _|exact aKn _) ?_|refine aC ?_|fail
 all_goals(first|(simp_all [l03,btw,orI];done)|(refine bK ?_;grind [l03,btw,orI]))
theorem aJB (s:ByteArray) (n:Int):Fz F.bO [.v (.string s),.v (.int .u8 n)] (.v (.int .i64 (yQ s n))):=by
 refine fn0 Cd.internal_stringslite_IndexByte_k λX=>?_
 repeat' first|simp -dsimp only[go_sem]|apply Br.mk<;>intro h<;>try simp -dsimp only[h]|refine aC ?_|fail
 all_goals(simp_all)
theorem aMO (s:ByteArray) (n:Int):Fz F.strings_IndexByte [.v (.string s),.v (.int .u8 n)] (.v (.int .i64 (yQ s n))):=by
 refine fn0 Cd.strings_IndexByte_k λX=>?_
 repeat' first|simp -dsimp only[go_sem]|apply Br.mk<;>intro h<;>try simp -dsimp only[h]|refine aB.c (by first|exact aJB _ _) ?_|refine aC ?_|fail
 all_goals(simp_all)
theorem aFE (n:Int):Fz F.lS [.v (.int .u8 n)] (.v (.bool (bL n))):=by
 refine fn0 Cd.i_isCharacter_k λX=>?_
 repeat' first|simp -dsimp only[go_sem]|apply Br.mk<;>intro h<;>try simp -dsimp only[h]|refine aB.c (by first|exact aMO _ _) ?_|refine aC ?_|fail
 all_goals(simp_all [bL,CH])
def bM (s:ByteArray) (i:Nat):Bool:=(s.data.toList.take i).all λb=>bL b.toNat
def bP (s:ByteArray) (i:Nat):Bool:=bL (s.data.toList.getD i 0).toNat
theorem aDV {s:ByteArray}{i:Nat} (h:i<s.size):bM s (i+1)=(bM s i&&bP s i):=by
 have F:i<s.data.toList.length:=h;unfold bM bP;rw[aX F,List.all_append,A8,Ba F];simp
theorem aF1 (s:ByteArray):bM s s.size=aP s:=by
 unfold bM aP;rw[show s.size=s.data.toList.length from rfl,Bw]
theorem aCW {s:ByteArray}{i:Nat} (h:i<s.size) (h2:bP s i=false):aP s=false:=by
 have F:i<s.data.toList.length:=h;unfold bP at h2;rw[A8,Ba F] at h2;exact gU (p:=λb:UInt8=>bL b.toNat) F h2
theorem aKS (s:ByteArray) (i:Nat):bP s i=decide (l03 (s.data.toList.getD i 0).toNat≥0):=aNi _ (UInt8.toNat_lt _)
theorem aL9 (s:ByteArray) (i:Nat):bL (s.data.toList.getD i 0).toNat=bP s i:=rfl
attribute [local irreducible] bL aP bM bP l03
theorem uD (s:ByteArray) (hs:s.size<=1048576):Fz F.gQ [.v (.string s)] (.v (.bool (aP s))):=by
 refine fn0 Cd.i_areCharacters_k λX=>?_;simp -dsimp only[go_sem];refine aM.intro dM (λi:{i:Nat // i<=s.size∧bM s i=true}=>⟨[(0,.v (.string s)),(3,.v (.int .i64 i.1))],[]⟩) (λi=>s.size-i.1) ⟨0,by simp[bM]⟩ ?_ ?_
 .simp[Vs.LeL,Vs.look]
 .rintro⟨i,hi,hall⟩;simp -dsimp only[go_sem];refine Br.mk (λh1=>?_) λh1=>?_
  .have hlt:i<s.size:=by simpa using h1
   have hw:=aG hlt hs;simp -dsimp only[go_sem];refine⟨⟨by omega,by omega⟩,aB.flat (aFE _) rfl ?_⟩;simp -dsimp only[aL9];simp -dsimp only[go_sem];refine Br.mk (λh2=>?_) λh2=>?_
   .simp -dsimp only[go_sem];simp[aCW hlt (by simpa using h2)]
   .simp -dsimp only[go_sem,hw];exact⟨⟨i+1,by omega,by rw[aDV hlt,hall];simpa using h2⟩,by simp[Vs.LeL,Vs.look],by simp only;omega⟩
  .have hge:i=s.size:=by
    have:¬i<s.size:=by simpa using h1
    omega
   subst hge;simp -dsimp only[go_sem];simp[←aF1,hall]
def l09 (s:ByteArray) (a b:Int):Int:=if(s.size:Int)≠W (b-a) then 2 else if aP s then 0 else 7
theorem aHM (s:ByteArray) (a b:Int) (hs:s.size<=1048576):Fz F.rF [.v (.string s),.agg [.v (.int .i64 a),.v (.int .i64 b)]] (.v (.int .i64 (l09 s a b))):=by
 refine fn0 Cd.s_l09Text_k λX=>?_;simp -dsimp only[go_sem];refine Br.mk (λh0=>?_) λh0=>?_
 .simp -dsimp only[go_sem];have:(s.size:Int)≠W (b-a):=by simpa using h0
  simp[l09,this]
 .simp -dsimp only[go_sem];have hsz:(s.size:Int)=W (b-a):=by simpa using h0
  refine aM.intro dM (λi:{i:Nat // i<=s.size∧bM s i=true}=>⟨[(0,.v (.string s)),(5,.v (.int .i64 i.1))],[]⟩) (λi=>s.size-i.1) ⟨0,by simp[bM]⟩ ?_ ?_
  .simp[Vs.LeL,Vs.look]
  .rintro⟨i,hi,hall⟩;simp -dsimp only[go_sem];refine Br.mk (λh1=>?_) λh1=>?_
   .have hlt:i<s.size:=by simpa using h1
    have hw:=aG hlt hs;simp -dsimp only[go_sem];refine⟨⟨by omega,by omega⟩,aB.flat (aEw _) rfl ?_⟩;have hch:=aKS s i;simp -dsimp only[go_sem];refine Br.mk (λh2=>?_) λh2=>?_
    .simp -dsimp only[go_sem];simp only[Bb] at h2;have h3:bP s i=false:=by rw[hch,BD];omega
     simp[l09,hsz,aCW hlt h3]
    .simp -dsimp only[go_sem,hw];simp only[BD] at h2;have h3:bP s i=true:=by rw[hch,Bb];omega
     exact⟨⟨i+1,by omega,by rw[aDV hlt,hall,h3];rfl⟩,by simp[Vs.LeL,Vs.look],by simp only;omega⟩
   .have hge:i=s.size:=by
     have:¬i<s.size:=by simpa using h1
     omega
    subst hge;simp -dsimp only[go_sem];have:aP s=true:=by rw[←aF1,hall]
    simp[l09,hsz,this]
def dX (a b w:Int):Bool:=decide (0<=a)&&(decide (a<b)&&decide (b<=w))
def zA (a b w:Int):Bool:=dX a b w&&decide (W (b-a)<=12)
theorem vY (a b w:Int):Fz F.mV [.agg [.v (.int .i64 a),.v (.int .i64 b)],.v (.int .i64 w)] (.v (.bool (dX a b w))):=by
 refine fn0 Cd.i_isField_k λX=>?_
 repeat' first|simp -dsimp only[go_sem]|apply Br.mk<;>intro h<;>try simp -dsimp only[h]|refine aC ?_|fail
 all_goals(first|(simp_all [dX];done)|(simp_all [dX];omega)|(refine bK ?_;grind [dX]))
theorem eZ (a b w:Int):Fz F.gJ [.agg [.v (.int .i64 a),.v (.int .i64 b)],.v (.int .i64 w)] (.v (.bool (dX a b w))):=by
 refine fn0 Cd.s_l02Field_k λX=>?_
 repeat' first|simp -dsimp only[go_sem]|apply Br.mk<;>intro h<;>try simp -dsimp only[h]|refine aC ?_|fail
 all_goals(first|(simp_all [dX];done)|(simp_all [dX];omega)|(refine bK ?_;grind [dX]))
theorem aDi (a b w:Int):Fz F.jD [.agg [.v (.int .i64 a),.v (.int .i64 b)],.v (.int .i64 w)] (.v (.bool (zA a b w))):=by
 refine fn0 Cd.i_isNumberField_k λX=>?_
 repeat' first|simp -dsimp only[go_sem]|apply Br.mk<;>intro h<;>try simp -dsimp only[h]|refine aB.c (by first|exact vY _ _ _) ?_|refine aC ?_|fail
 all_goals(first|(simp_all [zA];done)|(refine bK ?_;grind [zA]))
theorem aLR (n:Int):Fz F.nV [.v (.int .i64 n)] (.v (.bool (inB n 0 5))):=by
 refine fn0 Cd.s_l15Tray_k λX=>?_
 repeat' first|simp -dsimp only[go_sem]|apply Br.mk<;>intro h<;>try simp -dsimp only[h]|refine aB.c (by first|exact zG _ _ _|exact inside _ _ _) ?_|refine aC ?_|fail
 all_goals(simp_all)
theorem aNa (n:Int):Fz F.sW [.v (.int .i64 n)] (.v (.bool (inB n 0 5))):=by
 refine fn0 Cd.i_isTray_k λX=>?_
 repeat' first|simp -dsimp only[go_sem]|apply Br.mk<;>intro h<;>try simp -dsimp only[h]|refine aB.c (by first|exact zG _ _ _|exact inside _ _ _) ?_|refine aC ?_|fail
 all_goals(simp_all)
theorem aLT (n:Int):Fz F.uL [.v (.int .i64 n)] (.v (.bool (inB n 2 4))):=by
 refine fn0 Cd.s_l15Both_k λX=>?_
 repeat' first|simp -dsimp only[go_sem]|apply Br.mk<;>intro h<;>try simp -dsimp only[h]|refine aB.c (by first|exact zG _ _ _|exact inside _ _ _) ?_|refine aC ?_|fail
 all_goals(simp_all)
theorem aJk (n:Int):Fz F.sS [.v (.int .i64 n)] (.v (.bool (inB n 2 4))):=by
 refine fn0 Cd.i_takesTwo_k λX=>?_
 repeat' first|simp -dsimp only[go_sem]|apply Br.mk<;>intro h<;>try simp -dsimp only[h]|refine aB.c (by first|exact zG _ _ _|exact inside _ _ _) ?_|refine aC ?_|fail
 all_goals(simp_all)
structure Spc where
 w0:Int
 w1:Int
 text:ByteArray
 g0:Int
 g1:Int
 s0:Int
 s1:Int
def cP (x:Spc):List AV:=[.v (.int .i64 x.w0),.v (.int .i64 x.w1),.v (.string x.text),.v (.int .i64 x.g0),.v (.int .i64 x.g1),.v (.int .i64 x.s0),.v (.int .i64 x.s1)]
def aA8 (s:ByteArray):Bool:=s.toList==(⟨#[]⟩:ByteArray).toList
theorem aKi (s:ByteArray) (a b:Int):(l09 s a b==0)=(aP s&&((s.size:Int)==W (b-a))):=by
 unfold l09;by_cases h:(s.size:Int)=W (b-a)
 .cases h2:aP s<;>simp[h]
 .cases h2:aP s<;>simp[h]
end
section
variable [Vs.Envs]
attribute [local irreducible] Vs.Fn
def cC (c:List Int):List AV:=[.sl 1 (E cI c)]
def cD (d:List (List Int)):List AV:=[.sl 1 (E cC d)]
theorem aJq (l:List Int) (n:Int):Fz F.sM [.sl 1 (E cI l),.v (.int .i64 n)] (.v (.int .i64 (szI l n))):=
 aMM Tryz.mixed Cd.l_szInt64S_k.o Cd.l_szInt64S_k.n Cd.l_szInt64S_k.r rfl l n
theorem aJi {l:List Int} (H:l.length<=1048576):Fz F.oN [.sl 1 (E cI l)] (.sl 1 (E cI l)):=
 aMK Tryz.mixed Cd.l_toInt64S_k.o Cd.l_toInt64S_k.n Cd.l_toInt64S_k.r rfl H
theorem aKF {l:List Int} (H:l.length<=1048576):Fz F.sO [.sl 1 (E cI l),.sl 1 (E cI l)] (.v (.bool true)):=
 aNd Tryz.mixed Cd.l_eqInt64S_k.o Cd.l_eqInt64S_k.n Cd.l_eqInt64S_k.r rfl H
theorem aHl {l:List Int}{n:Int} (h:szI l n<0):szI l n=-1:=by
 unfold szI at h⊢;split
 .rfl
 .rename_i F;rw[AC F] at h;exact absurd h F
theorem aMN (c:List Int) (n:Int):Fz F.uT [.agg (cC c),.v (.int .i64 n)] (.v (.int .i64 (szI c n))):=by
 refine fn0 Cd.l_szCard_k λX=>?_
 repeat' first|simp -dsimp only[go_sem,cC]|apply Br.mk<;>intro h<;>try simp -dsimp only[h]|refine aB.c (by first|exact aJq c _) ?_|refine aC ?_|fail
 all_goals(first|(simp_all [aHl];done)|(refine bK ?_;rw[aHl (by simpa using by assumption)]))
theorem aLk (l:List (List Int)) (n:Int) (J:∀x,x∈l->x.length<2 ^ 63) (I:l.length<2 ^ 63) (H:0<=n∧n<=1048576):Fz F.rQ [.sl 1 (E cC l),.v (.int .i64 n)] (.v (.int .i64 (szL szI l n))):=
 aJo Tryz.mixed (k:=1) (c:=cC) (g:=F.uT) Cd.l_szCardS_k.o Cd.l_szCardS_k.n Cd.l_szCardS_k.r rfl szI (λ_=>rfl) (λ_=>rfl) (λx _ n _ _=>aMN x n) (λx L n h0 H h=>(aGm (J x L) h0 H h).1) n I H
theorem aML (c:List Int) (H:c.length<=1048576):Fz F.nI [.agg (cC c)] (.agg (cC c)):=by
 refine fn0 Cd.l_toCard_k λX=>?_
 repeat' first|simp -dsimp only[go_sem,cC]|apply Br.mk<;>intro h<;>try simp -dsimp only[h]|refine aB.c (by first|exact aJi H) ?_|refine aC ?_|fail
 all_goals(exact⟨_,_,rfl,rfl⟩)
theorem aLf (l:List (List Int)) (I:∀x,x∈l->x.length<=1048576) (H:l.length<=1048576):Fz F.jJ [.sl 1 (E cC l)] (.sl 1 (E cC l)):=
 aJg Tryz.mixed (k:=1) (y:=24) (c:=cC) (z:=[.v (.slice none 0 0)]) (g:=F.nI) Cd.l_toCardS_k.o Cd.l_toCardS_k.n Cd.l_toCardS_k.r rfl (λ_=>rfl) (by omega) rfl rfl (λ_=>rfl) (λx J=>aML x (I x J)) H (by omega)
theorem aNe (c:List Int) (H:c.length<=1048576):Fz F.uU [.agg (cC c),.agg (cC c)] (.v (.bool true)):=by
 refine fn0 Cd.l_eqCard_k λX=>?_
 repeat' first|simp -dsimp only[go_sem,cC]|apply Br.mk<;>intro h<;>try simp -dsimp only[h]|refine aB.c (by first|exact aKF H) ?_|refine aC ?_|fail
 all_goals(simp_all)
theorem aL5 (l:List (List Int)) (I:∀x,x∈l->x.length<=1048576) (H:l.length<=1048576):Fz F.rT [.sl 1 (E cC l),.sl 1 (E cC l)] (.v (.bool true)):=
 aKD Tryz.mixed (k:=1) (c:=cC) (g:=F.uU) Cd.l_eqCardS_k.o Cd.l_eqCardS_k.n Cd.l_eqCardS_k.r rfl (λ_=>rfl) (λ_=>rfl) (λx J=>aNe x (I x J)) H
def iH (c:List Int):Bool:=c.all (λx=>inB x 0 4095)&&inB c.length 1 20
theorem l02Ok (c:List Int) (hc:c.length<=1048576):Fz F.aAq [.ro (cC c)] (.v (.bool (iH c))):=by
 refine fn0 Cd.s_l02Ok_k λX=>?_;simp -dsimp only[go_sem,cC];refine aM.intro dM (λi:{i:Nat // i<=c.length∧(c.take i).all (λx=>inB x 0 4095)=true}=>⟨[(0,.ro [.sl 1 (E cI c)]),(3,.v (.int .i64 i.1))],[]⟩) (λi=>c.length-i.1) ⟨0,by simp⟩ ?_ ?_
 .simp[Vs.LeL,Vs.look]
 .rintro⟨i,hi,hall⟩;simp -dsimp only[go_sem];refine Br.mk (λh1=>?_) λh1=>?_
  .have hlt:i<c.length:=by simpa using h1
   have hw:=aG hlt hc;simp -dsimp only[go_sem,dI hlt];refine⟨⟨by omega,by omega⟩,aB.flat (zG _ _ _) rfl ?_⟩;simp -dsimp only[go_sem];refine Br.mk (λh2=>?_) λh2=>?_
   .simp -dsimp only[go_sem];simp[iH,gU (p:=λx=>inB x 0 4095) hlt (by simpa using h2)]
   .simp -dsimp only[go_sem,hw];exact⟨⟨i+1,by omega,bD (p:=λx=>inB x 0 4095) hlt hall (by simpa using h2)⟩,by simp[Vs.LeL,Vs.look],by simp only;omega⟩
  .have hge:i=c.length:=by
    have:¬i<c.length:=by simpa using h1
    omega
   subst hge;simp -dsimp only[go_sem];refine⟨aB.flat (zG _ _ _) rfl ?_,by simp⟩;simp -dsimp only[go_sem];have:c.all (λx=>inB x 0 4095)=true:=by simpa using hall
   simp[iH,this]
end
section
variable [Vs.Envs]
attribute [local irreducible] Vs.Fn
def bE (l:List (List Int)):Bool:=l.all (λc=>iH c&&decide (c.length=(l.getD 0 []).length))&&decide (l.length<=40)
theorem dJ (l:List (List Int)) (hs:∀x,x∈l->x.length<=1048576) (hl:l.length<=1048576):Fz F.kT [.sl 1 (E cC l)] (.v (.bool (bE l))):=by
 refine fn0 Cd.s_l02Deck_k λX=>?_;simp -dsimp only[go_sem];refine aM.intro dM (λi:{i:Nat // i<=l.length∧(l.take i).all (λc=>iH c&&decide (c.length=(l.getD 0 []).length))=true}=>⟨[(0,.sl 1 (E cC l)),(3,.v (.int .i64 i.1))],[]⟩) (λi=>l.length-i.1) ⟨0,by simp⟩ ?_ ?_
 .simp[Vs.LeL,Vs.look]
 .rintro⟨i,hi,hall⟩;simp -dsimp only[go_sem];refine Br.mk (λh1=>?_) λh1=>?_
  .have hlt:i<l.length:=by simpa using h1
   have h0:0<l.length:=by omega
   have hw:=aG hlt hl;have g0:l.getD 0 []=l[0]:=by simp[List.getD,h0]
   simp -dsimp only[go_sem];refine RgK.mk rfl ?_;simp -dsimp only[go_sem,aN hlt,aN h0];refine⟨⟨by omega,by omega⟩,aB.flat (l02Ok l[i] (hs _ (Aa hlt))) rfl ?_⟩;simp -dsimp only[go_sem];refine Br.mk (λh2=>?_) λh2=>?_
   .simp -dsimp only[go_sem,h2];have e:(iH l[i]&&decide (l[i].length=(l.getD 0 []).length))=false:=by simp at h2;simp[h2]
    have hf:bE l=false:=by rw[bE,gU (p:=λc=>iH c&&decide (c.length=(l.getD 0 []).length)) hlt e];rfl
    simp[hf]
   .simp -dsimp only[go_sem,h2,aN hlt,aN h0,cC];refine⟨⟨by omega,by omega⟩,by omega,?_⟩;refine Br.mk (λh3=>?_) λh3=>?_
    .simp -dsimp only[go_sem]
     have e:(iH l[i]&&decide (l[i].length=(l.getD 0 []).length))=false:=by
      rw[g0];have:l[i].length≠l[0].length:=by simp at h3;omega
      simp[this]
     have hf:bE l=false:=by rw[bE,gU (p:=λc=>iH c&&decide (c.length=(l.getD 0 []).length)) hlt e];rfl
     simp[hf]
    .simp -dsimp only[go_sem,hw]
     have e:(iH l[i]&&decide (l[i].length=(l.getD 0 []).length))=true:=by
      rw[g0];have:l[i].length=l[0].length:=by simp at h3;omega
      simp at h2;simp[this,h2]
     exact⟨⟨i+1,by omega,bD (p:=λc=>iH c&&decide (c.length=(l.getD 0 []).length)) hlt hall e⟩,by simp[Vs.LeL,Vs.look],by simp only;omega⟩
  .have hge:i=l.length:=by
    have:¬i<l.length:=by simpa using h1
    omega
   subst hge;simp -dsimp only[go_sem];have:l.all (λc=>iH c&&decide (c.length=(l.getD 0 []).length))=true:=by simpa using hall
   rw[bE,this];simp only[CW,Value.bool.injEq,AV.v.injEq];simp;omega
theorem sizeI (l:List Int):Fz F.lQ [.sl 1 (E cI l)] (.v (.int .i64 l.length)):=by
 refine fn0 Cd.i_size_int64__k λX=>?_
 repeat' first|simp -dsimp only[go_sem]|apply Br.mk<;>intro h<;>try simp -dsimp only[h]|refine aC ?_|fail
 all_goals(simp_all)
theorem pO (c:List Int):Fz F.bW [.agg (cC c)] (.v (.int .i64 c.length)):=by
 refine fn0 Cd._i_Card__columns_k λX=>?_
 repeat' first|simp -dsimp only[go_sem,cC]|apply Br.mk<;>intro h<;>try simp -dsimp only[h]|refine aB.c (by first|exact sizeI c) ?_|refine aC ?_|fail
 all_goals(simp_all)
theorem aGf (x:Int):Fz F.eQ [.v (.int .i64 x)] (.v (.bool (!inB x 0 4095))):=by
 refine fn0 Cd.i_ValidCard_1_k λX=>?_
 repeat' first|simp -dsimp only[go_sem]|apply Br.mk<;>intro h<;>try simp -dsimp only[h]|refine aB.c (by first|exact inside _ _ _) ?_|refine aC ?_|fail
 all_goals(simp_all)
theorem idxI (l:List Int) (H:l.length<=1048576):Fz F.jK [.sl 1 (E cI l),.fn F.eQ []] (.v (.int .i64 (qD (λx=>!inB x 0 4095) l))):=
 aGJ Tryz.mixed Cd.ixf_int64_k.o Cd.ixf_int64_k.n Cd.ixf_int64_k.r rfl (λx=>!inB x 0 4095) F.eQ [] rfl (λx I=>aGf x) H
theorem conI (l:List Int) (H:l.length<=1048576):Fz F.kY [.sl 1 (E cI l),.fn F.eQ []] (.v (.bool (l.any (λx=>!inB x 0 4095)))):=
 aFV Tryz.mixed (g:=F.jK) Cd.ctf_int64_k.o Cd.ctf_int64_k.n Cd.ctf_int64_k.r rfl (λx=>!inB x 0 4095) F.eQ [] rfl (idxI l H)
theorem aK1 (l:List Int) (p:Int->Bool):(!(l.any λx=>!p x))=l.all p:=by
 induction l with
 |nil=>rfl
 |cons x r ih=>simp only[List.any_cons,BJ,Bool.not_or,Bool.not_not,ih]
theorem aId (c:List Int) (H:c.length<=1048576):Fz F.qL [.agg (cC c)] (.v (.bool (iH c))):=by
 refine fn0 Cd.i_ValidCard_k λX=>?_
 repeat' first|simp -dsimp only[go_sem,cC]|apply Br.mk<;>intro h<;>try simp -dsimp only[h]|refine aB.c (by first|exact pO c|exact inside _ _ _|exact conI c H) ?_|refine aC ?_|fail
 all_goals(first|(refine bK ?_;have e:=aK1 c (λx=>inB x 0 4095);simp_all [iH];done)|(simp_all [iH];done))
end
end Go.Proofs.YtkgeiaideklmoaaGreat
