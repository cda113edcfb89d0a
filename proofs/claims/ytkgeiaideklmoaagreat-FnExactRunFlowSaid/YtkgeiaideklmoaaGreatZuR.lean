/- Decks of samples: what the reference says, what the program says. -/
import Derived.Test.YtkgeiaideklmoaaGreatZuB
import Derived.Test.YtkgeiaideklmoaaGreatVtJ
set_option linter.all false
set_option maxHeartbeats 8000000
namespace Go.Proofs.YtkgeiaideklmoaaGreat
open Go.Vs
section
variable [Vs.Envs]
attribute [local irreducible] Vs.Fn
abbrev Tot:=ByteArray×Int
def cT (x:Tot):List AV:=[.v (.string x.1),.v (.int .i64 x.2)]
def aDM (x:Tot) (n:Int):Int:=szT x.1 n
theorem aLT (s:ByteArray) (a n:Int):Fz F.rW [.agg [.v (.string s),.v (.int .i64 a)],.v (.int .i64 n)] (.v (.int .i64 (szT s n))):=by
 refine fn0 Cd.l_szTotal_k λX=>?_
 repeat' first|simp -dsimp only[go_sem]|apply Br.mk<;>intro h<;>try simp -dsimp only[h]|refine aC ?_|fail
 all_goals(simp_all [szT]<;>omega)
theorem aHO (s:ByteArray) (a:Int):Fz F.oV [.agg [.v (.string s),.v (.int .i64 a)]] (.agg [.v (.string s),.v (.int .i64 a)]):=by
 refine fn0 Cd.l_toTotal_k λX=>?_
 repeat' first|simp -dsimp only[go_sem]|apply Br.mk<;>intro h<;>try simp -dsimp only[h]|refine aC ?_|fail
 all_goals(exact⟨_,_,rfl,rfl⟩)
theorem aMG (s:ByteArray) (a:Int):Fz F.rY [.agg [.v (.string s),.v (.int .i64 a)],.agg [.v (.string s),.v (.int .i64 a)]] (.v (.bool true)):=by
 refine fn0 Cd.l_eqTotal_k λX=>?_
 repeat' first|simp -dsimp only[go_sem]|apply Br.mk<;>intro h<;>try simp -dsimp only[h]|refine aC ?_|fail
 all_goals(simp_all)
theorem xG {x:Tot}{n:Int} (H:x.1.size<2 ^ 63) (h0:0<=n) (F:n<=1048576) (h:0<=aDM x n):aDM x n<=n:=(aEB H h0 F h).1
theorem aJY (l:List Tot) (n:Int) (L:∀x,x∈l->x.1.size<2 ^ 63) (J:l.length<2 ^ 63) (H:0<=n∧n<=1048576):Fz F.pF [.sl 2 (E cT l),.v (.int .i64 n)] (.v (.int .i64 (szL aDM l n))):=
 aGK Tryz.mixed (g:=F.rW) (k:=2) Cd.l_szTotalS_k.o Cd.l_szTotalS_k.n Cd.l_szTotalS_k.r rfl aDM (λ_=>rfl) (λ_=>rfl) (λx I n h0 H=>aLT _ _ _) (λx I n h0 H h=>xG (L x I) h0 H h) n J H
theorem aJQ (l:List Tot) (H:l.length<=1048576):Fz F.mO [.sl 2 (E cT l)] (.sl 2 (E cT l)):=
 aGH Tryz.mixed (g:=F.oV) (k:=2) (y:=24) (z:=[.v (.string ⟨#[]⟩),.v (.int .i64 (0))]) Cd.l_toTotalS_k.o Cd.l_toTotalS_k.n Cd.l_toTotalS_k.r rfl (λ_=>rfl) (by decide) rfl rfl (λ_=>rfl) (λx I=>aHO _ _) H (by decide)
theorem aLg (l:List Tot) (H:l.length<=1048576):Fz F.pG [.sl 2 (E cT l),.sl 2 (E cT l)] (.v (.bool true)):=
 aHq Tryz.mixed (g:=F.rY) (k:=2) Cd.l_eqTotalS_k.o Cd.l_eqTotalS_k.n Cd.l_eqTotalS_k.r rfl (λ_=>rfl) (λ_=>rfl) (λx I=>aMG _ _) H
theorem aLQ (a b:Int):Fz F.rV [.agg [.v (.int .i64 a),.v (.int .i64 b)]] (.agg [.v (.int .i64 a),.v (.int .i64 b)]):=by
 refine fn0 Cd.l_toField_k λX=>?_
 repeat' first|simp -dsimp only[go_sem]|apply Br.mk<;>intro h<;>try simp -dsimp only[h]|refine aC ?_|fail
 all_goals(exact⟨_,_,rfl,rfl⟩)
theorem aMJ (a b:Int):Fz F.rZ [.agg [.v (.int .i64 a),.v (.int .i64 b)],.agg [.v (.int .i64 a),.v (.int .i64 b)]] (.v (.bool true)):=by
 refine fn0 Cd.l_eqField_k λX=>?_
 repeat' first|simp -dsimp only[go_sem]|apply Br.mk<;>intro h<;>try simp -dsimp only[h]|refine aC ?_|fail
 all_goals(simp_all)
structure Stp where
 kind:Int
 a:Int
 b:Int
 to:Int
 f0:Int
 f1:Int
 s0:Int
 s1:Int
 text:ByteArray
def cS (x:Stp):List AV:=[.v (.int .i64 x.kind),.v (.int .i64 x.a),.v (.int .i64 x.b),.v (.int .i64 x.to),.v (.int .i64 x.f0),.v (.int .i64 x.f1),.v (.int .i64 x.s0),.v (.int .i64 x.s1),.v (.string x.text)]
def uO (x:Stp) (n:Int):Int:=szT x.text n
theorem aFl {x:Stp}{n:Int} (H:x.text.size<2 ^ 63) (h0:0<=n) (F:n<=1048576) (h:0<=uO x n):uO x n<=n:=(aEB H h0 F h).1
theorem aNr (x:Stp) (n:Int):Fz F.vD [.agg (cS x),.v (.int .i64 n)] (.v (.int .i64 (uO x n))):=by
 refine fn0 Cd.l_szStep_k λX=>?_
 repeat' first|simp -dsimp only[go_sem,cS]|apply Br.mk<;>intro h<;>try simp -dsimp only[h]|refine aC ?_|fail
 all_goals(simp_all [uO,szT]<;>omega)
theorem aJT (x:Stp):Fz F.sQ [.agg (cS x)] (.agg (cS x)):=by
 refine fn0 Cd.l_toStep_k λX=>?_
 repeat' first|simp -dsimp only[go_sem,cS]|apply Br.mk<;>intro h<;>try simp -dsimp only[h]|refine aB.c (by first|exact aLQ _ _) ?_|refine aC ?_|fail
 all_goals(exact⟨_,_,rfl,rfl⟩)
theorem aN0 (x:Stp):Fz F.vG [.agg (cS x),.agg (cS x)] (.v (.bool true)):=by
 refine fn0 Cd.l_eqStep_k λX=>?_
 repeat' first|simp -dsimp only[go_sem,cS]|apply Br.mk<;>intro h<;>try simp -dsimp only[h]|refine aB.c (by first|exact aMJ _ _) ?_|refine aC ?_|fail
 all_goals(simp_all)
theorem aHQ (l:List Stp) (n:Int) (L:∀x,x∈l->x.text.size<2 ^ 63) (J:l.length<2 ^ 63) (H:0<=n∧n<=1048576):Fz F.vC [.sl 9 (E cS l),.v (.int .i64 n)] (.v (.int .i64 (szL uO l n))):=
 aGK Tryz.mixed (g:=F.vD) (k:=9) Cd.l_szStepS_k.o Cd.l_szStepS_k.n Cd.l_szStepS_k.r rfl uO (λ_=>rfl) (λ_=>rfl) (λx I n h0 H=>aNr _ _) (λx I n h0 H h=>aFl (L x I) h0 H h) n J H
theorem aEA (l:List Stp) (H:l.length<=1048576):Fz F.lD [.sl 9 (E cS l)] (.sl 9 (E cS l)):=
 aGH Tryz.mixed (g:=F.sQ) (k:=9) (y:=80) (z:=[.v (.int .i64 (0)),.v (.int .i64 (0)),.v (.int .i64 (0)),.v (.int .i64 (0)),.v (.int .i64 (0)),.v (.int .i64 (0)),.v (.int .i64 (0)),.v (.int .i64 (0)),.v (.string ⟨#[]⟩)]) Cd.l_toStepS_k.o Cd.l_toStepS_k.n Cd.l_toStepS_k.r rfl (λ_=>rfl) (by decide) rfl rfl (λ_=>rfl) (λx I=>aJT _) H (by decide)
theorem aMI (l:List Stp) (H:l.length<=1048576):Fz F.vF [.sl 9 (E cS l),.sl 9 (E cS l)] (.v (.bool true)):=
 aHq Tryz.mixed (g:=F.vG) (k:=9) Cd.l_eqStepS_k.o Cd.l_eqStepS_k.n Cd.l_eqStepS_k.r rfl (λ_=>rfl) (λ_=>rfl) (λx I=>aN0 _) H
end
section
variable [Vs.Envs]
attribute [local irreducible] Vs.Fn
theorem u64_nonneg (n:Int):0<=IntKind.u64.wrap n:=by
 simp only[IntKind.wrap,IntKind.bits,IntKind.signed,Bool.false_and,AR,Bd];exact Int.emod_nonneg _ (by decide)
def aDp (r:Int):Int:=if r=12 then 1 else if r=11 then 2 else if inB r 0 9 then W (4*2 ^ (min (IntKind.u64.wrap r).toNat 64)) else 0
def aBO (n:Int):Bool:=decide (n≥48)&&decide (n<=57)
def btw (n a b:Int):Bool:=decide (n≥a)&&decide (n<=b)
def orI (a b:Int):Int:=pU .or .i64 a b
def l03 (n:Int):Int:=
 if n=32 then 0 else if n=38 then 1 else if n=45 then 2 else if n=47 then orI 4 (aDp 1) else if aBO n then aDp (W (W n-48))
 else if btw n 65 73 then orI 1 (aDp (W (W (W n-65)+1))) else if btw n 74 82 then orI 2 (aDp (W (W (W n-74)+1))) else if btw n 83 90 then orI 4 (aDp (W (W (W n-83)+2))) else -1
def CH:ByteArray:=⟨#[32,38,65,66,67,68,69,70,71,72,73,45,74,75,76,77,78,79,80,81,82,47,83,84,85,86,87,88,89,90,48,49,50,51,52,53,54,55,56,57]⟩
def bK (n:Int):Bool:=decide (zF CH n≥0)
set_option maxRecDepth 100000 in
theorem aN6:∀n:Nat,n<256->bK (n:Int)=decide (l03 (n:Int)≥0):=by decide +kernel
def aO (s:ByteArray):Bool:=s.data.toList.all λb=>bK b.toNat
theorem aMx (r:Int):Fz F.kC [.v (.int .i64 r)] (.v (.int .i64 (aDp r))):=by
 refine fn0 Cd.s_l02Bit_k λX=>?_
 repeat' first|simp -dsimp only[go_sem]|apply Br.mk<;>intro h<;>try simp -dsimp only[h]|refine RgK.mk rfl ?_|refine aB.c (by first|exact zX _ _ _) ?_|refine And.intro (by first|rfl|omega|decide|exact u64_nonneg _|(refine⟨?_,?_⟩<;>(first|rfl|omega|decide|exact u64_nonneg _))|(refine⟨?_,?_,?_⟩<;>(first|rfl|omega|decide|exact u64_nonneg _))|(refine⟨?_,?_,?_,?_⟩<;>(first|rfl|omega|decide|exact u64_nonneg _))) ?_|fail
 all_goals(simp_all [aDp,IntKind.bits,u64_nonneg])
theorem aKZ (n:Int):Fz F.sJ [.v (.int .u8 n)] (.v (.bool (aBO n))):=by
 refine fn0 Cd.s_l01Digit_k λX=>?_
 repeat' first|simp -dsimp only[go_sem]|apply Br.mk<;>intro h<;>try simp -dsimp only[h]|refine aC ?_|fail
 all_goals(first|(simp_all [aBO];done)|(simp_all [aBO];omega))
theorem aEX (n:Int):Fz F.rT [.v (.int .u8 n)] (.v (.int .i64 (l03 n))):=by
 refine fn0 Cd.s_l03Code_k λX=>?_
 repeat' first|simp -dsimp only[go_sem]|apply Br.mk<;>intro h<;>try simp -dsimp only[h]|refine aB.c (by first|exact aMx _|exact aKZ _) ?_|refine aC ?_|fail
 all_goals(first|(simp_all [l03,btw,orI];done)|(refine bN ?_;grind [l03,btw,orI]))
theorem aKd (s:ByteArray) (n:Int):Fz F.bQ [.v (.string s),.v (.int .u8 n)] (.v (.int .i64 (zF s n))):=by
 refine fn0 Cd.internal_stringslite_IndexByte_k λX=>?_
 repeat' first|simp -dsimp only[go_sem]|apply Br.mk<;>intro h<;>try simp -dsimp only[h]|refine aC ?_|fail
 all_goals(simp_all)
theorem aNu (s:ByteArray) (n:Int):Fz F.strings_IndexByte [.v (.string s),.v (.int .u8 n)] (.v (.int .i64 (zF s n))):=by
 refine fn0 Cd.strings_IndexByte_k λX=>?_
 repeat' first|simp -dsimp only[go_sem]|apply Br.mk<;>intro h<;>try simp -dsimp only[h]|refine aB.c (by first|exact aKd _ _) ?_|refine aC ?_|fail
 all_goals(simp_all)
theorem aF5 (n:Int):Fz F.l5 [.v (.int .u8 n)] (.v (.bool (bK n))):=by
 refine fn0 Cd.i_isCharacter_k λX=>?_
 repeat' first|simp -dsimp only[go_sem]|apply Br.mk<;>intro h<;>try simp -dsimp only[h]|refine aB.c (by first|exact aNu _ _) ?_|refine aC ?_|fail
 all_goals(simp_all [bK,CH])
def bL (s:ByteArray) (i:Nat):Bool:=(s.data.toList.take i).all λb=>bK b.toNat
def bM (s:ByteArray) (i:Nat):Bool:=bK (s.data.toList.getD i 0).toNat
theorem aEl {s:ByteArray}{i:Nat} (h:i<s.size):bL s (i+1)=(bL s i&&bM s i):=by
 have F:i<s.data.toList.length:=h;unfold bL bM;rw[aY F,List.all_append,A8,Ba F];simp
theorem aGr (s:ByteArray):bL s s.size=aO s:=by
 unfold bL aO;rw[show s.size=s.data.toList.length from rfl,Bv]
theorem aDj {s:ByteArray}{i:Nat} (h:i<s.size) (h2:bM s i=false):aO s=false:=by
 have F:i<s.data.toList.length:=h;unfold bM at h2;rw[A8,Ba F] at h2;exact gY (p:=λb:UInt8=>bK b.toNat) F h2
theorem aLw (s:ByteArray) (i:Nat):bM s i=decide (l03 (s.data.toList.getD i 0).toNat≥0):=aN6 _ (UInt8.toNat_lt _)
theorem aMO (s:ByteArray) (i:Nat):bK (s.data.toList.getD i 0).toNat=bM s i:=rfl
attribute [local irreducible] bK aO bL bM l03
theorem uM (s:ByteArray) (hs:s.size<=1048576):Fz F.gU [.v (.string s)] (.v (.bool (aO s))):=by
 refine fn0 Cd.i_areCharacters_k λX=>?_;simp -dsimp only[go_sem];refine aM.intro dM (λi:{i:Nat // i<=s.size∧bL s i=true}=>⟨[(0,.v (.string s)),(3,.v (.int .i64 i.1))],[]⟩) (λi=>s.size-i.1) ⟨0,by simp[bL]⟩ ?_ ?_
 .simp[Vs.LeL,Vs.look]
 .rintro⟨i,hi,hall⟩;simp -dsimp only[go_sem];refine Br.mk (λh1=>?_) λh1=>?_
  .have hlt:i<s.size:=by simpa using h1
   have hw:=aG hlt hs;simp -dsimp only[go_sem];refine⟨⟨by omega,by omega⟩,aB.flat (aF5 _) rfl ?_⟩;simp -dsimp only[aMO];simp -dsimp only[go_sem];refine Br.mk (λh2=>?_) λh2=>?_
   .simp -dsimp only[go_sem];simp[aDj hlt (by simpa using h2)]
   .simp -dsimp only[go_sem,hw];exact⟨⟨i+1,by omega,by rw[aEl hlt,hall];simpa using h2⟩,by simp[Vs.LeL,Vs.look],by simp only;omega⟩
  .have hge:i=s.size:=by
    have:¬i<s.size:=by simpa using h1
    omega
   subst hge;simp -dsimp only[go_sem];simp[←aGr,hall]
def l09 (s:ByteArray) (a b:Int):Int:=if(s.size:Int)≠W (b-a) then 2 else if aO s then 0 else 7
theorem aIl (s:ByteArray) (a b:Int) (hs:s.size<=1048576):Fz F.rQ [.v (.string s),.agg [.v (.int .i64 a),.v (.int .i64 b)]] (.v (.int .i64 (l09 s a b))):=by
 refine fn0 Cd.s_l09Text_k λX=>?_;simp -dsimp only[go_sem];refine Br.mk (λh0=>?_) λh0=>?_
 .simp -dsimp only[go_sem];have:(s.size:Int)≠W (b-a):=by simpa using h0
  simp[l09,this]
 .simp -dsimp only[go_sem];have hsz:(s.size:Int)=W (b-a):=by simpa using h0
  refine aM.intro dM (λi:{i:Nat // i<=s.size∧bL s i=true}=>⟨[(0,.v (.string s)),(5,.v (.int .i64 i.1))],[]⟩) (λi=>s.size-i.1) ⟨0,by simp[bL]⟩ ?_ ?_
  .simp[Vs.LeL,Vs.look]
  .rintro⟨i,hi,hall⟩;simp -dsimp only[go_sem];refine Br.mk (λh1=>?_) λh1=>?_
   .have hlt:i<s.size:=by simpa using h1
    have hw:=aG hlt hs;simp -dsimp only[go_sem];refine⟨⟨by omega,by omega⟩,aB.flat (aEX _) rfl ?_⟩;have hch:=aLw s i;simp -dsimp only[go_sem];refine Br.mk (λh2=>?_) λh2=>?_
    .simp -dsimp only[go_sem];simp only[Bb] at h2;have h3:bM s i=false:=by rw[hch,BC];omega
     simp[l09,hsz,aDj hlt h3]
    .simp -dsimp only[go_sem,hw];simp only[BC] at h2;have h3:bM s i=true:=by rw[hch,Bb];omega
     exact⟨⟨i+1,by omega,by rw[aEl hlt,hall,h3];rfl⟩,by simp[Vs.LeL,Vs.look],by simp only;omega⟩
   .have hge:i=s.size:=by
     have:¬i<s.size:=by simpa using h1
     omega
    subst hge;simp -dsimp only[go_sem];have:aO s=true:=by rw[←aGr,hall]
    simp[l09,hsz,this]
def dZ (a b w:Int):Bool:=decide (0<=a)&&(decide (a<b)&&decide (b<=w))
def zT (a b w:Int):Bool:=dZ a b w&&decide (W (b-a)<=12)
theorem wP (a b w:Int):Fz F.nE [.agg [.v (.int .i64 a),.v (.int .i64 b)],.v (.int .i64 w)] (.v (.bool (dZ a b w))):=by
 refine fn0 Cd.i_isField_k λX=>?_
 repeat' first|simp -dsimp only[go_sem]|apply Br.mk<;>intro h<;>try simp -dsimp only[h]|refine aC ?_|fail
 all_goals(first|(simp_all [dZ];done)|(simp_all [dZ];omega)|(refine bN ?_;grind [dZ]))
theorem fA (a b w:Int):Fz F.gK [.agg [.v (.int .i64 a),.v (.int .i64 b)],.v (.int .i64 w)] (.v (.bool (dZ a b w))):=by
 refine fn0 Cd.s_l02Field_k λX=>?_
 repeat' first|simp -dsimp only[go_sem]|apply Br.mk<;>intro h<;>try simp -dsimp only[h]|refine aC ?_|fail
 all_goals(first|(simp_all [dZ];done)|(simp_all [dZ];omega)|(refine bN ?_;grind [dZ]))
theorem aDE (a b w:Int):Fz F.jF [.agg [.v (.int .i64 a),.v (.int .i64 b)],.v (.int .i64 w)] (.v (.bool (zT a b w))):=by
 refine fn0 Cd.i_isNumberField_k λX=>?_
 repeat' first|simp -dsimp only[go_sem]|apply Br.mk<;>intro h<;>try simp -dsimp only[h]|refine aB.c (by first|exact wP _ _ _) ?_|refine aC ?_|fail
 all_goals(first|(simp_all [zT];done)|(refine bN ?_;grind [zT]))
theorem aMs (n:Int):Fz F.oH [.v (.int .i64 n)] (.v (.bool (inB n 0 5))):=by
 refine fn0 Cd.s_l15Tray_k λX=>?_
 repeat' first|simp -dsimp only[go_sem]|apply Br.mk<;>intro h<;>try simp -dsimp only[h]|refine aB.c (by first|exact zX _ _ _|exact inside _ _ _) ?_|refine aC ?_|fail
 all_goals(simp_all)
theorem aNV (n:Int):Fz F.tK [.v (.int .i64 n)] (.v (.bool (inB n 0 5))):=by
 refine fn0 Cd.i_isTray_k λX=>?_
 repeat' first|simp -dsimp only[go_sem]|apply Br.mk<;>intro h<;>try simp -dsimp only[h]|refine aB.c (by first|exact zX _ _ _|exact inside _ _ _) ?_|refine aC ?_|fail
 all_goals(simp_all)
theorem aMv (n:Int):Fz F.uT [.v (.int .i64 n)] (.v (.bool (inB n 2 4))):=by
 refine fn0 Cd.s_l15Both_k λX=>?_
 repeat' first|simp -dsimp only[go_sem]|apply Br.mk<;>intro h<;>try simp -dsimp only[h]|refine aB.c (by first|exact zX _ _ _|exact inside _ _ _) ?_|refine aC ?_|fail
 all_goals(simp_all)
theorem aJX (n:Int):Fz F.tH [.v (.int .i64 n)] (.v (.bool (inB n 2 4))):=by
 refine fn0 Cd.i_takesTwo_k λX=>?_
 repeat' first|simp -dsimp only[go_sem]|apply Br.mk<;>intro h<;>try simp -dsimp only[h]|refine aB.c (by first|exact zX _ _ _|exact inside _ _ _) ?_|refine aC ?_|fail
 all_goals(simp_all)
structure Spc where
 w0:Int
 w1:Int
 text:ByteArray
 g0:Int
 g1:Int
 s0:Int
 s1:Int
def cP (x:Spc):List AV:=[.v (.int .i64 x.w0),.v (.int .i64 x.w1),.v (.string x.text),.v (.int .i64 x.g0),.v (.int .i64 x.g1),.v (.int .i64 x.s0),.v (.int .i64 x.s1)]
def aBp (s:ByteArray):Bool:=s.toList==(⟨#[]⟩:ByteArray).toList
theorem aKU (s:ByteArray) (a b:Int):(l09 s a b==0)=(aO s&&((s.size:Int)==W (b-a))):=by
 unfold l09;by_cases h:(s.size:Int)=W (b-a)
 .cases h2:aO s<;>simp[h]
 .cases h2:aO s<;>simp[h]
end
section
variable [Vs.Envs]
attribute [local irreducible] Vs.Fn
def cC (c:List Int):List AV:=[.sl 1 (E cI c)]
def cD (d:List (List Int)):List AV:=[.sl 1 (E cC d)]
theorem aJ1 (l:List Int) (n:Int):Fz F.sU [.sl 1 (E cI l),.v (.int .i64 n)] (.v (.int .i64 (szI l n))):=
 aNs Tryz.mixed Cd.l_szInt64S_k.o Cd.l_szInt64S_k.n Cd.l_szInt64S_k.r rfl l n
theorem aJV {l:List Int} (H:l.length<=1048576):Fz F.oZ [.sl 1 (E cI l)] (.sl 1 (E cI l)):=
 aNp Tryz.mixed Cd.l_toInt64S_k.o Cd.l_toInt64S_k.n Cd.l_toInt64S_k.r rfl H
theorem aLi {l:List Int} (H:l.length<=1048576):Fz F.sZ [.sl 1 (E cI l),.sl 1 (E cI l)] (.v (.bool true)):=
 aN1 Tryz.mixed Cd.l_eqInt64S_k.o Cd.l_eqInt64S_k.n Cd.l_eqInt64S_k.r rfl H
theorem aHS {l:List Int}{n:Int} (h:szI l n<0):szI l n=-1:=by
 unfold szI at h⊢;split
 .rfl
 .rename_i F;rw[AB F] at h;exact absurd h F
theorem aNt (c:List Int) (n:Int):Fz F.vE [.agg (cC c),.v (.int .i64 n)] (.v (.int .i64 (szI c n))):=by
 refine fn0 Cd.l_szCard_k λX=>?_
 repeat' first|simp -dsimp only[go_sem,cC]|apply Br.mk<;>intro h<;>try simp -dsimp only[h]|refine aB.c (by first|exact aJ1 c _) ?_|refine aC ?_|fail
 all_goals(first|(simp_all [aHS];done)|(refine bN ?_;rw[aHS (by simpa using by assumption)]))
theorem aLW (l:List (List Int)) (n:Int) (J:∀x,x∈l->x.length<2 ^ 63) (I:l.length<2 ^ 63) (H:0<=n∧n<=1048576):Fz F.rX [.sl 1 (E cC l),.v (.int .i64 n)] (.v (.int .i64 (szL szI l n))):=
 aGK Tryz.mixed (k:=1) (c:=cC) (g:=F.vE) Cd.l_szCardS_k.o Cd.l_szCardS_k.n Cd.l_szCardS_k.r rfl szI (λ_=>rfl) (λ_=>rfl) (λx _ n _ _=>aNt x n) (λx L n h0 H h=>(aGM (J x L) h0 H h).1) n I H
theorem aNq (c:List Int) (H:c.length<=1048576):Fz F.nQ [.agg (cC c)] (.agg (cC c)):=by
 refine fn0 Cd.l_toCard_k λX=>?_
 repeat' first|simp -dsimp only[go_sem,cC]|apply Br.mk<;>intro h<;>try simp -dsimp only[h]|refine aB.c (by first|exact aJV H) ?_|refine aC ?_|fail
 all_goals(exact⟨_,_,rfl,rfl⟩)
theorem aLR (l:List (List Int)) (I:∀x,x∈l->x.length<=1048576) (H:l.length<=1048576):Fz F.jL [.sl 1 (E cC l)] (.sl 1 (E cC l)):=
 aGH Tryz.mixed (k:=1) (y:=24) (c:=cC) (z:=[.v (.slice none 0 0)]) (g:=F.nQ) Cd.l_toCardS_k.o Cd.l_toCardS_k.n Cd.l_toCardS_k.r rfl (λ_=>rfl) (by omega) rfl rfl (λ_=>rfl) (λx J=>aNq x (I x J)) H (by omega)
theorem aN2 (c:List Int) (H:c.length<=1048576):Fz F.vH [.agg (cC c),.agg (cC c)] (.v (.bool true)):=by
 refine fn0 Cd.l_eqCard_k λX=>?_
 repeat' first|simp -dsimp only[go_sem,cC]|apply Br.mk<;>intro h<;>try simp -dsimp only[h]|refine aB.c (by first|exact aLi H) ?_|refine aC ?_|fail
 all_goals(simp_all)
theorem aMK (l:List (List Int)) (I:∀x,x∈l->x.length<=1048576) (H:l.length<=1048576):Fz F.r9 [.sl 1 (E cC l),.sl 1 (E cC l)] (.v (.bool true)):=
 aHq Tryz.mixed (k:=1) (c:=cC) (g:=F.vH) Cd.l_eqCardS_k.o Cd.l_eqCardS_k.n Cd.l_eqCardS_k.r rfl (λ_=>rfl) (λ_=>rfl) (λx J=>aN2 x (I x J)) H
def iL (c:List Int):Bool:=c.all (λx=>inB x 0 4095)&&inB c.length 1 20
theorem l02Ok (c:List Int) (hc:c.length<=1048576):Fz F.aAF [.ro (cC c)] (.v (.bool (iL c))):=by
 refine fn0 Cd.s_l02Ok_k λX=>?_;simp -dsimp only[go_sem,cC];refine aM.intro dM (λi:{i:Nat // i<=c.length∧(c.take i).all (λx=>inB x 0 4095)=true}=>⟨[(0,.ro [.sl 1 (E cI c)]),(3,.v (.int .i64 i.1))],[]⟩) (λi=>c.length-i.1) ⟨0,by simp⟩ ?_ ?_
 .simp[Vs.LeL,Vs.look]
 .rintro⟨i,hi,hall⟩;simp -dsimp only[go_sem];refine Br.mk (λh1=>?_) λh1=>?_
  .have hlt:i<c.length:=by simpa using h1
   have hw:=aG hlt hc;simp -dsimp only[go_sem,dJ hlt];refine⟨⟨by omega,by omega⟩,aB.flat (zX _ _ _) rfl ?_⟩;simp -dsimp only[go_sem];refine Br.mk (λh2=>?_) λh2=>?_
   .simp -dsimp only[go_sem];simp[iL,gY (p:=λx=>inB x 0 4095) hlt (by simpa using h2)]
   .simp -dsimp only[go_sem,hw];exact⟨⟨i+1,by omega,bD (p:=λx=>inB x 0 4095) hlt hall (by simpa using h2)⟩,by simp[Vs.LeL,Vs.look],by simp only;omega⟩
  .have hge:i=c.length:=by
    have:¬i<c.length:=by simpa using h1
    omega
   subst hge;simp -dsimp only[go_sem];refine⟨aB.flat (zX _ _ _) rfl ?_,by simp⟩;simp -dsimp only[go_sem];have:c.all (λx=>inB x 0 4095)=true:=by simpa using hall
   simp[iL,this]
end
section
variable [Vs.Envs]
attribute [local irreducible] Vs.Fn
def bF (l:List (List Int)):Bool:=l.all (λc=>iL c&&decide (c.length=(l.getD 0 []).length))&&decide (l.length<=40)
theorem dK (l:List (List Int)) (hs:∀x,x∈l->x.length<=1048576) (hl:l.length<=1048576):Fz F.kZ [.sl 1 (E cC l)] (.v (.bool (bF l))):=by
 refine fn0 Cd.s_l02Deck_k λX=>?_;simp -dsimp only[go_sem];refine aM.intro dM (λi:{i:Nat // i<=l.length∧(l.take i).all (λc=>iL c&&decide (c.length=(l.getD 0 []).length))=true}=>⟨[(0,.sl 1 (E cC l)),(3,.v (.int .i64 i.1))],[]⟩) (λi=>l.length-i.1) ⟨0,by simp⟩ ?_ ?_
 .simp[Vs.LeL,Vs.look]
 .rintro⟨i,hi,hall⟩;simp -dsimp only[go_sem];refine Br.mk (λh1=>?_) λh1=>?_
  .have hlt:i<l.length:=by simpa using h1
   have h0:0<l.length:=by omega
   have hw:=aG hlt hl;have g0:l.getD 0 []=l[0]:=by simp[List.getD,h0]
   simp -dsimp only[go_sem];refine RgK.mk rfl ?_;simp -dsimp only[go_sem,aN hlt,aN h0];refine⟨⟨by omega,by omega⟩,aB.flat (l02Ok l[i] (hs _ (Aa hlt))) rfl ?_⟩;simp -dsimp only[go_sem];refine Br.mk (λh2=>?_) λh2=>?_
   .simp -dsimp only[go_sem,h2];have e:(iL l[i]&&decide (l[i].length=(l.getD 0 []).length))=false:=by simp at h2;simp[h2]
    have hf:bF l=false:=by rw[bF,gY (p:=λc=>iL c&&decide (c.length=(l.getD 0 []).length)) hlt e];rfl
    simp[hf]
   .simp -dsimp only[go_sem,h2,aN hlt,aN h0,cC];refine⟨⟨by omega,by omega⟩,by omega,?_⟩;refine Br.mk (λh3=>?_) λh3=>?_
    .simp -dsimp only[go_sem]
     have e:(iL l[i]&&decide (l[i].length=(l.getD 0 []).length))=false:=by
      rw[g0];have:l[i].length≠l[0].length:=by simp at h3;omega
      simp[this]
     have hf:bF l=false:=by rw[bF,gY (p:=λc=>iL c&&decide (c.length=(l.getD 0 []).length)) hlt e];rfl
     simp[hf]
    .simp -dsimp only[go_sem,hw]
     have e:(iL l[i]&&decide (l[i].length=(l.getD 0 []).length))=true:=by
      rw[g0];have:l[i].length=l[0].length:=by simp at h3;omega
      simp at h2;simp[this,h2]
     exact⟨⟨i+1,by omega,bD (p:=λc=>iL c&&decide (c.length=(l.getD 0 []).length)) hlt hall e⟩,by simp[Vs.LeL,Vs.look],by simp only;omega⟩
  .have hge:i=l.length:=by
    have:¬i<l.length:=by simpa using h1
    omega
   subst hge;simp -dsimp only[go_sem];have:l.all (λc=>iL c&&decide (c.length=(l.getD 0 []).length))=true:=by simpa using hall
   rw[bF,this];simp only[CX,Value.bool.injEq,AV.v.injEq];simp;omega
theorem sizeI (l:List Int):Fz F.lZ [.sl 1 (E cI l)] (.v (.int .i64 l.length)):=by
 refine fn0 Cd.i_size_int64__k λX=>?_
 repeat' first|simp -dsimp only[go_sem]|apply Br.mk<;>intro h<;>try simp -dsimp only[h]|refine aC ?_|fail
 all_goals(simp_all)
theorem pX (c:List Int):Fz F.bY [.agg (cC c)] (.v (.int .i64 c.length)):=by
 refine fn0 Cd._i_Card__columns_k λX=>?_
 repeat' first|simp -dsimp only[go_sem,cC]|apply Br.mk<;>intro h<;>try simp -dsimp only[h]|refine aB.c (by first|exact sizeI c) ?_|refine aC ?_|fail
 all_goals(simp_all)
theorem aGF (x:Int):Fz F.eU [.v (.int .i64 x)] (.v (.bool (!inB x 0 4095))):=by
 refine fn0 Cd.i_ValidCard_1_k λX=>?_
 repeat' first|simp -dsimp only[go_sem]|apply Br.mk<;>intro h<;>try simp -dsimp only[h]|refine aB.c (by first|exact inside _ _ _) ?_|refine aC ?_|fail
 all_goals(simp_all)
theorem idxI (l:List Int) (H:l.length<=1048576):Fz F.jM [.sl 1 (E cI l),.fn F.eU []] (.v (.int .i64 (qI (λx=>!inB x 0 4095) l))):=
 aHb Tryz.mixed Cd.ixf_int64_k.o Cd.ixf_int64_k.n Cd.ixf_int64_k.r rfl (λx=>!inB x 0 4095) F.eU [] rfl (λx I=>aGF x) H
theorem conI (l:List Int) (H:l.length<=1048576):Fz F.lI [.sl 1 (E cI l),.fn F.eU []] (.v (.bool (l.any (λx=>!inB x 0 4095)))):=
 aGl Tryz.mixed (g:=F.jM) Cd.ctf_int64_k.o Cd.ctf_int64_k.n Cd.ctf_int64_k.r rfl (λx=>!inB x 0 4095) F.eU [] rfl (idxI l H)
theorem aLF (l:List Int) (p:Int->Bool):(!(l.any λx=>!p x))=l.all p:=by
 induction l with
 |nil=>rfl
 |cons x r ih=>simp only[List.any_cons,BK,Bool.not_or,Bool.not_not,ih]
theorem aIO (c:List Int) (H:c.length<=1048576):Fz F.qQ [.agg (cC c)] (.v (.bool (iL c))):=by
 refine fn0 Cd.i_ValidCard_k λX=>?_
 repeat' first|simp -dsimp only[go_sem,cC]|apply Br.mk<;>intro h<;>try simp -dsimp only[h]|refine aB.c (by first|exact pX c|exact inside _ _ _|exact conI c H) ?_|refine aC ?_|fail
 all_goals(first|(refine bN ?_;have e:=aLF c (λx=>inB x 0 4095);simp_all [iL];done)|(simp_all [iL];done))
end
end Go.Proofs.YtkgeiaideklmoaaGreat
