/- Decks of samples: what the reference says, what the program says. -/
import Derived.Test.YtkgeiaideklmoaaGreatZuB
import Derived.Test.YtkgeiaideklmoaaGreatVtJ
set_option linter.all false
set_option maxHeartbeats 8000000
namespace Go.Proofs.YtkgeiaideklmoaaGreat
open Go.Vs
section
variable [Vs.Envs]
attribute [local irreducible] Vs.Fn
abbrev Tot:=ByteArray×Int
def cT (x:Tot):List AV:=[.v (.string x.1),.v (.int .i64 x.2)]
theorem aKF (s:ByteArray) (a:Int):Fz F.qD [.agg [.v (.string s),.v (.int .i64 a)],.agg [.v (.string s),.v (.int .i64 a)]] (.v (.bool true)):=by
 refine fn0 Cd.l_eqTotal_k fun X=>?_
 repeat' first|simp -dsimp only[go_sem]|apply Br.mk<;>intro h<;>try simp -dsimp only[h]|refine aC ?_|fail
 all_goals(simp_all)
theorem aJk (l:List Tot) (G:l.length≤1048576):Fz F.iN [.sl 2 (E cT l),.sl 2 (E cT l)] (.v (.bool true)):=
 aFV Tryz.mixed (g:=F.qD) (k:=2) Cd.l_eqTotalS_k.o Cd.l_eqTotalS_k.n Cd.l_eqTotalS_k.r rfl (fun _=>rfl) (fun _=>rfl) (fun x H=>aKF _ _) G
theorem aJT (a b:Int):Fz F.qC [.agg [.v (.int .i64 a),.v (.int .i64 b)]] (.agg [.v (.int .i64 a),.v (.int .i64 b)]):=by
 refine fn0 Cd.l_toField_k fun X=>?_
 repeat' first|simp -dsimp only[go_sem]|apply Br.mk<;>intro h<;>try simp -dsimp only[h]|refine aC ?_|fail
 all_goals(exact⟨_,_,rfl,rfl⟩)
theorem aKH (a b:Int):Fz F.qE [.agg [.v (.int .i64 a),.v (.int .i64 b)],.agg [.v (.int .i64 a),.v (.int .i64 b)]] (.v (.bool true)):=by
 refine fn0 Cd.l_eqField_k fun X=>?_
 repeat' first|simp -dsimp only[go_sem]|apply Br.mk<;>intro h<;>try simp -dsimp only[h]|refine aC ?_|fail
 all_goals(simp_all)
structure Stp where
 kind:Int
 a:Int
 b:Int
 to:Int
 f0:Int
 f1:Int
 s0:Int
 s1:Int
 text:ByteArray
def cS (x:Stp):List AV:=[.v (.int .i64 x.kind),.v (.int .i64 x.a),.v (.int .i64 x.b),.v (.int .i64 x.to),.v (.int .i64 x.f0),.v (.int .i64 x.f1),.v (.int .i64 x.s0),.v (.int .i64 x.s1),.v (.string x.text)]
def aAW (x:Stp) (n:Int):Int:=szT x.text n
theorem vO {x:Stp}{n:Int} (H:x.text.size<2 ^ 63) (F:0≤n) (G:n≤1048576) (h:0≤aAW x n):aAW x n≤n:=(aFm H F G h).1
theorem aLj (x:Stp) (n:Int):Fz F.tJ [.agg (cS x),.v (.int .i64 n)] (.v (.int .i64 (aAW x n))):=by
 refine fn0 Cd.l_szStep_k fun X=>?_
 repeat' first|simp -dsimp only[go_sem,cS]|apply Br.mk<;>intro h<;>try simp -dsimp only[h]|refine aC ?_|fail
 all_goals(simp_all [aAW,szT]<;>omega)
theorem aH3 (x:Stp):Fz F.qW [.agg (cS x)] (.agg (cS x)):=by
 refine fn0 Cd.l_toStep_k fun X=>?_
 repeat' first|simp -dsimp only[go_sem,cS]|apply Br.mk<;>intro h<;>try simp -dsimp only[h]|refine aD.c (by first|exact aJT _ _) ?_|refine aC ?_|fail
 all_goals(exact⟨_,_,rfl,rfl⟩)
theorem aLJ (x:Stp):Fz F.tO [.agg (cS x),.agg (cS x)] (.v (.bool true)):=by
 refine fn0 Cd.l_eqStep_k fun X=>?_
 repeat' first|simp -dsimp only[go_sem,cS]|apply Br.mk<;>intro h<;>try simp -dsimp only[h]|refine aD.c (by first|exact aKH _ _) ?_|refine aC ?_|fail
 all_goals(simp_all)
theorem aGl (l:List Stp) (n:Int) (L:∀x,x∈l→x.text.size<2 ^ 63) (J:l.length<2 ^ 63) (G:0≤n∧n≤1048576):Fz F.tH [.sl 9 (E cS l),.v (.int .i64 n)] (.v (.int .i64 (szL aAW l n))):=
 aH7 Tryz.mixed (g:=F.tJ) (k:=9) Cd.l_szStepS_k.o Cd.l_szStepS_k.n Cd.l_szStepS_k.r rfl aAW (fun _=>rfl) (fun _=>rfl) (fun x I n H G=>aLj _ _) (fun x I n H G h=>vO (L x I) H G h) n J G
theorem aBg (l:List Stp) (G:l.length≤1048576):Fz F.kI [.sl 9 (E cS l)] (.sl 9 (E cS l)):=
 aH4 Tryz.mixed (g:=F.qW) (k:=9) (y:=80) (z:=[.v (.int .i64 (0)),.v (.int .i64 (0)),.v (.int .i64 (0)),.v (.int .i64 (0)),.v (.int .i64 (0)),.v (.int .i64 (0)),.v (.int .i64 (0)),.v (.int .i64 (0)),.v (.string ⟨#[]⟩)]) Cd.l_toStepS_k.o Cd.l_toStepS_k.n Cd.l_toStepS_k.r rfl (fun _=>rfl) (by decide) rfl rfl (fun _=>rfl) (fun x H=>aH3 _) G (by decide)
theorem aGR (l:List Stp) (G:l.length≤1048576):Fz F.tN [.sl 9 (E cS l),.sl 9 (E cS l)] (.v (.bool true)):=
 aFV Tryz.mixed (g:=F.tO) (k:=9) Cd.l_eqStepS_k.o Cd.l_eqStepS_k.n Cd.l_eqStepS_k.r rfl (fun _=>rfl) (fun _=>rfl) (fun x H=>aLJ _) G
end
section
variable [Vs.Envs]
attribute [local irreducible] Vs.Fn
theorem u64_nonneg (n:Int):0≤IntKind.u64.wrap n:=by
 simp only[IntKind.wrap,IntKind.bits,IntKind.signed,Bool.false_and,Bool.false_eq_true,if_false];exact Int.emod_nonneg _ (by decide)
def aCl (r:Int):Int:=if r=12 then 1 else if r=11 then 2 else if inB r 0 9 then W (4*2 ^ (min (IntKind.u64.wrap r).toNat 64)) else 0
def aA1 (n:Int):Bool:=decide (n≥48)&&decide (n≤57)
def btw (n a b:Int):Bool:=decide (n≥a)&&decide (n≤b)
def orI (a b:Int):Int:=nW .or .i64 a b
def l03 (n:Int):Int:=
 if n=32 then 0 else if n=38 then 1 else if n=45 then 2 else if n=47 then orI 4 (aCl 1) else if aA1 n then aCl (W (W n-48))
 else if btw n 65 73 then orI 1 (aCl (W (W (W n-65)+1))) else if btw n 74 82 then orI 2 (aCl (W (W (W n-74)+1))) else if btw n 83 90 then orI 4 (aCl (W (W (W n-83)+2))) else -1
def CH:ByteArray:=⟨#[32,38,65,66,67,68,69,70,71,72,73,45,74,75,76,77,78,79,80,81,82,47,83,84,85,86,87,88,89,90,48,49,50,51,52,53,54,55,56,57]⟩
def chOK (n:Int):Bool:=decide (xO CH n≥0)
set_option maxRecDepth 100000 in
theorem aLP:∀n:Nat,n<256→chOK (n:Int)=decide (l03 (n:Int)≥0):=by decide +kernel
def areCh (s:ByteArray):Bool:=s.data.toList.all fun b=>chOK b.toNat
theorem aKu (r:Int):Fz F.jV [.v (.int .i64 r)] (.v (.int .i64 (aCl r))):=by
 refine fn0 Cd.s_l02Bit_k fun X=>?_
 repeat' first|simp -dsimp only[go_sem]|apply Br.mk<;>intro h<;>try simp -dsimp only[h]|refine RgK.mk rfl ?_|refine aD.c (by first|exact yG _ _ _) ?_|refine And.intro (by first|rfl|omega|decide|exact u64_nonneg _|(refine⟨?_,?_⟩<;>(first|rfl|omega|decide|exact u64_nonneg _))|(refine⟨?_,?_,?_⟩<;>(first|rfl|omega|decide|exact u64_nonneg _))|(refine⟨?_,?_,?_,?_⟩<;>(first|rfl|omega|decide|exact u64_nonneg _))) ?_|fail
 all_goals(simp_all [aCl,IntKind.bits,u64_nonneg])
theorem aI4 (n:Int):Fz F.qM [.v (.int .u8 n)] (.v (.bool (aA1 n))):=by
 refine fn0 Cd.s_l01Digit_k fun X=>?_
 repeat' first|simp -dsimp only[go_sem]|apply Br.mk<;>intro h<;>try simp -dsimp only[h]|refine aC ?_|fail
 all_goals(first|(simp_all [aA1];done)|(simp_all [aA1];omega))
theorem aDL (n:Int):Fz F.qA [.v (.int .u8 n)] (.v (.int .i64 (l03 n))):=by
 refine fn0 Cd.s_l03Code_k fun X=>?_
 repeat' first|simp -dsimp only[go_sem]|apply Br.mk<;>intro h<;>try simp -dsimp only[h]|refine aD.c (by first|exact aKu _|exact aI4 _) ?_|refine aC ?_|fail
 all_goals(first|(simp_all [l03,btw,orI];done)|(refine aV ?_;grind [l03,btw,orI]))
theorem aIl (s:ByteArray) (n:Int):Fz F.bK [.v (.string s),.v (.int .u8 n)] (.v (.int .i64 (xO s n))):=by
 refine fn0 Cd.internal_stringslite_IndexByte_k fun X=>?_
 repeat' first|simp -dsimp only[go_sem]|apply Br.mk<;>intro h<;>try simp -dsimp only[h]|refine aC ?_|fail
 all_goals(simp_all)
theorem aLo (s:ByteArray) (n:Int):Fz F.strings_IndexByte [.v (.string s),.v (.int .u8 n)] (.v (.int .i64 (xO s n))):=by
 refine fn0 Cd.strings_IndexByte_k fun X=>?_
 repeat' first|simp -dsimp only[go_sem]|apply Br.mk<;>intro h<;>try simp -dsimp only[h]|refine aD.c (by first|exact aIl _ _) ?_|refine aC ?_|fail
 all_goals(simp_all)
theorem aES (n:Int):Fz F.kW [.v (.int .u8 n)] (.v (.bool (chOK n))):=by
 refine fn0 Cd.i_isCharacter_k fun X=>?_
 repeat' first|simp -dsimp only[go_sem]|apply Br.mk<;>intro h<;>try simp -dsimp only[h]|refine aD.c (by first|exact aLo _ _) ?_|refine aC ?_|fail
 all_goals(simp_all [chOK,CH])
def chTo (s:ByteArray) (i:Nat):Bool:=(s.data.toList.take i).all fun b=>chOK b.toNat
def chAt (s:ByteArray) (i:Nat):Bool:=chOK (s.data.toList.getD i 0).toNat
theorem aC6 {s:ByteArray}{i:Nat} (h:i<s.size):chTo s (i+1)=(chTo s i&&chAt s i):=by
 have F:i<s.data.toList.length:=h;unfold chTo chAt;rw[bJ F,List.all_append,List.getD_eq_getElem?_getD,List.getElem?_eq_getElem F];simp
theorem aE8 (s:ByteArray):chTo s s.size=areCh s:=by
 unfold chTo areCh;rw[show s.size=s.data.toList.length from rfl,List.take_length]
theorem aCe {s:ByteArray}{i:Nat} (h:i<s.size) (h2:chAt s i=false):areCh s=false:=by
 have F:i<s.data.toList.length:=h;unfold chAt at h2;rw[List.getD_eq_getElem?_getD,List.getElem?_eq_getElem F] at h2;exact fT (p:=fun b:UInt8=>chOK b.toNat) F h2
theorem aJx (s:ByteArray) (i:Nat):chAt s i=decide (l03 (s.data.toList.getD i 0).toNat≥0):=aLP _ (UInt8.toNat_lt _)
theorem aKL (s:ByteArray) (i:Nat):chOK (s.data.toList.getD i 0).toNat=chAt s i:=rfl
attribute [local irreducible] chOK areCh chTo chAt l03
theorem sK (s:ByteArray) (hs:s.size≤1048576):Fz F.gI [.v (.string s)] (.v (.bool (areCh s))):=by
 refine fn0 Cd.i_areCharacters_k fun X=>?_;simp -dsimp only[go_sem];refine aN.intro dM (fun i:{i:Nat // i≤s.size∧chTo s i=true}=>⟨[(0,.v (.string s)),(3,.v (.int .i64 i.1))],[]⟩) (fun i=>s.size-i.1) ⟨0,by simp[chTo]⟩ ?_ ?_
 ·simp[Vs.LeL,Vs.look]
 ·rintro⟨i,hi,hall⟩;simp -dsimp only[go_sem];refine Br.mk (fun h1=>?_) fun h1=>?_
  ·have hlt:i<s.size:=by simpa using h1
   have hw:=aH hlt hs;simp -dsimp only[go_sem];refine⟨⟨by omega,by omega⟩,aD.flat (aES _) rfl ?_⟩;simp -dsimp only[aKL];simp -dsimp only[go_sem];refine Br.mk (fun h2=>?_) fun h2=>?_
   ·simp -dsimp only[go_sem];simp[aCe hlt (by simpa using h2)]
   ·simp -dsimp only[go_sem,hw];exact⟨⟨i+1,by omega,by rw[aC6 hlt,hall];simpa using h2⟩,by simp[Vs.LeL,Vs.look],by simp only;omega⟩
  ·have hge:i=s.size:=by
    have:¬i<s.size:=by simpa using h1
    omega
   subst hge;simp -dsimp only[go_sem];simp[←aE8,hall]
def l09 (s:ByteArray) (a b:Int):Int:=if(s.size:Int)≠W (b-a) then 2 else if areCh s then 0 else 7
theorem aGL (s:ByteArray) (a b:Int) (hs:s.size≤1048576):Fz F.pX [.v (.string s),.agg [.v (.int .i64 a),.v (.int .i64 b)]] (.v (.int .i64 (l09 s a b))):=by
 refine fn0 Cd.s_l09Text_k fun X=>?_;simp -dsimp only[go_sem];refine Br.mk (fun h0=>?_) fun h0=>?_
 ·simp -dsimp only[go_sem];have:(s.size:Int)≠W (b-a):=by simpa using h0
  simp[l09,this]
 ·simp -dsimp only[go_sem];have hsz:(s.size:Int)=W (b-a):=by simpa using h0
  refine aN.intro dM (fun i:{i:Nat // i≤s.size∧chTo s i=true}=>⟨[(0,.v (.string s)),(5,.v (.int .i64 i.1))],[]⟩) (fun i=>s.size-i.1) ⟨0,by simp[chTo]⟩ ?_ ?_
  ·simp[Vs.LeL,Vs.look]
  ·rintro⟨i,hi,hall⟩;simp -dsimp only[go_sem];refine Br.mk (fun h1=>?_) fun h1=>?_
   ·have hlt:i<s.size:=by simpa using h1
    have hw:=aH hlt hs;simp -dsimp only[go_sem];refine⟨⟨by omega,by omega⟩,aD.flat (aDL _) rfl ?_⟩;have hch:=aJx s i;simp -dsimp only[go_sem];refine Br.mk (fun h2=>?_) fun h2=>?_
    ·simp -dsimp only[go_sem];simp only[decide_eq_true_eq] at h2;have h3:chAt s i=false:=by rw[hch,decide_eq_false_iff_not];omega
     simp[l09,hsz,aCe hlt h3]
    ·simp -dsimp only[go_sem,hw];simp only[decide_eq_false_iff_not] at h2;have h3:chAt s i=true:=by rw[hch,decide_eq_true_eq];omega
     exact⟨⟨i+1,by omega,by rw[aC6 hlt,hall,h3];rfl⟩,by simp[Vs.LeL,Vs.look],by simp only;omega⟩
   ·have hge:i=s.size:=by
     have:¬i<s.size:=by simpa using h1
     omega
    subst hge;simp -dsimp only[go_sem];have:areCh s=true:=by rw[←aE8,hall]
    simp[l09,hsz,this]
def d9 (a b w:Int):Bool:=decide (0≤a)&&(decide (a<b)&&decide (b≤w))
def xZ (a b w:Int):Bool:=d9 a b w&&decide (W (b-a)≤12)
theorem uY (a b w:Int):Fz F.lY [.agg [.v (.int .i64 a),.v (.int .i64 b)],.v (.int .i64 w)] (.v (.bool (d9 a b w))):=by
 refine fn0 Cd.i_isField_k fun X=>?_
 repeat' first|simp -dsimp only[go_sem]|apply Br.mk<;>intro h<;>try simp -dsimp only[h]|refine aC ?_|fail
 all_goals(first|(simp_all [d9];done)|(simp_all [d9];omega)|(refine aV ?_;grind [d9]))
theorem dX (a b w:Int):Fz F.fO [.agg [.v (.int .i64 a),.v (.int .i64 b)],.v (.int .i64 w)] (.v (.bool (d9 a b w))):=by
 refine fn0 Cd.s_l02Field_k fun X=>?_
 repeat' first|simp -dsimp only[go_sem]|apply Br.mk<;>intro h<;>try simp -dsimp only[h]|refine aC ?_|fail
 all_goals(first|(simp_all [d9];done)|(simp_all [d9];omega)|(refine aV ?_;grind [d9]))
theorem aCu (a b w:Int):Fz F.iX [.agg [.v (.int .i64 a),.v (.int .i64 b)],.v (.int .i64 w)] (.v (.bool (xZ a b w))):=by
 refine fn0 Cd.i_isNumberField_k fun X=>?_
 repeat' first|simp -dsimp only[go_sem]|apply Br.mk<;>intro h<;>try simp -dsimp only[h]|refine aD.c (by first|exact uY _ _ _) ?_|refine aC ?_|fail
 all_goals(first|(simp_all [xZ];done)|(refine aV ?_;grind [xZ]))
theorem aKp (n:Int):Fz F.nG [.v (.int .i64 n)] (.v (.bool (inB n 0 5))):=by
 refine fn0 Cd.s_l15Tray_k fun X=>?_
 repeat' first|simp -dsimp only[go_sem]|apply Br.mk<;>intro h<;>try simp -dsimp only[h]|refine aD.c (by first|exact yG _ _ _|exact inside _ _ _) ?_|refine aC ?_|fail
 all_goals(simp_all)
theorem aLE (n:Int):Fz F.rE [.v (.int .i64 n)] (.v (.bool (inB n 0 5))):=by
 refine fn0 Cd.i_isTray_k fun X=>?_
 repeat' first|simp -dsimp only[go_sem]|apply Br.mk<;>intro h<;>try simp -dsimp only[h]|refine aD.c (by first|exact yG _ _ _|exact inside _ _ _) ?_|refine aC ?_|fail
 all_goals(simp_all)
theorem aKs (n:Int):Fz F.sU [.v (.int .i64 n)] (.v (.bool (inB n 2 4))):=by
 refine fn0 Cd.s_l15Both_k fun X=>?_
 repeat' first|simp -dsimp only[go_sem]|apply Br.mk<;>intro h<;>try simp -dsimp only[h]|refine aD.c (by first|exact yG _ _ _|exact inside _ _ _) ?_|refine aC ?_|fail
 all_goals(simp_all)
theorem aH6 (n:Int):Fz F.rC [.v (.int .i64 n)] (.v (.bool (inB n 2 4))):=by
 refine fn0 Cd.i_takesTwo_k fun X=>?_
 repeat' first|simp -dsimp only[go_sem]|apply Br.mk<;>intro h<;>try simp -dsimp only[h]|refine aD.c (by first|exact yG _ _ _|exact inside _ _ _) ?_|refine aC ?_|fail
 all_goals(simp_all)
structure Spc where
 w0:Int
 w1:Int
 text:ByteArray
 g0:Int
 g1:Int
 s0:Int
 s1:Int
def cP (x:Spc):List AV:=[.v (.int .i64 x.w0),.v (.int .i64 x.w1),.v (.string x.text),.v (.int .i64 x.g0),.v (.int .i64 x.g1),.v (.int .i64 x.s0),.v (.int .i64 x.s1)]
def aAD (s:ByteArray):Bool:=s.toList==(⟨#[]⟩:ByteArray).toList
theorem aI0 (s:ByteArray) (a b:Int):(l09 s a b==0)=(areCh s&&((s.size:Int)==W (b-a))):=by
 unfold l09;by_cases h:(s.size:Int)=W (b-a)
 ·cases h2:areCh s<;>simp[h]
 ·cases h2:areCh s<;>simp[h]
end
section
variable [Vs.Envs]
attribute [local irreducible] Vs.Fn
def cC (c:List Int):List AV:=[.sl 1 (E cI c)]
def cD (d:List (List Int)):List AV:=[.sl 1 (E cC d)]
theorem aIa (l:List Int) (n:Int):Fz F.qX [.sl 1 (E cI l),.v (.int .i64 n)] (.v (.int .i64 (szI l n))):=
 aLl Tryz.mixed Cd.l_szInt64S_k.o Cd.l_szInt64S_k.n Cd.l_szInt64S_k.r rfl l n
theorem aH5 {l:List Int} (G:l.length≤1048576):Fz F.nO [.sl 1 (E cI l)] (.sl 1 (E cI l)):=
 aLh Tryz.mixed Cd.l_toInt64S_k.o Cd.l_toInt64S_k.n Cd.l_toInt64S_k.r rfl G
theorem aJl {l:List Int} (G:l.length≤1048576):Fz F.qY [.sl 1 (E cI l),.sl 1 (E cI l)] (.v (.bool true)):=
 aLK Tryz.mixed Cd.l_eqInt64S_k.o Cd.l_eqInt64S_k.n Cd.l_eqInt64S_k.r rfl G
theorem aGn {l:List Int}{n:Int} (h:szI l n<0):szI l n=-1:=by
 unfold szI at h⊢;split
 ·rfl
 ·rename_i F;rw[if_neg F] at h;exact absurd h F
theorem aLn (c:List Int) (n:Int):Fz F.tL [.agg (cC c),.v (.int .i64 n)] (.v (.int .i64 (szI c n))):=by
 refine fn0 Cd.l_szCard_k fun X=>?_
 repeat' first|simp -dsimp only[go_sem,cC]|apply Br.mk<;>intro h<;>try simp -dsimp only[h]|refine aD.c (by first|exact aIa c _) ?_|refine aC ?_|fail
 all_goals(first|(simp_all [aGn];done)|(refine aV ?_;rw[aGn (by simpa using by assumption)]))
theorem aGo (l:List (List Int)) (n:Int) (J:∀x,x∈l→x.length<2 ^ 63) (I:l.length<2 ^ 63) (G:0≤n∧n≤1048576):Fz F.tK [.sl 1 (E cC l),.v (.int .i64 n)] (.v (.int .i64 (szL szI l n))):=
 aH7 Tryz.mixed (k:=1) (c:=cC) (g:=F.tL) Cd.l_szCardS_k.o Cd.l_szCardS_k.n Cd.l_szCardS_k.r rfl szI (fun _=>rfl) (fun _=>rfl) (fun x _ n _ _=>aLn x n) (fun x L n H G h=>(aFn (J x L) H G h).1) n I G
theorem aLi (c:List Int) (G:c.length≤1048576):Fz F.mO [.agg (cC c)] (.agg (cC c)):=by
 refine fn0 Cd.l_toCard_k fun X=>?_
 repeat' first|simp -dsimp only[go_sem,cC]|apply Br.mk<;>intro h<;>try simp -dsimp only[h]|refine aD.c (by first|exact aH5 G) ?_|refine aC ?_|fail
 all_goals(exact⟨_,_,rfl,rfl⟩)
theorem xD (l:List (List Int)) (H:∀x,x∈l→x.length≤1048576) (G:l.length≤1048576):Fz F.gF [.sl 1 (E cC l)] (.sl 1 (E cC l)):=
 aH4 Tryz.mixed (k:=1) (y:=24) (c:=cC) (z:=[.v (.slice none 0 0)]) (g:=F.mO) Cd.l_toCardS_k.o Cd.l_toCardS_k.n Cd.l_toCardS_k.r rfl (fun _=>rfl) (by omega) rfl rfl (fun _=>rfl) (fun x I=>aLi x (H x I)) G (by omega)
theorem aLL (c:List Int) (G:c.length≤1048576):Fz F.tT [.agg (cC c),.agg (cC c)] (.v (.bool true)):=by
 refine fn0 Cd.l_eqCard_k fun X=>?_
 repeat' first|simp -dsimp only[go_sem,cC]|apply Br.mk<;>intro h<;>try simp -dsimp only[h]|refine aD.c (by first|exact aJl G) ?_|refine aC ?_|fail
 all_goals(simp_all)
theorem aGS (l:List (List Int)) (H:∀x,x∈l→x.length≤1048576) (G:l.length≤1048576):Fz F.tQ [.sl 1 (E cC l),.sl 1 (E cC l)] (.v (.bool true)):=
 aFV Tryz.mixed (k:=1) (c:=cC) (g:=F.tT) Cd.l_eqCardS_k.o Cd.l_eqCardS_k.n Cd.l_eqCardS_k.r rfl (fun _=>rfl) (fun _=>rfl) (fun x I=>aLL x (H x I)) G
def gX (c:List Int):Bool:=c.all (fun x=>inB x 0 4095)&&inB c.length 1 20
theorem l02Ok (c:List Int) (hc:c.length≤1048576):Fz F.zL [.ro (cC c)] (.v (.bool (gX c))):=by
 refine fn0 Cd.s_l02Ok_k fun X=>?_;simp -dsimp only[go_sem,cC];refine aN.intro dM (fun i:{i:Nat // i≤c.length∧(c.take i).all (fun x=>inB x 0 4095)=true}=>⟨[(0,.ro [.sl 1 (E cI c)]),(3,.v (.int .i64 i.1))],[]⟩) (fun i=>c.length-i.1) ⟨0,by simp⟩ ?_ ?_
 ·simp[Vs.LeL,Vs.look]
 ·rintro⟨i,hi,hall⟩;simp -dsimp only[go_sem];refine Br.mk (fun h1=>?_) fun h1=>?_
  ·have hlt:i<c.length:=by simpa using h1
   have hw:=aH hlt hc;simp -dsimp only[go_sem,cZ hlt];refine⟨⟨by omega,by omega⟩,aD.flat (yG _ _ _) rfl ?_⟩;simp -dsimp only[go_sem];refine Br.mk (fun h2=>?_) fun h2=>?_
   ·simp -dsimp only[go_sem];simp[gX,fT (p:=fun x=>inB x 0 4095) hlt (by simpa using h2)]
   ·simp -dsimp only[go_sem,hw];exact⟨⟨i+1,by omega,aZ (p:=fun x=>inB x 0 4095) hlt hall (by simpa using h2)⟩,by simp[Vs.LeL,Vs.look],by simp only;omega⟩
  ·have hge:i=c.length:=by
    have:¬i<c.length:=by simpa using h1
    omega
   subst hge;simp -dsimp only[go_sem];refine⟨aD.flat (yG _ _ _) rfl ?_,by simp⟩;simp -dsimp only[go_sem];have:c.all (fun x=>inB x 0 4095)=true:=by simpa using hall
   simp[gX,this]
end
section
variable [Vs.Envs]
attribute [local irreducible] Vs.Fn
def bB (l:List (List Int)):Bool:=l.all (fun c=>gX c&&decide (c.length=(l.getD 0 []).length))&&decide (l.length≤40)
theorem dD (l:List (List Int)) (hs:∀x,x∈l→x.length≤1048576) (hl:l.length≤1048576):Fz F.kH [.sl 1 (E cC l)] (.v (.bool (bB l))):=by
 refine fn0 Cd.s_l02Deck_k fun X=>?_;simp -dsimp only[go_sem];refine aN.intro dM (fun i:{i:Nat // i≤l.length∧(l.take i).all (fun c=>gX c&&decide (c.length=(l.getD 0 []).length))=true}=>⟨[(0,.sl 1 (E cC l)),(3,.v (.int .i64 i.1))],[]⟩) (fun i=>l.length-i.1) ⟨0,by simp⟩ ?_ ?_
 ·simp[Vs.LeL,Vs.look]
 ·rintro⟨i,hi,hall⟩;simp -dsimp only[go_sem];refine Br.mk (fun h1=>?_) fun h1=>?_
  ·have hlt:i<l.length:=by simpa using h1
   have h0:0<l.length:=by omega
   have hw:=aH hlt hl;have g0:l.getD 0 []=l[0]:=by simp[List.getD,h0]
   simp -dsimp only[go_sem];refine RgK.mk rfl ?_;simp -dsimp only[go_sem,aS hlt,aS h0];refine⟨⟨by omega,by omega⟩,aD.flat (l02Ok l[i] (hs _ (List.getElem_mem hlt))) rfl ?_⟩;simp -dsimp only[go_sem];refine Br.mk (fun h2=>?_) fun h2=>?_
   ·simp -dsimp only[go_sem,h2];have e:(gX l[i]&&decide (l[i].length=(l.getD 0 []).length))=false:=by simp at h2;simp[h2]
    have hf:bB l=false:=by rw[bB,fT (p:=fun c=>gX c&&decide (c.length=(l.getD 0 []).length)) hlt e];rfl
    simp[hf]
   ·simp -dsimp only[go_sem,h2,aS hlt,aS h0,cC];refine⟨⟨by omega,by omega⟩,by omega,?_⟩;refine Br.mk (fun h3=>?_) fun h3=>?_
    ·simp -dsimp only[go_sem]
     have e:(gX l[i]&&decide (l[i].length=(l.getD 0 []).length))=false:=by
      rw[g0];have:l[i].length≠l[0].length:=by simp at h3;omega
      simp[this]
     have hf:bB l=false:=by rw[bB,fT (p:=fun c=>gX c&&decide (c.length=(l.getD 0 []).length)) hlt e];rfl
     simp[hf]
    ·simp -dsimp only[go_sem,hw]
     have e:(gX l[i]&&decide (l[i].length=(l.getD 0 []).length))=true:=by
      rw[g0];have:l[i].length=l[0].length:=by simp at h3;omega
      simp at h2;simp[this,h2]
     exact⟨⟨i+1,by omega,aZ (p:=fun c=>gX c&&decide (c.length=(l.getD 0 []).length)) hlt hall e⟩,by simp[Vs.LeL,Vs.look],by simp only;omega⟩
  ·have hge:i=l.length:=by
    have:¬i<l.length:=by simpa using h1
    omega
   subst hge;simp -dsimp only[go_sem];have:l.all (fun c=>gX c&&decide (c.length=(l.getD 0 []).length))=true:=by simpa using hall
   rw[bB,this];simp only[Bool.true_and,Value.bool.injEq,AV.v.injEq];simp;omega
theorem sizeI (l:List Int):Fz F.kV [.sl 1 (E cI l)] (.v (.int .i64 l.length)):=by
 refine fn0 Cd.i_size_int64__k fun X=>?_
 repeat' first|simp -dsimp only[go_sem]|apply Br.mk<;>intro h<;>try simp -dsimp only[h]|refine aC ?_|fail
 all_goals(simp_all)
theorem vD (c:List Int):Fz F.cB [.agg (cC c)] (.v (.int .i64 c.length)):=by
 refine fn0 Cd._i_Card__columns_k fun X=>?_
 repeat' first|simp -dsimp only[go_sem,cC]|apply Br.mk<;>intro h<;>try simp -dsimp only[h]|refine aD.c (by first|exact sizeI c) ?_|refine aC ?_|fail
 all_goals(simp_all)
theorem aFk (x:Int):Fz F.dS [.v (.int .i64 x)] (.v (.bool (!inB x 0 4095))):=by
 refine fn0 Cd.i_ValidCard_1_k fun X=>?_
 repeat' first|simp -dsimp only[go_sem]|apply Br.mk<;>intro h<;>try simp -dsimp only[h]|refine aD.c (by first|exact inside _ _ _) ?_|refine aC ?_|fail
 all_goals(simp_all)
theorem idxI (l:List Int) (G:l.length≤1048576):Fz F.jG [.sl 1 (E cI l),.fn F.dS []] (.v (.int .i64 (rA (fun x=>!inB x 0 4095) l))):=
 aFM Tryz.mixed Cd.ixf_int64_k.o Cd.ixf_int64_k.n Cd.ixf_int64_k.r rfl (fun x=>!inB x 0 4095) F.dS [] rfl (fun x H=>aFk x) G
theorem conI (l:List Int) (G:l.length≤1048576):Fz F.kL [.sl 1 (E cI l),.fn F.dS []] (.v (.bool (l.any (fun x=>!inB x 0 4095)))):=
 aC1 Tryz.mixed (g:=F.jG) Cd.ctf_int64_k.o Cd.ctf_int64_k.n Cd.ctf_int64_k.r rfl (fun x=>!inB x 0 4095) F.dS [] rfl (idxI l G)
theorem aJF (l:List Int) (p:Int→Bool):(!(l.any fun x=>!p x))=l.all p:=by
 induction l with
 |nil=>rfl
 |cons x r ih=>simp only[List.any_cons,List.all_cons,Bool.not_or,Bool.not_not,ih]
theorem aHe (c:List Int) (G:c.length≤1048576):Fz F.oU [.agg (cC c)] (.v (.bool (gX c))):=by
 refine fn0 Cd.i_ValidCard_k fun X=>?_
 repeat' first|simp -dsimp only[go_sem,cC]|apply Br.mk<;>intro h<;>try simp -dsimp only[h]|refine aD.c (by first|exact vD c|exact inside _ _ _|exact conI c G) ?_|refine aC ?_|fail
 all_goals(first|(refine aV ?_;have e:=aJF c (fun x=>inB x 0 4095);simp_all [gX];done)|(simp_all [gX];done))
end
end Go.Proofs.YtkgeiaideklmoaaGreat
