/- Decks of samples: what the reference says, what the program says. -/
import Derived.Test.YthfnpdhpefialaaGreatYuB
import Derived.Test.YthfnpdhpefialaaGreatVtJ
set_option linter.all false
set_option maxHeartbeats 8000000
namespace Go.Proofs.YthfnpdhpefialaaGreat
open Go.Vs
section
variable [Vs.Envs]
attribute [local irreducible] Vs.Fn
abbrev Tot:=ByteArray×Int
def cT (x:Tot):List AV:=[.v (.string x.1),.v (.int .i64 x.2)]
def qT (x y:Tot):Bool:=(x.1.toList==y.1.toList)&&(x.2==y.2)
theorem qT_spec (x y:Tot):eqC [2,0] (cT x) (cT y)=some (qT x y):=by simp[eqC,eqV,cT,qT]
theorem l15Totals (l m:List Tot) (hl:l.length≤1048576):Fz F.s_l15Totals [.sl 2 (E cT l),.sl 2 (E cT m)] (.v (.bool (eqLB qT l m))):=
 spEq_fn Tryz.mixed (k:=2) (ks:=[2,0]) Cd.s_l15Totals_k.o Cd.s_l15Totals_k.n Cd.s_l15Totals_k.r rfl (fun _=>rfl) qT_spec hl
theorem slEqualT (l m:List Tot) (hl:l.length≤1048576):Fz F.eq_Total [.sl 2 (E cT l),.sl 2 (E cT m)] (.v (.bool (eqLB qT l m))):=
 slEq_fn Tryz.mixed (k:=2) (ks:=[2,0]) Cd.eq_Total_k.o Cd.eq_Total_k.n Cd.eq_Total_k.r rfl (fun _=>rfl) qT_spec hl
theorem impl_SameTotals (l m:List Tot) (hl:l.length≤1048576):Fz F.i_SameTotals [.sl 2 (E cT l),.sl 2 (E cT m)] (.v (.bool (eqLB qT l m))):=by
 refine fn0 Cd.i_SameTotals_k fun X=>?_
 repeat' first|simp -dsimp only[go_sem]|apply Br.mk<;>intro h<;>try simp -dsimp only[h]|refine CallK.c (by first|exact slEqualT l m hl) ?_|refine aC ?_|fail
 all_goals(simp_all)
theorem toField (a b:Int):Fz F.l_toField [.agg [.v (.int .i64 a),.v (.int .i64 b)]] (.agg [.v (.int .i64 a),.v (.int .i64 b)]):=by
 refine fn0 Cd.l_toField_k fun X=>?_
 repeat' first|simp -dsimp only[go_sem]|apply Br.mk<;>intro h<;>try simp -dsimp only[h]|refine aC ?_|fail
 all_goals(exact⟨_,_,rfl,rfl⟩)
theorem eqField (a b:Int):Fz F.l_eqField [.agg [.v (.int .i64 a),.v (.int .i64 b)],.agg [.v (.int .i64 a),.v (.int .i64 b)]] (.v (.bool true)):=by
 refine fn0 Cd.l_eqField_k fun X=>?_
 repeat' first|simp -dsimp only[go_sem]|apply Br.mk<;>intro h<;>try simp -dsimp only[h]|refine aC ?_|fail
 all_goals(simp_all)
structure Stp where
 kind:Int
 a:Int
 b:Int
 to:Int
 f0:Int
 f1:Int
 s0:Int
 s1:Int
 text:ByteArray
def cS (x:Stp):List AV:=[.v (.int .i64 x.kind),.v (.int .i64 x.a),.v (.int .i64 x.b),.v (.int .i64 x.to),.v (.int .i64 x.f0),.v (.int .i64 x.f1),.v (.int .i64 x.s0),.v (.int .i64 x.s1),.v (.string x.text)]
def szStp (x:Stp) (n:Int):Int:=szT x.text n
theorem szStp_le {x:Stp}{n:Int} (hs:x.text.size<2 ^ 63) (h0:0≤n) (hn:n≤1048576) (h:0≤szStp x n):szStp x n≤n:=(szT_le hs h0 hn h).1
theorem szStep (x:Stp) (n:Int):Fz F.l_szStep [.agg (cS x),.v (.int .i64 n)] (.v (.int .i64 (szStp x n))):=by
 refine fn0 Cd.l_szStep_k fun X=>?_
 repeat' first|simp -dsimp only[go_sem,cS]|apply Br.mk<;>intro h<;>try simp -dsimp only[h]|refine aC ?_|fail
 all_goals(simp_all [szStp,szT]<;>omega)
theorem toStep (x:Stp):Fz F.l_toStep [.agg (cS x)] (.agg (cS x)):=by
 refine fn0 Cd.l_toStep_k fun X=>?_
 repeat' first|simp -dsimp only[go_sem,cS]|apply Br.mk<;>intro h<;>try simp -dsimp only[h]|refine CallK.c (by first|exact toField _ _) ?_|refine aC ?_|fail
 all_goals(exact⟨_,_,rfl,rfl⟩)
theorem eqStep (x:Stp):Fz F.l_eqStep [.agg (cS x),.agg (cS x)] (.v (.bool true)):=by
 refine fn0 Cd.l_eqStep_k fun X=>?_
 repeat' first|simp -dsimp only[go_sem,cS]|apply Br.mk<;>intro h<;>try simp -dsimp only[h]|refine CallK.c (by first|exact eqField _ _) ?_|refine aC ?_|fail
 all_goals(simp_all)
theorem szStepS (l:List Stp) (n:Int) (hs:∀x,x∈l→x.text.size<2 ^ 63) (hl:l.length<2 ^ 63) (hn:0≤n∧n≤1048576):Fz F.l_szStepS [.sl 9 (E cS l),.v (.int .i64 n)] (.v (.int .i64 (szL szStp l n))):=
 szS_fn Tryz.mixed (g:=F.l_szStep) (k:=9) Cd.l_szStepS_k.o Cd.l_szStepS_k.n Cd.l_szStepS_k.r rfl szStp (fun _=>rfl) (fun _=>rfl) (fun x hx n h0 hn=>szStep _ _) (fun x hx n h0 hn h=>szStp_le (hs x hx) h0 hn h) n hl hn
theorem toStepS (l:List Stp) (hl:l.length≤1048576):Fz F.l_toStepS [.sl 9 (E cS l)] (.sl 9 (E cS l)):=
 toS_fn Tryz.mixed (g:=F.l_toStep) (k:=9) (y:=80) (z:=[.v (.int .i64 (0)),.v (.int .i64 (0)),.v (.int .i64 (0)),.v (.int .i64 (0)),.v (.int .i64 (0)),.v (.int .i64 (0)),.v (.int .i64 (0)),.v (.int .i64 (0)),.v (.string ⟨#[]⟩)]) Cd.l_toStepS_k.o Cd.l_toStepS_k.n Cd.l_toStepS_k.r rfl (fun _=>rfl) (by decide) rfl rfl (fun _=>rfl) (fun x hx=>toStep _) hl (by decide)
theorem eqStepS (l:List Stp) (hl:l.length≤1048576):Fz F.l_eqStepS [.sl 9 (E cS l),.sl 9 (E cS l)] (.v (.bool true)):=
 eqS_fn Tryz.mixed (g:=F.l_eqStep) (k:=9) Cd.l_eqStepS_k.o Cd.l_eqStepS_k.n Cd.l_eqStepS_k.r rfl (fun _=>rfl) (fun _=>rfl) (fun x hx=>eqStep _) hl
end
section
variable [Vs.Envs]
attribute [local irreducible] Vs.Fn
theorem u64_nonneg (n:Int):0≤IntKind.u64.wrap n:=by
 simp only[IntKind.wrap,IntKind.bits,IntKind.signed,Bool.false_and,Bool.false_eq_true,if_false]
 exact Int.emod_nonneg _ (by decide)
def bitR2 (r:Int):Int:=if r=12 then 1 else if r=11 then 2 else if inB r 0 9 then W (4*2 ^ (min (IntKind.u64.wrap r).toNat 64)) else 0
def isDig (n:Int):Bool:=decide (n≥48)&&decide (n≤57)
def btw (n a b:Int):Bool:=decide (n≥a)&&decide (n≤b)
def orI (a b:Int):Int:=bitsOp .or .i64 a b
def l03 (n:Int):Int:=
 if n=32 then 0 else if n=38 then 1 else if n=45 then 2 else if n=47 then orI 4 (bitR2 1) else if isDig n then bitR2 (W (W n-48))
 else if btw n 65 73 then orI 1 (bitR2 (W (W (W n-65)+1))) else if btw n 74 82 then orI 2 (bitR2 (W (W (W n-74)+1))) else if btw n 83 90 then orI 4 (bitR2 (W (W (W n-83)+2))) else -1
def CH:ByteArray:=⟨#[32,38,65,66,67,68,69,70,71,72,73,45,74,75,76,77,78,79,80,81,82,47,83,84,85,86,87,88,89,90,48,49,50,51,52,53,54,55,56,57]⟩
def chOK (n:Int):Bool:=decide (idxByte CH n≥0)
set_option maxRecDepth 100000 in
theorem ch_l03:∀n:Nat,n<256→chOK (n:Int)=decide (l03 (n:Int)≥0):=by decide +kernel
def areCh (s:ByteArray):Bool:=s.data.toList.all fun b=>chOK b.toNat
theorem l02BitR (r:Int):Fz F.s_l02Bit [.v (.int .i64 r)] (.v (.int .i64 (bitR2 r))):=by
 refine fn0 Cd.s_l02Bit_k fun X=>?_
 repeat' first|simp -dsimp only[go_sem]|apply Br.mk<;>intro h<;>try simp -dsimp only[h]|refine RgK.mk rfl ?_|refine CallK.c (by first|exact l00In _ _ _) ?_|refine And.intro (by first|rfl|omega|decide|exact u64_nonneg _|(refine⟨?_,?_⟩<;>(first|rfl|omega|decide|exact u64_nonneg _))|(refine⟨?_,?_,?_⟩<;>(first|rfl|omega|decide|exact u64_nonneg _))|(refine⟨?_,?_,?_,?_⟩<;>(first|rfl|omega|decide|exact u64_nonneg _))) ?_|fail
 all_goals(simp_all [bitR2,IntKind.bits,u64_nonneg])
theorem l01Digit (n:Int):Fz F.s_l01Digit [.v (.int .u8 n)] (.v (.bool (isDig n))):=by
 refine fn0 Cd.s_l01Digit_k fun X=>?_
 repeat' first|simp -dsimp only[go_sem]|apply Br.mk<;>intro h<;>try simp -dsimp only[h]|refine aC ?_|fail
 all_goals(first|(simp_all [isDig];done)|(simp_all [isDig];omega))
theorem l03Code (n:Int):Fz F.s_l03Code [.v (.int .u8 n)] (.v (.int .i64 (l03 n))):=by
 refine fn0 Cd.s_l03Code_k fun X=>?_
 repeat' first|simp -dsimp only[go_sem]|apply Br.mk<;>intro h<;>try simp -dsimp only[h]|refine CallK.c (by first|exact l02BitR _|exact l01Digit _) ?_|refine aC ?_|fail
 all_goals(first|(simp_all [l03,btw,orI];done)|(refine ret_eq ?_;grind [l03,btw,orI]))
theorem sliteIdx (s:ByteArray) (n:Int):Fz F.internal_stringslite_IndexByte [.v (.string s),.v (.int .u8 n)] (.v (.int .i64 (idxByte s n))):=by
 refine fn0 Cd.internal_stringslite_IndexByte_k fun X=>?_
 repeat' first|simp -dsimp only[go_sem]|apply Br.mk<;>intro h<;>try simp -dsimp only[h]|refine aC ?_|fail
 all_goals(simp_all)
theorem strIdx (s:ByteArray) (n:Int):Fz F.strings_IndexByte [.v (.string s),.v (.int .u8 n)] (.v (.int .i64 (idxByte s n))):=by
 refine fn0 Cd.strings_IndexByte_k fun X=>?_
 repeat' first|simp -dsimp only[go_sem]|apply Br.mk<;>intro h<;>try simp -dsimp only[h]|refine CallK.c (by first|exact sliteIdx _ _) ?_|refine aC ?_|fail
 all_goals(simp_all)
theorem isCharacter (n:Int):Fz F.i_isCharacter [.v (.int .u8 n)] (.v (.bool (chOK n))):=by
 refine fn0 Cd.i_isCharacter_k fun X=>?_
 repeat' first|simp -dsimp only[go_sem]|apply Br.mk<;>intro h<;>try simp -dsimp only[h]|refine CallK.c (by first|exact strIdx _ _) ?_|refine aC ?_|fail
 all_goals(simp_all [chOK,CH])
def chTo (s:ByteArray) (i:Nat):Bool:=(s.data.toList.take i).all fun b=>chOK b.toNat
def chAt (s:ByteArray) (i:Nat):Bool:=chOK (s.data.toList.getD i 0).toNat
theorem chTo_succ {s:ByteArray}{i:Nat} (h:i<s.size):chTo s (i+1)=(chTo s i&&chAt s i):=by
 have hl:i<s.data.toList.length:=h
 unfold chTo chAt
 rw[take_succ hl,List.all_append,List.getD_eq_getElem?_getD,List.getElem?_eq_getElem hl]
 simp
theorem chTo_all (s:ByteArray):chTo s s.size=areCh s:=by
 unfold chTo areCh
 rw[show s.size=s.data.toList.length from rfl,List.take_length]
theorem chAt_false {s:ByteArray}{i:Nat} (h:i<s.size) (h2:chAt s i=false):areCh s=false:=by
 have hl:i<s.data.toList.length:=h
 unfold chAt at h2
 rw[List.getD_eq_getElem?_getD,List.getElem?_eq_getElem hl] at h2
 exact not_all (p:=fun b:UInt8=>chOK b.toNat) hl h2
theorem chAt_l03 (s:ByteArray) (i:Nat):chAt s i=decide (l03 (s.data.toList.getD i 0).toNat≥0):=ch_l03 _ (UInt8.toNat_lt _)
theorem chAt_eq (s:ByteArray) (i:Nat):chOK (s.data.toList.getD i 0).toNat=chAt s i:=rfl
attribute [local irreducible] chOK areCh chTo chAt l03
theorem areCharacters (s:ByteArray) (hs:s.size≤1048576):Fz F.i_areCharacters [.v (.string s)] (.v (.bool (areCh s))):=by
 refine fn0 Cd.i_areCharacters_k fun X=>?_
 simp -dsimp only[go_sem]
 refine LoopK.intro dM (fun i:{i:Nat // i≤s.size∧chTo s i=true}=>⟨[(0,.v (.string s)),(3,.v (.int .i64 i.1))],[]⟩) (fun i=>s.size-i.1) ⟨0,by simp[chTo]⟩ ?_ ?_
 ·simp[Vs.LeL,Vs.look]
 ·rintro⟨i,hi,hall⟩
  simp -dsimp only[go_sem]
  refine Br.mk (fun h1=>?_) fun h1=>?_
  ·have hlt:i<s.size:=by simpa using h1
   have hw:=wrap_succ hlt hs
   simp -dsimp only[go_sem]
   refine⟨⟨by omega,by omega⟩,CallK.flat (isCharacter _) rfl ?_⟩
   simp -dsimp only[chAt_eq]
   simp -dsimp only[go_sem]
   refine Br.mk (fun h2=>?_) fun h2=>?_
   ·simp -dsimp only[go_sem]
    simp[chAt_false hlt (by simpa using h2)]
   ·simp -dsimp only[go_sem,hw]
    exact⟨⟨i+1,by omega,by rw[chTo_succ hlt,hall];simpa using h2⟩,by simp[Vs.LeL,Vs.look],by simp only;omega⟩
  ·have hge:i=s.size:=by
    have:¬i<s.size:=by simpa using h1
    omega
   subst hge
   simp -dsimp only[go_sem]
   simp[←chTo_all,hall]
def l09 (s:ByteArray) (a b:Int):Int:=if(s.size:Int)≠W (b-a) then 2 else if areCh s then 0 else 7
theorem l09Text (s:ByteArray) (a b:Int) (hs:s.size≤1048576):Fz F.s_l09Text [.v (.string s),.agg [.v (.int .i64 a),.v (.int .i64 b)]] (.v (.int .i64 (l09 s a b))):=by
 refine fn0 Cd.s_l09Text_k fun X=>?_
 simp -dsimp only[go_sem]
 refine Br.mk (fun h0=>?_) fun h0=>?_
 ·simp -dsimp only[go_sem]
  have:(s.size:Int)≠W (b-a):=by simpa using h0
  simp[l09,this]
 ·simp -dsimp only[go_sem]
  have hsz:(s.size:Int)=W (b-a):=by simpa using h0
  refine LoopK.intro dM (fun i:{i:Nat // i≤s.size∧chTo s i=true}=>⟨[(0,.v (.string s)),(5,.v (.int .i64 i.1))],[]⟩) (fun i=>s.size-i.1) ⟨0,by simp[chTo]⟩ ?_ ?_
  ·simp[Vs.LeL,Vs.look]
  ·rintro⟨i,hi,hall⟩
   simp -dsimp only[go_sem]
   refine Br.mk (fun h1=>?_) fun h1=>?_
   ·have hlt:i<s.size:=by simpa using h1
    have hw:=wrap_succ hlt hs
    simp -dsimp only[go_sem]
    refine⟨⟨by omega,by omega⟩,CallK.flat (l03Code _) rfl ?_⟩
    have hch:=chAt_l03 s i
    simp -dsimp only[go_sem]
    refine Br.mk (fun h2=>?_) fun h2=>?_
    ·simp -dsimp only[go_sem]
     simp only[decide_eq_true_eq] at h2
     have h3:chAt s i=false:=by rw[hch,decide_eq_false_iff_not];omega
     simp[l09,hsz,chAt_false hlt h3]
    ·simp -dsimp only[go_sem,hw]
     simp only[decide_eq_false_iff_not] at h2
     have h3:chAt s i=true:=by rw[hch,decide_eq_true_eq];omega
     exact⟨⟨i+1,by omega,by rw[chTo_succ hlt,hall,h3];rfl⟩,by simp[Vs.LeL,Vs.look],by simp only;omega⟩
   ·have hge:i=s.size:=by
     have:¬i<s.size:=by simpa using h1
     omega
    subst hge
    simp -dsimp only[go_sem]
    have:areCh s=true:=by rw[←chTo_all,hall]
    simp[l09,hsz,this]
def fldB (a b w:Int):Bool:=decide (0≤a)&&(decide (a<b)&&decide (b≤w))
def numB (a b w:Int):Bool:=fldB a b w&&decide (W (b-a)≤12)
theorem isField (a b w:Int):Fz F.i_isField [.agg [.v (.int .i64 a),.v (.int .i64 b)],.v (.int .i64 w)] (.v (.bool (fldB a b w))):=by
 refine fn0 Cd.i_isField_k fun X=>?_
 repeat' first|simp -dsimp only[go_sem]|apply Br.mk<;>intro h<;>try simp -dsimp only[h]|refine aC ?_|fail
 all_goals(first|(simp_all [fldB];done)|(simp_all [fldB];omega)|(refine ret_eq ?_;grind [fldB]))
theorem l02Field (a b w:Int):Fz F.s_l02Field [.agg [.v (.int .i64 a),.v (.int .i64 b)],.v (.int .i64 w)] (.v (.bool (fldB a b w))):=by
 refine fn0 Cd.s_l02Field_k fun X=>?_
 repeat' first|simp -dsimp only[go_sem]|apply Br.mk<;>intro h<;>try simp -dsimp only[h]|refine aC ?_|fail
 all_goals(first|(simp_all [fldB];done)|(simp_all [fldB];omega)|(refine ret_eq ?_;grind [fldB]))
theorem isNumberField (a b w:Int):Fz F.i_isNumberField [.agg [.v (.int .i64 a),.v (.int .i64 b)],.v (.int .i64 w)] (.v (.bool (numB a b w))):=by
 refine fn0 Cd.i_isNumberField_k fun X=>?_
 repeat' first|simp -dsimp only[go_sem]|apply Br.mk<;>intro h<;>try simp -dsimp only[h]|refine CallK.c (by first|exact isField _ _ _) ?_|refine aC ?_|fail
 all_goals(first|(simp_all [numB];done)|(refine ret_eq ?_;grind [numB]))
theorem l15Tray (n:Int):Fz F.s_l15Tray [.v (.int .i64 n)] (.v (.bool (inB n 0 5))):=by
 refine fn0 Cd.s_l15Tray_k fun X=>?_
 repeat' first|simp -dsimp only[go_sem]|apply Br.mk<;>intro h<;>try simp -dsimp only[h]|refine CallK.c (by first|exact l00In _ _ _|exact inside _ _ _) ?_|refine aC ?_|fail
 all_goals(simp_all)
theorem isTray (n:Int):Fz F.i_isTray [.v (.int .i64 n)] (.v (.bool (inB n 0 5))):=by
 refine fn0 Cd.i_isTray_k fun X=>?_
 repeat' first|simp -dsimp only[go_sem]|apply Br.mk<;>intro h<;>try simp -dsimp only[h]|refine CallK.c (by first|exact l00In _ _ _|exact inside _ _ _) ?_|refine aC ?_|fail
 all_goals(simp_all)
theorem l15Both (n:Int):Fz F.s_l15Both [.v (.int .i64 n)] (.v (.bool (inB n 2 4))):=by
 refine fn0 Cd.s_l15Both_k fun X=>?_
 repeat' first|simp -dsimp only[go_sem]|apply Br.mk<;>intro h<;>try simp -dsimp only[h]|refine CallK.c (by first|exact l00In _ _ _|exact inside _ _ _) ?_|refine aC ?_|fail
 all_goals(simp_all)
theorem takesTwo (n:Int):Fz F.i_takesTwo [.v (.int .i64 n)] (.v (.bool (inB n 2 4))):=by
 refine fn0 Cd.i_takesTwo_k fun X=>?_
 repeat' first|simp -dsimp only[go_sem]|apply Br.mk<;>intro h<;>try simp -dsimp only[h]|refine CallK.c (by first|exact l00In _ _ _|exact inside _ _ _) ?_|refine aC ?_|fail
 all_goals(simp_all)
structure Spc where
 w0:Int
 w1:Int
 text:ByteArray
 g0:Int
 g1:Int
 s0:Int
 s1:Int
def cP (x:Spc):List AV:=[.v (.int .i64 x.w0),.v (.int .i64 x.w1),.v (.string x.text),.v (.int .i64 x.g0),.v (.int .i64 x.g1),.v (.int .i64 x.s0),.v (.int .i64 x.s1)]
def noText (s:ByteArray):Bool:=s.toList==(⟨#[]⟩:ByteArray).toList
theorem l09_eq (s:ByteArray) (a b:Int):(l09 s a b==0)=(areCh s&&((s.size:Int)==W (b-a))):=by
 unfold l09
 by_cases h:(s.size:Int)=W (b-a)
 ·cases h2:areCh s<;>simp[h]
 ·cases h2:areCh s<;>simp[h]
end
section
variable [Vs.Envs]
attribute [local irreducible] Vs.Fn
def cC (c:List Int):List AV:=[.sl 1 (E cI c)]
def cD (d:List (List Int)):List AV:=[.sl 1 (E cC d)]
theorem szInt64S (l:List Int) (n:Int):Fz F.l_szInt64S [.sl 1 (E cI l),.v (.int .i64 n)] (.v (.int .i64 (szI l n))):=
 szI_fn Tryz.mixed Cd.l_szInt64S_k.o Cd.l_szInt64S_k.n Cd.l_szInt64S_k.r rfl l n
theorem toInt64S {l:List Int} (hl:l.length≤1048576):Fz F.l_toInt64S [.sl 1 (E cI l)] (.sl 1 (E cI l)):=
 toI_fn Tryz.mixed Cd.l_toInt64S_k.o Cd.l_toInt64S_k.n Cd.l_toInt64S_k.r rfl hl
theorem eqInt64S {l:List Int} (hl:l.length≤1048576):Fz F.l_eqInt64S [.sl 1 (E cI l),.sl 1 (E cI l)] (.v (.bool true)):=
 eqI_fn Tryz.mixed Cd.l_eqInt64S_k.o Cd.l_eqInt64S_k.n Cd.l_eqInt64S_k.r rfl hl
theorem szI_neg {l:List Int}{n:Int} (h:szI l n<0):szI l n=-1:=by
 unfold szI at h⊢
 split
 ·rfl
 ·rename_i h1;rw[if_neg h1] at h;exact absurd h h1
theorem szCard (c:List Int) (n:Int):Fz F.l_szCard [.agg (cC c),.v (.int .i64 n)] (.v (.int .i64 (szI c n))):=by
 refine fn0 Cd.l_szCard_k fun X=>?_
 repeat' first|simp -dsimp only[go_sem,cC]|apply Br.mk<;>intro h<;>try simp -dsimp only[h]|refine CallK.c (by first|exact szInt64S c _) ?_|refine aC ?_|fail
 all_goals(first|(simp_all [szI_neg];done)|(refine ret_eq ?_;rw[szI_neg (by simpa using by assumption)]))
theorem szCardS (l:List (List Int)) (n:Int) (hs:∀x,x∈l→x.length<2 ^ 63) (hl:l.length<2 ^ 63) (hn:0≤n∧n≤1048576):Fz F.l_szCardS [.sl 1 (E cC l),.v (.int .i64 n)] (.v (.int .i64 (szL szI l n))):=
 szS_fn Tryz.mixed (k:=1) (c:=cC) (g:=F.l_szCard) Cd.l_szCardS_k.o Cd.l_szCardS_k.n Cd.l_szCardS_k.r rfl szI (fun _=>rfl) (fun _=>rfl) (fun x _ n _ _=>szCard x n) (fun x hx n h0 hn h=>(szI_le (hs x hx) h0 hn h).1) n hl hn
theorem toCard (c:List Int) (hc:c.length≤1048576):Fz F.l_toCard [.agg (cC c)] (.agg (cC c)):=by
 refine fn0 Cd.l_toCard_k fun X=>?_
 repeat' first|simp -dsimp only[go_sem,cC]|apply Br.mk<;>intro h<;>try simp -dsimp only[h]|refine CallK.c (by first|exact toInt64S hc) ?_|refine aC ?_|fail
 all_goals(exact⟨_,_,rfl,rfl⟩)
theorem toCardS (l:List (List Int)) (hs:∀x,x∈l→x.length≤1048576) (hl:l.length≤1048576):Fz F.l_toCardS [.sl 1 (E cC l)] (.sl 1 (E cC l)):=
 toS_fn Tryz.mixed (k:=1) (y:=24) (c:=cC) (z:=[.v (.slice none 0 0)]) (g:=F.l_toCard) Cd.l_toCardS_k.o Cd.l_toCardS_k.n Cd.l_toCardS_k.r rfl (fun _=>rfl) (by omega) rfl rfl (fun _=>rfl) (fun x hx=>toCard x (hs x hx)) hl (by omega)
theorem eqCard (c:List Int) (hc:c.length≤1048576):Fz F.l_eqCard [.agg (cC c),.agg (cC c)] (.v (.bool true)):=by
 refine fn0 Cd.l_eqCard_k fun X=>?_
 repeat' first|simp -dsimp only[go_sem,cC]|apply Br.mk<;>intro h<;>try simp -dsimp only[h]|refine CallK.c (by first|exact eqInt64S hc) ?_|refine aC ?_|fail
 all_goals(simp_all)
theorem eqCardS (l:List (List Int)) (hs:∀x,x∈l→x.length≤1048576) (hl:l.length≤1048576):Fz F.l_eqCardS [.sl 1 (E cC l),.sl 1 (E cC l)] (.v (.bool true)):=
 eqS_fn Tryz.mixed (k:=1) (c:=cC) (g:=F.l_eqCard) Cd.l_eqCardS_k.o Cd.l_eqCardS_k.n Cd.l_eqCardS_k.r rfl (fun _=>rfl) (fun _=>rfl) (fun x hx=>eqCard x (hs x hx)) hl
def cardB (c:List Int):Bool:=c.all (fun x=>inB x 0 4095)&&inB c.length 1 20
theorem l02Ok (c:List Int) (hc:c.length≤1048576):Fz F.s_l02Ok [.ro (cC c)] (.v (.bool (cardB c))):=by
 refine fn0 Cd.s_l02Ok_k fun X=>?_
 simp -dsimp only[go_sem,cC]
 refine LoopK.intro dM (fun i:{i:Nat // i≤c.length∧(c.take i).all (fun x=>inB x 0 4095)=true}=>⟨[(0,.ro [.sl 1 (E cI c)]),(3,.v (.int .i64 i.1))],[]⟩) (fun i=>c.length-i.1) ⟨0,by simp⟩ ?_ ?_
 ·simp[Vs.LeL,Vs.look]
 ·rintro⟨i,hi,hall⟩
  simp -dsimp only[go_sem]
  refine Br.mk (fun h1=>?_) fun h1=>?_
  ·have hlt:i<c.length:=by simpa using h1
   have hw:=wrap_succ hlt hc
   simp -dsimp only[go_sem,cI_get hlt]
   refine⟨⟨by omega,by omega⟩,CallK.flat (l00In _ _ _) rfl ?_⟩
   simp -dsimp only[go_sem]
   refine Br.mk (fun h2=>?_) fun h2=>?_
   ·simp -dsimp only[go_sem]
    simp[cardB,not_all (p:=fun x=>inB x 0 4095) hlt (by simpa using h2)]
   ·simp -dsimp only[go_sem,hw]
    exact⟨⟨i+1,by omega,take_succ_all (p:=fun x=>inB x 0 4095) hlt hall (by simpa using h2)⟩,by simp[Vs.LeL,Vs.look],by simp only;omega⟩
  ·have hge:i=c.length:=by
    have:¬i<c.length:=by simpa using h1
    omega
   subst hge
   simp -dsimp only[go_sem]
   refine⟨CallK.flat (l00In _ _ _) rfl ?_,by simp⟩
   simp -dsimp only[go_sem]
   have:c.all (fun x=>inB x 0 4095)=true:=by simpa using hall
   simp[cardB,this]
end
section
variable [Vs.Envs]
attribute [local irreducible] Vs.Fn
def deckB (l:List (List Int)):Bool:=l.all (fun c=>cardB c&&decide (c.length=(l.getD 0 []).length))&&decide (l.length≤40)
theorem l02Deck (l:List (List Int)) (hs:∀x,x∈l→x.length≤1048576) (hl:l.length≤1048576):Fz F.s_l02Deck [.sl 1 (E cC l)] (.v (.bool (deckB l))):=by
 refine fn0 Cd.s_l02Deck_k fun X=>?_
 simp -dsimp only[go_sem]
 refine LoopK.intro dM (fun i:{i:Nat // i≤l.length∧(l.take i).all (fun c=>cardB c&&decide (c.length=(l.getD 0 []).length))=true}=>⟨[(0,.sl 1 (E cC l)),(3,.v (.int .i64 i.1))],[]⟩) (fun i=>l.length-i.1) ⟨0,by simp⟩ ?_ ?_
 ·simp[Vs.LeL,Vs.look]
 ·rintro⟨i,hi,hall⟩
  simp -dsimp only[go_sem]
  refine Br.mk (fun h1=>?_) fun h1=>?_
  ·have hlt:i<l.length:=by simpa using h1
   have h0:0<l.length:=by omega
   have hw:=wrap_succ hlt hl
   have g0:l.getD 0 []=l[0]:=by simp[List.getD,h0]
   simp -dsimp only[go_sem]
   refine RgK.mk rfl ?_
   simp -dsimp only[go_sem,E_get hlt,E_get h0]
   refine⟨⟨by omega,by omega⟩,CallK.flat (l02Ok l[i] (hs _ (List.getElem_mem hlt))) rfl ?_⟩
   simp -dsimp only[go_sem]
   refine Br.mk (fun h2=>?_) fun h2=>?_
   ·simp -dsimp only[go_sem,h2]
    have e:(cardB l[i]&&decide (l[i].length=(l.getD 0 []).length))=false:=by simp at h2;simp[h2]
    have hf:deckB l=false:=by rw[deckB,not_all (p:=fun c=>cardB c&&decide (c.length=(l.getD 0 []).length)) hlt e];rfl
    simp[hf]
   ·simp -dsimp only[go_sem,h2,E_get hlt,E_get h0,cC]
    refine⟨⟨by omega,by omega⟩,by omega,?_⟩
    refine Br.mk (fun h3=>?_) fun h3=>?_
    ·simp -dsimp only[go_sem]
     have e:(cardB l[i]&&decide (l[i].length=(l.getD 0 []).length))=false:=by
      rw[g0]
      have:l[i].length≠l[0].length:=by simp at h3;omega
      simp[this]
     have hf:deckB l=false:=by rw[deckB,not_all (p:=fun c=>cardB c&&decide (c.length=(l.getD 0 []).length)) hlt e];rfl
     simp[hf]
    ·simp -dsimp only[go_sem,hw]
     have e:(cardB l[i]&&decide (l[i].length=(l.getD 0 []).length))=true:=by
      rw[g0]
      have:l[i].length=l[0].length:=by simp at h3;omega
      simp at h2
      simp[this,h2]
     exact⟨⟨i+1,by omega,take_succ_all (p:=fun c=>cardB c&&decide (c.length=(l.getD 0 []).length)) hlt hall e⟩,by simp[Vs.LeL,Vs.look],by simp only;omega⟩
  ·have hge:i=l.length:=by
    have:¬i<l.length:=by simpa using h1
    omega
   subst hge
   simp -dsimp only[go_sem]
   have:l.all (fun c=>cardB c&&decide (c.length=(l.getD 0 []).length))=true:=by simpa using hall
   rw[deckB,this]
   simp only[Bool.true_and,Value.bool.injEq,AV.v.injEq]
   simp
   omega
def sampB (l:List (List Int)):Bool:=deckB l&&inB l.length 1 5
theorem l17Sample (l:List (List Int)) (hs:∀x,x∈l→x.length≤1048576) (hl:l.length≤1048576):Fz F.s_l17Sample [.sl 1 (E cC l)] (.v (.bool (sampB l))):=by
 refine fn0 Cd.s_l17Sample_k fun X=>?_
 repeat' first|simp -dsimp only[go_sem]|apply Br.mk<;>intro h<;>try simp -dsimp only[h]|refine CallK.c (by first|exact l02Deck l hs hl|exact l00In _ _ _) ?_|refine aC ?_|fail
 all_goals(simp_all [sampB])
def codeI (l:List (List Int)) (n:Int):Int:=if sampB l then(if inB n 0 3 then 0 else 2) else 1
theorem l17Code (l:List (List Int)) (n:Int) (hs:∀x,x∈l→x.length≤1048576) (hl:l.length≤1048576):Fz F.s_l17Code [.sl 1 (E cC l),.v (.int .i64 n)] (.v (.int .i64 (codeI l n))):=by
 refine fn0 Cd.s_l17Code_k fun X=>?_
 repeat' first|simp -dsimp only[go_sem]|apply Br.mk<;>intro h<;>try simp -dsimp only[h]|refine CallK.c (by first|exact l17Sample l hs hl|exact l00In _ _ _) ?_|refine aC ?_|fail
 all_goals(simp_all [codeI])
theorem sizeI (l:List Int):Fz F.i_size_int64_ [.sl 1 (E cI l)] (.v (.int .i64 l.length)):=by
 refine fn0 Cd.i_size_int64__k fun X=>?_
 repeat' first|simp -dsimp only[go_sem]|apply Br.mk<;>intro h<;>try simp -dsimp only[h]|refine aC ?_|fail
 all_goals(simp_all)
theorem columns (c:List Int):Fz F._i_Card__columns [.agg (cC c)] (.v (.int .i64 c.length)):=by
 refine fn0 Cd._i_Card__columns_k fun X=>?_
 repeat' first|simp -dsimp only[go_sem,cC]|apply Br.mk<;>intro h<;>try simp -dsimp only[h]|refine CallK.c (by first|exact sizeI c) ?_|refine aC ?_|fail
 all_goals(simp_all)
theorem validCard1 (x:Int):Fz F.i_ValidCard_1 [.v (.int .i64 x)] (.v (.bool (!inB x 0 4095))):=by
 refine fn0 Cd.i_ValidCard_1_k fun X=>?_
 repeat' first|simp -dsimp only[go_sem]|apply Br.mk<;>intro h<;>try simp -dsimp only[h]|refine CallK.c (by first|exact inside _ _ _) ?_|refine aC ?_|fail
 all_goals(simp_all)
theorem idxI (l:List Int) (hl:l.length≤1048576):Fz F.ixf_int64 [.sl 1 (E cI l),.fn F.i_ValidCard_1 []] (.v (.int .i64 (idxP (fun x=>!inB x 0 4095) l))):=
 ixI_fn Tryz.mixed Cd.ixf_int64_k.o Cd.ixf_int64_k.n Cd.ixf_int64_k.r rfl (fun x=>!inB x 0 4095) F.i_ValidCard_1 [] rfl (fun x hx=>validCard1 x) hl
theorem conI (l:List Int) (hl:l.length≤1048576):Fz F.ctf_int64 [.sl 1 (E cI l),.fn F.i_ValidCard_1 []] (.v (.bool (l.any (fun x=>!inB x 0 4095)))):=
 ct_fn Tryz.mixed (g:=F.ixf_int64) Cd.ctf_int64_k.o Cd.ctf_int64_k.n Cd.ctf_int64_k.r rfl (fun x=>!inB x 0 4095) F.i_ValidCard_1 [] rfl (idxI l hl)
theorem any_notI (l:List Int) (p:Int→Bool):(!(l.any fun x=>!p x))=l.all p:=by
 induction l with
 |nil=>rfl
 |cons x r ih=>simp only[List.any_cons,List.all_cons,Bool.not_or,Bool.not_not,ih]
theorem validCard (c:List Int) (hc:c.length≤1048576):Fz F.i_ValidCard [.agg (cC c)] (.v (.bool (cardB c))):=by
 refine fn0 Cd.i_ValidCard_k fun X=>?_
 repeat' first|simp -dsimp only[go_sem,cC]|apply Br.mk<;>intro h<;>try simp -dsimp only[h]|refine CallK.c (by first|exact columns c|exact inside _ _ _|exact conI c hc) ?_|refine aC ?_|fail
 all_goals(first|(refine ret_eq ?_;have e:=any_notI c (fun x=>inB x 0 4095);simp_all [cardB];done)|(simp_all [cardB];done))
end
end Go.Proofs.YthfnpdhpefialaaGreat
