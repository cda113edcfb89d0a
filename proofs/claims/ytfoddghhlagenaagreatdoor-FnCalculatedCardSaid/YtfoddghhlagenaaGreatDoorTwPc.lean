/- Decks, texts and steps that are drawn. -/
import Derived.Test.YtfoddghhlagenaaGreatDoorVsD
import Derived.Test.YtfoddghhlagenaaGreatDoorTwA
import Derived.Test.YtfoddghhlagenaaGreatDoorVtR
import Derived.Test.YtfoddghhlagenaaGreatDoorTryzShelf
import Derived.Test.YtfoddghhlagenaaGreatDoorTuR
import Derived.Test.YtfoddghhlagenaaGreatDoorTuF
import Derived.Test.YtfoddghhlagenaaGreatDoorTwQb
set_option linter.all false
set_option maxHeartbeats 8000000
namespace Go.Proofs.YtfoddghhlagenaaGreatDoor
open Go.Vs
section
variable [Vs.Tab 0 Vs.powP]
attribute [local irreducible] Vs.Fn
theorem aCV (n:Int) (h0:-9223372036854775808<=n) (h1:n<=9223372036854775807):Fz F.fZ [.v (.int .i64 n),.v (.int .i64 10)] (.v (.string ⟨(Lib.itoa n).toArray⟩)):=by
 refine Fn.of_ext ⟨Tryz.f111,_,Tryz.func111,rfl,by decide⟩ λS w vs henv hsz hv=>?_
 have e0:vs.getD 0 undef=.int .i64 n:=aZ (hv 0 (by simp))
 have e1:vs.getD 1 undef=.int .i64 10:=aZ (hv 1 (by simp))
 have hvs:vs=#[.int .i64 n,.int .i64 10]:=by
  apply Array.ext (by simpa using hsz)
  intro i hi hi2
  simp at hi2 hsz
  have hi3:i=0∨i=1:=by omega
  rcases hi3 with rfl|rfl
  .simpa[Array.getD,hsz] using e0
  .simpa[Array.getD,hsz] using e1
 subst hvs
 refine (Any.internal_strconv_FormatInt_10 Tryz.laysM246 n h0 h1 w (by
   obtain⟨_,T,fr,hcells⟩:=Vs.Tab.at (g:=0) (p:=Vs.powP) henv
   unfold Lib.TabIs World.var?
   refine(congrArg (λo=>Option.bind o _) (by kernel_rfl:Tryz.prog.globalNamed _=some 0)).trans ?_
   simp only[Option.bind_some]
   try dsimp only at hcells
   rw[hcells])).mono ?_
 rintro e w' ⟨rfl,k,os,rfl⟩
 exact⟨_,rfl,.v _,aEi w k os⟩
end
section
variable [Vs.Tab 0 Vs.powP]
attribute [local irreducible] Vs.Fn
theorem W_nat {n:Nat} (h:n<2 ^ 63):W n=n:=aG (by omega) (by omega)
theorem aDf {n:Nat} (h:n<2 ^ 63) (k:Nat):wl (k+1) n=((n%10:Nat):Int)::wl k ((n/10:Nat):Int):=by
 have h1:((n:Int)).tmod 10=((n%10:Nat):Int):=by rw[Int.tmod_eq_emod_of_nonneg (by omega)];omega
 have h2:((n:Int)).tdiv 10=((n/10:Nat):Int):=by rw[Int.tdiv_eq_ediv_of_nonneg (by omega)];omega
 rw[wl,h1,h2,W_nat (by omega)]
theorem aDe:∀(k n:Nat),n<10 ^ k->n<2 ^ 63->sM (wl k n)=dsN n∧∀x,x∈wl k (n:Int)->0<=x∧x<=9
 | 0,n,h,_=>by
  have:n=0:=by simpa using h
  subst this
  simp[wl,sM,uG]
 | k+1,n,h,h63=>by
  rw[Nat.pow_succ] at h
  obtain⟨h1,h2⟩:=aDe k (n/10) (by omega) (by omega)
  rw[aDf h63,sM,h1,aCj n]
  refine⟨by omega,λx hx=>?_⟩
  rcases List.mem_cons.1 hx with rfl|hx
  .omega
  .exact h2 x hx
theorem yK (n:Int) (h0:-9223372036854775807<=n) (h1:n<=9223372036854775807):Fz F.mY [.v (.int .i64 n)] (.v (.int .i64 n.natAbs)):=by
 have hw:IntKind.i64.wrap (0-n)=-n:=by rw[aG (by omega) (by omega)];omega
 refine fn0 Cd.i_absOf_k λX=>?_
 simp -dsimp only[go_sem]
 refine fT ?_
 simp only[hw,AV.v.injEq,Value.int.injEq,true_and]
 split<;>omega
theorem aBx (n:Int) (h0:-9223372036854775807<=n) (h1:n<=9223372036854775807):Fz F.dX [.v (.int .i64 n),.v (.int .i64 10)] (.v (.string ⟨(Lib.itoa n).toArray⟩)):=by
 refine fn0 Cd.strconv_FormatInt_k λX=>?_
 repeat' first|simp -dsimp only[go_sem]|apply Br.mk<;>intro h<;>try simp -dsimp only[h]|refine aB.c (by first|exact aCV n (by omega) h1) ?_|refine aC ?_|refine aC9 ?_|fail
 all_goals(simp_all)
theorem decimal (n:Int) (h0:-9223372036854775807<=n) (h1:n<=9223372036854775807):Fz F.nW [.v (.int .i64 n)] (.v (.string ⟨(Lib.itoa n).toArray⟩)):=by
 refine fn0 Cd.i_Decimal_k λX=>?_
 repeat' first|simp -dsimp only[go_sem]|apply Br.mk<;>intro h<;>try simp -dsimp only[h]|refine aB.c (by first|exact aBx n h0 h1) ?_|refine aC ?_|refine aC9 ?_|fail
 all_goals(simp_all)
theorem digitsOf (n:Nat) (hn:n<2 ^ 63):Fz F.jT [.v (.int .i64 (n:Int))] (.v (.int .i64 (Lib.nDigits n:Nat))):=by
 refine fn0 Cd.i_digitsOf_k λX=>?_
 repeat' first|simp -dsimp only[go_sem]|apply Br.mk<;>intro h<;>try simp -dsimp only[h]|refine aB.c (by first|exact decimal _ (by omega) (by omega)) ?_|refine aC ?_|refine aC9 ?_|fail
 all_goals((refine fT ?_;simp[ByteArray.size,Lib.itoa_nonneg,Lib.decDigits_length]))
theorem oK {n:Nat} (hn:n<2 ^ 63):Lib.nDigits n<=19:=by
 have h:∀(k m:Nat),m<10 ^ (k+1)->Lib.nDigits m<=k+1:=by
  intro k
  induction k with
  |zero=>intro m hm;rw[Lib.nDigits_small (by simpa using hm)];omega
  | succ k ih =>
   intro m hm
   by_cases h:m<10
   .rw[Lib.nDigits_small h];omega
   .rw[Lib.nDigits_big h]
    have:=ih (m/10) (by rw[Nat.pow_succ] at hm;omega)
    omega
 exact h 18 n (by omega)
theorem uZ (n:Int) (h0:-9223372036854775807<=n) (h1:n<=9223372036854775807):Fz F.gF [.v (.int .i64 n)] (.sl 1 (E cI (wl (Lib.nDigits n.natAbs) n.natAbs))):=by
 refine fn0 Cd.i_digitList_k λX=>?_
 repeat' first|simp -dsimp only[go_sem]|apply Br.mk<;>intro h<;>try simp -dsimp only[h]|refine aB.c (by first|exact yK n h0 h1|exact digitsOf n.natAbs (by omega)|exact aBf (Lib.nDigits n.natAbs) _ (by have:=oK (n:=n.natAbs) (by omega);omega)) ?_|refine aC ?_|refine aC9 ?_|fail
 all_goals(exact⟨_,_,rfl,rfl⟩)
theorem aEq (n:Int) (h0:-9223372036854775807<=n) (h1:n<=9223372036854775807):Fz F.mM [.v (.int .i64 n)] (.v (.int .i64 (dsN n.natAbs))):=by
 have hk:=oK (n:=n.natAbs) (by omega)
 obtain⟨hsum,hdig⟩:=aDe (Lib.nDigits n.natAbs) n.natAbs (Lib.lt_pow_nDigits _) (by omega)
 have hlen:=nK (Lib.nDigits n.natAbs) n.natAbs
 have hds:=aBz n.natAbs
 refine fn0 Cd.i_digitSum_k λX=>?_
 simp -dsimp only[go_sem]
 refine aB.pure (uZ n h0 h1) ?_
 generalize wl (Lib.nDigits n.natAbs) n.natAbs=l at *
 simp -dsimp only[go_sem]
 refine bA.at dM (X:={zz:Nat×(Int) // zz.1<=l.length∧0<=zz.2∧zz.2+sM (l.drop zz.1)=sM l}) (λzz=>[(3,.v (.int .i64 zz.1.2)),(9,.v (.int .i64 zz.1.1))]) (λzz=>[]) (λzz=>l.length-zz.1.1) ⟨(0,0),by omega,by simp⟩ ?_ ?_
 .exact le0
 .rintro⟨⟨i,a⟩,hi,hg⟩
  dsimp only at hi hg
  simp -dsimp only[go_sem]
  refine Br.mk (λhc=>?_) λhc=>?_
  .have hlt:i<l.length:=Dq
   have hw:=aQ hlt (by omega)
   have hx:=hdig _ (List.getElem_mem hlt)
   have hnn:=aBh (λx hx=>(hdig x hx).1) (i+1) (l:=l)
   rw[aCz hlt] at hg
   have hwa:IntKind.i64.wrap (a+l[i])=a+l[i]:=aG (by omega) (by omega)
   simp -dsimp only[go_sem,jI hlt]
   refine⟨⟨by omega,by omega⟩,?_⟩
   simp -dsimp only[go_sem,hw,hwa]
   exact nx (i+1,a+l[i]) (⟨by dsimp only;omega,by dsimp only;omega⟩)
  .have hge:i=l.length:=by
    have:¬i<l.length:=Dq
    omega
   subst hge
   simp -dsimp only[go_sem]
   have:a=dsN n.natAbs:=by
    have:=hg.2
    rw[List.drop_length,sM,hsum] at this
    omega
   simp[this]
end
section
variable [Vs.Envs]
attribute [local irreducible] Vs.Fn
def fJ (i:Nat):Int:=((4*2 ^ i:Nat):Int)
theorem shl4 {i:Nat} (hi:i<10):IntKind.i64.wrap (4*2 ^ (min i IntKind.i64.bits))=fJ i:=by
 have:i=0∨i=1∨i=2∨i=3∨i=4∨i=5∨i=6∨i=7∨i=8∨i=9:=by omega
 rcases this with rfl|rfl|rfl|rfl|rfl|rfl|rfl|rfl|rfl|rfl<;>decide
theorem u64I {i:Nat} (hi:i<10):IntKind.u64.wrap (i:Int)=(i:Int):=by
 have:i=0∨i=1∨i=2∨i=3∨i=4∨i=5∨i=6∨i=7∨i=8∨i=9:=by omega
 rcases this with rfl|rfl|rfl|rfl|rfl|rfl|rfl|rfl|rfl|rfl<;>decide
theorem aCr (i:Nat) (hi:i<10):Fz F.j5 [.v (.int .i64 (i:Int))] (.v (.int .i64 (fJ i))):=by
 have e1:((i:Int)==12)=false:=beq_eq_false_iff_ne.2 (by omega)
 have e2:((i:Int)==11)=false:=beq_eq_false_iff_ne.2 (by omega)
 have e3:inB i 0 9=true:=by simp[inB];omega
 have e4:=shl4 hi
 have e5:=u64I hi
 have e6:(0:Int)<=(i:Int):=by omega
 refine fn0 Cd.i_bitOf_k λX=>?_
 repeat' first|simp -dsimp only[go_sem,e1,e2,e3,e4,e5,e6]|apply Br.mk<;>intro h<;>try simp -dsimp only[h]|refine aB.c (by first|exact inside _ _ _) ?_|refine aC ?_|refine aC9 ?_|fail
 all_goals first|(simp_all;done)|(simp_all;exact shl4 hi)
theorem z8 (i:Nat) (hi:i<10):Fz F.eZ [.v (.int .i64 (i:Int))] (.v (.int .i64 (fJ i))):=by
 have e1:((i:Int)==12)=false:=beq_eq_false_iff_ne.2 (by omega)
 have e2:((i:Int)==11)=false:=beq_eq_false_iff_ne.2 (by omega)
 have e3:inB i 0 9=true:=by simp[inB];omega
 have e4:=shl4 hi
 have e5:=u64I hi
 have e6:(0:Int)<=(i:Int):=by omega
 refine fn0 Cd.s_l02Bit_k λX=>?_
 repeat' first|simp -dsimp only[go_sem,e1,e2,e3,e4,e5,e6]|apply Br.mk<;>intro h<;>try simp -dsimp only[h]|refine aB.c (by first|exact xL _ _ _) ?_|refine aC ?_|refine aC9 ?_|fail
 all_goals first|(simp_all;done)|(simp_all;exact shl4 hi)
theorem aAo  : Fz F.j5 [.v (.int .i64 11)] (.v (.int .i64 2)):=by
 refine fn0 Cd.i_bitOf_k λX=>?_
 repeat' first|simp -dsimp only[go_sem]|apply Br.mk<;>intro h<;>try simp -dsimp only[h]|refine aB.c (by first|exact inside _ _ _) ?_|refine aC ?_|refine aC9 ?_|fail
 all_goals(simp_all)
def dgF (m:Int):Nat->Nat->Int
 |0,_=>-1
 |k+1,i=>if fJ i=m then i else dgF m k (i+1)
def dg (m:Int):Int:=dgF m 10 0
theorem aEr (m:Int):∀(k i:Nat),k+i=10->-1<=dgF m k i∧dgF m k i<=9
 |0,_,_=>by simp[dgF]
 | k+1,i,h=>by
  rw[dgF]
  split
  .omega
  .exact aEr m k (i+1) (by omega)
theorem dg_in (m:Int):-1<=dg m∧dg m<=9:=aEr m 10 0 rfl
theorem aA4 (m:Int) {i:Nat} (hi:i<10):dgF m (10-i) i=if fJ i=m then(i:Int) else dgF m (10-(i+1)) (i+1):=by
 rw[show 10-i=(10-(i+1))+1 by omega,dgF]
theorem wP (m:Int):Fz F.nV [.v (.int .i64 m)] (.v (.int .i64 (dg m))):=by
 refine fn0 Cd.i_digitOf_k λX=>?_
 simp -dsimp only[go_sem]
 refine bA.at dM (X:={zz:Nat×(Unit) // zz.1<=10∧dgF m (10-zz.1) zz.1=dg m}) (λzz=>[(4,.v (.int .i64 zz.1.1))]) (λzz=>[]) (λzz=>10-zz.1.1) ⟨(0,()),by omega,rfl⟩ ?_ ?_
 .exact le0
 .rintro⟨⟨i,a⟩,hi,hg⟩
  dsimp only at hi hg
  simp -dsimp only[go_sem]
  refine Br.mk (λhc=>?_) λhc=>?_
  .have hlt:i<10:=Dq
   have hw:=aQ hlt (by omega)
   rw[aA4 m hlt] at hg
   by_cases he:fJ i=m
   .have hb:(fJ i==m)=true:=beq_iff_eq.2 (by simp[he])
    rw[if_pos he] at hg
    repeat' first|simp -dsimp only[go_sem,hw,hb]|apply Br.mk<;>intro h<;>try simp -dsimp only[h]|refine aB.c (by first|exact aCr i hlt) ?_|refine aC ?_|refine aC9 ?_|fail
    all_goals simp[hg]
   .have hb:(fJ i==m)=false:=beq_eq_false_iff_ne.2 (λe=>he (by simp[e]))
    rw[if_neg he] at hg
    repeat' first|simp -dsimp only[go_sem,hw,hb]|apply Br.mk<;>intro h<;>try simp -dsimp only[h]|refine aB.c (by first|exact aCr i hlt) ?_|refine aC ?_|refine aC9 ?_|fail
    all_goals(exact nx (i+1,()) hg)
  .have hge:i=10:=by
    have:¬i<10:=Dq
    omega
   subst hge
   simp -dsimp only[go_sem]
   have:dg m=-1:=by rw[←hg];rfl
   simp[this]
theorem iA (m:Int):Fz F.lZ [.v (.int .i64 m)] (.v (.int .i64 (dg m))):=by
 refine fn0 Cd.s_l03Digit_k λX=>?_
 simp -dsimp only[go_sem]
 refine bA.at dM (X:={zz:Nat×(Unit) // zz.1<=10∧dgF m (10-zz.1) zz.1=dg m}) (λzz=>[(3,.v (.int .i64 zz.1.1))]) (λzz=>[]) (λzz=>10-zz.1.1) ⟨(0,()),by omega,rfl⟩ ?_ ?_
 .exact le0
 .rintro⟨⟨i,a⟩,hi,hg⟩
  dsimp only at hi hg
  simp -dsimp only[go_sem]
  refine Br.mk (λhc=>?_) λhc=>?_
  .have hlt:i<10:=Dq
   have hw:=aQ hlt (by omega)
   rw[aA4 m hlt] at hg
   by_cases he:fJ i=m
   .have hb:(m==fJ i)=true:=beq_iff_eq.2 (by simp[he])
    rw[if_pos he] at hg
    repeat' first|simp -dsimp only[go_sem,hw,hb]|apply Br.mk<;>intro h<;>try simp -dsimp only[h]|refine aB.c (by first|exact z8 i hlt) ?_|refine aC ?_|refine aC9 ?_|fail
    all_goals simp[hg]
   .have hb:(m==fJ i)=false:=beq_eq_false_iff_ne.2 (λe=>he (by simp[e]))
    rw[if_neg he] at hg
    repeat' first|simp -dsimp only[go_sem,hw,hb]|apply Br.mk<;>intro h<;>try simp -dsimp only[h]|refine aB.c (by first|exact z8 i hlt) ?_|refine aC ?_|refine aC9 ?_|fail
    all_goals(exact nx (i+1,()) hg)
  .have hge:i=10:=by
    have:¬i<10:=Dq
    omega
   subst hge
   simp -dsimp only[go_sem]
   have:dg m=-1:=by rw[←hg];rfl
   simp[this]
theorem rE (l:List Int) (hl:l.length<=1048576):Vs.Fn Tryz.prog F.gG [] [.sl 1 (E cI l)] (.loc (.b 0) 0 l.length) [some (.arr 1 (E cI l) false)]:=by
 refine fn1 Cd.i_copyInts_k [.t 5 0] [.arr 1 (E cI l) false] λX=>?_
 unfold Cd.gG
 simp -dsimp only[go_sem,List.replicate_succ,List.replicate_zero,List.flatten_cons,List.flatten_nil]
 exact⟨by omega,⟨by omega,by omega⟩,⟨_,_,rfl,rfl⟩⟩
theorem aFO {α:Type}{c:α->List AV} (l:List α) (a b:Nat):E c ((l.take a).drop b)=((E c l).take a).drop b:=by simp[E,List.map_take,List.map_drop]
theorem part (c:List Int) (fr to:Int) (h0:0<=fr) (h1:fr<=to) (h2:to<=c.length):Fz F.gQ [.ro (cC c),.agg [.v (.int .i64 fr),.v (.int .i64 to)]] (.sl 1 (E cI ((c.take to.toNat).drop fr.toNat))):=by
 refine fn0 Cd.s_l02Part_k λX=>?_
 repeat' first|simp -dsimp only[go_sem,cC]|apply Br.mk<;>intro h<;>try simp -dsimp only[h]|refine aC ?_|refine aC9 ?_|fail
 all_goals exact fT (by rw[aFO])
end
section
variable [Vs.Envs]
attribute [local irreducible] Vs.Fn
def pd:Nat->Nat->List Int
 |0,_=>[]
 |w+1,k=>pd w (k/10)++[fJ (k%10)]
theorem pQ:∀w k,(pd w k).length=w
 |0,_=>rfl
 |w+1,k=>by simp[pd,pQ w]
def rH (l:List Int):List Int:=l.set (l.length-1) (bJ .or .i64 (l.getD (l.length-1) 0) 2)
def ptN (w:Nat) (n:Int):List Int:=if n<0 then rH (pd w n.natAbs) else pd w n.natAbs
theorem mF (w:Nat) (n:Int):(ptN w n).length=w:=by unfold ptN rH;split<;>simp[pQ]
theorem aAF (j:Nat) (done:List Int) (x:Int):(E cI (List.replicate (j+1) 0++done)).set j [.v (.int .i64 x)]=E cI (List.replicate j 0++x::done):=by
 have e:(List.replicate (j+1) (0:Int)++done).set j x=List.replicate j 0++x::done:=by
  rw[List.replicate_succ',List.append_assoc,List.set_append_right _ _ (by simp)]
  simp
 rw[←e]
 simp[E,cI,List.map_set]
theorem tN (w:Nat):List.replicate w [AV.v (.int .i64 0)]=E cI (List.replicate w 0++[]):=by simp[E,cI]
theorem aAG (j:Nat) (done:List Int):(E cI (List.replicate (j+1) 0++done)).getD j []=[.v (.int .i64 0)]:=by
 rw[bI (by simp;omega)]
 simp[List.getElem_append,cI]
theorem wO (n a:Nat):n/10 ^ a/10=n/10 ^ (a+1):=by rw[Nat.div_div_eq_div_mul,Nat.pow_succ]
theorem aAL {l:List Int} (h:l.length≠0):(E cI l).set (l.length-1) [.v (.int .i64 (bJ .or .i64 (l.getD (l.length-1) 0) 2))]=E cI (rH l):=by
 unfold rH
 simp[E,cI,List.map_set]
theorem aAQ {l:List Int} (h:l.length≠0):(E cI l).getD (l.length-1) []=[.v (.int .i64 (l.getD (l.length-1) 0))]:=by
 have hl:l.length-1<l.length:=by omega
 rw[jI hl]
 simp[List.getD,hl]
theorem xJ (n:Int) (w:Nat) (h0:-1000000000000<=n) (h1:n<=1000000000000) (hw0:0<w) (hw20:w<=20):Fz F.lX [.v (.int .i64 n),.v (.int .i64 w)] (.tup [.sl 1 (E cI (ptN w n)),.v (.bool (((n.natAbs/10 ^ w:Nat):Int)==0))]):=by
 rcases Int.lt_or_le n 0 with hneg|hneg
 .have hd0:decide (n<0)=true:=decide_eq_true (by omega)
  have hpt:ptN w n=rH (pd w n.natAbs):=by unfold ptN;rw[if_pos (by omega)]
  have hn1:IntKind.i64.wrap (0-n)=(n.natAbs:Int):=by rw[aG (by omega) (by omega)];omega
  have hn2:IntKind.i64.wrap (-n)=(n.natAbs:Int):=by rw[aG (by omega) (by omega)];omega
  have hwm:IntKind.i64.wrap ((w:Int)-1)=(w:Int)-1:=aG (by omega) (by omega)
  refine fn0 Cd.s_l03Put_k λX=>?_
  simp -dsimp only[go_sem,hd0,tN]
  repeat' first|simp -dsimp only[go_sem,hd0,tN,hwm,Int.toNat_natCast,hn1,hn2]|apply Br.mk<;>intro h<;>try simp -dsimp only[h]|refine aC ?_|refine aC9 ?_|fail
  refine bA.at dM (X:={zz:Nat×Nat×List Int // zz.1<=w∧zz.2.2.length=w-zz.1∧zz.2.1=n.natAbs/10 ^ (w-zz.1)∧pd zz.1 zz.2.1++zz.2.2=pd w n.natAbs}) (λzz=>[(7,.v (.int .i64 (zz.1.2.1:Nat))),(8,.v (.int .i64 ((zz.1.1:Int)-1)))]) (λzz=>[(.t 10 0,.arr 1 (E cI (List.replicate zz.1.1 0++zz.1.2.2)) false)]) (λzz=>zz.1.1) ⟨(w,n.natAbs,[]),Nat.le_refl _,by simp,by simp,by simp⟩ ?_ ?_
  .simp[Vs.LeL,Vs.look,Vs.aA,Vs.bL,Vs.aO,Vs.hset,Vs.aP,E]
   first|done|omega
  .rintro⟨⟨j1,k,done⟩,hj,hd,hk,hg⟩
   dsimp only at hj hd hk hg
   simp -dsimp only[go_sem,hd0]
   refine Br.mk (λhc=>?_) λhc=>?_
   .obtain⟨j,rfl⟩:∃j,j1=j+1:=⟨j1-1,by simp at hc;omega⟩
    have e1:(((j+1:Nat):Int)-1)=(j:Int):=by omega
    have hwj:IntKind.i64.wrap ((j:Int)-1)=(j:Int)-1:=aG (by omega) (by omega)
    have hkb:k<=1000000000000:=by rw[hk];exact Nat.le_trans (Nat.div_le_self _ _) (by omega)
    have hkd:k/10=n.natAbs/10 ^ (w-j):=by rw[hk,wO,show w-(j+1)+1=w-j by omega]
    have q1:((k:Int)).tmod 10=((k%10:Nat):Int):=by rw[Int.tmod_eq_emod_of_nonneg (by omega)];omega
    have q2:IntKind.i64.wrap (((k:Int)).tdiv 10)=((k/10:Nat):Int):=by rw[Int.tdiv_eq_ediv_of_nonneg (by omega),aG (by omega) (by omega)];omega
    have hgr:=aAG j done
    have hgs:=aAF j done (fJ (k%10))
    rw[pd,List.append_assoc] at hg
    repeat' first|simp -dsimp only[go_sem,e1,hgr,hgs,hwj,q1,q2,aJ,List.length_append,List.length_replicate,Int.toNat_natCast]|apply Br.mk<;>intro h<;>try simp -dsimp only[h]|refine aB.c (by first|exact z8 (k%10) (by omega)) ?_|refine aC ?_|refine aC9 ?_|fail
    all_goals(exact⟨⟨(j,k/10,fJ (k%10)::done),by omega,by simp only[List.length_cons];omega,hkd,hg⟩,by simp[Vs.LeL,Vs.look,Vs.aA,Vs.bL,Vs.aO,Vs.hset,Vs.aP],by simp only;omega⟩)
   .have hz:j1=0:=by simp at hc;omega
    subst hz
    rw[Nat.sub_zero] at hk
    have hdone:done=pd w n.natAbs:=by simpa[pd] using hg
    subst hdone
    have hlen:=pQ w n.natAbs
    have hne:(pd w n.natAbs).length≠0:=by omega
    have hnr:=aAL hne
    have hlg:=aAQ hne
    rw[hlen] at hnr hlg
    have hw1:IntKind.i64.wrap ((w:Int)-1)=((w-1:Nat):Int):=by rw[aG (by omega) (by omega)];omega
    have htk:List.take w (E cI (rH (pd w n.natAbs)))=E cI (rH (pd w n.natAbs)):=List.take_of_length_le (by simp[E,rH,pQ])
    simp -dsimp only[go_sem,hd0,hnr,hlg,hw1,hlen,aJ,Int.toNat_natCast,List.replicate_zero,List.nil_append,List.length_set]
    exact⟨⟨⟨by omega,by omega⟩,⟨by omega,by omega⟩,[.t 10 0],[],by rw[htk,hpt,hk],rfl⟩,λh=>h rfl⟩
 .have hd0:decide (n<0)=false:=decide_eq_false (by omega)
  have hpt:ptN w n=pd w n.natAbs:=by unfold ptN;rw[if_neg (by omega)]
  have hn1:n=(n.natAbs:Int):=by omega
  have hwm:IntKind.i64.wrap ((w:Int)-1)=(w:Int)-1:=aG (by omega) (by omega)
  refine fn0 Cd.s_l03Put_k λX=>?_
  simp -dsimp only[go_sem,hd0,tN]
  repeat' first|simp -dsimp only[go_sem,hd0,tN,hwm,Int.toNat_natCast]|apply Br.mk<;>intro h<;>try simp -dsimp only[h]|refine aC ?_|refine aC9 ?_|fail
  refine bA.at dM (X:={zz:Nat×Nat×List Int // zz.1<=w∧zz.2.2.length=w-zz.1∧zz.2.1=n.natAbs/10 ^ (w-zz.1)∧pd zz.1 zz.2.1++zz.2.2=pd w n.natAbs}) (λzz=>[(7,.v (.int .i64 (zz.1.2.1:Nat))),(8,.v (.int .i64 ((zz.1.1:Int)-1)))]) (λzz=>[(.t 10 0,.arr 1 (E cI (List.replicate zz.1.1 0++zz.1.2.2)) false)]) (λzz=>zz.1.1) ⟨(w,n.natAbs,[]),Nat.le_refl _,by simp,by simp,by simp⟩ ?_ ?_
  .simp[Vs.LeL,Vs.look,Vs.aA,Vs.bL,Vs.aO,Vs.hset,Vs.aP,E]
   first|done|omega
  .rintro⟨⟨j1,k,done⟩,hj,hd,hk,hg⟩
   dsimp only at hj hd hk hg
   simp -dsimp only[go_sem,hd0]
   refine Br.mk (λhc=>?_) λhc=>?_
   .obtain⟨j,rfl⟩:∃j,j1=j+1:=⟨j1-1,by simp at hc;omega⟩
    have e1:(((j+1:Nat):Int)-1)=(j:Int):=by omega
    have hwj:IntKind.i64.wrap ((j:Int)-1)=(j:Int)-1:=aG (by omega) (by omega)
    have hkb:k<=1000000000000:=by rw[hk];exact Nat.le_trans (Nat.div_le_self _ _) (by omega)
    have hkd:k/10=n.natAbs/10 ^ (w-j):=by rw[hk,wO,show w-(j+1)+1=w-j by omega]
    have q1:((k:Int)).tmod 10=((k%10:Nat):Int):=by rw[Int.tmod_eq_emod_of_nonneg (by omega)];omega
    have q2:IntKind.i64.wrap (((k:Int)).tdiv 10)=((k/10:Nat):Int):=by rw[Int.tdiv_eq_ediv_of_nonneg (by omega),aG (by omega) (by omega)];omega
    have hgr:=aAG j done
    have hgs:=aAF j done (fJ (k%10))
    rw[pd,List.append_assoc] at hg
    repeat' first|simp -dsimp only[go_sem,e1,hgr,hgs,hwj,q1,q2,aJ,List.length_append,List.length_replicate,Int.toNat_natCast]|apply Br.mk<;>intro h<;>try simp -dsimp only[h]|refine aB.c (by first|exact z8 (k%10) (by omega)) ?_|refine aC ?_|refine aC9 ?_|fail
    all_goals(exact⟨⟨(j,k/10,fJ (k%10)::done),by omega,by simp only[List.length_cons];omega,hkd,hg⟩,by simp[Vs.LeL,Vs.look,Vs.aA,Vs.bL,Vs.aO,Vs.hset,Vs.aP],by simp only;omega⟩)
   .have hz:j1=0:=by simp at hc;omega
    subst hz
    rw[Nat.sub_zero] at hk
    have hdone:done=pd w n.natAbs:=by simpa[pd] using hg
    subst hdone
    have hlen:=pQ w n.natAbs
    have hne:(pd w n.natAbs).length≠0:=by omega
    have hnr:=aAL hne
    have hlg:=aAQ hne
    rw[hlen] at hnr hlg
    have hw1:IntKind.i64.wrap ((w:Int)-1)=((w-1:Nat):Int):=by rw[aG (by omega) (by omega)];omega
    have htk:List.take w (E cI (pd w n.natAbs))=E cI (pd w n.natAbs):=List.take_of_length_le (by simp[E,rH,pQ])
    simp -dsimp only[go_sem,hd0,hnr,hlg,hw1,hlen,aJ,Int.toNat_natCast,List.replicate_zero,List.nil_append,List.length_set]
    exact⟨⟨[.t 10 0],[],by rw[htk,hpt,hk],rfl⟩,λh=>h rfl⟩
end
section
variable [Vs.Envs]
attribute [local irreducible] Vs.Fn nxV nxS pkV pkS ptN
def nJ (b:ByteArray):List Int:=b.data.toList.map λx=>l03 x.toNat
theorem xW (b:ByteArray):(nJ b).length=b.size:=by
 show(b.data.toList.map _).length=b.data.size
 rw[List.length_map,Array.length_toList]
theorem aCo {b:ByteArray}{i:Nat} (h:i<b.size):l03 ((b.data.toList.getD i 0).toNat:Nat)=(nJ b)[i]'(by rw[xW];exact h):=by
 have h':i<b.data.toList.length:=by rw[Array.length_toList];exact h
 unfold nJ
 rw[List.getElem_map,List.getD_eq_getElem?_getD,List.getElem?_eq_getElem h']
 rfl
def gvC (i:Nat):AV:=if i=0 then .v (.slice none 0 0) else .loc (.t 19 0) 0 i
def ghC (b:ByteArray) (i:Nat):List (Vs.Name×Blk):=if i=0 then[] else[(.t 19 0,.arr 1 (E cI ((nJ b).take i)) false)]
attribute [local go_sem] Int.reduceBEq Int.reduceBNe cC aJ List.replicate_succ List.replicate_zero List.flatten_cons List.flatten_nil List.cons_append List.nil_append List.set_cons_zero List.set_cons_succ List.length_cons List.length_nil List.length_set List.mem_singleton List.mem_cons List.not_mem_nil or_false false_or Vs.Name.t.injEq List.getD_cons_zero List.getD_cons_succ in
theorem aD1 (t:ByteArray) (h0:0<t.size) (h1:t.size<=20):Vs.Fn Tryz.prog F.lK [] [.v (.string t)] (.agg [.loc (.b 0) 0 t.size]) [some (.arr 1 (E cI (nJ t)) false)]:=by
 have hcl:=xW t
 refine fn1 Cd.s_l03Card_k [.t 19 0] [.arr 1 (E cI (nJ t)) false] λX=>?_
 unfold Cd.lK
 repeat' first|simp -dsimp only[go_sem]|apply Br.mk<;>intro h<;>try simp -dsimp only[h]|refine aC ?_|refine aC9 ?_|fail
 refine bA.intro dM (X:={i:Nat // i<=t.size}) (λi=>⟨[(0,.v (.string t)),(2,.ptr (.t 2 0) 0 0),(3,.ptr (.t 3 0) 0 0),(4,.v (.int .i64 (i.1:Nat)))],(.t 3 0,.var [gvC i.1] false)::(.t 2 0,.var [.v (.slice none 0 0)] false)::ghC t i.1⟩) (λi=>t.size-i.1) ⟨0,by omega⟩ ?_ ?_
 .simp[Vs.LeL,Vs.look,Vs.aA,Vs.bL,Vs.aO,Vs.hset,Vs.aP,gvC,ghC]
 .rintro⟨i,hi⟩
  try dsimp only at hi
  rcases i with _|j
  .simp only[gvC,ghC,if_true]
   try simp -dsimp only[go_sem]
   refine Br.mk (λhc=>?_) λhc=>?_
   .have hlt:0<t.size:=h0
    have hw:IntKind.i64.wrap (((0:Nat):Int)+1)=((1:Nat):Int):=rfl
    have LC:=aCc ((t.data.toList.getD 0 0).toNat:Nat)
    rw[aCo hlt] at LC
    have hap:[[AV.v (.int .i64 ((nJ t)[0]'(by omega)))]]=E cI ((nJ t).take 1):=by rw[dP (show 0<(nJ t).length by omega)];rfl
    generalize(nJ t)[0]'(by omega)=cc at *
    repeat' first|simp -dsimp only[go_sem,hw,hap]|apply Br.mk<;>intro h<;>try simp -dsimp only[h]|refine aB.c (by first|exact LC) ?_|refine aC ?_|refine aC9 ?_|fail
    all_goals first|omega|(refine⟨⟨1,by omega⟩,?_,by simp only;omega⟩;simp[Vs.LeL,Vs.look,Vs.aA,Vs.bL,Vs.aO,Vs.hset,Vs.aP,gvC,ghC,hap];done)
   .have:¬0<t.size:=Dq
    omega
  .have e0:¬j+1=0:=by omega
   simp only[gvC,ghC,if_neg e0]
   have hal:(E cI ((nJ t).take (j+1))).length=j+1:=by rw[aJ];simp;omega
   have htk:(E cI ((nJ t).take (j+1))).take (j+1)=E cI ((nJ t).take (j+1)):=List.take_of_length_le (by omega)
   try simp -dsimp only[go_sem,hal,htk]
   refine Br.mk (λhc=>?_) λhc=>?_
   .have hlt:j+1<t.size:=Dq
    have hw:=aQ hlt (by omega)
    have LC:=aCc ((t.data.toList.getD (j+1) 0).toNat:Nat)
    rw[aCo hlt] at LC
    have hap:E cI ((nJ t).take (j+1))++[[AV.v (.int .i64 ((nJ t)[j+1]'(by omega)))]]=E cI ((nJ t).take (j+1+1)):=by rw[dP (show j+1<(nJ t).length by omega),bR];rfl
    generalize(nJ t)[j+1]'(by omega)=cc at *
    repeat' first|simp -dsimp only[go_sem,hw,hap,hal,htk]|apply Br.mk<;>intro h<;>try simp -dsimp only[h]|refine aB.c (by first|exact LC) ?_|refine aC ?_|refine aC9 ?_|fail
    all_goals first|omega|(refine⟨⟨j+1+1,by omega⟩,?_,by simp only;omega⟩;simp[Vs.LeL,Vs.look,Vs.aA,Vs.bL,Vs.aO,Vs.hset,Vs.aP,gvC,ghC,hap];done)
   .have hge:j+1=t.size:=by
     have:¬j+1<t.size:=Dq
     omega
    have hall:(nJ t).take (j+1)=nJ t:=List.take_of_length_le (by omega)
    rw[hall]
    rw[hall] at htk
    try simp -dsimp only[go_sem,hal,htk]
    all_goals first|omega|exact⟨_,_,rfl,rfl⟩|(refine⟨?_,λh=>h rfl⟩;rw[←hge];exact⟨_,_,rfl,rfl⟩)
end
section
variable [Vs.Envs]
attribute [local irreducible] Vs.Fn nxV nxS pkV pkS ptN
theorem aCA {k:Nat} (h:k<=1000):IntKind.i64.wrap (((k+1:Nat):Int)-1)=(k:Int):=by rw[aG (by omega) (by omega)];omega
def ORD:ByteArray:=⟨#[32,38,65,66,67,68,69,70,71,72,73,45,74,75,76,77,78,79,80,81,82,47,83,84,85,86,87,88,89,90,48,49,50,51,52,53,54,55,56,57]⟩
def SEV:ByteArray:=⟨#[65,66,48,49,32,74,90]⟩
theorem aGD:(⟨#[32,38,65,66,67,68,69,70,71,72,73,45,74,75,76,77,78,79,80,81,82,47,83,84,85,86,87,88,89,90,48,49,50,51,52,53,54,55,56,57]⟩:ByteArray)=ORD:=rfl
theorem aGC:(⟨#[65,66,48,49,32,74,90]⟩:ByteArray)=SEV:=rfl
theorem aEO:ORD.size=40:=rfl
theorem aEN:SEV.size=7:=rfl
def byA (b:ByteArray) (i:Int):Int:=((b.data.toList.getD i.toNat 0).toNat:Nat)
def dtU (l:List Int) (x:Sr):Int:=if pkV l x 3=0 then byA ORD (pkV l (pkS l x 3) 40) else byA SEV (pkV l (pkS l x 3) 7)
def dtS (l:List Int) (x:Sr):Sr:=if pkV l x 3=0 then pkS l (pkS l x 3) 40 else pkS l (pkS l x 3) 7
def dtF (l:List Int):Nat->Sr->List Int->List Int×Sr
 |0,x,o=>(o,x)
 |k+1,x,o=>dtF l k (dtS l x) (o++[dtU l x])
theorem aEm (l:List Int) (x:Sr):(dtS l x).p<=x.p+4:=by
 unfold dtS
 have h1:=aR l x 3
 have h2:=aR l (pkS l x 3) 40
 have h3:=aR l (pkS l x 3) 7
 split<;>omega
theorem aEn (l:List Int):∀(k:Nat) (x:Sr) (o:List Int),(dtF l k x o).1.length=o.length+k∧(dtF l k x o).2.p<=x.p+4*k
 |0,x,o=>⟨rfl,by simp[dtF]⟩
 | k+1,x,o=>by
  have ih:=aEn l k (dtS l x) (o++[dtU l x])
  have h1:=aEm l x
  rw[dtF]
  refine⟨?_,by omega⟩
  rw[ih.1,List.length_append];simp only[List.length_singleton];omega
theorem aCB (o:List Int):(kQ o).size=o.length:=by simp[kQ,ByteArray.size]
attribute [local irreducible] ORD SEV dtU dtS
attribute [local go_sem] Int.reduceBEq Int.reduceBNe cC aJ List.replicate_succ List.replicate_zero List.flatten_cons List.flatten_nil List.cons_append List.nil_append List.set_cons_zero List.set_cons_succ List.length_cons List.length_nil List.length_set List.mem_singleton List.mem_cons List.not_mem_nil or_false false_or Vs.Name.t.injEq List.getD_cons_zero List.getD_cons_succ bW bX eF List.append_nil List.flatMap_cons List.flatMap_nil aGD aGC aEO aEN in
theorem aAT (l:List Int) (x:Sr) (hl:byt l) (n:Nat) (hn:n<=20) (hp:x.p<=3000):Vs.Fn Tryz.prog F.fC [sB l x] [.ptr (.b 0) 0 0,.v (.int .i64 n)] (.v (.string (kQ (dtF l n x []).1))) [some (sB l (dtF l n x []).2)]:=by
 have OR:=aDZ
 have hall:dtF l n x []=dtF l (n-0) x []:=rfl
 generalize hR:dtF l n x []=R at *
 refine fn1 Cd.s_l03DrawText_k [.b 0] [sB l R.2] λX=>?_
 unfold Cd.fC
 repeat' first|simp -dsimp only[go_sem,sB]|apply Br.mk<;>intro h<;>try simp -dsimp only[h]|refine aB.c (by first|exact OR) ?_|refine aC ?_|refine aC9 ?_|fail
 refine bA.at dM (X:={zz:Nat×Sr×List Int // zz.1<=n∧(zz.2.1.p+4*(n-zz.1)<=3100)∧(zz.2.2.length=zz.1)∧dtF l (n-zz.1) zz.2.1 zz.2.2=R}) (λzz=>[(6,.loc (.t 6 0) 0 zz.1.2.2.length),(7,.v (.int .i64 (zz.1.1:Nat)))]) (λzz=>[(.b 0,sB l zz.1.2.1),(.t 6 0,.arr 1 (E cU zz.1.2.2) false)]) (λzz=>n-zz.1.1) ⟨(0,x,[]),by dsimp only;omega,by dsimp only;omega,rfl,by dsimp only;rw[←hR];rfl⟩ ?_ ?_
 .simp[Vs.LeL,Vs.look,Vs.aA,Vs.bL,Vs.aO,Vs.hset,Vs.aP,Vs.E,sB]
 .rintro⟨⟨i,y,o⟩,hi,hk1,hk2,hr⟩
  dsimp only at hi hk1 hk2 hr
  simp -dsimp only[go_sem,sB]
  refine Br.mk (λhc=>?_) λhc=>?_
  .have hlt:i<n:=Dq
   have hw:IntKind.i64.wrap ((i:Int)+1)=((i+1:Nat):Int):=by rw[aG (by omega) (by omega)];omega
   rw[show n-i=(n-i-1)+1 by omega,dtF] at hr
   have q1:=aR l y 3
   have P1:=one l y hl 3 (by omega)
   by_cases hz:pkV l y 3=0
   .have e1:(pkV l y 3==0)=true:=by simp[hz]
    rw[e1] at P1
    have v2:=bC hl (pkS l y 3) (n:=40) (by omega)
    have P2:=pick l (pkS l y 3) hl 40 (by omega)
    have hu:dtU l y=byA ORD (pkV l (pkS l y 3) 40):=by unfold dtU;rw[if_pos hz]
    have hs:dtS l y=pkS l (pkS l y 3) 40:=by unfold dtS;rw[if_pos hz]
    unfold byA at hu
    have hq:=aEm l y
    rw[hs] at hq
    rw[hs,hu] at hr
    generalize pkV l (pkS l y 3) 40=i2 at *
    generalize pkS l (pkS l y 3) 40=y2 at *
    obtain⟨u,hu0⟩:∃u:Nat,((ORD).data.toList.getD i2.toNat 0).toNat=u:=⟨_,rfl⟩
    rw[hu0] at hr
    have hap:E cU o++[[.v (.int .u8 (u:Nat))]]=E cU (o++[(u:Int)]):=by rw[bR];rfl
    repeat' first|simp -dsimp only[go_sem,hw,hap,hu0,sB]|apply Br.mk<;>intro h<;>try simp -dsimp only[h]|refine aB.bor (by first|exact P1|exact P2) rfl ?_|refine aB.c (by first|exact OR) ?_|refine aC ?_|refine aC9 ?_|fail
    all_goals first|omega|(refine⟨⟨(i+1,y2,o++[(u:Int)]),by dsimp only;omega,by dsimp only;omega,by dsimp only;rw[List.length_append];simp only[List.length_singleton];omega,by rw[show n-(i+1)=n-i-1 by omega];exact hr⟩,?_,by simp only;omega⟩;simp[Vs.LeL,Vs.look,Vs.aA,Vs.bL,Vs.aO,Vs.hset,Vs.aP,Vs.E,sB,cU];done)
   .have e1:(pkV l y 3==0)=false:=by simp[hz]
    rw[e1] at P1
    have v2:=bC hl (pkS l y 3) (n:=7) (by omega)
    have P2:=pick l (pkS l y 3) hl 7 (by omega)
    have hu:dtU l y=byA SEV (pkV l (pkS l y 3) 7):=by unfold dtU;rw[if_neg hz]
    have hs:dtS l y=pkS l (pkS l y 3) 7:=by unfold dtS;rw[if_neg hz]
    unfold byA at hu
    have hq:=aEm l y
    rw[hs] at hq
    rw[hs,hu] at hr
    generalize pkV l (pkS l y 3) 7=i2 at *
    generalize pkS l (pkS l y 3) 7=y2 at *
    obtain⟨u,hu0⟩:∃u:Nat,((SEV).data.toList.getD i2.toNat 0).toNat=u:=⟨_,rfl⟩
    rw[hu0] at hr
    have hap:E cU o++[[.v (.int .u8 (u:Nat))]]=E cU (o++[(u:Int)]):=by rw[bR];rfl
    repeat' first|simp -dsimp only[go_sem,hw,hap,hu0,sB]|apply Br.mk<;>intro h<;>try simp -dsimp only[h]|refine aB.bor (by first|exact P1|exact P2) rfl ?_|refine aB.c (by first|exact OR) ?_|refine aC ?_|refine aC9 ?_|fail
    all_goals first|omega|(refine⟨⟨(i+1,y2,o++[(u:Int)]),by dsimp only;omega,by dsimp only;omega,by dsimp only;rw[List.length_append];simp only[List.length_singleton];omega,by rw[show n-(i+1)=n-i-1 by omega];exact hr⟩,?_,by simp only;omega⟩;simp[Vs.LeL,Vs.look,Vs.aA,Vs.bL,Vs.aO,Vs.hset,Vs.aP,Vs.E,sB,cU];done)
  .have hge:i=n:=by
    have:¬i<n:=Dq
    omega
   subst hge
   rw[Nat.sub_self,dtF] at hr
   subst hr
   have hno:Vs.mI (E cU o)=some o:=aAJ o
   simp -dsimp only[go_sem,sB,hno]
   all_goals first|exact⟨⟨_,_,rfl,rfl⟩,λh=>h rfl⟩
end
end Go.Proofs.YtfoddghhlagenaaGreatDoor
