/- The reference's number of a field. -/
import Derived.Test.YtklmdppgonhflaaGreatDoorVsI
import Derived.Test.YtklmdppgonhflaaGreatDoorXwF
import Derived.Test.YtklmdppgonhflaaGreatDoorVtP
import Derived.Test.YtklmdppgonhflaaGreatDoorXuR
set_option linter.all false
set_option maxHeartbeats 8000000
namespace Go.Proofs.YtklmdppgonhflaaGreatDoor
open Go.Vs
section
variable [Vs.Tab 0 Vs.powP]
attribute [local irreducible] Vs.Fn
theorem W_nat {n:Nat} (h:n<2 ^ 63):W n=n:=aI (by omega) (by omega)
theorem aN0 {n:Nat} (h:n<2 ^ 63) (k:Nat):wl (k+1) n=((n%10:Nat):Int)::wl k ((n/10:Nat):Int):=by
 have F:((n:Int)).tmod 10=((n%10:Nat):Int):=by rw[Int.tmod_eq_emod_of_nonneg (by omega)];omega
 have h2:((n:Int)).tdiv 10=((n/10:Nat):Int):=by rw[Int.tdiv_eq_ediv_of_nonneg (by omega)];omega
 rw[wl,F,h2,W_nat (by omega)]
theorem aKf:∀(k n:Nat),n<10 ^ k->n<2 ^ 63->aAQ (wl k n)=dsN n∧∀x,x∈wl k (n:Int)->0<=x∧x<=9
 | 0,n,h,_=>by
  have:n=0:=by simpa using h
  subst this;simp[wl,aAQ,wN]
 | k+1,n,h,h63=>by
  rw[Nat.pow_succ] at h;obtain⟨G,h2⟩:=aKf k (n/10) (by omega) (by omega);rw[aN0 h63,aAQ,G,aIP n];refine⟨by omega,λx F=>?_⟩;rcases Am.1 F with rfl|F
  .omega
  .exact h2 x F
theorem absOf (n:Int) (H:-9223372036854775807<=n) (I:n<=9223372036854775807):Fz F.aAm [.v (.int .i64 n)] (.v (.int .i64 n.natAbs)):=by
 have G:IntKind.i64.wrap (0-n)=-n:=by rw[aI (by omega) (by omega)];omega
 refine fn0 Cd.i_absOf_k λX=>?_;simp -dsimp only[go_sem];refine aR ?_;simp only[G,AV.v.injEq,Value.int.injEq,Ck];split<;>omega
theorem aHH (n:Int) (H:-9223372036854775807<=n) (G:n<=9223372036854775807):Fz F.eZ [.v (.int .i64 n),.v (.int .i64 10)] (.v (.string ⟨(Lib.itoa n).toArray⟩)):=by
 refine fn0 Cd.strconv_FormatInt_k λX=>?_
 repeat' first|simp -dsimp only[go_sem]|apply Br.mk<;>intro h<;>try simp -dsimp only[h]|refine aA.c (by first|exact aEI n (by omega) G) ?_|refine aC ?_|refine aC9 ?_|fail
 all_goals(simp_all)
theorem decimal (n:Int) (G:-9223372036854775807<=n) (H:n<=9223372036854775807):Fz F.l5 [.v (.int .i64 n)] (.v (.string ⟨(Lib.itoa n).toArray⟩)):=by
 refine fn0 Cd.i_Decimal_k λX=>?_
 repeat' first|simp -dsimp only[go_sem]|apply Br.mk<;>intro h<;>try simp -dsimp only[h]|refine aA.c (by first|exact aHH n G H) ?_|refine aC ?_|refine aC9 ?_|fail
 all_goals(simp_all)
theorem digitsOf (n:Nat) (G:n<2 ^ 63):Fz F.tZ [.v (.int .i64 (n:Int))] (.v (.int .i64 (Lib.nDigits n:Nat))):=by
 refine fn0 Cd.i_digitsOf_k λX=>?_
 repeat' first|simp -dsimp only[go_sem]|apply Br.mk<;>intro h<;>try simp -dsimp only[h]|refine aA.c (by first|exact decimal _ (by omega) (by omega)) ?_|refine aC ?_|refine aC9 ?_|fail
 all_goals((refine aR ?_;simp[ByteArray.size,Lib.itoa_nonneg,Lib.decDigits_length]))
theorem aDw {n:Nat} (G:n<2 ^ 63):Lib.nDigits n<=19:=by
 have h:∀(k m:Nat),m<10 ^ (k+1)->Lib.nDigits m<=k+1:=by
  intro k
  induction k with
  |zero=>intro m F;rw[Lib.nDigits_small (by simpa using F)];omega
  | succ k ih =>
   intro m F;by_cases h:m<10
   .rw[Lib.nDigits_small h];omega
   .rw[Lib.nDigits_big h];have:=ih (m/10) (by rw[Nat.pow_succ] at F;omega);omega
 exact h 18 n (by omega)
theorem aJ1 (n:Int) (G:-9223372036854775807<=n) (H:n<=9223372036854775807):Fz F.rA [.v (.int .i64 n)] (.sl 1 (E cI (wl (Lib.nDigits n.natAbs) n.natAbs))):=by
 refine fn0 Cd.i_digitList_k λX=>?_
 repeat' first|simp -dsimp only[go_sem]|apply Br.mk<;>intro h<;>try simp -dsimp only[h]|refine aA.c (by first|exact absOf n G H|exact digitsOf n.natAbs (by omega)|exact aG1 (Lib.nDigits n.natAbs) _ (by have:=aDw (n:=n.natAbs) (by omega);omega)) ?_|refine aC ?_|refine aC9 ?_|fail
 all_goals(exact⟨_,_,rfl,rfl⟩)
theorem aGE (n:Int) (h0:-9223372036854775807<=n) (h1:n<=9223372036854775807):Fz F.uA [.v (.int .i64 n)] (.v (.int .i64 (dsN n.natAbs))):=by
 have hk:=aDw (n:=n.natAbs) (by omega);obtain⟨hsum,hdig⟩:=aKf (Lib.nDigits n.natAbs) n.natAbs (Lib.lt_pow_nDigits _) (by omega);have hlen:=aBC (Lib.nDigits n.natAbs) n.natAbs;have hds:=aHM n.natAbs;refine fn0 Cd.i_digitSum_k λX=>?_;simp -dsimp only[go_sem];refine aA.pure (aJ1 n h0 h1) ?_;generalize wl (Lib.nDigits n.natAbs) n.natAbs=l at *
 simp -dsimp only[go_sem];refine aP.at dM (X:={zz:Nat×(Int) // zz.1<=l.length∧0<=zz.2∧zz.2+aAQ (l.drop zz.1)=aAQ l}) (λzz=>[(3,.v (.int .i64 zz.1.2)),(9,.v (.int .i64 zz.1.1))]) (λzz=>[]) (λzz=>l.length-zz.1.1) ⟨(0,0),by omega,by simp⟩ ?_ ?_
 .exact le0
 .rintro⟨⟨i,a⟩,hi,hg⟩;dsimp only at hi hg;simp -dsimp only[go_sem];refine Br.mk (λhc=>?_) λhc=>?_
  .have hlt:i<l.length:=Dq;have hw:=aJ hlt (by omega);have hx:=hdig _ (Aa hlt);have hnn:=aG4 (λx hx=>(hdig x hx).1) (i+1) (l:=l);rw[aJi hlt] at hg;have hwa:IntKind.i64.wrap (a+l[i])=a+l[i]:=aI (by omega) (by omega);simp -dsimp only[go_sem,dI hlt];refine⟨⟨by omega,by omega⟩,?_⟩;simp -dsimp only[go_sem,hw,hwa];exact nx (i+1,a+l[i]) (⟨by dsimp only;omega,by dsimp only;omega⟩)
  .have hge:i=l.length:=by
    have:¬i<l.length:=Dq;omega
   subst hge;simp -dsimp only[go_sem]
   have:a=dsN n.natAbs:=by
    have:=hg.2;rw[De,aAQ,hsum] at this;omega
   simp[this]
theorem aEy (z:Int) (h0:-4611686018427387903<=z) (h1:z<=4611686018427387903):Fz F.qL [.v (.int .i64 z)] (.v (.int .i64 (dsN z.natAbs))):=by
 obtain⟨n,hn⟩:∃n:Nat,z.natAbs=n:=⟨_,rfl⟩;have hn62:n<2 ^ 62:=by omega
 refine fn0 Cd.s_l18Digits_k λX=>?_;simp -dsimp only[go_sem];rw[hn];refine Br.mk (λh=>?_) λh=>?_
 .have hz:IntKind.i64.wrap (0-z)=(n:Int):=by
   simp at h;rw[aI (by omega) (by omega)];omega
  simp -dsimp only[go_sem,hz];refine aP.at dM (X:={zz:Nat×Nat // zz.2+dsN zz.1=dsN n∧zz.1<=n}) (λzz=>[(0,.v (.int .i64 zz.1.1)),(3,.v (.int .i64 zz.1.2))]) (λ_=>[]) (λzz=>zz.1.1) ⟨(n,0),by simp,Au _⟩ ?_ ?_
  .exact le0
  .rintro⟨⟨m,s⟩,hg,hm⟩;dsimp only at hg hm;simp -dsimp only[go_sem];refine Br.mk (λhc=>?_) λhc=>?_
   .have hpos:m≠0:=by simp at hc;omega
    rw[aCY hpos] at hg;have hle:=aHM n;have h1:((m:Int)).tmod 10=((m%10:Nat):Int):=by rw[Int.tmod_eq_emod_of_nonneg (by omega)];omega
    have h2:IntKind.i64.wrap (((m:Int)).tdiv 10)=((m/10:Nat):Int):=by rw[Int.tdiv_eq_ediv_of_nonneg (by omega),aI (by omega) (by omega)];omega
    have h3:IntKind.i64.wrap ((s:Int)+((m%10:Nat):Int))=((s+m%10:Nat):Int):=by rw[aI (by omega) (by omega)];omega
    repeat' first|simp -dsimp only[go_sem,h1,h2,h3]|apply Br.mk<;>intro h<;>try simp -dsimp only[h]|refine aC ?_|refine aC9 ?_|fail
    exact⟨⟨(m/10,s+m%10),by dsimp only;omega,by dsimp only;omega⟩,by simp[Vs.LeL,Vs.look,aB,aQ,aK,Vs.hset,aL],by simp only;omega⟩
   .have h0:m=0:=by simp at hc;omega
    subst h0;rw[wN] at hg;simp -dsimp only[go_sem];simp[←hg]
 .have hz:z=(n:Int):=by simp at h;omega
  subst hz;simp -dsimp only[go_sem];refine aP.at dM (X:={zz:Nat×Nat // zz.2+dsN zz.1=dsN n∧zz.1<=n}) (λzz=>[(0,.v (.int .i64 zz.1.1)),(3,.v (.int .i64 zz.1.2))]) (λ_=>[]) (λzz=>zz.1.1) ⟨(n,0),by simp,Au _⟩ ?_ ?_
  .exact le0
  .rintro⟨⟨m,s⟩,hg,hm⟩;dsimp only at hg hm;simp -dsimp only[go_sem];refine Br.mk (λhc=>?_) λhc=>?_
   .have hpos:m≠0:=by simp at hc;omega
    rw[aCY hpos] at hg;have hle:=aHM n;have h1:((m:Int)).tmod 10=((m%10:Nat):Int):=by rw[Int.tmod_eq_emod_of_nonneg (by omega)];omega
    have h2:IntKind.i64.wrap (((m:Int)).tdiv 10)=((m/10:Nat):Int):=by rw[Int.tdiv_eq_ediv_of_nonneg (by omega),aI (by omega) (by omega)];omega
    have h3:IntKind.i64.wrap ((s:Int)+((m%10:Nat):Int))=((s+m%10:Nat):Int):=by rw[aI (by omega) (by omega)];omega
    repeat' first|simp -dsimp only[go_sem,h1,h2,h3]|apply Br.mk<;>intro h<;>try simp -dsimp only[h]|refine aC ?_|refine aC9 ?_|fail
    exact⟨⟨(m/10,s+m%10),by dsimp only;omega,by dsimp only;omega⟩,by simp[Vs.LeL,Vs.look,aB,aQ,aK,Vs.hset,aL],by simp only;omega⟩
   .have h0:m=0:=by simp at hc;omega
    subst h0;rw[wN] at hg;simp -dsimp only[go_sem];simp[←hg]
end
section
variable [Vs.Envs]
attribute [local irreducible] Vs.Fn
def aAu (i:Nat):Int:=((4*2 ^ i:Nat):Int)
theorem shl4 {i:Nat} (hi:i<10):IntKind.i64.wrap (4*2 ^ (min i IntKind.i64.bits))=aAu i:=by
 have:i=0∨i=1∨i=2∨i=3∨i=4∨i=5∨i=6∨i=7∨i=8∨i=9:=by omega
 rcases this with rfl|rfl|rfl|rfl|rfl|rfl|rfl|rfl|rfl|rfl<;>decide
theorem u64I {i:Nat} (hi:i<10):IntKind.u64.wrap (i:Int)=(i:Int):=by
 have:i=0∨i=1∨i=2∨i=3∨i=4∨i=5∨i=6∨i=7∨i=8∨i=9:=by omega
 rcases this with rfl|rfl|rfl|rfl|rfl|rfl|rfl|rfl|rfl|rfl<;>decide
theorem aNT (i:Nat) (hi:i<10):Fz F.fA [.v (.int .i64 (i:Int))] (.v (.int .i64 (aAu i))):=by
 have G:((i:Int)==12)=false:=AB.2 (by omega);have H:((i:Int)==11)=false:=AB.2 (by omega);have I:inB i 0 9=true:=by simp[inB];omega
 have J:=shl4 hi;have M:=u64I hi;have O:(0:Int)<=(i:Int):=by omega
 refine fn0 Cd.i_bitOf_k λX=>?_
 repeat' first|simp -dsimp only[go_sem,G,H,I,J,M,O]|apply Br.mk<;>intro h<;>try simp -dsimp only[h]|refine aA.c (by first|exact inside _ _ _) ?_|refine aC ?_|refine aC9 ?_|fail
 all_goals first|(simp_all;done)|(simp_all;exact shl4 hi)
theorem aFq (i:Nat) (hi:i<10):Fz F.jP [.v (.int .i64 (i:Int))] (.v (.int .i64 (aAu i))):=by
 have G:((i:Int)==12)=false:=AB.2 (by omega);have H:((i:Int)==11)=false:=AB.2 (by omega);have I:inB i 0 9=true:=by simp[inB];omega
 have J:=shl4 hi;have M:=u64I hi;have O:(0:Int)<=(i:Int):=by omega
 refine fn0 Cd.s_l02Bit_k λX=>?_
 repeat' first|simp -dsimp only[go_sem,G,H,I,J,M,O]|apply Br.mk<;>intro h<;>try simp -dsimp only[h]|refine aA.c (by first|exact yV _ _ _) ?_|refine aC ?_|refine aC9 ?_|fail
 all_goals first|(simp_all;done)|(simp_all;exact shl4 hi)
theorem aI1  : Fz F.fA [.v (.int .i64 11)] (.v (.int .i64 2)):=by
 refine fn0 Cd.i_bitOf_k λX=>?_
 repeat' first|simp -dsimp only[go_sem]|apply Br.mk<;>intro h<;>try simp -dsimp only[h]|refine aA.c (by first|exact inside _ _ _) ?_|refine aC ?_|refine aC9 ?_|fail
 all_goals(simp_all)
def dgF (m:Int):Nat->Nat->Int
 |0,_=>-1
 |k+1,i=>if aAu i=m then i else dgF m k (i+1)
def dg (m:Int):Int:=dgF m 10 0
theorem aLU (m:Int):∀(k i:Nat),k+i=10->-1<=dgF m k i∧dgF m k i<=9
 |0,_,_=>by simp[dgF]
 | k+1,i,h=>by
  rw[dgF];split
  .omega
  .exact aLU m k (i+1) (by omega)
theorem dg_in (m:Int):-1<=dg m∧dg m<=9:=aLU m 10 0 rfl
theorem aGF (m:Int) {i:Nat} (hi:i<10):dgF m (10-i) i=if aAu i=m then(i:Int) else dgF m (10-(i+1)) (i+1):=by
 rw[show 10-i=(10-(i+1))+1 by omega,dgF]
theorem aCZ (m:Int):Fz F.wF [.v (.int .i64 m)] (.v (.int .i64 (dg m))):=by
 refine fn0 Cd.i_digitOf_k λX=>?_;simp -dsimp only[go_sem];refine aP.at dM (X:={zz:Nat×(Unit) // zz.1<=10∧dgF m (10-zz.1) zz.1=dg m}) (λzz=>[(4,.v (.int .i64 zz.1.1))]) (λzz=>[]) (λzz=>10-zz.1.1) ⟨(0,()),by omega,rfl⟩ ?_ ?_
 .exact le0
 .rintro⟨⟨i,a⟩,hi,hg⟩;dsimp only at hi hg;simp -dsimp only[go_sem];refine Br.mk (λhc=>?_) λhc=>?_
  .have hlt:i<10:=Dq;have hw:=aJ hlt (by omega);rw[aGF m hlt] at hg;by_cases he:aAu i=m
   .have hb:(aAu i==m)=true:=BO.2 (by simp[he]);rw[AP he] at hg
    repeat' first|simp -dsimp only[go_sem,hw,hb]|apply Br.mk<;>intro h<;>try simp -dsimp only[h]|refine aA.c (by first|exact aNT i hlt) ?_|refine aC ?_|refine aC9 ?_|fail
    all_goals simp[hg]
   .have hb:(aAu i==m)=false:=AB.2 (λe=>he (by simp[e]));rw[AC he] at hg
    repeat' first|simp -dsimp only[go_sem,hw,hb]|apply Br.mk<;>intro h<;>try simp -dsimp only[h]|refine aA.c (by first|exact aNT i hlt) ?_|refine aC ?_|refine aC9 ?_|fail
    all_goals(exact nx (i+1,()) hg)
  .have hge:i=10:=by
    have:¬i<10:=Dq;omega
   subst hge;simp -dsimp only[go_sem];have:dg m=-1:=by rw[←hg];rfl
   simp[this]
theorem mM (m:Int):Fz F.sS [.v (.int .i64 m)] (.v (.int .i64 (dg m))):=by
 refine fn0 Cd.s_l03Digit_k λX=>?_;simp -dsimp only[go_sem];refine aP.at dM (X:={zz:Nat×(Unit) // zz.1<=10∧dgF m (10-zz.1) zz.1=dg m}) (λzz=>[(3,.v (.int .i64 zz.1.1))]) (λzz=>[]) (λzz=>10-zz.1.1) ⟨(0,()),by omega,rfl⟩ ?_ ?_
 .exact le0
 .rintro⟨⟨i,a⟩,hi,hg⟩;dsimp only at hi hg;simp -dsimp only[go_sem];refine Br.mk (λhc=>?_) λhc=>?_
  .have hlt:i<10:=Dq;have hw:=aJ hlt (by omega);rw[aGF m hlt] at hg;by_cases he:aAu i=m
   .have hb:(m==aAu i)=true:=BO.2 (by simp[he]);rw[AP he] at hg
    repeat' first|simp -dsimp only[go_sem,hw,hb]|apply Br.mk<;>intro h<;>try simp -dsimp only[h]|refine aA.c (by first|exact aFq i hlt) ?_|refine aC ?_|refine aC9 ?_|fail
    all_goals simp[hg]
   .have hb:(m==aAu i)=false:=AB.2 (λe=>he (by simp[e]));rw[AC he] at hg
    repeat' first|simp -dsimp only[go_sem,hw,hb]|apply Br.mk<;>intro h<;>try simp -dsimp only[h]|refine aA.c (by first|exact aFq i hlt) ?_|refine aC ?_|refine aC9 ?_|fail
    all_goals(exact nx (i+1,()) hg)
  .have hge:i=10:=by
    have:¬i<10:=Dq;omega
   subst hge;simp -dsimp only[go_sem];have:dg m=-1:=by rw[←hg];rfl
   simp[this]
theorem aB1 (l:List Int) (G:l.length<=1048576):Vs.Fn Tryz.prog F.lM [] [.sl 1 (E cI l)] (.loc (.b 0) 0 l.length) [some (.arr 1 (E cI l) false)]:=by
 refine fn1 Cd.i_copyInts_k [.t 5 0] [.arr 1 (E cI l) false] λX=>?_;unfold Cd.lM;simp -dsimp only[go_sem,Af,Ag,Ao,Aq];exact⟨by omega,⟨by omega,by omega⟩,⟨_,_,rfl,rfl⟩⟩
theorem aNW {α:Type}{c:α->List AV} (l:List α) (a b:Nat):E c ((l.take a).drop b)=((E c l).take a).drop b:=by simp[E,CG,CJ]
theorem part (c:List Int) (fr to:Int) (G:0<=fr) (H:fr<=to) (h2:to<=c.length):Fz F.nL [.ro (cC c),.agg [.v (.int .i64 fr),.v (.int .i64 to)]] (.sl 1 (E cI ((c.take to.toNat).drop fr.toNat))):=by
 refine fn0 Cd.s_l02Part_k λX=>?_
 repeat' first|simp -dsimp only[go_sem,cC]|apply Br.mk<;>intro h<;>try simp -dsimp only[h]|refine aC ?_|refine aC9 ?_|fail
 all_goals exact aR (by rw[aNW])
end
section
variable [Vs.Envs]
attribute [local irreducible] Vs.Fn
theorem aA.own {P:Program}{f:FuncId}{ys:List AV}{d:Option Nat}{σ:St}{K:St->Prop}{t:Tag K}{r:AV}{hout:List (Option Blk)} (F:Vs.Fn P f [] ys r hout) (G:jB (d.getD 0) 0 hout.length σ=true)
  (H:K ⟨put d (rn (phi [] (d.getD 0) hout.length) r) σ.s,yA σ.h [] (d.getD 0) hout true []⟩):aA P f [] ys [] d σ [] K t:=
 ⟨r,hout,true,F,λh=>(by cases h),G,H⟩
def nGo:List Int->Int->Bool->Option (Int×Bool)
 | [],n,b=>some (n,b)
 |m::r,n,b=>if m=0∧b=false then nGo r n b else if dg m<0 then none else nGo r (W (W (10*n)+dg m)) true
def nB (x:Int):Bool:=fU .and .i64 x 2 != 0
def nY (x:Int):Int:=fU .andNot .i64 x 2
def vP (u:List Int) (x:Int):Int×Bool:=
 if (u++[x]).any (λz=>z != 0) then
  match nGo (u++[nY x]) 0 false with
  |none=>(0,false)
  |some (n,b)=>if !b||(nY x==0||(nB x&&n==0)) then(0,false) else(if nB x then W (0-n) else n,true)
 else(0,true)
theorem aMU (u v:List Int):∀(n:Int) (b:Bool),nGo (u++v) n b=(nGo u n b).bind λp=>nGo v p.1 p.2:=by
 induction u with
 |nil=>intro n b;rfl
 | cons m r ih =>
  intro n b;simp only[Ae,nGo];split
  .exact ih _ _
  .split
   .rfl
   .exact ih _ _
theorem nGo_t (u:List Int):∀(n:Int),nGo u n true=none∨∃k,nGo u n true=some (k,true):=by
 induction u with
 |nil=>intro n;exact .inr ⟨n,rfl⟩
 | cons m r ih =>
  intro n;simp only[nGo,Bool.true_eq_false,and_false,Bc];split
  .exact .inl rfl
  .exact ih _
theorem nGo_f (u:List Int):∀(n:Int),(u.any (λz=>z != 0)=false∧nGo u n false=some (n,false))∨(u.any (λz=>z != 0)=true∧(nGo u n false=none∨∃k,nGo u n false=some (k,true))):=by
 induction u with
 |nil=>intro n;exact .inl ⟨rfl,rfl⟩
 | cons m r ih =>
  intro n;simp only[nGo,List.any_cons,and_true];by_cases F:m=0
  .subst F;simpa using ih n
  .rw[AC F];refine .inr ⟨by simp[F],?_⟩;split
   .exact .inl rfl
   .exact nGo_t r _
theorem aOr (u:List Int):∀(k:Nat) (n:Int) (b:Bool) (F:Int) (G:Bool),k+u.length<=12->0<=n->n<(10 ^ k:Nat)->nGo u n b=some (F,G)->0<=F∧F<(10 ^ 12:Nat):=by
 induction u with
 | nil =>
  intro k n b F G H I O h;simp only[nGo,Ab,AL] at h;have:10 ^ k<=10 ^ 12:=Nat.pow_le_pow_right (by omega) (by simpa using H);omega
 | cons m r ih =>
  intro k n b F G H I O h;simp only[Ac] at H;have V:10 ^ (k+1)<=10 ^ 12:=Nat.pow_le_pow_right (by omega) (by omega);have Y:10 ^ (k+1)=10 ^ k*10:=Nat.pow_succ ..
  simp only[nGo] at h;split at h
  .exact ih (k+1) n b F G (by omega) I (by omega) h
  .split at h
   .cases h
   .have U:=dg_in m;have J:W (10*n)=10*n:=aI (by omega) (by omega);have M:W (W (10*n)+dg m)=10*n+dg m:=by rw[J];exact aI (by omega) (by omega)
    rw[M] at h;exact ih (k+1) _ _ F G (by omega) (by omega) (by omega) h
theorem aMS (u:List Int) (x:Int) (G:u.length+1<=12):-1000000000000<=(vP u x).1∧(vP u x).1<=1000000000000:=by
 unfold vP;split
 .split
  .simp
  .rename_i n b F;have:=aOr (u++[nY x]) 0 0 false n b (by simp;omega) (by omega) (by simp) F;split
   .simp
   .dsimp only;split
    .have e:W (0-n)=0-n:=aI (by omega) (by omega);rw[e];omega
    .omega
 .simp
set_option maxRecDepth 20000 in
theorem bits2:∀a,a<64->∀b,b<64->(if nB ((64*a+b:Nat):Int)=true then nY ((64*a+b:Nat):Int)=((64*a+b:Nat):Int)-2∧2<=64*a+b else nY ((64*a+b:Nat):Int)=((64*a+b:Nat):Int)):=by
 decide +kernel
theorem bit2 (x:Int) (F:0<=x) (G:x<=4095):if nB x=true then nY x=x-2∧2<=x else nY x=x:=by
 obtain⟨n,rfl⟩:∃n:Nat,x=n:=⟨x.toNat,by omega⟩;have:=bits2 (n/64) (by omega) (n%64) (by omega);rw[show 64*(n/64)+n%64=n by omega] at this;split at this<;>split<;>first|omega|(rename_i a b;exact absurd a b)|(rename_i a b;exact absurd b a)
theorem aJy (x:Int):Fz F.fQ [.v (.int .i64 x)] (.v (.bool (x != 0))):=by
 refine fn0 Cd.i_numberIn_1_k λX=>?_
 repeat' first|simp -dsimp only[go_sem]|apply Br.mk<;>intro h<;>try simp -dsimp only[h]|refine aC ?_|refine aC9 ?_|fail
 all_goals(simp_all)
theorem lK (l:List Int) (G:l.length<=1048576):Fz F.kF [.sl 1 (E cI l),.fn F.fQ []] (.v (.int .i64 (uW (λz=>z != 0) l))):=
 aHy Tryz.mixed Cd.ixf_int64_k.o Cd.ixf_int64_k.n Cd.ixf_int64_k.r rfl (λz=>z != 0) F.fQ [] rfl (λx H=>aJy x) G
theorem conN (l:List Int) (G:l.length<=1048576):Fz F.l6 [.sl 1 (E cI l),.fn F.fQ []] (.v (.bool (l.any (λz=>z != 0)))):=
 aGJ Tryz.mixed (g:=F.kF) Cd.ctf_int64_k.o Cd.ctf_int64_k.n Cd.ctf_int64_k.r rfl (λz=>z != 0) F.fQ [] rfl (lK l G)
theorem aK4 (c:List Int) (fr to:Int) (u:List Int) (x:Int) (h0:0<=fr) (h1:fr<=to) (h2:to<=c.length) (hp:(c.take to.toNat).drop fr.toNat=u++[x]) (hu:u.length+1<=12):Fz F.nH [.agg (cC c),.agg [.v (.int .i64 fr),.v (.int .i64 to)]] (.tup [.v (.int .i64 (vP u x).1),.v (.bool (vP u x).2)]):=by
 obtain⟨l,hl⟩:∃l:List Int,u++[x]=l:=⟨_,rfl⟩;obtain⟨M,hM⟩:∃M:List Int,u++[nY x]=M:=⟨_,rfl⟩;have hll:l.length=u.length+1:=by rw[←hl];simp
 have hML:M.length=u.length+1:=by rw[←hM];simp
 have hE:List.drop fr.toNat (List.take to.toNat (E cI c))=E cI l:=by rw[←aNW,hp,hl]
 have hw1:IntKind.i64.wrap ((l.length:Int)-1)=(u.length:Int):=by rw[aI (by omega) (by omega)];omega
 have hx:(E cI l).getD u.length []=[.v (.int .i64 x)]:=by rw[←hl];simp[E,cI,List.getD]
 have hst:(E cI l).set u.length [.v (.int .i64 (fU .andNot .i64 x 2))]=E cI M:=by rw[←hl,←hM];simp[E,cI,nY]
 have hB:(fU .and .i64 x 2 != 0)=nB x:=rfl;have hXM:(E cI M).getD u.length []=[.v (.int .i64 (nY x))]:=by rw[←hM];simp[E,cI,List.getD]
 refine fn0 Cd.i_numberIn_k λX=>?_;simp -dsimp only[go_sem,cC];refine⟨⟨by omega,by omega,by simpa using h2⟩,?_⟩;simp -dsimp only[go_sem,hE];refine aA.own (aB1 l (by omega)) rfl ?_;by_cases ha:l.any (λz=>z != 0)=true
 .simp -dsimp only[go_sem,hw1,hx,hst,ha,hB]
  repeat' first|simp -dsimp only[go_sem,hw1,hx,hst,ha,hB]|apply Br.mk<;>intro h<;>try simp -dsimp only[h]|refine aA.c (by first|exact aB1 l (by omega)|exact conN l (by omega)|exact aI1) ?_|refine aC ?_|refine aC9 ?_|fail
  refine aP.at dM (X:={zz:Nat×(Int×Bool) // zz.1<=l.length∧nGo (M.drop zz.1) zz.2.1 zz.2.2=nGo M 0 false}) (λzz=>[(44,.v (.int .i64 zz.1.1)),(9,.v (.int .i64 zz.1.2.1)),(10,.v (.bool zz.1.2.2))]) (λzz=>[]) (λzz=>l.length-zz.1.1) ⟨(0,(0,false)),by omega,by simp⟩ ?_ ?_
  .exact le0
  .rintro⟨⟨i,a,b⟩,hi,hg⟩;dsimp only at hi hg;simp -dsimp only[go_sem,hw1,hx,hst,ha,hB];refine Br.mk (λhc=>?_) λhc=>?_
   .have hlt:i<l.length:=Dq;have hw:=aJ hlt (by omega);have hm:(E cI M).getD i []=[.v (.int .i64 M[i])]:=dI (by omega);have hiM:i<M.length:=by omega
    rw[Ci hiM,nGo] at hg;by_cases hz:M[i]=0
    .have e1:(M[i]==0)=true:=BO.2 hz;cases b with
     | false =>
      rw[AP ⟨hz,rfl⟩] at hg
      repeat' first|simp -dsimp only[go_sem,hm,hw,e1]|apply Br.mk<;>intro h<;>try simp -dsimp only[h]|refine aA.c (by first|exact aCZ _) ?_|refine aC ?_|refine aC9 ?_|fail
      all_goals((refine λ_=>⟨?_,λh=>absurd rfl h⟩);exact nx (i+1,(a,false)) hg)
     | true =>
      rw[AC (by simp)] at hg;have hd:dg M[i]=-1:=by rw[hz];rfl
      rw[AP (by omega)] at hg;have hN:vP u x=(0,false):=by unfold vP;rw[hl,AP ha,hM,←hg]
      have e2:decide (dg M[i]<0)=true:=A9 (by omega)
      repeat' first|simp -dsimp only[go_sem,hm,hw,e1,e2]|apply Br.mk<;>intro h<;>try simp -dsimp only[h]|refine aA.c (by first|exact aCZ _) ?_|refine aC ?_|refine aC9 ?_|fail
      all_goals simp[hN]
    .have e1:(M[i]==0)=false:=AB.2 hz;rw[AC (by simp[hz])] at hg;by_cases hd:dg M[i]<0
     .rw[AP hd] at hg;have hN:vP u x=(0,false):=by unfold vP;rw[hl,AP ha,hM,←hg]
      have e2:decide (dg M[i]<0)=true:=A9 hd
      repeat' first|simp -dsimp only[go_sem,hm,hw,e1,e2]|apply Br.mk<;>intro h<;>try simp -dsimp only[h]|refine aA.c (by first|exact aCZ _) ?_|refine aC ?_|refine aC9 ?_|fail
      all_goals simp[hN]
     .rw[AC hd] at hg;have e2:decide (dg M[i]<0)=false:=AQ hd
      repeat' first|simp -dsimp only[go_sem,hm,hw,e1,e2]|apply Br.mk<;>intro h<;>try simp -dsimp only[h]|refine aA.c (by first|exact aCZ _) ?_|refine aC ?_|refine aC9 ?_|fail
      all_goals(exact nx (i+1,(W (W (10*a)+dg M[i]),true)) hg)
   .have hge:i=l.length:=by
     have:¬i<l.length:=Dq;omega
    subst hge;simp -dsimp only[go_sem,hw1,hx,hst,ha,hB];rw[List.drop_eq_nil_of_le (by omega),nGo] at hg;have hN:vP u x=(if !b||(nY x==0||(nB x&&a==0)) then(0,false) else(if nB x then W (0-a) else a,true)):=by unfold vP;rw[hl,AP ha,hM,←hg]
    cases hb:nB x<;>cases hy:(nY x==0)<;>cases h0:(a==0)<;>cases b
    all_goals
     simp -dsimp only[go_sem,hXM,hb,hy,h0,hw1,hx,hst,ha,hB]
    all_goals simp[hN,hb,hy,h0]
    all_goals omega
 .have ha:=by simpa using ha
  have hN:vP u x=(0,true):=by unfold vP;rw[hl,AC (by simpa using ha)]
  have ha:l.any (λz=>z != 0)=false:=by simpa using ha
  repeat' first|simp -dsimp only[go_sem,hw1,hx,hst,ha,hB]|apply Br.mk<;>intro h<;>try simp -dsimp only[h]|refine aA.c (by first|exact aB1 l (by omega)|exact conN l (by omega)|exact aI1) ?_|refine aC ?_|refine aC9 ?_|fail
  all_goals simp[hN]
end
section
variable [Vs.Envs]
attribute [local irreducible] Vs.Fn
def aHJ (a:Int) (m:Bool):Int×Bool:=if m then(W (0-a),a != 0) else(a,true)
theorem aJz (u:List Int) (x:Int) (Z:0<=x) (h1:x<=4095) :
  vP u x=match nGo u 0 false with
   |none=>(0,false)
   |some (a,b)=>if nY x=0∧b=false∧nB x=false then(a,true) else if dg (nY x)<0 then(0,false) else aHJ (W (W (10*a)+dg (nY x))) (nB x):=by
 have O:=bit2 x Z h1;have V:dg 0=-1:=rfl;unfold vP aHJ;rw[aMU,List.any_append];rcases nGo_f u 0 with⟨U,J⟩|⟨U,J|⟨k,J⟩⟩
 .rw[J,U];simp only[CQ,nGo,List.any_cons,List.any_nil,Bool.or_false,Di];have G:W 0=0:=by decide
  cases Y:nB x<;>simp only[Y,AO,Bc,Bj] at O
  .rw[O];by_cases H:x=0
   .simp[H]
   .by_cases F:dg x<0
    .simp[H,F]
    .simp[H,F]
  .obtain⟨O,h2⟩:=O;have H:x≠0:=by omega
   by_cases I:nY x=0
   .simp[I,H,V]
   .by_cases F:dg (nY x)<0
    .simp[H,I,F]
    .by_cases M:W (dg (nY x))=0
     .simp[H,I,F,M,G]
     .simp[H,I,F,M,G]
 .rw[J,U];simp
 .rw[J,U];have G:W 0=0:=by decide
  simp only[CQ,nGo,Bool.true_or,Bj,Bool.true_eq_false,and_false,false_and,Bc];by_cases F:dg (nY x)<0
  .simp[F]
  .have I:nY x≠0:=by intro e;rw[e] at F;exact F (by decide)
   cases Y:nB x
   .simp[I,F]
   .by_cases M:W (W (10*k)+dg (nY x))=0
    .simp[I,F,M,G]
    .simp[I,F,M]
theorem aJM (u:List Int) (x:Int) (h0:0<=x) (h1:x<=4095) (hu:u.length+1<=12):Fz F.lF [.sl 1 (E cI (u++[x]))] (.tup [.v (.int .i64 (vP u x).1),.v (.bool (vP u x).2)]):=by
 have hF:=aJz u x h0 h1;have hb2:=bit2 x h0 h1;obtain⟨l,hl⟩:∃l:List Int,u++[x]=l:=⟨_,rfl⟩;have hll:l.length=u.length+1:=by rw[←hl];simp
 have hw1:IntKind.i64.wrap ((l.length:Int)-1)=(u.length:Int):=by rw[aI (by omega) (by omega)];omega
 rw[hl];refine fn0 Cd.s_l03Number_k λX=>?_;simp -dsimp only[go_sem];refine aP.at dM (X:={zz:Nat×(Int×Bool×Bool) // zz.1<=l.length∧((zz.1<=u.length∧zz.2.2.2=false∧nGo (u.drop zz.1) zz.2.1 zz.2.2.1=nGo u 0 false)∨(zz.1=u.length+1∧aHJ zz.2.1 zz.2.2.2=vP u x))}) (λzz=>[(7,.v (.int .i64 zz.1.1)),(4,.v (.int .i64 zz.1.2.1)),(5,.v (.bool zz.1.2.2.1)),(6,.v (.bool zz.1.2.2.2))]) (λzz=>[]) (λzz=>l.length-zz.1.1) ⟨(0,(0,false,false)),by omega,.inl ⟨by omega,rfl,by simp⟩⟩ ?_ ?_
 .exact le0
 .rintro⟨⟨i,a,b,m⟩,hi,hg⟩;dsimp only at hi hg;simp -dsimp only[go_sem,hw1];refine Br.mk (λhc=>?_) λhc=>?_
  .have hlt:i<l.length:=Dq;have hw:=aJ hlt (by omega);have hm:(E cI l).getD i []=[.v (.int .i64 l[i])]:=dI hlt;have hiu:i<=u.length:=by omega
   rcases hg with⟨_,hmi,hg⟩|⟨hi2,_⟩
   case inr=>omega
   subst hmi;by_cases hi2:i<u.length
   .have hq:((i:Int)==(u.length:Int))=false:=AB.2 (by omega);have hm:(E cI l).getD i []=[.v (.int .i64 u[i])]:=by rw[hm];subst hl;simp[List.getElem_append,hi2]
    rw[Ci hi2,nGo] at hg;by_cases hz:u[i]=0
    .have e1:(u[i]==0)=true:=BO.2 hz;cases b with
     | false =>
      rw[AP ⟨hz,rfl⟩] at hg
      repeat' first|simp -dsimp only[go_sem,hm,hw,hq,e1,hw1]|apply Br.mk<;>intro h<;>try simp -dsimp only[h]|refine aA.c (by first|exact mM _) ?_|refine aC ?_|refine aC9 ?_|fail
      all_goals((refine⟨?_,λh=>absurd rfl h⟩);exact nx (i+1,(a,false,false)) (.inl ⟨by first|omega|(simp;omega),rfl,hg⟩))
     | true =>
      rw[AC (by simp)] at hg;have hd:dg u[i]=-1:=by rw[hz];rfl
      rw[AP (by omega)] at hg;rw[←hg] at hF;have e2:decide (dg u[i]<0)=true:=A9 (by omega)
      repeat' first|simp -dsimp only[go_sem,hm,hw,hq,e1,e2,hw1]|apply Br.mk<;>intro h<;>try simp -dsimp only[h]|refine aA.c (by first|exact mM _) ?_|refine aC ?_|refine aC9 ?_|fail
      all_goals simp[hF]
    .have e1:(u[i]==0)=false:=AB.2 hz;rw[AC (by simp[hz])] at hg;by_cases hd:dg u[i]<0
     .rw[AP hd] at hg;rw[←hg] at hF;have e2:decide (dg u[i]<0)=true:=A9 hd
      repeat' first|simp -dsimp only[go_sem,hm,hw,hq,e1,e2,hw1]|apply Br.mk<;>intro h<;>try simp -dsimp only[h]|refine aA.c (by first|exact mM _) ?_|refine aC ?_|refine aC9 ?_|fail
      all_goals simp[hF]
     .rw[AC hd] at hg;have e2:decide (dg u[i]<0)=false:=AQ hd
      repeat' first|simp -dsimp only[go_sem,hm,hw,hq,e1,e2,hw1]|apply Br.mk<;>intro h<;>try simp -dsimp only[h]|refine aA.c (by first|exact mM _) ?_|refine aC ?_|refine aC9 ?_|fail
      all_goals(exact nx (i+1,(W (W (10*a)+dg u[i]),true,false)) (.inl ⟨by first|omega|(simp;omega),rfl,hg⟩))
   .have hiu:i=u.length:=by omega
    subst hiu;have hq:((u.length:Int)==(u.length:Int))=true:=BO.2 rfl;have hm:(E cI l).getD u.length []=[.v (.int .i64 x)]:=by rw[hm];subst hl;simp
    rw[De,nGo] at hg;rw[←hg] at hF;dsimp only at hF;have hB:(fU BinOp.and IntKind.i64 x 2 != 0)=nB x:=rfl;cases hn:nB x<;>simp only[hn,AO,Bc,Bj] at hb2
    .rw[hb2,hn] at hF;by_cases hz:x=0
     .have e1:(x==0)=true:=BO.2 hz;cases b with
      | false =>
       rw[AP ⟨hz,rfl,rfl⟩] at hF
       repeat' first|simp -dsimp only[go_sem,hm,hw,hq,e1,hB,hn,hw1]|apply Br.mk<;>intro h<;>try simp -dsimp only[h]|refine aA.c (by first|exact mM _) ?_|refine aC ?_|refine aC9 ?_|fail
       all_goals((refine⟨?_,λh=>absurd rfl h⟩);exact nx (u.length+1,(a,false,false)) (.inr ⟨rfl,by first|(rw[hF];done)|(rw[hF];simp[aHJ])⟩))
      | true =>
       have hd:dg x=-1:=by rw[hz];rfl
       rw[AC (by simp),AP (by omega)] at hF;have e2:decide (dg x<0)=true:=A9 (by omega)
       repeat' first|simp -dsimp only[go_sem,hm,hw,hq,e1,e2,hB,hn,hw1]|apply Br.mk<;>intro h<;>try simp -dsimp only[h]|refine aA.c (by first|exact mM _) ?_|refine aC ?_|refine aC9 ?_|fail
       all_goals simp[hF]
     .have e1:(x==0)=false:=AB.2 hz;rw[AC (by simp[hz])] at hF;by_cases hd:dg x<0
      .rw[AP hd] at hF;have e2:decide (dg x<0)=true:=A9 hd
       repeat' first|simp -dsimp only[go_sem,hm,hw,hq,e1,e2,hB,hn,hw1]|apply Br.mk<;>intro h<;>try simp -dsimp only[h]|refine aA.c (by first|exact mM _) ?_|refine aC ?_|refine aC9 ?_|fail
       all_goals simp[hF]
      .rw[AC hd] at hF;have e2:decide (dg x<0)=false:=AQ hd
       repeat' first|simp -dsimp only[go_sem,hm,hw,hq,e1,e2,hB,hn,hw1]|apply Br.mk<;>intro h<;>try simp -dsimp only[h]|refine aA.c (by first|exact mM _) ?_|refine aC ?_|refine aC9 ?_|fail
       all_goals(exact nx (u.length+1,(W (W (10*a)+dg x),true,false)) (.inr ⟨rfl,by first|(rw[hF];done)|(rw[hF];simp[aHJ])⟩))
    .obtain⟨hb2,hx2⟩:=hb2;rw[hb2,hn] at hF;rw[AC (by simp)] at hF;have hw2:IntKind.i64.wrap (x-2)=x-2:=aI (by omega) (by omega);by_cases hd:dg (x-2)<0
     .rw[AP hd] at hF;have e2:decide (dg (x-2)<0)=true:=A9 hd;cases e1:(x-2==0)<;>cases b
      all_goals
       repeat' first|simp -dsimp only[go_sem,hm,hw,hq,hw2,e1,e2,hB,hn,hw1]|apply Br.mk<;>intro h<;>try simp -dsimp only[h]|refine aA.c (by first|exact mM _) ?_|refine aC ?_|refine aC9 ?_|fail
       all_goals simp[hF]
     .rw[AC hd] at hF;have e2:decide (dg (x-2)<0)=false:=AQ hd;cases e1:(x-2==0)<;>cases b
      all_goals
       repeat' first|simp -dsimp only[go_sem,hm,hw,hq,hw2,e1,e2,hB,hn,hw1]|apply Br.mk<;>intro h<;>try simp -dsimp only[h]|refine aA.c (by first|exact mM _) ?_|refine aC ?_|refine aC9 ?_|fail
       all_goals(exact nx (u.length+1,(W (W (10*a)+dg (x-2)),true,true)) (.inr ⟨rfl,by first|(rw[hF];done)|(rw[hF];simp[aHJ])⟩))
  .have hge:i=l.length:=by
    have:¬i<l.length:=Dq;omega
   subst hge;simp -dsimp only[go_sem,hw1];rcases hg with⟨h3,_⟩|⟨_,hg⟩
   .omega
   cases m
   all_goals
    simp -dsimp only[go_sem,hw1]
   all_goals simp[←hg,aHJ]
end
end Go.Proofs.YtklmdppgonhflaaGreatDoor
