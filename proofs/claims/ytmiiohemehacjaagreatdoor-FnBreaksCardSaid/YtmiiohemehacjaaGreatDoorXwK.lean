/- The reference's number of a field. -/
import Derived.Test.YtmiiohemehacjaaGreatDoorVsI
import Derived.Test.YtmiiohemehacjaaGreatDoorXwF
import Derived.Test.YtmiiohemehacjaaGreatDoorVtP
import Derived.Test.YtmiiohemehacjaaGreatDoorXuR
set_option linter.all false
set_option maxHeartbeats 8000000
namespace Go.Proofs.YtmiiohemehacjaaGreatDoor
open Go.Vs
section
variable [Vs.Tab 1 Vs.powP]
attribute [local irreducible] Vs.Fn
theorem W_nat {n:Nat} (h:n<2 ^ 63):W n=n:=aM (by omega) (by omega)
theorem aMx {n:Nat} (h:n<2 ^ 63) (k:Nat):wl (k+1) n=((n%10:Nat):Int)::wl k ((n/10:Nat):Int):=by
 have u:((n:Int)).tmod 10=((n%10:Nat):Int):=by rw[Int.tmod_eq_emod_of_nonneg (by omega)];omega
 have h2:((n:Int)).tdiv 10=((n/10:Nat):Int):=by rw[Int.tdiv_eq_ediv_of_nonneg (by omega)];omega
 rw[wl,u,h2,W_nat (by omega)]
theorem aI5:∀(k n:Nat),n<10 ^ k->n<2 ^ 63->aAA (wl k n)=dsN n∧∀x,x∈wl k (n:Int)->0<=x∧x<=9
 | 0,n,h,_=>by
  have:n=0:=by simpa using h
  subst this;simp[wl,aAA,vJ]
 | k+1,n,h,h63=>by
  rw[Nat.pow_succ] at h;obtain⟨F,h2⟩:=aI5 k (n/10) (by omega) (by omega);rw[aMx h63,aAA,F,aHT n];refine⟨by omega,λx u=>?_⟩;rcases Ay.1 u with rfl|u
  .omega
  .exact h2 x u
theorem absOf (n:Int) (G:-9223372036854775807<=n) (H:n<=9223372036854775807):Fz F.zO [.v (.int .i64 n)] (.v (.int .i64 n.natAbs)):=by
 have u:IntKind.i64.wrap (0-n)=-n:=by rw[aM (by omega) (by omega)];omega
 refine fn0 Cd.i_absOf_k λX=>?_;simp -dsimp only[go_sem];refine aU ?_;simp only[u,AV.v.injEq,Value.int.injEq,Ci];split<;>omega
theorem aGT (n:Int) (G:-9223372036854775807<=n) (u:n<=9223372036854775807):Fz F.iC [.v (.int .i64 n),.v (.int .i64 10)] (.v (.string ⟨(Lib.itoa n).toArray⟩)):=by
 refine fn0 Cd.strconv_FormatInt_k λX=>?_
 repeat' first|simp -dsimp only[go_sem]|apply Br.mk<;>intro h<;>try simp -dsimp only[h]|refine aA.c (by first|exact aIP n (by omega) u) ?_|refine aC ?_|fail
 all_goals(simp_all)
theorem decimal (n:Int) (u:-9223372036854775807<=n) (G:n<=9223372036854775807):Fz F.vD [.v (.int .i64 n)] (.v (.string ⟨(Lib.itoa n).toArray⟩)):=by
 refine fn0 Cd.i_Decimal_k λX=>?_
 repeat' first|simp -dsimp only[go_sem]|apply Br.mk<;>intro h<;>try simp -dsimp only[h]|refine aA.c (by first|exact aGT n u G) ?_|refine aC ?_|fail
 all_goals(simp_all)
theorem digitsOf (n:Nat) (u:n<2 ^ 63):Fz F.sG [.v (.int .i64 (n:Int))] (.v (.int .i64 (Lib.nDigits n:Nat))):=by
 refine fn0 Cd.i_digitsOf_k λX=>?_
 repeat' first|simp -dsimp only[go_sem]|apply Br.mk<;>intro h<;>try simp -dsimp only[h]|refine aA.c (by first|exact decimal _ (by omega) (by omega)) ?_|refine aC ?_|fail
 all_goals((refine aU ?_;simp[ByteArray.size,Lib.itoa_nonneg,Lib.decDigits_length]))
theorem aC4 {n:Nat} (F:n<2 ^ 63):Lib.nDigits n<=19:=by
 have h:∀(k m:Nat),m<10 ^ (k+1)->Lib.nDigits m<=k+1:=by
  intro k
  induction k with
  |zero=>intro m u;rw[Lib.nDigits_small (by simpa using u)];omega
  | succ k ih =>
   intro m u;by_cases h:m<10
   .rw[Lib.nDigits_small h];omega
   .rw[Lib.nDigits_big h];have:=ih (m/10) (by rw[Nat.pow_succ] at u;omega);omega
 exact h 18 n (by omega)
theorem aIV (n:Int) (u:-9223372036854775807<=n) (G:n<=9223372036854775807):Fz F.pY [.v (.int .i64 n)] (.sl 1 (E cI (wl (Lib.nDigits n.natAbs) n.natAbs))):=by
 refine fn0 Cd.i_digitList_k λX=>?_
 repeat' first|simp -dsimp only[go_sem]|apply Br.mk<;>intro h<;>try simp -dsimp only[h]|refine aA.c (by first|exact absOf n u G|exact digitsOf n.natAbs (by omega)|exact aGk (Lib.nDigits n.natAbs) _ (by have:=aC4 (n:=n.natAbs) (by omega);omega)) ?_|refine aC ?_|fail
 all_goals(exact⟨_,_,rfl,rfl⟩)
theorem aF2 (n:Int) (h0:-9223372036854775807<=n) (h1:n<=9223372036854775807):Fz F.sH [.v (.int .i64 n)] (.v (.int .i64 (dsN n.natAbs))):=by
 have hk:=aC4 (n:=n.natAbs) (by omega);obtain⟨hsum,hdig⟩:=aI5 (Lib.nDigits n.natAbs) n.natAbs (Lib.lt_pow_nDigits _) (by omega);have hlen:=aBj (Lib.nDigits n.natAbs) n.natAbs;have hds:=aDp n.natAbs;refine fn0 Cd.i_digitSum_k λX=>?_;simp -dsimp only[go_sem];refine aA.pure (aIV n h0 h1) ?_;generalize wl (Lib.nDigits n.natAbs) n.natAbs=l at *
 simp -dsimp only[go_sem];refine aO.at dM (X:={zz:Nat×(Int) // zz.1<=l.length∧0<=zz.2∧zz.2+aAA (l.drop zz.1)=aAA l}) (λzz=>[(3,.v (.int .i64 zz.1.2)),(9,.v (.int .i64 zz.1.1))]) (λzz=>[]) (λzz=>l.length-zz.1.1) ⟨(0,0),by omega,by simp⟩ ?_ ?_
 .exact le0
 .rintro⟨⟨i,a⟩,hi,hg⟩;dsimp only at hi hg;simp -dsimp only[go_sem];refine Br.mk (λhc=>?_) λhc=>?_
  .have hlt:i<l.length:=Dq;have hw:=aI hlt (by omega);have hx:=hdig _ (Am hlt);have hnn:=aGn (λx hx=>(hdig x hx).1) (i+1) (l:=l);rw[aIh hlt] at hg;have hwa:IntKind.i64.wrap (a+l[i])=a+l[i]:=aM (by omega) (by omega);simp -dsimp only[go_sem,dJ hlt];refine⟨⟨by omega,by omega⟩,?_⟩;simp -dsimp only[go_sem,hw,hwa];exact nx (i+1,a+l[i]) (⟨by dsimp only;omega,by dsimp only;omega⟩)
  .have hge:i=l.length:=by
    have:¬i<l.length:=Dq;omega
   subst hge;simp -dsimp only[go_sem]
   have:a=dsN n.natAbs:=by
    have:=hg.2;rw[Cs,aAA,hsum] at this;omega
   simp[this]
theorem aD6 (z:Int) (h0:-4611686018427387903<=z) (h1:z<=4611686018427387903):Fz F.pF [.v (.int .i64 z)] (.v (.int .i64 (dsN z.natAbs))):=by
 obtain⟨n,hn⟩:∃n:Nat,z.natAbs=n:=⟨_,rfl⟩;have hn62:n<2 ^ 62:=by omega
 refine fn0 Cd.s_l18Digits_k λX=>?_;simp -dsimp only[go_sem];rw[hn];refine Br.mk (λh=>?_) λh=>?_
 .have hz:IntKind.i64.wrap (0-z)=(n:Int):=by
   simp at h;rw[aM (by omega) (by omega)];omega
  simp -dsimp only[go_sem,hz];refine aO.at dM (X:={zz:Nat×Nat // zz.2+dsN zz.1=dsN n∧zz.1<=n}) (λzz=>[(0,.v (.int .i64 zz.1.1)),(3,.v (.int .i64 zz.1.2))]) (λ_=>[]) (λzz=>zz.1.1) ⟨(n,0),by simp,AL _⟩ ?_ ?_
  .exact le0
  .rintro⟨⟨m,s⟩,hg,hm⟩;dsimp only at hg hm;simp -dsimp only[go_sem];refine Br.mk (λhc=>?_) λhc=>?_
   .have hpos:m≠0:=by simp at hc;omega
    rw[aCB hpos] at hg;have hle:=aDp n;have h1:((m:Int)).tmod 10=((m%10:Nat):Int):=by rw[Int.tmod_eq_emod_of_nonneg (by omega)];omega
    have h2:IntKind.i64.wrap (((m:Int)).tdiv 10)=((m/10:Nat):Int):=by rw[Int.tdiv_eq_ediv_of_nonneg (by omega),aM (by omega) (by omega)];omega
    have h3:IntKind.i64.wrap ((s:Int)+((m%10:Nat):Int))=((s+m%10:Nat):Int):=by rw[aM (by omega) (by omega)];omega
    repeat' first|simp -dsimp only[go_sem,h1,h2,h3]|apply Br.mk<;>intro h<;>try simp -dsimp only[h]|refine aC ?_|fail
    exact⟨⟨(m/10,s+m%10),by dsimp only;omega,by dsimp only;omega⟩,by simp[Vs.LeL,Vs.look,aB,aP,aJ,Vs.hset,aK],by simp only;omega⟩
   .have h0:m=0:=by simp at hc;omega
    subst h0;rw[vJ] at hg;simp -dsimp only[go_sem];simp[←hg]
 .have hz:z=(n:Int):=by simp at h;omega
  subst hz;simp -dsimp only[go_sem];refine aO.at dM (X:={zz:Nat×Nat // zz.2+dsN zz.1=dsN n∧zz.1<=n}) (λzz=>[(0,.v (.int .i64 zz.1.1)),(3,.v (.int .i64 zz.1.2))]) (λ_=>[]) (λzz=>zz.1.1) ⟨(n,0),by simp,AL _⟩ ?_ ?_
  .exact le0
  .rintro⟨⟨m,s⟩,hg,hm⟩;dsimp only at hg hm;simp -dsimp only[go_sem];refine Br.mk (λhc=>?_) λhc=>?_
   .have hpos:m≠0:=by simp at hc;omega
    rw[aCB hpos] at hg;have hle:=aDp n;have h1:((m:Int)).tmod 10=((m%10:Nat):Int):=by rw[Int.tmod_eq_emod_of_nonneg (by omega)];omega
    have h2:IntKind.i64.wrap (((m:Int)).tdiv 10)=((m/10:Nat):Int):=by rw[Int.tdiv_eq_ediv_of_nonneg (by omega),aM (by omega) (by omega)];omega
    have h3:IntKind.i64.wrap ((s:Int)+((m%10:Nat):Int))=((s+m%10:Nat):Int):=by rw[aM (by omega) (by omega)];omega
    repeat' first|simp -dsimp only[go_sem,h1,h2,h3]|apply Br.mk<;>intro h<;>try simp -dsimp only[h]|refine aC ?_|fail
    exact⟨⟨(m/10,s+m%10),by dsimp only;omega,by dsimp only;omega⟩,by simp[Vs.LeL,Vs.look,aB,aP,aJ,Vs.hset,aK],by simp only;omega⟩
   .have h0:m=0:=by simp at hc;omega
    subst h0;rw[vJ] at hg;simp -dsimp only[go_sem];simp[←hg]
end
section
variable [Vs.Envs]
attribute [local irreducible] Vs.Fn
def aAc (i:Nat):Int:=((4*2 ^ i:Nat):Int)
theorem shl4 {i:Nat} (hi:i<10):IntKind.i64.wrap (4*2 ^ (min i IntKind.i64.bits))=aAc i:=by
 have:i=0∨i=1∨i=2∨i=3∨i=4∨i=5∨i=6∨i=7∨i=8∨i=9:=by omega
 rcases this with rfl|rfl|rfl|rfl|rfl|rfl|rfl|rfl|rfl|rfl<;>decide
theorem u64I {i:Nat} (hi:i<10):IntKind.u64.wrap (i:Int)=(i:Int):=by
 have:i=0∨i=1∨i=2∨i=3∨i=4∨i=5∨i=6∨i=7∨i=8∨i=9:=by omega
 rcases this with rfl|rfl|rfl|rfl|rfl|rfl|rfl|rfl|rfl|rfl<;>decide
theorem aMp (i:Nat) (hi:i<10):Fz F.fA [.v (.int .i64 (i:Int))] (.v (.int .i64 (aAc i))):=by
 have u:((i:Int)==12)=false:=Ap.2 (by omega);have G:((i:Int)==11)=false:=Ap.2 (by omega);have H:inB i 0 9=true:=by simp[inB];omega
 have I:=shl4 hi;have J:=u64I hi;have L:(0:Int)<=(i:Int):=by omega
 refine fn0 Cd.i_bitOf_k λX=>?_
 repeat' first|simp -dsimp only[go_sem,u,G,H,I,J,L]|apply Br.mk<;>intro h<;>try simp -dsimp only[h]|refine aA.c (by first|exact inside _ _ _) ?_|refine aC ?_|fail
 all_goals first|(simp_all;done)|(simp_all;exact shl4 hi)
theorem aER (i:Nat) (hi:i<10):Fz F.jF [.v (.int .i64 (i:Int))] (.v (.int .i64 (aAc i))):=by
 have u:((i:Int)==12)=false:=Ap.2 (by omega);have G:((i:Int)==11)=false:=Ap.2 (by omega);have H:inB i 0 9=true:=by simp[inB];omega
 have I:=shl4 hi;have J:=u64I hi;have L:(0:Int)<=(i:Int):=by omega
 refine fn0 Cd.s_l02Bit_k λX=>?_
 repeat' first|simp -dsimp only[go_sem,u,G,H,I,J,L]|apply Br.mk<;>intro h<;>try simp -dsimp only[h]|refine aA.c (by first|exact aAe _ _ _) ?_|refine aC ?_|fail
 all_goals first|(simp_all;done)|(simp_all;exact shl4 hi)
theorem aH3  : Fz F.fA [.v (.int .i64 11)] (.v (.int .i64 2)):=by
 refine fn0 Cd.i_bitOf_k λX=>?_
 repeat' first|simp -dsimp only[go_sem]|apply Br.mk<;>intro h<;>try simp -dsimp only[h]|refine aA.c (by first|exact inside _ _ _) ?_|refine aC ?_|fail
 all_goals(simp_all)
def dgF (m:Int):Nat->Nat->Int
 |0,_=>-1
 |k+1,i=>if aAc i=m then i else dgF m k (i+1)
def dg (m:Int):Int:=dgF m 10 0
theorem aKC (m:Int):∀(k i:Nat),k+i=10->-1<=dgF m k i∧dgF m k i<=9
 |0,_,_=>by simp[dgF]
 | k+1,i,h=>by
  rw[dgF];split
  .omega
  .exact aKC m k (i+1) (by omega)
theorem dg_in (m:Int):-1<=dg m∧dg m<=9:=aKC m 10 0 rfl
theorem aF3 (m:Int) {i:Nat} (hi:i<10):dgF m (10-i) i=if aAc i=m then(i:Int) else dgF m (10-(i+1)) (i+1):=by
 rw[show 10-i=(10-(i+1))+1 by omega,dgF]
theorem aCC (m:Int):Fz F.vB [.v (.int .i64 m)] (.v (.int .i64 (dg m))):=by
 refine fn0 Cd.i_digitOf_k λX=>?_;simp -dsimp only[go_sem];refine aO.at dM (X:={zz:Nat×(Unit) // zz.1<=10∧dgF m (10-zz.1) zz.1=dg m}) (λzz=>[(4,.v (.int .i64 zz.1.1))]) (λzz=>[]) (λzz=>10-zz.1.1) ⟨(0,()),by omega,rfl⟩ ?_ ?_
 .exact le0
 .rintro⟨⟨i,a⟩,hi,hg⟩;dsimp only at hi hg;simp -dsimp only[go_sem];refine Br.mk (λhc=>?_) λhc=>?_
  .have hlt:i<10:=Dq;have hw:=aI hlt (by omega);rw[aF3 m hlt] at hg;by_cases he:aAc i=m
   .have hb:(aAc i==m)=true:=Bj.2 (by simp[he]);rw[AY he] at hg
    repeat' first|simp -dsimp only[go_sem,hw,hb]|apply Br.mk<;>intro h<;>try simp -dsimp only[h]|refine aA.c (by first|exact aMp i hlt) ?_|refine aC ?_|fail
    all_goals simp[hg]
   .have hb:(aAc i==m)=false:=Ap.2 (λe=>he (by simp[e]));rw[AJ he] at hg
    repeat' first|simp -dsimp only[go_sem,hw,hb]|apply Br.mk<;>intro h<;>try simp -dsimp only[h]|refine aA.c (by first|exact aMp i hlt) ?_|refine aC ?_|fail
    all_goals(exact nx (i+1,()) hg)
  .have hge:i=10:=by
    have:¬i<10:=Dq;omega
   subst hge;simp -dsimp only[go_sem];have:dg m=-1:=by rw[←hg];rfl
   simp[this]
theorem lS (m:Int):Fz F.rH [.v (.int .i64 m)] (.v (.int .i64 (dg m))):=by
 refine fn0 Cd.s_l03Digit_k λX=>?_;simp -dsimp only[go_sem];refine aO.at dM (X:={zz:Nat×(Unit) // zz.1<=10∧dgF m (10-zz.1) zz.1=dg m}) (λzz=>[(3,.v (.int .i64 zz.1.1))]) (λzz=>[]) (λzz=>10-zz.1.1) ⟨(0,()),by omega,rfl⟩ ?_ ?_
 .exact le0
 .rintro⟨⟨i,a⟩,hi,hg⟩;dsimp only at hi hg;simp -dsimp only[go_sem];refine Br.mk (λhc=>?_) λhc=>?_
  .have hlt:i<10:=Dq;have hw:=aI hlt (by omega);rw[aF3 m hlt] at hg;by_cases he:aAc i=m
   .have hb:(m==aAc i)=true:=Bj.2 (by simp[he]);rw[AY he] at hg
    repeat' first|simp -dsimp only[go_sem,hw,hb]|apply Br.mk<;>intro h<;>try simp -dsimp only[h]|refine aA.c (by first|exact aER i hlt) ?_|refine aC ?_|fail
    all_goals simp[hg]
   .have hb:(m==aAc i)=false:=Ap.2 (λe=>he (by simp[e]));rw[AJ he] at hg
    repeat' first|simp -dsimp only[go_sem,hw,hb]|apply Br.mk<;>intro h<;>try simp -dsimp only[h]|refine aA.c (by first|exact aER i hlt) ?_|refine aC ?_|fail
    all_goals(exact nx (i+1,()) hg)
  .have hge:i=10:=by
    have:¬i<10:=Dq;omega
   subst hge;simp -dsimp only[go_sem];have:dg m=-1:=by rw[←hg];rfl
   simp[this]
theorem aBD (l:List Int) (u:l.length<=1048576):Vs.Fn Tryz.prog F.kM [] [.sl 1 (E cI l)] (.loc (.b 0) 0 l.length) [some (.arr 1 (E cI l) false)]:=by
 refine fn1 Cd.i_copyInts_k [.t 5 0] [.arr 1 (E cI l) false] λX=>?_;unfold Cd.kM;simp -dsimp only[go_sem,Ai,Ah,Al,Aq];exact⟨by omega,⟨by omega,by omega⟩,⟨_,_,rfl,rfl⟩⟩
theorem aMt {α:Type}{c:α->List AV} (l:List α) (a b:Nat):E c ((l.take a).drop b)=((E c l).take a).drop b:=by simp[E,Cz,CW]
theorem part (c:List Int) (fr to:Int) (u:0<=fr) (G:fr<=to) (h2:to<=c.length):Fz F.mM [.ro (cC c),.agg [.v (.int .i64 fr),.v (.int .i64 to)]] (.sl 1 (E cI ((c.take to.toNat).drop fr.toNat))):=by
 refine fn0 Cd.s_l02Part_k λX=>?_
 repeat' first|simp -dsimp only[go_sem,cC]|apply Br.mk<;>intro h<;>try simp -dsimp only[h]|refine aC ?_|fail
 all_goals exact aU (by rw[aMt])
end
section
variable [Vs.Envs]
attribute [local irreducible] Vs.Fn
theorem aA.own {P:Program}{f:FuncId}{ys:List AV}{d:Option Nat}{σ:St}{K:St->Prop}{t:Tag K}{r:AV}{hout:List (Option Blk)} (u:Vs.Fn P f [] ys r hout) (F:iR (d.getD 0) 0 hout.length σ=true)
  (G:K ⟨put d (rn (phi [] (d.getD 0) hout.length) r) σ.s,xB σ.h [] (d.getD 0) hout true []⟩):aA P f [] ys [] d σ [] K t:=
 ⟨r,hout,true,u,λh=>(by cases h),F,G⟩
def nGo:List Int->Int->Bool->Option (Int×Bool)
 | [],n,b=>some (n,b)
 |m::r,n,b=>if m=0∧b=false then nGo r n b else if dg m<0 then none else nGo r (W (W (10*n)+dg m)) true
def nB (x:Int):Bool:=gG .and .i64 x 2 != 0
def nY (x:Int):Int:=gG .andNot .i64 x 2
def uW (u:List Int) (x:Int):Int×Bool:=
 if (u++[x]).any (λz=>z != 0) then
  match nGo (u++[nY x]) 0 false with
  |none=>(0,false)
  |some (n,b)=>if !b||(nY x==0||(nB x&&n==0)) then(0,false) else(if nB x then W (0-n) else n,true)
 else(0,true)
theorem aLu (u v:List Int):∀(n:Int) (b:Bool),nGo (u++v) n b=(nGo u n b).bind λp=>nGo v p.1 p.2:=by
 induction u with
 |nil=>intro n b;rfl
 | cons m r ih =>
  intro n b;simp only[Ad,nGo];split
  .exact ih _ _
  .split
   .rfl
   .exact ih _ _
theorem nGo_t (u:List Int):∀(n:Int),nGo u n true=none∨∃k,nGo u n true=some (k,true):=by
 induction u with
 |nil=>intro n;exact .inr ⟨n,rfl⟩
 | cons m r ih =>
  intro n;simp only[nGo,Bool.true_eq_false,and_false,Bg];split
  .exact .inl rfl
  .exact ih _
theorem nGo_f (u:List Int):∀(n:Int),(u.any (λz=>z != 0)=false∧nGo u n false=some (n,false))∨(u.any (λz=>z != 0)=true∧(nGo u n false=none∨∃k,nGo u n false=some (k,true))):=by
 induction u with
 |nil=>intro n;exact .inl ⟨rfl,rfl⟩
 | cons m r ih =>
  intro n;simp only[nGo,List.any_cons,and_true];by_cases F:m=0
  .subst F;simpa using ih n
  .rw[AJ F];refine .inr ⟨by simp[F],?_⟩;split
   .exact .inl rfl
   .exact nGo_t r _
theorem aMW (u:List Int):∀(k:Nat) (n:Int) (b:Bool) (F:Int) (G:Bool),k+u.length<=12->0<=n->n<(10 ^ k:Nat)->nGo u n b=some (F,G)->0<=F∧F<(10 ^ 12:Nat):=by
 induction u with
 | nil =>
  intro k n b F G H I M h;simp only[nGo,Aj,AZ] at h;have:10 ^ k<=10 ^ 12:=Nat.pow_le_pow_right (by omega) (by simpa using H);omega
 | cons m r ih =>
  intro k n b F G H I M h;simp only[Aa] at H;have U:10 ^ (k+1)<=10 ^ 12:=Nat.pow_le_pow_right (by omega) (by omega);have V:10 ^ (k+1)=10 ^ k*10:=Nat.pow_succ ..
  simp only[nGo] at h;split at h
  .exact ih (k+1) n b F G (by omega) I (by omega) h
  .split at h
   .cases h
   .have O:=dg_in m;have J:W (10*n)=10*n:=aM (by omega) (by omega);have L:W (W (10*n)+dg m)=10*n+dg m:=by rw[J];exact aM (by omega) (by omega)
    rw[L] at h;exact ih (k+1) _ _ F G (by omega) (by omega) (by omega) h
theorem aLt (u:List Int) (x:Int) (G:u.length+1<=12):-1000000000000<=(uW u x).1∧(uW u x).1<=1000000000000:=by
 unfold uW;split
 .split
  .simp
  .rename_i n b F;have:=aMW (u++[nY x]) 0 0 false n b (by simp;omega) (by omega) (by simp) F;split
   .simp
   .dsimp only;split
    .have e:W (0-n)=0-n:=aM (by omega) (by omega);rw[e];omega
    .omega
 .simp
set_option maxRecDepth 20000 in
theorem bits2:∀a,a<64->∀b,b<64->(if nB ((64*a+b:Nat):Int)=true then nY ((64*a+b:Nat):Int)=((64*a+b:Nat):Int)-2∧2<=64*a+b else nY ((64*a+b:Nat):Int)=((64*a+b:Nat):Int)):=by
 decide +kernel
theorem bit2 (x:Int) (u:0<=x) (F:x<=4095):if nB x=true then nY x=x-2∧2<=x else nY x=x:=by
 obtain⟨n,rfl⟩:∃n:Nat,x=n:=⟨x.toNat,by omega⟩;have:=bits2 (n/64) (by omega) (n%64) (by omega);rw[show 64*(n/64)+n%64=n by omega] at this;split at this<;>split<;>first|omega|(rename_i a b;exact absurd a b)|(rename_i a b;exact absurd b a)
theorem aIx (x:Int):Fz F.gD [.v (.int .i64 x)] (.v (.bool (x != 0))):=by
 refine fn0 Cd.i_numberIn_1_k λX=>?_
 repeat' first|simp -dsimp only[go_sem]|apply Br.mk<;>intro h<;>try simp -dsimp only[h]|refine aC ?_|fail
 all_goals(simp_all)
theorem kJ (l:List Int) (u:l.length<=1048576):Fz F.jR [.sl 1 (E cI l),.fn F.gD []] (.v (.int .i64 (sP (λz=>z != 0) l))):=
 aGL Tryz.mixed Cd.ixf_int64_k.o Cd.ixf_int64_k.n Cd.ixf_int64_k.r rfl (λz=>z != 0) F.gD [] rfl (λx G=>aIx x) u
theorem conN (l:List Int) (u:l.length<=1048576):Fz F.lF [.sl 1 (E cI l),.fn F.gD []] (.v (.bool (l.any (λz=>z != 0)))):=
 aF5 Tryz.mixed (g:=F.jR) Cd.ctf_int64_k.o Cd.ctf_int64_k.n Cd.ctf_int64_k.r rfl (λz=>z != 0) F.gD [] rfl (kJ l u)
theorem aJO (c:List Int) (fr to:Int) (u:List Int) (x:Int) (h0:0<=fr) (h1:fr<=to) (h2:to<=c.length) (hp:(c.take to.toNat).drop fr.toNat=u++[x]) (hu:u.length+1<=12):Fz F.mH [.agg (cC c),.agg [.v (.int .i64 fr),.v (.int .i64 to)]] (.tup [.v (.int .i64 (uW u x).1),.v (.bool (uW u x).2)]):=by
 obtain⟨l,hl⟩:∃l:List Int,u++[x]=l:=⟨_,rfl⟩;obtain⟨M,hM⟩:∃M:List Int,u++[nY x]=M:=⟨_,rfl⟩;have hll:l.length=u.length+1:=by rw[←hl];simp
 have hML:M.length=u.length+1:=by rw[←hM];simp
 have hE:List.drop fr.toNat (List.take to.toNat (E cI c))=E cI l:=by rw[←aMt,hp,hl]
 have hw1:IntKind.i64.wrap ((l.length:Int)-1)=(u.length:Int):=by rw[aM (by omega) (by omega)];omega
 have hx:(E cI l).getD u.length []=[.v (.int .i64 x)]:=by rw[←hl];simp[E,cI,List.getD]
 have hst:(E cI l).set u.length [.v (.int .i64 (gG .andNot .i64 x 2))]=E cI M:=by rw[←hl,←hM];simp[E,cI,nY]
 have hB:(gG .and .i64 x 2 != 0)=nB x:=rfl;have hXM:(E cI M).getD u.length []=[.v (.int .i64 (nY x))]:=by rw[←hM];simp[E,cI,List.getD]
 refine fn0 Cd.i_numberIn_k λX=>?_;simp -dsimp only[go_sem,cC];refine⟨⟨by omega,by omega,by simpa using h2⟩,?_⟩;simp -dsimp only[go_sem,hE];refine aA.own (aBD l (by omega)) rfl ?_;by_cases ha:l.any (λz=>z != 0)=true
 .simp -dsimp only[go_sem,hw1,hx,hst,ha,hB]
  repeat' first|simp -dsimp only[go_sem,hw1,hx,hst,ha,hB]|apply Br.mk<;>intro h<;>try simp -dsimp only[h]|refine aA.c (by first|exact aBD l (by omega)|exact conN l (by omega)|exact aH3) ?_|refine aC ?_|fail
  refine aO.at dM (X:={zz:Nat×(Int×Bool) // zz.1<=l.length∧nGo (M.drop zz.1) zz.2.1 zz.2.2=nGo M 0 false}) (λzz=>[(44,.v (.int .i64 zz.1.1)),(9,.v (.int .i64 zz.1.2.1)),(10,.v (.bool zz.1.2.2))]) (λzz=>[]) (λzz=>l.length-zz.1.1) ⟨(0,(0,false)),by omega,by simp⟩ ?_ ?_
  .exact le0
  .rintro⟨⟨i,a,b⟩,hi,hg⟩;dsimp only at hi hg;simp -dsimp only[go_sem,hw1,hx,hst,ha,hB];refine Br.mk (λhc=>?_) λhc=>?_
   .have hlt:i<l.length:=Dq;have hw:=aI hlt (by omega);have hm:(E cI M).getD i []=[.v (.int .i64 M[i])]:=dJ (by omega);have hiM:i<M.length:=by omega
    rw[Bn hiM,nGo] at hg;by_cases hz:M[i]=0
    .have e1:(M[i]==0)=true:=Bj.2 hz;cases b with
     | false =>
      rw[AY ⟨hz,rfl⟩] at hg
      repeat' first|simp -dsimp only[go_sem,hm,hw,e1]|apply Br.mk<;>intro h<;>try simp -dsimp only[h]|refine aA.c (by first|exact aCC _) ?_|refine aC ?_|fail
      all_goals((refine λ_=>⟨?_,λh=>absurd rfl h⟩);exact nx (i+1,(a,false)) hg)
     | true =>
      rw[AJ (by simp)] at hg;have hd:dg M[i]=-1:=by rw[hz];rfl
      rw[AY (by omega)] at hg;have hN:uW u x=(0,false):=by unfold uW;rw[hl,AY ha,hM,←hg]
      have e2:decide (dg M[i]<0)=true:=AR (by omega)
      repeat' first|simp -dsimp only[go_sem,hm,hw,e1,e2]|apply Br.mk<;>intro h<;>try simp -dsimp only[h]|refine aA.c (by first|exact aCC _) ?_|refine aC ?_|fail
      all_goals simp[hN]
    .have e1:(M[i]==0)=false:=Ap.2 hz;rw[AJ (by simp[hz])] at hg;by_cases hd:dg M[i]<0
     .rw[AY hd] at hg;have hN:uW u x=(0,false):=by unfold uW;rw[hl,AY ha,hM,←hg]
      have e2:decide (dg M[i]<0)=true:=AR hd
      repeat' first|simp -dsimp only[go_sem,hm,hw,e1,e2]|apply Br.mk<;>intro h<;>try simp -dsimp only[h]|refine aA.c (by first|exact aCC _) ?_|refine aC ?_|fail
      all_goals simp[hN]
     .rw[AJ hd] at hg;have e2:decide (dg M[i]<0)=false:=AX hd
      repeat' first|simp -dsimp only[go_sem,hm,hw,e1,e2]|apply Br.mk<;>intro h<;>try simp -dsimp only[h]|refine aA.c (by first|exact aCC _) ?_|refine aC ?_|fail
      all_goals(exact nx (i+1,(W (W (10*a)+dg M[i]),true)) hg)
   .have hge:i=l.length:=by
     have:¬i<l.length:=Dq;omega
    subst hge;simp -dsimp only[go_sem,hw1,hx,hst,ha,hB];rw[List.drop_eq_nil_of_le (by omega),nGo] at hg;have hN:uW u x=(if !b||(nY x==0||(nB x&&a==0)) then(0,false) else(if nB x then W (0-a) else a,true)):=by unfold uW;rw[hl,AY ha,hM,←hg]
    cases hb:nB x<;>cases hy:(nY x==0)<;>cases h0:(a==0)<;>cases b
    all_goals
     simp -dsimp only[go_sem,hXM,hb,hy,h0,hw1,hx,hst,ha,hB]
    all_goals simp[hN,hb,hy,h0]
    all_goals omega
 .have ha:=by simpa using ha
  have hN:uW u x=(0,true):=by unfold uW;rw[hl,AJ (by simpa using ha)]
  have ha:l.any (λz=>z != 0)=false:=by simpa using ha
  repeat' first|simp -dsimp only[go_sem,hw1,hx,hst,ha,hB]|apply Br.mk<;>intro h<;>try simp -dsimp only[h]|refine aA.c (by first|exact aBD l (by omega)|exact conN l (by omega)|exact aH3) ?_|refine aC ?_|fail
  all_goals simp[hN]
end
section
variable [Vs.Envs]
attribute [local irreducible] Vs.Fn
def aGV (a:Int) (m:Bool):Int×Bool:=if m then(W (0-a),a != 0) else(a,true)
theorem aIy (u:List Int) (x:Int) (Y:0<=x) (Z:x<=4095) :
  uW u x=match nGo u 0 false with
   |none=>(0,false)
   |some (a,b)=>if nY x=0∧b=false∧nB x=false then(a,true) else if dg (nY x)<0 then(0,false) else aGV (W (W (10*a)+dg (nY x))) (nB x):=by
 have M:=bit2 x Y Z;have U:dg 0=-1:=rfl;unfold uW aGV;rw[aLu,List.any_append];rcases nGo_f u 0 with⟨O,J⟩|⟨O,J|⟨k,J⟩⟩
 .rw[J,O];simp only[Co,nGo,List.any_cons,List.any_nil,Bool.or_false,De];have G:W 0=0:=by decide
  cases V:nB x<;>simp only[V,A8,Bg,Bt] at M
  .rw[M];by_cases H:x=0
   .simp[H]
   .by_cases F:dg x<0
    .simp[H,F]
    .simp[H,F]
  .obtain⟨M,h2⟩:=M;have H:x≠0:=by omega
   by_cases I:nY x=0
   .simp[I,H,U]
   .by_cases F:dg (nY x)<0
    .simp[H,I,F]
    .by_cases L:W (dg (nY x))=0
     .simp[H,I,F,L,G]
     .simp[H,I,F,L,G]
 .rw[J,O];simp
 .rw[J,O];have G:W 0=0:=by decide
  simp only[Co,nGo,Bool.true_or,Bt,Bool.true_eq_false,and_false,false_and,Bg];by_cases F:dg (nY x)<0
  .simp[F]
  .have I:nY x≠0:=by intro e;rw[e] at F;exact F (by decide)
   cases V:nB x
   .simp[I,F]
   .by_cases L:W (W (10*k)+dg (nY x))=0
    .simp[I,F,L,G]
    .simp[I,F,L]
theorem aIF (u:List Int) (x:Int) (h0:0<=x) (h1:x<=4095) (hu:u.length+1<=12):Fz F.kE [.sl 1 (E cI (u++[x]))] (.tup [.v (.int .i64 (uW u x).1),.v (.bool (uW u x).2)]):=by
 have hF:=aIy u x h0 h1;have hb2:=bit2 x h0 h1;obtain⟨l,hl⟩:∃l:List Int,u++[x]=l:=⟨_,rfl⟩;have hll:l.length=u.length+1:=by rw[←hl];simp
 have hw1:IntKind.i64.wrap ((l.length:Int)-1)=(u.length:Int):=by rw[aM (by omega) (by omega)];omega
 rw[hl];refine fn0 Cd.s_l03Number_k λX=>?_;simp -dsimp only[go_sem];refine aO.at dM (X:={zz:Nat×(Int×Bool×Bool) // zz.1<=l.length∧((zz.1<=u.length∧zz.2.2.2=false∧nGo (u.drop zz.1) zz.2.1 zz.2.2.1=nGo u 0 false)∨(zz.1=u.length+1∧aGV zz.2.1 zz.2.2.2=uW u x))}) (λzz=>[(7,.v (.int .i64 zz.1.1)),(4,.v (.int .i64 zz.1.2.1)),(5,.v (.bool zz.1.2.2.1)),(6,.v (.bool zz.1.2.2.2))]) (λzz=>[]) (λzz=>l.length-zz.1.1) ⟨(0,(0,false,false)),by omega,.inl ⟨by omega,rfl,by simp⟩⟩ ?_ ?_
 .exact le0
 .rintro⟨⟨i,a,b,m⟩,hi,hg⟩;dsimp only at hi hg;simp -dsimp only[go_sem,hw1];refine Br.mk (λhc=>?_) λhc=>?_
  .have hlt:i<l.length:=Dq;have hw:=aI hlt (by omega);have hm:(E cI l).getD i []=[.v (.int .i64 l[i])]:=dJ hlt;have hiu:i<=u.length:=by omega
   rcases hg with⟨_,hmi,hg⟩|⟨hi2,_⟩
   case inr=>omega
   subst hmi;by_cases hi2:i<u.length
   .have hq:((i:Int)==(u.length:Int))=false:=Ap.2 (by omega);have hm:(E cI l).getD i []=[.v (.int .i64 u[i])]:=by rw[hm];subst hl;simp[List.getElem_append,hi2]
    rw[Bn hi2,nGo] at hg;by_cases hz:u[i]=0
    .have e1:(u[i]==0)=true:=Bj.2 hz;cases b with
     | false =>
      rw[AY ⟨hz,rfl⟩] at hg
      repeat' first|simp -dsimp only[go_sem,hm,hw,hq,e1,hw1]|apply Br.mk<;>intro h<;>try simp -dsimp only[h]|refine aA.c (by first|exact lS _) ?_|refine aC ?_|fail
      all_goals((refine⟨?_,λh=>absurd rfl h⟩);exact nx (i+1,(a,false,false)) (.inl ⟨by first|omega|(simp;omega),rfl,hg⟩))
     | true =>
      rw[AJ (by simp)] at hg;have hd:dg u[i]=-1:=by rw[hz];rfl
      rw[AY (by omega)] at hg;rw[←hg] at hF;have e2:decide (dg u[i]<0)=true:=AR (by omega)
      repeat' first|simp -dsimp only[go_sem,hm,hw,hq,e1,e2,hw1]|apply Br.mk<;>intro h<;>try simp -dsimp only[h]|refine aA.c (by first|exact lS _) ?_|refine aC ?_|fail
      all_goals simp[hF]
    .have e1:(u[i]==0)=false:=Ap.2 hz;rw[AJ (by simp[hz])] at hg;by_cases hd:dg u[i]<0
     .rw[AY hd] at hg;rw[←hg] at hF;have e2:decide (dg u[i]<0)=true:=AR hd
      repeat' first|simp -dsimp only[go_sem,hm,hw,hq,e1,e2,hw1]|apply Br.mk<;>intro h<;>try simp -dsimp only[h]|refine aA.c (by first|exact lS _) ?_|refine aC ?_|fail
      all_goals simp[hF]
     .rw[AJ hd] at hg;have e2:decide (dg u[i]<0)=false:=AX hd
      repeat' first|simp -dsimp only[go_sem,hm,hw,hq,e1,e2,hw1]|apply Br.mk<;>intro h<;>try simp -dsimp only[h]|refine aA.c (by first|exact lS _) ?_|refine aC ?_|fail
      all_goals(exact nx (i+1,(W (W (10*a)+dg u[i]),true,false)) (.inl ⟨by first|omega|(simp;omega),rfl,hg⟩))
   .have hiu:i=u.length:=by omega
    subst hiu;have hq:((u.length:Int)==(u.length:Int))=true:=Bj.2 rfl;have hm:(E cI l).getD u.length []=[.v (.int .i64 x)]:=by rw[hm];subst hl;simp
    rw[Cs,nGo] at hg;rw[←hg] at hF;dsimp only at hF;have hB:(gG BinOp.and IntKind.i64 x 2 != 0)=nB x:=rfl;cases hn:nB x<;>simp only[hn,A8,Bg,Bt] at hb2
    .rw[hb2,hn] at hF;by_cases hz:x=0
     .have e1:(x==0)=true:=Bj.2 hz;cases b with
      | false =>
       rw[AY ⟨hz,rfl,rfl⟩] at hF
       repeat' first|simp -dsimp only[go_sem,hm,hw,hq,e1,hB,hn,hw1]|apply Br.mk<;>intro h<;>try simp -dsimp only[h]|refine aA.c (by first|exact lS _) ?_|refine aC ?_|fail
       all_goals((refine⟨?_,λh=>absurd rfl h⟩);exact nx (u.length+1,(a,false,false)) (.inr ⟨rfl,by first|(rw[hF];done)|(rw[hF];simp[aGV])⟩))
      | true =>
       have hd:dg x=-1:=by rw[hz];rfl
       rw[AJ (by simp),AY (by omega)] at hF;have e2:decide (dg x<0)=true:=AR (by omega)
       repeat' first|simp -dsimp only[go_sem,hm,hw,hq,e1,e2,hB,hn,hw1]|apply Br.mk<;>intro h<;>try simp -dsimp only[h]|refine aA.c (by first|exact lS _) ?_|refine aC ?_|fail
       all_goals simp[hF]
     .have e1:(x==0)=false:=Ap.2 hz;rw[AJ (by simp[hz])] at hF;by_cases hd:dg x<0
      .rw[AY hd] at hF;have e2:decide (dg x<0)=true:=AR hd
       repeat' first|simp -dsimp only[go_sem,hm,hw,hq,e1,e2,hB,hn,hw1]|apply Br.mk<;>intro h<;>try simp -dsimp only[h]|refine aA.c (by first|exact lS _) ?_|refine aC ?_|fail
       all_goals simp[hF]
      .rw[AJ hd] at hF;have e2:decide (dg x<0)=false:=AX hd
       repeat' first|simp -dsimp only[go_sem,hm,hw,hq,e1,e2,hB,hn,hw1]|apply Br.mk<;>intro h<;>try simp -dsimp only[h]|refine aA.c (by first|exact lS _) ?_|refine aC ?_|fail
       all_goals(exact nx (u.length+1,(W (W (10*a)+dg x),true,false)) (.inr ⟨rfl,by first|(rw[hF];done)|(rw[hF];simp[aGV])⟩))
    .obtain⟨hb2,hx2⟩:=hb2;rw[hb2,hn] at hF;rw[AJ (by simp)] at hF;have hw2:IntKind.i64.wrap (x-2)=x-2:=aM (by omega) (by omega);by_cases hd:dg (x-2)<0
     .rw[AY hd] at hF;have e2:decide (dg (x-2)<0)=true:=AR hd;cases e1:(x-2==0)<;>cases b
      all_goals
       repeat' first|simp -dsimp only[go_sem,hm,hw,hq,hw2,e1,e2,hB,hn,hw1]|apply Br.mk<;>intro h<;>try simp -dsimp only[h]|refine aA.c (by first|exact lS _) ?_|refine aC ?_|fail
       all_goals simp[hF]
     .rw[AJ hd] at hF;have e2:decide (dg (x-2)<0)=false:=AX hd;cases e1:(x-2==0)<;>cases b
      all_goals
       repeat' first|simp -dsimp only[go_sem,hm,hw,hq,hw2,e1,e2,hB,hn,hw1]|apply Br.mk<;>intro h<;>try simp -dsimp only[h]|refine aA.c (by first|exact lS _) ?_|refine aC ?_|fail
       all_goals(exact nx (u.length+1,(W (W (10*a)+dg (x-2)),true,true)) (.inr ⟨rfl,by first|(rw[hF];done)|(rw[hF];simp[aGV])⟩))
  .have hge:i=l.length:=by
    have:¬i<l.length:=Dq;omega
   subst hge;simp -dsimp only[go_sem,hw1];rcases hg with⟨h3,_⟩|⟨_,hg⟩
   .omega
   cases m
   all_goals
    simp -dsimp only[go_sem,hw1]
   all_goals simp[←hg,aGV]
end
end Go.Proofs.YtmiiohemehacjaaGreatDoor
