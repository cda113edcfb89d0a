/- The reference's number of a field. -/
import Derived.Test.YtfoddghhlagenaaGreatDoorTwPc
set_option linter.all false
set_option maxHeartbeats 8000000
namespace Go.Proofs.YtfoddghhlagenaaGreatDoor
open Go.Vs
section
variable [Vs.Envs]
attribute [local irreducible] Vs.Fn
theorem aB.own {P:Program}{f:FuncId}{ys:List AV}{d:Option Nat}{σ:St}{K:St->Prop}{t:Tag K}{r:AV}{hout:List (Option Blk)} (hfn:Vs.Fn P f [] ys r hout) (hfr:iC (d.getD 0) 0 hout.length σ=true)
  (hK:K ⟨put d (rn (phi [] (d.getD 0) hout.length) r) σ.s,sH σ.h [] (d.getD 0) hout true []⟩):aB P f [] ys [] d σ [] K t:=
 ⟨r,hout,true,hfn,λh=>(by cases h),hfr,hK⟩
def nGo:List Int->Int->Bool->Option (Int×Bool)
 | [],n,b=>some (n,b)
 |m::r,n,b=>if m=0∧b=false then nGo r n b else if dg m<0 then none else nGo r (W (W (10*n)+dg m)) true
def nB (x:Int):Bool:=bJ .and .i64 x 2 != 0
def nY (x:Int):Int:=bJ .andNot .i64 x 2
def kY (u:List Int) (x:Int):Int×Bool:=
 if (u++[x]).any (λz=>z != 0) then
  match nGo (u++[nY x]) 0 false with
  |none=>(0,false)
  |some (n,b)=>if !b||(nY x==0||(nB x&&n==0)) then(0,false) else(if nB x then W (0-n) else n,true)
 else(0,true)
theorem aB9 (u v:List Int):∀(n:Int) (b:Bool),nGo (u++v) n b=(nGo u n b).bind λp=>nGo v p.1 p.2:=by
 induction u with
 |nil=>intro n b;rfl
 | cons m r ih =>
  intro n b
  simp only[List.cons_append,nGo]
  split
  .exact ih _ _
  .split
   .rfl
   .exact ih _ _
theorem nGo_t (u:List Int):∀(n:Int),nGo u n true=none∨∃k,nGo u n true=some (k,true):=by
 induction u with
 |nil=>intro n;exact .inr ⟨n,rfl⟩
 | cons m r ih =>
  intro n
  simp only[nGo,Bool.true_eq_false,and_false,if_false]
  split
  .exact .inl rfl
  .exact ih _
theorem nGo_f (u:List Int):∀(n:Int),(u.any (λz=>z != 0)=false∧nGo u n false=some (n,false))∨(u.any (λz=>z != 0)=true∧(nGo u n false=none∨∃k,nGo u n false=some (k,true))):=by
 induction u with
 |nil=>intro n;exact .inl ⟨rfl,rfl⟩
 | cons m r ih =>
  intro n
  simp only[nGo,List.any_cons,and_true]
  by_cases hm:m=0
  .subst hm
   simpa using ih n
  .rw[if_neg hm]
   refine .inr ⟨by simp[hm],?_⟩
   split
   .exact .inl rfl
   .exact nGo_t r _
theorem aGd (u:List Int):∀(k:Nat) (n:Int) (b:Bool) (n':Int) (b':Bool),k+u.length<=12->0<=n->n<(10 ^ k:Nat)->nGo u n b=some (n',b')->0<=n'∧n'<(10 ^ 12:Nat):=by
 induction u with
 | nil =>
  intro k n b n' b' hk h0 h1 h
  simp only[nGo,Option.some.injEq,Prod.mk.injEq] at h
  have:10 ^ k<=10 ^ 12:=Nat.pow_le_pow_right (by omega) (by simpa using hk)
  omega
 | cons m r ih =>
  intro k n b n' b' hk h0 h1 h
  simp only[List.length_cons] at hk
  have hp:10 ^ (k+1)<=10 ^ 12:=Nat.pow_le_pow_right (by omega) (by omega)
  have hs:10 ^ (k+1)=10 ^ k*10:=Nat.pow_succ ..
  simp only[nGo] at h
  split at h
  .exact ih (k+1) n b n' b' (by omega) h0 (by omega) h
  .split at h
   .cases h
   .have hd:=dg_in m
    have e1:W (10*n)=10*n:=aG (by omega) (by omega)
    have e2:W (W (10*n)+dg m)=10*n+dg m:=by rw[e1];exact aG (by omega) (by omega)
    rw[e2] at h
    exact ih (k+1) _ _ n' b' (by omega) (by omega) (by omega) h
theorem aE7 (u:List Int) (x:Int) (hu:u.length+1<=12):-1000000000000<=(kY u x).1∧(kY u x).1<=1000000000000:=by
 unfold kY
 split
 .split
  .simp
  .rename_i n b hn
   have:=aGd (u++[nY x]) 0 0 false n b (by simp;omega) (by omega) (by simp) hn
   split
   .simp
   .dsimp only
    split
    .have e:W (0-n)=0-n:=aG (by omega) (by omega)
     rw[e];omega
    .omega
 .simp
set_option maxRecDepth 20000 in
theorem bits2:∀a,a<64->∀b,b<64->(if nB ((64*a+b:Nat):Int)=true then nY ((64*a+b:Nat):Int)=((64*a+b:Nat):Int)-2∧2<=64*a+b else nY ((64*a+b:Nat):Int)=((64*a+b:Nat):Int)):=by
 decide +kernel
theorem bit2 (x:Int) (h0:0<=x) (h1:x<=4095):if nB x=true then nY x=x-2∧2<=x else nY x=x:=by
 obtain⟨n,rfl⟩:∃n:Nat,x=n:=⟨x.toNat,by omega⟩
 have:=bits2 (n/64) (by omega) (n%64) (by omega)
 rw[show 64*(n/64)+n%64=n by omega] at this
 split at this<;>split<;>first|omega|(rename_i a b;exact absurd a b)|(rename_i a b;exact absurd b a)
theorem aCK (x:Int):Fz F.dI [.v (.int .i64 x)] (.v (.bool (x != 0))):=by
 refine fn0 Cd.i_numberIn_1_k λX=>?_
 repeat' first|simp -dsimp only[go_sem]|apply Br.mk<;>intro h<;>try simp -dsimp only[h]|refine aC ?_|refine aC9 ?_|fail
 all_goals(simp_all)
theorem gB (l:List Int) (hl:l.length<=1048576):Fz F.fF [.sl 1 (E cI l),.fn F.dI []] (.v (.int .i64 (uV (λz=>z != 0) l))):=
 aBs Tryz.mixed Cd.ixf_int64_k.o Cd.ixf_int64_k.n Cd.ixf_int64_k.r rfl (λz=>z != 0) F.dI [] rfl (λx hx=>aCK x) hl
theorem conN (l:List Int) (hl:l.length<=1048576):Fz F.gV [.sl 1 (E cI l),.fn F.dI []] (.v (.bool (l.any (λz=>z != 0)))):=
 aCl Tryz.mixed (g:=F.fF) Cd.ctf_int64_k.o Cd.ctf_int64_k.n Cd.ctf_int64_k.r rfl (λz=>z != 0) F.dI [] rfl (gB l hl)
theorem aDN (c:List Int) (fr to:Int) (u:List Int) (x:Int) (h0:0<=fr) (h1:fr<=to) (h2:to<=c.length) (hp:(c.take to.toNat).drop fr.toNat=u++[x]) (hu:u.length+1<=12):Fz F.eU [.agg (cC c),.agg [.v (.int .i64 fr),.v (.int .i64 to)]] (.tup [.v (.int .i64 (kY u x).1),.v (.bool (kY u x).2)]):=by
 obtain⟨l,hl⟩:∃l:List Int,u++[x]=l:=⟨_,rfl⟩
 obtain⟨M,hM⟩:∃M:List Int,u++[nY x]=M:=⟨_,rfl⟩
 have hll:l.length=u.length+1:=by rw[←hl];simp
 have hML:M.length=u.length+1:=by rw[←hM];simp
 have hE:List.drop fr.toNat (List.take to.toNat (E cI c))=E cI l:=by rw[←aFO,hp,hl]
 have hw1:IntKind.i64.wrap ((l.length:Int)-1)=(u.length:Int):=by rw[aG (by omega) (by omega)];omega
 have hx:(E cI l).getD u.length []=[.v (.int .i64 x)]:=by rw[←hl];simp[E,cI,List.getD]
 have hst:(E cI l).set u.length [.v (.int .i64 (bJ .andNot .i64 x 2))]=E cI M:=by rw[←hl,←hM];simp[E,cI,nY]
 have hB:(bJ .and .i64 x 2 != 0)=nB x:=rfl
 have hXM:(E cI M).getD u.length []=[.v (.int .i64 (nY x))]:=by rw[←hM];simp[E,cI,List.getD]
 refine fn0 Cd.i_numberIn_k λX=>?_
 simp -dsimp only[go_sem,cC]
 refine⟨⟨by omega,by omega,by simpa using h2⟩,?_⟩
 simp -dsimp only[go_sem,hE]
 refine aB.own (rE l (by omega)) rfl ?_
 by_cases ha:l.any (λz=>z != 0)=true
 .simp -dsimp only[go_sem,hw1,hx,hst,ha,hB]
  repeat' first|simp -dsimp only[go_sem,hw1,hx,hst,ha,hB]|apply Br.mk<;>intro h<;>try simp -dsimp only[h]|refine aB.c (by first|exact rE l (by omega)|exact conN l (by omega)|exact aAo) ?_|refine aC ?_|refine aC9 ?_|fail
  refine bA.at dM (X:={zz:Nat×(Int×Bool) // zz.1<=l.length∧nGo (M.drop zz.1) zz.2.1 zz.2.2=nGo M 0 false}) (λzz=>[(44,.v (.int .i64 zz.1.1)),(9,.v (.int .i64 zz.1.2.1)),(10,.v (.bool zz.1.2.2))]) (λzz=>[]) (λzz=>l.length-zz.1.1) ⟨(0,(0,false)),by omega,by simp⟩ ?_ ?_
  .exact le0
  .rintro⟨⟨i,a,b⟩,hi,hg⟩
   dsimp only at hi hg
   simp -dsimp only[go_sem,hw1,hx,hst,ha,hB]
   refine Br.mk (λhc=>?_) λhc=>?_
   .have hlt:i<l.length:=Dq
    have hw:=aQ hlt (by omega)
    have hm:(E cI M).getD i []=[.v (.int .i64 M[i])]:=jI (by omega)
    have hiM:i<M.length:=by omega
    rw[List.drop_eq_getElem_cons hiM,nGo] at hg
    by_cases hz:M[i]=0
    .have e1:(M[i]==0)=true:=beq_iff_eq.2 hz
     cases b with
     | false =>
      rw[if_pos ⟨hz,rfl⟩] at hg
      repeat' first|simp -dsimp only[go_sem,hm,hw,e1]|apply Br.mk<;>intro h<;>try simp -dsimp only[h]|refine aB.c (by first|exact wP _) ?_|refine aC ?_|refine aC9 ?_|fail
      all_goals((refine λ_=>⟨?_,λh=>absurd rfl h⟩);exact nx (i+1,(a,false)) hg)
     | true =>
      rw[if_neg (by simp)] at hg
      have hd:dg M[i]=-1:=by rw[hz];rfl
      rw[if_pos (by omega)] at hg
      have hN:kY u x=(0,false):=by unfold kY;rw[hl,if_pos ha,hM,←hg]
      have e2:decide (dg M[i]<0)=true:=decide_eq_true (by omega)
      repeat' first|simp -dsimp only[go_sem,hm,hw,e1,e2]|apply Br.mk<;>intro h<;>try simp -dsimp only[h]|refine aB.c (by first|exact wP _) ?_|refine aC ?_|refine aC9 ?_|fail
      all_goals simp[hN]
    .have e1:(M[i]==0)=false:=beq_eq_false_iff_ne.2 hz
     rw[if_neg (by simp[hz])] at hg
     by_cases hd:dg M[i]<0
     .rw[if_pos hd] at hg
      have hN:kY u x=(0,false):=by unfold kY;rw[hl,if_pos ha,hM,←hg]
      have e2:decide (dg M[i]<0)=true:=decide_eq_true hd
      repeat' first|simp -dsimp only[go_sem,hm,hw,e1,e2]|apply Br.mk<;>intro h<;>try simp -dsimp only[h]|refine aB.c (by first|exact wP _) ?_|refine aC ?_|refine aC9 ?_|fail
      all_goals simp[hN]
     .rw[if_neg hd] at hg
      have e2:decide (dg M[i]<0)=false:=decide_eq_false hd
      repeat' first|simp -dsimp only[go_sem,hm,hw,e1,e2]|apply Br.mk<;>intro h<;>try simp -dsimp only[h]|refine aB.c (by first|exact wP _) ?_|refine aC ?_|refine aC9 ?_|fail
      all_goals(exact nx (i+1,(W (W (10*a)+dg M[i]),true)) hg)
   .have hge:i=l.length:=by
     have:¬i<l.length:=Dq
     omega
    subst hge
    simp -dsimp only[go_sem,hw1,hx,hst,ha,hB]
    rw[List.drop_eq_nil_of_le (by omega),nGo] at hg
    have hN:kY u x=(if !b||(nY x==0||(nB x&&a==0)) then(0,false) else(if nB x then W (0-a) else a,true)):=by unfold kY;rw[hl,if_pos ha,hM,←hg]
    cases hb:nB x<;>cases hy:(nY x==0)<;>cases h0:(a==0)<;>cases b
    all_goals
     simp -dsimp only[go_sem,hXM,hb,hy,h0,hw1,hx,hst,ha,hB]
    all_goals simp[hN,hb,hy,h0]
    all_goals omega
 .have ha:=by simpa using ha
  have hN:kY u x=(0,true):=by unfold kY;rw[hl,if_neg (by simpa using ha)]
  have ha:l.any (λz=>z != 0)=false:=by simpa using ha
  repeat' first|simp -dsimp only[go_sem,hw1,hx,hst,ha,hB]|apply Br.mk<;>intro h<;>try simp -dsimp only[h]|refine aB.c (by first|exact rE l (by omega)|exact conN l (by omega)|exact aAo) ?_|refine aC ?_|refine aC9 ?_|fail
  all_goals simp[hN]
end
section
variable [Vs.Envs]
attribute [local irreducible] Vs.Fn
def aA0 (a:Int) (m:Bool):Int×Bool:=if m then(W (0-a),a != 0) else(a,true)
theorem uS (u:List Int) (x:Int) (h0:0<=x) (h1:x<=4095) :
  kY u x=match nGo u 0 false with
   |none=>(0,false)
   |some (a,b)=>if nY x=0∧b=false∧nB x=false then(a,true) else if dg (nY x)<0 then(0,false) else aA0 (W (W (10*a)+dg (nY x))) (nB x):=by
 have hb:=bit2 x h0 h1
 have hd0:dg 0=-1:=rfl
 unfold kY aA0
 rw[aB9,List.any_append]
 rcases nGo_f u 0 with⟨hu,hg⟩|⟨hu,hg|⟨k,hg⟩⟩
 .rw[hg,hu]
  simp only[Option.bind_some,nGo,List.any_cons,List.any_nil,Bool.or_false,Bool.false_or]
  have hw0:W 0=0:=by decide
  cases hn:nB x<;>simp only[hn,Bool.false_eq_true,if_false,if_true] at hb
  .rw[hb]
   by_cases hx:x=0
   .simp[hx]
   .by_cases hd:dg x<0
    .simp[hx,hd]
    .simp[hx,hd]
  .obtain⟨hb,h2⟩:=hb
   have hx:x≠0:=by omega
   by_cases hy:nY x=0
   .simp[hy,hx,hd0]
   .by_cases hd:dg (nY x)<0
    .simp[hx,hy,hd]
    .by_cases hz:W (dg (nY x))=0
     .simp[hx,hy,hd,hz,hw0]
     .simp[hx,hy,hd,hz,hw0]
 .rw[hg,hu];simp
 .rw[hg,hu]
  have hw0:W 0=0:=by decide
  simp only[Option.bind_some,nGo,Bool.true_or,if_true,Bool.true_eq_false,and_false,false_and,if_false]
  by_cases hd:dg (nY x)<0
  .simp[hd]
  .have hy:nY x≠0:=by intro e;rw[e] at hd;exact hd (by decide)
   cases hn:nB x
   .simp[hy,hd]
   .by_cases hz:W (W (10*k)+dg (nY x))=0
    .simp[hy,hd,hz,hw0]
    .simp[hy,hd,hz]
theorem aCR (u:List Int) (x:Int) (h0:0<=x) (h1:x<=4095) (hu:u.length+1<=12):Fz F.dZ [.sl 1 (E cI (u++[x]))] (.tup [.v (.int .i64 (kY u x).1),.v (.bool (kY u x).2)]):=by
 have hF:=uS u x h0 h1
 have hb2:=bit2 x h0 h1
 obtain⟨l,hl⟩:∃l:List Int,u++[x]=l:=⟨_,rfl⟩
 have hll:l.length=u.length+1:=by rw[←hl];simp
 have hw1:IntKind.i64.wrap ((l.length:Int)-1)=(u.length:Int):=by rw[aG (by omega) (by omega)];omega
 rw[hl]
 refine fn0 Cd.s_l03Number_k λX=>?_
 simp -dsimp only[go_sem]
 refine bA.at dM (X:={zz:Nat×(Int×Bool×Bool) // zz.1<=l.length∧((zz.1<=u.length∧zz.2.2.2=false∧nGo (u.drop zz.1) zz.2.1 zz.2.2.1=nGo u 0 false)∨(zz.1=u.length+1∧aA0 zz.2.1 zz.2.2.2=kY u x))}) (λzz=>[(7,.v (.int .i64 zz.1.1)),(4,.v (.int .i64 zz.1.2.1)),(5,.v (.bool zz.1.2.2.1)),(6,.v (.bool zz.1.2.2.2))]) (λzz=>[]) (λzz=>l.length-zz.1.1) ⟨(0,(0,false,false)),by omega,.inl ⟨by omega,rfl,by simp⟩⟩ ?_ ?_
 .exact le0
 .rintro⟨⟨i,a,b,m⟩,hi,hg⟩
  dsimp only at hi hg
  simp -dsimp only[go_sem,hw1]
  refine Br.mk (λhc=>?_) λhc=>?_
  .have hlt:i<l.length:=Dq
   have hw:=aQ hlt (by omega)
   have hm:(E cI l).getD i []=[.v (.int .i64 l[i])]:=jI hlt
   have hiu:i<=u.length:=by omega
   rcases hg with⟨_,hmi,hg⟩|⟨hi2,_⟩
   case inr=>omega
   subst hmi
   by_cases hi2:i<u.length
   .have hq:((i:Int)==(u.length:Int))=false:=beq_eq_false_iff_ne.2 (by omega)
    have hm:(E cI l).getD i []=[.v (.int .i64 u[i])]:=by rw[hm];subst hl;simp[List.getElem_append,hi2]
    rw[List.drop_eq_getElem_cons hi2,nGo] at hg
    by_cases hz:u[i]=0
    .have e1:(u[i]==0)=true:=beq_iff_eq.2 hz
     cases b with
     | false =>
      rw[if_pos ⟨hz,rfl⟩] at hg
      repeat' first|simp -dsimp only[go_sem,hm,hw,hq,e1,hw1]|apply Br.mk<;>intro h<;>try simp -dsimp only[h]|refine aB.c (by first|exact iA _) ?_|refine aC ?_|refine aC9 ?_|fail
      all_goals((refine⟨?_,λh=>absurd rfl h⟩);exact nx (i+1,(a,false,false)) (.inl ⟨by first|omega|(simp;omega),rfl,hg⟩))
     | true =>
      rw[if_neg (by simp)] at hg
      have hd:dg u[i]=-1:=by rw[hz];rfl
      rw[if_pos (by omega)] at hg
      rw[←hg] at hF
      have e2:decide (dg u[i]<0)=true:=decide_eq_true (by omega)
      repeat' first|simp -dsimp only[go_sem,hm,hw,hq,e1,e2,hw1]|apply Br.mk<;>intro h<;>try simp -dsimp only[h]|refine aB.c (by first|exact iA _) ?_|refine aC ?_|refine aC9 ?_|fail
      all_goals simp[hF]
    .have e1:(u[i]==0)=false:=beq_eq_false_iff_ne.2 hz
     rw[if_neg (by simp[hz])] at hg
     by_cases hd:dg u[i]<0
     .rw[if_pos hd] at hg
      rw[←hg] at hF
      have e2:decide (dg u[i]<0)=true:=decide_eq_true hd
      repeat' first|simp -dsimp only[go_sem,hm,hw,hq,e1,e2,hw1]|apply Br.mk<;>intro h<;>try simp -dsimp only[h]|refine aB.c (by first|exact iA _) ?_|refine aC ?_|refine aC9 ?_|fail
      all_goals simp[hF]
     .rw[if_neg hd] at hg
      have e2:decide (dg u[i]<0)=false:=decide_eq_false hd
      repeat' first|simp -dsimp only[go_sem,hm,hw,hq,e1,e2,hw1]|apply Br.mk<;>intro h<;>try simp -dsimp only[h]|refine aB.c (by first|exact iA _) ?_|refine aC ?_|refine aC9 ?_|fail
      all_goals(exact nx (i+1,(W (W (10*a)+dg u[i]),true,false)) (.inl ⟨by first|omega|(simp;omega),rfl,hg⟩))
   .have hiu:i=u.length:=by omega
    subst hiu
    have hq:((u.length:Int)==(u.length:Int))=true:=beq_iff_eq.2 rfl
    have hm:(E cI l).getD u.length []=[.v (.int .i64 x)]:=by rw[hm];subst hl;simp
    rw[List.drop_length,nGo] at hg
    rw[←hg] at hF
    dsimp only at hF
    have hB:(bJ BinOp.and IntKind.i64 x 2 != 0)=nB x:=rfl
    cases hn:nB x<;>simp only[hn,Bool.false_eq_true,if_false,if_true] at hb2
    .rw[hb2,hn] at hF
     by_cases hz:x=0
     .have e1:(x==0)=true:=beq_iff_eq.2 hz
      cases b with
      | false =>
       rw[if_pos ⟨hz,rfl,rfl⟩] at hF
       repeat' first|simp -dsimp only[go_sem,hm,hw,hq,e1,hB,hn,hw1]|apply Br.mk<;>intro h<;>try simp -dsimp only[h]|refine aB.c (by first|exact iA _) ?_|refine aC ?_|refine aC9 ?_|fail
       all_goals((refine⟨?_,λh=>absurd rfl h⟩);exact nx (u.length+1,(a,false,false)) (.inr ⟨rfl,by first|(rw[hF];done)|(rw[hF];simp[aA0])⟩))
      | true =>
       have hd:dg x=-1:=by rw[hz];rfl
       rw[if_neg (by simp),if_pos (by omega)] at hF
       have e2:decide (dg x<0)=true:=decide_eq_true (by omega)
       repeat' first|simp -dsimp only[go_sem,hm,hw,hq,e1,e2,hB,hn,hw1]|apply Br.mk<;>intro h<;>try simp -dsimp only[h]|refine aB.c (by first|exact iA _) ?_|refine aC ?_|refine aC9 ?_|fail
       all_goals simp[hF]
     .have e1:(x==0)=false:=beq_eq_false_iff_ne.2 hz
      rw[if_neg (by simp[hz])] at hF
      by_cases hd:dg x<0
      .rw[if_pos hd] at hF
       have e2:decide (dg x<0)=true:=decide_eq_true hd
       repeat' first|simp -dsimp only[go_sem,hm,hw,hq,e1,e2,hB,hn,hw1]|apply Br.mk<;>intro h<;>try simp -dsimp only[h]|refine aB.c (by first|exact iA _) ?_|refine aC ?_|refine aC9 ?_|fail
       all_goals simp[hF]
      .rw[if_neg hd] at hF
       have e2:decide (dg x<0)=false:=decide_eq_false hd
       repeat' first|simp -dsimp only[go_sem,hm,hw,hq,e1,e2,hB,hn,hw1]|apply Br.mk<;>intro h<;>try simp -dsimp only[h]|refine aB.c (by first|exact iA _) ?_|refine aC ?_|refine aC9 ?_|fail
       all_goals(exact nx (u.length+1,(W (W (10*a)+dg x),true,false)) (.inr ⟨rfl,by first|(rw[hF];done)|(rw[hF];simp[aA0])⟩))
    .obtain⟨hb2,hx2⟩:=hb2
     rw[hb2,hn] at hF
     rw[if_neg (by simp)] at hF
     have hw2:IntKind.i64.wrap (x-2)=x-2:=aG (by omega) (by omega)
     by_cases hd:dg (x-2)<0
     .rw[if_pos hd] at hF
      have e2:decide (dg (x-2)<0)=true:=decide_eq_true hd
      cases e1:(x-2==0)<;>cases b
      all_goals
       repeat' first|simp -dsimp only[go_sem,hm,hw,hq,hw2,e1,e2,hB,hn,hw1]|apply Br.mk<;>intro h<;>try simp -dsimp only[h]|refine aB.c (by first|exact iA _) ?_|refine aC ?_|refine aC9 ?_|fail
       all_goals simp[hF]
     .rw[if_neg hd] at hF
      have e2:decide (dg (x-2)<0)=false:=decide_eq_false hd
      cases e1:(x-2==0)<;>cases b
      all_goals
       repeat' first|simp -dsimp only[go_sem,hm,hw,hq,hw2,e1,e2,hB,hn,hw1]|apply Br.mk<;>intro h<;>try simp -dsimp only[h]|refine aB.c (by first|exact iA _) ?_|refine aC ?_|refine aC9 ?_|fail
       all_goals(exact nx (u.length+1,(W (W (10*a)+dg (x-2)),true,true)) (.inr ⟨rfl,by first|(rw[hF];done)|(rw[hF];simp[aA0])⟩))
  .have hge:i=l.length:=by
    have:¬i<l.length:=Dq
    omega
   subst hge
   simp -dsimp only[go_sem,hw1]
   rcases hg with⟨h3,_⟩|⟨_,hg⟩
   .omega
   cases m
   all_goals
    simp -dsimp only[go_sem,hw1]
   all_goals simp[←hg,aA0]
end
end Go.Proofs.YtfoddghhlagenaaGreatDoor
